/-
  Parse: what 'Same' comes to of equal tokens, what 'Tokens' refuses, what 'works' answers (contracts, by hand).
-/
import Derived.Test.YtolkmjclldjkkaaPf
set_option linter.unusedSimpArgs false
set_option linter.unusedVariables false
namespace Go.Proofs.Ytolkmjclldjkkaa
open Go.RowKit

/-- tokens that lie in memory -/
def ToksAt (w : World) (v : Value) (ts : List (Nat × Nat × Nat)) : Prop :=
  ∃ a c, v = .slice a ts.length c ∧ ∀ i t, ts[i]? = some t → ∃ g, a = some ⟨g, 0, none⟩ ∧ w.cell? ⟨g, i * 3, none⟩ = some (.int .u8 (t.1 : Nat)) ∧ w.cell? ⟨g, i * 3 + 1, none⟩ = some (.int .i64 (t.2.1 : Nat)) ∧ w.cell? ⟨g, i * 3 + 2, none⟩ = some (.int .i64 (t.2.2 : Nat))
theorem tksC_get : ∀ (ts : List (Nat × Nat × Nat)) (i : Nat) (t : Nat × Nat × Nat), ts[i]? = some t →
    (tksC ts)[i * 3]? = some (.int .u8 (t.1 : Nat)) ∧ (tksC ts)[i * 3 + 1]? = some (.int .i64 (t.2.1 : Nat)) ∧ (tksC ts)[i * 3 + 2]? = some (.int .i64 (t.2.2 : Nat))
  | [], i, t, h => by simp at h
  | x :: r, 0, t, h => by
    simp at h; subst h
    exact ⟨rfl, rfl, rfl⟩
  | x :: r, i + 1, t, h => by
    simp at h
    obtain ⟨h1, h2, h3⟩ := tksC_get r i t h
    have e : tksC (x :: r) = .int .u8 (x.1 : Nat) :: .int .i64 (x.2.1 : Nat) :: .int .i64 (x.2.2 : Nat) :: tksC r := rfl
    rw [e, show (i + 1) * 3 = i * 3 + 1 + 1 + 1 by omega]
    refine ⟨?_, ?_, ?_⟩
    · simpa using h1
    · simpa using h2
    · simpa using h3
theorem add_blk (g j : Nat) : (⟨g, 0, none⟩ : Addr).add j = ⟨g, j, none⟩ := by
  by_cases h : j = 0 <;> simp [Addr.add, h]
theorem toks_at {w : World} {base : Nat} {v : Value} {ts : List (Nat × Nat × Nat)} (h : w.ownsRow base 55 3 v ts.length (tksC ts)) : ToksAt w v ts := by
  rcases h.2 with ⟨rfl, h0⟩ | ⟨g, cap, cur, rfl, _⟩
  · exact ⟨none, 0, by rw [h0], fun i t ht => by
      have : ts = [] := List.eq_nil_of_length_eq_zero h0
      subst this
      simp at ht⟩
  · refine ⟨some ⟨g, 0, none⟩, cap, rfl, fun i t ht => ⟨g, rfl, ?_⟩⟩
    obtain ⟨h1, h2, h3⟩ := tksC_get ts i t ht
    have hc := h.cells (g := g) rfl
    have e1 := hc _ _ h1
    have e2 := hc _ _ h2
    have e3 := hc _ _ h3
    rw [add_blk] at e1 e2 e3
    exact ⟨e1, e2, e3⟩
theorem ToksAt.below {w w' : World} {v : Value} {ts : List (Nat × Nat × Nat)} (h : ToksAt w v ts) (hb : Below w.heap.size w w') : ToksAt w' v ts := by
  obtain ⟨a, c, rfl, h⟩ := h
  refine ⟨a, c, rfl, fun i t ht => ?_⟩
  obtain ⟨g, e, h1, h2, h3⟩ := h i t ht
  exact ⟨g, e, (hb.cell (World.block_lt_of_cell? _ _ h1)).trans h1, (hb.cell (World.block_lt_of_cell? _ _ h2)).trans h2, (hb.cell (World.block_lt_of_cell? _ _ h3)).trans h3⟩
theorem eq55a (w : World) (d : Nat) (a b c : Int) : (Op.equalIn (d + 2) 55 (.agg #[.int .u8 a, .int .i64 b, .int .i64 c]) (.agg #[.int .u8 a, .int .i64 b, .int .i64 c])).run Try.prog w = .ok true w := by
  have hu := Try.underlying55
  have hu3 := Try.underlying3
  have hu5 := Try.underlying5
  have hi : (Try.prog.info? 3).map (·.size) = some 1 := by kernel_rfl
  obtain ⟨i3, h3, h3s⟩ := Option.map_eq_some_iff.1 hi
  have hi5 : (Try.prog.info? 5).map (·.size) = some 1 := by kernel_rfl
  obtain ⟨i5, h5, h5s⟩ := Option.map_eq_some_iff.1 hi5
  simp [Op.equalIn, run_underlying hu, run_underlying hu3, run_underlying hu5, part, sizeOf, typeInfo, h3, h3s, h5, h5s]
theorem eq55b (w : World) (a b c : Int) : (Op.equal 55 (.agg #[.int .u8 a, .int .i64 b, .int .i64 c]) (.agg #[.int .u8 a, .int .i64 b, .int .i64 c])).run Try.prog w = .ok true w := eq55a w 9998 a b c
theorem neq55 (w : World) (a b c : Int) : (binOp .neq 55 (.agg #[.int .u8 a, .int .i64 b, .int .i64 c]) (.agg #[.int .u8 a, .int .i64 b, .int .i64 c])).run Try.prog w = .ok (.bool false) w := by
  simp only [binOp, Sem.run_bind, eq55b]
  rfl
theorem mt_s1 {i n : Nat} (h : i < n) (h2 : n < 1000000) : wrap64 ((i : Int) + 1) = ((i + 1 : Nat) : Int) := by unfold wrap64; omega
theorem mt_s2 (n : Nat) : ((n : Int) != (n : Int)) = false ∧ ((n : Int) == (n : Int)) = true := by simp
set_option maxHeartbeats 4000000 in
theorem same_any (ts : List (Nat × Nat × Nat)) (v u : Value) (w : World) (hv : ToksAt w v ts) (hu : ToksAt w u ts) (hl : ts.length < 1000000) :
    Calls Try.prog 23 #[v, u] w fun e w' => e = .returned (.bool true) ∧ Below w.heap.size w w' := by
  obtain ⟨a, c, rfl, h1⟩ := hv
  obtain ⟨b, d, rfl, h2⟩ := hu
  have H1 := Lib.hid h1
  have H2 := Lib.hid h2
  have HL := Lib.hid hl
  obtain ⟨n, hn⟩ : ∃ n, ts.length = n := ⟨_, rfl⟩
  rw [hn] at HL ⊢
  have HN := Lib.hid hn
  clear h1 h2 hl hn
  go_enter Try.func23, Try.ntmps23
  go_wp2_with fail
  go_loopg [5] n (fun f s5 wx => ∃ i : Nat, s5 = .int .i64 (i : Int) ∧ Hid (i + f = n) ∧ Hid (wx.heap = w.heap ∧ Below w.heap.size w wx))
  case atStart => exact ⟨0, rfl, Lib.hid (Nat.zero_add _), Lib.hid ⟨rfl, Below.refl _ _⟩⟩
  case round =>
    obtain ⟨i, rfl, HI, HW⟩ := hrel
    cases gk with
    | zero =>
      obtain rfl : i = n := HI.out
      obtain ⟨i1, i2⟩ := pt_ge (Nat.lt_irrefl i)
      go_wp2_with fail
      go_ret
      exact ⟨rfl, HW.out.2⟩
    | succ f =>
      have hi : i < n := pt_nl HI.out
      obtain ⟨i1, i2⟩ := pt_lt hi
      have ei := mt_s1 hi HL.out
      have n0 : (0 : Int) ≤ (i : Int) := Int.natCast_nonneg i
      have n1 : (i : Int) < (n : Int) := Int.ofNat_lt.2 hi
      obtain ⟨t, ht⟩ : ∃ t, ts[i]? = some t := ⟨ts[i]'(by rw [HN.out]; exact hi), List.getElem?_eq_getElem _⟩
      obtain ⟨g, rfl, p0, p1, p2⟩ := H1.out i t ht
      obtain ⟨g', rfl, q0, q1, q2⟩ := H2.out i t ht
      have qn := fun w => neq55 w (t.1 : Nat) (t.2.1 : Nat) (t.2.2 : Nat)
      go_wp2_with fail
      have hHeld : ((wr.drew.cell? ⟨g, i * 3, none⟩ = some (.int .u8 (t.1 : Nat)) ∧ wr.drew.cell? ⟨g, i * 3 + 1, none⟩ = some (.int .i64 (t.2.1 : Nat)) ∧ wr.drew.cell? ⟨g, i * 3 + 2, none⟩ = some (.int .i64 (t.2.2 : Nat))) ∧ wr.drew.cell? ⟨g', i * 3, none⟩ = some (.int .u8 (t.1 : Nat)) ∧ wr.drew.cell? ⟨g', i * 3 + 1, none⟩ = some (.int .i64 (t.2.1 : Nat)) ∧ wr.drew.cell? ⟨g', i * 3 + 2, none⟩ = some (.int .i64 (t.2.2 : Nat))) := by
        have hh : wr.drew.heap = w.heap := HW.out.1
        refine ⟨⟨?_, ?_, ?_⟩, ?_, ?_, ?_⟩ <;> (rw [World.cell?_of_block (w := w) (by rw [hh])]; assumption)
      clear p0 p1 p2 q0 q1 q2
      refine wp_region_T (fun w' => ((w'.cell? ⟨g, i * 3, none⟩ = some (.int .u8 (t.1 : Nat)) ∧ w'.cell? ⟨g, i * 3 + 1, none⟩ = some (.int .i64 (t.2.1 : Nat)) ∧ w'.cell? ⟨g, i * 3 + 2, none⟩ = some (.int .i64 (t.2.2 : Nat))) ∧ w'.cell? ⟨g', i * 3, none⟩ = some (.int .u8 (t.1 : Nat)) ∧ w'.cell? ⟨g', i * 3 + 1, none⟩ = some (.int .i64 (t.2.1 : Nat)) ∧ w'.cell? ⟨g', i * 3 + 2, none⟩ = some (.int .i64 (t.2.2 : Nat)))) [.take 0, .take 1, .take 2, .take 3, .take 4, .take 5, .take 6, .take 7, .take 8] (by kernel_rfl) (by kernel_rfl) (fun _ _ _ _ _ h => h) hHeld ?_
      refine T_light (a' := ?_) 17 rfl rfl rfl (of_decide_eq_true rfl) rfl hHeld (fun wq hSq K Q hK => ?_) ?_
      rotate_left
      · (go_step; exact hK)
      refine T_light (a' := ?_) 18 rfl rfl rfl (of_decide_eq_true rfl) rfl hHeld (fun wq hSq K Q hK => ?_) ?_
      rotate_left
      · (go_step; exact hK)
      refine T_light (a' := ?_) 19 rfl rfl rfl (of_decide_eq_true rfl) rfl hHeld (fun wq hSq K Q hK => ?_) ?_
      rotate_left
      · (go_step; exact hK)
      refine T_light (a' := ?_) 20 rfl rfl rfl (of_decide_eq_true rfl) rfl hHeld (fun wq hSq K Q hK => ?_) ?_
      rotate_left
      · ((obtain ⟨⟨r1, r2, r3⟩, _⟩ := hSq; go_step); exact hK)
      refine T_light (a' := ?_) 21 rfl rfl rfl (of_decide_eq_true rfl) rfl hHeld (fun wq hSq K Q hK => ?_) ?_
      rotate_left
      · (go_step; exact hK)
      refine T_light (a' := ?_) 22 rfl rfl rfl (of_decide_eq_true rfl) rfl hHeld (fun wq hSq K Q hK => ?_) ?_
      rotate_left
      · (go_step; exact hK)
      refine T_light (a' := ?_) 23 rfl rfl rfl (of_decide_eq_true rfl) rfl hHeld (fun wq hSq K Q hK => ?_) ?_
      rotate_left
      · (go_step; exact hK)
      refine T_light (a' := ?_) 24 rfl rfl rfl (of_decide_eq_true rfl) rfl hHeld (fun wq hSq K Q hK => ?_) ?_
      rotate_left
      · ((obtain ⟨_, r1, r2, r3⟩ := hSq; go_step); exact hK)
      refine T_light (a' := ?_) 25 rfl rfl rfl (of_decide_eq_true rfl) rfl hHeld (fun wq hSq K Q hK => ?_) ?_
      rotate_left
      · (go_step; exact hK)
      refine T_done ?_
      clear hHeld
      go_wp2_with fail
      go_roundg f
      case measure => exact Nat.lt_succ_self f
      case rel => exact ⟨i + 1, by rw [ei], Lib.hid (pt_nx HI.out), Lib.hid ⟨HW.out.1, HW.out.2.drew⟩⟩
set_option maxHeartbeats 4000000 in
theorem tokens_bad (dict text : ByteArray) (k : Int) (w : World) (h : ¬ (0 ≤ k ∧ k < 10)) : Calls Try.prog 19 #[.string dict, .string text, .int .i64 k] w fun e w' => e = .returned (.tuple #[.slice none 0 0, .int .i64 2]) ∧ Below w.heap.size w w' := by
  rcases mt_lw h with d1 | ⟨d1, d2⟩
  · clear h
    go_enter Try.func19, Try.ntmps19
    go_wp2_with fail
    refine bodyPost_ret (results_tmp2 rfl _ _ _) rfl ⟨rfl, Below.refl _ _⟩
  · clear h
    go_enter Try.func19, Try.ntmps19
    go_wp2_with fail
    refine bodyPost_ret (results_tmp2 rfl _ _ _) rfl ⟨rfl, Below.refl _ _⟩
end Go.Proofs.Ytolkmjclldjkkaa
