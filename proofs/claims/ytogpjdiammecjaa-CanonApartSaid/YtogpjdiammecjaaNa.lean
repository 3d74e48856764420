/-
  CanonNone: rows of codes that lie in memory; what 'Same' comes to of equal ones (a contract, by hand).
-/
import Derived.Test.YtogpjdiammecjaaMathN
import Derived.Test.YtogpjdiammecjaaR
import Derived.Lib.Hide
set_option linter.unusedSimpArgs false
set_option linter.unusedVariables false
namespace Go.Proofs.Ytogpjdiammecjaa
open Go.RowKit Go.Proofs.YtogpjdiammecjaaW.PrintWords

/-- codes that lie in memory -/
def CAt (w : World) (v : Value) (P : List (Nat × Nat)) : Prop :=
  ∃ a c, v = .slice a P.length c ∧ ∀ i p, P[i]? = some p → ∃ g o, a = some ⟨g, o, none⟩ ∧ w.cell? ⟨g, o + i * 2, none⟩ = some (.int .u32 (p.1 : Nat)) ∧ w.cell? ⟨g, o + i * 2 + 1, none⟩ = some (.int .u8 (p.2 : Nat))
theorem CAt.below {w w' : World} {v : Value} {P : List (Nat × Nat)} (h : CAt w v P) (hb : Below w.heap.size w w') : CAt w' v P := by
  obtain ⟨a, c, rfl, h⟩ := h
  refine ⟨a, c, rfl, fun i p hp => ?_⟩
  obtain ⟨g, o, e, h1, h2⟩ := h i p hp
  exact ⟨g, o, e, (hb.cell (World.block_lt_of_cell? _ _ h1)).trans h1, (hb.cell (World.block_lt_of_cell? _ _ h2)).trans h2⟩
theorem cell_blkN {w : World} {B : Nat} {cs : Array Value} {t : TypeId} {fz : Nat × Nat} (h : w.heap[B]? = some (.cells cs t fz)) (j : Nat) : w.cell? ⟨B, j, none⟩ = cs[j]? := by
  unfold World.cell?; rw [h]; rfl
/-- the codes of 'Codes', and two pieces of them -/
theorem cat_of {w : World} {B c : Nat} {P : List (Nat × Nat)} (h : w.heap[B]? = some (.cells (cellsC P).toArray 31 (0, 0))) : CAt w (.slice (some ⟨B, 0, none⟩) P.length c) P :=
  ⟨_, c, rfl, fun i p hp => ⟨B, 0, rfl, by
    rw [Nat.zero_add, cell_blkN h, List.getElem?_toArray, Nat.mul_comm]
    exact cellsC_get0 P i p hp, by
    rw [Nat.zero_add, cell_blkN h, List.getElem?_toArray, Nat.mul_comm]
    exact cellsC_get1 P i p hp⟩⟩
theorem eq31a (w : World) (d : Nat) (a b x y : Int) : (Op.equalIn (d + 2) 31 (.agg #[.int .u32 a, .int .u8 b]) (.agg #[.int .u32 x, .int .u8 y])).run Try.prog w = .ok (decide (a = x ∧ b = y)) w := by
  have hu := Try.underlying31
  have hu9 := Try.underlying29
  have hu5 := Try.underlying5
  have hi : (Try.prog.info? 29).map (·.size) = some 1 := by kernel_rfl
  obtain ⟨i3, h3, h3s⟩ := Option.map_eq_some_iff.1 hi
  have hi5 : (Try.prog.info? 5).map (·.size) = some 1 := by kernel_rfl
  obtain ⟨i5, h5, h5s⟩ := Option.map_eq_some_iff.1 hi5
  simp [Op.equalIn, run_underlying hu, run_underlying hu9, run_underlying hu5, part, sizeOf, typeInfo, h3, h3s, h5, h5s]
  by_cases e1 : a = x <;> by_cases e2 : b = y <;> simp [e1, e2]
theorem eq31b (w : World) (a b x y : Int) : (Op.equal 31 (.agg #[.int .u32 a, .int .u8 b]) (.agg #[.int .u32 x, .int .u8 y])).run Try.prog w = .ok (decide (a = x ∧ b = y)) w := eq31a w 9998 a b x y
theorem neq31 (w : World) (a b x y : Int) : (binOp .neq 31 (.agg #[.int .u32 a, .int .u8 b]) (.agg #[.int .u32 x, .int .u8 y])).run Try.prog w = .ok (.bool (!decide (a = x ∧ b = y))) w := by
  simp only [binOp, Sem.run_bind, eq31b]
  rfl
theorem nt_nl {i f n : Nat} (h : i + (f + 1) = n) : i < n := by omega
theorem nt_nx {i f n : Nat} (h : i + (f + 1) = n) : (i + 1) + f = n := by omega
theorem nt_lt {i n : Nat} (h : i < n) : decide ((i : Int) < (n : Int)) = true ∧ decide (i < n) = true := by
  refine ⟨?_, ?_⟩
  all_goals (rw [decide_eq_true_eq]; omega)
theorem nt_ge {i n : Nat} (h : ¬ i < n) : decide ((i : Int) < (n : Int)) = false ∧ decide (i < n) = false := by
  refine ⟨?_, ?_⟩
  all_goals (rw [decide_eq_false_iff_not]; omega)
theorem nt_up {i n : Nat} (h : i < n) (h2 : n < 1000000) : wrap64 ((i : Int) + 1) = ((i + 1 : Nat) : Int) := by unfold wrap64; omega
set_option maxHeartbeats 4000000 in
theorem same31_any (P : List (Nat × Nat)) (v u : Value) (w : World) (hv : CAt w v P) (hu : CAt w u P) (hl : P.length < 1000000) :
    Calls Try.prog 14 #[v, u] w fun e w' => e = .returned (.bool true) ∧ Below w.heap.size w w' := by
  obtain ⟨a, c, rfl, h1⟩ := hv
  obtain ⟨b, d, rfl, h2⟩ := hu
  have H1 := Lib.hid h1
  have H2 := Lib.hid h2
  have HL := Lib.hid hl
  obtain ⟨n, hn⟩ : ∃ n, P.length = n := ⟨_, rfl⟩
  rw [hn] at HL ⊢
  have HN := Lib.hid hn
  clear h1 h2 hl hn
  go_enter Try.func14, Try.ntmps14
  go_wp2_with fail
  go_loopg [5] n (fun f s5 wx => ∃ i : Nat, s5 = .int .i64 (i : Int) ∧ Hid (i + f = n) ∧ Hid (wx.heap = w.heap ∧ Below w.heap.size w wx))
  case atStart => exact ⟨0, rfl, Lib.hid (Nat.zero_add _), Lib.hid ⟨rfl, Below.refl _ _⟩⟩
  case round =>
    obtain ⟨i, rfl, HI, HW⟩ := hrel
    cases gk with
    | zero =>
      obtain rfl : i = n := HI.out
      obtain ⟨i1, i2⟩ := nt_ge (Nat.lt_irrefl i)
      go_wp2_with fail
      go_ret
      exact ⟨rfl, HW.out.2⟩
    | succ f =>
      have hi : i < n := nt_nl HI.out
      obtain ⟨i1, i2⟩ := nt_lt hi
      have ei := nt_up hi HL.out
      have n0 : (0 : Int) ≤ (i : Int) := Int.natCast_nonneg i
      have n1 : (i : Int) < (n : Int) := Int.ofNat_lt.2 hi
      obtain ⟨t, ht⟩ : ∃ t, P[i]? = some t := ⟨P[i]'(by rw [HN.out]; exact hi), List.getElem?_eq_getElem _⟩
      obtain ⟨g, o, rfl, p0, p1⟩ := H1.out i t ht
      obtain ⟨g', o', rfl, q0, q1⟩ := H2.out i t ht
      have qn : ∀ w, (binOp .neq 31 (.agg #[.int .u32 (t.1 : Nat), .int .u8 (t.2 : Nat)]) (.agg #[.int .u32 (t.1 : Nat), .int .u8 (t.2 : Nat)])).run Try.prog w = .ok (.bool false) w := fun w => by rw [neq31]; simp
      go_wp2_with fail
      have hHeld : ((wr.drew.cell? ⟨g, o + i * 2, none⟩ = some (.int .u32 (t.1 : Nat)) ∧ wr.drew.cell? ⟨g, o + i * 2 + 1, none⟩ = some (.int .u8 (t.2 : Nat))) ∧ wr.drew.cell? ⟨g', o' + i * 2, none⟩ = some (.int .u32 (t.1 : Nat)) ∧ wr.drew.cell? ⟨g', o' + i * 2 + 1, none⟩ = some (.int .u8 (t.2 : Nat))) := by
        have hh : wr.drew.heap = w.heap := HW.out.1
        refine ⟨⟨?_, ?_⟩, ?_, ?_⟩ <;> (rw [World.cell?_of_block (w := w) (by rw [hh])]; assumption)
      clear p0 p1 q0 q1
      refine wp_region_T (fun w' => ((w'.cell? ⟨g, o + i * 2, none⟩ = some (.int .u32 (t.1 : Nat)) ∧ w'.cell? ⟨g, o + i * 2 + 1, none⟩ = some (.int .u8 (t.2 : Nat))) ∧ w'.cell? ⟨g', o' + i * 2, none⟩ = some (.int .u32 (t.1 : Nat)) ∧ w'.cell? ⟨g', o' + i * 2 + 1, none⟩ = some (.int .u8 (t.2 : Nat)))) [.take 0, .take 1, .take 2, .take 3, .take 4, .take 5, .take 6, .take 7, .take 8] (by kernel_rfl) (by kernel_rfl) (fun _ _ _ _ _ h => h) hHeld ?_
      refine T_light (a' := ?_) 17 rfl rfl rfl (of_decide_eq_true rfl) rfl hHeld (fun wq hSq K Q hK => ?_) ?_
      rotate_left
      · (go_step; exact hK)
      refine T_light (a' := ?_) 18 rfl rfl rfl (of_decide_eq_true rfl) rfl hHeld (fun wq hSq K Q hK => ?_) ?_
      rotate_left
      · (go_step; exact hK)
      refine T_light (a' := ?_) 19 rfl rfl rfl (of_decide_eq_true rfl) rfl hHeld (fun wq hSq K Q hK => ?_) ?_
      rotate_left
      · (go_step; exact hK)
      refine T_light (a' := ?_) 20 rfl rfl rfl (of_decide_eq_true rfl) rfl hHeld (fun wq hSq K Q hK => ?_) ?_
      rotate_left
      · ((obtain ⟨⟨r1, r2⟩, _⟩ := hSq; go_step); exact hK)
      refine T_light (a' := ?_) 21 rfl rfl rfl (of_decide_eq_true rfl) rfl hHeld (fun wq hSq K Q hK => ?_) ?_
      rotate_left
      · (go_step; exact hK)
      refine T_light (a' := ?_) 22 rfl rfl rfl (of_decide_eq_true rfl) rfl hHeld (fun wq hSq K Q hK => ?_) ?_
      rotate_left
      · (go_step; exact hK)
      refine T_light (a' := ?_) 23 rfl rfl rfl (of_decide_eq_true rfl) rfl hHeld (fun wq hSq K Q hK => ?_) ?_
      rotate_left
      · (go_step; exact hK)
      refine T_light (a' := ?_) 24 rfl rfl rfl (of_decide_eq_true rfl) rfl hHeld (fun wq hSq K Q hK => ?_) ?_
      rotate_left
      · ((obtain ⟨_, r1, r2⟩ := hSq; go_step); exact hK)
      refine T_light (a' := ?_) 25 rfl rfl rfl (of_decide_eq_true rfl) rfl hHeld (fun wq hSq K Q hK => ?_) ?_
      rotate_left
      · (go_step; exact hK)
      refine T_done ?_
      clear hHeld
      go_wp2_with fail
      go_roundg f
      case measure => exact Nat.lt_succ_self f
      case rel => exact ⟨i + 1, by rw [ei], Lib.hid (nt_nx HI.out), Lib.hid ⟨HW.out.1, HW.out.2.drew⟩⟩
theorem codesK_full (l : List Int) (i : Nat) (h : i < l.length) : (codesK l l.length)[i]? = some (codeAt l i) := by rw [codesK_get l _ i h, if_pos h]
theorem code_cells {w : World} {B : Nat} {l : List Int} (h : w.heap[B]? = some (.cells (cellsC (codesK l l.length)).toArray 31 (0, 0))) {i : Nat} (hi : i < l.length) :
    w.cell? ⟨B, i * 2, none⟩ = some (.int .u32 ((codeAt l i).1 : Nat)) ∧ w.cell? ⟨B, i * 2 + 1, none⟩ = some (.int .u8 ((codeAt l i).2 : Nat)) := by
  refine ⟨?_, ?_⟩
  · rw [cell_blkN h, List.getElem?_toArray, Nat.mul_comm]
    exact cellsC_get0 _ i _ (codesK_full l i hi)
  · rw [cell_blkN h, List.getElem?_toArray, Nat.mul_comm]
    exact cellsC_get1 _ i _ (codesK_full l i hi)
theorem cat_takeN {w : World} {B k c : Nat} {l : List Int} (h : w.heap[B]? = some (.cells (cellsC (codesK l l.length)).toArray 31 (0, 0))) (hk : k ≤ l.length) : CAt w (.slice (some ⟨B, 0, none⟩) k c) ((codesK l l.length).take k) := by
  refine ⟨_, c, by rw [List.length_take, codesK_length, Nat.min_eq_left hk], fun i p hp => ⟨B, 0, rfl, ?_⟩⟩
  have hi : i < k := by
    have := (List.getElem?_eq_some_iff.1 hp).1
    rw [List.length_take] at this
    omega
  rw [List.getElem?_take, if_pos hi, codesK_full l i (by omega)] at hp
  cases hp
  obtain ⟨h1, h2⟩ := code_cells h (show i < l.length by omega)
  rw [Nat.zero_add]
  exact ⟨h1, h2⟩
theorem cat_dropN {w : World} {B k o c : Nat} {l : List Int} (h : w.heap[B]? = some (.cells (cellsC (codesK l l.length)).toArray 31 (0, 0))) (hk : k ≤ l.length) (ho : l.length = k ∨ o = k * 2) : CAt w (.slice (some ⟨B, o, none⟩) (l.length - k) c) ((codesK l l.length).drop k) := by
  refine ⟨_, c, by rw [List.length_drop, codesK_length], fun i p hp => ⟨B, o, rfl, ?_⟩⟩
  have hi : k + i < l.length := by
    have := (List.getElem?_eq_some_iff.1 hp).1
    rw [List.length_drop, codesK_length] at this
    omega
  rw [List.getElem?_drop, codesK_full l _ hi] at hp
  cases hp
  obtain ⟨h1, h2⟩ := code_cells h hi
  rcases ho with ho | rfl
  · omega
  · rw [← Nat.add_mul]
    exact ⟨h1, h2⟩
theorem codes_take (l : List Int) {k : Nat} (hk : k ≤ l.length) : (codesK (putZ l k) (putZ l k).length).take k = (codesK l l.length).take k := by
  have hl := putZ_length l k
  apply List.ext_getElem?
  intro i
  rw [List.getElem?_take, List.getElem?_take]
  split
  · rename_i hi
    rw [codesK_full _ i (by omega), codesK_full l i (by omega), code_putZ_lt l hi hk]
  · rfl
theorem codes_drop (l : List Int) {k : Nat} (hk : k ≤ l.length) : (codesK (putZ l k) (putZ l k).length).drop (k + 1) = (codesK l l.length).drop k := by
  have hl := putZ_length l k
  apply List.ext_getElem?
  intro i
  rw [List.getElem?_drop, List.getElem?_drop]
  by_cases hi : k + i < l.length
  · rw [codesK_full l _ hi, show k + 1 + i = (k + i) + 1 by omega, codesK_full _ _ (by omega), code_putZ_gt l (by omega) hk]
  · rw [List.getElem?_eq_none (by rw [codesK_length]; omega), List.getElem?_eq_none (by rw [codesK_length]; omega)]
theorem cutB (g n c m : Nat) (hm : m ≤ n) (hc : n ≤ c) :
    ∃ o : Nat, (∀ W : World, (Instr.slice 24 (.slice (some ⟨g, 0, none⟩) n c) (some (.int .i64 (m : Int))) none none).run Try.prog W = .ok (.slice (some ⟨g, o, none⟩) (n - m) (c - m)) W) ∧ (n = m ∨ o = m * 2) := by
  have hi : (Try.prog.info? 31).map (·.size) = some 2 := by kernel_rfl
  obtain ⟨i5, h5, h5s⟩ := Option.map_eq_some_iff.1 hi
  refine ⟨if c = m then 0 else m * 2, fun W => ?_, ?_⟩
  · have hel : Try.prog.elem 24 = 31 := by kernel_rfl
    have hu : Try.prog.underlying 24 = some (.slice (Try.prog.elem 24)) := by rw [hel]; exact Try.underlying24
    rw [run_slice_l W 24 (some ⟨g, 0, none⟩) n c hu .i64 (m : Int) (Int.natCast_nonneg _) (by omega), hel]
    by_cases e : c = m
    · simp [sizeOf, typeInfo, h5, h5s, sliced, Result.andThen, e]
    · simp [sizeOf, typeInfo, h5, h5s, sliced, Result.andThen, e, Addr.add_lit]
  · by_cases e : c = m
    · left; omega
    · right; rw [if_neg e]
end Go.Proofs.Ytogpjdiammecjaa
