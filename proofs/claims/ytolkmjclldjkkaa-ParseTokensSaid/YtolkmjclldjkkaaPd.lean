/-
  Parse: what 'one' comes to (a contract, by hand): the tokens from a place on, up to one match.
-/
import Derived.Test.YtolkmjclldjkkaaPc
import Derived.ScopeJumps
set_option linter.unusedSimpArgs false
set_option linter.unusedVariables false
namespace Go.Proofs.Ytolkmjclldjkkaa
open Go.RowKit

def intOf : Value → Int | .int _ q => q | _ => 0
theorem own32 : Own Try.prog 32 := own_of Try.func32 (by kernel_rfl) rfl
theorem own37 : Own Try.prog 37 := own_of Try.func37 (by kernel_rfl) rfl
/-- a scope in which the run jumps back to a label: what goes from the label on is shown once -/
theorem wp_scope_jumps1 {P : Program} {a : Act} {w : World} {Q : Exit → Act → World → Prop} {c rest : Code} (l : Nat) (J : Act → World → Prop) (μ : Act → World → Nat) (hf : findLabel c l = some (Code.seq .skip rest))
    (pass : ∀ a w, J a w → rest.wp P (Exit.jump l (fun a' w' => J a' w' ∧ μ a' w' < μ a w) Q) a w)
    (first : (∀ a w, J a w → rest.wp P (Exit.jump l J Q) a w) → c.wp P (Exit.jump l J Q) a w) : (Code.scope c).wp P Q a w :=
  wp_scope_jumps l J μ hf (first fun a w h => wp_mono (pass a w h) fun e a' w' hq => by
    cases e with
    | goto l' => exact ⟨hq.1, hq.2.1⟩
    | _ => exact hq) fun a w h => wp_seq (wp_skip (pass a w h))
theorem one_zero {L : List Nat} {D N Z x : Nat} {m : Nat × Nat} (hx : x < L.length) (h : m.1 = 0) : oneL L D N Z (L.length - x) x m = ([litT L x], x + 1) := by
  rw [show L.length - x = (L.length - (x + 1)) + 1 by omega, oneL, if_pos h]
theorem one_more {L : List Nat} {D N Z x : Nat} {m : Nat × Nat} (hx : x + 1 < L.length) (h : ¬ m.1 = 0) (h1 : m.1 < Z) (h3 : 0 < (lookL L D N (x + 1) m.1).1) :
    oneL L D N Z (L.length - x) x m = (litT L x :: (oneL L D N Z (L.length - (x + 1)) (x + 1) (lookL L D N (x + 1) m.1)).1, (oneL L D N Z (L.length - (x + 1)) (x + 1) (lookL L D N (x + 1) m.1)).2) := by
  rw [show L.length - x = (L.length - (x + 1)) + 1 by omega, oneL, if_neg h, if_pos ⟨h1, hx⟩, if_pos h3]
theorem one_last {L : List Nat} {D N Z x : Nat} {m : Nat × Nat} (hx : x < L.length) (h : ¬ m.1 = 0) (h1 : m.1 < Z → x + 1 < L.length → ¬ 0 < (lookL L D N (x + 1) m.1).1) : oneL L D N Z (L.length - x) x m = ([(0, m.1, m.2)], x + m.1) := by
  rw [show L.length - x = (L.length - (x + 1)) + 1 by omega, oneL, if_neg h]
  split
  · rename_i h2
    rw [if_neg (h1 h2.1 h2.2)]
  · rfl
theorem mt_o1 {x S : Nat} (h : x < S) (h2 : S ≤ 100000) : wrap64 ((x : Int) + 1) = ((x + 1 : Nat) : Int) := by unfold wrap64; omega
theorem mt_o2 {x n S : Nat} (h : x < S) (h2 : S ≤ 100000) (hn : n ≤ 258) : wrap64 ((x : Int) + (n : Int)) = ((x + n : Nat) : Int) := by unfold wrap64; omega
theorem mt_o3 {n : Nat} (h : n = 0) : ((n : Int) == 0) = true ∧ decide (n = 0) = true := by subst h; exact ⟨rfl, rfl⟩
theorem mt_o4 {n : Nat} (h : ¬ n = 0) : ((n : Int) == 0) = false ∧ decide (n = 0) = false ∧ decide ((0 : Int) < (n : Int)) = true ∧ decide (0 < n) = true := by
  refine ⟨?_, ?_, ?_, ?_⟩
  · rw [beq_eq_false_iff_ne]; omega
  · rw [decide_eq_false_iff_not]; exact h
  · rw [decide_eq_true_eq]; omega
  · rw [decide_eq_true_eq]; omega
theorem mt_o5 {n : Nat} (h : n = 0) : decide ((0 : Int) < (n : Int)) = false ∧ decide (0 < n) = false := by subst h; exact ⟨rfl, rfl⟩
theorem mt_o6 {a b : Nat} (h : a < b) : decide (((a : Nat) : Int) < (b : Int)) = true ∧ decide (a < b) = true := by
  refine ⟨?_, ?_⟩
  all_goals (rw [decide_eq_true_eq]; omega)
theorem mt_o7 {a b : Nat} (h : ¬ a < b) : decide (((a : Nat) : Int) < (b : Int)) = false ∧ decide (a < b) = false := by
  refine ⟨?_, ?_⟩
  all_goals (rw [decide_eq_false_iff_not]; omega)
theorem mt_oc {a b : Nat} (h : a + 1 < b) : decide ((a : Int) + 1 < (b : Int)) = true := by rw [decide_eq_true_eq]; omega
theorem mt_od {a b : Nat} (h : ¬ a + 1 < b) : decide ((a : Int) + 1 < (b : Int)) = false := by rw [decide_eq_false_iff_not]; omega
theorem mt_o8 {x S : Nat} (h : x + 1 < S) : x ≤ x + 1 ∧ S - (x + 1) < S - x := by omega
theorem mt_o9 {a b c S T : Nat} (h : a + b ≤ T) (hb : b + 1 ≤ c) (hT : T ≤ 500000) : a + 1 < 1000000 := by omega
theorem mt_oe {x S : Nat} (h : x < S) : S - (intOf (.int .i64 ((x + 1 : Nat) : Int))).toNat < S - (intOf (.int .i64 (x : Int))).toNat := by
  show S - (((x + 1 : Nat) : Int)).toNat < S - ((x : Int)).toNat
  omega
theorem mt_of {ts : List (Nat × Nat × Nat)} {t : Nat × Nat × Nat} {x : Nat} (h : ts.length ≤ 500000 + x) : (ts ++ [t]).length ≤ 500000 + (x + 1) := by
  rw [List.length_append, List.length_singleton]; omega
theorem Pb.set {W : World} {n₀ B : Nat} {r : Nat × Nat × Nat} {s : ByteArray} {f : Value} {ts : List (Nat × Nat × Nat)} (h : Pb W n₀ B r s f ts) {M : Nat} {cs : Array Value} {t : TypeId} (hM : W.heap[M]? = some (.cells cs t (0, 0))) (h1 : t ≠ 78) (h2 : t ≠ 55) (j : Nat) (u : Value) : Pb (W.setCell ⟨M, j, none⟩ u) n₀ B r s f ts := by
  obtain ⟨v, hb, hr1, hr2⟩ := h.ex
  have key : ∀ (k : Nat) (cs' : Array Value) (t' : TypeId), W.heap[k]? = some (.cells cs' t' (0, 0)) → t' ≠ t → (W.setCell ⟨M, j, none⟩ u).heap[k]? = some (.cells cs' t' (0, 0)) := fun k cs' t' hk ht =>
    (Below.heap_setCell W ⟨M, j, none⟩ u k (fun e => by
      have e' : k = M := e
      subst e'
      rw [hM] at hk
      cases hk
      exact ht rfl)).trans hk
  refine ⟨⟨v, key _ _ _ hb (Ne.symm h1), hr1, ?_⟩, h.low, by simp [World.setCell]; exact h.size⟩
  rcases hr2 with h0 | ⟨g, cap, cur, e1, e2, e3, e4⟩
  · exact .inl h0
  · exact .inr ⟨g, cap, cur, e1, e2, key _ _ _ e3 (Ne.symm h2), e4⟩
theorem mt_oa {x n : Nat} (h : ¬ n = 0) : x + 1 ≤ x + n := by omega
theorem Below.drew0 {n : Nat} {W : World} (h : n ≤ W.heap.size) : Below n W W.drew := ((Below.refl _ W).drew).mono h
theorem grow_blk {W w1 : World} {v : Value} {n₀ n : Nat} {xs : List Value} {tmp : Obj} (hg : (W.alloc tmp).grownBy w1 v.ownBlock) (hr : W.ownsRow n₀ 55 3 v n xs) {M : Nat} {cs : Array Value} {t : TypeId} (h : W.heap[M]? = some (.cells cs t (0, 0))) (ht : t ≠ 55) : w1.heap[M]? = some (.cells cs t (0, 0)) := by
  have hlt := (Array.getElem?_eq_some_iff.1 h).1
  refine (hg.block M (by simp; omega) fun e => ?_).trans ((Below.heap_alloc W tmp M hlt).trans h)
  rcases hr.2 with ⟨rfl, _⟩ | ⟨g, cap, cur, rfl, _, hg2, _⟩
  · simp [Value.ownBlock] at e
  · obtain rfl : M = g := by simpa [Value.ownBlock] using e
    rw [h] at hg2; cases hg2; exact ht rfl
/-- one's own, at its label -/
structure OneJ (w : World) (n₀ A B : Nat) (r : Nat × Nat × Nat) (s : ByteArray) (T : List (Nat × Nat × Nat) × Nat) (x M : Nat) (m : Nat × Nat) (ts : List (Nat × Nat × Nat)) (W : World) : Prop where
  lt : x < s.size
  blk : W.heap[M]? = some (.cells #[.int .i64 (m.1 : Nat), .int .i64 (m.2 : Nat)] 29 (0, 0))
  low : n₀ ≤ M
  prs : Pb W n₀ B r s (.pointer (some ⟨A, 0, none⟩)) ts
  fnd : Fnd W n₀ A s (upto x)
  below : Below n₀ w W
  is : (ts ++ (oneL (byteL s) r.1 r.2.1 r.2.2 ((byteL s).length - x) x m).1, (oneL (byteL s) r.1 r.2.1 r.2.2 ((byteL s).length - x) x m).2) = T
  mm : m = (0, 0) ∨ ∃ o, MatchAt (byteL s) x o m
  cnt : ts.length ≤ 500000 + x
set_option maxRecDepth 100000 in
set_option maxHeartbeats 8000000 in
theorem one_any (a k n₀ A B : Nat) (r : Nat × Nat × Nat) (s : ByteArray) (ts : List (Nat × Nat × Nat)) (w : World) (hp : Pb w n₀ B r s (.pointer (some ⟨A, 0, none⟩)) ts) (hf : Fnd w n₀ A s (upto k)) (hk : k ≤ a) (ha : a < s.size) (hs : s.size ≤ 100000) (hr : r.1 ≤ 100000) (ht : ts.length ≤ 500000) :
    Calls Try.prog 33 #[.pointer (some ⟨B, 0, none⟩), .int .i64 (a : Nat)] w fun e w' =>
      e = .returned (.int .i64 ((oneL (byteL s) r.1 r.2.1 r.2.2 ((byteL s).length - a) a (lookL (byteL s) r.1 r.2.1 a 2)).2 : Nat)) ∧
      Pb w' n₀ B r s (.pointer (some ⟨A, 0, none⟩)) (ts ++ (oneL (byteL s) r.1 r.2.1 r.2.2 ((byteL s).length - a) a (lookL (byteL s) r.1 r.2.1 a 2)).1) ∧
      (∃ k', k' ≤ (oneL (byteL s) r.1 r.2.1 r.2.2 ((byteL s).length - a) a (lookL (byteL s) r.1 r.2.1 a 2)).2 ∧ Fnd w' n₀ A s (upto k')) ∧ Below n₀ w w' := by
  obtain ⟨T, hT⟩ : ∃ T, (ts ++ (oneL (byteL s) r.1 r.2.1 r.2.2 ((byteL s).length - a) a (lookL (byteL s) r.1 r.2.1 a 2)).1, (oneL (byteL s) r.1 r.2.1 r.2.2 ((byteL s).length - a) a (lookL (byteL s) r.1 r.2.1 a 2)).2) = T := ⟨_, rfl⟩
  suffices h : Calls Try.prog 33 #[.pointer (some ⟨B, 0, none⟩), .int .i64 (a : Nat)] w fun e w' => e = .returned (.int .i64 (T.2 : Nat)) ∧ Pb w' n₀ B r s (.pointer (some ⟨A, 0, none⟩)) T.1 ∧ (∃ k', k' ≤ T.2 ∧ Fnd w' n₀ A s (upto k')) ∧ Below n₀ w w' by
    rw [← hT] at h
    exact h
  have HP := Lib.hid hp
  have HF := Lib.hid hf
  have HS := Lib.hid (And.intro hs hr)
  have HKA := Lib.hid (And.intro hk ha)
  have HT := Lib.hid hT
  have HTS := Lib.hid ht
  obtain ⟨i0, hi, hz0, hz1, hz2⟩ := info_parts info55
  clear hp hf hk ha hs hr hT ht
  go_enter Try.func33, Try.ntmps33
  (try go_wp2_with fail)
  refine wp_scope_jumps1 0 (fun a' w' => ∃ (x M : Nat) (m : Nat × Nat) (ts' : List (Nat × Nat × Nat)) (u6 u7 u8 u9 u10 u11 u12 u13 u14 u15 u16 u17 u18 u19 u20 u21 u22 u23 u24 u25 u26 u27 u28 u29 u30 u31 u32 u33 u34 u35 u36 u37 u38 u39 u40 u41 u42 u43 u44 u45 u46 u47 u48 u49 u50 u51 u52 u53 u54 u55 u56 u57 u58 u59 u60 u61 u62 u63 u64 u65 u66 u67 u68 : Value), a' = { tmps := #[.pointer (some ⟨B, 0, none⟩), .int .i64 (x : Nat), undef, undef, .int .i64 0, .pointer (some ⟨M, 0, none⟩), u6, u7, u8, u9, u10, u11, u12, u13, u14, u15, u16, u17, u18, u19, u20, u21, u22, u23, u24, u25, u26, u27, u28, u29, u30, u31, u32, u33, u34, u35, u36, u37, u38, u39, u40, u41, u42, u43, u44, u45, u46, u47, u48, u49, u50, u51, u52, u53, u54, u55, u56, u57, u58, u59, u60, u61, u62, u63, u64, u65, u66, u67, u68], defers := [] } ∧ Hid (OneJ w n₀ A B r s T x M m ts' w')) (fun a' _ => (byteL s).length - (intOf (a'.tmps.getD 1 undef)).toNat) rfl ?_ ?_
  rotate_left
  · intro hfirst
    go_wp2_with fail
    refine (look_any a 2 k n₀ A B r s ts w HP.out HF.out HKA.out.1 HKA.out.2 HS.out.1 HS.out.2).mono ?_
    rintro e w2 ⟨rfl, hf2, hk2⟩
    have HF2 := Lib.hid hf2
    have HK2 := Lib.hid hk2
    obtain ⟨M, hM⟩ : ∃ M, w2.heap.size = M := ⟨_, rfl⟩
    have HM := Lib.hid hM
    clear hf2 hk2 hM
    go_wp2_with fail
    go_step3
    have hk3 : KeepP n₀ w2 (w2.alloc (.cells #[.int .i64 ((lookL (byteL s) r.1 r.2.1 a 2).1 : Nat), .int .i64 ((lookL (byteL s) r.1 r.2.1 a 2).2 : Nat)] 29)) := KeepP.of_below ((Below.refl _ w2).alloc (Nat.le_refl _) _) (Nat.le_trans HP.out.size HK2.out.below.size)
    rename_i hK1
    refine hK1 _ _ (hfirst _ _ ⟨a, w2.heap.size, lookL (byteL s) r.1 r.2.1 a 2, ts, _, _, _, _, _, _, _, _, _, _, _, _, _, _, _, _, _, _, _, _, _, _, _, _, _, _, _, _, _, _, _, _, _, _, _, _, _, _, _, _, _, _, _, _, _, _, _, _, _, _, _, _, _, _, _, _, _, _, _, _, _, _, _, rfl, Lib.hid ⟨HKA.out.2, heap_alloc_last w2 _, Nat.le_trans HP.out.size HK2.out.below.size, (HP.out.keep HK2.out).keep hk3, HF2.out.below ((Below.refl _ w2).alloc (Nat.le_refl _) _), (HK2.out.trans hk3).below, HT.out, look_or _ _ _ _ _, by have := HTS.out; omega⟩⟩)
  · rintro a' w' ⟨x, M, m, ts', u6, u7, u8, u9, u10, u11, u12, u13, u14, u15, u16, u17, u18, u19, u20, u21, u22, u23, u24, u25, u26, u27, u28, u29, u30, u31, u32, u33, u34, u35, u36, u37, u38, u39, u40, u41, u42, u43, u44, u45, u46, u47, u48, u49, u50, u51, u52, u53, u54, u55, u56, u57, u58, u59, u60, u61, u62, u63, u64, u65, u66, u67, u68, rfl, HJ⟩
    clear HP HF HKA HT HTS
    have c0 : w'.cell? ⟨M, 0, none⟩ = some (.int .i64 (m.1 : Nat)) := cell_blk HJ.out.blk 0
    have c1 : w'.cell? ⟨M, 1, none⟩ = some (.int .i64 (m.2 : Nat)) := cell_blk HJ.out.blk 1
    have n0 : (0 : Int) ≤ (x : Int) := Int.natCast_nonneg x
    have ex := mt_o1 HJ.out.lt HS.out.1
    have hL : (byteL s).length = s.size := byteL_length s
    have HL := Lib.hid hL
    have HXL := Lib.hid (show x < (byteL s).length by rw [hL]; exact HJ.out.lt)
    have HC := Lib.hid (show ts'.length < 1000000 by have := HJ.out.cnt; have := HJ.out.lt; have := HS.out.1; omega)
    clear hL
    by_cases hm : m.1 = 0
    · obtain ⟨d0, d0'⟩ := mt_o3 hm
      have HO := Lib.hid (one_zero (D := r.1) (N := r.2.1) (Z := r.2.2) HXL.out hm)
      clear hm
      go_wp2_with fail
      refine (lit_any x n₀ B r s _ ts' _ HJ.out.prs HJ.out.lt HC.out).mono ?_
      rintro e w2 ⟨⟨v, rfl⟩, hp2, hk2⟩
      have HP2 := Lib.hid hp2
      have HK2 := Lib.hid hk2
      clear hp2 hk2
      go_wp2_with fail
      simp only [Exit.jump]
      go_ret
      have hi := HJ.out.is
      rw [HO.out] at hi
      rw [← hi]
      exact ⟨rfl, HP2.out, ⟨x, Nat.le_succ x, HK2.out.fnd HJ.out.fnd⟩, HJ.out.below.trans HK2.out.below⟩
    · obtain ⟨d0, d0', d1, d2⟩ := mt_o4 hm
      have HM0 := Lib.hid hm
      have HMM := Lib.hid (show m.1 ≤ 258 by
        rcases HJ.out.mm with h | ⟨o, h⟩
        · exact absurd (by rw [h]) hm
        · exact h.top)
      have exm := mt_o2 HJ.out.lt HS.out.1 HMM.out
      clear hm
      go_wp2_with fail
      obtain ⟨v, hb, hrow⟩ := HJ.out.prs.ex
      have HB := Lib.hid hb
      have HR := Lib.hid hrow
      clear hb hrow
      by_cases hz : m.1 < r.2.2
      · obtain ⟨z1, z2⟩ := mt_o6 hz
        have HZ := Lib.hid hz
        clear hz
        by_cases hx : x + 1 < s.size
        · obtain ⟨x1, x2⟩ := mt_o6 hx
          have x3 := mt_oc hx
          have HX := Lib.hid hx
          clear hx
          have hHeld : w'.drew.cell? ⟨M, 0, none⟩ = some (.int .i64 (m.1 : Nat)) ∧ w'.drew.cell? ⟨B, 2, none⟩ = some (.int .i64 (r.2.2 : Nat)) ∧ w'.drew.cell? ⟨B, 3, none⟩ = some (.string s) := ⟨c0, cell_blk HB.out 2, cell_blk HB.out 3⟩
          refine wp_region_T (fun w' => w'.cell? ⟨M, 0, none⟩ = some (.int .i64 (m.1 : Nat)) ∧ w'.cell? ⟨B, 2, none⟩ = some (.int .i64 (r.2.2 : Nat)) ∧ w'.cell? ⟨B, 3, none⟩ = some (.string s)) [.take 0, .take 1, .take 2, .take 3, .take 4, .take 5, .take 6, .take 7, .take 8, .take 9, .take 10, .take 11, .take 12, .take 13, .take 14, .take 15, .take 16, .take 17] (by kernel_rfl) (by kernel_rfl) (fun _ _ _ _ _ h => h) hHeld ?_
          refine T_light (a' := ?_) 18 rfl rfl rfl (of_decide_eq_true rfl) rfl hHeld (fun wq hSq K Q hK => ?_) ?_
          rotate_left
          · (go_step; exact hK)
          refine T_light (a' := ?_) 19 rfl rfl rfl (of_decide_eq_true rfl) rfl hHeld (fun wq hSq K Q hK => ?_) ?_
          rotate_left
          · ((have r1 := hSq.1; go_step); exact hK)
          refine T_light (a' := ?_) 20 rfl rfl rfl (of_decide_eq_true rfl) rfl hHeld (fun wq hSq K Q hK => ?_) ?_
          rotate_left
          · (go_step; exact hK)
          refine T_light (a' := ?_) 21 rfl rfl rfl (of_decide_eq_true rfl) rfl hHeld (fun wq hSq K Q hK => ?_) ?_
          rotate_left
          · (go_step; exact hK)
          refine T_light (a' := ?_) 22 rfl rfl rfl (of_decide_eq_true rfl) rfl hHeld (fun wq hSq K Q hK => ?_) ?_
          rotate_left
          · (go_step; exact hK)
          refine T_light (a' := ?_) 23 rfl rfl rfl (of_decide_eq_true rfl) rfl hHeld (fun wq hSq K Q hK => ?_) ?_
          rotate_left
          · (go_step; exact hK)
          refine T_light (a' := ?_) 24 rfl rfl rfl (of_decide_eq_true rfl) rfl hHeld (fun wq hSq K Q hK => ?_) ?_
          rotate_left
          · ((have r1 := hSq.2.1; go_step); exact hK)
          refine T_light (a' := ?_) 25 rfl rfl rfl (of_decide_eq_true rfl) rfl hHeld (fun wq hSq K Q hK => ?_) ?_
          rotate_left
          · (go_step; exact hK)
          refine T_light (a' := ?_) 26 rfl rfl rfl (of_decide_eq_true rfl) rfl hHeld (fun wq hSq K Q hK => ?_) ?_
          rotate_left
          · (go_step; exact hK)
          refine T_light (a' := ?_) 27 rfl rfl rfl (of_decide_eq_true rfl) rfl hHeld (fun wq hSq K Q hK => ?_) ?_
          rotate_left
          · (go_step; exact hK)
          refine T_light (a' := ?_) 28 rfl rfl rfl (of_decide_eq_true rfl) rfl hHeld (fun wq hSq K Q hK => ?_) ?_
          rotate_left
          · (go_step; exact hK)
          refine T_light (a' := ?_) 29 rfl rfl rfl (of_decide_eq_true rfl) rfl hHeld (fun wq hSq K Q hK => ?_) ?_
          rotate_left
          · (go_step; exact hK)
          refine T_light (a' := ?_) 30 rfl rfl rfl (of_decide_eq_true rfl) rfl hHeld (fun wq hSq K Q hK => ?_) ?_
          rotate_left
          · (go_step; exact hK)
          refine T_light (a' := ?_) 31 rfl rfl rfl (of_decide_eq_true rfl) rfl hHeld (fun wq hSq K Q hK => ?_) ?_
          rotate_left
          · (go_step; exact hK)
          refine T_light (a' := ?_) 32 rfl rfl rfl (of_decide_eq_true rfl) rfl hHeld (fun wq hSq K Q hK => ?_) ?_
          rotate_left
          · ((have r1 := hSq.2.2; go_step); exact hK)
          refine T_light (a' := ?_) 33 rfl rfl rfl (of_decide_eq_true rfl) rfl hHeld (fun wq hSq K Q hK => ?_) ?_
          rotate_left
          · (go_step; exact hK)
          refine T_light (a' := ?_) 34 rfl rfl rfl (of_decide_eq_true rfl) rfl hHeld (fun wq hSq K Q hK => ?_) ?_
          rotate_left
          · (go_step; exact hK)
          refine T_light (a' := ?_) 35 rfl rfl rfl (of_decide_eq_true rfl) rfl hHeld (fun wq hSq K Q hK => ?_) ?_
          rotate_left
          · (go_step; exact hK)
          refine T_done ?_
          clear hHeld
          go_wp2_with fail
          refine (look_any (x + 1) m.1 x n₀ A B r s ts' _ (HJ.out.prs.below (Below.refl _ _).drew) HJ.out.fnd.drew0 (Nat.le_succ x) HX.out HS.out.1 HS.out.2).mono ?_
          rintro e w2 ⟨rfl, hf2, hk2⟩
          obtain ⟨N, hN⟩ : ∃ N, lookL (byteL s) r.1 r.2.1 (x + 1) m.1 = N := ⟨_, rfl⟩
          rw [hN]
          have hk3 : KeepP n₀ w' w2 := (KeepP.of_below (Below.refl _ _).drew HJ.out.prs.size).trans hk2
          obtain ⟨w3, hw3⟩ : ∃ w3, w2.alloc (.cells #[.int .i64 (N.1 : Nat), .int .i64 (N.2 : Nat)] 29) = w3 := ⟨_, rfl⟩
          obtain ⟨MN, hMN⟩ : ∃ MN, w2.heap.size = MN := ⟨_, rfl⟩
          have hb3 : Below w2.heap.size w2 w3 := by rw [← hw3]; exact (Below.refl _ w2).alloc (Nat.le_refl _) _
          have hk4 : KeepP n₀ w2 w3 := KeepP.of_below hb3 (Nat.le_trans HJ.out.prs.size hk3.below.size)
          have HK4 := Lib.hid (hk3.trans hk4)
          have HF4 := Lib.hid (hf2.below hb3)
          have HN := Lib.hid hN
          have HNB := Lib.hid (show w3.heap[MN]? = some (.cells #[.int .i64 (N.1 : Nat), .int .i64 (N.2 : Nat)] 29 (0, 0)) by rw [← hw3, ← hMN]; exact heap_alloc_last w2 _)
          have hM4 := (hk3.trans hk4).cells _ _ _ _ HJ.out.blk (by decide)
          have HM4 := Lib.hid hM4
          clear hf2 hk2 hk3 hk4 hN hM4 hb3 c0 c1
          have c0 : w3.cell? ⟨M, 0, none⟩ = some (.int .i64 (m.1 : Nat)) := cell_blk HM4.out 0
          have c1 : w3.cell? ⟨M, 1, none⟩ = some (.int .i64 (m.2 : Nat)) := cell_blk HM4.out 1
          have b0 : w3.cell? ⟨MN, 0, none⟩ = some (.int .i64 (N.1 : Nat)) := cell_blk HNB.out 0
          by_cases hn : N.1 = 0
          · obtain ⟨y1, y2⟩ := mt_o5 hn
            have HO := Lib.hid (one_last (D := r.1) (N := r.2.1) (Z := r.2.2) HXL.out HM0.out (fun _ _ => by rw [HN.out, hn]; exact Nat.lt_irrefl 0))
            have HPY := Lib.hid (HJ.out.prs.keep HK4.out)
            obtain ⟨v4, hb4, hrow4⟩ := HPY.out.ex
            have HB4 := Lib.hid hb4
            have HR4 := Lib.hid hrow4
            clear hn hb4 hrow4 HB HR
            go_wp2_with fail
            clear hw3 hMN b0
            have hHeld : (w3).drew.cell? ⟨B, 5, none⟩ = some v4 ∧ (w3).drew.cell? ⟨M, 0, none⟩ = some (.int .i64 (m.1 : Nat)) ∧ (w3).drew.cell? ⟨M, 1, none⟩ = some (.int .i64 (m.2 : Nat)) := ⟨cell_blk HB4.out 5, c0, c1⟩
            refine wp_region_Z (fun w' => w'.cell? ⟨B, 5, none⟩ = some v4 ∧ w'.cell? ⟨M, 0, none⟩ = some (.int .i64 (m.1 : Nat)) ∧ w'.cell? ⟨M, 1, none⟩ = some (.int .i64 (m.2 : Nat))) 14 [.take 0, .take 1, .take 2, .take 3, .take 4, .take 5, .take 6, .take 7, .take 8, .take 9, .go 10, .go 11, .take 12, .take 13, .last 14] [13, 11, 0, 1, 2, 3, 4, 5, 6, 7, 8, 9, 10, 12] (by kernel_rfl) (by kernel_rfl) (fun _ _ _ _ _ h => h) hHeld ?_
            refine T_light (a' := ?_) 51 rfl rfl rfl (of_decide_eq_true rfl) rfl hHeld (fun wq hSq K Q hK => ?_) ?_
            rotate_left
            · (go_step; exact hK)
            refine T_light (a' := ?_) 52 rfl rfl rfl (of_decide_eq_true rfl) rfl hHeld (fun wq hSq K Q hK => ?_) ?_
            rotate_left
            · (go_step; exact hK)
            refine T_light (a' := ?_) 53 rfl rfl rfl (of_decide_eq_true rfl) rfl hHeld (fun wq hSq K Q hK => ?_) ?_
            rotate_left
            · (go_step; exact hK)
            refine T_light (a' := ?_) 54 rfl rfl rfl (of_decide_eq_true rfl) rfl hHeld (fun wq hSq K Q hK => ?_) ?_
            rotate_left
            · (go_step; exact hK)
            refine T_light (a' := ?_) 55 rfl rfl rfl (of_decide_eq_true rfl) rfl hHeld (fun wq hSq K Q hK => ?_) ?_
            rotate_left
            · ((have r1 := hSq.1; go_step); exact hK)
            refine T_light (a' := ?_) 56 rfl rfl rfl (of_decide_eq_true rfl) rfl hHeld (fun wq hSq K Q hK => ?_) ?_
            rotate_left
            · (go_step; exact hK)
            refine T_light (a' := ?_) 57 rfl rfl rfl (of_decide_eq_true rfl) rfl hHeld (fun wq hSq K Q hK => ?_) ?_
            rotate_left
            · ((have r1 := hSq.2.1; go_step); exact hK)
            refine T_light (a' := ?_) 58 rfl rfl rfl (of_decide_eq_true rfl) rfl hHeld (fun wq hSq K Q hK => ?_) ?_
            rotate_left
            · (go_step; exact hK)
            refine T_light (a' := ?_) 59 rfl rfl rfl (of_decide_eq_true rfl) rfl hHeld (fun wq hSq K Q hK => ?_) ?_
            rotate_left
            · ((have r1 := hSq.2.2; go_step); exact hK)
            refine T_light (a' := ?_) 60 rfl rfl rfl (of_decide_eq_true rfl) rfl hHeld (fun wq hSq K Q hK => ?_) ?_
            rotate_left
            · (go_step; exact hK)
            refine T_go rfl rfl (fun K hK => ?_)
            go_step
            refine hK _ _ ⟨cell_alloc hHeld.1, cell_alloc hHeld.2.1, cell_alloc hHeld.2.2⟩ ?_
            clear hK K
            refine T_go rfl rfl (fun K hK => ?_)
            refine wp_append_own _ _ _ 42 rfl n₀ 55 i0 (.agg #[.int .u8 0, .int .i64 0, .int .i64 0]) 3 24 Try.underlying42 hi hz0 hz1 hz2 rfl (by decide) v4 ts'.length (tksC ts') rfl (World.ownsRow.alloc (w := (w3).drew) HR4.out _) ⟨((w3).drew).heap.size, 0, none⟩ 1 1 (tkC (0, m.1, m.2)) rfl rfl (tok_new ((w3).drew) (0, m.1, m.2)) (one55 _) (mt_toks HC.out).1 (mt_toks HC.out).2 (Nat.le_trans HPY.out.size (by simp)) ?_
            intro v9 w9 hown9 hgrow9 _
            obtain ⟨g9, cap9, rfl⟩ := ownsRow_succ hown9
            obtain ⟨hb9, hp9, hk9⟩ := pb_app (W := (w3).drew) HPY.out.low HPY.out.size HB4.out HR4.out hown9 hgrow9
            have f9 := frozen_blk hb9 5
            have c9 : w9.cell? ⟨B, 5, none⟩ = some v4 := cell_blk hb9 5
            have HP9 := Lib.hid hp9
            have HK9 := Lib.hid hk9
            have hM9 : w9.heap[M]? = some (.cells #[.int .i64 (m.1 : Nat), .int .i64 (m.2 : Nat)] 29 (0, 0)) := grow_blk (W := (w3).drew) hgrow9 HR4.out (HM4.out) (by decide)
            have hMs := HK9.out.blk (show ((w3).drew).heap[M]? = some (.cells #[.int .i64 (m.1 : Nat), .int .i64 (m.2 : Nat)] 29 (0, 0)) from HM4.out) (by decide) (by decide)
            have c8 : (w9.setCell ⟨B, 5, none⟩ (.slice (some ⟨g9, 0, none⟩) (ts'.length + 1) cap9)).cell? ⟨M, 0, none⟩ = some (.int .i64 (m.1 : Nat)) := cell_blk hMs 0
            have hHeld : w9.cell? ⟨B, 5, none⟩ = some v4 ∧ w9.cell? ⟨M, 0, none⟩ = some (.int .i64 (m.1 : Nat)) ∧ w9.cell? ⟨M, 1, none⟩ = some (.int .i64 (m.2 : Nat)) := ⟨c9, cell_blk hM9 0, cell_blk hM9 1⟩
            clear hown9 hgrow9 hb9 hp9 hk9 hM9 hMs
            refine hK _ _ hHeld ?_
            clear hK K
            refine T_light (a' := ?_) 63 rfl rfl rfl (of_decide_eq_true rfl) rfl hHeld (fun wq hSq K Q hK => ?_) ?_
            rotate_left
            · (go_step; exact hK)
            refine T_light (a' := ?_) 64 rfl rfl rfl (of_decide_eq_true rfl) rfl hHeld (fun wq hSq K Q hK => ?_) ?_
            rotate_left
            · (go_step; exact hK)
            refine T_last rfl rfl (fun K hK => ?_)
            go_step
            refine hK _ _ ?_
            clear hK K
            refine T_done ?_
            clear hHeld
            go_wp2_with fail
            simp only [Exit.jump]
            go_ret
            have hi := HJ.out.is
            rw [HO.out] at hi
            rw [← hi]
            exact ⟨rfl, HP9.out, ⟨x + 1, mt_oa HM0.out, HK9.out.fnd HF4.out.drew0⟩, HJ.out.below.trans (HK4.out.below.trans ((Below.drew0 HPY.out.size).trans HK9.out.below))⟩
          · obtain ⟨_, _, y1, y2⟩ := mt_o4 hn
            have HO := Lib.hid (one_more (D := r.1) (N := r.2.1) (Z := r.2.2) (m := m) (by rw [HL.out]; exact HX.out) HM0.out HZ.out (by rw [HN.out]; exact Nat.pos_of_ne_zero hn))
            clear hn HB HR
            go_wp2_with fail
            clear hw3 hMN b0
            refine (lit_any x n₀ B r s _ ts' _ (HJ.out.prs.keep HK4.out) HJ.out.lt HC.out).mono ?_
            rintro e w5 ⟨⟨v5, rfl⟩, hp5, hk5⟩
            have HP5 := Lib.hid hp5
            have HF5 := Lib.hid (hk5.fnd HF4.out)
            have hM5 := hk5.blk HM4.out (by decide) (by decide)
            have hN5 := hk5.blk HNB.out (by decide) (by decide)
            have HB5 := Lib.hid (HK4.out.below.trans hk5.below)
            have HM5 := Lib.hid hM5
            clear c0 c1
            have c0 : w5.cell? ⟨M, 0, none⟩ = some (.int .i64 (m.1 : Nat)) := cell_blk hM5 0
            have c1 : w5.cell? ⟨M, 1, none⟩ = some (.int .i64 (m.2 : Nat)) := cell_blk hM5 1
            have f0 : ∀ j, w5.frozen? ⟨M, j, none⟩ = false := frozen_blk hM5
            have b0 : w5.cell? ⟨MN, 0, none⟩ = some (.int .i64 (N.1 : Nat)) := cell_blk hN5 0
            have b1 : w5.cell? ⟨MN, 1, none⟩ = some (.int .i64 (N.2 : Nat)) := cell_blk hN5 1
            clear hp5 hk5 hM5 hN5
            go_wp2_with fail
            go_step3
            rw [ex]
            have h1 : (w5.setCell ⟨M, 0, none⟩ (.int .i64 (N.1 : Nat))).heap[M]? = some (.cells #[.int .i64 (N.1 : Nat), .int .i64 (m.2 : Nat)] 29 (0, 0)) := by simp [World.setCell, Array.getElem?_modify, HM5.out]
            exact And.intro rfl (And.intro ⟨x + 1, M, N, ts' ++ [litT (byteL s) x], _, _, _, _, _, _, _, _, _, _, _, _, _, _, _, _, _, _, _, _, _, _, _, _, _, _, _, _, _, _, _, _, _, _, _, _, _, _, _, _, _, _, _, _, _, _, _, _, _, _, _, _, _, _, _, _, _, _, _, _, _, _, _, rfl, Lib.hid ⟨HX.out, two_cells HM5.out, HJ.out.low, (HP5.out.set HM5.out (by decide) (by decide) _ _).set h1 (by decide) (by decide) _ _, (HF5.out.set HM5.out (by decide) _).set h1 (by decide) _,
              (((HJ.out.below.trans HB5.out).setCell (p := ⟨M, 0, none⟩) HJ.out.low _).setCell (p := ⟨M, 1, none⟩) HJ.out.low _), (by
                have h := HJ.out.is
                rw [HO.out, HN.out] at h
                rw [List.append_assoc]
                exact h), (by rw [← HN.out]; exact look_or _ _ _ _ _), mt_of HJ.out.cnt⟩⟩ (mt_oe HXL.out))
        · obtain ⟨x1, x2⟩ := mt_o7 hx
          have x3 := mt_od hx
          have HO := Lib.hid (one_last (D := r.1) (N := r.2.1) (Z := r.2.2) HXL.out HM0.out (fun _ h => absurd (by rw [HL.out] at h; exact h) hx))
          clear hx
          have hHeld : w'.drew.cell? ⟨M, 0, none⟩ = some (.int .i64 (m.1 : Nat)) ∧ w'.drew.cell? ⟨B, 2, none⟩ = some (.int .i64 (r.2.2 : Nat)) ∧ w'.drew.cell? ⟨B, 3, none⟩ = some (.string s) := ⟨c0, cell_blk HB.out 2, cell_blk HB.out 3⟩
          refine wp_region_T (fun w' => w'.cell? ⟨M, 0, none⟩ = some (.int .i64 (m.1 : Nat)) ∧ w'.cell? ⟨B, 2, none⟩ = some (.int .i64 (r.2.2 : Nat)) ∧ w'.cell? ⟨B, 3, none⟩ = some (.string s)) [.take 0, .take 1, .take 2, .take 3, .take 4, .take 5, .take 6, .take 7, .take 8, .take 9, .take 10, .take 11, .take 12, .take 13, .take 14, .take 15, .take 16, .take 17] (by kernel_rfl) (by kernel_rfl) (fun _ _ _ _ _ h => h) hHeld ?_
          refine T_light (a' := ?_) 18 rfl rfl rfl (of_decide_eq_true rfl) rfl hHeld (fun wq hSq K Q hK => ?_) ?_
          rotate_left
          · (go_step; exact hK)
          refine T_light (a' := ?_) 19 rfl rfl rfl (of_decide_eq_true rfl) rfl hHeld (fun wq hSq K Q hK => ?_) ?_
          rotate_left
          · ((have r1 := hSq.1; go_step); exact hK)
          refine T_light (a' := ?_) 20 rfl rfl rfl (of_decide_eq_true rfl) rfl hHeld (fun wq hSq K Q hK => ?_) ?_
          rotate_left
          · (go_step; exact hK)
          refine T_light (a' := ?_) 21 rfl rfl rfl (of_decide_eq_true rfl) rfl hHeld (fun wq hSq K Q hK => ?_) ?_
          rotate_left
          · (go_step; exact hK)
          refine T_light (a' := ?_) 22 rfl rfl rfl (of_decide_eq_true rfl) rfl hHeld (fun wq hSq K Q hK => ?_) ?_
          rotate_left
          · (go_step; exact hK)
          refine T_light (a' := ?_) 23 rfl rfl rfl (of_decide_eq_true rfl) rfl hHeld (fun wq hSq K Q hK => ?_) ?_
          rotate_left
          · (go_step; exact hK)
          refine T_light (a' := ?_) 24 rfl rfl rfl (of_decide_eq_true rfl) rfl hHeld (fun wq hSq K Q hK => ?_) ?_
          rotate_left
          · ((have r1 := hSq.2.1; go_step); exact hK)
          refine T_light (a' := ?_) 25 rfl rfl rfl (of_decide_eq_true rfl) rfl hHeld (fun wq hSq K Q hK => ?_) ?_
          rotate_left
          · (go_step; exact hK)
          refine T_light (a' := ?_) 26 rfl rfl rfl (of_decide_eq_true rfl) rfl hHeld (fun wq hSq K Q hK => ?_) ?_
          rotate_left
          · (go_step; exact hK)
          refine T_light (a' := ?_) 27 rfl rfl rfl (of_decide_eq_true rfl) rfl hHeld (fun wq hSq K Q hK => ?_) ?_
          rotate_left
          · (go_step; exact hK)
          refine T_light (a' := ?_) 28 rfl rfl rfl (of_decide_eq_true rfl) rfl hHeld (fun wq hSq K Q hK => ?_) ?_
          rotate_left
          · (go_step; exact hK)
          refine T_light (a' := ?_) 29 rfl rfl rfl (of_decide_eq_true rfl) rfl hHeld (fun wq hSq K Q hK => ?_) ?_
          rotate_left
          · (go_step; exact hK)
          refine T_light (a' := ?_) 30 rfl rfl rfl (of_decide_eq_true rfl) rfl hHeld (fun wq hSq K Q hK => ?_) ?_
          rotate_left
          · (go_step; exact hK)
          refine T_light (a' := ?_) 31 rfl rfl rfl (of_decide_eq_true rfl) rfl hHeld (fun wq hSq K Q hK => ?_) ?_
          rotate_left
          · (go_step; exact hK)
          refine T_light (a' := ?_) 32 rfl rfl rfl (of_decide_eq_true rfl) rfl hHeld (fun wq hSq K Q hK => ?_) ?_
          rotate_left
          · ((have r1 := hSq.2.2; go_step); exact hK)
          refine T_light (a' := ?_) 33 rfl rfl rfl (of_decide_eq_true rfl) rfl hHeld (fun wq hSq K Q hK => ?_) ?_
          rotate_left
          · (go_step; exact hK)
          refine T_light (a' := ?_) 34 rfl rfl rfl (of_decide_eq_true rfl) rfl hHeld (fun wq hSq K Q hK => ?_) ?_
          rotate_left
          · (go_step; exact hK)
          refine T_light (a' := ?_) 35 rfl rfl rfl (of_decide_eq_true rfl) rfl hHeld (fun wq hSq K Q hK => ?_) ?_
          rotate_left
          · (go_step; exact hK)
          refine T_done ?_
          clear hHeld
          go_wp2_with fail
          have HPD := Lib.hid (HJ.out.prs.below (Below.refl _ _).drew)
          have hHeld : (w'.drew).drew.cell? ⟨B, 5, none⟩ = some v ∧ (w'.drew).drew.cell? ⟨M, 0, none⟩ = some (.int .i64 (m.1 : Nat)) ∧ (w'.drew).drew.cell? ⟨M, 1, none⟩ = some (.int .i64 (m.2 : Nat)) := ⟨cell_blk HB.out 5, c0, c1⟩
          refine wp_region_Z (fun w' => w'.cell? ⟨B, 5, none⟩ = some v ∧ w'.cell? ⟨M, 0, none⟩ = some (.int .i64 (m.1 : Nat)) ∧ w'.cell? ⟨M, 1, none⟩ = some (.int .i64 (m.2 : Nat))) 14 [.take 0, .take 1, .take 2, .take 3, .take 4, .take 5, .take 6, .take 7, .take 8, .take 9, .go 10, .go 11, .take 12, .take 13, .last 14] [13, 11, 0, 1, 2, 3, 4, 5, 6, 7, 8, 9, 10, 12] (by kernel_rfl) (by kernel_rfl) (fun _ _ _ _ _ h => h) hHeld ?_
          refine T_light (a' := ?_) 51 rfl rfl rfl (of_decide_eq_true rfl) rfl hHeld (fun wq hSq K Q hK => ?_) ?_
          rotate_left
          · (go_step; exact hK)
          refine T_light (a' := ?_) 52 rfl rfl rfl (of_decide_eq_true rfl) rfl hHeld (fun wq hSq K Q hK => ?_) ?_
          rotate_left
          · (go_step; exact hK)
          refine T_light (a' := ?_) 53 rfl rfl rfl (of_decide_eq_true rfl) rfl hHeld (fun wq hSq K Q hK => ?_) ?_
          rotate_left
          · (go_step; exact hK)
          refine T_light (a' := ?_) 54 rfl rfl rfl (of_decide_eq_true rfl) rfl hHeld (fun wq hSq K Q hK => ?_) ?_
          rotate_left
          · (go_step; exact hK)
          refine T_light (a' := ?_) 55 rfl rfl rfl (of_decide_eq_true rfl) rfl hHeld (fun wq hSq K Q hK => ?_) ?_
          rotate_left
          · ((have r1 := hSq.1; go_step); exact hK)
          refine T_light (a' := ?_) 56 rfl rfl rfl (of_decide_eq_true rfl) rfl hHeld (fun wq hSq K Q hK => ?_) ?_
          rotate_left
          · (go_step; exact hK)
          refine T_light (a' := ?_) 57 rfl rfl rfl (of_decide_eq_true rfl) rfl hHeld (fun wq hSq K Q hK => ?_) ?_
          rotate_left
          · ((have r1 := hSq.2.1; go_step); exact hK)
          refine T_light (a' := ?_) 58 rfl rfl rfl (of_decide_eq_true rfl) rfl hHeld (fun wq hSq K Q hK => ?_) ?_
          rotate_left
          · (go_step; exact hK)
          refine T_light (a' := ?_) 59 rfl rfl rfl (of_decide_eq_true rfl) rfl hHeld (fun wq hSq K Q hK => ?_) ?_
          rotate_left
          · ((have r1 := hSq.2.2; go_step); exact hK)
          refine T_light (a' := ?_) 60 rfl rfl rfl (of_decide_eq_true rfl) rfl hHeld (fun wq hSq K Q hK => ?_) ?_
          rotate_left
          · (go_step; exact hK)
          refine T_go rfl rfl (fun K hK => ?_)
          go_step
          refine hK _ _ ⟨cell_alloc hHeld.1, cell_alloc hHeld.2.1, cell_alloc hHeld.2.2⟩ ?_
          clear hK K
          refine T_go rfl rfl (fun K hK => ?_)
          refine wp_append_own _ _ _ 42 rfl n₀ 55 i0 (.agg #[.int .u8 0, .int .i64 0, .int .i64 0]) 3 24 Try.underlying42 hi hz0 hz1 hz2 rfl (by decide) v ts'.length (tksC ts') rfl (World.ownsRow.alloc (w := (w'.drew).drew) HR.out _) ⟨((w'.drew).drew).heap.size, 0, none⟩ 1 1 (tkC (0, m.1, m.2)) rfl rfl (tok_new ((w'.drew).drew) (0, m.1, m.2)) (one55 _) (mt_toks HC.out).1 (mt_toks HC.out).2 (Nat.le_trans HPD.out.size (by simp)) ?_
          intro v9 w9 hown9 hgrow9 _
          obtain ⟨g9, cap9, rfl⟩ := ownsRow_succ hown9
          obtain ⟨hb9, hp9, hk9⟩ := pb_app (W := (w'.drew).drew) HPD.out.low HPD.out.size HB.out HR.out hown9 hgrow9
          have f9 := frozen_blk hb9 5
          have c9 : w9.cell? ⟨B, 5, none⟩ = some v := cell_blk hb9 5
          have HP9 := Lib.hid hp9
          have HK9 := Lib.hid hk9
          have hM9 : w9.heap[M]? = some (.cells #[.int .i64 (m.1 : Nat), .int .i64 (m.2 : Nat)] 29 (0, 0)) := grow_blk (W := (w'.drew).drew) hgrow9 HR.out (HJ.out.blk) (by decide)
          have hMs := HK9.out.blk (show ((w'.drew).drew).heap[M]? = some (.cells #[.int .i64 (m.1 : Nat), .int .i64 (m.2 : Nat)] 29 (0, 0)) from HJ.out.blk) (by decide) (by decide)
          have c8 : (w9.setCell ⟨B, 5, none⟩ (.slice (some ⟨g9, 0, none⟩) (ts'.length + 1) cap9)).cell? ⟨M, 0, none⟩ = some (.int .i64 (m.1 : Nat)) := cell_blk hMs 0
          have hHeld : w9.cell? ⟨B, 5, none⟩ = some v ∧ w9.cell? ⟨M, 0, none⟩ = some (.int .i64 (m.1 : Nat)) ∧ w9.cell? ⟨M, 1, none⟩ = some (.int .i64 (m.2 : Nat)) := ⟨c9, cell_blk hM9 0, cell_blk hM9 1⟩
          clear hown9 hgrow9 hb9 hp9 hk9 hM9 hMs
          refine hK _ _ hHeld ?_
          clear hK K
          refine T_light (a' := ?_) 63 rfl rfl rfl (of_decide_eq_true rfl) rfl hHeld (fun wq hSq K Q hK => ?_) ?_
          rotate_left
          · (go_step; exact hK)
          refine T_light (a' := ?_) 64 rfl rfl rfl (of_decide_eq_true rfl) rfl hHeld (fun wq hSq K Q hK => ?_) ?_
          rotate_left
          · (go_step; exact hK)
          refine T_last rfl rfl (fun K hK => ?_)
          go_step
          refine hK _ _ ?_
          clear hK K
          refine T_done ?_
          clear hHeld
          go_wp2_with fail
          simp only [Exit.jump]
          go_ret
          have hi := HJ.out.is
          rw [HO.out] at hi
          rw [← hi]
          exact ⟨rfl, HP9.out, ⟨x, Nat.le_add_right x _, HK9.out.fnd HJ.out.fnd.drew0.drew0⟩, HJ.out.below.trans ((Below.drew0 HJ.out.prs.size).trans ((Below.drew0 HPD.out.size).trans HK9.out.below))⟩
      · obtain ⟨z1, z2⟩ := mt_o7 hz
        have HO := Lib.hid (one_last (D := r.1) (N := r.2.1) (Z := r.2.2) HXL.out HM0.out (fun h _ => absurd h hz))
        clear hz
        have hHeld : w'.drew.cell? ⟨M, 0, none⟩ = some (.int .i64 (m.1 : Nat)) ∧ w'.drew.cell? ⟨B, 2, none⟩ = some (.int .i64 (r.2.2 : Nat)) ∧ w'.drew.cell? ⟨B, 3, none⟩ = some (.string s) := ⟨c0, cell_blk HB.out 2, cell_blk HB.out 3⟩
        refine wp_region_T (fun w' => w'.cell? ⟨M, 0, none⟩ = some (.int .i64 (m.1 : Nat)) ∧ w'.cell? ⟨B, 2, none⟩ = some (.int .i64 (r.2.2 : Nat)) ∧ w'.cell? ⟨B, 3, none⟩ = some (.string s)) [.take 0, .take 1, .take 2, .take 3, .take 4, .take 5, .take 6, .take 7, .take 8, .take 9, .take 10, .take 11, .take 12, .take 13, .take 14, .take 15, .take 16, .take 17] (by kernel_rfl) (by kernel_rfl) (fun _ _ _ _ _ h => h) hHeld ?_
        refine T_light (a' := ?_) 18 rfl rfl rfl (of_decide_eq_true rfl) rfl hHeld (fun wq hSq K Q hK => ?_) ?_
        rotate_left
        · (go_step; exact hK)
        refine T_light (a' := ?_) 19 rfl rfl rfl (of_decide_eq_true rfl) rfl hHeld (fun wq hSq K Q hK => ?_) ?_
        rotate_left
        · ((have r1 := hSq.1; go_step); exact hK)
        refine T_light (a' := ?_) 20 rfl rfl rfl (of_decide_eq_true rfl) rfl hHeld (fun wq hSq K Q hK => ?_) ?_
        rotate_left
        · (go_step; exact hK)
        refine T_light (a' := ?_) 21 rfl rfl rfl (of_decide_eq_true rfl) rfl hHeld (fun wq hSq K Q hK => ?_) ?_
        rotate_left
        · (go_step; exact hK)
        refine T_light (a' := ?_) 22 rfl rfl rfl (of_decide_eq_true rfl) rfl hHeld (fun wq hSq K Q hK => ?_) ?_
        rotate_left
        · (go_step; exact hK)
        refine T_light (a' := ?_) 23 rfl rfl rfl (of_decide_eq_true rfl) rfl hHeld (fun wq hSq K Q hK => ?_) ?_
        rotate_left
        · (go_step; exact hK)
        refine T_light (a' := ?_) 24 rfl rfl rfl (of_decide_eq_true rfl) rfl hHeld (fun wq hSq K Q hK => ?_) ?_
        rotate_left
        · ((have r1 := hSq.2.1; go_step); exact hK)
        refine T_light (a' := ?_) 25 rfl rfl rfl (of_decide_eq_true rfl) rfl hHeld (fun wq hSq K Q hK => ?_) ?_
        rotate_left
        · (go_step; exact hK)
        refine T_light (a' := ?_) 26 rfl rfl rfl (of_decide_eq_true rfl) rfl hHeld (fun wq hSq K Q hK => ?_) ?_
        rotate_left
        · (go_step; exact hK)
        refine T_pass2 (a' := ?_) 27 rfl rfl (by kernel_rfl) (fun K hK => ?_) ?_
        rotate_left
        · (simp only [Act.put, List.setIfInBounds_toArray, List.set_cons_zero, List.set_cons_succ]; exact hK)
        refine T_pass2 (a' := ?_) 28 rfl rfl (by kernel_rfl) (fun K hK => ?_) ?_
        rotate_left
        · (simp only [Act.put, List.setIfInBounds_toArray, List.set_cons_zero, List.set_cons_succ]; exact hK)
        refine T_pass2 (a' := ?_) 29 rfl rfl (by kernel_rfl) (fun K hK => ?_) ?_
        rotate_left
        · (simp only [Act.put, List.setIfInBounds_toArray, List.set_cons_zero, List.set_cons_succ]; exact hK)
        refine T_pass2 (a' := ?_) 30 rfl rfl (by kernel_rfl) (fun K hK => ?_) ?_
        rotate_left
        · (simp only [Act.put, List.setIfInBounds_toArray, List.set_cons_zero, List.set_cons_succ]; exact hK)
        refine T_pass2 (a' := ?_) 31 rfl rfl (by kernel_rfl) (fun K hK => ?_) ?_
        rotate_left
        · (simp only [Act.put, List.setIfInBounds_toArray, List.set_cons_zero, List.set_cons_succ]; exact hK)
        refine T_pass2 (a' := ?_) 32 rfl rfl (by kernel_rfl) (fun K hK => ?_) ?_
        rotate_left
        · (simp only [Act.put, List.setIfInBounds_toArray, List.set_cons_zero, List.set_cons_succ]; exact hK)
        refine T_pass2 (a' := ?_) 33 rfl rfl (by kernel_rfl) (fun K hK => ?_) ?_
        rotate_left
        · (simp only [Act.put, List.setIfInBounds_toArray, List.set_cons_zero, List.set_cons_succ]; exact hK)
        refine T_pass2 (a' := ?_) 34 rfl rfl (by kernel_rfl) (fun K hK => ?_) ?_
        rotate_left
        · (simp only [Act.put, List.setIfInBounds_toArray, List.set_cons_zero, List.set_cons_succ]; exact hK)
        refine T_light (a' := ?_) 35 rfl rfl rfl (of_decide_eq_true rfl) rfl hHeld (fun wq hSq K Q hK => ?_) ?_
        rotate_left
        · (go_step; exact hK)
        refine T_done ?_
        clear hHeld
        go_wp2_with fail
        have HPD := Lib.hid (HJ.out.prs.below (Below.refl _ _).drew)
        have hHeld : (w'.drew).drew.cell? ⟨B, 5, none⟩ = some v ∧ (w'.drew).drew.cell? ⟨M, 0, none⟩ = some (.int .i64 (m.1 : Nat)) ∧ (w'.drew).drew.cell? ⟨M, 1, none⟩ = some (.int .i64 (m.2 : Nat)) := ⟨cell_blk HB.out 5, c0, c1⟩
        refine wp_region_Z (fun w' => w'.cell? ⟨B, 5, none⟩ = some v ∧ w'.cell? ⟨M, 0, none⟩ = some (.int .i64 (m.1 : Nat)) ∧ w'.cell? ⟨M, 1, none⟩ = some (.int .i64 (m.2 : Nat))) 14 [.take 0, .take 1, .take 2, .take 3, .take 4, .take 5, .take 6, .take 7, .take 8, .take 9, .go 10, .go 11, .take 12, .take 13, .last 14] [13, 11, 0, 1, 2, 3, 4, 5, 6, 7, 8, 9, 10, 12] (by kernel_rfl) (by kernel_rfl) (fun _ _ _ _ _ h => h) hHeld ?_
        refine T_light (a' := ?_) 51 rfl rfl rfl (of_decide_eq_true rfl) rfl hHeld (fun wq hSq K Q hK => ?_) ?_
        rotate_left
        · (go_step; exact hK)
        refine T_light (a' := ?_) 52 rfl rfl rfl (of_decide_eq_true rfl) rfl hHeld (fun wq hSq K Q hK => ?_) ?_
        rotate_left
        · (go_step; exact hK)
        refine T_light (a' := ?_) 53 rfl rfl rfl (of_decide_eq_true rfl) rfl hHeld (fun wq hSq K Q hK => ?_) ?_
        rotate_left
        · (go_step; exact hK)
        refine T_light (a' := ?_) 54 rfl rfl rfl (of_decide_eq_true rfl) rfl hHeld (fun wq hSq K Q hK => ?_) ?_
        rotate_left
        · (go_step; exact hK)
        refine T_light (a' := ?_) 55 rfl rfl rfl (of_decide_eq_true rfl) rfl hHeld (fun wq hSq K Q hK => ?_) ?_
        rotate_left
        · ((have r1 := hSq.1; go_step); exact hK)
        refine T_light (a' := ?_) 56 rfl rfl rfl (of_decide_eq_true rfl) rfl hHeld (fun wq hSq K Q hK => ?_) ?_
        rotate_left
        · (go_step; exact hK)
        refine T_light (a' := ?_) 57 rfl rfl rfl (of_decide_eq_true rfl) rfl hHeld (fun wq hSq K Q hK => ?_) ?_
        rotate_left
        · ((have r1 := hSq.2.1; go_step); exact hK)
        refine T_light (a' := ?_) 58 rfl rfl rfl (of_decide_eq_true rfl) rfl hHeld (fun wq hSq K Q hK => ?_) ?_
        rotate_left
        · (go_step; exact hK)
        refine T_light (a' := ?_) 59 rfl rfl rfl (of_decide_eq_true rfl) rfl hHeld (fun wq hSq K Q hK => ?_) ?_
        rotate_left
        · ((have r1 := hSq.2.2; go_step); exact hK)
        refine T_light (a' := ?_) 60 rfl rfl rfl (of_decide_eq_true rfl) rfl hHeld (fun wq hSq K Q hK => ?_) ?_
        rotate_left
        · (go_step; exact hK)
        refine T_go rfl rfl (fun K hK => ?_)
        go_step
        refine hK _ _ ⟨cell_alloc hHeld.1, cell_alloc hHeld.2.1, cell_alloc hHeld.2.2⟩ ?_
        clear hK K
        refine T_go rfl rfl (fun K hK => ?_)
        refine wp_append_own _ _ _ 42 rfl n₀ 55 i0 (.agg #[.int .u8 0, .int .i64 0, .int .i64 0]) 3 24 Try.underlying42 hi hz0 hz1 hz2 rfl (by decide) v ts'.length (tksC ts') rfl (World.ownsRow.alloc (w := (w'.drew).drew) HR.out _) ⟨((w'.drew).drew).heap.size, 0, none⟩ 1 1 (tkC (0, m.1, m.2)) rfl rfl (tok_new ((w'.drew).drew) (0, m.1, m.2)) (one55 _) (mt_toks HC.out).1 (mt_toks HC.out).2 (Nat.le_trans HPD.out.size (by simp)) ?_
        intro v9 w9 hown9 hgrow9 _
        obtain ⟨g9, cap9, rfl⟩ := ownsRow_succ hown9
        obtain ⟨hb9, hp9, hk9⟩ := pb_app (W := (w'.drew).drew) HPD.out.low HPD.out.size HB.out HR.out hown9 hgrow9
        have f9 := frozen_blk hb9 5
        have c9 : w9.cell? ⟨B, 5, none⟩ = some v := cell_blk hb9 5
        have HP9 := Lib.hid hp9
        have HK9 := Lib.hid hk9
        have hM9 : w9.heap[M]? = some (.cells #[.int .i64 (m.1 : Nat), .int .i64 (m.2 : Nat)] 29 (0, 0)) := grow_blk (W := (w'.drew).drew) hgrow9 HR.out (HJ.out.blk) (by decide)
        have hMs := HK9.out.blk (show ((w'.drew).drew).heap[M]? = some (.cells #[.int .i64 (m.1 : Nat), .int .i64 (m.2 : Nat)] 29 (0, 0)) from HJ.out.blk) (by decide) (by decide)
        have c8 : (w9.setCell ⟨B, 5, none⟩ (.slice (some ⟨g9, 0, none⟩) (ts'.length + 1) cap9)).cell? ⟨M, 0, none⟩ = some (.int .i64 (m.1 : Nat)) := cell_blk hMs 0
        have hHeld : w9.cell? ⟨B, 5, none⟩ = some v ∧ w9.cell? ⟨M, 0, none⟩ = some (.int .i64 (m.1 : Nat)) ∧ w9.cell? ⟨M, 1, none⟩ = some (.int .i64 (m.2 : Nat)) := ⟨c9, cell_blk hM9 0, cell_blk hM9 1⟩
        clear hown9 hgrow9 hb9 hp9 hk9 hM9 hMs
        refine hK _ _ hHeld ?_
        clear hK K
        refine T_light (a' := ?_) 63 rfl rfl rfl (of_decide_eq_true rfl) rfl hHeld (fun wq hSq K Q hK => ?_) ?_
        rotate_left
        · (go_step; exact hK)
        refine T_light (a' := ?_) 64 rfl rfl rfl (of_decide_eq_true rfl) rfl hHeld (fun wq hSq K Q hK => ?_) ?_
        rotate_left
        · (go_step; exact hK)
        refine T_last rfl rfl (fun K hK => ?_)
        go_step
        refine hK _ _ ?_
        clear hK K
        refine T_done ?_
        clear hHeld
        go_wp2_with fail
        simp only [Exit.jump]
        go_ret
        have hi := HJ.out.is
        rw [HO.out] at hi
        rw [← hi]
        exact ⟨rfl, HP9.out, ⟨x, Nat.le_add_right x _, HK9.out.fnd HJ.out.fnd.drew0.drew0⟩, HJ.out.below.trans ((Below.drew0 HJ.out.prs.size).trans ((Below.drew0 HPD.out.size).trans HK9.out.below))⟩
end Go.Proofs.Ytolkmjclldjkkaa
