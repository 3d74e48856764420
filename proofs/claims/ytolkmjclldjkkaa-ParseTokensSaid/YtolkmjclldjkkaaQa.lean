/-
  Parse: the document's finder: its memory, what 'New', 'Put', 'Long' come to (contracts, by hand).
-/
import Derived.Test.YtolkmjclldjkkaaPh
set_option linter.unusedSimpArgs false
set_option linter.unusedVariables false
namespace Go.Proofs.Ytolkmjclldjkkaa
open Go.RowKit

/-- which places were put: the first k of n -/
def boolA (n k : Nat) : Array Value := ((List.range n).map fun i => Value.bool (decide (i < k))).toArray
theorem boolA_get {n k i : Nat} (h : i < n) : (boolA n k)[i]? = some (.bool (decide (i < k))) := by simp [boolA, h]
theorem boolA_set {n k : Nat} : (boolA n k).setIfInBounds k (.bool true) = boolA n (k + 1) := by
  apply Array.ext_getElem?
  intro i
  rw [Array.getElem?_setIfInBounds]
  by_cases hi : i < n
  · rw [boolA_get hi, boolA_get hi]
    split
    · rename_i h
      subst h
      have : k < (boolA n k).size := by simpa [boolA] using hi
      simp [this]
    · rename_i h
      have e : decide (i < k) = decide (i < k + 1) := by
        congr 1
        exact propext ⟨fun h1 => by omega, fun h1 => by omega⟩
      rw [e]
  · have h1 : (boolA n k)[i]? = none := by simp [boolA]; omega
    have h2 : (boolA n (k + 1))[i]? = none := by simp [boolA]; omega
    rw [h1, h2]
    split
    · rename_i h
      subst h
      have : ¬ k < (boolA n k).size := by simpa [boolA] using hi
      simp [this]
    · rfl
/-- the document's finder at block B: its text, its row of marks at block G, of which the first k are set -/
structure Rf (W : World) (n₀ B G : Nat) (s : ByteArray) (k : Nat) : Prop where
  blk : W.heap[B]? = some (.cells #[.string s, .slice (some ⟨G, 0, none⟩) s.size s.size, .int .i64 ((k : Int) - 1)] 88 (0, 0))
  row : W.heap[G]? = some (.cells (boolA s.size k) 4 (0, 0))
  low : n₀ ≤ B ∧ n₀ ≤ G
  size : n₀ ≤ W.heap.size
/-- what is kept: what lay below n, and all cells but the document's finder's -/
structure KeepR (n : Nat) (W W' : World) : Prop where
  below : Below n W W'
  cells : ∀ (k : Nat) (cs : Array Value) (t : TypeId) (z : Nat × Nat), W.heap[k]? = some (.cells cs t z) → t ≠ 88 → t ≠ 4 → W'.heap[k]? = some (.cells cs t z)
theorem KeepR.refl (n : Nat) (W : World) : KeepR n W W := ⟨Below.refl _ _, fun _ _ _ _ h _ _ => h⟩
theorem KeepR.trans {n : Nat} {A B C : World} (h : KeepR n A B) (k : KeepR n B C) : KeepR n A C := ⟨h.below.trans k.below, fun i cs t z hi h1 h2 => k.cells i cs t z (h.cells i cs t z hi h1 h2) h1 h2⟩
theorem KeepR.of_below {n : Nat} {A B : World} (h : Below A.heap.size A B) (hn : n ≤ A.heap.size) : KeepR n A B :=
  ⟨h.mono hn, fun k cs t z hk _ _ => (h.block k (Array.getElem?_eq_some_iff.1 hk).1).trans hk⟩
theorem Rf.below {W W' : World} {n₀ B G : Nat} {s : ByteArray} {k : Nat} (h : Rf W n₀ B G s k) (hb : Below W.heap.size W W') : Rf W' n₀ B G s k :=
  ⟨(hb.block B (Array.getElem?_eq_some_iff.1 h.blk).1).trans h.blk, (hb.block G (Array.getElem?_eq_some_iff.1 h.row).1).trans h.row, h.low, Nat.le_trans h.size hb.size⟩
theorem Rf.ne {W : World} {n₀ B G : Nat} {s : ByteArray} {k : Nat} (h : Rf W n₀ B G s k) : B ≠ G := fun e => by
  have h1 := h.blk
  rw [e, h.row] at h1
  have h2 := congrArg (fun o => match o with | some (Obj.cells _ t _) => t | _ => 0) h1
  exact absurd (show (4 : TypeId) = 88 from h2) (by decide)
theorem Rf.put {W : World} {n₀ B G : Nat} {s : ByteArray} {k : Nat} (h : Rf W n₀ B G s k) : Rf ((W.setCell ⟨G, k, none⟩ (.bool true)).setCell ⟨B, 2, none⟩ (.int .i64 (k : Nat))) n₀ B G s (k + 1) ∧
    KeepR n₀ W ((W.setCell ⟨G, k, none⟩ (.bool true)).setCell ⟨B, 2, none⟩ (.int .i64 (k : Nat))) := by
  have hne := h.ne
  have e1 : (W.setCell ⟨G, k, none⟩ (.bool true)).heap[G]? = some (.cells (boolA s.size (k + 1)) 4 (0, 0)) := by
    rw [← boolA_set]
    simp [World.setCell, Array.getElem?_modify, h.row]
  have e2 : (W.setCell ⟨G, k, none⟩ (.bool true)).heap[B]? = some (.cells #[.string s, .slice (some ⟨G, 0, none⟩) s.size s.size, .int .i64 ((k : Int) - 1)] 88 (0, 0)) := (Below.heap_setCell W ⟨G, k, none⟩ _ B hne).trans h.blk
  refine ⟨⟨?_, (Below.heap_setCell _ ⟨B, 2, none⟩ _ G hne.symm).trans e1, h.low, by simp [World.setCell]; exact h.size⟩, ((Below.refl n₀ W).setCell (p := ⟨G, k, none⟩) h.low.2 _).setCell (p := ⟨B, 2, none⟩) h.low.1 _, fun i cs t z hi h88 h4 => ?_⟩
  · have e3 : ((k + 1 : Nat) : Int) - 1 = (k : Nat) := by omega
    rw [e3]
    have h2 := e2
    generalize (W.setCell ⟨G, k, none⟩ (.bool true)) = V at h2 ⊢
    simp [World.setCell, Array.getElem?_modify, h2]
  · have n1 : i ≠ G := fun e => by subst e; rw [h.row] at hi; cases hi; exact h4 rfl
    have n2 : i ≠ B := fun e => by subst e; rw [h.blk] at hi; cases hi; exact h88 rfl
    exact (Below.heap_setCell _ ⟨B, 2, none⟩ _ i n2).trans ((Below.heap_setCell W ⟨G, k, none⟩ _ i n1).trans hi)
theorem boolA_zero (n : Nat) : (List.replicate n (Value.bool false)).toArray = boolA n 0 := by
  unfold boolA
  congr 1
  apply List.ext_getElem?
  intro i
  by_cases h : i < n
  · simp [h]
  · simp [h]
theorem mt_q1 {n : Nat} (h : n ≤ 100000) : 1 * n ≤ 281474976710656 ∧ n ≤ 9223372036854775807 := by omega
theorem rnew_any (s : ByteArray) (w : World) (hs : s.size ≤ 100000) :
    Calls Try.prog 34 #[.string s] w fun e w' => ∃ B G, e = .returned (.pointer (some ⟨B, 0, none⟩)) ∧ Rf w' w.heap.size B G s 0 ∧ Below w.heap.size w w' := by
  have hmk := make_row (P := Try.prog) 39 4 (.bool false) 1 Try.underlying39 (by kernel_rfl) rfl s.size (mt_q1 hs).1 (mt_q1 hs).2 w
  rw [boolA_zero] at hmk
  clear hs
  go_enter Try.func34, Try.ntmps34
  go_wp2_with fail
  go_ret
  have hb1 : Below w.heap.size w (w.alloc (.cells (boolA s.size 0) 4)) := (Below.refl _ w).alloc (Nat.le_refl _) _
  refine ⟨_, w.heap.size, rfl, ⟨?_, ?_, ⟨?_, Nat.le_refl _⟩, ?_⟩, hb1.alloc hb1.size _⟩
  · have h := heap_alloc_last (w.alloc (.cells (boolA s.size 0) 4)) (.cells #[.string s, .slice (some ⟨w.heap.size, 0, none⟩) s.size s.size, .int .i64 (-1)] 88)
    have e : (w.alloc (.cells (boolA s.size 0) 4)).heap.size = w.heap.size + 1 := by simp
    rw [e] at h
    exact h
  · exact (Below.heap_alloc _ _ _ (by simp)).trans (heap_alloc_last w _)
  · exact Nat.le_succ _
  · exact (hb1.alloc hb1.size _).size
theorem mt_q2 {k n : Nat} (h : k < n) : decide ((k : Int) < 0) = false ∧ decide ((n : Int) ≤ (k : Int)) = false ∧ decide (n ≤ k) = false ∧ decide ((k : Int) ≤ (k : Int) - 1) = false ∧ (0 : Int) ≤ (k : Int) ∧ (k : Int) < (n : Int) := by
  refine ⟨?_, ?_, ?_, ?_, by omega, by omega⟩
  all_goals (rw [decide_eq_false_iff_not]; omega)
theorem rput_any (k n₀ B G : Nat) (s : ByteArray) (w : World) (h : Rf w n₀ B G s k) (hk : k < s.size) :
    Calls Try.prog 38 #[.pointer (some ⟨B, 0, none⟩), .int .i64 (k : Nat)] w fun e w' => (∃ v, e = .returned v) ∧ Rf w' n₀ B G s (k + 1) ∧ KeepR n₀ w w' := by
  obtain ⟨d1, d2, d3, d4, n1, n2⟩ := mt_q2 hk
  have q0 : w.cell? ⟨B, 0, none⟩ = some (.string s) := cell_blk h.blk 0
  have q1 : w.cell? ⟨B, 1, none⟩ = some (.slice (some ⟨G, 0, none⟩) s.size s.size) := cell_blk h.blk 1
  have q2 : w.cell? ⟨B, 2, none⟩ = some (.int .i64 ((k : Int) - 1)) := cell_blk h.blk 2
  have g0 : w.cell? ⟨G, k, none⟩ = some (.bool (decide (k < k))) := (cell_blk h.row k).trans (boolA_get hk)
  have fg := frozen_blk h.row k
  have hb2 : (w.setCell ⟨G, k, none⟩ (.bool true)).heap[B]? = w.heap[B]? := Below.heap_setCell w ⟨G, k, none⟩ _ B h.ne
  have p2 : (w.setCell ⟨G, k, none⟩ (.bool true)).cell? ⟨B, 2, none⟩ = some (.int .i64 ((k : Int) - 1)) := cell_blk (hb2.trans h.blk) 2
  have pf := frozen_blk (hb2.trans h.blk) 2
  have H := Lib.hid h
  clear h hk hb2
  go_enter Try.func38, Try.ntmps38
  go_wp2_with fail
  go_ret
  exact ⟨⟨_, rfl⟩, H.out.put⟩
set_option maxHeartbeats 1000000 in
theorem rlong_any (p at_ : Nat) (A : Nat) (s : ByteArray) (w : World) (hs : s.size ≤ 140737488351232) (hA : w.cell? ⟨A, 0, none⟩ = some (.string s)) (hp : p < at_) (hat : at_ ≤ s.size) :
    Calls Try.prog 41 #[.pointer (some ⟨A, 0, none⟩), .int .i64 (p : Nat), .int .i64 (at_ : Nat)] w fun e w' => e = .returned (.int .i64 (longL (byteL s) p at_ : Nat)) ∧ Below w.heap.size w w' := by
  have HS := Lib.hid hs
  have HP := Lib.hid (And.intro hp hat)
  have HA := Lib.hid hA
  clear hs hp hat hA
  obtain ⟨R, hR⟩ : ∃ R, longL (byteL s) p at_ = R := ⟨_, rfl⟩
  rw [hR]
  have HR := Lib.hid hR
  clear hR
  go_enter Try.func41, Try.ntmps41
  go_wp2_with fail
  go_loopg [7] 258 (fun f s7 wx => ∃ n : Nat, s7 = .int .i64 (n : Int) ∧ Hid (n + f = 258) ∧ Hid (longGo (byteL s) p at_ n f = R) ∧ Hid (Below w.heap.size w wx))
  case atStart => exact ⟨0, rfl, Lib.hid rfl, HR, Lib.hid (Below.refl _ _)⟩
  case round =>
    obtain ⟨n, rfl, HN, HG, HB⟩ := hrel
    have qA := (HB.out.cell (p := ⟨A, 0, none⟩) (World.block_lt_of_cell? _ _ HA.out)).trans HA.out
    have hHeld : wr.drew.cell? ⟨A, 0, none⟩ = some (.string s) := qA
    have HH := Lib.hid hHeld
    clear hHeld qA
    cases gk with
    | zero =>
      obtain rfl : n = 258 := HN.out
      have HE := Lib.hid (show 258 = R from HG.out)
      go_wp2_with fail
      have hHeld := HH.out
      refine wp_region_T (fun w' => w'.cell? ⟨A, 0, none⟩ = some (.string s)) [.take 0, .take 1, .take 2, .take 3, .take 4, .take 5, .take 6, .take 7, .take 8, .take 9, .take 10, .take 11, .take 12, .take 13, .take 14, .take 15, .take 16, .take 17, .take 18, .take 19, .take 20, .take 21, .take 22, .take 23, .take 24, .take 25, .take 26, .take 27, .take 28, .take 29, .take 30, .take 31] (by kernel_rfl) (by kernel_rfl) (fun _ _ _ _ _ h => h) hHeld ?_
      refine T_light (a' := ?_) 8 rfl rfl rfl (of_decide_eq_true rfl) rfl hHeld (fun wq hSq K Q hK => ?_) ?_
      rotate_left
      · (go_step; exact hK)
      refine T_light (a' := ?_) 9 rfl rfl rfl (of_decide_eq_true rfl) rfl hHeld (fun wq hSq K Q hK => ?_) ?_
      rotate_left
      · (go_step; exact hK)
      refine T_light (a' := ?_) 10 rfl rfl rfl (of_decide_eq_true rfl) rfl hHeld (fun wq hSq K Q hK => ?_) ?_
      rotate_left
      · (go_step; exact hK)
      refine T_pass2 (a' := ?_) 11 rfl rfl (by kernel_rfl) (fun K hK => ?_) ?_
      rotate_left
      · (simp only [Act.put, List.setIfInBounds_toArray, List.set_cons_zero, List.set_cons_succ]; exact hK)
      refine T_pass2 (a' := ?_) 12 rfl rfl (by kernel_rfl) (fun K hK => ?_) ?_
      rotate_left
      · (simp only [Act.put, List.setIfInBounds_toArray, List.set_cons_zero, List.set_cons_succ]; exact hK)
      refine T_pass2 (a' := ?_) 13 rfl rfl (by kernel_rfl) (fun K hK => ?_) ?_
      rotate_left
      · (simp only [Act.put, List.setIfInBounds_toArray, List.set_cons_zero, List.set_cons_succ]; exact hK)
      refine T_pass2 (a' := ?_) 14 rfl rfl (by kernel_rfl) (fun K hK => ?_) ?_
      rotate_left
      · (simp only [Act.put, List.setIfInBounds_toArray, List.set_cons_zero, List.set_cons_succ]; exact hK)
      refine T_pass2 (a' := ?_) 15 rfl rfl (by kernel_rfl) (fun K hK => ?_) ?_
      rotate_left
      · (simp only [Act.put, List.setIfInBounds_toArray, List.set_cons_zero, List.set_cons_succ]; exact hK)
      refine T_pass2 (a' := ?_) 16 rfl rfl (by kernel_rfl) (fun K hK => ?_) ?_
      rotate_left
      · (simp only [Act.put, List.setIfInBounds_toArray, List.set_cons_zero, List.set_cons_succ]; exact hK)
      refine T_pass2 (a' := ?_) 17 rfl rfl (by kernel_rfl) (fun K hK => ?_) ?_
      rotate_left
      · (simp only [Act.put, List.setIfInBounds_toArray, List.set_cons_zero, List.set_cons_succ]; exact hK)
      refine T_pass2 (a' := ?_) 18 rfl rfl (by kernel_rfl) (fun K hK => ?_) ?_
      rotate_left
      · (simp only [Act.put, List.setIfInBounds_toArray, List.set_cons_zero, List.set_cons_succ]; exact hK)
      refine T_pass2 (a' := ?_) 19 rfl rfl (by kernel_rfl) (fun K hK => ?_) ?_
      rotate_left
      · (simp only [Act.put, List.setIfInBounds_toArray, List.set_cons_zero, List.set_cons_succ]; exact hK)
      refine T_light (a' := ?_) 20 rfl rfl rfl (of_decide_eq_true rfl) rfl hHeld (fun wq hSq K Q hK => ?_) ?_
      rotate_left
      · (go_step; exact hK)
      refine T_light (a' := ?_) 21 rfl rfl rfl (of_decide_eq_true rfl) rfl hHeld (fun wq hSq K Q hK => ?_) ?_
      rotate_left
      · (go_step; exact hK)
      refine T_pass2 (a' := ?_) 22 rfl rfl (by kernel_rfl) (fun K hK => ?_) ?_
      rotate_left
      · (simp only [Act.put, List.setIfInBounds_toArray, List.set_cons_zero, List.set_cons_succ]; exact hK)
      refine T_pass2 (a' := ?_) 23 rfl rfl (by kernel_rfl) (fun K hK => ?_) ?_
      rotate_left
      · (simp only [Act.put, List.setIfInBounds_toArray, List.set_cons_zero, List.set_cons_succ]; exact hK)
      refine T_pass2 (a' := ?_) 24 rfl rfl (by kernel_rfl) (fun K hK => ?_) ?_
      rotate_left
      · (simp only [Act.put, List.setIfInBounds_toArray, List.set_cons_zero, List.set_cons_succ]; exact hK)
      refine T_pass2 (a' := ?_) 25 rfl rfl (by kernel_rfl) (fun K hK => ?_) ?_
      rotate_left
      · (simp only [Act.put, List.setIfInBounds_toArray, List.set_cons_zero, List.set_cons_succ]; exact hK)
      refine T_pass2 (a' := ?_) 26 rfl rfl (by kernel_rfl) (fun K hK => ?_) ?_
      rotate_left
      · (simp only [Act.put, List.setIfInBounds_toArray, List.set_cons_zero, List.set_cons_succ]; exact hK)
      refine T_pass2 (a' := ?_) 27 rfl rfl (by kernel_rfl) (fun K hK => ?_) ?_
      rotate_left
      · (simp only [Act.put, List.setIfInBounds_toArray, List.set_cons_zero, List.set_cons_succ]; exact hK)
      refine T_pass2 (a' := ?_) 28 rfl rfl (by kernel_rfl) (fun K hK => ?_) ?_
      rotate_left
      · (simp only [Act.put, List.setIfInBounds_toArray, List.set_cons_zero, List.set_cons_succ]; exact hK)
      refine T_pass2 (a' := ?_) 29 rfl rfl (by kernel_rfl) (fun K hK => ?_) ?_
      rotate_left
      · (simp only [Act.put, List.setIfInBounds_toArray, List.set_cons_zero, List.set_cons_succ]; exact hK)
      refine T_pass2 (a' := ?_) 30 rfl rfl (by kernel_rfl) (fun K hK => ?_) ?_
      rotate_left
      · (simp only [Act.put, List.setIfInBounds_toArray, List.set_cons_zero, List.set_cons_succ]; exact hK)
      refine T_pass2 (a' := ?_) 31 rfl rfl (by kernel_rfl) (fun K hK => ?_) ?_
      rotate_left
      · (simp only [Act.put, List.setIfInBounds_toArray, List.set_cons_zero, List.set_cons_succ]; exact hK)
      refine T_pass2 (a' := ?_) 32 rfl rfl (by kernel_rfl) (fun K hK => ?_) ?_
      rotate_left
      · (simp only [Act.put, List.setIfInBounds_toArray, List.set_cons_zero, List.set_cons_succ]; exact hK)
      refine T_pass2 (a' := ?_) 33 rfl rfl (by kernel_rfl) (fun K hK => ?_) ?_
      rotate_left
      · (simp only [Act.put, List.setIfInBounds_toArray, List.set_cons_zero, List.set_cons_succ]; exact hK)
      refine T_pass2 (a' := ?_) 34 rfl rfl (by kernel_rfl) (fun K hK => ?_) ?_
      rotate_left
      · (simp only [Act.put, List.setIfInBounds_toArray, List.set_cons_zero, List.set_cons_succ]; exact hK)
      refine T_pass2 (a' := ?_) 35 rfl rfl (by kernel_rfl) (fun K hK => ?_) ?_
      rotate_left
      · (simp only [Act.put, List.setIfInBounds_toArray, List.set_cons_zero, List.set_cons_succ]; exact hK)
      refine T_pass2 (a' := ?_) 36 rfl rfl (by kernel_rfl) (fun K hK => ?_) ?_
      rotate_left
      · (simp only [Act.put, List.setIfInBounds_toArray, List.set_cons_zero, List.set_cons_succ]; exact hK)
      refine T_pass2 (a' := ?_) 37 rfl rfl (by kernel_rfl) (fun K hK => ?_) ?_
      rotate_left
      · (simp only [Act.put, List.setIfInBounds_toArray, List.set_cons_zero, List.set_cons_succ]; exact hK)
      refine T_pass2 (a' := ?_) 38 rfl rfl (by kernel_rfl) (fun K hK => ?_) ?_
      rotate_left
      · (simp only [Act.put, List.setIfInBounds_toArray, List.set_cons_zero, List.set_cons_succ]; exact hK)
      refine T_light (a' := ?_) 39 rfl rfl rfl (of_decide_eq_true rfl) rfl hHeld (fun wq hSq K Q hK => ?_) ?_
      rotate_left
      · (go_step; exact hK)
      refine T_done ?_
      go_wp2_with fail
      go_ret
      exact ⟨by rw [← HE.out]; rfl, HB.out.drew⟩
    | succ f =>
      have HN2 := Lib.hid (show n < 258 by have := HN.out; omega)
      have dn : decide (n < 258) = true := by rw [decide_eq_true_eq]; exact HN2.out
      have dn2 : decide ((n : Int) < 258) = true := by rw [decide_eq_true_eq]; have := HN2.out; omega
      have e1 : wrap64 ((at_ : Int) + (n : Int)) = (at_ : Int) + (n : Int) := by have := HN2.out; have := HP.out; have := HS.out; unfold wrap64; omega
      have e2 : wrap64 ((p : Int) + (n : Int)) = (p : Int) + (n : Int) := by have := HN2.out; have := HP.out; have := HS.out; unfold wrap64; omega
      have e3 : wrap64 ((n : Int) + 1) = ((n + 1 : Nat) : Int) := by have := HN2.out; unfold wrap64; omega
      by_cases hlt : at_ + n < s.size
      · have d1 : decide ((at_ : Int) + (n : Int) < (s.size : Int)) = true := by rw [decide_eq_true_eq]; omega
        have d2 : decide (at_ + n < s.size) = true := by rw [decide_eq_true_eq]; exact hlt
        have hpn : p + n < s.size := by have := HP.out; omega
        have n1 : (0 : Int) ≤ (p : Int) + (n : Int) := by omega
        have n2 : (p : Int) + (n : Int) < (s.size : Int) := by omega
        have n3 : (0 : Int) ≤ (at_ : Int) + (n : Int) := by omega
        have n4 : (at_ : Int) + (n : Int) < (s.size : Int) := by omega
        obtain ⟨x, hx, hx2⟩ : ∃ x : Nat, (byteL s).getD (p + n) 0 = x ∧ ∀ h', ((s[p + n]'h').toNat : Int) = (x : Int) := ⟨_, rfl, fun h' => by rw [idx_byte s (p + n) h']⟩
        obtain ⟨y, hy, hy2⟩ : ∃ y : Nat, (byteL s).getD (at_ + n) 0 = y ∧ ∀ h', ((s[at_ + n]'h').toNat : Int) = (y : Int) := ⟨_, rfl, fun h' => by rw [idx_byte s (at_ + n) h']⟩
        by_cases hxy : x = y
        · have HE := Lib.hid (show longGo (byteL s) p at_ (n + 1) f = R by
            have := HG.out
            unfold longGo at this
            rw [if_pos ⟨by rw [byteL_length]; exact hlt, by rw [hx, hy, hxy]⟩] at this
            exact this)
          have exy : ((x : Int) == (y : Int)) = true := by subst hxy; simp
          clear hx hy hxy hlt hpn
          go_wp2_with fail
          have hHeld := HH.out
          refine wp_region_T (fun w' => w'.cell? ⟨A, 0, none⟩ = some (.string s)) [.take 0, .take 1, .take 2, .take 3, .take 4, .take 5, .take 6, .take 7, .take 8, .take 9, .take 10, .take 11, .take 12, .take 13, .take 14, .take 15, .take 16, .take 17, .take 18, .take 19, .take 20, .take 21, .take 22, .take 23, .take 24, .take 25, .take 26, .take 27, .take 28, .take 29, .take 30, .take 31] (by kernel_rfl) (by kernel_rfl) (fun _ _ _ _ _ h => h) hHeld ?_
          refine T_light (a' := ?_) 8 rfl rfl rfl (of_decide_eq_true rfl) rfl hHeld (fun wq hSq K Q hK => ?_) ?_
          rotate_left
          · (go_step; exact hK)
          refine T_light (a' := ?_) 9 rfl rfl rfl (of_decide_eq_true rfl) rfl hHeld (fun wq hSq K Q hK => ?_) ?_
          rotate_left
          · (go_step; exact hK)
          refine T_light (a' := ?_) 10 rfl rfl rfl (of_decide_eq_true rfl) rfl hHeld (fun wq hSq K Q hK => ?_) ?_
          rotate_left
          · (go_step; exact hK)
          refine T_light (a' := ?_) 11 rfl rfl rfl (of_decide_eq_true rfl) rfl hHeld (fun wq hSq K Q hK => ?_) ?_
          rotate_left
          · (go_step; exact hK)
          refine T_light (a' := ?_) 12 rfl rfl rfl (of_decide_eq_true rfl) rfl hHeld (fun wq hSq K Q hK => ?_) ?_
          rotate_left
          · (go_step; exact hK)
          refine T_light (a' := ?_) 13 rfl rfl rfl (of_decide_eq_true rfl) rfl hHeld (fun wq hSq K Q hK => ?_) ?_
          rotate_left
          · (go_step; exact hK)
          refine T_light (a' := ?_) 14 rfl rfl rfl (of_decide_eq_true rfl) rfl hHeld (fun wq hSq K Q hK => ?_) ?_
          rotate_left
          · (go_step; exact hK)
          refine T_light (a' := ?_) 15 rfl rfl rfl (of_decide_eq_true rfl) rfl hHeld (fun wq hSq K Q hK => ?_) ?_
          rotate_left
          · (go_step; exact hK)
          refine T_light (a' := ?_) 16 rfl rfl rfl (of_decide_eq_true rfl) rfl hHeld (fun wq hSq K Q hK => ?_) ?_
          rotate_left
          · (go_step; exact hK)
          refine T_light (a' := ?_) 17 rfl rfl rfl (of_decide_eq_true rfl) rfl hHeld (fun wq hSq K Q hK => ?_) ?_
          rotate_left
          · ((have r1 := hSq; go_step); exact hK)
          refine T_light (a' := ?_) 18 rfl rfl rfl (of_decide_eq_true rfl) rfl hHeld (fun wq hSq K Q hK => ?_) ?_
          rotate_left
          · (go_step; exact hK)
          refine T_light (a' := ?_) 19 rfl rfl rfl (of_decide_eq_true rfl) rfl hHeld (fun wq hSq K Q hK => ?_) ?_
          rotate_left
          · (go_step; exact hK)
          refine T_light (a' := ?_) 20 rfl rfl rfl (of_decide_eq_true rfl) rfl hHeld (fun wq hSq K Q hK => ?_) ?_
          rotate_left
          · (go_step; exact hK)
          refine T_light (a' := ?_) 21 rfl rfl rfl (of_decide_eq_true rfl) rfl hHeld (fun wq hSq K Q hK => ?_) ?_
          rotate_left
          · (go_step; exact hK)
          refine T_light (a' := ?_) 22 rfl rfl rfl (of_decide_eq_true rfl) rfl hHeld (fun wq hSq K Q hK => ?_) ?_
          rotate_left
          · (go_step; exact hK)
          refine T_light (a' := ?_) 23 rfl rfl rfl (of_decide_eq_true rfl) rfl hHeld (fun wq hSq K Q hK => ?_) ?_
          rotate_left
          · (go_step; exact hK)
          refine T_light (a' := ?_) 24 rfl rfl rfl (of_decide_eq_true rfl) rfl hHeld (fun wq hSq K Q hK => ?_) ?_
          rotate_left
          · (go_step; exact hK)
          refine T_light (a' := ?_) 25 rfl rfl rfl (of_decide_eq_true rfl) rfl hHeld (fun wq hSq K Q hK => ?_) ?_
          rotate_left
          · ((have r1 := hSq; go_step); exact hK)
          refine T_light (a' := ?_) 26 rfl rfl rfl (of_decide_eq_true rfl) rfl hHeld (fun wq hSq K Q hK => ?_) ?_
          rotate_left
          · (go_step; exact hK)
          refine T_light (a' := ?_) 27 rfl rfl rfl (of_decide_eq_true rfl) rfl hHeld (fun wq hSq K Q hK => ?_) ?_
          rotate_left
          · (go_step; exact hK)
          refine T_light (a' := ?_) 28 rfl rfl rfl (of_decide_eq_true rfl) rfl hHeld (fun wq hSq K Q hK => ?_) ?_
          rotate_left
          · (go_step; exact hK)
          refine T_light (a' := ?_) 29 rfl rfl rfl (of_decide_eq_true rfl) rfl hHeld (fun wq hSq K Q hK => ?_) ?_
          rotate_left
          · (go_step; exact hK)
          refine T_light (a' := ?_) 30 rfl rfl rfl (of_decide_eq_true rfl) rfl hHeld (fun wq hSq K Q hK => ?_) ?_
          rotate_left
          · (go_step; exact hK)
          refine T_light (a' := ?_) 31 rfl rfl rfl (of_decide_eq_true rfl) rfl hHeld (fun wq hSq K Q hK => ?_) ?_
          rotate_left
          · (go_step; exact hK)
          refine T_light (a' := ?_) 32 rfl rfl rfl (of_decide_eq_true rfl) rfl hHeld (fun wq hSq K Q hK => ?_) ?_
          rotate_left
          · (go_step; exact hK)
          refine T_light (a' := ?_) 33 rfl rfl rfl (of_decide_eq_true rfl) rfl hHeld (fun wq hSq K Q hK => ?_) ?_
          rotate_left
          · ((have r1 := hSq; go_step); exact hK)
          refine T_light (a' := ?_) 34 rfl rfl rfl (of_decide_eq_true rfl) rfl hHeld (fun wq hSq K Q hK => ?_) ?_
          rotate_left
          · (go_step; exact hK)
          refine T_light (a' := ?_) 35 rfl rfl rfl (of_decide_eq_true rfl) rfl hHeld (fun wq hSq K Q hK => ?_) ?_
          rotate_left
          · (go_step; exact hK)
          refine T_light (a' := ?_) 36 rfl rfl rfl (of_decide_eq_true rfl) rfl hHeld (fun wq hSq K Q hK => ?_) ?_
          rotate_left
          · (go_step; exact hK)
          refine T_light (a' := ?_) 37 rfl rfl rfl (of_decide_eq_true rfl) rfl hHeld (fun wq hSq K Q hK => ?_) ?_
          rotate_left
          · (go_step; exact hK)
          refine T_light (a' := ?_) 38 rfl rfl rfl (of_decide_eq_true rfl) rfl hHeld (fun wq hSq K Q hK => ?_) ?_
          rotate_left
          · (go_step; exact hK)
          refine T_light (a' := ?_) 39 rfl rfl rfl (of_decide_eq_true rfl) rfl hHeld (fun wq hSq K Q hK => ?_) ?_
          rotate_left
          · (go_step; exact hK)
          refine T_done ?_
          go_wp2_with fail
          go_roundg f
          case measure => exact Nat.lt_succ_self f
          case rel => exact ⟨n + 1, by rw [e3], Lib.hid (by have := HN.out; omega), HE, Lib.hid HB.out.drew⟩
        · have HE := Lib.hid (show n = R by
            have := HG.out
            unfold longGo at this
            rw [if_neg (by rw [hx, hy]; exact fun h => hxy h.2)] at this
            exact this)
          have exy : ((x : Int) == (y : Int)) = false := by simp; omega
          clear hx hy hxy hlt hpn
          go_wp2_with fail
          have hHeld := HH.out
          refine wp_region_T (fun w' => w'.cell? ⟨A, 0, none⟩ = some (.string s)) [.take 0, .take 1, .take 2, .take 3, .take 4, .take 5, .take 6, .take 7, .take 8, .take 9, .take 10, .take 11, .take 12, .take 13, .take 14, .take 15, .take 16, .take 17, .take 18, .take 19, .take 20, .take 21, .take 22, .take 23, .take 24, .take 25, .take 26, .take 27, .take 28, .take 29, .take 30, .take 31] (by kernel_rfl) (by kernel_rfl) (fun _ _ _ _ _ h => h) hHeld ?_
          refine T_light (a' := ?_) 8 rfl rfl rfl (of_decide_eq_true rfl) rfl hHeld (fun wq hSq K Q hK => ?_) ?_
          rotate_left
          · (go_step; exact hK)
          refine T_light (a' := ?_) 9 rfl rfl rfl (of_decide_eq_true rfl) rfl hHeld (fun wq hSq K Q hK => ?_) ?_
          rotate_left
          · (go_step; exact hK)
          refine T_light (a' := ?_) 10 rfl rfl rfl (of_decide_eq_true rfl) rfl hHeld (fun wq hSq K Q hK => ?_) ?_
          rotate_left
          · (go_step; exact hK)
          refine T_light (a' := ?_) 11 rfl rfl rfl (of_decide_eq_true rfl) rfl hHeld (fun wq hSq K Q hK => ?_) ?_
          rotate_left
          · (go_step; exact hK)
          refine T_light (a' := ?_) 12 rfl rfl rfl (of_decide_eq_true rfl) rfl hHeld (fun wq hSq K Q hK => ?_) ?_
          rotate_left
          · (go_step; exact hK)
          refine T_light (a' := ?_) 13 rfl rfl rfl (of_decide_eq_true rfl) rfl hHeld (fun wq hSq K Q hK => ?_) ?_
          rotate_left
          · (go_step; exact hK)
          refine T_light (a' := ?_) 14 rfl rfl rfl (of_decide_eq_true rfl) rfl hHeld (fun wq hSq K Q hK => ?_) ?_
          rotate_left
          · (go_step; exact hK)
          refine T_light (a' := ?_) 15 rfl rfl rfl (of_decide_eq_true rfl) rfl hHeld (fun wq hSq K Q hK => ?_) ?_
          rotate_left
          · (go_step; exact hK)
          refine T_light (a' := ?_) 16 rfl rfl rfl (of_decide_eq_true rfl) rfl hHeld (fun wq hSq K Q hK => ?_) ?_
          rotate_left
          · (go_step; exact hK)
          refine T_light (a' := ?_) 17 rfl rfl rfl (of_decide_eq_true rfl) rfl hHeld (fun wq hSq K Q hK => ?_) ?_
          rotate_left
          · ((have r1 := hSq; go_step); exact hK)
          refine T_light (a' := ?_) 18 rfl rfl rfl (of_decide_eq_true rfl) rfl hHeld (fun wq hSq K Q hK => ?_) ?_
          rotate_left
          · (go_step; exact hK)
          refine T_light (a' := ?_) 19 rfl rfl rfl (of_decide_eq_true rfl) rfl hHeld (fun wq hSq K Q hK => ?_) ?_
          rotate_left
          · (go_step; exact hK)
          refine T_light (a' := ?_) 20 rfl rfl rfl (of_decide_eq_true rfl) rfl hHeld (fun wq hSq K Q hK => ?_) ?_
          rotate_left
          · (go_step; exact hK)
          refine T_light (a' := ?_) 21 rfl rfl rfl (of_decide_eq_true rfl) rfl hHeld (fun wq hSq K Q hK => ?_) ?_
          rotate_left
          · (go_step; exact hK)
          refine T_light (a' := ?_) 22 rfl rfl rfl (of_decide_eq_true rfl) rfl hHeld (fun wq hSq K Q hK => ?_) ?_
          rotate_left
          · (go_step; exact hK)
          refine T_light (a' := ?_) 23 rfl rfl rfl (of_decide_eq_true rfl) rfl hHeld (fun wq hSq K Q hK => ?_) ?_
          rotate_left
          · (go_step; exact hK)
          refine T_light (a' := ?_) 24 rfl rfl rfl (of_decide_eq_true rfl) rfl hHeld (fun wq hSq K Q hK => ?_) ?_
          rotate_left
          · (go_step; exact hK)
          refine T_light (a' := ?_) 25 rfl rfl rfl (of_decide_eq_true rfl) rfl hHeld (fun wq hSq K Q hK => ?_) ?_
          rotate_left
          · ((have r1 := hSq; go_step); exact hK)
          refine T_light (a' := ?_) 26 rfl rfl rfl (of_decide_eq_true rfl) rfl hHeld (fun wq hSq K Q hK => ?_) ?_
          rotate_left
          · (go_step; exact hK)
          refine T_light (a' := ?_) 27 rfl rfl rfl (of_decide_eq_true rfl) rfl hHeld (fun wq hSq K Q hK => ?_) ?_
          rotate_left
          · (go_step; exact hK)
          refine T_light (a' := ?_) 28 rfl rfl rfl (of_decide_eq_true rfl) rfl hHeld (fun wq hSq K Q hK => ?_) ?_
          rotate_left
          · (go_step; exact hK)
          refine T_light (a' := ?_) 29 rfl rfl rfl (of_decide_eq_true rfl) rfl hHeld (fun wq hSq K Q hK => ?_) ?_
          rotate_left
          · (go_step; exact hK)
          refine T_light (a' := ?_) 30 rfl rfl rfl (of_decide_eq_true rfl) rfl hHeld (fun wq hSq K Q hK => ?_) ?_
          rotate_left
          · (go_step; exact hK)
          refine T_light (a' := ?_) 31 rfl rfl rfl (of_decide_eq_true rfl) rfl hHeld (fun wq hSq K Q hK => ?_) ?_
          rotate_left
          · (go_step; exact hK)
          refine T_light (a' := ?_) 32 rfl rfl rfl (of_decide_eq_true rfl) rfl hHeld (fun wq hSq K Q hK => ?_) ?_
          rotate_left
          · (go_step; exact hK)
          refine T_light (a' := ?_) 33 rfl rfl rfl (of_decide_eq_true rfl) rfl hHeld (fun wq hSq K Q hK => ?_) ?_
          rotate_left
          · ((have r1 := hSq; go_step); exact hK)
          refine T_light (a' := ?_) 34 rfl rfl rfl (of_decide_eq_true rfl) rfl hHeld (fun wq hSq K Q hK => ?_) ?_
          rotate_left
          · (go_step; exact hK)
          refine T_light (a' := ?_) 35 rfl rfl rfl (of_decide_eq_true rfl) rfl hHeld (fun wq hSq K Q hK => ?_) ?_
          rotate_left
          · (go_step; exact hK)
          refine T_light (a' := ?_) 36 rfl rfl rfl (of_decide_eq_true rfl) rfl hHeld (fun wq hSq K Q hK => ?_) ?_
          rotate_left
          · (go_step; exact hK)
          refine T_light (a' := ?_) 37 rfl rfl rfl (of_decide_eq_true rfl) rfl hHeld (fun wq hSq K Q hK => ?_) ?_
          rotate_left
          · (go_step; exact hK)
          refine T_light (a' := ?_) 38 rfl rfl rfl (of_decide_eq_true rfl) rfl hHeld (fun wq hSq K Q hK => ?_) ?_
          rotate_left
          · (go_step; exact hK)
          refine T_light (a' := ?_) 39 rfl rfl rfl (of_decide_eq_true rfl) rfl hHeld (fun wq hSq K Q hK => ?_) ?_
          rotate_left
          · (go_step; exact hK)
          refine T_done ?_
          go_wp2_with fail
          go_ret
          exact ⟨by rw [← HE.out]; rfl, HB.out.drew⟩
      · have d1 : decide ((at_ : Int) + (n : Int) < (s.size : Int)) = false := by rw [decide_eq_false_iff_not]; omega
        have d2 : decide (at_ + n < s.size) = false := by rw [decide_eq_false_iff_not]; exact hlt
        have HE := Lib.hid (show n = R by
          have := HG.out
          unfold longGo at this
          rw [if_neg (by rw [byteL_length]; omega)] at this
          exact this)
        clear hlt
        go_wp2_with fail
        have hHeld := HH.out
        refine wp_region_T (fun w' => w'.cell? ⟨A, 0, none⟩ = some (.string s)) [.take 0, .take 1, .take 2, .take 3, .take 4, .take 5, .take 6, .take 7, .take 8, .take 9, .take 10, .take 11, .take 12, .take 13, .take 14, .take 15, .take 16, .take 17, .take 18, .take 19, .take 20, .take 21, .take 22, .take 23, .take 24, .take 25, .take 26, .take 27, .take 28, .take 29, .take 30, .take 31] (by kernel_rfl) (by kernel_rfl) (fun _ _ _ _ _ h => h) hHeld ?_
        refine T_light (a' := ?_) 8 rfl rfl rfl (of_decide_eq_true rfl) rfl hHeld (fun wq hSq K Q hK => ?_) ?_
        rotate_left
        · (go_step; exact hK)
        refine T_light (a' := ?_) 9 rfl rfl rfl (of_decide_eq_true rfl) rfl hHeld (fun wq hSq K Q hK => ?_) ?_
        rotate_left
        · (go_step; exact hK)
        refine T_light (a' := ?_) 10 rfl rfl rfl (of_decide_eq_true rfl) rfl hHeld (fun wq hSq K Q hK => ?_) ?_
        rotate_left
        · (go_step; exact hK)
        refine T_light (a' := ?_) 11 rfl rfl rfl (of_decide_eq_true rfl) rfl hHeld (fun wq hSq K Q hK => ?_) ?_
        rotate_left
        · (go_step; exact hK)
        refine T_light (a' := ?_) 12 rfl rfl rfl (of_decide_eq_true rfl) rfl hHeld (fun wq hSq K Q hK => ?_) ?_
        rotate_left
        · (go_step; exact hK)
        refine T_light (a' := ?_) 13 rfl rfl rfl (of_decide_eq_true rfl) rfl hHeld (fun wq hSq K Q hK => ?_) ?_
        rotate_left
        · (go_step; exact hK)
        refine T_light (a' := ?_) 14 rfl rfl rfl (of_decide_eq_true rfl) rfl hHeld (fun wq hSq K Q hK => ?_) ?_
        rotate_left
        · (go_step; exact hK)
        refine T_light (a' := ?_) 15 rfl rfl rfl (of_decide_eq_true rfl) rfl hHeld (fun wq hSq K Q hK => ?_) ?_
        rotate_left
        · (go_step; exact hK)
        refine T_light (a' := ?_) 16 rfl rfl rfl (of_decide_eq_true rfl) rfl hHeld (fun wq hSq K Q hK => ?_) ?_
        rotate_left
        · (go_step; exact hK)
        refine T_light (a' := ?_) 17 rfl rfl rfl (of_decide_eq_true rfl) rfl hHeld (fun wq hSq K Q hK => ?_) ?_
        rotate_left
        · ((have r1 := hSq; go_step); exact hK)
        refine T_light (a' := ?_) 18 rfl rfl rfl (of_decide_eq_true rfl) rfl hHeld (fun wq hSq K Q hK => ?_) ?_
        rotate_left
        · (go_step; exact hK)
        refine T_light (a' := ?_) 19 rfl rfl rfl (of_decide_eq_true rfl) rfl hHeld (fun wq hSq K Q hK => ?_) ?_
        rotate_left
        · (go_step; exact hK)
        refine T_light (a' := ?_) 20 rfl rfl rfl (of_decide_eq_true rfl) rfl hHeld (fun wq hSq K Q hK => ?_) ?_
        rotate_left
        · (go_step; exact hK)
        refine T_light (a' := ?_) 21 rfl rfl rfl (of_decide_eq_true rfl) rfl hHeld (fun wq hSq K Q hK => ?_) ?_
        rotate_left
        · (go_step; exact hK)
        refine T_pass2 (a' := ?_) 22 rfl rfl (by kernel_rfl) (fun K hK => ?_) ?_
        rotate_left
        · (simp only [Act.put, List.setIfInBounds_toArray, List.set_cons_zero, List.set_cons_succ]; exact hK)
        refine T_pass2 (a' := ?_) 23 rfl rfl (by kernel_rfl) (fun K hK => ?_) ?_
        rotate_left
        · (simp only [Act.put, List.setIfInBounds_toArray, List.set_cons_zero, List.set_cons_succ]; exact hK)
        refine T_pass2 (a' := ?_) 24 rfl rfl (by kernel_rfl) (fun K hK => ?_) ?_
        rotate_left
        · (simp only [Act.put, List.setIfInBounds_toArray, List.set_cons_zero, List.set_cons_succ]; exact hK)
        refine T_pass2 (a' := ?_) 25 rfl rfl (by kernel_rfl) (fun K hK => ?_) ?_
        rotate_left
        · (simp only [Act.put, List.setIfInBounds_toArray, List.set_cons_zero, List.set_cons_succ]; exact hK)
        refine T_pass2 (a' := ?_) 26 rfl rfl (by kernel_rfl) (fun K hK => ?_) ?_
        rotate_left
        · (simp only [Act.put, List.setIfInBounds_toArray, List.set_cons_zero, List.set_cons_succ]; exact hK)
        refine T_pass2 (a' := ?_) 27 rfl rfl (by kernel_rfl) (fun K hK => ?_) ?_
        rotate_left
        · (simp only [Act.put, List.setIfInBounds_toArray, List.set_cons_zero, List.set_cons_succ]; exact hK)
        refine T_pass2 (a' := ?_) 28 rfl rfl (by kernel_rfl) (fun K hK => ?_) ?_
        rotate_left
        · (simp only [Act.put, List.setIfInBounds_toArray, List.set_cons_zero, List.set_cons_succ]; exact hK)
        refine T_pass2 (a' := ?_) 29 rfl rfl (by kernel_rfl) (fun K hK => ?_) ?_
        rotate_left
        · (simp only [Act.put, List.setIfInBounds_toArray, List.set_cons_zero, List.set_cons_succ]; exact hK)
        refine T_pass2 (a' := ?_) 30 rfl rfl (by kernel_rfl) (fun K hK => ?_) ?_
        rotate_left
        · (simp only [Act.put, List.setIfInBounds_toArray, List.set_cons_zero, List.set_cons_succ]; exact hK)
        refine T_pass2 (a' := ?_) 31 rfl rfl (by kernel_rfl) (fun K hK => ?_) ?_
        rotate_left
        · (simp only [Act.put, List.setIfInBounds_toArray, List.set_cons_zero, List.set_cons_succ]; exact hK)
        refine T_pass2 (a' := ?_) 32 rfl rfl (by kernel_rfl) (fun K hK => ?_) ?_
        rotate_left
        · (simp only [Act.put, List.setIfInBounds_toArray, List.set_cons_zero, List.set_cons_succ]; exact hK)
        refine T_pass2 (a' := ?_) 33 rfl rfl (by kernel_rfl) (fun K hK => ?_) ?_
        rotate_left
        · (simp only [Act.put, List.setIfInBounds_toArray, List.set_cons_zero, List.set_cons_succ]; exact hK)
        refine T_pass2 (a' := ?_) 34 rfl rfl (by kernel_rfl) (fun K hK => ?_) ?_
        rotate_left
        · (simp only [Act.put, List.setIfInBounds_toArray, List.set_cons_zero, List.set_cons_succ]; exact hK)
        refine T_pass2 (a' := ?_) 35 rfl rfl (by kernel_rfl) (fun K hK => ?_) ?_
        rotate_left
        · (simp only [Act.put, List.setIfInBounds_toArray, List.set_cons_zero, List.set_cons_succ]; exact hK)
        refine T_pass2 (a' := ?_) 36 rfl rfl (by kernel_rfl) (fun K hK => ?_) ?_
        rotate_left
        · (simp only [Act.put, List.setIfInBounds_toArray, List.set_cons_zero, List.set_cons_succ]; exact hK)
        refine T_pass2 (a' := ?_) 37 rfl rfl (by kernel_rfl) (fun K hK => ?_) ?_
        rotate_left
        · (simp only [Act.put, List.setIfInBounds_toArray, List.set_cons_zero, List.set_cons_succ]; exact hK)
        refine T_pass2 (a' := ?_) 38 rfl rfl (by kernel_rfl) (fun K hK => ?_) ?_
        rotate_left
        · (simp only [Act.put, List.setIfInBounds_toArray, List.set_cons_zero, List.set_cons_succ]; exact hK)
        refine T_light (a' := ?_) 39 rfl rfl rfl (of_decide_eq_true rfl) rfl hHeld (fun wq hSq K Q hK => ?_) ?_
        rotate_left
        · (go_step; exact hK)
        refine T_done ?_
        go_wp2_with fail
        go_ret
        exact ⟨by rw [← HE.out]; rfl, HB.out.drew⟩
end Go.Proofs.Ytolkmjclldjkkaa
