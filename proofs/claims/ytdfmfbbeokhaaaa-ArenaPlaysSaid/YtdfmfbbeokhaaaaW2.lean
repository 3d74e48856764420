/-
  Arena: the two closures, and the calls by way of 'part'.
-/
import Derived.Test.YtdfmfbbeokhaaaaW1
set_option linter.unusedSimpArgs false
set_option linter.unusedVariables false
namespace Go.Proofs.Ytdfmfbbeokhaaaa
open Go.RowKit

theorem cl_write {w : World} {A B : Nat} {L : List Nat} {r wr by_ : Nat} (h : Ar w A B L r wr by_) (at_ : Nat) (s : ByteArray) (hs : at_ + s.size ≤ L.length) (ad : Option Addr) (had : s.size = 0 ∨ ad = some ⟨B, at_, none⟩) (cap : Nat) (sb ab : Nat)
    (hsb : w.cell? ⟨sb, 0, none⟩ = some (.string s)) (hab : w.cell? ⟨ab, 0, none⟩ = some (.pointer (some ⟨A, 0, none⟩))) (hsA : sb ≠ A) (hsB : sb ≠ B) (haA : ab ≠ A) (haB : ab ≠ B) (hsz : s.size ≤ 140737488351232) (hwr : wr ≤ 140737488351232) (hby : by_ ≤ 140737488351232) :
    Calls Try.prog 18 #[.slice ad s.size cap, .pointer (some ⟨sb, 0, none⟩), .pointer (some ⟨ab, 0, none⟩)] w fun e w' => e = .returned (.tuple #[]) ∧ Ar w' A B (put L at_ (byteL s)) r (wr + 1) (by_ + s.size) ∧ Beside [A, B] w w' := by
  obtain ⟨wC, hc, hA, hb, hz⟩ := h.copy at_ s hs ad had cap 3
  have b1 : sb < w.heap.size := World.block_lt_of_cell? w _ hsb
  have b2 : ab < w.heap.size := World.block_lt_of_cell? w _ hab
  have ksb : wC.cell? ⟨sb, 0, none⟩ = some (.string s) := (hb.cell (p := ⟨sb, 0, none⟩) b1 (by simpa using hsB)).trans hsb
  have kab : wC.cell? ⟨ab, 0, none⟩ = some (.pointer (some ⟨A, 0, none⟩)) := (hb.cell (p := ⟨ab, 0, none⟩) b2 (by simpa using haB)).trans hab
  have c2 := hA.c2
  have c3 := hA.c3
  have f2 := hA.free 2
  have f3 := hA.free 3
  have e1 : wrap64 ((wr : Int) + 1) = (wr : Int) + 1 := (by unfold wrap64; omega)
  have e2 : wrap64 ((by_ : Int) + (s.size : Int)) = (by_ : Int) + (s.size : Int) := (by unfold wrap64; omega)
  go_enter Try.func18, Try.ntmps18
  go_wp2_with fail
  have hA2 := hA.set2 (wr + 1)
  have hAB := h.ne
  obtain ⟨wD, hwD⟩ : ∃ wD, wD = wC.setCell ⟨A, 2, none⟩ (.int .i64 ((wr : Int) + 1)) := ⟨_, rfl⟩
  have hHeld : wD.drew.cell? ⟨ab, 0, none⟩ = some (.pointer (some ⟨A, 0, none⟩)) ∧ wD.drew.cell? ⟨sb, 0, none⟩ = some (.string s) ∧ wD.drew.cell? ⟨A, 3, none⟩ = some (.int .i64 (by_ : Nat)) := by
    subst hwD
    refine ⟨?_, ?_, hA2.c3⟩
    · exact (World.cell?_setCell_far wC ⟨A, 2, none⟩ ⟨ab, 0, none⟩ _ (fun e => haA e.symm)).trans kab
    · exact (World.cell?_setCell_far wC ⟨A, 2, none⟩ ⟨sb, 0, none⟩ _ (fun e => hsA e.symm)).trans ksb
  have hD : Ar wD A B (put L at_ (byteL s)) r (wr + 1) by_ := by rw [hwD]; exact hA2
  have hbD : Beside [A, B] w wD := by rw [hwD]; exact (hb.mono (by simp)).setCell (.inl (by simp)) _
  have f3' := hD.free 3
  rw [← hwD]
  clear hwD hA2 hc h hA hb c2 c3 f2 f3 ksb kab hsz hwr hby e1 hs had hz hsb hab
  refine wp_region_Z (fun w' => w'.cell? ⟨ab, 0, none⟩ = some (.pointer (some ⟨A, 0, none⟩)) ∧ w'.cell? ⟨sb, 0, none⟩ = some (.string s) ∧ w'.cell? ⟨A, 3, none⟩ = some (.int .i64 (by_ : Nat))) 9 [.take 0, .take 1, .take 2, .take 3, .take 4, .take 5, .take 6, .take 7, .take 8, .last 9] [8, 6, 0, 1, 2, 3, 4, 5, 7] (by kernel_rfl) (by kernel_rfl) (fun _ _ _ _ _ h => h) hHeld ?_
  refine T_light (a' := ?_) 14 rfl rfl rfl (of_decide_eq_true rfl) rfl hHeld (fun wq hSq K Q hK => ?_) ?_
  rotate_left
  · (obtain ⟨q1, q2, q3⟩ := hSq; go_step; exact hK)
  refine T_light (a' := ?_) 15 rfl rfl rfl (of_decide_eq_true rfl) rfl hHeld (fun wq hSq K Q hK => ?_) ?_
  rotate_left
  · (go_step; exact hK)
  refine T_light (a' := ?_) 16 rfl rfl rfl (of_decide_eq_true rfl) rfl hHeld (fun wq hSq K Q hK => ?_) ?_
  rotate_left
  · (go_step; exact hK)
  refine T_light (a' := ?_) 17 rfl rfl rfl (of_decide_eq_true rfl) rfl hHeld (fun wq hSq K Q hK => ?_) ?_
  rotate_left
  · (obtain ⟨q1, q2, q3⟩ := hSq; go_step; exact hK)
  refine T_light (a' := ?_) 18 rfl rfl rfl (of_decide_eq_true rfl) rfl hHeld (fun wq hSq K Q hK => ?_) ?_
  rotate_left
  · (obtain ⟨q1, q2, q3⟩ := hSq; go_step; exact hK)
  refine T_light (a' := ?_) 19 rfl rfl rfl (of_decide_eq_true rfl) rfl hHeld (fun wq hSq K Q hK => ?_) ?_
  rotate_left
  · (go_step; exact hK)
  refine T_light (a' := ?_) 20 rfl rfl rfl (of_decide_eq_true rfl) rfl hHeld (fun wq hSq K Q hK => ?_) ?_
  rotate_left
  · (go_step; exact hK)
  refine T_light (a' := ?_) 21 rfl rfl rfl (of_decide_eq_true rfl) rfl hHeld (fun wq hSq K Q hK => ?_) ?_
  rotate_left
  · (go_step; exact hK)
  refine T_light (a' := ?_) 22 rfl rfl rfl (of_decide_eq_true rfl) rfl hHeld (fun wq hSq K Q hK => ?_) ?_
  rotate_left
  · (go_step; exact hK)
  refine T_last rfl rfl (fun K hK => ?_)
  go_step
  refine hK _ _ ?_
  clear hK K
  refine T_done ?_

  go_wp2_with fail
  go_end0
  exact ⟨rfl, (hD.set3 (by_ + s.size)).drew, (hbD.setCell (.inl (by simp)) _).drew⟩

/-- the bytes of a part -/
def sub_ (L : List Nat) (at_ n : Nat) : List Nat := (L.drop at_).take n
theorem sub_length (L : List Nat) (at_ n : Nat) (h : at_ + n ≤ L.length) : (sub_ L at_ n).length = n := by simp [sub_]; omega
theorem sub_get {L : List Nat} {at_ n j m : Nat} (h : (sub_ L at_ n)[j]? = some m) : L[at_ + j]? = some m := by
  have hj : j < n := by
    have := (List.getElem?_eq_some_iff.1 h).1
    simp [sub_] at this
    omega
  rw [sub_, List.getElem?_take_of_lt hj, List.getElem?_drop] at h
  exact h
theorem sub_lt {L : List Nat} {at_ n : Nat} (hL : ∀ x ∈ L, x < 256) : ∀ x ∈ sub_ L at_ n, x < 256 := fun x hx => hL x (List.mem_of_mem_drop (List.mem_of_mem_take hx))

theorem Ar.cell {w : World} {A B : Nat} {L : List Nat} {r wr by_ : Nat} (h : Ar w A B L r wr by_) {j m : Nat} (hj : L[j]? = some m) : w.cell? ⟨B, j, none⟩ = some (.int .u8 (m : Nat)) := by
  rw [cell_of_row w B j _ _ _ h.row]
  simp [numsV, hj]

set_option maxHeartbeats 400000 in
theorem cl_read {w : World} {A B : Nat} {L : List Nat} {r wr by_ : Nat} (h : Ar w A B L r wr by_) (at_ n : Nat) (hs : at_ + n ≤ L.length) (o : Nat) (ho : n = 0 ∨ o = at_) (cap : Nat) (sb ab : Nat) (s0 : ByteArray)
    (hsb : w.cell? ⟨sb, 0, none⟩ = some (.string s0)) (hfr : w.frozen? ⟨sb, 0, none⟩ = false) (hab : w.cell? ⟨ab, 0, none⟩ = some (.pointer (some ⟨A, 0, none⟩))) (hsA : sb ≠ A) (hsB : sb ≠ B) (hsab : sb ≠ ab) (hr : r ≤ 140737488351232) :
    Calls Try.prog 19 #[.slice (some ⟨B, o, none⟩) n cap, .pointer (some ⟨sb, 0, none⟩), .pointer (some ⟨ab, 0, none⟩)] w fun e w' => e = .returned (.tuple #[]) ∧ Ar w' A B L (r + 1) wr by_ ∧ Beside [A, sb] w w' ∧ w'.cell? ⟨sb, 0, none⟩ = some (.string (textOf (sub_ L at_ n))) ∧ w'.frozen? ⟨sb, 0, none⟩ = false := by
  have hl := sub_length L at_ n hs
  have hcv : ∀ w', Ar w' A B L r wr by_ → (convert 45 9 (.slice (some ⟨B, o, none⟩) n cap)).run Try.prog w' = .ok (.string (textOf (sub_ L at_ n))) w' := fun w' h' =>
    string_of_row 45 9 5 Try.underlying45 Try.underlying5 Try.underlying9 cap n (sub_ L at_ n) (sub_lt h.bytes) hl.symm (fun j m hj => by
      have hj' := (List.getElem?_eq_some_iff.1 hj).1
      have : o = at_ := ho.resolve_left (by omega)
      subst this
      exact h'.cell (sub_get hj))
  have hcv0 := hcv w h
  have e1 : wrap64 ((r : Int) + 1) = (r : Int) + 1 := (by unfold wrap64; omega)
  obtain ⟨T, hT⟩ : ∃ T, T = textOf (sub_ L at_ n) := ⟨_, rfl⟩
  rw [← hT] at hcv0 ⊢
  obtain ⟨wS, hwS⟩ : ∃ wS, wS = w.setCell ⟨sb, 0, none⟩ (.string T) := ⟨_, rfl⟩
  have hS : Ar wS A B L r wr by_ := by rw [hwS]; exact h.other ⟨sb, 0, none⟩ _ hsA hsB
  have kab : wS.cell? ⟨ab, 0, none⟩ = some (.pointer (some ⟨A, 0, none⟩)) := by rw [hwS]; exact (World.cell?_setCell_far w ⟨sb, 0, none⟩ ⟨ab, 0, none⟩ _ hsab).trans hab
  have ksb : wS.cell? ⟨sb, 0, none⟩ = some (.string T) := by rw [hwS]; exact World.cell?_setCell_same _ _ _ hsb
  have hb : Beside [A, sb] w wS := by rw [hwS]; exact (Beside.refl _ _).setCell (.inl (by simp)) _
  have c1 := h.c1
  have f1 := h.free 1
  have e2 : ∀ j, (⟨A, j, none⟩ : Addr) ≠ ⟨sb, 0, none⟩ := fun j e => hsA (by injection e with e; exact e.symm)
  have e3 : (⟨ab, 0, none⟩ : Addr) ≠ ⟨sb, 0, none⟩ := fun e => hsab (by injection e with e; exact e.symm)
  subst hwS
  clear hcv hl hs ho hr hT
  go_enter Try.func19, Try.ntmps19
  go_wp2_with fail
  go_end0
  exact ⟨rfl, hS.set1 (r + 1), hb.setCell (.inl (by simp)) _, (World.cell?_setCell_far _ ⟨A, 1, none⟩ ⟨sb, 0, none⟩ _ (fun e => hsA e.symm)).trans ksb, by rw [World.frozen?_setCell, World.frozen?_setCell]; exact hfr⟩
end Go.Proofs.Ytdfmfbbeokhaaaa
