/-
  Arena: what the arena's functions come to (contracts).
-/
import Derived.Test.YtdfmfbbeokhaaaaRows
import Derived.Test.YtdfmfbbeokhaaaaK
import Derived.Test.YtdfmfbbeokhaaaaT
import Derived.Test.YtdfmfbbeokhaaaaB
import Derived.ProofKit
import Derived.Deep.LoopGhost
import Derived.WalkLawsBesides
import Derived.WalkSpells
import Derived.Lib.BufferWrite
set_option linter.unusedSimpArgs false
set_option linter.unusedVariables false
namespace Go.Proofs.Ytdfmfbbeokhaaaa
open Go.RowKit

/-- an arena in memory: its head A, its bytes in block B -/
structure Ar (w : World) (A B : Nat) (L : List Nat) (r wr by_ : Nat) : Prop where
  head : w.heap[A]? = some (.cells #[.slice (some ⟨B, 0, none⟩) L.length L.length, .int .i64 (r : Nat), .int .i64 (wr : Nat), .int .i64 (by_ : Nat)] 51 (0, 0))
  row : w.heap[B]? = some (.cells (numsV .u8 L).toArray 5 (0, 0))
  bytes : ∀ x ∈ L, x < 256
theorem Ar.ne {w : World} {A B : Nat} {L : List Nat} {r wr by_ : Nat} (h : Ar w A B L r wr by_) : A ≠ B := fun e => by
  have h1 := h.head
  rw [e, h.row] at h1
  simp at h1
theorem Ar.c0 {w : World} {A B : Nat} {L : List Nat} {r wr by_ : Nat} (h : Ar w A B L r wr by_) : w.cell? ⟨A, 0, none⟩ = some (.slice (some ⟨B, 0, none⟩) L.length L.length) := by rw [cell_of_row w A 0 _ _ _ h.head]; rfl
theorem Ar.c1 {w : World} {A B : Nat} {L : List Nat} {r wr by_ : Nat} (h : Ar w A B L r wr by_) : w.cell? ⟨A, 1, none⟩ = some (.int .i64 (r : Nat)) := by rw [cell_of_row w A 1 _ _ _ h.head]; rfl
theorem Ar.c2 {w : World} {A B : Nat} {L : List Nat} {r wr by_ : Nat} (h : Ar w A B L r wr by_) : w.cell? ⟨A, 2, none⟩ = some (.int .i64 (wr : Nat)) := by rw [cell_of_row w A 2 _ _ _ h.head]; rfl
theorem Ar.c3 {w : World} {A B : Nat} {L : List Nat} {r wr by_ : Nat} (h : Ar w A B L r wr by_) : w.cell? ⟨A, 3, none⟩ = some (.int .i64 (by_ : Nat)) := by rw [cell_of_row w A 3 _ _ _ h.head]; rfl
theorem Ar.free {w : World} {A B : Nat} {L : List Nat} {r wr by_ : Nat} (h : Ar w A B L r wr by_) (j : Nat) : w.frozen? ⟨A, j, none⟩ = false := frozen_of_row w A j _ _ h.head
theorem Ar.of_blocks {w w' : World} {A B : Nat} {L : List Nat} {r wr by_ : Nat} (h : Ar w A B L r wr by_) (hA : w'.heap[A]? = w.heap[A]?) (hB : w'.heap[B]? = w.heap[B]?) : Ar w' A B L r wr by_ :=
  ⟨hA.trans h.head, hB.trans h.row, h.bytes⟩
theorem Ar.below {w w' : World} {A B : Nat} {L : List Nat} {r wr by_ : Nat} (h : Ar w A B L r wr by_) (hb : Below w.heap.size w w') : Ar w' A B L r wr by_ :=
  h.of_blocks (hb.block _ (row_lt h.head)) (hb.block _ (row_lt h.row))
theorem Ar.beside {w w' : World} {A B : Nat} {X : List Nat} {L : List Nat} {r wr by_ : Nat} (h : Ar w A B L r wr by_) (hb : Beside X w w') (hA : A ∉ X) (hB : B ∉ X) : Ar w' A B L r wr by_ :=
  h.of_blocks (hb.block _ (row_lt h.head) hA) (hb.block _ (row_lt h.row) hB)
theorem Ar.drew {w : World} {A B : Nat} {L : List Nat} {r wr by_ : Nat} (h : Ar w A B L r wr by_) : Ar w.drew A B L r wr by_ := h.of_blocks rfl rfl
theorem Ar.alloc {w : World} {A B : Nat} {L : List Nat} {r wr by_ : Nat} (h : Ar w A B L r wr by_) (o : Obj) : Ar (w.alloc o) A B L r wr by_ := h.below ((Below.refl _ _).alloc (Nat.le_refl _) _)
theorem Ar.other {w : World} {A B : Nat} {L : List Nat} {r wr by_ : Nat} (h : Ar w A B L r wr by_) (p : Addr) (v : Value) (hA : p.block ≠ A) (hB : p.block ≠ B) : Ar (w.setCell p v) A B L r wr by_ :=
  h.of_blocks (Below.heap_setCell _ _ _ _ (fun e => hA e.symm)) (Below.heap_setCell _ _ _ _ (fun e => hB e.symm))
theorem Ar.set1 {w : World} {A B : Nat} {L : List Nat} {r wr by_ : Nat} (h : Ar w A B L r wr by_) (v : Nat) : Ar (w.setCell ⟨A, 1, none⟩ (.int .i64 (v : Nat))) A B L v wr by_ :=
  ⟨heap_setCell_same w A 1 _ _ _ h.head, (heap_setCell_other _ _ _ _ (fun e => h.ne e.symm)).trans h.row, h.bytes⟩
theorem Ar.set2 {w : World} {A B : Nat} {L : List Nat} {r wr by_ : Nat} (h : Ar w A B L r wr by_) (v : Nat) : Ar (w.setCell ⟨A, 2, none⟩ (.int .i64 (v : Nat))) A B L r v by_ :=
  ⟨heap_setCell_same w A 2 _ _ _ h.head, (heap_setCell_other _ _ _ _ (fun e => h.ne e.symm)).trans h.row, h.bytes⟩
theorem Ar.set3 {w : World} {A B : Nat} {L : List Nat} {r wr by_ : Nat} (h : Ar w A B L r wr by_) (v : Nat) : Ar (w.setCell ⟨A, 3, none⟩ (.int .i64 (v : Nat))) A B L r wr v :=
  ⟨heap_setCell_same w A 3 _ _ _ h.head, (heap_setCell_other _ _ _ _ (fun e => h.ne e.symm)).trans h.row, h.bytes⟩

/-- the bytes M in the place of as many from 'at' on -/
def put (L : List Nat) (at_ : Nat) (M : List Nat) : List Nat := L.take at_ ++ (M ++ L.drop (at_ + M.length))
theorem put_length (L : List Nat) (at_ : Nat) (M : List Nat) (h : at_ + M.length ≤ L.length) : (put L at_ M).length = L.length := by
  simp [put]
  omega
theorem put_lt {L : List Nat} {at_ : Nat} {M : List Nat} (hL : ∀ x ∈ L, x < 256) (hM : ∀ x ∈ M, x < 256) : ∀ x ∈ put L at_ M, x < 256 := by
  intro x hx
  simp only [put, List.mem_append] at hx
  rcases hx with hx | hx | hx
  · exact hL x (List.mem_of_mem_take hx)
  · exact hM x hx
  · exact hL x (List.mem_of_mem_drop hx)
theorem put_nil (L : List Nat) (at_ : Nat) : put L at_ [] = L := by simp [put]

/-- 'copy(b, s)' into the arena's bytes -/
theorem Ar.copy {w : World} {A B : Nat} {L : List Nat} {r wr by_ : Nat} (h : Ar w A B L r wr by_) (at_ : Nat) (s : ByteArray) (hs : at_ + s.size ≤ L.length) (ad : Option Addr) (had : s.size = 0 ∨ ad = some ⟨B, at_, none⟩) (cap ty : Nat) :
    ∃ wC, (Builtin.copy_ #[45, 9] ty #[.slice ad s.size cap, .string s]).run Try.prog w = .ok (goInt s.size) wC ∧ Ar wC A B (put L at_ (byteL s)) r wr by_ ∧ Beside [B] w wC ∧ wC.heap.size = w.heap.size := by
  have h1 : (Try.prog.info? 5).map (·.size) = some 1 := by kernel_rfl
  by_cases h0 : s.size = 0
  · have hb : byteL s = [] := List.eq_nil_of_length_eq_zero (by rw [byteL_length]; exact h0)
    refine ⟨w, ?_, by rw [hb, put_nil]; exact h, Beside.refl _ _, rfl⟩
    have := Lib.run_copy_empty_string (P := Try.prog) w 45 9 ty 5 ad s.size cap s Try.underlying45 (by rw [h1]; rfl) h0
    rw [this, h0]; rfl
  · have had' : ad = some ⟨B, at_, none⟩ := had.resolve_left h0
    subst had'
    have hfit : at_ + s.size ≤ (numsV .u8 L).toArray.size := by simp [numsV_length]; exact hs
    refine ⟨_, Lib.run_copy_row_string (P := Try.prog) w 45 9 ty 5 B at_ s.size cap s (numsV .u8 L).toArray 5 Try.underlying45 h1 h.row (Nat.le_refl _) hfit, ?_, (Beside.refl _ _).setRow (Or.inl (List.mem_singleton.2 rfl)) _, by simp⟩
    have hl : (put L at_ (byteL s)).length = L.length := put_length _ _ _ (by rw [byteL_length]; exact hs)
    have he : ((numsV .u8 L).take at_ ++ Lib.byteCells s.data.toList ++ (numsV .u8 L).drop (at_ + s.size)) = numsV .u8 (put L at_ (byteL s)) := by
      simp only [put, numsV, List.map_append, List.map_take, List.map_drop, byteL_length, List.append_assoc]
      congr 2
      simp [Lib.byteCells, byteL]
    refine ⟨?_, ?_, put_lt h.bytes (byteL_lt s)⟩
    · rw [setRow_other _ _ _ _ h.ne, hl]; exact h.head
    · rw [setRow_heap _ _ _ _ _ _ h.row]
      simp only [List.toList_toArray] at he ⊢
      rw [he]

set_option maxHeartbeats 400000 in
theorem new_neg (n : Int) (w : World) (hn : n < 0) :
    Calls Try.prog 9 #[.int .i64 n] w fun e w' => e = .returned (.tuple #[.pointer none, .int .i64 2]) ∧ w = w' := by
  have h1 : decide (n < 0) = true := by rw [decide_eq_true_eq]; exact hn
  go_enter Try.func9, Try.ntmps9
  go_wp2_with fail
  go_ret2
  exact ⟨rfl, rfl⟩
set_option maxHeartbeats 400000 in
theorem new_big (n : Int) (w : World) (hn : 16777216 < n) :
    Calls Try.prog 9 #[.int .i64 n] w fun e w' => e = .returned (.tuple #[.pointer none, .int .i64 2]) ∧ w = w' := by
  have h1 : decide (n < 0) = false := by rw [decide_eq_false_iff_not]; omega
  have h2 : decide ((16777216 : Int) < n) = true := by rw [decide_eq_true_eq]; exact hn
  go_enter Try.func9, Try.ntmps9
  go_wp2_with fail
  go_ret2
  exact ⟨rfl, rfl⟩
/-- what a new arena is -/
def NewAr (n : Nat) (w : World) (e : Ending) (w' : World) : Prop :=
  ∃ A B, e = .returned (.tuple #[.pointer (some ⟨A, 0, none⟩), .int .i64 0]) ∧ Ar w' A B (List.replicate n 0) 0 0 0 ∧ Below w.heap.size w w' ∧ w.heap.size ≤ A ∧ w.heap.size ≤ B
set_option maxHeartbeats 400000 in
theorem new_ok (n : Nat) (w : World) (hn : n ≤ 16777216) : Calls Try.prog 9 #[.int .i64 n] w (NewAr n w) := by
  have hmk := make_row (P := Try.prog) 45 5 (.int .u8 0) 1 Try.underlying45 (by kernel_rfl) rfl n (by omega) (by omega) w
  have h1 : decide ((n : Int) < 0) = false := by rw [decide_eq_false_iff_not]; omega
  have h2 : decide ((16777216 : Int) < (n : Int)) = false := by rw [decide_eq_false_iff_not]; omega
  go_enter Try.func9, Try.ntmps9
  go_wp2_with fail
  go_ret2
  refine ⟨w.heap.size + 1, w.heap.size, rfl, ⟨?_, ?_, ?_⟩, ((Below.refl _ _).alloc (Nat.le_refl _) _).alloc (by simp) _, by omega, Nat.le_refl _⟩
  · rw [List.length_replicate]; exact heap_alloc2_new w _ _
  · have : numsV .u8 (List.replicate n 0) = List.replicate n (.int .u8 0) := by simp [numsV]
    rw [this]; exact heap_alloc2_old w _ _
  · intro x hx; rw [List.mem_replicate] at hx; omega

theorem len_nil (w : World) : Calls Try.prog 11 #[.pointer none] w fun e w' => e = .returned (.int .i64 0) ∧ w = w' := by
  go_enter Try.func11, Try.ntmps11
  go_wp2_with fail
  go_ret
  exact ⟨rfl, rfl⟩
theorem len_ok {w : World} {A B : Nat} {L : List Nat} {r wr by_ : Nat} (h : Ar w A B L r wr by_) : Calls Try.prog 11 #[.pointer (some ⟨A, 0, none⟩)] w fun e w' => e = .returned (.int .i64 (L.length : Nat)) ∧ w = w' := by
  have c0 := h.c0
  clear h
  go_enter Try.func11, Try.ntmps11
  go_wp2_with fail
  go_ret
  exact ⟨rfl, rfl⟩
theorem counts_nil (w : World) : Calls Try.prog 16 #[.pointer none] w fun e w' => e = .returned (.tuple #[.int .i64 0, .int .i64 0, .int .i64 0]) ∧ w = w' := by
  go_enter Try.func16, Try.ntmps16
  go_wp2_with fail
  go_ret3
  exact ⟨rfl, rfl⟩
theorem counts_ok {w : World} {A B : Nat} {L : List Nat} {r wr by_ : Nat} (h : Ar w A B L r wr by_) : Calls Try.prog 16 #[.pointer (some ⟨A, 0, none⟩)] w fun e w' => e = .returned (.tuple #[.int .i64 (r : Nat), .int .i64 (wr : Nat), .int .i64 (by_ : Nat)]) ∧ ∃ n, w' = w.drewN n := by
  have c1 := h.c1
  have c2 := h.c2
  have c3 := h.c3
  clear h
  go_enter Try.func16, Try.ntmps16
  go_wp2_with fail
  have hHeld : w.drew.cell? ⟨A, 1, none⟩ = some (.int .i64 (r : Nat)) ∧ w.drew.cell? ⟨A, 2, none⟩ = some (.int .i64 (wr : Nat)) ∧ w.drew.cell? ⟨A, 3, none⟩ = some (.int .i64 (by_ : Nat)) := ⟨c1, c2, c3⟩
  refine wp_region_T (fun w' => w'.cell? ⟨A, 1, none⟩ = some (.int .i64 (r : Nat)) ∧ w'.cell? ⟨A, 2, none⟩ = some (.int .i64 (wr : Nat)) ∧ w'.cell? ⟨A, 3, none⟩ = some (.int .i64 (by_ : Nat))) [.take 0, .take 1, .take 2, .take 3, .take 4, .take 5, .take 6, .take 7, .take 8, .take 9, .take 10, .take 11, .take 12, .take 13, .take 14] (by kernel_rfl) (by kernel_rfl) (fun _ _ _ _ _ h => h) hHeld ?_
  refine T_light (a' := ?_) 7 rfl rfl rfl (of_decide_eq_true rfl) rfl hHeld (fun wq hSq K Q hK => ?_) ?_
  rotate_left
  · (go_step; exact hK)
  refine T_light (a' := ?_) 8 rfl rfl rfl (of_decide_eq_true rfl) rfl hHeld (fun wq hSq K Q hK => ?_) ?_
  rotate_left
  · (go_step; exact hK)
  refine T_light (a' := ?_) 9 rfl rfl rfl (of_decide_eq_true rfl) rfl hHeld (fun wq hSq K Q hK => ?_) ?_
  rotate_left
  · (go_step; exact hK)
  refine T_light (a' := ?_) 10 rfl rfl rfl (of_decide_eq_true rfl) rfl hHeld (fun wq hSq K Q hK => ?_) ?_
  rotate_left
  · (obtain ⟨q1, q2, q3⟩ := hSq; go_step; exact hK)
  refine T_light (a' := ?_) 11 rfl rfl rfl (of_decide_eq_true rfl) rfl hHeld (fun wq hSq K Q hK => ?_) ?_
  rotate_left
  · (go_step; exact hK)
  refine T_light (a' := ?_) 12 rfl rfl rfl (of_decide_eq_true rfl) rfl hHeld (fun wq hSq K Q hK => ?_) ?_
  rotate_left
  · (go_step; exact hK)
  refine T_light (a' := ?_) 13 rfl rfl rfl (of_decide_eq_true rfl) rfl hHeld (fun wq hSq K Q hK => ?_) ?_
  rotate_left
  · (go_step; exact hK)
  refine T_light (a' := ?_) 14 rfl rfl rfl (of_decide_eq_true rfl) rfl hHeld (fun wq hSq K Q hK => ?_) ?_
  rotate_left
  · (obtain ⟨q1, q2, q3⟩ := hSq; go_step; exact hK)
  refine T_light (a' := ?_) 15 rfl rfl rfl (of_decide_eq_true rfl) rfl hHeld (fun wq hSq K Q hK => ?_) ?_
  rotate_left
  · (go_step; exact hK)
  refine T_light (a' := ?_) 16 rfl rfl rfl (of_decide_eq_true rfl) rfl hHeld (fun wq hSq K Q hK => ?_) ?_
  rotate_left
  · (go_step; exact hK)
  refine T_light (a' := ?_) 17 rfl rfl rfl (of_decide_eq_true rfl) rfl hHeld (fun wq hSq K Q hK => ?_) ?_
  rotate_left
  · (go_step; exact hK)
  refine T_light (a' := ?_) 18 rfl rfl rfl (of_decide_eq_true rfl) rfl hHeld (fun wq hSq K Q hK => ?_) ?_
  rotate_left
  · (obtain ⟨q1, q2, q3⟩ := hSq; go_step; exact hK)
  refine T_light (a' := ?_) 2 rfl rfl rfl (of_decide_eq_true rfl) rfl hHeld (fun wq hSq K Q hK => ?_) ?_
  rotate_left
  · (go_step; exact hK)
  refine T_light (a' := ?_) 3 rfl rfl rfl (of_decide_eq_true rfl) rfl hHeld (fun wq hSq K Q hK => ?_) ?_
  rotate_left
  · (go_step; exact hK)
  refine T_light (a' := ?_) 4 rfl rfl rfl (of_decide_eq_true rfl) rfl hHeld (fun wq hSq K Q hK => ?_) ?_
  rotate_left
  · (go_step; exact hK)
  refine T_done ?_
  go_wp2_with fail
  go_ret3
  exact ⟨rfl, 1, rfl⟩
end Go.Proofs.Ytdfmfbbeokhaaaa
