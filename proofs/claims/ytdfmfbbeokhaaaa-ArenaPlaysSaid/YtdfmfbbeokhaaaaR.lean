/-
  Arena: the reference's arena (contracts).
-/
import Derived.Test.YtdfmfbbeokhaaaaC
import Derived.Deep.WholeRow
import Derived.Laws.Concat
set_option linter.unusedSimpArgs false
set_option linter.unusedVariables false
namespace Go.Proofs.Ytdfmfbbeokhaaaa
open Go.RowKit

/-- the reference's arena in memory -/
abbrev RefAt (w : World) (X : Nat) (S : ByteArray) (r wr by_ : Nat) : Prop := w.heap[X]? = some (.cells #[.string S, .int .i64 (r : Nat), .int .i64 (wr : Nat), .int .i64 (by_ : Nat)] 43 (0, 0))

theorem rnew_neg (n : Int) (w : World) (hn : n < 0) : Calls Try.prog 10 #[.int .i64 n] w fun e w' => e = .returned (.pointer none) ∧ w = w' := by
  have h1 : decide (n < 0) = true := by rw [decide_eq_true_eq]; exact hn
  go_enter Try.func10, Try.ntmps10
  go_wp2_with fail
  go_ret
  exact ⟨rfl, rfl⟩
theorem rnew_big (n : Int) (w : World) (hn : 16777216 < n) : Calls Try.prog 10 #[.int .i64 n] w fun e w' => e = .returned (.pointer none) ∧ w = w' := by
  have h1 : decide (n < 0) = false := by rw [decide_eq_false_iff_not]; omega
  have h2 : decide ((16777216 : Int) < n) = true := by rw [decide_eq_true_eq]; exact hn
  clear hn
  go_enter Try.func10, Try.ntmps10
  go_wp2_with fail
  go_ret
  exact ⟨rfl, rfl⟩
theorem rnew_ok (n : Nat) (w : World) (hn : n ≤ 16777216) : Calls Try.prog 10 #[.int .i64 n] w fun e w' => ∃ X, e = .returned (.pointer (some ⟨X, 0, none⟩)) ∧ RefAt w' X (textOf (List.replicate n 0)) 0 0 0 ∧ Below w.heap.size w w' ∧ w.heap.size ≤ X := by
  have hmk := make_row (P := Try.prog) 45 5 (.int .u8 0) 1 Try.underlying45 (by kernel_rfl) rfl n (by omega) (by omega) w
  have hcv : (convert 45 9 (.slice (some ⟨w.heap.size, 0, none⟩) n n)).run Try.prog (w.alloc (.cells (List.replicate n (Value.int .u8 0)).toArray 5)) = .ok (.string (textOf (List.replicate n 0))) (w.alloc (.cells (List.replicate n (Value.int .u8 0)).toArray 5)) :=
    string_of_row 45 9 5 Try.underlying45 Try.underlying5 Try.underlying9 n n (List.replicate n 0) (fun x hx => by rw [List.eq_of_mem_replicate hx]; omega) (by simp) (fun j m hj => by
      rw [List.getElem?_replicate] at hj
      by_cases h : j < n
      · rw [if_pos h] at hj
        simp only [Option.some.injEq] at hj
        subst hj
        rw [Nat.zero_add, cell_of_row _ _ _ _ _ _ (heap_alloc_last w _)]
        simp [h]
      · rw [if_neg h] at hj; cases hj)
  rw [show (List.replicate n (Value.int .u8 0)).toArray = Array.replicate n (Value.int .u8 0) by simp] at hmk hcv
  have h1 : decide ((n : Int) < 0) = false := by rw [decide_eq_false_iff_not]; omega
  have h2 : decide ((16777216 : Int) < (n : Int)) = false := by rw [decide_eq_false_iff_not]; omega
  clear hn
  go_enter Try.func10, Try.ntmps10
  go_wp2_with fail
  go_ret
  exact ⟨w.heap.size + 1, rfl, heap_alloc2_new w _ _, ((Below.refl _ _).alloc (Nat.le_refl _) _).alloc (by simp) _, by omega⟩

theorem rwrite_err {w : World} {X : Nat} {S : ByteArray} {r wr by_ : Nat} (h : RefAt w X S r wr by_) (hS : S.size ≤ 16777216) (at_ : Int) (s : ByteArray) (hc : ¬ (0 ≤ at_ ∧ at_ + s.size ≤ (S.size : Int))) :
    Calls Try.prog 13 #[.pointer (some ⟨X, 0, none⟩), .int .i64 at_, .string s] w fun e w' => e = .returned (.int .i64 2) ∧ w = w' := by
  have c0 : w.cell? ⟨X, 0, none⟩ = some (.string S) := by rw [cell_of_row _ _ _ _ _ _ h]; rfl
  by_cases a1 : at_ < 0
  · have h1 : decide (at_ < 0) = true := by rw [decide_eq_true_eq]; exact a1
    clear h hc a1 hS
    go_enter Try.func13, Try.ntmps13
    go_wp2_with fail
    go_ret
    exact ⟨rfl, rfl⟩
  have h1 : decide (at_ < 0) = false := by rw [decide_eq_false_iff_not]; exact a1
  by_cases a2 : (S.size : Int) < at_
  · have h2 : decide ((S.size : Int) < at_) = true := by rw [decide_eq_true_eq]; exact a2
    clear h hc a1 a2 hS
    go_enter Try.func13, Try.ntmps13
    go_wp2_with fail
    go_ret
    exact ⟨rfl, rfl⟩
  have h2 : decide ((S.size : Int) < at_) = false := by rw [decide_eq_false_iff_not]; exact a2
  have h3 : decide ((S.size : Int) - at_ < (s.size : Int)) = true := by rw [decide_eq_true_eq]; omega
  have e1 : wrap64 ((S.size : Int) - at_) = (S.size : Int) - at_ := by unfold wrap64; omega
  clear h hc a1 a2 hS
  go_enter Try.func13, Try.ntmps13
  go_wp2_with fail
  go_ret
  exact ⟨rfl, rfl⟩
theorem rread_err {w : World} {X : Nat} {S : ByteArray} {r wr by_ : Nat} (h : RefAt w X S r wr by_) (hS : S.size ≤ 16777216) (at_ n : Int) (hc : ¬ (0 ≤ at_ ∧ 0 ≤ n ∧ at_ + n ≤ (S.size : Int))) :
    Calls Try.prog 15 #[.pointer (some ⟨X, 0, none⟩), .int .i64 at_, .int .i64 n] w fun e w' => e = .returned (.tuple #[.string ⟨#[]⟩, .int .i64 2]) ∧ w = w' := by
  have c0 : w.cell? ⟨X, 0, none⟩ = some (.string S) := by rw [cell_of_row _ _ _ _ _ _ h]; rfl
  by_cases a1 : at_ < 0
  · have h1 : decide (at_ < 0) = true := by rw [decide_eq_true_eq]; exact a1
    clear h hc a1 hS
    go_enter Try.func15, Try.ntmps15
    go_wp2_with fail
    go_ret2
    exact ⟨rfl, rfl⟩
  have h1 : decide (at_ < 0) = false := by rw [decide_eq_false_iff_not]; exact a1
  by_cases a0 : n < 0
  · have h0 : decide (n < 0) = true := by rw [decide_eq_true_eq]; exact a0
    clear h hc a1 a0 hS
    go_enter Try.func15, Try.ntmps15
    go_wp2_with fail
    go_ret2
    exact ⟨rfl, rfl⟩
  have h0 : decide (n < 0) = false := by rw [decide_eq_false_iff_not]; exact a0
  by_cases a2 : (S.size : Int) < at_
  · have h2 : decide ((S.size : Int) < at_) = true := by rw [decide_eq_true_eq]; exact a2
    clear h hc a1 a2 a0 hS
    go_enter Try.func15, Try.ntmps15
    go_wp2_with fail
    go_ret2
    exact ⟨rfl, rfl⟩
  have h2 : decide ((S.size : Int) < at_) = false := by rw [decide_eq_false_iff_not]; exact a2
  have h3 : decide ((S.size : Int) - at_ < n) = true := by rw [decide_eq_true_eq]; omega
  have e1 : wrap64 ((S.size : Int) - at_) = (S.size : Int) - at_ := by unfold wrap64; omega
  clear h hc a1 a2 a0 hS
  go_enter Try.func15, Try.ntmps15
  go_wp2_with fail
  go_ret2
  exact ⟨rfl, rfl⟩
theorem rread_ok {w : World} {X : Nat} {S : ByteArray} {r wr by_ : Nat} (h : RefAt w X S r wr by_) (hS : S.size ≤ 16777216) (hr : r ≤ 1000000) (at_ n : Nat) (hc : at_ + n ≤ S.size) :
    Calls Try.prog 15 #[.pointer (some ⟨X, 0, none⟩), .int .i64 (at_ : Nat), .int .i64 (n : Nat)] w fun e w' => e = .returned (.tuple #[.string (S.extract at_ (at_ + n)), .int .i64 0]) ∧ RefAt w' X S (r + 1) wr by_ ∧ Beside [X] w w' := by
  have c0 : w.cell? ⟨X, 0, none⟩ = some (.string S) := by rw [cell_of_row _ _ _ _ _ _ h]; rfl
  have c1 : w.cell? ⟨X, 1, none⟩ = some (.int .i64 (r : Nat)) := by rw [cell_of_row _ _ _ _ _ _ h]; rfl
  have f1 : w.frozen? ⟨X, 1, none⟩ = false := frozen_of_row _ _ _ _ _ h
  have h1 : decide ((at_ : Int) < 0) = false := by rw [decide_eq_false_iff_not]; omega
  have h0 : decide ((n : Int) < 0) = false := by rw [decide_eq_false_iff_not]; omega
  have h2 : decide ((S.size : Int) < (at_ : Int)) = false := by rw [decide_eq_false_iff_not]; omega
  have h2' : decide (S.size < at_) = false := by rw [decide_eq_false_iff_not]; omega
  have h3 : decide ((S.size : Int) - (at_ : Int) < (n : Int)) = false := by rw [decide_eq_false_iff_not]; omega
  have g1 : (at_ : Int) ≤ (at_ : Int) + (n : Int) := by omega
  have g2 : (at_ : Int) + (n : Int) ≤ (S.size : Int) := by omega
  have e1 : wrap64 ((S.size : Int) - (at_ : Int)) = (S.size : Int) - (at_ : Int) := by unfold wrap64; omega
  have e2 : wrap64 ((at_ : Int) + (n : Int)) = (at_ : Int) + (n : Int) := by clear e1; unfold wrap64; omega
  have e3 : wrap64 ((r : Int) + 1) = (r : Int) + 1 := by clear e1 e2; unfold wrap64; omega
  have hnew : Hid (RefAt (w.setCell ⟨X, 1, none⟩ (.int .i64 ((r : Int) + 1))) X S (r + 1) wr by_) := Lib.hid (by
    have := heap_setCell_same w X 1 _ 43 (.int .i64 ((r : Int) + 1)) h
    unfold RefAt
    rw [this]
    simp)
  have hbes : Hid (Beside [X] w (w.setCell ⟨X, 1, none⟩ (.int .i64 ((r : Int) + 1)))) := Lib.hid ((Beside.refl _ _).setCell (.inl (by simp)) _)
  clear h hS hr hc
  go_enter Try.func15, Try.ntmps15
  go_wp2_with fail
  go_ret2
  exact ⟨rfl, hnew.out, hbes.out⟩
theorem rwrite_ok {w : World} {X : Nat} {S : ByteArray} {r wr by_ : Nat} (h : RefAt w X S r wr by_) (hS : S.size ≤ 16777216) (hw : wr ≤ 1000000) (hby : by_ ≤ 1000000000) (at_ : Nat) (s : ByteArray) (hc : at_ + s.size ≤ S.size) :
    Calls Try.prog 13 #[.pointer (some ⟨X, 0, none⟩), .int .i64 (at_ : Nat), .string s] w fun e w' => e = .returned (.int .i64 0) ∧ RefAt w' X (S.extract 0 at_ ++ s ++ S.extract (at_ + s.size) S.size) r (wr + 1) (by_ + s.size) ∧ Beside [X] w w' := by
  have c0 : w.cell? ⟨X, 0, none⟩ = some (.string S) := by rw [cell_of_row _ _ _ _ _ _ h]; rfl
  have c2 : w.cell? ⟨X, 2, none⟩ = some (.int .i64 (wr : Nat)) := by rw [cell_of_row _ _ _ _ _ _ h]; rfl
  have c3 : w.cell? ⟨X, 3, none⟩ = some (.int .i64 (by_ : Nat)) := by rw [cell_of_row _ _ _ _ _ _ h]; rfl
  have f0 : ∀ j, w.frozen? ⟨X, j, none⟩ = false := fun j => frozen_of_row _ _ _ _ _ h
  have f2 := f0 2
  have f3 := f0 3
  have h1 : decide ((at_ : Int) < 0) = false := by rw [decide_eq_false_iff_not]; omega
  have h2 : decide ((S.size : Int) < (at_ : Int)) = false := by rw [decide_eq_false_iff_not]; omega
  have h2' : decide (S.size < at_) = false := by rw [decide_eq_false_iff_not]; omega
  have h3 : decide ((S.size : Int) - (at_ : Int) < (s.size : Int)) = false := by rw [decide_eq_false_iff_not]; omega
  have g1 : (at_ : Int) ≤ (S.size : Int) := by omega
  have g2 : (at_ : Int) + (s.size : Int) ≤ (S.size : Int) := by omega
  have g3 : (0 : Int) ≤ (at_ : Int) + (s.size : Int) := by omega
  have e1 : wrap64 ((S.size : Int) - (at_ : Int)) = (S.size : Int) - (at_ : Int) := by unfold wrap64; omega
  have e2 : wrap64 ((at_ : Int) + (s.size : Int)) = (at_ : Int) + (s.size : Int) := by clear e1; unfold wrap64; omega
  have e3 : wrap64 ((wr : Int) + 1) = (wr : Int) + 1 := by clear e1 e2; unfold wrap64; omega
  have e4 : wrap64 ((by_ : Int) + (s.size : Int)) = (by_ : Int) + (s.size : Int) := by clear e1 e2 e3; unfold wrap64; omega
  have q2 := heap_setCell_same w X 2 _ 43 (.int .i64 ((wr : Int) + 1)) h
  have q3 := heap_setCell_same _ X 3 _ 43 (.int .i64 ((by_ : Int) + (s.size : Int))) q2
  have q4 := heap_setCell_same _ X 0 _ 43 (.string (S.extract 0 at_ ++ s ++ S.extract (at_ + s.size) S.size)) q3
  have hb4 : Hid (Beside [X] w (((w.setCell ⟨X, 2, none⟩ (.int .i64 ((wr : Int) + 1))).setCell ⟨X, 3, none⟩ (.int .i64 ((by_ : Int) + (s.size : Int)))).setCell ⟨X, 0, none⟩ (.string (S.extract 0 at_ ++ s ++ S.extract (at_ + s.size) S.size)))) := Lib.hid ((((Beside.refl _ _).setCell (.inl (by simp)) _).setCell (.inl (by simp)) _).setCell (.inl (by simp)) _)
  have hr4 : Hid (RefAt (((w.setCell ⟨X, 2, none⟩ (.int .i64 ((wr : Int) + 1))).setCell ⟨X, 3, none⟩ (.int .i64 ((by_ : Int) + (s.size : Int)))).setCell ⟨X, 0, none⟩ (.string (S.extract 0 at_ ++ s ++ S.extract (at_ + s.size) S.size))) X (S.extract 0 at_ ++ s ++ S.extract (at_ + s.size) S.size) r (wr + 1) (by_ + s.size)) := Lib.hid (by unfold RefAt; rw [q4]; simp)
  obtain ⟨w3, hw3⟩ : ∃ w3, w3 = (w.setCell ⟨X, 2, none⟩ (.int .i64 ((wr : Int) + 1))).setCell ⟨X, 3, none⟩ (.int .i64 ((by_ : Int) + (s.size : Int))) := ⟨_, rfl⟩
  have k0 : w3.cell? ⟨X, 0, none⟩ = some (.string S) := by rw [hw3, cell_of_row _ _ _ _ _ _ q3]; simp
  have kf : w3.frozen? ⟨X, 0, none⟩ = false := by rw [hw3]; exact frozen_of_row _ _ _ _ _ q3
  have hc1 : ∀ W : World, (Op.stringOp .add (S.extract 0 at_) s).run Try.prog W = .ok (.string (S.extract 0 at_ ++ s)) W := fun W => run_string_add_sum W _ _ (by simp only [ByteArray.size_extract]; clear e1 e2 e3 e4; omega)
  have hc2 : ∀ W : World, (Op.stringOp .add (S.extract 0 at_ ++ s) (S.extract (at_ + s.size) S.size)).run Try.prog W = .ok (.string (S.extract 0 at_ ++ s ++ S.extract (at_ + s.size) S.size)) W := fun W => run_string_add_sum W _ _ (by simp only [ByteArray.size_append, ByteArray.size_extract]; clear e1 e2 e3 e4; omega)
  clear h hS hw hby hc q2 q3 q4 f0
  go_enter Try.func13, Try.ntmps13
  go_wp2_with fail
  rw [← hw3] at hb4 hr4 ⊢
  clear hw3 c2 c3 f2 f3
  have hHeld : w3.drew.cell? ⟨X, 0, none⟩ = some (.string S) := k0
  refine wp_region_Z (fun w' => w'.cell? ⟨X, 0, none⟩ = some (.string S)) 21 [.take 0, .take 1, .take 2, .take 3, .take 4, .take 5, .take 6, .take 7, .take 8, .take 9, .take 10, .take 11, .take 12, .take 13, .take 14, .take 15, .take 16, .take 17, .take 18, .take 19, .take 20, .last 21] [20, 18, 0, 1, 2, 3, 4, 5, 6, 7, 8, 9, 10, 11, 12, 13, 14, 15, 16, 17, 19] (by kernel_rfl) (by kernel_rfl) (fun _ _ _ _ _ h => h) hHeld ?_
  refine T_light (a' := ?_) 47 rfl rfl rfl (of_decide_eq_true rfl) rfl hHeld (fun wq hSq K Q hK => ?_) ?_
  rotate_left
  · (go_step; exact hK)
  refine T_light (a' := ?_) 48 rfl rfl rfl (of_decide_eq_true rfl) rfl hHeld (fun wq hSq K Q hK => ?_) ?_
  rotate_left
  · (go_step; exact hK)
  refine T_light (a' := ?_) 49 rfl rfl rfl (of_decide_eq_true rfl) rfl hHeld (fun wq hSq K Q hK => ?_) ?_
  rotate_left
  · (go_step; exact hK)
  refine T_light (a' := ?_) 50 rfl rfl rfl (of_decide_eq_true rfl) rfl hHeld (fun wq hSq K Q hK => ?_) ?_
  rotate_left
  · (go_step; exact hK)
  refine T_light (a' := ?_) 51 rfl rfl rfl (of_decide_eq_true rfl) rfl hHeld (fun wq hSq K Q hK => ?_) ?_
  rotate_left
  · ((have q1 := hSq; go_step); exact hK)
  refine T_light (a' := ?_) 52 rfl rfl rfl (of_decide_eq_true rfl) rfl hHeld (fun wq hSq K Q hK => ?_) ?_
  rotate_left
  · (go_step; exact hK)
  refine T_light (a' := ?_) 53 rfl rfl rfl (of_decide_eq_true rfl) rfl hHeld (fun wq hSq K Q hK => ?_) ?_
  rotate_left
  · (go_step; exact hK)
  refine T_light (a' := ?_) 54 rfl rfl rfl (of_decide_eq_true rfl) rfl hHeld (fun wq hSq K Q hK => ?_) ?_
  rotate_left
  · (go_step; exact hK)
  refine T_light (a' := ?_) 55 rfl rfl rfl (of_decide_eq_true rfl) rfl hHeld (fun wq hSq K Q hK => ?_) ?_
  rotate_left
  · (go_step; exact hK)
  refine T_light (a' := ?_) 56 rfl rfl rfl (of_decide_eq_true rfl) rfl hHeld (fun wq hSq K Q hK => ?_) ?_
  rotate_left
  · (go_step; exact hK)
  refine T_light (a' := ?_) 57 rfl rfl rfl (of_decide_eq_true rfl) rfl hHeld (fun wq hSq K Q hK => ?_) ?_
  rotate_left
  · (go_step; exact hK)
  refine T_light (a' := ?_) 58 rfl rfl rfl (of_decide_eq_true rfl) rfl hHeld (fun wq hSq K Q hK => ?_) ?_
  rotate_left
  · (go_step; exact hK)
  refine T_light (a' := ?_) 59 rfl rfl rfl (of_decide_eq_true rfl) rfl hHeld (fun wq hSq K Q hK => ?_) ?_
  rotate_left
  · ((have q1 := hSq; go_step); exact hK)
  refine T_light (a' := ?_) 60 rfl rfl rfl (of_decide_eq_true rfl) rfl hHeld (fun wq hSq K Q hK => ?_) ?_
  rotate_left
  · (go_step; exact hK)
  refine T_light (a' := ?_) 61 rfl rfl rfl (of_decide_eq_true rfl) rfl hHeld (fun wq hSq K Q hK => ?_) ?_
  rotate_left
  · (go_step; exact hK)
  refine T_light (a' := ?_) 62 rfl rfl rfl (of_decide_eq_true rfl) rfl hHeld (fun wq hSq K Q hK => ?_) ?_
  rotate_left
  · (go_step; exact hK)
  refine T_light (a' := ?_) 63 rfl rfl rfl (of_decide_eq_true rfl) rfl hHeld (fun wq hSq K Q hK => ?_) ?_
  rotate_left
  · (go_step; exact hK)
  refine T_light (a' := ?_) 64 rfl rfl rfl (of_decide_eq_true rfl) rfl hHeld (fun wq hSq K Q hK => ?_) ?_
  rotate_left
  · (go_step; exact hK)
  refine T_light (a' := ?_) 65 rfl rfl rfl (of_decide_eq_true rfl) rfl hHeld (fun wq hSq K Q hK => ?_) ?_
  rotate_left
  · (go_step; exact hK)
  refine T_light (a' := ?_) 66 rfl rfl rfl (of_decide_eq_true rfl) rfl hHeld (fun wq hSq K Q hK => ?_) ?_
  rotate_left
  · (go_step; exact hK)
  refine T_light (a' := ?_) 67 rfl rfl rfl (of_decide_eq_true rfl) rfl hHeld (fun wq hSq K Q hK => ?_) ?_
  rotate_left
  · (go_step; exact hK)
  refine T_last rfl rfl (fun K hK => ?_)
  go_step
  refine hK _ _ ?_
  clear hK K
  refine T_done ?_
  go_wp2_with fail
  go_ret
  exact ⟨rfl, hr4.out, hb4.out.drew⟩
end Go.Proofs.Ytdfmfbbeokhaaaa
