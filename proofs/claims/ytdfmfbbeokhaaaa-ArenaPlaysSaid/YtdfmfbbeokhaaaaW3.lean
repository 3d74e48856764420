/-
  Arena: Write and Read.
-/
import Derived.Test.YtdfmfbbeokhaaaaW2
import Derived.Laws.Cover3
set_option linter.unusedSimpArgs false
set_option linter.unusedVariables false
namespace Go.Proofs.Ytdfmfbbeokhaaaa
open Go.RowKit

theorem slice_run (B N at_ n : Nat) (h : at_ + n ≤ N) : ∃ o, (n = 0 ∨ o = at_) ∧ ∀ w, (Instr.sliceAt 45 (.slice (some ⟨B, 0, none⟩) N N) (some (.int .i64 (at_ : Nat))) (some (.int .i64 ((at_ : Int) + (n : Int)))) none).run Try.prog w = .ok (.slice (some ⟨B, o, none⟩) n (N - at_)) w := by
  have hi : (Try.prog.info? 5).map (·.size) = some 1 := by kernel_rfl
  refine ⟨if N = at_ then 0 else at_, ?_, fun w => ?_⟩
  · by_cases e : N = at_
    · left; omega
    · right; rw [if_neg e]
  · have he : Try.prog.elem 45 = 5 := by kernel_rfl
    have hu : Try.prog.underlying 45 = some (.slice (Try.prog.elem 45)) := by rw [he]; exact Try.underlying45
    obtain ⟨i5, h5, h5s⟩ := Option.map_eq_some_iff.1 hi
    have hs : ((sizeOf 5).run Try.prog w) = .ok 1 w := by
      rw [run_sizeOf w h5, Program.cellsOf, h5]
      simpa using h5s
    rw [run_sliceAt_slice w _ _ _ _ _ hu, run_slice_lh w _ _ _ _ hu _ _ _ _ (by omega) (by omega) (by omega), he, hs]
    simp only [Result.andThen_ok, sliced]
    have : (((at_ : Int) + (n : Int))).toNat = at_ + n := by omega
    rw [this]
    have : ((at_ : Int)).toNat = at_ := by omega
    rw [this]
    by_cases e : N = at_
    · simp [e]
    · rw [if_neg e, if_neg e, show at_ + n - at_ = n by omega]
      simp [Addr.add]
      omega

theorem slice_nil (p : Addr) (n m : Nat) (w : World) : (binOp .eql 45 (.slice (some p) n m) (.slice none 0 0)).run Try.prog w = .ok (.bool false) w := by
  simp only [binOp, go_sem]
  rw [Sem.run_bind, run_equal_slice_nil w 45 5 (some p) n m Try.underlying45]
  rfl

theorem write_ok {w : World} {A B : Nat} {L : List Nat} {r wr by_ : Nat} (h : Ar w A B L r wr by_) (at_ : Nat) (s : ByteArray) (hs : at_ + s.size ≤ L.length) (hsz : s.size ≤ 140737488351232) (hL : L.length ≤ 16777216) (hwr : wr ≤ 140737488351232) (hby : by_ ≤ 140737488351232) :
    Calls Try.prog 12 #[.pointer (some ⟨A, 0, none⟩), .int .i64 (at_ : Nat), .string s] w fun e w' => e = .returned (.int .i64 0) ∧ Ar w' A B (put L at_ (byteL s)) r (wr + 1) (by_ + s.size) ∧ Beside [A, B] w w' := by
  obtain ⟨o, ho, hsl⟩ := slice_run B L.length at_ s.size hs
  have h1 : decide ((at_ : Int) < 0) = false := by rw [decide_eq_false_iff_not]; omega
  have h2 : decide ((s.size : Int) < 0) = false := by rw [decide_eq_false_iff_not]; omega
  have h3 : decide ((L.length : Int) < (at_ : Int)) = false := by rw [decide_eq_false_iff_not]; omega
  have h3' : decide (L.length < at_) = false := by rw [decide_eq_false_iff_not]; omega
  have h4 : wrap64 ((L.length : Int) - (at_ : Int)) = (L.length : Int) - (at_ : Int) := by unfold wrap64; omega
  have h5 : decide ((L.length : Int) - (at_ : Int) < (s.size : Int)) = false := by rw [decide_eq_false_iff_not]; omega
  have h6 : wrap64 ((at_ : Int) + (s.size : Int)) = (at_ : Int) + (s.size : Int) := by unfold wrap64; omega
  have c0 := h.c0
  have hq := slice_nil ⟨B, 0, none⟩ L.length L.length
  have bA := row_lt h.head
  have bB := row_lt h.row
  have bA1 : A < w.heap.size + 1 := by omega
  have hc := cl_write (w := (w.alloc (Obj.cells #[.pointer (some ⟨A, 0, none⟩)] 25)).alloc (Obj.cells #[.string s] 9)) ((h.alloc _).alloc _) at_ s hs (some ⟨B, o, none⟩) (by rcases ho with e | e; exact .inl e; rw [e]; exact .inr rfl) (L.length - at_) (w.heap.size + 1) w.heap.size
    (by rw [World.cell?_alloc_at _ _ _ _ (by simp)]; rfl) (by rw [World.cell?_alloc_lt _ _ _ (by simp)]; rw [World.cell?_alloc_new]; rfl) (by omega) (by omega) (by omega) (by omega) hsz hwr hby
  clear hsz hL hwr hby hs ho
  go_enter Try.func12, Try.ntmps12
  go_wp2_with (first | (go_at_call 17; go_in) | (go_at_call 18; refine hc.mono ?_; rintro e w2 ⟨rfl, hA2, hb2⟩))
  go_ret
  exact ⟨rfl, hA2, (((Beside.refl _ w).alloc _).alloc _).trans hb2⟩

theorem read_ok {w : World} {A B : Nat} {L : List Nat} {r wr by_ : Nat} (h : Ar w A B L r wr by_) (at_ n : Nat) (hs : at_ + n ≤ L.length) (hL : L.length ≤ 16777216) (hr : r ≤ 140737488351232) :
    Calls Try.prog 14 #[.pointer (some ⟨A, 0, none⟩), .int .i64 (at_ : Nat), .int .i64 (n : Nat)] w fun e w' => e = .returned (.tuple #[.string (textOf (sub_ L at_ n)), .int .i64 0]) ∧ Ar w' A B L (r + 1) wr by_ ∧ Beside [A] w w' := by
  obtain ⟨o, ho, hsl⟩ := slice_run B L.length at_ n hs
  have h1 : decide ((at_ : Int) < 0) = false := by rw [decide_eq_false_iff_not]; omega
  have h2 : decide ((n : Int) < 0) = false := by rw [decide_eq_false_iff_not]; omega
  have h3 : decide ((L.length : Int) < (at_ : Int)) = false := by rw [decide_eq_false_iff_not]; omega
  have h3' : decide (L.length < at_) = false := by rw [decide_eq_false_iff_not]; omega
  have h4 : wrap64 ((L.length : Int) - (at_ : Int)) = (L.length : Int) - (at_ : Int) := by unfold wrap64; omega
  have h5 : decide ((L.length : Int) - (at_ : Int) < (n : Int)) = false := by rw [decide_eq_false_iff_not]; omega
  have h6 : wrap64 ((at_ : Int) + (n : Int)) = (at_ : Int) + (n : Int) := by unfold wrap64; omega
  have c0 := h.c0
  have hq := slice_nil ⟨B, 0, none⟩ L.length L.length
  have bA := row_lt h.head
  have bB := row_lt h.row
  have bA1 : A < w.heap.size + 1 := by omega
  have hc := cl_read (w := (w.alloc (Obj.cells #[.pointer (some ⟨A, 0, none⟩)] 25)).alloc (Obj.cells #[.string ⟨#[]⟩] 9)) ((h.alloc _).alloc _) at_ n hs o ho (L.length - at_) (w.heap.size + 1) w.heap.size ⟨#[]⟩
    (by rw [World.cell?_alloc_at _ _ _ _ (by simp)]; rfl) (World.frozen?_alloc_at _ _ _ _ (by simp)) (by rw [World.cell?_alloc_lt _ _ _ (by simp)]; rw [World.cell?_alloc_new]; rfl) (by omega) (by omega) (by omega) hr
  clear hL hr hs ho
  go_enter Try.func14, Try.ntmps14
  go_wp2_with (first | (go_at_call 17; go_in) | (go_at_call 19; refine hc.mono ?_; rintro e w2 ⟨rfl, hA2, hb2, hs2, hf2⟩))
  refine bodyPost_ret (by rw [results_cell_tmp rfl]; simp [asAddr, loadVar, run_load, hs2, go_sem]; rfl) rfl ?_
  exact ⟨rfl, hA2.other _ _ (by simp; omega) (by simp; omega), (((Beside.refl [A] w).alloc _).alloc _).thin (hb2.setCell (.inl (by simp)) _) (by simp)⟩

theorem write_nil (at_ : Int) (s : ByteArray) (w : World) : Calls Try.prog 12 #[.pointer none, .int .i64 at_, .string s] w fun e w' => e = .returned (.int .i64 1) ∧ Below w.heap.size w w' := by
  go_enter Try.func12, Try.ntmps12
  go_wp2_with (go_at_call 17; go_in)
  go_ret
  exact ⟨rfl, ((Below.refl _ w).alloc (Nat.le_refl _) _).alloc (by simp) _⟩
theorem read_nil (at_ n : Int) (w : World) : Calls Try.prog 14 #[.pointer none, .int .i64 at_, .int .i64 n] w fun e w' => e = .returned (.tuple #[.string ⟨#[]⟩, .int .i64 1]) ∧ Below w.heap.size w w' := by
  go_enter Try.func14, Try.ntmps14
  go_wp2_with (go_at_call 17; go_in)
  refine bodyPost_ret (by rw [results_cell_tmp rfl]; simp [asAddr, loadVar, run_load, go_sem]; rfl) rfl ?_
  exact ⟨rfl, ((Below.refl _ w).alloc (Nat.le_refl _) _).alloc (by simp) _⟩
theorem read_err1 {w : World} {A B : Nat} {L : List Nat} {r wr by_ : Nat} (h : Ar w A B L r wr by_) (hL : L.length ≤ 16777216) (at_ : Int) (n : Int) (hc : at_ < 0) :
    Calls Try.prog 14 #[.pointer (some ⟨A, 0, none⟩), .int .i64 at_, .int .i64 n] w fun e w' => e = .returned (.tuple #[.string ⟨#[]⟩, .int .i64 2]) ∧ Below w.heap.size w w' := by
  have h1 : decide (at_ < 0) = true := by rw [decide_eq_true_eq]; exact hc
  have c0 := h.c0
  have hq := slice_nil ⟨B, 0, none⟩ L.length L.length
  have bA := row_lt h.head
  have bA1 : A < w.heap.size + 1 := by omega
  clear hL hc h
  go_enter Try.func14, Try.ntmps14
  go_wp2_with (go_at_call 17; go_in)
  refine bodyPost_ret (by rw [results_cell_tmp rfl]; simp [asAddr, loadVar, run_load, go_sem]; rfl) rfl ?_
  exact ⟨rfl, ((Below.refl _ w).alloc (Nat.le_refl _) _).alloc (by simp) _⟩
theorem read_err2 {w : World} {A B : Nat} {L : List Nat} {r wr by_ : Nat} (h : Ar w A B L r wr by_) (hL : L.length ≤ 16777216) (at_ : Int) (n : Int) (hc : 0 ≤ at_ ∧ n < 0) :
    Calls Try.prog 14 #[.pointer (some ⟨A, 0, none⟩), .int .i64 at_, .int .i64 n] w fun e w' => e = .returned (.tuple #[.string ⟨#[]⟩, .int .i64 2]) ∧ Below w.heap.size w w' := by
  have h1 : decide (at_ < 0) = false := by rw [decide_eq_false_iff_not]; omega
  have h2 : decide (n < 0) = true := by rw [decide_eq_true_eq]; omega
  have c0 := h.c0
  have hq := slice_nil ⟨B, 0, none⟩ L.length L.length
  have bA := row_lt h.head
  have bA1 : A < w.heap.size + 1 := by omega
  clear hL hc h
  go_enter Try.func14, Try.ntmps14
  go_wp2_with (go_at_call 17; go_in)
  refine bodyPost_ret (by rw [results_cell_tmp rfl]; simp [asAddr, loadVar, run_load, go_sem]; rfl) rfl ?_
  exact ⟨rfl, ((Below.refl _ w).alloc (Nat.le_refl _) _).alloc (by simp) _⟩
theorem read_err3 {w : World} {A B : Nat} {L : List Nat} {r wr by_ : Nat} (h : Ar w A B L r wr by_) (hL : L.length ≤ 16777216) (at_ : Int) (n : Int) (hc : 0 ≤ at_ ∧ 0 ≤ n ∧ (L.length : Int) < at_) :
    Calls Try.prog 14 #[.pointer (some ⟨A, 0, none⟩), .int .i64 at_, .int .i64 n] w fun e w' => e = .returned (.tuple #[.string ⟨#[]⟩, .int .i64 2]) ∧ Below w.heap.size w w' := by
  have h1 : decide (at_ < 0) = false := by rw [decide_eq_false_iff_not]; omega
  have h2 : decide (n < 0) = false := by rw [decide_eq_false_iff_not]; omega
  have h3 : decide ((L.length : Int) < at_) = true := by rw [decide_eq_true_eq]; omega
  have c0 := h.c0
  have hq := slice_nil ⟨B, 0, none⟩ L.length L.length
  have bA := row_lt h.head
  have bA1 : A < w.heap.size + 1 := by omega
  clear hL hc h
  go_enter Try.func14, Try.ntmps14
  go_wp2_with (go_at_call 17; go_in)
  refine bodyPost_ret (by rw [results_cell_tmp rfl]; simp [asAddr, loadVar, run_load, go_sem]; rfl) rfl ?_
  exact ⟨rfl, ((Below.refl _ w).alloc (Nat.le_refl _) _).alloc (by simp) _⟩
theorem read_err4 {w : World} {A B : Nat} {L : List Nat} {r wr by_ : Nat} (h : Ar w A B L r wr by_) (hL : L.length ≤ 16777216) (at_ : Int) (n : Int) (hc : 0 ≤ at_ ∧ 0 ≤ n ∧ at_ ≤ (L.length : Int) ∧ (L.length : Int) - at_ < n) :
    Calls Try.prog 14 #[.pointer (some ⟨A, 0, none⟩), .int .i64 at_, .int .i64 n] w fun e w' => e = .returned (.tuple #[.string ⟨#[]⟩, .int .i64 2]) ∧ Below w.heap.size w w' := by
  have h1 : decide (at_ < 0) = false := by rw [decide_eq_false_iff_not]; omega
  have h2 : decide (n < 0) = false := by rw [decide_eq_false_iff_not]; omega
  have h3 : decide ((L.length : Int) < at_) = false := by rw [decide_eq_false_iff_not]; omega
  have h4 : wrap64 ((L.length : Int) - at_) = (L.length : Int) - at_ := by unfold wrap64; omega
  have h5 : decide ((L.length : Int) - at_ < n) = true := by rw [decide_eq_true_eq]; omega
  have c0 := h.c0
  have hq := slice_nil ⟨B, 0, none⟩ L.length L.length
  have bA := row_lt h.head
  have bA1 : A < w.heap.size + 1 := by omega
  clear hL hc h
  go_enter Try.func14, Try.ntmps14
  go_wp2_with (go_at_call 17; go_in)
  refine bodyPost_ret (by rw [results_cell_tmp rfl]; simp [asAddr, loadVar, run_load, go_sem]; rfl) rfl ?_
  exact ⟨rfl, ((Below.refl _ w).alloc (Nat.le_refl _) _).alloc (by simp) _⟩
theorem write_err1 {w : World} {A B : Nat} {L : List Nat} {r wr by_ : Nat} (h : Ar w A B L r wr by_) (hL : L.length ≤ 16777216) (at_ : Int) (s : ByteArray) (hc : at_ < 0) :
    Calls Try.prog 12 #[.pointer (some ⟨A, 0, none⟩), .int .i64 at_, .string s] w fun e w' => e = .returned (.int .i64 2) ∧ Below w.heap.size w w' := by
  have h1 : decide (at_ < 0) = true := by rw [decide_eq_true_eq]; exact hc
  have c0 := h.c0
  have hq := slice_nil ⟨B, 0, none⟩ L.length L.length
  have bA := row_lt h.head
  have bA1 : A < w.heap.size + 1 := by omega
  clear hL hc h
  go_enter Try.func12, Try.ntmps12
  go_wp2_with (go_at_call 17; go_in)
  go_ret
  exact ⟨rfl, ((Below.refl _ w).alloc (Nat.le_refl _) _).alloc (by simp) _⟩
theorem write_err3 {w : World} {A B : Nat} {L : List Nat} {r wr by_ : Nat} (h : Ar w A B L r wr by_) (hL : L.length ≤ 16777216) (at_ : Int) (s : ByteArray) (hc : 0 ≤ at_ ∧ 0 ≤ (s.size : Int) ∧ (L.length : Int) < at_) :
    Calls Try.prog 12 #[.pointer (some ⟨A, 0, none⟩), .int .i64 at_, .string s] w fun e w' => e = .returned (.int .i64 2) ∧ Below w.heap.size w w' := by
  have h1 : decide (at_ < 0) = false := by rw [decide_eq_false_iff_not]; omega
  have h2 : decide ((s.size : Int) < 0) = false := by rw [decide_eq_false_iff_not]; omega
  have h3 : decide ((L.length : Int) < at_) = true := by rw [decide_eq_true_eq]; omega
  have c0 := h.c0
  have hq := slice_nil ⟨B, 0, none⟩ L.length L.length
  have bA := row_lt h.head
  have bA1 : A < w.heap.size + 1 := by omega
  clear hL hc h
  go_enter Try.func12, Try.ntmps12
  go_wp2_with (go_at_call 17; go_in)
  go_ret
  exact ⟨rfl, ((Below.refl _ w).alloc (Nat.le_refl _) _).alloc (by simp) _⟩
theorem write_err4 {w : World} {A B : Nat} {L : List Nat} {r wr by_ : Nat} (h : Ar w A B L r wr by_) (hL : L.length ≤ 16777216) (at_ : Int) (s : ByteArray) (hc : 0 ≤ at_ ∧ 0 ≤ (s.size : Int) ∧ at_ ≤ (L.length : Int) ∧ (L.length : Int) - at_ < (s.size : Int)) :
    Calls Try.prog 12 #[.pointer (some ⟨A, 0, none⟩), .int .i64 at_, .string s] w fun e w' => e = .returned (.int .i64 2) ∧ Below w.heap.size w w' := by
  have h1 : decide (at_ < 0) = false := by rw [decide_eq_false_iff_not]; omega
  have h2 : decide ((s.size : Int) < 0) = false := by rw [decide_eq_false_iff_not]; omega
  have h3 : decide ((L.length : Int) < at_) = false := by rw [decide_eq_false_iff_not]; omega
  have h4 : wrap64 ((L.length : Int) - at_) = (L.length : Int) - at_ := by unfold wrap64; omega
  have h5 : decide ((L.length : Int) - at_ < (s.size : Int)) = true := by rw [decide_eq_true_eq]; omega
  have h5' : decide ((L.length : Int) - at_ < s.size) = true := h5
  have c0 := h.c0
  have hq := slice_nil ⟨B, 0, none⟩ L.length L.length
  have bA := row_lt h.head
  have bA1 : A < w.heap.size + 1 := by omega
  clear hL hc h
  go_enter Try.func12, Try.ntmps12
  go_wp2_with (go_at_call 17; go_in)
  go_ret
  exact ⟨rfl, ((Below.refl _ w).alloc (Nat.le_refl _) _).alloc (by simp) _⟩
theorem write_err {w : World} {A B : Nat} {L : List Nat} {r wr by_ : Nat} (h : Ar w A B L r wr by_) (hL : L.length ≤ 16777216) (at_ : Int) (s : ByteArray) (hc : ¬ (0 ≤ at_ ∧ at_ + s.size ≤ (L.length : Int))) :
    Calls Try.prog 12 #[.pointer (some ⟨A, 0, none⟩), .int .i64 at_, .string s] w fun e w' => e = .returned (.int .i64 2) ∧ Below w.heap.size w w' := by
  by_cases a1 : at_ < 0
  · exact write_err1 h hL at_ s a1
  by_cases a3 : (L.length : Int) < at_
  · exact write_err3 h hL at_ s (by omega)
  exact write_err4 h hL at_ s (by omega)
theorem read_err {w : World} {A B : Nat} {L : List Nat} {r wr by_ : Nat} (h : Ar w A B L r wr by_) (hL : L.length ≤ 16777216) (at_ n : Int) (hc : ¬ (0 ≤ at_ ∧ 0 ≤ n ∧ at_ + n ≤ (L.length : Int))) :
    Calls Try.prog 14 #[.pointer (some ⟨A, 0, none⟩), .int .i64 at_, .int .i64 n] w fun e w' => e = .returned (.tuple #[.string ⟨#[]⟩, .int .i64 2]) ∧ Below w.heap.size w w' := by
  by_cases a1 : at_ < 0
  · exact read_err1 h hL at_ n a1
  by_cases a2 : n < 0
  · exact read_err2 h hL at_ n (by omega)
  by_cases a3 : (L.length : Int) < at_
  · exact read_err3 h hL at_ n (by omega)
  exact read_err4 h hL at_ n (by omega)
end Go.Proofs.Ytdfmfbbeokhaaaa
