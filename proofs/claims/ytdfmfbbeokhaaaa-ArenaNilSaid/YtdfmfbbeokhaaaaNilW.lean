/-
  What ArenaNil comes to (a walk).
-/
import Derived.Test.YtdfmfbbeokhaaaaW4
set_option linter.unusedSimpArgs false
set_option linter.unusedVariables false
namespace Go.Proofs.Ytdfmfbbeokhaaaa
open Go.RowKit

theorem nil_big (at_ n : Int) (s : ByteArray) (hs : 1024 < s.size) (over : Int) (w : World) :
    Calls Try.prog 5 #[.int .i64 at_, .int .i64 n, .string s, .int .i8 over] w fun e w' => e = .returned (.bool true) ∧ Below w.heap.size w w' := by
  have h1 : decide ((1024 : Int) < (s.size : Int)) = true := by rw [decide_eq_true_eq]; omega
  have h2 : decide (1024 < s.size) = true := by rw [decide_eq_true_eq]; omega
  clear hs
  go_enter Try.func5, Try.ntmps5
  go_wp2_with fail
  refine (alive_ok w).mono ?_
  rintro e w1 ⟨rfl, hb⟩
  go_wp2_with fail
  go_ret
  exact ⟨rfl, hb⟩
theorem nil_some (at_ n : Int) (s : ByteArray) (over : Int) (w : World) (hov : over ≤ 0) (hs : ¬ 1024 < s.size) (ho1 : -128 ≤ over) (ho2 : over < 128) :
    Calls Try.prog 5 #[.int .i64 at_, .int .i64 n, .string s, .int .i8 over] w fun e w' => e = .returned (.bool true) ∧ Below w.heap.size w w' := by
  have h1 : decide ((1024 : Int) < (s.size : Int)) = false := by rw [decide_eq_false_iff_not]; omega
  have h2 : decide (1024 < s.size) = false := by rw [decide_eq_false_iff_not]; omega
  have e1 : wrap64 over = over := by unfold wrap64; omega
  have e2 : wrap64 (16777216 + over) = 16777216 + over := by unfold wrap64; omega
  have d1 : decide (over ≤ 0) = true := by rw [decide_eq_true_eq]; omega
  have d2 : decide (0 < over) = false := by rw [decide_eq_false_iff_not]; omega
  have h9 : ∀ w1, Calls Try.prog 9 #[.int .i64 (16777216 + over)] w1 fun e w' => (∃ A, e = .returned (.tuple #[.pointer (some ⟨A, 0, none⟩), .int .i64 0])) ∧ Below w1.heap.size w1 w' := fun w1 => by
    obtain ⟨m, hm⟩ : ∃ m : Nat, 16777216 + over = (m : Int) := ⟨(16777216 + over).toNat, by omega⟩
    rw [hm]
    refine (new_ok m w1 (by omega)).mono ?_
    rintro e w' ⟨A, B, rfl, _, hb, _, _⟩
    exact ⟨⟨A, rfl⟩, hb⟩
  clear hs ho1 ho2 hov
  go_enter Try.func5, Try.ntmps5
  go_wp2_with fail
  refine (read_nil at_ n w).mono ?_
  rintro e w1 ⟨rfl, hb1⟩
  go_wp2_with fail
  refine (counts_nil w1).mono ?_
  rintro e w2 ⟨rfl, rfl⟩
  go_wp2_with fail
  refine (h9 w1).mono ?_
  rintro e w2 ⟨⟨A, rfl⟩, hb2⟩
  replace hb2 := bt hb1 hb2
  clear h9 hb1
  go_wp2_with fail
  refine (write_nil at_ s w2).mono ?_
  rintro e w3 ⟨rfl, hb3⟩
  replace hb3 := bt hb2 hb3
  clear hb2
  go_wp2_with fail
  refine (len_nil w3).mono ?_
  rintro e w4 ⟨rfl, rfl⟩
  go_wp2_with fail
  refine (alive_ok w3).mono ?_
  rintro e w4 ⟨rfl, hb4⟩
  replace hb4 := bt hb3 hb4
  clear hb3
  go_wp2_with fail
  go_ret
  exact ⟨rfl, hb4⟩
theorem nil_none (at_ n : Int) (s : ByteArray) (over : Int) (w : World) (hov : 0 < over) (hs : ¬ 1024 < s.size) (ho1 : -128 ≤ over) (ho2 : over < 128) :
    Calls Try.prog 5 #[.int .i64 at_, .int .i64 n, .string s, .int .i8 over] w fun e w' => e = .returned (.bool true) ∧ Below w.heap.size w w' := by
  have h1 : decide ((1024 : Int) < (s.size : Int)) = false := by rw [decide_eq_false_iff_not]; omega
  have h2 : decide (1024 < s.size) = false := by rw [decide_eq_false_iff_not]; omega
  have e1 : wrap64 over = over := by unfold wrap64; omega
  have e2 : wrap64 (16777216 + over) = 16777216 + over := by unfold wrap64; omega
  have d1 : decide (over ≤ 0) = false := by rw [decide_eq_false_iff_not]; omega
  have d2 : decide (0 < over) = true := by rw [decide_eq_true_eq]; omega
  have h9 : ∀ w1, Calls Try.prog 9 #[.int .i64 (16777216 + over)] w1 fun e w' => (∃ A : Nat, e = .returned (.tuple #[.pointer none, .int .i64 2])) ∧ Below w1.heap.size w1 w' := fun w1 => by
    refine (new_big (16777216 + over) w1 (by omega)).mono ?_
    rintro e w' ⟨rfl, rfl⟩
    exact ⟨⟨0, rfl⟩, Below.refl _ _⟩
  clear hs ho1 ho2 hov
  go_enter Try.func5, Try.ntmps5
  go_wp2_with fail
  refine (read_nil at_ n w).mono ?_
  rintro e w1 ⟨rfl, hb1⟩
  go_wp2_with fail
  refine (counts_nil w1).mono ?_
  rintro e w2 ⟨rfl, rfl⟩
  go_wp2_with fail
  refine (h9 w1).mono ?_
  rintro e w2 ⟨⟨A, rfl⟩, hb2⟩
  replace hb2 := bt hb1 hb2
  clear h9 hb1
  go_wp2_with fail
  refine (write_nil at_ s w2).mono ?_
  rintro e w3 ⟨rfl, hb3⟩
  replace hb3 := bt hb2 hb3
  clear hb2
  go_wp2_with fail
  refine (len_nil w3).mono ?_
  rintro e w4 ⟨rfl, rfl⟩
  go_wp2_with fail
  refine (alive_ok w3).mono ?_
  rintro e w4 ⟨rfl, hb4⟩
  replace hb4 := bt hb3 hb4
  clear hb3
  go_wp2_with fail
  go_ret
  exact ⟨rfl, hb4⟩
theorem nil_any (at_ n : Int) (s : ByteArray) (over : Int) (ho1 : -128 ≤ over) (ho2 : over < 128) (w : World) :
    Calls Try.prog 5 #[.int .i64 at_, .int .i64 n, .string s, .int .i8 over] w fun e w' => e = .returned (.bool true) ∧ Below w.heap.size w w' := by
  by_cases hs : 1024 < s.size
  · exact nil_big at_ n s hs over w
  · by_cases ho : over ≤ 0
    · exact nil_some at_ n s over w ho hs ho1 ho2
    · exact nil_none at_ n s over w (by omega) hs ho1 ho2
theorem nil_row (at_ : Int) (ha1 : -9223372036854775808 ≤ at_) (ha2 : at_ < 9223372036854775808) (n : Int) (hn1 : -9223372036854775808 ≤ n) (hn2 : n < 9223372036854775808) (s : ByteArray) (hs : s.size ≤ 140737488351232) (over : Int) (ho1 : -128 ≤ over) (ho2 : over < 128) (w : World) :
    Calls Try.prog 5 #[.int .i64 at_, .int .i64 n, .string s, .int .i8 over] w fun e w' => e = .returned (.bool true) ∧ Below w.heap.size w w' := nil_any at_ n s over ho1 ho2 w
end Go.Proofs.Ytdfmfbbeokhaaaa
