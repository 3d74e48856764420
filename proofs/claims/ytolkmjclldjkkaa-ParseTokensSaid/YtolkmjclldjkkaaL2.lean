/-
  ChainNone: the walk, for every place and depth.
-/
import Derived.Test.YtolkmjclldjkkaaL1
set_option linter.unusedSimpArgs false
set_option linter.unusedVariables false
namespace Go.Proofs.Ytolkmjclldjkkaa
open Go.RowKit

theorem placesL_nil (L : List Nat) (at_ depth : Int) : placesL L [] at_ depth = [] := by
  have := placesL_len L [] at_ depth
  exact List.eq_nil_of_length_eq_zero (by simpa using this)
theorem findL_nil (L : List Nat) (at_ depth nice over : Int) : findL L [] at_ depth nice over = (0, 0) := by
  unfold findL; rw [placesL_nil]; rfl
theorem put_none (at_ : Int) : putI (ByteArray.mk #[]).size [] at_ = (2, []) := by
  unfold putI
  rw [if_pos (by have : ((ByteArray.mk #[]).size : Int) = 0 := rfl; omega)]
set_option maxHeartbeats 2000000 in
theorem none_all (at_ : Int) (h1 : -9223372036854775808 ≤ at_) (h2 : at_ < 9223372036854775808) (depth : Int) (h3 : -9223372036854775808 ≤ depth) (h4 : depth < 9223372036854775808) (w : World) :
    Calls Try.prog 5 #[.int .i64 at_, .int .i64 depth] w fun e w' => e = .returned (.bool true) ∧ Below w.heap.size w w' := by
  have HA := Lib.hid (And.intro (show at_ ≤ 9223372036854775807 by omega) (show depth ≤ 9223372036854775807 by omega))
  clear h1 h2 h3 h4
  go_enter Try.func5, Try.ntmps5
  go_wp2_with fail
  refine (new_any ⟨#[]⟩ w (by decide)).mono ?_
  rintro e w1 ⟨A, rfl, hf1, hb1⟩
  have HF1 := Lib.hid hf1
  have HB1 := Lib.hid hb1
  clear hf1 hb1
  go_wp2_with fail
  refine (put_nil at_ w1).mono ?_
  rintro e w2 ⟨rfl, rfl⟩
  go_wp2_with fail
  refine (find_nil at_ depth depth 0 w2).mono ?_
  rintro e w3 ⟨rfl, hb3⟩
  have qe : (binOp .eql 29 (.agg #[.int .i64 0, .int .i64 0]) (.agg #[.int .i64 0, .int .i64 0])).run Try.prog w3 = .ok (.bool true) w3 := eq29 w3 0 0 0 0
  have HF3 := Lib.hid (HF1.out.below hb3)
  have HB3 := Lib.hid (HB1.out.trans (hb3.mono HB1.out.size))
  clear hb3
  go_wp2_with fail
  refine (places_nil at_ depth w3).mono ?_
  rintro e w4 ⟨rfl, hb4⟩
  have HF4 := Lib.hid (HF3.out.below hb4)
  have HB4 := Lib.hid (HB3.out.trans (hb4.mono HB3.out.size))
  clear hb4 qe
  go_wp2_with fail
  refine (last_nil w4).mono ?_
  rintro e w5 ⟨rfl, rfl⟩
  go_wp2_with fail
  refine (put_any at_ w.heap.size A ⟨#[]⟩ [] w5 HF4.out (by decide) HB4.out.size).mono ?_
  rintro e w6 ⟨rfl, hf6, hk6⟩
  rw [put_none] at hf6 ⊢
  have HF6 := Lib.hid hf6
  have HB6 := Lib.hid (HB4.out.trans hk6.below)
  clear hf6 hk6
  go_wp2_with fail
  refine (find_any at_ depth depth 0 w.heap.size A ⟨#[]⟩ [] w6 HF6.out (by simp) HA.out.1 HA.out.2).mono ?_
  rintro e w7 ⟨rfl, hf7, hb7⟩
  rw [findL_nil]
  have qe : (binOp .eql 29 (.agg #[.int .i64 0, .int .i64 0]) (.agg #[.int .i64 0, .int .i64 0])).run Try.prog w7 = .ok (.bool true) w7 := eq29 w7 0 0 0 0
  have HF7 := Lib.hid hf7
  have HB7 := Lib.hid (HB6.out.trans (hb7.mono HB6.out.size))
  clear hf7 hb7
  go_wp2_with fail
  refine (places_any at_ depth w.heap.size A ⟨#[]⟩ [] w7 HF7.out (by decide) (by simp) HA.out.1 HA.out.2).mono ?_
  rintro e w8 ⟨v, rfl, hrow, hf8, hb8⟩
  rw [placesL_nil] at hrow
  have HB8 := Lib.hid (HB7.out.trans (hb8.mono HB7.out.size))
  obtain ⟨a, c, rfl⟩ : ∃ a c, v = .slice a 0 c := by
    rcases hrow.2 with ⟨rfl, _⟩ | ⟨g, cap, cur, rfl, _⟩
    · exact ⟨_, _, rfl⟩
    · exact ⟨_, _, rfl⟩
  clear hrow hf8 hb8 qe
  go_wp2_with fail
  refine (works_any w8).mono ?_
  rintro e w9 ⟨rfl, hb9⟩
  have HB9 := Lib.hid (HB8.out.trans (hb9.mono HB8.out.size))
  clear hb9
  go_wp2_with fail
  go_ret
  exact ⟨rfl, HB9.out⟩
end Go.Proofs.Ytolkmjclldjkkaa
