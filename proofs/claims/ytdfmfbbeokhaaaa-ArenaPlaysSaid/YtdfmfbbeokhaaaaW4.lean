/-
  Arena: some answers that the document fixes.
-/
import Derived.Test.YtdfmfbbeokhaaaaW3
set_option linter.unusedSimpArgs false
set_option linter.unusedVariables false
namespace Go.Proofs.Ytdfmfbbeokhaaaa
open Go.RowKit

theorem new4 (w : World) : Calls Try.prog 9 #[.int .i64 4] w (NewAr 4 w) := new_ok 4 w (by omega)
set_option maxHeartbeats 1000000 in
theorem alive_ok (w : World) : Calls Try.prog 8 #[] w fun e w' => e = .returned (.bool true) ∧ Below w.heap.size w w' := by
  have hlab : (⟨#[97, 98]⟩ : ByteArray).size = 2 := rfl
  have hT : textOf (sub_ (put (List.replicate 4 0) 2 (byteL ⟨#[97, 98]⟩)) 1 3) = ⟨#[0, 97, 98]⟩ := by decide
  have hlen : (put (List.replicate 4 0) 2 (byteL ⟨#[97, 98]⟩)).length = 4 := by decide
  go_enter Try.func8, Try.ntmps8
  go_wp2_with fail
  refine (new4 w).mono ?_
  rintro e w1 ⟨A, B, rfl, hA1, hb1, hAg, hBg⟩
  go_wp2_with fail
  refine (write_ok hA1 2 ⟨#[97, 98]⟩ (by simp [hlab]) (by simp [hlab]) (by simp) (by omega) (by omega)).mono ?_
  rintro e w2 ⟨rfl, hA2, hb2⟩
  go_wp2_with fail
  refine (read_ok hA2 1 3 (by rw [hlen]; decide) (by rw [hlen]; decide) (by omega)).mono ?_
  rintro e w3 ⟨he, hA3, hb3⟩
  rw [hT] at he
  subst he
  go_wp2_with fail
  refine (write_err hA3 (by rw [hlen]; decide) 3 ⟨#[97, 98]⟩ (by rw [hlen, hlab]; decide)).mono ?_
  rintro e w4 ⟨rfl, hb4⟩
  have hA4 := hA3.below hb4
  go_wp2_with fail
  refine (counts_ok hA4).mono ?_
  rintro e w5 ⟨he, m, hw5⟩
  have he' : e = .returned (.tuple #[.int .i64 1, .int .i64 1, .int .i64 2]) := he
  subst he'
  clear he
  have hA5 : Ar w5 A B _ _ _ _ := hA4.of_blocks (by rw [hw5]; rfl) (by rw [hw5]; rfl)
  have hb5 : Below w4.heap.size w4 w5 := by rw [hw5]; exact ⟨rfl, rfl, rfl, Nat.le_refl _, fun _ _ => rfl⟩
  clear hw5
  go_wp2_with fail
  refine (new_neg (-1) w5 (by omega)).mono ?_
  rintro e w6 ⟨rfl, rfl⟩
  go_wp2_with fail
  refine (len_ok hA5).mono ?_
  rintro e w6 ⟨he, rfl⟩
  rw [hlen] at he
  have he' : e = .returned (.int .i64 4) := he
  subst he'
  clear he
  go_wp2_with fail
  go_ret
  exact ⟨rfl, ((Beside.to_below hb1 (hb2.trans (hb3.mono (by simp))) (by simp; omega)).trans (hb4.mono (Beside.to_below hb1 (hb2.trans (hb3.mono (by simp))) (by simp; omega)).size)).trans (hb5.mono (Nat.le_trans (Beside.to_below hb1 (hb2.trans (hb3.mono (by simp))) (by simp; omega)).size hb4.size))⟩
end Go.Proofs.Ytdfmfbbeokhaaaa
