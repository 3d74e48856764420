/-
  Chain: the document's example (works), by the contracts.
-/
import Derived.Test.YtolkmjclldjkkaaF7
set_option linter.unusedSimpArgs false
set_option linter.unusedVariables false
namespace Go.Proofs.Ytolkmjclldjkkaa
open Go.RowKit

/-- all places below k, the latest first -/
def upto (k : Nat) : List Nat := (List.range k).reverse
theorem upto_succ (k : Nat) : upto (k + 1) = k :: upto k := by simp [upto, List.range_succ]
theorem last_upto (k : Nat) : lastI (upto k) = (k : Int) - 1 := by
  cases k with
  | zero => rfl
  | succ k => rw [upto_succ]; simp only [lastI]; omega
theorem put_upto (n k : Nat) (h : k < n) : putI n (upto k) (k : Int) = (0, upto (k + 1)) := by
  unfold putI
  rw [if_neg (by omega), last_upto, if_neg (by omega), upto_succ, Int.toNat_natCast]
theorem upto_length (k : Nat) : (upto k).length = k := by simp [upto]
theorem upto_lt {k p : Nat} (h : p ∈ upto k) : p < k := by simpa [upto] using h
/-- two matches held against each other -/
theorem eq29a (w : World) (d : Nat) (a b x y : Int) : (Op.equalIn (d + 2) 29 (.agg #[.int .i64 a, .int .i64 b]) (.agg #[.int .i64 x, .int .i64 y])).run Try.prog w = .ok (decide (a = x ∧ b = y)) w := by
  have hu := Try.underlying29
  have hu3 := Try.underlying3
  have hi : (Try.prog.info? 3).map (·.size) = some 1 := by kernel_rfl
  obtain ⟨i3, h3, h3s⟩ := Option.map_eq_some_iff.1 hi
  simp [Op.equalIn, run_underlying hu, run_underlying hu3, part, sizeOf, typeInfo, h3, h3s]
  by_cases e1 : a = x <;> by_cases e2 : b = y <;> simp [e1, e2]
theorem eq29b (w : World) (a b x y : Int) : (Op.equal 29 (.agg #[.int .i64 a, .int .i64 b]) (.agg #[.int .i64 x, .int .i64 y])).run Try.prog w = .ok (decide (a = x ∧ b = y)) w := eq29a w 9998 a b x y
theorem eq29 (w : World) (a b x y : Int) : (binOp .eql 29 (.agg #[.int .i64 a, .int .i64 b]) (.agg #[.int .i64 x, .int .i64 y])).run Try.prog w = .ok (.bool (decide (a = x ∧ b = y))) w := by
  simp only [binOp, Sem.run_bind, eq29b]
  rfl
/-- the document's text -/
def abc : ByteArray := ⟨#[97, 98, 99, 97, 98, 99, 97, 98]⟩
theorem abc_size : abc.size = 8 := rfl
set_option maxHeartbeats 2000000 in
theorem works_any (w : World) : Calls Try.prog 11 #[] w fun e w' => e = .returned (.bool true) ∧ Below w.heap.size w w' := by
  go_enter Try.func11, Try.ntmps11
  rw [show (⟨#[97, 98, 99, 97, 98, 99, 97, 98]⟩ : ByteArray) = abc from rfl]
  go_wp2_with fail
  refine (new_any abc w (by decide)).mono ?_
  rintro e w1 ⟨A, rfl, hf1, hb1⟩
  have HF1 := Lib.hid hf1
  have HB1 := Lib.hid hb1
  clear hf1 hb1
  go_wp2_with fail
  go_loopg [2] 3 (fun f s2 wx => ∃ k : Nat, s2 = .int .i64 (k : Int) ∧ Hid (k + f = 3) ∧ Hid (Fnd wx w.heap.size A abc (upto k)) ∧ Hid (Below w.heap.size w wx))
  case atStart => exact ⟨0, rfl, Lib.hid rfl, HF1, HB1⟩
  case round =>
    clear HF1 HB1
    obtain ⟨k, rfl, HK, HF, HB⟩ := hrel
    cases gk with
    | succ f =>
      have HK3 := Lib.hid (show k < 3 by have := HK.out; omega)
      have dk : decide (k < 3) = true := by rw [decide_eq_true_eq]; exact HK3.out
      have dk2 : decide ((k : Int) < 3) = true := by rw [decide_eq_true_eq]; have := HK3.out; omega
      have e1 : wrap64 ((k : Int) + 1) = ((k + 1 : Nat) : Int) := by have := HK3.out; unfold wrap64; omega
      go_wp2_with fail
      refine (put_any (k : Int) w.heap.size A abc (upto k) wr HF.out (by rw [upto_length]; have := HK3.out; omega) HB.out.size).mono ?_
      rintro e w2 ⟨rfl, hf2, hk2⟩
      rw [put_upto _ _ (show k < abc.size by rw [abc_size]; have := HK3.out; omega)] at hf2 ⊢
      have HF2 := Lib.hid hf2
      have HB2 := Lib.hid (HB.out.trans hk2.below)
      clear hf2 hk2
      go_wp2_with fail
      go_roundg f
      case measure => exact Nat.lt_succ_self f
      case rel => exact ⟨k + 1, by rw [e1], Lib.hid (by have := HK.out; omega), HF2, HB2⟩
    | zero =>
      obtain rfl : k = 3 := HK.out
      go_wp2_with fail
      refine (places_any 3 9 w.heap.size A abc (upto 3) wr HF.out (by decide) (by decide) (by decide) (by decide)).mono ?_
      rintro e w2 ⟨v, rfl, hrow, hf2, hb2⟩
      rw [show placesL (byteL abc) (upto 3) 3 9 = [0] from by decide] at hrow
      obtain ⟨g, cap, rfl⟩ := ownsRow_succ (k := 0) hrow
      have HR2 := Lib.hid hrow
      have HF2 := Lib.hid hf2
      have HB2 := Lib.hid (HB.out.trans (hb2.mono HB.out.size))
      clear hrow hf2 hb2
      go_wp2_with fail
      refine (find_any 3 9 9 2 w.heap.size A abc (upto 3) w2 HF2.out (by decide) (by decide) (by decide)).mono ?_
      rintro e w3 ⟨rfl, hf3, hb3⟩
      rw [show findL (byteL abc) (upto 3) 3 9 9 2 = (5, 3) from by decide]
      have qe : (binOp .eql 29 (.agg #[.int .i64 5, .int .i64 3]) (.agg #[.int .i64 5, .int .i64 3])).run Try.prog w3 = .ok (.bool true) w3 := eq29 w3 5 3 5 3
      have c0 : w3.cell? ⟨g, 0, none⟩ = some (.int .i64 0) := by
        have := HR2.out.cells (g := g) rfl 0 (.int .i64 0) rfl
        exact (hb3.cell (World.block_lt_of_cell? _ _ this)).trans this
      have HF3 := Lib.hid hf3
      have HB3 := Lib.hid (HB2.out.trans (hb3.mono HB2.out.size))
      clear hf3 hb3
      go_wp2_with fail
      refine (last_any w.heap.size A abc (upto 3) w3 HF3.out).mono ?_
      rintro e w4 ⟨rfl, rfl⟩
      rw [last_upto]
      clear qe c0
      go_wp2_with fail
      refine (put_any 2 w.heap.size A abc (upto 3) w4 HF3.out (by rw [upto_length]; decide) HB3.out.size).mono ?_
      rintro e w5 ⟨rfl, hf5, hk5⟩
      rw [show putI abc.size (upto 3) 2 = (9, upto 3) from by decide] at hf5 ⊢
      have HF5 := Lib.hid hf5
      have HB5 := Lib.hid (HB3.out.trans hk5.below)
      clear hf5 hk5
      go_wp2_with fail
      refine (put_any 8 w.heap.size A abc (upto 3) w5 HF5.out (by rw [upto_length]; decide) HB5.out.size).mono ?_
      rintro e w6 ⟨rfl, hf6, hk6⟩
      rw [show putI abc.size (upto 3) 8 = (2, upto 3) from by decide] at hf6 ⊢
      have HF6 := Lib.hid hf6
      have HB6 := Lib.hid (HB5.out.trans hk6.below)
      clear hf6 hk6
      go_wp2_with fail
      refine (find_any 3 9 9 5 w.heap.size A abc (upto 3) w6 HF6.out (by decide) (by decide) (by decide)).mono ?_
      rintro e w7 ⟨rfl, hf7, hb7⟩
      rw [show findL (byteL abc) (upto 3) 3 9 9 5 = (0, 0) from by decide]
      have qe : (binOp .eql 29 (.agg #[.int .i64 0, .int .i64 0]) (.agg #[.int .i64 0, .int .i64 0])).run Try.prog w7 = .ok (.bool true) w7 := eq29 w7 0 0 0 0
      have HB7 := Lib.hid (HB6.out.trans (hb7.mono HB6.out.size))
      clear hf7 hb7
      go_wp2_with fail
      go_ret
      exact ⟨rfl, HB7.out⟩
end Go.Proofs.Ytolkmjclldjkkaa
