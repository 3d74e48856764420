/-
  Parse: what 'works' and 'heavy' answer (contracts, by hand).
-/
import Derived.Test.YtolkmjclldjkkaaPg
set_option linter.unusedSimpArgs false
set_option linter.unusedVariables false
namespace Go.Proofs.Ytolkmjclldjkkaa
open Go.RowKit

def exT : List (Nat × Nat × Nat) := [(97, 0, 0), (98, 0, 0), (99, 0, 0), (0, 6, 3)]
theorem ex_toks : toksL (byteL (cutD ⟨#[]⟩ ++ ⟨#[97, 98, 99, 97, 98, 99, 97, 98, 99]⟩)) (cutD ⟨#[]⟩).size 6 = exT := by decide +kernel
theorem ex_level : levelV 4 = .tuple #[.int .i64 8, .int .i64 16, .int .i64 4, .bool true] := by kernel_rfl
def exC : Array Value := #[.int .u8 97, .int .i64 0, .int .i64 0, .int .u8 98, .int .i64 0, .int .i64 0, .int .u8 99, .int .i64 0, .int .i64 0, .int .u8 0, .int .i64 6, .int .i64 3]
theorem ex_new {w : World} {B : Nat} (h : w.heap[B]? = some (.cells exC 55 (0, 0))) : ToksAt w (.slice (some ⟨B, 0, none⟩) 4 4) exT :=
  ⟨some ⟨B, 0, none⟩, 4, rfl, fun i t ht => ⟨B, rfl, by
    match i, ht with
    | 0, ht => cases ht; exact ⟨cell_blk h 0, cell_blk h 1, cell_blk h 2⟩
    | 1, ht => cases ht; exact ⟨cell_blk h 3, cell_blk h 4, cell_blk h 5⟩
    | 2, ht => cases ht; exact ⟨cell_blk h 6, cell_blk h 7, cell_blk h 8⟩
    | 3, ht => cases ht; exact ⟨cell_blk h 9, cell_blk h 10, cell_blk h 11⟩
    | n + 4, ht => cases ht⟩⟩
theorem own23 : Own Try.prog 23 := own_of Try.func23 (by kernel_rfl) rfl
set_option maxRecDepth 100000 in
set_option maxHeartbeats 4000000 in
theorem works10_any (w : World) : Calls Try.prog 18 #[] w fun e w' => e = .returned (.bool true) ∧ Below w.heap.size w w' := by
  go_enter Try.func18, Try.ntmps18
  go_wp2_with fail
  have hl := tokens_any ⟨#[]⟩ ⟨#[97, 98, 99, 97, 98, 99, 97, 98, 99]⟩ 6 w (by decide) (by decide) (by decide)
  rw [ex_toks] at hl
  refine hl.mono ?_
  rintro e w1 ⟨v, rfl, hr, hb⟩
  have HT := Lib.hid (toks_at hr)
  have HB := Lib.hid hb
  clear hl hr hb
  go_wp2_with fail
  refine (level_any 4 w1).mono ?_
  rintro e w2 ⟨rfl, hb⟩
  rw [ex_level]
  have HT2 := Lib.hid (HT.out.below hb)
  have HB2 := Lib.hid (HB.out.trans (hb.mono HB.out.size))
  clear hb
  go_wp2_with fail
  refine (tokens_bad ⟨#[]⟩ ⟨#[]⟩ 10 w2 (by omega)).mono ?_
  rintro e w3 ⟨rfl, hb⟩
  have HT3 := Lib.hid (HT2.out.below hb)
  have HB3 := Lib.hid (HB2.out.trans (hb.mono HB2.out.size))
  clear hb HT HT2 HB HB2
  go_wp2_with fail
  have hb4 : Below w3.heap.size w3 (w3.alloc (.cells exC 55)) := (Below.refl _ w3).alloc (Nat.le_refl _) _
  refine (same_any exT v (.slice (some ⟨w3.heap.size, 0, none⟩) 4 4) (w3.alloc (.cells exC 55)) (HT3.out.below hb4) (ex_new (heap_alloc_last w3 _)) (by decide)).mono ?_
  rintro e w5 ⟨rfl, hb5⟩
  have HB5 := Lib.hid (HB3.out.trans ((hb4.trans (hb5.mono hb4.size)).mono HB3.out.size))
  clear hb4 hb5
  go_wp2_with fail
  go_ret
  exact ⟨rfl, HB5.out⟩
def heavyB (d t : ByteArray) : Bool := decide (1024 < d.size) || decide (2048 < t.size)
theorem heavy_any (d t : ByteArray) (w : World) : Calls Try.prog 17 #[.string d, .string t] w fun e w' => e = .returned (.bool (heavyB d t)) ∧ w' = w := by
  by_cases h1 : 1024 < d.size
  · obtain ⟨d1, d2⟩ := mt_o6 h1
    have d1' : decide ((1024 : Int) < (d.size : Int)) = true := d1
    have HV := Lib.hid (show heavyB d t = true by unfold heavyB; rw [d2]; rfl)
    clear h1 d1
    go_enter Try.func17, Try.ntmps17
    go_wp2_with fail
    go_ret
    exact ⟨by rw [HV.out]; rfl, rfl⟩
  · obtain ⟨d1, d2⟩ := mt_o7 h1
    have d1' : decide ((1024 : Int) < (d.size : Int)) = false := d1
    by_cases h2 : 2048 < t.size
    · obtain ⟨e1, e2⟩ := mt_o6 h2
      have e1' : decide ((2048 : Int) < (t.size : Int)) = true := e1
      have HV := Lib.hid (show heavyB d t = true by unfold heavyB; rw [d2, e2]; rfl)
      clear h1 d1 h2 e1
      go_enter Try.func17, Try.ntmps17
      go_wp2_with fail
      go_ret
      exact ⟨by rw [HV.out]; rfl, rfl⟩
    · obtain ⟨e1, e2⟩ := mt_o7 h2
      have e1' : decide ((2048 : Int) < (t.size : Int)) = false := e1
      have HV := Lib.hid (show heavyB d t = false by unfold heavyB; rw [d2, e2]; rfl)
      clear h1 d1 h2 e1
      go_enter Try.func17, Try.ntmps17
      go_wp2_with fail
      go_ret
      exact ⟨by rw [HV.out]; rfl, rfl⟩
end Go.Proofs.Ytolkmjclldjkkaa
