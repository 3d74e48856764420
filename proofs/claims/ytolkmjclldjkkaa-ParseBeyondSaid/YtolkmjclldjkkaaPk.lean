/-
  ParseBeyond: the walk, for every text, dictionary, what stands ahead of it, every level.
-/
import Derived.Test.YtolkmjclldjkkaaPh
set_option linter.unusedSimpArgs false
set_option linter.unusedVariables false
namespace Go.Proofs.Ytolkmjclldjkkaa
open Go.RowKit

theorem cutD_same {d : ByteArray} (h : d.size ≤ 32768) : cutD d = d := by
  apply byteL_inj
  unfold cutD
  rw [show d.size - 32768 = 0 by omega]
  congr 1
  ext <;> simp
theorem cutD_ahead {a d : ByteArray} (h : d.size = 32768) : cutD (a ++ d) = d := by
  unfold cutD
  rw [ByteArray.size_append, h, Nat.add_sub_cancel]
  rw [← h]
  ext <;> simp
theorem cat_none (d : ByteArray) : d ++ ⟨#[]⟩ = d := by
  ext <;> simp
theorem toks_none {L : List Nat} {n k : Nat} (h : L.length = n) : toksL L n k = [] := by
  unfold toksL
  rw [h, Nat.sub_self]
  split <;> rfl
theorem mt_b1 {n : Nat} (h : ¬ 1024 < n) : ∃ m : Nat, wrap64 (32768 - (n : Int)) = (m : Int) ∧ m + n = 32768 ∧ 1 * m ≤ 281474976710656 ∧ m ≤ 9223372036854775807 := ⟨32768 - n, by unfold wrap64; omega, by omega, by omega, by omega⟩
theorem mt_b2 {j m : Nat} (h : j < m) (h2 : m ≤ 32768) : wrap64 ((j : Int) + 1) = ((j + 1 : Nat) : Int) ∧ wrap64 ((j : Int) * 7) = (j : Int) * 7 := by unfold wrap64; omega
theorem mt_b3 {l : Nat} (h : l < 256) : (l : Int).tmod 10 = ((l % 10 : Nat) : Int) ∧ l % 10 < 10 := by
  refine ⟨?_, by omega⟩
  rw [Int.tmod_eq_emod_of_nonneg (by omega)]
  omega
/-- a row of bytes -/
def Bytes (w : World) (B m : Nat) : Prop := ∃ L : List Nat, L.length = m ∧ (∀ x ∈ L, x < 256) ∧ w.heap[B]? = some (.cells (numsV .u8 L).toArray 5 (0, 0))
theorem Bytes.set {w : World} {B m j : Nat} {v : Int} (h : Bytes w B m) (hv : 0 ≤ v ∧ v < 256) : Bytes (w.setCell ⟨B, j, none⟩ (.int .u8 v)) B m := by
  obtain ⟨L, h1, h2, h3⟩ := h
  obtain ⟨x, rfl⟩ : ∃ x : Nat, v = (x : Int) := ⟨v.toNat, by omega⟩
  refine ⟨L.set j x, by simp [h1], fun y hy => ?_, ?_⟩
  · rcases List.mem_or_eq_of_mem_set hy with h | h
    · exact h2 y h
    · omega
  · rw [← numsV_set]
    simp [World.setCell, Array.getElem?_modify, h3]
set_option maxRecDepth 100000 in
set_option maxHeartbeats 8000000 in
theorem beyond_all (ahead : ByteArray) (s0 : ahead.size ≤ 140737488351232) (dict : ByteArray) (s1 : dict.size ≤ 140737488351232) (text : ByteArray) (s2 : text.size ≤ 140737488351232) (lv : Nat) (hl : lv < 256) (w : World) :
    Calls Try.prog 10 #[.string ahead, .string dict, .string text, .int .u8 (lv : Nat)] w fun e w' => e = .returned (.bool true) ∧ Below w.heap.size w w' := by
  by_cases h1 : 1024 < ahead.size
  · obtain ⟨d1, d2⟩ := mt_o6 h1
    have d1' : decide ((1024 : Int) < (ahead.size : Int)) = true := d1
    clear h1 d1 s0 s1 s2 hl
    go_enter Try.func10, Try.ntmps10
    go_wp2_with fail
    refine (works10_any _).mono ?_
    rintro e w2 ⟨rfl, hb⟩
    have HB := Lib.hid hb
    clear hb
    go_wp2_with fail
    go_ret
    exact ⟨rfl, HB.out⟩
  · obtain ⟨d1, d2⟩ := mt_o7 h1
    have d1' : decide ((1024 : Int) < (ahead.size : Int)) = false := d1
    have HA := Lib.hid h1
    clear h1 d1
    cases hv : heavyB dict text with
    | true =>
      have HV := Lib.hid hv
      clear hv s0 s1 s2 hl
      go_enter Try.func10, Try.ntmps10
      go_wp2_with fail
      refine (heavy_any dict text _).mono ?_
      rintro e w1 ⟨rfl, rfl⟩
      rw [HV.out]
      go_wp2_with fail
      refine (works10_any _).mono ?_
      rintro e w2 ⟨rfl, hb⟩
      have HB := Lib.hid hb
      clear hb
      go_wp2_with fail
      go_ret
      exact ⟨rfl, HB.out⟩
    | false =>
      have HV := Lib.hid hv
      have hz : ¬ 1024 < dict.size ∧ ¬ 2048 < text.size := by
        unfold heavyB at hv
        simpa using hv
      obtain ⟨m, em, hm1, hm2, hm3⟩ := mt_b1 hz.1
      have HM := Lib.hid (And.intro hm1 (And.intro (show m ≤ 32768 by omega) (show text.size ≤ 60000 by omega)))
      have hmk := make_row (P := Try.prog) 35 5 (.int .u8 0) 1 Try.underlying35 (by kernel_rfl) rfl m hm2 hm3 w
      have HL := Lib.hid (And.intro s0 (And.intro s1 (mt_b3 hl)))
      obtain ⟨el, _⟩ := mt_b3 hl
      clear hv hz hm1 hm2 hm3 s0 s1 s2 hl
      obtain ⟨k, hk⟩ : ∃ k, lv % 10 = k := ⟨_, rfl⟩
      rw [hk] at HL el
      clear hk
      obtain ⟨B, hB⟩ : ∃ B, w.heap.size = B := ⟨_, rfl⟩
      obtain ⟨w1, hw1⟩ : ∃ w1, w.alloc (.cells (List.replicate m (.int .u8 0)).toArray 5) = w1 := ⟨_, rfl⟩
      have hr1 : Bytes w1 B m := ⟨List.replicate m 0, List.length_replicate, fun x hx => by rw [List.mem_replicate] at hx; omega, by rw [← hw1, ← hB, numsV, List.map_replicate]; exact heap_alloc_last w _⟩
      have hb1 : Below w.heap.size w w1 := by rw [← hw1]; exact (Below.refl _ w).alloc (Nat.le_refl _) _
      rw [hB, hw1] at hmk
      have HR1 := Lib.hid hr1
      have HB1 := Lib.hid (And.intro hb1 hB)
      clear hr1 hb1 hw1 hB
      go_enter Try.func10, Try.ntmps10
      go_wp2_with fail
      refine (heavy_any dict text _).mono ?_
      rintro e w2 ⟨rfl, rfl⟩
      rw [HV.out]
      go_wp2_with fail
      go_loopg [10] m (fun f s10 wx => ∃ j : Nat, s10 = .int .i64 (j : Int) ∧ Hid (j + f = m) ∧ Hid (Bytes wx B m) ∧ Hid (Below w2.heap.size w2 wx))
      case atStart => exact ⟨0, rfl, Lib.hid (Nat.zero_add _), HR1, Lib.hid HB1.out.1⟩
      case round =>
        obtain ⟨j, rfl, HJ, HR, HB⟩ := hrel
        cases gk with
        | succ f =>
          have hj : j < m := pt_nl HJ.out
          obtain ⟨i1, i2⟩ := pt_lt hj
          obtain ⟨e2, e7⟩ := mt_b2 hj HM.out.2.1
          have n0 : (0 : Int) ≤ (j : Int) := Int.natCast_nonneg j
          have n1 : (j : Int) < (m : Int) := Int.ofNat_lt.2 hj
          obtain ⟨L, hL1, hL2, hL3⟩ := HR.out
          have c0 : ∃ v, wr.cell? ⟨B, j, none⟩ = some v := ⟨_, by rw [cell_blk hL3]; exact Array.getElem?_eq_getElem (by simp [numsV_length, hL1]; exact hj)⟩
          obtain ⟨v0, c0⟩ := c0
          have f0 := frozen_blk hL3 j
          clear hj hL1 hL2 hL3
          go_wp2_with fail
          go_roundg f
          case measure => exact Nat.lt_succ_self f
          case rel => exact ⟨j + 1, by rw [e2], Lib.hid (pt_nx HJ.out), Lib.hid (HR.out.set (by omega)), Lib.hid (HB.out.setCell (p := ⟨B, j, none⟩) (by rw [HB1.out.2]; exact Nat.le_refl _) _)⟩
        | zero =>
          clear hmk
          obtain rfl : j = m := HJ.out
          obtain ⟨i1, i2⟩ := pt_ge (Nat.lt_irrefl j)
          obtain ⟨L, hL1, hL2, hL3⟩ := HR.out
          have hcv := string_of_row (P := Try.prog) 35 9 5 Try.underlying35 Try.underlying5 Try.underlying9 (w := wr) (B := B) (off := 0) j j L hL2 hL1.symm (fun i m hi => by
            rw [Nat.zero_add, cell_blk hL3]
            simp [numsV, hi])
          obtain ⟨t, ht⟩ : ∃ t, textOf L = t := ⟨_, rfl⟩
          rw [ht] at hcv
          have hts : t.size = j := by rw [← ht, textOf_size, hL1]
          obtain ⟨d, hd⟩ : ∃ d, t ++ dict = d := ⟨_, rfl⟩
          have hds : d.size = 32768 := by rw [← hd, ByteArray.size_append, hts]; exact HM.out.1
          have hcc : ∀ w, (Op.stringOp .add t dict).run Try.prog w = .ok (.string d) w := fun w => by rw [← hd]; exact run_string_add_sum (P := Try.prog) w t dict (by rw [hts, HM.out.1]; decide)
          obtain ⟨d2, hd2⟩ : ∃ d2, ahead ++ d = d2 := ⟨_, rfl⟩
          have hd2s : d2.size ≤ 140737488351232 := by rw [← hd2, ByteArray.size_append, hds]; have := HA.out; omega
          have hcc2 : ∀ w, (Op.stringOp .add ahead d).run Try.prog w = .ok (.string d2) w := fun w => by rw [← hd2]; exact run_string_add_sum (P := Try.prog) w ahead d (by rw [hds]; have := HA.out; omega)
          have ek : wrap64 (k : Int) = (k : Int) := by have := HL.out.2.2.2; unfold wrap64; omega
          have HD := Lib.hid (And.intro hds (And.intro hd2s (And.intro (show cutD d = d from cutD_same (Nat.le_of_eq hds)) (show cutD d2 = d by rw [← hd2]; exact cutD_ahead hds))))
          have HBB := Lib.hid HB.out
          clear hL1 hL2 hL3 ht hts hd hds hd2 hd2s
          go_wp2_with fail
          have hl := tokens_any d text k wr (by rw [HD.out.1]; decide) HM.out.2.2 HL.out.2.2.2
          rw [HD.out.2.2.1] at hl
          obtain ⟨T, hT⟩ : ∃ T, toksL (byteL (d ++ text)) d.size k = T := ⟨_, rfl⟩
          have HTL := Lib.hid (show T.length < 1000000 by
            rw [← hT]
            have h1 := toks_count (byteL (d ++ text)) d.size k
            rw [byteL_length, ByteArray.size_append] at h1
            have := HM.out.2.2
            omega)
          rw [hT] at hl
          refine hl.mono ?_
          rintro e w3 ⟨v, rfl, hr, hb⟩
          have HT3 := Lib.hid (toks_at hr)
          have HB3 := Lib.hid (HBB.out.trans (hb.mono HBB.out.size))
          clear hl hr hb
          go_wp2_with fail
          have hl := tokens_any d2 text k w3 HD.out.2.1 HM.out.2.2 HL.out.2.2.2
          rw [HD.out.2.2.2, hT] at hl
          refine hl.mono ?_
          rintro e w4 ⟨v2, rfl, hr, hb⟩
          have HT4 := Lib.hid (And.intro (HT3.out.below hb) (toks_at hr))
          have HB4 := Lib.hid (HB3.out.trans (hb.mono HB3.out.size))
          clear hl hr hb hT
          go_wp2_with fail
          have hl := tokens_any d ⟨#[]⟩ k w4 (by rw [HD.out.1]; decide) (by decide) HL.out.2.2.2
          rw [HD.out.2.2.1, cat_none, toks_none (byteL_length d)] at hl
          refine hl.mono ?_
          rintro e w5 ⟨v3, rfl, hr, hb⟩
          have HT5 := Lib.hid (And.intro (HT4.out.1.below hb) (HT4.out.2.below hb))
          have HB5 := Lib.hid (HB4.out.trans (hb.mono HB4.out.size))
          obtain ⟨a3, c3, rfl, _⟩ := toks_at hr
          clear hl hr hb
          go_wp2_with fail
          refine (same_any T v v2 w5 HT5.out.1 HT5.out.2 HTL.out).mono ?_
          rintro e w6 ⟨rfl, hb⟩
          have HB6 := Lib.hid (HB5.out.trans (hb.mono HB5.out.size))
          clear hb
          go_wp2_with fail
          refine (works10_any _).mono ?_
          rintro e w7 ⟨rfl, hb⟩
          have HB7 := Lib.hid (HB6.out.trans (hb.mono HB6.out.size))
          clear hb
          go_wp2_with fail
          go_ret
          exact ⟨rfl, HB7.out⟩
end Go.Proofs.Ytolkmjclldjkkaa
