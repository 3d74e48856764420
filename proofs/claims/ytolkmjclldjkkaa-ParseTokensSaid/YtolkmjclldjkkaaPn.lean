/-
  ParseTokens: the walk, for every dictionary, every text, every level.
-/
import Derived.Test.YtolkmjclldjkkaaQe
set_option linter.unusedSimpArgs false
set_option linter.unusedVariables false
namespace Go.Proofs.Ytolkmjclldjkkaa
open Go.RowKit

set_option maxHeartbeats 4000000 in
theorem rtokens_bad (dict text : ByteArray) (k : Int) (w : World) (h : ¬ (0 ≤ k ∧ k < 10)) : Calls Try.prog 20 #[.string dict, .string text, .int .i64 k] w fun e w' => e = .returned (.tuple #[.slice none 0 0, .int .i64 2]) ∧ Below w.heap.size w w' := by
  have HV := Lib.hid (show rlevelV k = .tuple #[.agg #[.int .i64 0, .int .i64 0, .int .i64 0], .bool false] by unfold rlevelV; rw [if_neg h]; rfl)
  clear h
  go_enter Try.func20, Try.ntmps20
  go_wp2_with fail
  refine (rlevel_any k w).mono ?_
  rintro e w1 ⟨rfl, hb⟩
  rw [HV.out]
  have HB := Lib.hid hb
  clear hb
  go_wp2_with fail
  refine bodyPost_ret (results_tmp2 rfl _ _ _) rfl ⟨rfl, HB.out.alloc HB.out.size _⟩
theorem cutD_1024 {d : ByteArray} (h : d.size ≤ 1024) : cutD d = d := by
  apply byteL_inj
  unfold cutD
  rw [show d.size - 32768 = 0 by omega]
  congr 1
  ext <;> simp
theorem heavy_not {d t : ByteArray} (h : heavyB d t = false) : d.size ≤ 1024 ∧ t.size ≤ 60000 ∧ t.size ≤ 2048 := by
  have hz : ¬ 1024 < d.size ∧ ¬ 2048 < t.size := by
    unfold heavyB at h
    simpa using h
  omega
theorem toks_nil (w : World) : ToksAt w (.slice none 0 0) [] := ⟨none, 0, rfl, fun i t h => by simp at h⟩
theorem mt_n1 {d t n : Nat} (hd : d ≤ 1024) (ht : t ≤ 2048) (h : n ≤ d + t - d) : n < 1000000 := by omega
set_option maxRecDepth 100000 in
set_option maxHeartbeats 8000000 in
theorem ptokens_all (dict : ByteArray) (s0 : dict.size ≤ 140737488351232) (text : ByteArray) (s1 : text.size ≤ 140737488351232) (level : Int) (l1 : -9223372036854775808 ≤ level) (l2 : level < 9223372036854775808) (w : World) :
    Calls Try.prog 7 #[.string dict, .string text, .int .i64 level] w fun e w' => e = .returned (.bool true) ∧ Below w.heap.size w w' := by
  cases hv : heavyB dict text with
  | true =>
    have HV := Lib.hid hv
    clear hv s0 s1 l1 l2
    go_enter Try.func7, Try.ntmps7
    go_wp2_with fail
    refine (heavy_any dict text _).mono ?_
    rintro e w1 ⟨rfl, rfl⟩
    rw [HV.out]
    go_wp2_with fail
    refine (works10_any _).mono ?_
    rintro e w2 ⟨rfl, hb⟩
    have HB := Lib.hid hb
    clear hb
    go_wp2_with fail
    go_ret
    exact ⟨rfl, HB.out⟩
  | false =>
    have HV := Lib.hid hv
    have HZ := Lib.hid (heavy_not hv)
    clear hv s0 s1 l1 l2
    by_cases hk : 0 ≤ level ∧ level < 10
    · obtain ⟨_, _, k, rfl, hk2⟩ := mt_lv hk
      obtain ⟨r, hr⟩ : ∃ r, rowL k = r := ⟨_, rfl⟩
      have HL := Lib.hid (show levelV (k : Int) = .tuple #[.int .i64 (r.1 : Nat), .int .i64 (r.2.1 : Nat), .int .i64 (r.2.2 : Nat), .bool true] by unfold levelV; rw [if_pos hk, Int.toNat_natCast, hr])
      have HRL := Lib.hid (show rlevelV (k : Int) = .tuple #[.agg #[.int .i64 (r.1 : Nat), .int .i64 (r.2.1 : Nat), .int .i64 (r.2.2 : Nat)], .bool true] by unfold rlevelV; rw [if_pos hk, Int.toNat_natCast, hr]; rfl)
      have HK := Lib.hid hk2
      clear hk hk2 hr
      obtain ⟨T, hT⟩ : ∃ T, toksL (byteL (dict ++ text)) dict.size k = T := ⟨_, rfl⟩
      have HTL := Lib.hid (show T.length < 1000000 by
        rw [← hT]
        have h1 := toks_count (byteL (dict ++ text)) dict.size k
        rw [byteL_length, ByteArray.size_append] at h1
        exact mt_n1 HZ.out.1 HZ.out.2.2 h1)
      have HT := Lib.hid hT
      clear hT
      go_enter Try.func7, Try.ntmps7
      go_wp2_with fail
      refine (heavy_any dict text _).mono ?_
      rintro e w1 ⟨rfl, rfl⟩
      rw [HV.out]
      go_wp2_with fail
      have hl := tokens_any dict text k w1 (Nat.le_trans HZ.out.1 (by decide)) HZ.out.2.1 HK.out
      rw [cutD_1024 HZ.out.1, HT.out] at hl
      refine hl.mono ?_
      rintro e w2 ⟨v, rfl, hr, hb⟩
      have HT2 := Lib.hid (toks_at hr)
      have HB2 := Lib.hid hb
      clear hl hr hb
      go_wp2_with fail
      have hl := rtokens_any dict text k w2 HZ.out.1 HZ.out.2.1 HK.out
      rw [HT.out] at hl
      refine hl.mono ?_
      rintro e w3 ⟨v2, rfl, hr, hb⟩
      have HT3 := Lib.hid (And.intro (HT2.out.below hb) (toks_at hr))
      have HB3 := Lib.hid (HB2.out.trans (hb.mono HB2.out.size))
      clear hl hr hb
      go_wp2_with fail
      refine (level_any (k : Int) w3).mono ?_
      rintro e w4 ⟨rfl, hb⟩
      rw [HL.out]
      have HT4 := Lib.hid (And.intro (HT3.out.1.below hb) (HT3.out.2.below hb))
      have HB4 := Lib.hid (HB3.out.trans (hb.mono HB3.out.size))
      clear hb
      go_wp2_with fail
      refine (rlevel_any (k : Int) w4).mono ?_
      rintro e w5 ⟨rfl, hb⟩
      rw [HRL.out]
      have hb6 : Below w5.heap.size w5 (w5.alloc (.cells #[.int .i64 (r.1 : Nat), .int .i64 (r.2.1 : Nat), .int .i64 (r.2.2 : Nat)] 48)) := (Below.refl _ w5).alloc (Nat.le_refl _) _
      have HT6 := Lib.hid (And.intro ((HT4.out.1.below hb).below hb6) ((HT4.out.2.below hb).below hb6))
      have hB5 := HB4.out.trans (hb.mono HB4.out.size)
      have HB6 := Lib.hid (hB5.trans (hb6.mono hB5.size))
      have h15 : (w5.alloc (.cells #[.int .i64 (r.1 : Nat), .int .i64 (r.2.1 : Nat), .int .i64 (r.2.2 : Nat)] 48)).heap[w5.heap.size]? = some (.cells #[.int .i64 (r.1 : Nat), .int .i64 (r.2.1 : Nat), .int .i64 (r.2.2 : Nat)] 48 (0, 0)) := heap_alloc_last w5 _
      have H15 := Lib.hid h15
      clear hb hb6 hB5 h15
      go_wp2_with fail
      refine (same_any T v v2 _ HT6.out.1 HT6.out.2 HTL.out).mono ?_
      rintro e w7 ⟨rfl, hb⟩
      have h7 := (hb.block w5.heap.size (Array.getElem?_eq_some_iff.1 H15.out).1).trans H15.out
      have c0 : w7.cell? ⟨w5.heap.size, 0, none⟩ = some (.int .i64 (r.1 : Nat)) := cell_blk h7 0
      have c1 : w7.cell? ⟨w5.heap.size, 1, none⟩ = some (.int .i64 (r.2.1 : Nat)) := cell_blk h7 1
      have c2 : w7.cell? ⟨w5.heap.size, 2, none⟩ = some (.int .i64 (r.2.2 : Nat)) := cell_blk h7 2
      have HB7 := Lib.hid (HB6.out.trans (hb.mono HB6.out.size))
      clear hb h7
      go_wp2_with fail
      refine (works10_any _).mono ?_
      rintro e w8 ⟨rfl, hb⟩
      have HB8 := Lib.hid (HB7.out.trans (hb.mono HB7.out.size))
      clear hb
      go_wp2_with fail
      go_ret
      exact ⟨rfl, HB8.out⟩
    · have HL := Lib.hid (show levelV level = .tuple #[.int .i64 0, .int .i64 0, .int .i64 0, .bool false] by unfold levelV; rw [if_neg hk])
      have HRL := Lib.hid (show rlevelV level = .tuple #[.agg #[.int .i64 0, .int .i64 0, .int .i64 0], .bool false] by unfold rlevelV; rw [if_neg hk]; rfl)
      have HK := Lib.hid hk
      clear hk
      go_enter Try.func7, Try.ntmps7
      go_wp2_with fail
      refine (heavy_any dict text _).mono ?_
      rintro e w1 ⟨rfl, rfl⟩
      rw [HV.out]
      go_wp2_with fail
      refine (tokens_bad dict text level w1 HK.out).mono ?_
      rintro e w2 ⟨rfl, hb⟩
      have HB2 := Lib.hid hb
      clear hb
      go_wp2_with fail
      refine (rtokens_bad dict text level w2 HK.out).mono ?_
      rintro e w3 ⟨rfl, hb⟩
      have HB3 := Lib.hid (HB2.out.trans (hb.mono HB2.out.size))
      clear hb
      go_wp2_with fail
      refine (level_any level w3).mono ?_
      rintro e w4 ⟨rfl, hb⟩
      rw [HL.out]
      have HB4 := Lib.hid (HB3.out.trans (hb.mono HB3.out.size))
      clear hb
      go_wp2_with fail
      refine (rlevel_any level w4).mono ?_
      rintro e w5 ⟨rfl, hb⟩
      rw [HRL.out]
      have hB5 := HB4.out.trans (hb.mono HB4.out.size)
      have HB6 := Lib.hid (show Below w1.heap.size w1 (w5.alloc (.cells #[.int .i64 0, .int .i64 0, .int .i64 0] 48)) from hB5.alloc hB5.size _)
      have h15 : (w5.alloc (.cells #[.int .i64 0, .int .i64 0, .int .i64 0] 48)).heap[w5.heap.size]? = some (.cells #[.int .i64 0, .int .i64 0, .int .i64 0] 48 (0, 0)) := heap_alloc_last w5 _
      have H15 := Lib.hid h15
      clear hb hB5 h15
      go_wp2_with fail
      refine (same_any [] (.slice none 0 0) (.slice none 0 0) _ (toks_nil _) (toks_nil _) (by decide)).mono ?_
      rintro e w7 ⟨rfl, hb⟩
      have h7 := (hb.block w5.heap.size (Array.getElem?_eq_some_iff.1 H15.out).1).trans H15.out
      have c0 : w7.cell? ⟨w5.heap.size, 0, none⟩ = some (.int .i64 0) := cell_blk h7 0
      have c1 : w7.cell? ⟨w5.heap.size, 1, none⟩ = some (.int .i64 0) := cell_blk h7 1
      have c2 : w7.cell? ⟨w5.heap.size, 2, none⟩ = some (.int .i64 0) := cell_blk h7 2
      have HB7 := Lib.hid (HB6.out.trans (hb.mono HB6.out.size))
      clear hb h7
      go_wp2_with fail
      refine (works10_any _).mono ?_
      rintro e w8 ⟨rfl, hb⟩
      have HB8 := Lib.hid (HB7.out.trans (hb.mono HB7.out.size))
      clear hb
      go_wp2_with fail
      go_ret
      exact ⟨rfl, HB8.out⟩
end Go.Proofs.Ytolkmjclldjkkaa
