/-
  ParseBack: the walk, for every dictionary, every text, every level.
-/
import Derived.Test.YtolkmjclldjkkaaPi
set_option linter.unusedSimpArgs false
set_option linter.unusedVariables false
namespace Go.Proofs.Ytolkmjclldjkkaa
open Go.RowKit

theorem cutD_small {d : ByteArray} (h : ¬ 32768 < d.size) : cutD d = d := by
  apply byteL_inj
  unfold cutD
  rw [show d.size - 32768 = 0 by omega]
  congr 1
  ext <;> simp
theorem mt_k1 {l : Nat} (h : l < 256) : ∃ k : Nat, (l : Int).tmod 10 = (k : Int) ∧ k < 10 ∧ wrap64 (k : Int) = (k : Int) := by
  refine ⟨l % 10, ?_, by omega, by unfold wrap64; omega⟩
  rw [Int.tmod_eq_emod_of_nonneg (by omega)]
  omega
theorem mt_k2 {n : Nat} (h : 32768 < n) (h2 : n ≤ 65536) : ∃ c : Nat, wrap64 ((n : Int) - 32768) = (c : Int) ∧ (0 : Int) ≤ (c : Int) ∧ (c : Int) ≤ (n : Int) ∧ c ≤ n ∧ n - 32768 = c := ⟨n - 32768, by unfold wrap64; omega, by omega, by omega, by omega, rfl⟩
theorem mt_k3 {n : Nat} (h : ¬ 65536 < n) : n ≤ 140737488351232 ∧ n ≤ 65536 := by omega
theorem mt_k4 {n : Nat} (h : ¬ 8192 < n) : n ≤ 60000 ∧ n ≤ 8192 := by omega
theorem back_text (d text : ByteArray) : textOf ((byteL (d ++ text)).drop d.size) = text := by
  rw [byteL_append, ← byteL_length d, List.drop_left, textOf_byteL]
set_option maxRecDepth 100000 in
set_option maxHeartbeats 8000000 in
theorem back_all (dict : ByteArray) (s0 : dict.size ≤ 140737488351232) (text : ByteArray) (s1 : text.size ≤ 140737488351232) (lv : Nat) (hl : lv < 256) (w : World) :
    Calls Try.prog 8 #[.string dict, .string text, .int .u8 (lv : Nat)] w fun e w' => e = .returned (.bool true) ∧ Below w.heap.size w w' := by
  by_cases h1 : 65536 < dict.size
  · obtain ⟨d1, _⟩ := mt_o6 h1
    have d1' : decide ((65536 : Int) < (dict.size : Int)) = true := d1
    clear h1 d1 s0 s1 hl
    go_enter Try.func8, Try.ntmps8
    go_wp2_with fail
    refine (works10_any _).mono ?_
    rintro e w2 ⟨rfl, hb⟩
    have HB := Lib.hid hb
    clear hb
    go_wp2_with fail
    go_ret
    exact ⟨rfl, HB.out⟩
  · obtain ⟨d1, _⟩ := mt_o7 h1
    have d1' : decide ((65536 : Int) < (dict.size : Int)) = false := d1
    have HD := Lib.hid (mt_k3 h1)
    clear h1 d1
    by_cases h2 : 8192 < text.size
    · obtain ⟨d2, _⟩ := mt_o6 h2
      have d2' : decide ((8192 : Int) < (text.size : Int)) = true := d2
      clear h2 d2 s0 s1 hl
      go_enter Try.func8, Try.ntmps8
      go_wp2_with fail
      refine (works10_any _).mono ?_
      rintro e w2 ⟨rfl, hb⟩
      have HB := Lib.hid hb
      clear hb
      go_wp2_with fail
      go_ret
      exact ⟨rfl, HB.out⟩
    · obtain ⟨d2, _⟩ := mt_o7 h2
      have d2' : decide ((8192 : Int) < (text.size : Int)) = false := d2
      have HX := Lib.hid (mt_k4 h2)
      obtain ⟨k, ek, hk, ek2⟩ := mt_k1 hl
      have HK := Lib.hid hk
      clear h2 d2 s0 s1 hl hk
      go_enter Try.func8, Try.ntmps8
      go_wp2_with fail
      obtain ⟨D, hD⟩ : ∃ D, cutD dict = D := ⟨_, rfl⟩
      have hl := tokens_any dict text k w HD.out.1 HX.out.1 HK.out
      obtain ⟨L, hL⟩ : ∃ L, byteL (D ++ text) = L := ⟨_, rfl⟩
      obtain ⟨T, hT⟩ : ∃ T, toksL L D.size k = T := ⟨_, rfl⟩
      rw [hD, hL, hT] at hl
      have hds : D.size ≤ 32768 := by have := cutD_size dict; rw [hD] at this; rw [this]; omega
      have hLl : L.length = D.size + text.size := by rw [← hL, byteL_length]; exact ByteArray.size_append
      have HL := Lib.hid (show L.length ≤ 100000 ∧ D.size ≤ L.length ∧ (∀ x ∈ L, x < 256) ∧ T.length ≤ 100000 ∧ L.take D.size = byteL D ∧ textOf (L.drop D.size) = text from ⟨by have := HX.out; omega, by omega, by rw [← hL]; exact byteL_lt _, by
        rw [← hT]
        have := toks_count L D.size k
        have := HX.out
        omega, by rw [← hL, byteL_append, ← byteL_length D, List.take_left], by rw [← hL]; exact back_text D text⟩)
      have HPA := Lib.hid (show Path L D.size T L.length by rw [← hT]; exact toks_path L D.size k (by omega))
      have HZ := Lib.hid (show k = 0 → ∀ t ∈ T, t.2.1 = 0 by
        intro h
        rw [← hT]
        unfold toksL
        rw [if_pos h]
        exact lits_zero)
      have HDD := Lib.hid hD
      refine hl.mono ?_
      rintro e w1 ⟨v, rfl, hr, hb⟩
      obtain ⟨a, c, rfl, hcell⟩ := toks_at hr
      have HT := Lib.hid hcell
      have HB := Lib.hid hb
      obtain ⟨n, hn⟩ : ∃ n, T.length = n := ⟨_, rfl⟩
      rw [hn]
      have HN := Lib.hid hn
      clear hl hr hb hcell hD hL hT hds hLl hn
      go_wp2_with fail
      go_loopg [9] n (fun f s9 wx => ∃ i : Nat, s9 = .int .i64 (i : Int) ∧ Hid (i + f = n) ∧ Hid (Below w1.heap.size w1 wx))
      case atStart => exact ⟨0, rfl, Lib.hid (Nat.zero_add _), Lib.hid (Below.refl _ _)⟩
      case round =>
        obtain ⟨i, rfl, HI, HW⟩ := hrel
        cases gk with
        | zero =>
          obtain rfl : i = n := HI.out
          obtain ⟨i1, i2⟩ := pt_ge (Nat.lt_irrefl i)
          have HBB := Lib.hid (HB.out.trans (HW.out.mono HB.out.size))
          have HTT := Lib.hid (show ToksAt wr (.slice a i c) T from ToksAt.below ⟨a, c, by rw [HN.out], HT.out⟩ HW.out)
          by_cases hb : 32768 < dict.size
          · obtain ⟨b1, _⟩ := mt_o6 hb
            have b1' : decide ((32768 : Int) < (dict.size : Int)) = true := b1
            obtain ⟨x, x1, x2, x3, x4, x5⟩ := mt_k2 hb HD.out.2
            have hcut : dict.extract x dict.size = D := by rw [← HDD.out, ← x5]; rfl
            clear hb b1 x5
            go_wp2_with fail
            have hl := text_any D L T (.slice a i c) wr HL.out.2.2.2.2.1 HL.out.1 HL.out.2.1 HL.out.2.2.1 HPA.out HTT.out HL.out.2.2.2.1
            rw [HL.out.2.2.2.2.2] at hl
            refine hl.mono ?_
            rintro e w4 ⟨rfl, hb⟩
            have HB4 := Lib.hid (HBB.out.trans (hb.mono HBB.out.size))
            clear hl hb
            go_wp2_with fail
            refine (works10_any _).mono ?_
            rintro e w5 ⟨rfl, hb⟩
            have HB5 := Lib.hid (HB4.out.trans (hb.mono HB4.out.size))
            clear hb
            go_wp2_with fail
            go_ret
            exact ⟨rfl, HB5.out⟩
          · obtain ⟨b1, _⟩ := mt_o7 hb
            have b1' : decide ((32768 : Int) < (dict.size : Int)) = false := b1
            obtain rfl : dict = D := by rw [← HDD.out]; exact (cutD_small hb).symm
            clear hb b1
            go_wp2_with fail
            have hl := text_any dict L T (.slice a i c) wr HL.out.2.2.2.2.1 HL.out.1 HL.out.2.1 HL.out.2.2.1 HPA.out HTT.out HL.out.2.2.2.1
            rw [HL.out.2.2.2.2.2] at hl
            refine hl.mono ?_
            rintro e w4 ⟨rfl, hb⟩
            have HB4 := Lib.hid (HBB.out.trans (hb.mono HBB.out.size))
            clear hl hb
            go_wp2_with fail
            refine (works10_any _).mono ?_
            rintro e w5 ⟨rfl, hb⟩
            have HB5 := Lib.hid (HB4.out.trans (hb.mono HB4.out.size))
            clear hb
            go_wp2_with fail
            go_ret
            exact ⟨rfl, HB5.out⟩
        | succ f =>
          have hi : i < n := pt_nl HI.out
          obtain ⟨i1, i2⟩ := pt_lt hi
          have ei := mt_x1 hi (by rw [← HN.out]; exact HL.out.2.2.2.1)
          have n0 : (0 : Int) ≤ (i : Int) := Int.natCast_nonneg i
          have n1 : (i : Int) < (n : Int) := Int.ofNat_lt.2 hi
          obtain ⟨t, ht⟩ : ∃ t, T[i]? = some t := ⟨T[i]'(by rw [HN.out]; exact hi), List.getElem?_eq_getElem _⟩
          obtain ⟨gt, rfl, p0, p1, p2⟩ := HT.out i t ht
          have q0 := (HW.out.cell (World.block_lt_of_cell? _ _ p0)).trans p0
          have q1 := (HW.out.cell (World.block_lt_of_cell? _ _ p1)).trans p1
          have q2 := (HW.out.cell (World.block_lt_of_cell? _ _ p2)).trans p2
          have HOK := Lib.hid (HPA.out.all t (List.mem_of_getElem? ht))
          have HZT := Lib.hid (show k = 0 → t.2.1 = 0 from fun h => HZ.out h t (List.mem_of_getElem? ht))
          clear p0 p1 p2 hi ht
          go_wp2_with fail
          refine (may_ok t HOK.out _).mono ?_
          rintro e w3 ⟨rfl, hb⟩
          have HW3 := Lib.hid (HW.out.trans (hb.mono HW.out.size))
          have r1 := (hb.cell (World.block_lt_of_cell? _ _ q1)).trans q1
          clear q0 q1 q2 hb
          by_cases hk0 : k = 0
          · have hz := HZT.out hk0
            rw [hz] at r1
            obtain ⟨z1, z2⟩ := mt_o3 hk0
            clear hk0 hz
            go_wp2_with fail
            go_roundg f
            case measure => exact Nat.lt_succ_self f
            case rel => exact ⟨i + 1, by first | rw [ei] | rfl, Lib.hid (pt_nx HI.out), HW3⟩
          · obtain ⟨z1, z2, _, _⟩ := mt_o4 hk0
            clear hk0
            go_wp2_with fail
            go_roundg f
            case measure => exact Nat.lt_succ_self f
            case rel => exact ⟨i + 1, by first | rw [ei] | rfl, Lib.hid (pt_nx HI.out), HW3⟩
end Go.Proofs.Ytolkmjclldjkkaa
