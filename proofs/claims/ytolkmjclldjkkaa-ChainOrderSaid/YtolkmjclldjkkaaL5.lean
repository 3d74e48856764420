/-
  ChainOrder: the walk, for every text, which places are put, every place, depth and length.
-/
import Derived.Test.YtolkmjclldjkkaaMb
import Derived.Test.YtolkmjclldjkkaaL4
set_option linter.unusedSimpArgs false
set_option linter.unusedVariables false
namespace Go.Proofs.Ytolkmjclldjkkaa
open Go.RowKit

theorem mt_plf2 {z : Nat → Bool} {n k S : Nat} {d : Int} (h : k < S) (h2 : S ≤ 1024) (hd : d ≤ 9223372036854775807) : (keptL z n k).length < 1000000 ∧ (∀ p ∈ keptL z n k, (p : Int) < (k : Int)) ∧ (k : Int) ≤ 9223372036854775807 ∧ d ≤ 9223372036854775807 := by
  have := keptL_length z n k
  exact ⟨by omega, fun p hp => by have := (keptL_mem hp).1; omega, by omega, hd⟩
theorem mt_len {a : Nat} {d : Nat} (h : a ≤ (d : Int).toNat) : decide (d < a) = false ∧ decide ((d : Int) < (a : Int)) = false := by
  constructor
  all_goals (rw [decide_eq_false_iff_not]; omega)
theorem mt_le {a d : Nat} (h : a ≤ d) : decide (d < a) = false ∧ decide ((d : Int) < (a : Int)) = false := by
  constructor
  all_goals (rw [decide_eq_false_iff_not]; omega)
theorem mt_gq {a d : Nat} (h : a < d) : decide (d ≤ a) = false ∧ decide ((d : Int) ≤ (a : Int)) = false := by
  constructor
  all_goals (rw [decide_eq_false_iff_not]; omega)
theorem mt_pos {i : Nat} (h : 0 < i) : decide ((0 : Int) < (i : Int)) = true ∧ decide (0 < i) = true := by
  constructor
  all_goals (rw [decide_eq_true_eq]; omega)
theorem mt_prev {i i0 : Nat} (h : i0 + 1 = i) (h2 : i ≤ 2048) : wrap64 ((i : Int) - 1) = (i0 : Int) ∧ (0 : Int) ≤ (i0 : Int) := by unfold wrap64; omega
theorem mt_w {a b : Nat} (h1 : a < 256) (h2 : b < 256) : wrap64 ((a : Int) - (b : Int)) = (a : Int) - (b : Int) ∧ wrap64 ((a : Int) + (b : Int)) = (a : Int) + (b : Int) ∧ (a : Int) - (b : Int) ≤ (a : Int) ∧ (a : Int) ≤ (a : Int) + (b : Int) ∧ (a : Int) - (b : Int) ≤ 9223372036854775807 ∧ (a : Int) ≤ 9223372036854775807 ∧ wrap64 (a : Int) = (a : Int) ∧ wrap64 (b : Int) = (b : Int) := by unfold wrap64; omega
theorem mt_i0 {i : Nat} (h : i = 0) : decide ((0 : Int) < (i : Int)) = false ∧ decide (0 < i) = false := by subst h; exact ⟨rfl, rfl⟩
theorem mt_ip {i0 i : Nat} (h : i0 + 1 = i) : 0 < i := by omega
theorem mt_p5 {i0 i n : Nat} (h : i0 + 1 = i) (h2 : i < n) : (i0 : Int) < (n : Int) := by omega
theorem mt_no0 {o : Nat} (h : (o : Int) < ((0 : Nat) : Int)) : False := by omega
theorem mt_dne {o x y : Nat} (h : (o : Int) < (x : Int)) : decide ((x : Int) = 0 ∧ (y : Int) = 0) = false ∧ ¬ ((x : Int) = 0) := by
  have h2 : ¬ ((x : Int) = 0) := by omega
  exact ⟨decide_eq_false (fun h => h2 h.1), h2⟩
theorem cell_heap {w w' : World} (h : w.heap = w'.heap) (p : Addr) : w.cell? p = w'.cell? p := by
  unfold World.cell?; rw [h]
theorem mt_szj {j S : Nat} (h : j < S) : (j : Int) ≤ (S : Int) := by omega
theorem mt_mil {j k S : Nat} (h : j < k) (h1 : k < S) (h2 : S ≤ 1024) : j < 1000000 := by omega
theorem mt_tr {j k S : Nat} (h : j < k) (h1 : k < S) : j < S := by omega
theorem mt_big {a : Nat} (h : a ≤ 1024) : a ≤ 140737488351232 := by omega
theorem mt_2048 {a k S : Nat} (h : a ≤ k) (h1 : k < S) (h2 : S ≤ 1024) : a ≤ 2048 := by omega
theorem mt_ov {x o : Nat} (h : (o : Int) < (x : Int)) : ((x : Int) == 0) = false ∧ decide (x = 0) = false ∧ decide ((o : Int) < (x : Int)) = true ∧ decide (o < x) = true := by
  refine ⟨?_, ?_, ?_, ?_⟩
  · rw [beq_eq_false_iff_ne]; omega
  · rw [decide_eq_false_iff_not]; omega
  · rw [decide_eq_true_eq]; omega
  · rw [decide_eq_true_eq]; omega

set_option maxRecDepth 100000 in
set_option maxHeartbeats 8000000 in
theorem order_all (s : ByteArray) (hs : s.size ≤ 140737488351232) (a : Option Addr) (len cap : Nat) (z : Nat → Bool) (at_ : Nat) (hat : at_ < 65536) (depth : Nat) (hd : depth < 256) (less : Nat) (hle : less < 256) (over : Nat) (hov : over < 256) (more : Nat) (hmo : more < 256) (w : World)
    (hsk : ∀ i, i < len → ∃ x, a = some x ∧ w.cell? (x.add i) = some (.bool (z i))) :
    Calls Try.prog 6 #[.string s, .slice a len cap, .int .u16 (at_ : Nat), .int .u8 (depth : Nat), .int .u8 (less : Nat), .int .u8 (over : Nat), .int .u8 (more : Nat)] w fun e w' => e = .returned (.bool true) ∧ Below w.heap.size w w' := by
  have HS := Lib.hid hs
  have HA := Lib.hid (And.intro hat (And.intro hd (And.intro hle (And.intro hov hmo))))
  have HSK := Lib.hid hsk
  clear hs hat hd hle hov hmo hsk
  go_enter Try.func6, Try.ntmps6
  by_cases h1 : 1024 < s.size
  · have d1 : decide (1024 < s.size) = true := by rw [decide_eq_true_eq]; exact h1
    have d1' : decide ((1024 : Int) < (s.size : Int)) = true := by rw [decide_eq_true_eq]; omega
    clear h1
    go_wp2_with fail
    refine (works_any _).mono ?_
    rintro e w8 ⟨rfl, hb8⟩
    have HB8 := Lib.hid hb8
    clear hb8
    go_wp2_with fail
    go_ret
    exact ⟨rfl, HB8.out⟩
  · have d1 : decide (1024 < s.size) = false := by rw [decide_eq_false_iff_not]; exact h1
    have d1' : decide ((1024 : Int) < (s.size : Int)) = false := by rw [decide_eq_false_iff_not]; omega
    have HS2 := Lib.hid (show s.size ≤ 1024 by omega)
    clear h1
    by_cases h0 : s.size = 0
    · have d0 : ((s.size : Int) == 0) = true := by rw [h0]; rfl
      have d0' : decide (s.size = 0) = true := by rw [h0]; rfl
      go_wp2_with fail
      refine (works_any _).mono ?_
      rintro e w8 ⟨rfl, hb8⟩
      have HB8 := Lib.hid hb8
      clear hb8
      go_wp2_with fail
      go_ret
      exact ⟨rfl, HB8.out⟩
    · have d0 : ((s.size : Int) == 0) = false := by simpa using h0
      have d0' : decide (s.size = 0) = false := by simpa using h0
      have HS0 := Lib.hid (show 0 < s.size by omega)
      clear h0
      by_cases h3 : 2048 < len
      · have d3 : decide (2048 < len) = true := by rw [decide_eq_true_eq]; exact h3
        have d3' : decide ((2048 : Int) < (len : Int)) = true := by rw [decide_eq_true_eq]; omega
        clear h3
        go_wp2_with fail
        refine (works_any _).mono ?_
        rintro e w8 ⟨rfl, hb8⟩
        have HB8 := Lib.hid hb8
        clear hb8
        go_wp2_with fail
        go_ret
        exact ⟨rfl, HB8.out⟩
      · have d3 : decide (2048 < len) = false := by rw [decide_eq_false_iff_not]; exact h3
        have d3' : decide ((2048 : Int) < (len : Int)) = false := by rw [decide_eq_false_iff_not]; omega
        clear h3
        go_wp2_with fail
        refine (new_any s w HS.out).mono ?_
        rintro e w1 ⟨A, rfl, hf1, hb1⟩
        have HF1 := Lib.hid hf1
        have HB1 := Lib.hid hb1
        clear hf1 hb1
        obtain ⟨k, hk⟩ : ∃ k, at_ % s.size = k := ⟨_, rfl⟩
        have ek : (at_ : Int) % (s.size : Int) = (k : Int) := by rw [← hk]; omega
        have HK := Lib.hid (show k < s.size by rw [← hk]; exact Nat.mod_lt _ HS0.out)
        have hz : ¬ ((s.size : Int) = 0) := by have := HS0.out; omega
        have ew : wrap64 (at_ : Int) = (at_ : Int) := by have := HA.out; unfold wrap64; omega
        have et : (at_ : Int).tmod (s.size : Int) = (k : Int) := by rw [Int.tmod_eq_emod_of_nonneg (by omega)]; exact ek
        obtain ⟨ws, _, sl, _, sl2, dmx, wd, wl⟩ := mt_w HA.out.2.1 HA.out.2.2.1
        obtain ⟨_, wa, _, om, _, omx, wo, wm⟩ := mt_w HA.out.2.2.2.1 HA.out.2.2.2.2
        have HMAX := Lib.hid (And.intro sl (And.intro sl2 (And.intro dmx om)))
        clear hk sl sl2 dmx om omx
        go_wp2_with fail
        (try simp only [ew, et])
        go_loopg [17] k (fun f s17 wx => ∃ j : Nat, s17 = .int .i64 (j : Int) ∧ Hid (j + f = k) ∧ Hid (Fnd wx w.heap.size A s (keptL z len j)) ∧ Hid (Below w.heap.size w wx))
        case atStart => exact ⟨0, rfl, Lib.hid (Nat.zero_add _), HF1, HB1⟩
        case round =>
          clear HF1 HB1
          obtain ⟨j, rfl, HJ, HF, HB⟩ := hrel
          cases gk with
          | succ f =>
            have hjk : j < k := mt_nl HJ.out
            obtain ⟨dk, dk2⟩ := mt_lt hjk
            have HJK := Lib.hid hjk
            have e1 : wrap64 ((j : Int) + 1) = ((j + 1 : Nat) : Int) := mt_m1 hjk (mt_2048 (Nat.le_refl k) HK.out HS2.out)
            have n0 : (0 : Int) ≤ (j : Int) := Int.natCast_nonneg j
            clear hjk
            by_cases hjl : j < len
            · obtain ⟨x, rfl, hx⟩ := HSK.out j hjl
              have qx : wr.cell? (x.add j) = some (.bool (z j)) := (HB.out.cell (p := x.add j) (World.block_lt_of_cell? _ _ hx)).trans hx
              obtain ⟨g1, g2⟩ := mt_lt hjl
              have n1 : (j : Int) < (len : Int) := Int.ofNat_lt.2 hjl
              have HJL := Lib.hid hjl
              clear hx hjl
              cases hzj : z j with
              | true =>
                have HK2 := Lib.hid (keptL_skip HJL.out hzj)
                rw [hzj] at qx
                clear hzj
                go_wp2_with fail
                go_roundg f
                case measure => exact Nat.lt_succ_self f
                case rel => exact ⟨j + 1, by rw [e1], Lib.hid (mt_nx HJ.out), by rw [HK2.out]; exact HF, HB⟩
              | false =>
                have HP := Lib.hid (show ¬ (j < len ∧ z j = true) from fun h => by rw [hzj] at h; cases h.2)
                rw [hzj] at qx
                clear hzj
                go_wp2_with fail
                refine (put_any (j : Int) w.heap.size A s (keptL z len j) wr HF.out (Nat.lt_of_le_of_lt (keptL_length z len j) (mt_mil HJK.out HK.out HS2.out)) HB.out.size).mono ?_
                rintro e w2 ⟨rfl, hf2, hk2⟩
                rw [keptL_putI (mt_tr HJK.out HK.out) HP.out] at hf2 ⊢
                have HF2 := Lib.hid hf2
                have HB2 := Lib.hid (HB.out.trans hk2.below)
                clear hf2 hk2
                go_wp2_with fail
                go_roundg f
                case measure => exact Nat.lt_succ_self f
                case rel => exact ⟨j + 1, by rw [e1], Lib.hid (mt_nx HJ.out), HF2, HB2⟩
            · obtain ⟨g1, g2⟩ := mt_ge hjl
              have HP := Lib.hid (show ¬ (j < len ∧ z j = true) from fun h => hjl h.1)
              clear hjl
              go_wp2_with fail
              refine (put_any (j : Int) w.heap.size A s (keptL z len j) wr HF.out (Nat.lt_of_le_of_lt (keptL_length z len j) (mt_mil HJK.out HK.out HS2.out)) HB.out.size).mono ?_
              rintro e w2 ⟨rfl, hf2, hk2⟩
              rw [keptL_putI (mt_tr HJK.out HK.out) HP.out] at hf2 ⊢
              have HF2 := Lib.hid hf2
              have HB2 := Lib.hid (HB.out.trans hk2.below)
              clear hf2 hk2
              go_wp2_with fail
              go_roundg f
              case measure => exact Nat.lt_succ_self f
              case rel => exact ⟨j + 1, by rw [e1], Lib.hid (mt_nx HJ.out), HF2, HB2⟩
          | zero =>
            obtain rfl : j = k := HJ.out
            obtain ⟨dk, dk2⟩ := mt_ge (Nat.lt_irrefl j)
            have HPL1 := Lib.hid (mt_plf2 (z := z) (n := len) (d := (depth : Int)) HK.out HS2.out HMAX.out.2.2.1)
            have HPL2 := Lib.hid (mt_plf2 (z := z) (n := len) (d := (depth : Int) - (less : Int)) HK.out HS2.out HMAX.out.2.1)
            go_wp2_with fail
            refine (places_any (j : Int) (depth : Int) w.heap.size A s (keptL z len j) _ HF.out HPL1.out.1 HPL1.out.2.1 HPL1.out.2.2.1 HPL1.out.2.2.2).mono ?_
            rintro e w5 ⟨v, rfl, hrow, hf5, hb5⟩
            have HORD := Lib.hid (fun i q (h : (placesL (byteL s) (keptL z len j) (j : Int) (depth : Int))[i]? = some q) => places_order (byteL s) z len j (j : Int) (depth : Int) h)
            obtain ⟨hp1, hp2⟩ := places_pre (byteL s) (keptL z len j) (j : Int) (d := (depth : Int)) (e := (depth : Int) - (less : Int)) HMAX.out.1
            have hdl := placesL_depth (byteL s) (keptL z len j) (j : Int) (depth : Int)
            have hkl := Nat.le_trans (placesL_len (byteL s) (keptL z len j) (j : Int) (depth : Int)) (keptL_length z len j)
            obtain ⟨cs, hcs⟩ : ∃ cs, placesL (byteL s) (keptL z len j) (j : Int) (depth : Int) = cs := ⟨_, rfl⟩
            obtain ⟨cm, hcm⟩ : ∃ cm, placesL (byteL s) (keptL z len j) (j : Int) ((depth : Int) - (less : Int)) = cm := ⟨_, rfl⟩
            rw [hcs] at hrow HORD hp1 hp2 hdl hkl
            rw [hcm] at hp1 hp2
            obtain ⟨ga, ca, rfl, hget⟩ := row_get hrow
            have HG1 := Lib.hid hget
            have HF5 := Lib.hid hf5
            have HB5 := Lib.hid (HB.out.trans (hb5.mono HB.out.size))
            have HPRE := Lib.hid (And.intro hp1 hp2)
            have HCM := Lib.hid hcm
            have HCL := Lib.hid (mt_2048 hkl HK.out HS2.out)
            obtain ⟨u1, u1'⟩ := mt_len hdl
            obtain ⟨u2, u2'⟩ := mt_le hp1
            clear hrow hf5 hb5 hcs hcm hp1 hp2 hdl hkl hget HF HB
            go_wp2_with fail
            refine (places_any (j : Int) ((depth : Int) - (less : Int)) w.heap.size A s (keptL z len j) _ HF5.out HPL2.out.1 HPL2.out.2.1 HPL2.out.2.2.1 HPL2.out.2.2.2).mono ?_
            rintro e w6 ⟨v, rfl, hrow, hf6, hb6⟩
            rw [HCM.out] at hrow
            obtain ⟨gb, cb, rfl, hget⟩ := row_get hrow
            have HF6 := Lib.hid hf6
            have HB6 := Lib.hid (HB5.out.trans (hb6.mono HB5.out.size))
            have HG := Lib.hid (show (∀ i q, cs[i]? = some q → ∃ g, ga = some ⟨g, 0, none⟩ ∧ w6.cell? ⟨g, i, none⟩ = some (.int .i64 (q : Nat))) ∧ (∀ i q, cm[i]? = some q → ∃ g, gb = some ⟨g, 0, none⟩ ∧ w6.cell? ⟨g, i, none⟩ = some (.int .i64 (q : Nat))) from ⟨fun i q h => by
              obtain ⟨g, h1, h2⟩ := HG1.out i q h
              exact ⟨g, h1, (hb6.cell (World.block_lt_of_cell? _ _ h2)).trans h2⟩, hget⟩)
            have HSK6 := Lib.hid (show ∀ i, i < len → ∃ x, a = some x ∧ w6.cell? (x.add i) = some (.bool (z i)) from fun i hi => by
              obtain ⟨x, h1, h2⟩ := HSK.out i hi
              exact ⟨x, h1, (HB6.out.cell (World.block_lt_of_cell? _ _ h2)).trans h2⟩)
            clear hrow hf6 hb6 hget HG1 HF5 HB5 HCM
            go_wp2_with fail
            (try simp only [wd, wl, ws])
            go_loopg [14, 20] cs.length (fun f s14 s20 wx => ∃ i : Nat, s20 = .int .i64 (i : Int) ∧ Hid (i + f = cs.length) ∧ Hid (wx.heap = w6.heap ∧ Fnd wx w.heap.size A s (keptL z len j) ∧ Below w.heap.size w wx))
            case atStart => exact ⟨0, rfl, Lib.hid (Nat.zero_add _), Lib.hid ⟨rfl, HF6.out, HB6.out⟩⟩
            case round =>
              obtain ⟨i, rfl, HI, HW⟩ := hrel
              cases gk with
              | zero =>
                obtain rfl : i = cs.length := HI.out
                obtain ⟨dk, dk2⟩ := mt_ge (Nat.lt_irrefl cs.length)
                go_wp2_with fail
                refine (find_any (j : Int) (depth : Int) 258 (over : Int) w.heap.size A s (keptL z len j) wr HW.out.2.1 (fun p hp => ⟨HPL1.out.2.1 p hp, mt_szj HK.out⟩) HPL1.out.2.2.1 HPL1.out.2.2.2).mono ?_
                rintro e w7 ⟨rfl, hf7, hb7⟩
                obtain ⟨hab, haz⟩ := find_two (byteL s) (keptL z len j) (j : Int) (depth : Int) 258 (over : Int) ((over : Int) + (more : Int)) (Int.natCast_nonneg over) HMAX.out.2.2.2
                obtain ⟨x, y, hxy⟩ : ∃ x y, findL (byteL s) (keptL z len j) (j : Int) (depth : Int) 258 (over : Int) = (x, y) := ⟨_, _, rfl⟩
                rw [hxy] at hab haz ⊢
                have HAB := Lib.hid hab
                have HAZ := Lib.hid haz
                clear hab haz hxy
                obtain ⟨B, hB⟩ : ∃ B, w7.heap.size = B := ⟨_, rfl⟩
                have h3 : (w7.alloc (.cells #[.int .i64 (x : Nat), .int .i64 (y : Nat)] 29)).heap[B]? = some (.cells #[.int .i64 (x : Nat), .int .i64 (y : Nat)] 29 (0, 0)) := by rw [← hB]; exact heap_alloc_last w7 _
                have hb3 : Below w7.heap.size w7 (w7.alloc (.cells #[.int .i64 (x : Nat), .int .i64 (y : Nat)] 29)) := (Below.refl _ w7).alloc (Nat.le_refl _) _
                have HF7 := Lib.hid (hf7.below hb3)
                have HB7 := Lib.hid ((HW.out.2.2.trans (hb7.mono HW.out.2.2.size)).trans (hb3.mono ((HW.out.2.2.trans (hb7.mono HW.out.2.2.size)).size)))
                have H3 := Lib.hid h3
                clear hf7 hb7 h3 hb3
                go_wp2_with fail
                refine (find_any (j : Int) (depth : Int) 258 ((over : Int) + (more : Int)) w.heap.size A s (keptL z len j) _ HF7.out (fun p hp => ⟨HPL1.out.2.1 p hp, mt_szj HK.out⟩) HPL1.out.2.2.1 HPL1.out.2.2.2).mono ?_
                rintro e w9 ⟨rfl, hf9, hb9⟩
                obtain ⟨x2, y2, hxy2⟩ : ∃ x y, findL (byteL s) (keptL z len j) (j : Int) (depth : Int) 258 ((over : Int) + (more : Int)) = (x, y) := ⟨_, _, rfl⟩
                rw [hxy2] at HAB ⊢
                clear hxy2
                have H9 := Lib.hid ((hb9.block B (Array.getElem?_eq_some_iff.1 H3.out).1).trans H3.out)
                have HB9 := Lib.hid (HB7.out.trans (hb9.mono HB7.out.size))
                clear hf9 hb9 hB
                obtain ⟨C, hC⟩ : ∃ C, w9.heap.size = C := ⟨_, rfl⟩
                have h4 : (w9.alloc (.cells #[.int .i64 (x2 : Nat), .int .i64 (y2 : Nat)] 29)).heap[C]? = some (.cells #[.int .i64 (x2 : Nat), .int .i64 (y2 : Nat)] 29 (0, 0)) := by rw [← hC]; exact heap_alloc_last w9 _
                have hb4 : Below w9.heap.size w9 (w9.alloc (.cells #[.int .i64 (x2 : Nat), .int .i64 (y2 : Nat)] 29)) := (Below.refl _ w9).alloc (Nat.le_refl _) _
                have h5 := (hb4.block B (Array.getElem?_eq_some_iff.1 H9.out).1).trans H9.out
                have HB10 := Lib.hid (HB9.out.trans (hb4.mono HB9.out.size))
                have H4 := Lib.hid h4
                have H5 := Lib.hid h5
                have E1 := Lib.hid (fun (a b : Int) => eq29 (w9.alloc (.cells #[.int .i64 (x2 : Nat), .int .i64 (y2 : Nat)] 29)) (x2 : Int) (y2 : Int) a b)
                clear h4 hb4 h5
                rcases HAB.out with hz2 | he2
                · obtain ⟨rfl, rfl⟩ : x2 = 0 ∧ y2 = 0 := by injection hz2 with h h'; exact ⟨h, h'⟩
                  have qe : (binOp .eql 29 (.agg #[.int .i64 0, .int .i64 0]) (.agg #[.int .i64 0, .int .i64 0])).run Try.prog (w9.alloc (.cells #[.int .i64 0, .int .i64 0] 29)) = .ok (.bool true) (w9.alloc (.cells #[.int .i64 0, .int .i64 0] 29)) := E1.out 0 0
                  clear hz2 E1
                  rcases HAZ.out with hz | hz
                  · obtain ⟨rfl, rfl⟩ : x = 0 ∧ y = 0 := by injection hz with h h'; exact ⟨h, h'⟩
                    clear hz
                    have q0 : (w9.alloc (.cells #[.int .i64 0, .int .i64 0] 29)).cell? ⟨B, 0, none⟩ = some (.int .i64 0) := cell_blk H5.out 0
                    have q1 : (w9.alloc (.cells #[.int .i64 0, .int .i64 0] 29)).cell? ⟨B, 1, none⟩ = some (.int .i64 0) := cell_blk H5.out 1
                    have q2 : (w9.alloc (.cells #[.int .i64 0, .int .i64 0] 29)).cell? ⟨C, 0, none⟩ = some (.int .i64 0) := cell_blk H4.out 0
                    have q3 : (w9.alloc (.cells #[.int .i64 0, .int .i64 0] 29)).cell? ⟨C, 1, none⟩ = some (.int .i64 0) := cell_blk H4.out 1
                    as_aux_lemma =>
                      go_wp2_with fail
                      refine (works_any _).mono ?_
                      rintro e w8 ⟨rfl, hb8⟩
                      have HB8 := Lib.hid (HB10.out.trans (hb8.mono HB10.out.size))
                      clear hb8
                      go_wp2_with fail
                      go_ret
                      exact ⟨rfl, HB8.out⟩
                  · obtain ⟨o1, o2, o3, o4⟩ := mt_ov hz
                    clear hz
                    have q0 : (w9.alloc (.cells #[.int .i64 0, .int .i64 0] 29)).cell? ⟨B, 0, none⟩ = some (.int .i64 (x : Nat)) := cell_blk H5.out 0
                    have q1 : (w9.alloc (.cells #[.int .i64 0, .int .i64 0] 29)).cell? ⟨B, 1, none⟩ = some (.int .i64 (y : Nat)) := cell_blk H5.out 1
                    have q2 : (w9.alloc (.cells #[.int .i64 0, .int .i64 0] 29)).cell? ⟨C, 0, none⟩ = some (.int .i64 0) := cell_blk H4.out 0
                    have q3 : (w9.alloc (.cells #[.int .i64 0, .int .i64 0] 29)).cell? ⟨C, 1, none⟩ = some (.int .i64 0) := cell_blk H4.out 1
                    as_aux_lemma =>
                      go_wp2_with fail
                      refine (works_any _).mono ?_
                      rintro e w8 ⟨rfl, hb8⟩
                      have HB8 := Lib.hid (HB10.out.trans (hb8.mono HB10.out.size))
                      clear hb8
                      go_wp2_with fail
                      go_ret
                      exact ⟨rfl, HB8.out⟩
                · by_cases hx0 : x = 0
                  · have hy0 : (x, y) = (0, 0) := by
                      rcases HAZ.out with h | h
                      · exact h
                      · subst hx0; exact (mt_no0 h).elim
                    obtain ⟨rfl, rfl⟩ : x = 0 ∧ y = 0 := by injection hy0 with h h'; exact ⟨h, h'⟩
                    obtain ⟨rfl, rfl⟩ : x2 = 0 ∧ y2 = 0 := by injection he2 with h h'; exact ⟨h, h'⟩
                    have qe : (binOp .eql 29 (.agg #[.int .i64 0, .int .i64 0]) (.agg #[.int .i64 0, .int .i64 0])).run Try.prog (w9.alloc (.cells #[.int .i64 0, .int .i64 0] 29)) = .ok (.bool true) (w9.alloc (.cells #[.int .i64 0, .int .i64 0] 29)) := E1.out 0 0
                    clear he2 E1 hx0 hy0
                    have q0 : (w9.alloc (.cells #[.int .i64 0, .int .i64 0] 29)).cell? ⟨B, 0, none⟩ = some (.int .i64 0) := cell_blk H5.out 0
                    have q1 : (w9.alloc (.cells #[.int .i64 0, .int .i64 0] 29)).cell? ⟨B, 1, none⟩ = some (.int .i64 0) := cell_blk H5.out 1
                    have q2 : (w9.alloc (.cells #[.int .i64 0, .int .i64 0] 29)).cell? ⟨C, 0, none⟩ = some (.int .i64 0) := cell_blk H4.out 0
                    have q3 : (w9.alloc (.cells #[.int .i64 0, .int .i64 0] 29)).cell? ⟨C, 1, none⟩ = some (.int .i64 0) := cell_blk H4.out 1
                    as_aux_lemma =>
                      go_wp2_with fail
                      refine (works_any _).mono ?_
                      rintro e w8 ⟨rfl, hb8⟩
                      have HB8 := Lib.hid (HB10.out.trans (hb8.mono HB10.out.size))
                      clear hb8
                      go_wp2_with fail
                      go_ret
                      exact ⟨rfl, HB8.out⟩
                  · obtain ⟨rfl, rfl⟩ : x2 = x ∧ y2 = y := by injection he2 with h h'; exact ⟨h, h'⟩
                    have hz : (over : Int) < (x2 : Int) := by
                      rcases HAZ.out with h | h
                      · injection h with h h'; exact absurd h hx0
                      · exact h
                    obtain ⟨o1, o2, o3, o4⟩ := mt_ov hz
                    have qe := E1.out 0 0
                    rw [(mt_dne hz).1] at qe
                    have qe2 := E1.out (x2 : Int) (y2 : Int)
                    rw [decide_eq_true (And.intro rfl rfl)] at qe2
                    have o5 : ¬ ((x2 : Int) = 0) := (mt_dne (y := y2) hz).2
                    clear he2 E1 hz
                    have q0 : (w9.alloc (.cells #[.int .i64 (x2 : Nat), .int .i64 (y2 : Nat)] 29)).cell? ⟨B, 0, none⟩ = some (.int .i64 (x2 : Nat)) := cell_blk H5.out 0
                    have q1 : (w9.alloc (.cells #[.int .i64 (x2 : Nat), .int .i64 (y2 : Nat)] 29)).cell? ⟨B, 1, none⟩ = some (.int .i64 (y2 : Nat)) := cell_blk H5.out 1
                    have q2 : (w9.alloc (.cells #[.int .i64 (x2 : Nat), .int .i64 (y2 : Nat)] 29)).cell? ⟨C, 0, none⟩ = some (.int .i64 (x2 : Nat)) := cell_blk H4.out 0
                    have q3 : (w9.alloc (.cells #[.int .i64 (x2 : Nat), .int .i64 (y2 : Nat)] 29)).cell? ⟨C, 1, none⟩ = some (.int .i64 (y2 : Nat)) := cell_blk H4.out 1
                    as_aux_lemma =>
                      go_wp2_with fail
                      refine (works_any _).mono ?_
                      rintro e w8 ⟨rfl, hb8⟩
                      have HB8 := Lib.hid (HB10.out.trans (hb8.mono HB10.out.size))
                      clear hb8
                      go_wp2_with fail
                      go_ret
                      exact ⟨rfl, HB8.out⟩
              | succ f =>
                have hic : i < cs.length := mt_nl HI.out
                obtain ⟨dk, dk2⟩ := mt_lt hic
                have n0 : (0 : Int) ≤ (i : Int) := Int.natCast_nonneg i
                have n9 : (i : Int) < (cs.length : Int) := Int.ofNat_lt.2 hic
                obtain ⟨q, hq⟩ : ∃ q, cs[i]? = some q := ⟨cs[i], List.getElem?_eq_getElem hic⟩
                obtain ⟨hqj, hqz, hqr⟩ := HORD.out i q hq
                obtain ⟨g, rfl, hg⟩ := HG.out.1 i q hq
                have e1 : wrap64 ((i : Int) + 1) = ((i + 1 : Nat) : Int) := mt_m1 hic HCL.out
                obtain ⟨z1, z2, z3, z4⟩ := mt_q hqj
                have nq : (0 : Int) ≤ (q : Int) := Int.natCast_nonneg q
                have hr : i = 0 ∨ ∃ i0 r, i0 + 1 = i ∧ cs[i0]? = some r ∧ q < r := by
                  cases i with
                  | zero => exact .inl rfl
                  | succ i0 => obtain ⟨r, h1, h2⟩ := hqr i0 rfl; exact .inr ⟨i0, r, rfl, h1, h2⟩
                have HIC := Lib.hid hic
                have HQ := Lib.hid hq
                have HQZ := Lib.hid hqz
                have hcell : wr.drew.cell? ⟨g, i, none⟩ = some (.int .i64 (q : Nat)) := (cell_heap (show wr.drew.heap = w6.heap from HW.out.1) _).trans hg
                have HCELL := Lib.hid hcell
                clear hic hq hqj hqz hqr hg hcell
                rcases hr with hi0 | ⟨i0, r, hi0, hr, hqr⟩
                · obtain ⟨p1, p2⟩ := mt_i0 hi0
                  clear hi0
                  by_cases hl : q < len
                  · obtain ⟨l1, l1'⟩ := mt_lt hl
                    have n7 : (q : Int) < (len : Int) := Int.ofNat_lt.2 hl
                    obtain ⟨x, rfl, hx⟩ := HSK6.out q hl
                    rw [HQZ.out hl] at hx
                    have HC2 := Lib.hid (show wr.drew.cell? (x.add q) = some (.bool false) from (cell_heap (show wr.drew.heap = w6.heap from HW.out.1) _).trans hx)
                    clear hl hx
                    by_cases hm : i < cm.length
                    · obtain ⟨m1, m1'⟩ := mt_lt hm
                      have n8 : (i : Int) < (cm.length : Int) := Int.ofNat_lt.2 hm
                      obtain ⟨gm, rfl, hgm⟩ := HG.out.2 i q (HPRE.out.2 i q hm HQ.out)
                      have HC3 := Lib.hid (show wr.drew.cell? ⟨gm, i, none⟩ = some (.int .i64 (q : Nat)) from (cell_heap (show wr.drew.heap = w6.heap from HW.out.1) _).trans hgm)
                      clear hm hgm
                      as_aux_lemma =>
                        go_wp2_with fail
                        have hHeld := (show wr.drew.cell? ⟨g, i, none⟩ = some (.int .i64 (q : Nat)) ∧ wr.drew.cell? (x.add q) = some (.bool false) ∧ wr.drew.cell? ⟨gm, i, none⟩ = some (.int .i64 (q : Nat)) from ⟨HCELL.out, HC2.out, HC3.out⟩)
                        refine wp_region_T (fun w' => w'.cell? ⟨g, i, none⟩ = some (.int .i64 (q : Nat)) ∧ w'.cell? (x.add q) = some (.bool false) ∧ w'.cell? ⟨gm, i, none⟩ = some (.int .i64 (q : Nat))) [.take 0, .take 1, .take 2, .take 3, .take 4, .take 5, .take 6, .take 7, .take 8, .take 9, .take 10, .take 11, .take 12, .take 13, .take 14, .take 15, .take 16, .take 17, .take 18, .take 19, .take 20, .take 21, .take 22, .take 23, .take 24, .take 25, .take 26, .take 27, .take 28, .take 29, .take 30, .take 31, .take 32, .take 33, .take 34, .take 35, .take 36, .take 37, .take 38, .take 39, .take 40, .take 41, .take 42, .take 43, .take 44, .take 45, .take 46, .take 47, .take 48, .take 49, .take 50, .take 51, .take 52, .take 53, .take 54, .take 55, .take 56, .take 57, .take 58, .take 59, .take 60, .take 61, .take 62, .take 63] (by kernel_rfl) (by kernel_rfl) (fun _ _ _ _ _ h => h) hHeld ?_
                        refine T_light (a' := ?_) 94 rfl rfl rfl (of_decide_eq_true rfl) rfl hHeld (fun wq hSq K Q hK => ?_) ?_
                        rotate_left
                        · (go_step; exact hK)
                        refine T_light (a' := ?_) 95 rfl rfl rfl (of_decide_eq_true rfl) rfl hHeld (fun wq hSq K Q hK => ?_) ?_
                        rotate_left
                        · (go_step; exact hK)
                        refine T_light (a' := ?_) 96 rfl rfl rfl (of_decide_eq_true rfl) rfl hHeld (fun wq hSq K Q hK => ?_) ?_
                        rotate_left
                        · (go_step; exact hK)
                        refine T_light (a' := ?_) 97 rfl rfl rfl (of_decide_eq_true rfl) rfl hHeld (fun wq hSq K Q hK => ?_) ?_
                        rotate_left
                        · ((have r1 := hSq.1; go_step); exact hK)
                        refine T_light (a' := ?_) 98 rfl rfl rfl (of_decide_eq_true rfl) rfl hHeld (fun wq hSq K Q hK => ?_) ?_
                        rotate_left
                        · (go_step; exact hK)
                        refine T_light (a' := ?_) 99 rfl rfl rfl (of_decide_eq_true rfl) rfl hHeld (fun wq hSq K Q hK => ?_) ?_
                        rotate_left
                        · (go_step; exact hK)
                        refine T_light (a' := ?_) 100 rfl rfl rfl (of_decide_eq_true rfl) rfl hHeld (fun wq hSq K Q hK => ?_) ?_
                        rotate_left
                        · (go_step; exact hK)
                        refine T_light (a' := ?_) 101 rfl rfl rfl (of_decide_eq_true rfl) rfl hHeld (fun wq hSq K Q hK => ?_) ?_
                        rotate_left
                        · (go_step; exact hK)
                        refine T_light (a' := ?_) 102 rfl rfl rfl (of_decide_eq_true rfl) rfl hHeld (fun wq hSq K Q hK => ?_) ?_
                        rotate_left
                        · (go_step; exact hK)
                        refine T_light (a' := ?_) 103 rfl rfl rfl (of_decide_eq_true rfl) rfl hHeld (fun wq hSq K Q hK => ?_) ?_
                        rotate_left
                        · ((have r1 := hSq.1; go_step); exact hK)
                        refine T_light (a' := ?_) 104 rfl rfl rfl (of_decide_eq_true rfl) rfl hHeld (fun wq hSq K Q hK => ?_) ?_
                        rotate_left
                        · (go_step; exact hK)
                        refine T_light (a' := ?_) 105 rfl rfl rfl (of_decide_eq_true rfl) rfl hHeld (fun wq hSq K Q hK => ?_) ?_
                        rotate_left
                        · (go_step; exact hK)
                        refine T_light (a' := ?_) 106 rfl rfl rfl (of_decide_eq_true rfl) rfl hHeld (fun wq hSq K Q hK => ?_) ?_
                        rotate_left
                        · (go_step; exact hK)
                        refine T_light (a' := ?_) 107 rfl rfl rfl (of_decide_eq_true rfl) rfl hHeld (fun wq hSq K Q hK => ?_) ?_
                        rotate_left
                        · (go_step; exact hK)
                        refine T_light (a' := ?_) 108 rfl rfl rfl (of_decide_eq_true rfl) rfl hHeld (fun wq hSq K Q hK => ?_) ?_
                        rotate_left
                        · (go_step; exact hK)
                        refine T_light (a' := ?_) 109 rfl rfl rfl (of_decide_eq_true rfl) rfl hHeld (fun wq hSq K Q hK => ?_) ?_
                        rotate_left
                        · (go_step; exact hK)
                        refine T_light (a' := ?_) 110 rfl rfl rfl (of_decide_eq_true rfl) rfl hHeld (fun wq hSq K Q hK => ?_) ?_
                        rotate_left
                        · (go_step; exact hK)
                        refine T_pass2 (a' := ?_) 111 rfl rfl (by kernel_rfl) (fun K hK => ?_) ?_
                        rotate_left
                        · (simp only [Act.put, List.setIfInBounds_toArray, List.set_cons_zero, List.set_cons_succ]; exact hK)
                        refine T_pass2 (a' := ?_) 112 rfl rfl (by kernel_rfl) (fun K hK => ?_) ?_
                        rotate_left
                        · (simp only [Act.put, List.setIfInBounds_toArray, List.set_cons_zero, List.set_cons_succ]; exact hK)
                        refine T_pass2 (a' := ?_) 113 rfl rfl (by kernel_rfl) (fun K hK => ?_) ?_
                        rotate_left
                        · (simp only [Act.put, List.setIfInBounds_toArray, List.set_cons_zero, List.set_cons_succ]; exact hK)
                        refine T_pass2 (a' := ?_) 114 rfl rfl (by kernel_rfl) (fun K hK => ?_) ?_
                        rotate_left
                        · (simp only [Act.put, List.setIfInBounds_toArray, List.set_cons_zero, List.set_cons_succ]; exact hK)
                        refine T_pass2 (a' := ?_) 115 rfl rfl (by kernel_rfl) (fun K hK => ?_) ?_
                        rotate_left
                        · (simp only [Act.put, List.setIfInBounds_toArray, List.set_cons_zero, List.set_cons_succ]; exact hK)
                        refine T_pass2 (a' := ?_) 116 rfl rfl (by kernel_rfl) (fun K hK => ?_) ?_
                        rotate_left
                        · (simp only [Act.put, List.setIfInBounds_toArray, List.set_cons_zero, List.set_cons_succ]; exact hK)
                        refine T_pass2 (a' := ?_) 117 rfl rfl (by kernel_rfl) (fun K hK => ?_) ?_
                        rotate_left
                        · (simp only [Act.put, List.setIfInBounds_toArray, List.set_cons_zero, List.set_cons_succ]; exact hK)
                        refine T_pass2 (a' := ?_) 118 rfl rfl (by kernel_rfl) (fun K hK => ?_) ?_
                        rotate_left
                        · (simp only [Act.put, List.setIfInBounds_toArray, List.set_cons_zero, List.set_cons_succ]; exact hK)
                        refine T_pass2 (a' := ?_) 119 rfl rfl (by kernel_rfl) (fun K hK => ?_) ?_
                        rotate_left
                        · (simp only [Act.put, List.setIfInBounds_toArray, List.set_cons_zero, List.set_cons_succ]; exact hK)
                        refine T_pass2 (a' := ?_) 120 rfl rfl (by kernel_rfl) (fun K hK => ?_) ?_
                        rotate_left
                        · (simp only [Act.put, List.setIfInBounds_toArray, List.set_cons_zero, List.set_cons_succ]; exact hK)
                        refine T_light (a' := ?_) 121 rfl rfl rfl (of_decide_eq_true rfl) rfl hHeld (fun wq hSq K Q hK => ?_) ?_
                        rotate_left
                        · (go_step; exact hK)
                        refine T_light (a' := ?_) 122 rfl rfl rfl (of_decide_eq_true rfl) rfl hHeld (fun wq hSq K Q hK => ?_) ?_
                        rotate_left
                        · (go_step; exact hK)
                        refine T_light (a' := ?_) 123 rfl rfl rfl (of_decide_eq_true rfl) rfl hHeld (fun wq hSq K Q hK => ?_) ?_
                        rotate_left
                        · (go_step; exact hK)
                        refine T_light (a' := ?_) 124 rfl rfl rfl (of_decide_eq_true rfl) rfl hHeld (fun wq hSq K Q hK => ?_) ?_
                        rotate_left
                        · (go_step; exact hK)
                        refine T_light (a' := ?_) 125 rfl rfl rfl (of_decide_eq_true rfl) rfl hHeld (fun wq hSq K Q hK => ?_) ?_
                        rotate_left
                        · (go_step; exact hK)
                        refine T_light (a' := ?_) 126 rfl rfl rfl (of_decide_eq_true rfl) rfl hHeld (fun wq hSq K Q hK => ?_) ?_
                        rotate_left
                        · (go_step; exact hK)
                        refine T_light (a' := ?_) 127 rfl rfl rfl (of_decide_eq_true rfl) rfl hHeld (fun wq hSq K Q hK => ?_) ?_
                        rotate_left
                        · ((have r1 := hSq.1; go_step); exact hK)
                        refine T_light (a' := ?_) 128 rfl rfl rfl (of_decide_eq_true rfl) rfl hHeld (fun wq hSq K Q hK => ?_) ?_
                        rotate_left
                        · (go_step; exact hK)
                        refine T_light (a' := ?_) 129 rfl rfl rfl (of_decide_eq_true rfl) rfl hHeld (fun wq hSq K Q hK => ?_) ?_
                        rotate_left
                        · (go_step; exact hK)
                        refine T_light (a' := ?_) 130 rfl rfl rfl (of_decide_eq_true rfl) rfl hHeld (fun wq hSq K Q hK => ?_) ?_
                        rotate_left
                        · (go_step; exact hK)
                        refine T_light (a' := ?_) 131 rfl rfl rfl (of_decide_eq_true rfl) rfl hHeld (fun wq hSq K Q hK => ?_) ?_
                        rotate_left
                        · (go_step; exact hK)
                        refine T_light (a' := ?_) 132 rfl rfl rfl (of_decide_eq_true rfl) rfl hHeld (fun wq hSq K Q hK => ?_) ?_
                        rotate_left
                        · (go_step; exact hK)
                        refine T_light (a' := ?_) 133 rfl rfl rfl (of_decide_eq_true rfl) rfl hHeld (fun wq hSq K Q hK => ?_) ?_
                        rotate_left
                        · (go_step; exact hK)
                        refine T_light (a' := ?_) 134 rfl rfl rfl (of_decide_eq_true rfl) rfl hHeld (fun wq hSq K Q hK => ?_) ?_
                        rotate_left
                        · (go_step; exact hK)
                        refine T_light (a' := ?_) 135 rfl rfl rfl (of_decide_eq_true rfl) rfl hHeld (fun wq hSq K Q hK => ?_) ?_
                        rotate_left
                        · (go_step; exact hK)
                        refine T_light (a' := ?_) 136 rfl rfl rfl (of_decide_eq_true rfl) rfl hHeld (fun wq hSq K Q hK => ?_) ?_
                        rotate_left
                        · ((have r1 := hSq.1; go_step); exact hK)
                        refine T_light (a' := ?_) 137 rfl rfl rfl (of_decide_eq_true rfl) rfl hHeld (fun wq hSq K Q hK => ?_) ?_
                        rotate_left
                        · (go_step; exact hK)
                        refine T_light (a' := ?_) 138 rfl rfl rfl (of_decide_eq_true rfl) rfl hHeld (fun wq hSq K Q hK => ?_) ?_
                        rotate_left
                        · ((have r1 := hSq.2.1; go_step); exact hK)
                        refine T_light (a' := ?_) 139 rfl rfl rfl (of_decide_eq_true rfl) rfl hHeld (fun wq hSq K Q hK => ?_) ?_
                        rotate_left
                        · (go_step; exact hK)
                        refine T_light (a' := ?_) 140 rfl rfl rfl (of_decide_eq_true rfl) rfl hHeld (fun wq hSq K Q hK => ?_) ?_
                        rotate_left
                        · (go_step; exact hK)
                        refine T_light (a' := ?_) 141 rfl rfl rfl (of_decide_eq_true rfl) rfl hHeld (fun wq hSq K Q hK => ?_) ?_
                        rotate_left
                        · (go_step; exact hK)
                        refine T_light (a' := ?_) 142 rfl rfl rfl (of_decide_eq_true rfl) rfl hHeld (fun wq hSq K Q hK => ?_) ?_
                        rotate_left
                        · (go_step; exact hK)
                        refine T_light (a' := ?_) 143 rfl rfl rfl (of_decide_eq_true rfl) rfl hHeld (fun wq hSq K Q hK => ?_) ?_
                        rotate_left
                        · (go_step; exact hK)
                        refine T_light (a' := ?_) 144 rfl rfl rfl (of_decide_eq_true rfl) rfl hHeld (fun wq hSq K Q hK => ?_) ?_
                        rotate_left
                        · (go_step; exact hK)
                        refine T_light (a' := ?_) 145 rfl rfl rfl (of_decide_eq_true rfl) rfl hHeld (fun wq hSq K Q hK => ?_) ?_
                        rotate_left
                        · (go_step; exact hK)
                        refine T_light (a' := ?_) 146 rfl rfl rfl (of_decide_eq_true rfl) rfl hHeld (fun wq hSq K Q hK => ?_) ?_
                        rotate_left
                        · (go_step; exact hK)
                        refine T_light (a' := ?_) 147 rfl rfl rfl (of_decide_eq_true rfl) rfl hHeld (fun wq hSq K Q hK => ?_) ?_
                        rotate_left
                        · (go_step; exact hK)
                        refine T_light (a' := ?_) 148 rfl rfl rfl (of_decide_eq_true rfl) rfl hHeld (fun wq hSq K Q hK => ?_) ?_
                        rotate_left
                        · (go_step; exact hK)
                        refine T_light (a' := ?_) 149 rfl rfl rfl (of_decide_eq_true rfl) rfl hHeld (fun wq hSq K Q hK => ?_) ?_
                        rotate_left
                        · (go_step; exact hK)
                        refine T_light (a' := ?_) 150 rfl rfl rfl (of_decide_eq_true rfl) rfl hHeld (fun wq hSq K Q hK => ?_) ?_
                        rotate_left
                        · ((have r1 := hSq.2.2; go_step); exact hK)
                        refine T_light (a' := ?_) 151 rfl rfl rfl (of_decide_eq_true rfl) rfl hHeld (fun wq hSq K Q hK => ?_) ?_
                        rotate_left
                        · (go_step; exact hK)
                        refine T_light (a' := ?_) 152 rfl rfl rfl (of_decide_eq_true rfl) rfl hHeld (fun wq hSq K Q hK => ?_) ?_
                        rotate_left
                        · (go_step; exact hK)
                        refine T_light (a' := ?_) 153 rfl rfl rfl (of_decide_eq_true rfl) rfl hHeld (fun wq hSq K Q hK => ?_) ?_
                        rotate_left
                        · (go_step; exact hK)
                        refine T_light (a' := ?_) 154 rfl rfl rfl (of_decide_eq_true rfl) rfl hHeld (fun wq hSq K Q hK => ?_) ?_
                        rotate_left
                        · ((have r1 := hSq.1; go_step); exact hK)
                        refine T_light (a' := ?_) 155 rfl rfl rfl (of_decide_eq_true rfl) rfl hHeld (fun wq hSq K Q hK => ?_) ?_
                        rotate_left
                        · (go_step; exact hK)
                        refine T_light (a' := ?_) 156 rfl rfl rfl (of_decide_eq_true rfl) rfl hHeld (fun wq hSq K Q hK => ?_) ?_
                        rotate_left
                        · (go_step; exact hK)
                        refine T_light (a' := ?_) 157 rfl rfl rfl (of_decide_eq_true rfl) rfl hHeld (fun wq hSq K Q hK => ?_) ?_
                        rotate_left
                        · (go_step; exact hK)
                        refine T_done ?_
                        clear hHeld
                        go_wp2_with fail
                        go_roundg f
                        case measure => exact Nat.lt_succ_self f
                        case rel => exact ⟨i + 1, by rw [e1], Lib.hid (mt_nx HI.out), Lib.hid ⟨HW.out.1, HW.out.2.1.drew, HW.out.2.2.drew⟩⟩
                    · obtain ⟨m1, m1'⟩ := mt_ge hm
                      clear hm
                      as_aux_lemma =>
                        go_wp2_with fail
                        have hHeld := (show wr.drew.cell? ⟨g, i, none⟩ = some (.int .i64 (q : Nat)) ∧ wr.drew.cell? (x.add q) = some (.bool false) from ⟨HCELL.out, HC2.out⟩)
                        refine wp_region_T (fun w' => w'.cell? ⟨g, i, none⟩ = some (.int .i64 (q : Nat)) ∧ w'.cell? (x.add q) = some (.bool false)) [.take 0, .take 1, .take 2, .take 3, .take 4, .take 5, .take 6, .take 7, .take 8, .take 9, .take 10, .take 11, .take 12, .take 13, .take 14, .take 15, .take 16, .take 17, .take 18, .take 19, .take 20, .take 21, .take 22, .take 23, .take 24, .take 25, .take 26, .take 27, .take 28, .take 29, .take 30, .take 31, .take 32, .take 33, .take 34, .take 35, .take 36, .take 37, .take 38, .take 39, .take 40, .take 41, .take 42, .take 43, .take 44, .take 45, .take 46, .take 47, .take 48, .take 49, .take 50, .take 51, .take 52, .take 53, .take 54, .take 55, .take 56, .take 57, .take 58, .take 59, .take 60, .take 61, .take 62, .take 63] (by kernel_rfl) (by kernel_rfl) (fun _ _ _ _ _ h => h) hHeld ?_
                        refine T_light (a' := ?_) 94 rfl rfl rfl (of_decide_eq_true rfl) rfl hHeld (fun wq hSq K Q hK => ?_) ?_
                        rotate_left
                        · (go_step; exact hK)
                        refine T_light (a' := ?_) 95 rfl rfl rfl (of_decide_eq_true rfl) rfl hHeld (fun wq hSq K Q hK => ?_) ?_
                        rotate_left
                        · (go_step; exact hK)
                        refine T_light (a' := ?_) 96 rfl rfl rfl (of_decide_eq_true rfl) rfl hHeld (fun wq hSq K Q hK => ?_) ?_
                        rotate_left
                        · (go_step; exact hK)
                        refine T_light (a' := ?_) 97 rfl rfl rfl (of_decide_eq_true rfl) rfl hHeld (fun wq hSq K Q hK => ?_) ?_
                        rotate_left
                        · ((have r1 := hSq.1; go_step); exact hK)
                        refine T_light (a' := ?_) 98 rfl rfl rfl (of_decide_eq_true rfl) rfl hHeld (fun wq hSq K Q hK => ?_) ?_
                        rotate_left
                        · (go_step; exact hK)
                        refine T_light (a' := ?_) 99 rfl rfl rfl (of_decide_eq_true rfl) rfl hHeld (fun wq hSq K Q hK => ?_) ?_
                        rotate_left
                        · (go_step; exact hK)
                        refine T_light (a' := ?_) 100 rfl rfl rfl (of_decide_eq_true rfl) rfl hHeld (fun wq hSq K Q hK => ?_) ?_
                        rotate_left
                        · (go_step; exact hK)
                        refine T_light (a' := ?_) 101 rfl rfl rfl (of_decide_eq_true rfl) rfl hHeld (fun wq hSq K Q hK => ?_) ?_
                        rotate_left
                        · (go_step; exact hK)
                        refine T_light (a' := ?_) 102 rfl rfl rfl (of_decide_eq_true rfl) rfl hHeld (fun wq hSq K Q hK => ?_) ?_
                        rotate_left
                        · (go_step; exact hK)
                        refine T_light (a' := ?_) 103 rfl rfl rfl (of_decide_eq_true rfl) rfl hHeld (fun wq hSq K Q hK => ?_) ?_
                        rotate_left
                        · ((have r1 := hSq.1; go_step); exact hK)
                        refine T_light (a' := ?_) 104 rfl rfl rfl (of_decide_eq_true rfl) rfl hHeld (fun wq hSq K Q hK => ?_) ?_
                        rotate_left
                        · (go_step; exact hK)
                        refine T_light (a' := ?_) 105 rfl rfl rfl (of_decide_eq_true rfl) rfl hHeld (fun wq hSq K Q hK => ?_) ?_
                        rotate_left
                        · (go_step; exact hK)
                        refine T_light (a' := ?_) 106 rfl rfl rfl (of_decide_eq_true rfl) rfl hHeld (fun wq hSq K Q hK => ?_) ?_
                        rotate_left
                        · (go_step; exact hK)
                        refine T_light (a' := ?_) 107 rfl rfl rfl (of_decide_eq_true rfl) rfl hHeld (fun wq hSq K Q hK => ?_) ?_
                        rotate_left
                        · (go_step; exact hK)
                        refine T_light (a' := ?_) 108 rfl rfl rfl (of_decide_eq_true rfl) rfl hHeld (fun wq hSq K Q hK => ?_) ?_
                        rotate_left
                        · (go_step; exact hK)
                        refine T_light (a' := ?_) 109 rfl rfl rfl (of_decide_eq_true rfl) rfl hHeld (fun wq hSq K Q hK => ?_) ?_
                        rotate_left
                        · (go_step; exact hK)
                        refine T_light (a' := ?_) 110 rfl rfl rfl (of_decide_eq_true rfl) rfl hHeld (fun wq hSq K Q hK => ?_) ?_
                        rotate_left
                        · (go_step; exact hK)
                        refine T_pass2 (a' := ?_) 111 rfl rfl (by kernel_rfl) (fun K hK => ?_) ?_
                        rotate_left
                        · (simp only [Act.put, List.setIfInBounds_toArray, List.set_cons_zero, List.set_cons_succ]; exact hK)
                        refine T_pass2 (a' := ?_) 112 rfl rfl (by kernel_rfl) (fun K hK => ?_) ?_
                        rotate_left
                        · (simp only [Act.put, List.setIfInBounds_toArray, List.set_cons_zero, List.set_cons_succ]; exact hK)
                        refine T_pass2 (a' := ?_) 113 rfl rfl (by kernel_rfl) (fun K hK => ?_) ?_
                        rotate_left
                        · (simp only [Act.put, List.setIfInBounds_toArray, List.set_cons_zero, List.set_cons_succ]; exact hK)
                        refine T_pass2 (a' := ?_) 114 rfl rfl (by kernel_rfl) (fun K hK => ?_) ?_
                        rotate_left
                        · (simp only [Act.put, List.setIfInBounds_toArray, List.set_cons_zero, List.set_cons_succ]; exact hK)
                        refine T_pass2 (a' := ?_) 115 rfl rfl (by kernel_rfl) (fun K hK => ?_) ?_
                        rotate_left
                        · (simp only [Act.put, List.setIfInBounds_toArray, List.set_cons_zero, List.set_cons_succ]; exact hK)
                        refine T_pass2 (a' := ?_) 116 rfl rfl (by kernel_rfl) (fun K hK => ?_) ?_
                        rotate_left
                        · (simp only [Act.put, List.setIfInBounds_toArray, List.set_cons_zero, List.set_cons_succ]; exact hK)
                        refine T_pass2 (a' := ?_) 117 rfl rfl (by kernel_rfl) (fun K hK => ?_) ?_
                        rotate_left
                        · (simp only [Act.put, List.setIfInBounds_toArray, List.set_cons_zero, List.set_cons_succ]; exact hK)
                        refine T_pass2 (a' := ?_) 118 rfl rfl (by kernel_rfl) (fun K hK => ?_) ?_
                        rotate_left
                        · (simp only [Act.put, List.setIfInBounds_toArray, List.set_cons_zero, List.set_cons_succ]; exact hK)
                        refine T_pass2 (a' := ?_) 119 rfl rfl (by kernel_rfl) (fun K hK => ?_) ?_
                        rotate_left
                        · (simp only [Act.put, List.setIfInBounds_toArray, List.set_cons_zero, List.set_cons_succ]; exact hK)
                        refine T_pass2 (a' := ?_) 120 rfl rfl (by kernel_rfl) (fun K hK => ?_) ?_
                        rotate_left
                        · (simp only [Act.put, List.setIfInBounds_toArray, List.set_cons_zero, List.set_cons_succ]; exact hK)
                        refine T_light (a' := ?_) 121 rfl rfl rfl (of_decide_eq_true rfl) rfl hHeld (fun wq hSq K Q hK => ?_) ?_
                        rotate_left
                        · (go_step; exact hK)
                        refine T_light (a' := ?_) 122 rfl rfl rfl (of_decide_eq_true rfl) rfl hHeld (fun wq hSq K Q hK => ?_) ?_
                        rotate_left
                        · (go_step; exact hK)
                        refine T_light (a' := ?_) 123 rfl rfl rfl (of_decide_eq_true rfl) rfl hHeld (fun wq hSq K Q hK => ?_) ?_
                        rotate_left
                        · (go_step; exact hK)
                        refine T_light (a' := ?_) 124 rfl rfl rfl (of_decide_eq_true rfl) rfl hHeld (fun wq hSq K Q hK => ?_) ?_
                        rotate_left
                        · (go_step; exact hK)
                        refine T_light (a' := ?_) 125 rfl rfl rfl (of_decide_eq_true rfl) rfl hHeld (fun wq hSq K Q hK => ?_) ?_
                        rotate_left
                        · (go_step; exact hK)
                        refine T_light (a' := ?_) 126 rfl rfl rfl (of_decide_eq_true rfl) rfl hHeld (fun wq hSq K Q hK => ?_) ?_
                        rotate_left
                        · (go_step; exact hK)
                        refine T_light (a' := ?_) 127 rfl rfl rfl (of_decide_eq_true rfl) rfl hHeld (fun wq hSq K Q hK => ?_) ?_
                        rotate_left
                        · ((have r1 := hSq.1; go_step); exact hK)
                        refine T_light (a' := ?_) 128 rfl rfl rfl (of_decide_eq_true rfl) rfl hHeld (fun wq hSq K Q hK => ?_) ?_
                        rotate_left
                        · (go_step; exact hK)
                        refine T_light (a' := ?_) 129 rfl rfl rfl (of_decide_eq_true rfl) rfl hHeld (fun wq hSq K Q hK => ?_) ?_
                        rotate_left
                        · (go_step; exact hK)
                        refine T_light (a' := ?_) 130 rfl rfl rfl (of_decide_eq_true rfl) rfl hHeld (fun wq hSq K Q hK => ?_) ?_
                        rotate_left
                        · (go_step; exact hK)
                        refine T_light (a' := ?_) 131 rfl rfl rfl (of_decide_eq_true rfl) rfl hHeld (fun wq hSq K Q hK => ?_) ?_
                        rotate_left
                        · (go_step; exact hK)
                        refine T_light (a' := ?_) 132 rfl rfl rfl (of_decide_eq_true rfl) rfl hHeld (fun wq hSq K Q hK => ?_) ?_
                        rotate_left
                        · (go_step; exact hK)
                        refine T_light (a' := ?_) 133 rfl rfl rfl (of_decide_eq_true rfl) rfl hHeld (fun wq hSq K Q hK => ?_) ?_
                        rotate_left
                        · (go_step; exact hK)
                        refine T_light (a' := ?_) 134 rfl rfl rfl (of_decide_eq_true rfl) rfl hHeld (fun wq hSq K Q hK => ?_) ?_
                        rotate_left
                        · (go_step; exact hK)
                        refine T_light (a' := ?_) 135 rfl rfl rfl (of_decide_eq_true rfl) rfl hHeld (fun wq hSq K Q hK => ?_) ?_
                        rotate_left
                        · (go_step; exact hK)
                        refine T_light (a' := ?_) 136 rfl rfl rfl (of_decide_eq_true rfl) rfl hHeld (fun wq hSq K Q hK => ?_) ?_
                        rotate_left
                        · ((have r1 := hSq.1; go_step); exact hK)
                        refine T_light (a' := ?_) 137 rfl rfl rfl (of_decide_eq_true rfl) rfl hHeld (fun wq hSq K Q hK => ?_) ?_
                        rotate_left
                        · (go_step; exact hK)
                        refine T_light (a' := ?_) 138 rfl rfl rfl (of_decide_eq_true rfl) rfl hHeld (fun wq hSq K Q hK => ?_) ?_
                        rotate_left
                        · ((have r1 := hSq.2; go_step); exact hK)
                        refine T_light (a' := ?_) 139 rfl rfl rfl (of_decide_eq_true rfl) rfl hHeld (fun wq hSq K Q hK => ?_) ?_
                        rotate_left
                        · (go_step; exact hK)
                        refine T_light (a' := ?_) 140 rfl rfl rfl (of_decide_eq_true rfl) rfl hHeld (fun wq hSq K Q hK => ?_) ?_
                        rotate_left
                        · (go_step; exact hK)
                        refine T_light (a' := ?_) 141 rfl rfl rfl (of_decide_eq_true rfl) rfl hHeld (fun wq hSq K Q hK => ?_) ?_
                        rotate_left
                        · (go_step; exact hK)
                        refine T_light (a' := ?_) 142 rfl rfl rfl (of_decide_eq_true rfl) rfl hHeld (fun wq hSq K Q hK => ?_) ?_
                        rotate_left
                        · (go_step; exact hK)
                        refine T_light (a' := ?_) 143 rfl rfl rfl (of_decide_eq_true rfl) rfl hHeld (fun wq hSq K Q hK => ?_) ?_
                        rotate_left
                        · (go_step; exact hK)
                        refine T_light (a' := ?_) 144 rfl rfl rfl (of_decide_eq_true rfl) rfl hHeld (fun wq hSq K Q hK => ?_) ?_
                        rotate_left
                        · (go_step; exact hK)
                        refine T_light (a' := ?_) 145 rfl rfl rfl (of_decide_eq_true rfl) rfl hHeld (fun wq hSq K Q hK => ?_) ?_
                        rotate_left
                        · (go_step; exact hK)
                        refine T_light (a' := ?_) 146 rfl rfl rfl (of_decide_eq_true rfl) rfl hHeld (fun wq hSq K Q hK => ?_) ?_
                        rotate_left
                        · (go_step; exact hK)
                        refine T_pass2 (a' := ?_) 147 rfl rfl (by kernel_rfl) (fun K hK => ?_) ?_
                        rotate_left
                        · (simp only [Act.put, List.setIfInBounds_toArray, List.set_cons_zero, List.set_cons_succ]; exact hK)
                        refine T_pass2 (a' := ?_) 148 rfl rfl (by kernel_rfl) (fun K hK => ?_) ?_
                        rotate_left
                        · (simp only [Act.put, List.setIfInBounds_toArray, List.set_cons_zero, List.set_cons_succ]; exact hK)
                        refine T_pass2 (a' := ?_) 149 rfl rfl (by kernel_rfl) (fun K hK => ?_) ?_
                        rotate_left
                        · (simp only [Act.put, List.setIfInBounds_toArray, List.set_cons_zero, List.set_cons_succ]; exact hK)
                        refine T_pass2 (a' := ?_) 150 rfl rfl (by kernel_rfl) (fun K hK => ?_) ?_
                        rotate_left
                        · (simp only [Act.put, List.setIfInBounds_toArray, List.set_cons_zero, List.set_cons_succ]; exact hK)
                        refine T_pass2 (a' := ?_) 151 rfl rfl (by kernel_rfl) (fun K hK => ?_) ?_
                        rotate_left
                        · (simp only [Act.put, List.setIfInBounds_toArray, List.set_cons_zero, List.set_cons_succ]; exact hK)
                        refine T_pass2 (a' := ?_) 152 rfl rfl (by kernel_rfl) (fun K hK => ?_) ?_
                        rotate_left
                        · (simp only [Act.put, List.setIfInBounds_toArray, List.set_cons_zero, List.set_cons_succ]; exact hK)
                        refine T_pass2 (a' := ?_) 153 rfl rfl (by kernel_rfl) (fun K hK => ?_) ?_
                        rotate_left
                        · (simp only [Act.put, List.setIfInBounds_toArray, List.set_cons_zero, List.set_cons_succ]; exact hK)
                        refine T_pass2 (a' := ?_) 154 rfl rfl (by kernel_rfl) (fun K hK => ?_) ?_
                        rotate_left
                        · (simp only [Act.put, List.setIfInBounds_toArray, List.set_cons_zero, List.set_cons_succ]; exact hK)
                        refine T_pass2 (a' := ?_) 155 rfl rfl (by kernel_rfl) (fun K hK => ?_) ?_
                        rotate_left
                        · (simp only [Act.put, List.setIfInBounds_toArray, List.set_cons_zero, List.set_cons_succ]; exact hK)
                        refine T_light (a' := ?_) 156 rfl rfl rfl (of_decide_eq_true rfl) rfl hHeld (fun wq hSq K Q hK => ?_) ?_
                        rotate_left
                        · (go_step; exact hK)
                        refine T_light (a' := ?_) 157 rfl rfl rfl (of_decide_eq_true rfl) rfl hHeld (fun wq hSq K Q hK => ?_) ?_
                        rotate_left
                        · (go_step; exact hK)
                        refine T_done ?_
                        clear hHeld
                        go_wp2_with fail
                        go_roundg f
                        case measure => exact Nat.lt_succ_self f
                        case rel => exact ⟨i + 1, by rw [e1], Lib.hid (mt_nx HI.out), Lib.hid ⟨HW.out.1, HW.out.2.1.drew, HW.out.2.2.drew⟩⟩
                  · obtain ⟨l1, l1'⟩ := mt_ge hl
                    clear hl
                    by_cases hm : i < cm.length
                    · obtain ⟨m1, m1'⟩ := mt_lt hm
                      have n8 : (i : Int) < (cm.length : Int) := Int.ofNat_lt.2 hm
                      obtain ⟨gm, rfl, hgm⟩ := HG.out.2 i q (HPRE.out.2 i q hm HQ.out)
                      have HC3 := Lib.hid (show wr.drew.cell? ⟨gm, i, none⟩ = some (.int .i64 (q : Nat)) from (cell_heap (show wr.drew.heap = w6.heap from HW.out.1) _).trans hgm)
                      clear hm hgm
                      as_aux_lemma =>
                        go_wp2_with fail
                        have hHeld := (show wr.drew.cell? ⟨g, i, none⟩ = some (.int .i64 (q : Nat)) ∧ wr.drew.cell? ⟨gm, i, none⟩ = some (.int .i64 (q : Nat)) from ⟨HCELL.out, HC3.out⟩)
                        refine wp_region_T (fun w' => w'.cell? ⟨g, i, none⟩ = some (.int .i64 (q : Nat)) ∧ w'.cell? ⟨gm, i, none⟩ = some (.int .i64 (q : Nat))) [.take 0, .take 1, .take 2, .take 3, .take 4, .take 5, .take 6, .take 7, .take 8, .take 9, .take 10, .take 11, .take 12, .take 13, .take 14, .take 15, .take 16, .take 17, .take 18, .take 19, .take 20, .take 21, .take 22, .take 23, .take 24, .take 25, .take 26, .take 27, .take 28, .take 29, .take 30, .take 31, .take 32, .take 33, .take 34, .take 35, .take 36, .take 37, .take 38, .take 39, .take 40, .take 41, .take 42, .take 43, .take 44, .take 45, .take 46, .take 47, .take 48, .take 49, .take 50, .take 51, .take 52, .take 53, .take 54, .take 55, .take 56, .take 57, .take 58, .take 59, .take 60, .take 61, .take 62, .take 63] (by kernel_rfl) (by kernel_rfl) (fun _ _ _ _ _ h => h) hHeld ?_
                        refine T_light (a' := ?_) 94 rfl rfl rfl (of_decide_eq_true rfl) rfl hHeld (fun wq hSq K Q hK => ?_) ?_
                        rotate_left
                        · (go_step; exact hK)
                        refine T_light (a' := ?_) 95 rfl rfl rfl (of_decide_eq_true rfl) rfl hHeld (fun wq hSq K Q hK => ?_) ?_
                        rotate_left
                        · (go_step; exact hK)
                        refine T_light (a' := ?_) 96 rfl rfl rfl (of_decide_eq_true rfl) rfl hHeld (fun wq hSq K Q hK => ?_) ?_
                        rotate_left
                        · (go_step; exact hK)
                        refine T_light (a' := ?_) 97 rfl rfl rfl (of_decide_eq_true rfl) rfl hHeld (fun wq hSq K Q hK => ?_) ?_
                        rotate_left
                        · ((have r1 := hSq.1; go_step); exact hK)
                        refine T_light (a' := ?_) 98 rfl rfl rfl (of_decide_eq_true rfl) rfl hHeld (fun wq hSq K Q hK => ?_) ?_
                        rotate_left
                        · (go_step; exact hK)
                        refine T_light (a' := ?_) 99 rfl rfl rfl (of_decide_eq_true rfl) rfl hHeld (fun wq hSq K Q hK => ?_) ?_
                        rotate_left
                        · (go_step; exact hK)
                        refine T_light (a' := ?_) 100 rfl rfl rfl (of_decide_eq_true rfl) rfl hHeld (fun wq hSq K Q hK => ?_) ?_
                        rotate_left
                        · (go_step; exact hK)
                        refine T_light (a' := ?_) 101 rfl rfl rfl (of_decide_eq_true rfl) rfl hHeld (fun wq hSq K Q hK => ?_) ?_
                        rotate_left
                        · (go_step; exact hK)
                        refine T_light (a' := ?_) 102 rfl rfl rfl (of_decide_eq_true rfl) rfl hHeld (fun wq hSq K Q hK => ?_) ?_
                        rotate_left
                        · (go_step; exact hK)
                        refine T_light (a' := ?_) 103 rfl rfl rfl (of_decide_eq_true rfl) rfl hHeld (fun wq hSq K Q hK => ?_) ?_
                        rotate_left
                        · ((have r1 := hSq.1; go_step); exact hK)
                        refine T_light (a' := ?_) 104 rfl rfl rfl (of_decide_eq_true rfl) rfl hHeld (fun wq hSq K Q hK => ?_) ?_
                        rotate_left
                        · (go_step; exact hK)
                        refine T_light (a' := ?_) 105 rfl rfl rfl (of_decide_eq_true rfl) rfl hHeld (fun wq hSq K Q hK => ?_) ?_
                        rotate_left
                        · (go_step; exact hK)
                        refine T_light (a' := ?_) 106 rfl rfl rfl (of_decide_eq_true rfl) rfl hHeld (fun wq hSq K Q hK => ?_) ?_
                        rotate_left
                        · (go_step; exact hK)
                        refine T_light (a' := ?_) 107 rfl rfl rfl (of_decide_eq_true rfl) rfl hHeld (fun wq hSq K Q hK => ?_) ?_
                        rotate_left
                        · (go_step; exact hK)
                        refine T_light (a' := ?_) 108 rfl rfl rfl (of_decide_eq_true rfl) rfl hHeld (fun wq hSq K Q hK => ?_) ?_
                        rotate_left
                        · (go_step; exact hK)
                        refine T_light (a' := ?_) 109 rfl rfl rfl (of_decide_eq_true rfl) rfl hHeld (fun wq hSq K Q hK => ?_) ?_
                        rotate_left
                        · (go_step; exact hK)
                        refine T_light (a' := ?_) 110 rfl rfl rfl (of_decide_eq_true rfl) rfl hHeld (fun wq hSq K Q hK => ?_) ?_
                        rotate_left
                        · (go_step; exact hK)
                        refine T_pass2 (a' := ?_) 111 rfl rfl (by kernel_rfl) (fun K hK => ?_) ?_
                        rotate_left
                        · (simp only [Act.put, List.setIfInBounds_toArray, List.set_cons_zero, List.set_cons_succ]; exact hK)
                        refine T_pass2 (a' := ?_) 112 rfl rfl (by kernel_rfl) (fun K hK => ?_) ?_
                        rotate_left
                        · (simp only [Act.put, List.setIfInBounds_toArray, List.set_cons_zero, List.set_cons_succ]; exact hK)
                        refine T_pass2 (a' := ?_) 113 rfl rfl (by kernel_rfl) (fun K hK => ?_) ?_
                        rotate_left
                        · (simp only [Act.put, List.setIfInBounds_toArray, List.set_cons_zero, List.set_cons_succ]; exact hK)
                        refine T_pass2 (a' := ?_) 114 rfl rfl (by kernel_rfl) (fun K hK => ?_) ?_
                        rotate_left
                        · (simp only [Act.put, List.setIfInBounds_toArray, List.set_cons_zero, List.set_cons_succ]; exact hK)
                        refine T_pass2 (a' := ?_) 115 rfl rfl (by kernel_rfl) (fun K hK => ?_) ?_
                        rotate_left
                        · (simp only [Act.put, List.setIfInBounds_toArray, List.set_cons_zero, List.set_cons_succ]; exact hK)
                        refine T_pass2 (a' := ?_) 116 rfl rfl (by kernel_rfl) (fun K hK => ?_) ?_
                        rotate_left
                        · (simp only [Act.put, List.setIfInBounds_toArray, List.set_cons_zero, List.set_cons_succ]; exact hK)
                        refine T_pass2 (a' := ?_) 117 rfl rfl (by kernel_rfl) (fun K hK => ?_) ?_
                        rotate_left
                        · (simp only [Act.put, List.setIfInBounds_toArray, List.set_cons_zero, List.set_cons_succ]; exact hK)
                        refine T_pass2 (a' := ?_) 118 rfl rfl (by kernel_rfl) (fun K hK => ?_) ?_
                        rotate_left
                        · (simp only [Act.put, List.setIfInBounds_toArray, List.set_cons_zero, List.set_cons_succ]; exact hK)
                        refine T_pass2 (a' := ?_) 119 rfl rfl (by kernel_rfl) (fun K hK => ?_) ?_
                        rotate_left
                        · (simp only [Act.put, List.setIfInBounds_toArray, List.set_cons_zero, List.set_cons_succ]; exact hK)
                        refine T_pass2 (a' := ?_) 120 rfl rfl (by kernel_rfl) (fun K hK => ?_) ?_
                        rotate_left
                        · (simp only [Act.put, List.setIfInBounds_toArray, List.set_cons_zero, List.set_cons_succ]; exact hK)
                        refine T_light (a' := ?_) 121 rfl rfl rfl (of_decide_eq_true rfl) rfl hHeld (fun wq hSq K Q hK => ?_) ?_
                        rotate_left
                        · (go_step; exact hK)
                        refine T_light (a' := ?_) 122 rfl rfl rfl (of_decide_eq_true rfl) rfl hHeld (fun wq hSq K Q hK => ?_) ?_
                        rotate_left
                        · (go_step; exact hK)
                        refine T_light (a' := ?_) 123 rfl rfl rfl (of_decide_eq_true rfl) rfl hHeld (fun wq hSq K Q hK => ?_) ?_
                        rotate_left
                        · (go_step; exact hK)
                        refine T_light (a' := ?_) 124 rfl rfl rfl (of_decide_eq_true rfl) rfl hHeld (fun wq hSq K Q hK => ?_) ?_
                        rotate_left
                        · (go_step; exact hK)
                        refine T_light (a' := ?_) 125 rfl rfl rfl (of_decide_eq_true rfl) rfl hHeld (fun wq hSq K Q hK => ?_) ?_
                        rotate_left
                        · (go_step; exact hK)
                        refine T_light (a' := ?_) 126 rfl rfl rfl (of_decide_eq_true rfl) rfl hHeld (fun wq hSq K Q hK => ?_) ?_
                        rotate_left
                        · (go_step; exact hK)
                        refine T_light (a' := ?_) 127 rfl rfl rfl (of_decide_eq_true rfl) rfl hHeld (fun wq hSq K Q hK => ?_) ?_
                        rotate_left
                        · ((have r1 := hSq.1; go_step); exact hK)
                        refine T_light (a' := ?_) 128 rfl rfl rfl (of_decide_eq_true rfl) rfl hHeld (fun wq hSq K Q hK => ?_) ?_
                        rotate_left
                        · (go_step; exact hK)
                        refine T_light (a' := ?_) 129 rfl rfl rfl (of_decide_eq_true rfl) rfl hHeld (fun wq hSq K Q hK => ?_) ?_
                        rotate_left
                        · (go_step; exact hK)
                        refine T_light (a' := ?_) 130 rfl rfl rfl (of_decide_eq_true rfl) rfl hHeld (fun wq hSq K Q hK => ?_) ?_
                        rotate_left
                        · (go_step; exact hK)
                        refine T_light (a' := ?_) 131 rfl rfl rfl (of_decide_eq_true rfl) rfl hHeld (fun wq hSq K Q hK => ?_) ?_
                        rotate_left
                        · (go_step; exact hK)
                        refine T_pass2 (a' := ?_) 132 rfl rfl (by kernel_rfl) (fun K hK => ?_) ?_
                        rotate_left
                        · (simp only [Act.put, List.setIfInBounds_toArray, List.set_cons_zero, List.set_cons_succ]; exact hK)
                        refine T_pass2 (a' := ?_) 133 rfl rfl (by kernel_rfl) (fun K hK => ?_) ?_
                        rotate_left
                        · (simp only [Act.put, List.setIfInBounds_toArray, List.set_cons_zero, List.set_cons_succ]; exact hK)
                        refine T_pass2 (a' := ?_) 134 rfl rfl (by kernel_rfl) (fun K hK => ?_) ?_
                        rotate_left
                        · (simp only [Act.put, List.setIfInBounds_toArray, List.set_cons_zero, List.set_cons_succ]; exact hK)
                        refine T_pass2 (a' := ?_) 135 rfl rfl (by kernel_rfl) (fun K hK => ?_) ?_
                        rotate_left
                        · (simp only [Act.put, List.setIfInBounds_toArray, List.set_cons_zero, List.set_cons_succ]; exact hK)
                        refine T_pass2 (a' := ?_) 136 rfl rfl (by kernel_rfl) (fun K hK => ?_) ?_
                        rotate_left
                        · (simp only [Act.put, List.setIfInBounds_toArray, List.set_cons_zero, List.set_cons_succ]; exact hK)
                        refine T_pass2 (a' := ?_) 137 rfl rfl (by kernel_rfl) (fun K hK => ?_) ?_
                        rotate_left
                        · (simp only [Act.put, List.setIfInBounds_toArray, List.set_cons_zero, List.set_cons_succ]; exact hK)
                        refine T_pass2 (a' := ?_) 138 rfl rfl (by kernel_rfl) (fun K hK => ?_) ?_
                        rotate_left
                        · (simp only [Act.put, List.setIfInBounds_toArray, List.set_cons_zero, List.set_cons_succ]; exact hK)
                        refine T_light (a' := ?_) 139 rfl rfl rfl (of_decide_eq_true rfl) rfl hHeld (fun wq hSq K Q hK => ?_) ?_
                        rotate_left
                        · (go_step; exact hK)
                        refine T_light (a' := ?_) 140 rfl rfl rfl (of_decide_eq_true rfl) rfl hHeld (fun wq hSq K Q hK => ?_) ?_
                        rotate_left
                        · (go_step; exact hK)
                        refine T_light (a' := ?_) 141 rfl rfl rfl (of_decide_eq_true rfl) rfl hHeld (fun wq hSq K Q hK => ?_) ?_
                        rotate_left
                        · (go_step; exact hK)
                        refine T_light (a' := ?_) 142 rfl rfl rfl (of_decide_eq_true rfl) rfl hHeld (fun wq hSq K Q hK => ?_) ?_
                        rotate_left
                        · (go_step; exact hK)
                        refine T_light (a' := ?_) 143 rfl rfl rfl (of_decide_eq_true rfl) rfl hHeld (fun wq hSq K Q hK => ?_) ?_
                        rotate_left
                        · (go_step; exact hK)
                        refine T_light (a' := ?_) 144 rfl rfl rfl (of_decide_eq_true rfl) rfl hHeld (fun wq hSq K Q hK => ?_) ?_
                        rotate_left
                        · (go_step; exact hK)
                        refine T_light (a' := ?_) 145 rfl rfl rfl (of_decide_eq_true rfl) rfl hHeld (fun wq hSq K Q hK => ?_) ?_
                        rotate_left
                        · (go_step; exact hK)
                        refine T_light (a' := ?_) 146 rfl rfl rfl (of_decide_eq_true rfl) rfl hHeld (fun wq hSq K Q hK => ?_) ?_
                        rotate_left
                        · (go_step; exact hK)
                        refine T_light (a' := ?_) 147 rfl rfl rfl (of_decide_eq_true rfl) rfl hHeld (fun wq hSq K Q hK => ?_) ?_
                        rotate_left
                        · (go_step; exact hK)
                        refine T_light (a' := ?_) 148 rfl rfl rfl (of_decide_eq_true rfl) rfl hHeld (fun wq hSq K Q hK => ?_) ?_
                        rotate_left
                        · (go_step; exact hK)
                        refine T_light (a' := ?_) 149 rfl rfl rfl (of_decide_eq_true rfl) rfl hHeld (fun wq hSq K Q hK => ?_) ?_
                        rotate_left
                        · (go_step; exact hK)
                        refine T_light (a' := ?_) 150 rfl rfl rfl (of_decide_eq_true rfl) rfl hHeld (fun wq hSq K Q hK => ?_) ?_
                        rotate_left
                        · ((have r1 := hSq.2; go_step); exact hK)
                        refine T_light (a' := ?_) 151 rfl rfl rfl (of_decide_eq_true rfl) rfl hHeld (fun wq hSq K Q hK => ?_) ?_
                        rotate_left
                        · (go_step; exact hK)
                        refine T_light (a' := ?_) 152 rfl rfl rfl (of_decide_eq_true rfl) rfl hHeld (fun wq hSq K Q hK => ?_) ?_
                        rotate_left
                        · (go_step; exact hK)
                        refine T_light (a' := ?_) 153 rfl rfl rfl (of_decide_eq_true rfl) rfl hHeld (fun wq hSq K Q hK => ?_) ?_
                        rotate_left
                        · (go_step; exact hK)
                        refine T_light (a' := ?_) 154 rfl rfl rfl (of_decide_eq_true rfl) rfl hHeld (fun wq hSq K Q hK => ?_) ?_
                        rotate_left
                        · ((have r1 := hSq.1; go_step); exact hK)
                        refine T_light (a' := ?_) 155 rfl rfl rfl (of_decide_eq_true rfl) rfl hHeld (fun wq hSq K Q hK => ?_) ?_
                        rotate_left
                        · (go_step; exact hK)
                        refine T_light (a' := ?_) 156 rfl rfl rfl (of_decide_eq_true rfl) rfl hHeld (fun wq hSq K Q hK => ?_) ?_
                        rotate_left
                        · (go_step; exact hK)
                        refine T_light (a' := ?_) 157 rfl rfl rfl (of_decide_eq_true rfl) rfl hHeld (fun wq hSq K Q hK => ?_) ?_
                        rotate_left
                        · (go_step; exact hK)
                        refine T_done ?_
                        clear hHeld
                        go_wp2_with fail
                        go_roundg f
                        case measure => exact Nat.lt_succ_self f
                        case rel => exact ⟨i + 1, by rw [e1], Lib.hid (mt_nx HI.out), Lib.hid ⟨HW.out.1, HW.out.2.1.drew, HW.out.2.2.drew⟩⟩
                    · obtain ⟨m1, m1'⟩ := mt_ge hm
                      clear hm
                      as_aux_lemma =>
                        go_wp2_with fail
                        have hHeld := (show wr.drew.cell? ⟨g, i, none⟩ = some (.int .i64 (q : Nat)) from HCELL.out)
                        refine wp_region_T (fun w' => w'.cell? ⟨g, i, none⟩ = some (.int .i64 (q : Nat))) [.take 0, .take 1, .take 2, .take 3, .take 4, .take 5, .take 6, .take 7, .take 8, .take 9, .take 10, .take 11, .take 12, .take 13, .take 14, .take 15, .take 16, .take 17, .take 18, .take 19, .take 20, .take 21, .take 22, .take 23, .take 24, .take 25, .take 26, .take 27, .take 28, .take 29, .take 30, .take 31, .take 32, .take 33, .take 34, .take 35, .take 36, .take 37, .take 38, .take 39, .take 40, .take 41, .take 42, .take 43, .take 44, .take 45, .take 46, .take 47, .take 48, .take 49, .take 50, .take 51, .take 52, .take 53, .take 54, .take 55, .take 56, .take 57, .take 58, .take 59, .take 60, .take 61, .take 62, .take 63] (by kernel_rfl) (by kernel_rfl) (fun _ _ _ _ _ h => h) hHeld ?_
                        refine T_light (a' := ?_) 94 rfl rfl rfl (of_decide_eq_true rfl) rfl hHeld (fun wq hSq K Q hK => ?_) ?_
                        rotate_left
                        · (go_step; exact hK)
                        refine T_light (a' := ?_) 95 rfl rfl rfl (of_decide_eq_true rfl) rfl hHeld (fun wq hSq K Q hK => ?_) ?_
                        rotate_left
                        · (go_step; exact hK)
                        refine T_light (a' := ?_) 96 rfl rfl rfl (of_decide_eq_true rfl) rfl hHeld (fun wq hSq K Q hK => ?_) ?_
                        rotate_left
                        · (go_step; exact hK)
                        refine T_light (a' := ?_) 97 rfl rfl rfl (of_decide_eq_true rfl) rfl hHeld (fun wq hSq K Q hK => ?_) ?_
                        rotate_left
                        · ((have r1 := hSq; go_step); exact hK)
                        refine T_light (a' := ?_) 98 rfl rfl rfl (of_decide_eq_true rfl) rfl hHeld (fun wq hSq K Q hK => ?_) ?_
                        rotate_left
                        · (go_step; exact hK)
                        refine T_light (a' := ?_) 99 rfl rfl rfl (of_decide_eq_true rfl) rfl hHeld (fun wq hSq K Q hK => ?_) ?_
                        rotate_left
                        · (go_step; exact hK)
                        refine T_light (a' := ?_) 100 rfl rfl rfl (of_decide_eq_true rfl) rfl hHeld (fun wq hSq K Q hK => ?_) ?_
                        rotate_left
                        · (go_step; exact hK)
                        refine T_light (a' := ?_) 101 rfl rfl rfl (of_decide_eq_true rfl) rfl hHeld (fun wq hSq K Q hK => ?_) ?_
                        rotate_left
                        · (go_step; exact hK)
                        refine T_light (a' := ?_) 102 rfl rfl rfl (of_decide_eq_true rfl) rfl hHeld (fun wq hSq K Q hK => ?_) ?_
                        rotate_left
                        · (go_step; exact hK)
                        refine T_light (a' := ?_) 103 rfl rfl rfl (of_decide_eq_true rfl) rfl hHeld (fun wq hSq K Q hK => ?_) ?_
                        rotate_left
                        · ((have r1 := hSq; go_step); exact hK)
                        refine T_light (a' := ?_) 104 rfl rfl rfl (of_decide_eq_true rfl) rfl hHeld (fun wq hSq K Q hK => ?_) ?_
                        rotate_left
                        · (go_step; exact hK)
                        refine T_light (a' := ?_) 105 rfl rfl rfl (of_decide_eq_true rfl) rfl hHeld (fun wq hSq K Q hK => ?_) ?_
                        rotate_left
                        · (go_step; exact hK)
                        refine T_light (a' := ?_) 106 rfl rfl rfl (of_decide_eq_true rfl) rfl hHeld (fun wq hSq K Q hK => ?_) ?_
                        rotate_left
                        · (go_step; exact hK)
                        refine T_light (a' := ?_) 107 rfl rfl rfl (of_decide_eq_true rfl) rfl hHeld (fun wq hSq K Q hK => ?_) ?_
                        rotate_left
                        · (go_step; exact hK)
                        refine T_light (a' := ?_) 108 rfl rfl rfl (of_decide_eq_true rfl) rfl hHeld (fun wq hSq K Q hK => ?_) ?_
                        rotate_left
                        · (go_step; exact hK)
                        refine T_light (a' := ?_) 109 rfl rfl rfl (of_decide_eq_true rfl) rfl hHeld (fun wq hSq K Q hK => ?_) ?_
                        rotate_left
                        · (go_step; exact hK)
                        refine T_light (a' := ?_) 110 rfl rfl rfl (of_decide_eq_true rfl) rfl hHeld (fun wq hSq K Q hK => ?_) ?_
                        rotate_left
                        · (go_step; exact hK)
                        refine T_pass2 (a' := ?_) 111 rfl rfl (by kernel_rfl) (fun K hK => ?_) ?_
                        rotate_left
                        · (simp only [Act.put, List.setIfInBounds_toArray, List.set_cons_zero, List.set_cons_succ]; exact hK)
                        refine T_pass2 (a' := ?_) 112 rfl rfl (by kernel_rfl) (fun K hK => ?_) ?_
                        rotate_left
                        · (simp only [Act.put, List.setIfInBounds_toArray, List.set_cons_zero, List.set_cons_succ]; exact hK)
                        refine T_pass2 (a' := ?_) 113 rfl rfl (by kernel_rfl) (fun K hK => ?_) ?_
                        rotate_left
                        · (simp only [Act.put, List.setIfInBounds_toArray, List.set_cons_zero, List.set_cons_succ]; exact hK)
                        refine T_pass2 (a' := ?_) 114 rfl rfl (by kernel_rfl) (fun K hK => ?_) ?_
                        rotate_left
                        · (simp only [Act.put, List.setIfInBounds_toArray, List.set_cons_zero, List.set_cons_succ]; exact hK)
                        refine T_pass2 (a' := ?_) 115 rfl rfl (by kernel_rfl) (fun K hK => ?_) ?_
                        rotate_left
                        · (simp only [Act.put, List.setIfInBounds_toArray, List.set_cons_zero, List.set_cons_succ]; exact hK)
                        refine T_pass2 (a' := ?_) 116 rfl rfl (by kernel_rfl) (fun K hK => ?_) ?_
                        rotate_left
                        · (simp only [Act.put, List.setIfInBounds_toArray, List.set_cons_zero, List.set_cons_succ]; exact hK)
                        refine T_pass2 (a' := ?_) 117 rfl rfl (by kernel_rfl) (fun K hK => ?_) ?_
                        rotate_left
                        · (simp only [Act.put, List.setIfInBounds_toArray, List.set_cons_zero, List.set_cons_succ]; exact hK)
                        refine T_pass2 (a' := ?_) 118 rfl rfl (by kernel_rfl) (fun K hK => ?_) ?_
                        rotate_left
                        · (simp only [Act.put, List.setIfInBounds_toArray, List.set_cons_zero, List.set_cons_succ]; exact hK)
                        refine T_pass2 (a' := ?_) 119 rfl rfl (by kernel_rfl) (fun K hK => ?_) ?_
                        rotate_left
                        · (simp only [Act.put, List.setIfInBounds_toArray, List.set_cons_zero, List.set_cons_succ]; exact hK)
                        refine T_pass2 (a' := ?_) 120 rfl rfl (by kernel_rfl) (fun K hK => ?_) ?_
                        rotate_left
                        · (simp only [Act.put, List.setIfInBounds_toArray, List.set_cons_zero, List.set_cons_succ]; exact hK)
                        refine T_light (a' := ?_) 121 rfl rfl rfl (of_decide_eq_true rfl) rfl hHeld (fun wq hSq K Q hK => ?_) ?_
                        rotate_left
                        · (go_step; exact hK)
                        refine T_light (a' := ?_) 122 rfl rfl rfl (of_decide_eq_true rfl) rfl hHeld (fun wq hSq K Q hK => ?_) ?_
                        rotate_left
                        · (go_step; exact hK)
                        refine T_light (a' := ?_) 123 rfl rfl rfl (of_decide_eq_true rfl) rfl hHeld (fun wq hSq K Q hK => ?_) ?_
                        rotate_left
                        · (go_step; exact hK)
                        refine T_light (a' := ?_) 124 rfl rfl rfl (of_decide_eq_true rfl) rfl hHeld (fun wq hSq K Q hK => ?_) ?_
                        rotate_left
                        · (go_step; exact hK)
                        refine T_light (a' := ?_) 125 rfl rfl rfl (of_decide_eq_true rfl) rfl hHeld (fun wq hSq K Q hK => ?_) ?_
                        rotate_left
                        · (go_step; exact hK)
                        refine T_light (a' := ?_) 126 rfl rfl rfl (of_decide_eq_true rfl) rfl hHeld (fun wq hSq K Q hK => ?_) ?_
                        rotate_left
                        · (go_step; exact hK)
                        refine T_light (a' := ?_) 127 rfl rfl rfl (of_decide_eq_true rfl) rfl hHeld (fun wq hSq K Q hK => ?_) ?_
                        rotate_left
                        · ((have r1 := hSq; go_step); exact hK)
                        refine T_light (a' := ?_) 128 rfl rfl rfl (of_decide_eq_true rfl) rfl hHeld (fun wq hSq K Q hK => ?_) ?_
                        rotate_left
                        · (go_step; exact hK)
                        refine T_light (a' := ?_) 129 rfl rfl rfl (of_decide_eq_true rfl) rfl hHeld (fun wq hSq K Q hK => ?_) ?_
                        rotate_left
                        · (go_step; exact hK)
                        refine T_light (a' := ?_) 130 rfl rfl rfl (of_decide_eq_true rfl) rfl hHeld (fun wq hSq K Q hK => ?_) ?_
                        rotate_left
                        · (go_step; exact hK)
                        refine T_light (a' := ?_) 131 rfl rfl rfl (of_decide_eq_true rfl) rfl hHeld (fun wq hSq K Q hK => ?_) ?_
                        rotate_left
                        · (go_step; exact hK)
                        refine T_pass2 (a' := ?_) 132 rfl rfl (by kernel_rfl) (fun K hK => ?_) ?_
                        rotate_left
                        · (simp only [Act.put, List.setIfInBounds_toArray, List.set_cons_zero, List.set_cons_succ]; exact hK)
                        refine T_pass2 (a' := ?_) 133 rfl rfl (by kernel_rfl) (fun K hK => ?_) ?_
                        rotate_left
                        · (simp only [Act.put, List.setIfInBounds_toArray, List.set_cons_zero, List.set_cons_succ]; exact hK)
                        refine T_pass2 (a' := ?_) 134 rfl rfl (by kernel_rfl) (fun K hK => ?_) ?_
                        rotate_left
                        · (simp only [Act.put, List.setIfInBounds_toArray, List.set_cons_zero, List.set_cons_succ]; exact hK)
                        refine T_pass2 (a' := ?_) 135 rfl rfl (by kernel_rfl) (fun K hK => ?_) ?_
                        rotate_left
                        · (simp only [Act.put, List.setIfInBounds_toArray, List.set_cons_zero, List.set_cons_succ]; exact hK)
                        refine T_pass2 (a' := ?_) 136 rfl rfl (by kernel_rfl) (fun K hK => ?_) ?_
                        rotate_left
                        · (simp only [Act.put, List.setIfInBounds_toArray, List.set_cons_zero, List.set_cons_succ]; exact hK)
                        refine T_pass2 (a' := ?_) 137 rfl rfl (by kernel_rfl) (fun K hK => ?_) ?_
                        rotate_left
                        · (simp only [Act.put, List.setIfInBounds_toArray, List.set_cons_zero, List.set_cons_succ]; exact hK)
                        refine T_pass2 (a' := ?_) 138 rfl rfl (by kernel_rfl) (fun K hK => ?_) ?_
                        rotate_left
                        · (simp only [Act.put, List.setIfInBounds_toArray, List.set_cons_zero, List.set_cons_succ]; exact hK)
                        refine T_light (a' := ?_) 139 rfl rfl rfl (of_decide_eq_true rfl) rfl hHeld (fun wq hSq K Q hK => ?_) ?_
                        rotate_left
                        · (go_step; exact hK)
                        refine T_light (a' := ?_) 140 rfl rfl rfl (of_decide_eq_true rfl) rfl hHeld (fun wq hSq K Q hK => ?_) ?_
                        rotate_left
                        · (go_step; exact hK)
                        refine T_light (a' := ?_) 141 rfl rfl rfl (of_decide_eq_true rfl) rfl hHeld (fun wq hSq K Q hK => ?_) ?_
                        rotate_left
                        · (go_step; exact hK)
                        refine T_light (a' := ?_) 142 rfl rfl rfl (of_decide_eq_true rfl) rfl hHeld (fun wq hSq K Q hK => ?_) ?_
                        rotate_left
                        · (go_step; exact hK)
                        refine T_light (a' := ?_) 143 rfl rfl rfl (of_decide_eq_true rfl) rfl hHeld (fun wq hSq K Q hK => ?_) ?_
                        rotate_left
                        · (go_step; exact hK)
                        refine T_light (a' := ?_) 144 rfl rfl rfl (of_decide_eq_true rfl) rfl hHeld (fun wq hSq K Q hK => ?_) ?_
                        rotate_left
                        · (go_step; exact hK)
                        refine T_light (a' := ?_) 145 rfl rfl rfl (of_decide_eq_true rfl) rfl hHeld (fun wq hSq K Q hK => ?_) ?_
                        rotate_left
                        · (go_step; exact hK)
                        refine T_light (a' := ?_) 146 rfl rfl rfl (of_decide_eq_true rfl) rfl hHeld (fun wq hSq K Q hK => ?_) ?_
                        rotate_left
                        · (go_step; exact hK)
                        refine T_pass2 (a' := ?_) 147 rfl rfl (by kernel_rfl) (fun K hK => ?_) ?_
                        rotate_left
                        · (simp only [Act.put, List.setIfInBounds_toArray, List.set_cons_zero, List.set_cons_succ]; exact hK)
                        refine T_pass2 (a' := ?_) 148 rfl rfl (by kernel_rfl) (fun K hK => ?_) ?_
                        rotate_left
                        · (simp only [Act.put, List.setIfInBounds_toArray, List.set_cons_zero, List.set_cons_succ]; exact hK)
                        refine T_pass2 (a' := ?_) 149 rfl rfl (by kernel_rfl) (fun K hK => ?_) ?_
                        rotate_left
                        · (simp only [Act.put, List.setIfInBounds_toArray, List.set_cons_zero, List.set_cons_succ]; exact hK)
                        refine T_pass2 (a' := ?_) 150 rfl rfl (by kernel_rfl) (fun K hK => ?_) ?_
                        rotate_left
                        · (simp only [Act.put, List.setIfInBounds_toArray, List.set_cons_zero, List.set_cons_succ]; exact hK)
                        refine T_pass2 (a' := ?_) 151 rfl rfl (by kernel_rfl) (fun K hK => ?_) ?_
                        rotate_left
                        · (simp only [Act.put, List.setIfInBounds_toArray, List.set_cons_zero, List.set_cons_succ]; exact hK)
                        refine T_pass2 (a' := ?_) 152 rfl rfl (by kernel_rfl) (fun K hK => ?_) ?_
                        rotate_left
                        · (simp only [Act.put, List.setIfInBounds_toArray, List.set_cons_zero, List.set_cons_succ]; exact hK)
                        refine T_pass2 (a' := ?_) 153 rfl rfl (by kernel_rfl) (fun K hK => ?_) ?_
                        rotate_left
                        · (simp only [Act.put, List.setIfInBounds_toArray, List.set_cons_zero, List.set_cons_succ]; exact hK)
                        refine T_pass2 (a' := ?_) 154 rfl rfl (by kernel_rfl) (fun K hK => ?_) ?_
                        rotate_left
                        · (simp only [Act.put, List.setIfInBounds_toArray, List.set_cons_zero, List.set_cons_succ]; exact hK)
                        refine T_pass2 (a' := ?_) 155 rfl rfl (by kernel_rfl) (fun K hK => ?_) ?_
                        rotate_left
                        · (simp only [Act.put, List.setIfInBounds_toArray, List.set_cons_zero, List.set_cons_succ]; exact hK)
                        refine T_light (a' := ?_) 156 rfl rfl rfl (of_decide_eq_true rfl) rfl hHeld (fun wq hSq K Q hK => ?_) ?_
                        rotate_left
                        · (go_step; exact hK)
                        refine T_light (a' := ?_) 157 rfl rfl rfl (of_decide_eq_true rfl) rfl hHeld (fun wq hSq K Q hK => ?_) ?_
                        rotate_left
                        · (go_step; exact hK)
                        refine T_done ?_
                        clear hHeld
                        go_wp2_with fail
                        go_roundg f
                        case measure => exact Nat.lt_succ_self f
                        case rel => exact ⟨i + 1, by rw [e1], Lib.hid (mt_nx HI.out), Lib.hid ⟨HW.out.1, HW.out.2.1.drew, HW.out.2.2.drew⟩⟩
                · obtain ⟨p1, p2⟩ := mt_pos (mt_ip hi0)
                  obtain ⟨p3, p4⟩ := mt_prev hi0 (Nat.le_trans (Nat.le_of_lt HIC.out) HCL.out)
                  have p5 : (i0 : Int) < (cs.length : Int) := mt_p5 hi0 HIC.out
                  obtain ⟨p6, p7⟩ := mt_gq hqr
                  obtain ⟨g', hgg, hg1⟩ := HG.out.1 i0 r hr
                  obtain rfl : g = g' := by injection hgg with h; injection h
                  have HC1 := Lib.hid (show wr.drew.cell? ⟨g, i0, none⟩ = some (.int .i64 (r : Nat)) from (cell_heap (show wr.drew.heap = w6.heap from HW.out.1) _).trans hg1)
                  clear hi0 hr hqr hgg hg1
                  by_cases hl : q < len
                  · obtain ⟨l1, l1'⟩ := mt_lt hl
                    have n7 : (q : Int) < (len : Int) := Int.ofNat_lt.2 hl
                    obtain ⟨x, rfl, hx⟩ := HSK6.out q hl
                    rw [HQZ.out hl] at hx
                    have HC2 := Lib.hid (show wr.drew.cell? (x.add q) = some (.bool false) from (cell_heap (show wr.drew.heap = w6.heap from HW.out.1) _).trans hx)
                    clear hl hx
                    by_cases hm : i < cm.length
                    · obtain ⟨m1, m1'⟩ := mt_lt hm
                      have n8 : (i : Int) < (cm.length : Int) := Int.ofNat_lt.2 hm
                      obtain ⟨gm, rfl, hgm⟩ := HG.out.2 i q (HPRE.out.2 i q hm HQ.out)
                      have HC3 := Lib.hid (show wr.drew.cell? ⟨gm, i, none⟩ = some (.int .i64 (q : Nat)) from (cell_heap (show wr.drew.heap = w6.heap from HW.out.1) _).trans hgm)
                      clear hm hgm
                      as_aux_lemma =>
                        go_wp2_with fail
                        have hHeld := (show wr.drew.cell? ⟨g, i, none⟩ = some (.int .i64 (q : Nat)) ∧ wr.drew.cell? ⟨g, i0, none⟩ = some (.int .i64 (r : Nat)) ∧ wr.drew.cell? (x.add q) = some (.bool false) ∧ wr.drew.cell? ⟨gm, i, none⟩ = some (.int .i64 (q : Nat)) from ⟨HCELL.out, HC1.out, HC2.out, HC3.out⟩)
                        refine wp_region_T (fun w' => w'.cell? ⟨g, i, none⟩ = some (.int .i64 (q : Nat)) ∧ w'.cell? ⟨g, i0, none⟩ = some (.int .i64 (r : Nat)) ∧ w'.cell? (x.add q) = some (.bool false) ∧ w'.cell? ⟨gm, i, none⟩ = some (.int .i64 (q : Nat))) [.take 0, .take 1, .take 2, .take 3, .take 4, .take 5, .take 6, .take 7, .take 8, .take 9, .take 10, .take 11, .take 12, .take 13, .take 14, .take 15, .take 16, .take 17, .take 18, .take 19, .take 20, .take 21, .take 22, .take 23, .take 24, .take 25, .take 26, .take 27, .take 28, .take 29, .take 30, .take 31, .take 32, .take 33, .take 34, .take 35, .take 36, .take 37, .take 38, .take 39, .take 40, .take 41, .take 42, .take 43, .take 44, .take 45, .take 46, .take 47, .take 48, .take 49, .take 50, .take 51, .take 52, .take 53, .take 54, .take 55, .take 56, .take 57, .take 58, .take 59, .take 60, .take 61, .take 62, .take 63] (by kernel_rfl) (by kernel_rfl) (fun _ _ _ _ _ h => h) hHeld ?_
                        refine T_light (a' := ?_) 94 rfl rfl rfl (of_decide_eq_true rfl) rfl hHeld (fun wq hSq K Q hK => ?_) ?_
                        rotate_left
                        · (go_step; exact hK)
                        refine T_light (a' := ?_) 95 rfl rfl rfl (of_decide_eq_true rfl) rfl hHeld (fun wq hSq K Q hK => ?_) ?_
                        rotate_left
                        · (go_step; exact hK)
                        refine T_light (a' := ?_) 96 rfl rfl rfl (of_decide_eq_true rfl) rfl hHeld (fun wq hSq K Q hK => ?_) ?_
                        rotate_left
                        · (go_step; exact hK)
                        refine T_light (a' := ?_) 97 rfl rfl rfl (of_decide_eq_true rfl) rfl hHeld (fun wq hSq K Q hK => ?_) ?_
                        rotate_left
                        · ((have r1 := hSq.1; go_step); exact hK)
                        refine T_light (a' := ?_) 98 rfl rfl rfl (of_decide_eq_true rfl) rfl hHeld (fun wq hSq K Q hK => ?_) ?_
                        rotate_left
                        · (go_step; exact hK)
                        refine T_light (a' := ?_) 99 rfl rfl rfl (of_decide_eq_true rfl) rfl hHeld (fun wq hSq K Q hK => ?_) ?_
                        rotate_left
                        · (go_step; exact hK)
                        refine T_light (a' := ?_) 100 rfl rfl rfl (of_decide_eq_true rfl) rfl hHeld (fun wq hSq K Q hK => ?_) ?_
                        rotate_left
                        · (go_step; exact hK)
                        refine T_light (a' := ?_) 101 rfl rfl rfl (of_decide_eq_true rfl) rfl hHeld (fun wq hSq K Q hK => ?_) ?_
                        rotate_left
                        · (go_step; exact hK)
                        refine T_light (a' := ?_) 102 rfl rfl rfl (of_decide_eq_true rfl) rfl hHeld (fun wq hSq K Q hK => ?_) ?_
                        rotate_left
                        · (go_step; exact hK)
                        refine T_light (a' := ?_) 103 rfl rfl rfl (of_decide_eq_true rfl) rfl hHeld (fun wq hSq K Q hK => ?_) ?_
                        rotate_left
                        · ((have r1 := hSq.1; go_step); exact hK)
                        refine T_light (a' := ?_) 104 rfl rfl rfl (of_decide_eq_true rfl) rfl hHeld (fun wq hSq K Q hK => ?_) ?_
                        rotate_left
                        · (go_step; exact hK)
                        refine T_light (a' := ?_) 105 rfl rfl rfl (of_decide_eq_true rfl) rfl hHeld (fun wq hSq K Q hK => ?_) ?_
                        rotate_left
                        · (go_step; exact hK)
                        refine T_light (a' := ?_) 106 rfl rfl rfl (of_decide_eq_true rfl) rfl hHeld (fun wq hSq K Q hK => ?_) ?_
                        rotate_left
                        · (go_step; exact hK)
                        refine T_light (a' := ?_) 107 rfl rfl rfl (of_decide_eq_true rfl) rfl hHeld (fun wq hSq K Q hK => ?_) ?_
                        rotate_left
                        · (go_step; exact hK)
                        refine T_light (a' := ?_) 108 rfl rfl rfl (of_decide_eq_true rfl) rfl hHeld (fun wq hSq K Q hK => ?_) ?_
                        rotate_left
                        · (go_step; exact hK)
                        refine T_light (a' := ?_) 109 rfl rfl rfl (of_decide_eq_true rfl) rfl hHeld (fun wq hSq K Q hK => ?_) ?_
                        rotate_left
                        · (go_step; exact hK)
                        refine T_light (a' := ?_) 110 rfl rfl rfl (of_decide_eq_true rfl) rfl hHeld (fun wq hSq K Q hK => ?_) ?_
                        rotate_left
                        · (go_step; exact hK)
                        refine T_light (a' := ?_) 111 rfl rfl rfl (of_decide_eq_true rfl) rfl hHeld (fun wq hSq K Q hK => ?_) ?_
                        rotate_left
                        · (go_step; exact hK)
                        refine T_light (a' := ?_) 112 rfl rfl rfl (of_decide_eq_true rfl) rfl hHeld (fun wq hSq K Q hK => ?_) ?_
                        rotate_left
                        · (go_step; exact hK)
                        refine T_light (a' := ?_) 113 rfl rfl rfl (of_decide_eq_true rfl) rfl hHeld (fun wq hSq K Q hK => ?_) ?_
                        rotate_left
                        · (go_step; exact hK)
                        refine T_light (a' := ?_) 114 rfl rfl rfl (of_decide_eq_true rfl) rfl hHeld (fun wq hSq K Q hK => ?_) ?_
                        rotate_left
                        · ((have r1 := hSq.1; go_step); exact hK)
                        refine T_light (a' := ?_) 115 rfl rfl rfl (of_decide_eq_true rfl) rfl hHeld (fun wq hSq K Q hK => ?_) ?_
                        rotate_left
                        · (go_step; exact hK)
                        refine T_light (a' := ?_) 116 rfl rfl rfl (of_decide_eq_true rfl) rfl hHeld (fun wq hSq K Q hK => ?_) ?_
                        rotate_left
                        · (go_step; exact hK)
                        refine T_light (a' := ?_) 117 rfl rfl rfl (of_decide_eq_true rfl) rfl hHeld (fun wq hSq K Q hK => ?_) ?_
                        rotate_left
                        · (go_step; exact hK)
                        refine T_light (a' := ?_) 118 rfl rfl rfl (of_decide_eq_true rfl) rfl hHeld (fun wq hSq K Q hK => ?_) ?_
                        rotate_left
                        · (go_step; exact hK)
                        refine T_light (a' := ?_) 119 rfl rfl rfl (of_decide_eq_true rfl) rfl hHeld (fun wq hSq K Q hK => ?_) ?_
                        rotate_left
                        · ((have r1 := hSq.2.1; go_step); exact hK)
                        refine T_light (a' := ?_) 120 rfl rfl rfl (of_decide_eq_true rfl) rfl hHeld (fun wq hSq K Q hK => ?_) ?_
                        rotate_left
                        · (go_step; exact hK)
                        refine T_light (a' := ?_) 121 rfl rfl rfl (of_decide_eq_true rfl) rfl hHeld (fun wq hSq K Q hK => ?_) ?_
                        rotate_left
                        · (go_step; exact hK)
                        refine T_light (a' := ?_) 122 rfl rfl rfl (of_decide_eq_true rfl) rfl hHeld (fun wq hSq K Q hK => ?_) ?_
                        rotate_left
                        · (go_step; exact hK)
                        refine T_light (a' := ?_) 123 rfl rfl rfl (of_decide_eq_true rfl) rfl hHeld (fun wq hSq K Q hK => ?_) ?_
                        rotate_left
                        · (go_step; exact hK)
                        refine T_light (a' := ?_) 124 rfl rfl rfl (of_decide_eq_true rfl) rfl hHeld (fun wq hSq K Q hK => ?_) ?_
                        rotate_left
                        · (go_step; exact hK)
                        refine T_light (a' := ?_) 125 rfl rfl rfl (of_decide_eq_true rfl) rfl hHeld (fun wq hSq K Q hK => ?_) ?_
                        rotate_left
                        · (go_step; exact hK)
                        refine T_light (a' := ?_) 126 rfl rfl rfl (of_decide_eq_true rfl) rfl hHeld (fun wq hSq K Q hK => ?_) ?_
                        rotate_left
                        · (go_step; exact hK)
                        refine T_light (a' := ?_) 127 rfl rfl rfl (of_decide_eq_true rfl) rfl hHeld (fun wq hSq K Q hK => ?_) ?_
                        rotate_left
                        · ((have r1 := hSq.1; go_step); exact hK)
                        refine T_light (a' := ?_) 128 rfl rfl rfl (of_decide_eq_true rfl) rfl hHeld (fun wq hSq K Q hK => ?_) ?_
                        rotate_left
                        · (go_step; exact hK)
                        refine T_light (a' := ?_) 129 rfl rfl rfl (of_decide_eq_true rfl) rfl hHeld (fun wq hSq K Q hK => ?_) ?_
                        rotate_left
                        · (go_step; exact hK)
                        refine T_light (a' := ?_) 130 rfl rfl rfl (of_decide_eq_true rfl) rfl hHeld (fun wq hSq K Q hK => ?_) ?_
                        rotate_left
                        · (go_step; exact hK)
                        refine T_light (a' := ?_) 131 rfl rfl rfl (of_decide_eq_true rfl) rfl hHeld (fun wq hSq K Q hK => ?_) ?_
                        rotate_left
                        · (go_step; exact hK)
                        refine T_light (a' := ?_) 132 rfl rfl rfl (of_decide_eq_true rfl) rfl hHeld (fun wq hSq K Q hK => ?_) ?_
                        rotate_left
                        · (go_step; exact hK)
                        refine T_light (a' := ?_) 133 rfl rfl rfl (of_decide_eq_true rfl) rfl hHeld (fun wq hSq K Q hK => ?_) ?_
                        rotate_left
                        · (go_step; exact hK)
                        refine T_light (a' := ?_) 134 rfl rfl rfl (of_decide_eq_true rfl) rfl hHeld (fun wq hSq K Q hK => ?_) ?_
                        rotate_left
                        · (go_step; exact hK)
                        refine T_light (a' := ?_) 135 rfl rfl rfl (of_decide_eq_true rfl) rfl hHeld (fun wq hSq K Q hK => ?_) ?_
                        rotate_left
                        · (go_step; exact hK)
                        refine T_light (a' := ?_) 136 rfl rfl rfl (of_decide_eq_true rfl) rfl hHeld (fun wq hSq K Q hK => ?_) ?_
                        rotate_left
                        · ((have r1 := hSq.1; go_step); exact hK)
                        refine T_light (a' := ?_) 137 rfl rfl rfl (of_decide_eq_true rfl) rfl hHeld (fun wq hSq K Q hK => ?_) ?_
                        rotate_left
                        · (go_step; exact hK)
                        refine T_light (a' := ?_) 138 rfl rfl rfl (of_decide_eq_true rfl) rfl hHeld (fun wq hSq K Q hK => ?_) ?_
                        rotate_left
                        · ((have r1 := hSq.2.2.1; go_step); exact hK)
                        refine T_light (a' := ?_) 139 rfl rfl rfl (of_decide_eq_true rfl) rfl hHeld (fun wq hSq K Q hK => ?_) ?_
                        rotate_left
                        · (go_step; exact hK)
                        refine T_light (a' := ?_) 140 rfl rfl rfl (of_decide_eq_true rfl) rfl hHeld (fun wq hSq K Q hK => ?_) ?_
                        rotate_left
                        · (go_step; exact hK)
                        refine T_light (a' := ?_) 141 rfl rfl rfl (of_decide_eq_true rfl) rfl hHeld (fun wq hSq K Q hK => ?_) ?_
                        rotate_left
                        · (go_step; exact hK)
                        refine T_light (a' := ?_) 142 rfl rfl rfl (of_decide_eq_true rfl) rfl hHeld (fun wq hSq K Q hK => ?_) ?_
                        rotate_left
                        · (go_step; exact hK)
                        refine T_light (a' := ?_) 143 rfl rfl rfl (of_decide_eq_true rfl) rfl hHeld (fun wq hSq K Q hK => ?_) ?_
                        rotate_left
                        · (go_step; exact hK)
                        refine T_light (a' := ?_) 144 rfl rfl rfl (of_decide_eq_true rfl) rfl hHeld (fun wq hSq K Q hK => ?_) ?_
                        rotate_left
                        · (go_step; exact hK)
                        refine T_light (a' := ?_) 145 rfl rfl rfl (of_decide_eq_true rfl) rfl hHeld (fun wq hSq K Q hK => ?_) ?_
                        rotate_left
                        · (go_step; exact hK)
                        refine T_light (a' := ?_) 146 rfl rfl rfl (of_decide_eq_true rfl) rfl hHeld (fun wq hSq K Q hK => ?_) ?_
                        rotate_left
                        · (go_step; exact hK)
                        refine T_light (a' := ?_) 147 rfl rfl rfl (of_decide_eq_true rfl) rfl hHeld (fun wq hSq K Q hK => ?_) ?_
                        rotate_left
                        · (go_step; exact hK)
                        refine T_light (a' := ?_) 148 rfl rfl rfl (of_decide_eq_true rfl) rfl hHeld (fun wq hSq K Q hK => ?_) ?_
                        rotate_left
                        · (go_step; exact hK)
                        refine T_light (a' := ?_) 149 rfl rfl rfl (of_decide_eq_true rfl) rfl hHeld (fun wq hSq K Q hK => ?_) ?_
                        rotate_left
                        · (go_step; exact hK)
                        refine T_light (a' := ?_) 150 rfl rfl rfl (of_decide_eq_true rfl) rfl hHeld (fun wq hSq K Q hK => ?_) ?_
                        rotate_left
                        · ((have r1 := hSq.2.2.2; go_step); exact hK)
                        refine T_light (a' := ?_) 151 rfl rfl rfl (of_decide_eq_true rfl) rfl hHeld (fun wq hSq K Q hK => ?_) ?_
                        rotate_left
                        · (go_step; exact hK)
                        refine T_light (a' := ?_) 152 rfl rfl rfl (of_decide_eq_true rfl) rfl hHeld (fun wq hSq K Q hK => ?_) ?_
                        rotate_left
                        · (go_step; exact hK)
                        refine T_light (a' := ?_) 153 rfl rfl rfl (of_decide_eq_true rfl) rfl hHeld (fun wq hSq K Q hK => ?_) ?_
                        rotate_left
                        · (go_step; exact hK)
                        refine T_light (a' := ?_) 154 rfl rfl rfl (of_decide_eq_true rfl) rfl hHeld (fun wq hSq K Q hK => ?_) ?_
                        rotate_left
                        · ((have r1 := hSq.1; go_step); exact hK)
                        refine T_light (a' := ?_) 155 rfl rfl rfl (of_decide_eq_true rfl) rfl hHeld (fun wq hSq K Q hK => ?_) ?_
                        rotate_left
                        · (go_step; exact hK)
                        refine T_light (a' := ?_) 156 rfl rfl rfl (of_decide_eq_true rfl) rfl hHeld (fun wq hSq K Q hK => ?_) ?_
                        rotate_left
                        · (go_step; exact hK)
                        refine T_light (a' := ?_) 157 rfl rfl rfl (of_decide_eq_true rfl) rfl hHeld (fun wq hSq K Q hK => ?_) ?_
                        rotate_left
                        · (go_step; exact hK)
                        refine T_done ?_
                        clear hHeld
                        go_wp2_with fail
                        go_roundg f
                        case measure => exact Nat.lt_succ_self f
                        case rel => exact ⟨i + 1, by rw [e1], Lib.hid (mt_nx HI.out), Lib.hid ⟨HW.out.1, HW.out.2.1.drew, HW.out.2.2.drew⟩⟩
                    · obtain ⟨m1, m1'⟩ := mt_ge hm
                      clear hm
                      as_aux_lemma =>
                        go_wp2_with fail
                        have hHeld := (show wr.drew.cell? ⟨g, i, none⟩ = some (.int .i64 (q : Nat)) ∧ wr.drew.cell? ⟨g, i0, none⟩ = some (.int .i64 (r : Nat)) ∧ wr.drew.cell? (x.add q) = some (.bool false) from ⟨HCELL.out, HC1.out, HC2.out⟩)
                        refine wp_region_T (fun w' => w'.cell? ⟨g, i, none⟩ = some (.int .i64 (q : Nat)) ∧ w'.cell? ⟨g, i0, none⟩ = some (.int .i64 (r : Nat)) ∧ w'.cell? (x.add q) = some (.bool false)) [.take 0, .take 1, .take 2, .take 3, .take 4, .take 5, .take 6, .take 7, .take 8, .take 9, .take 10, .take 11, .take 12, .take 13, .take 14, .take 15, .take 16, .take 17, .take 18, .take 19, .take 20, .take 21, .take 22, .take 23, .take 24, .take 25, .take 26, .take 27, .take 28, .take 29, .take 30, .take 31, .take 32, .take 33, .take 34, .take 35, .take 36, .take 37, .take 38, .take 39, .take 40, .take 41, .take 42, .take 43, .take 44, .take 45, .take 46, .take 47, .take 48, .take 49, .take 50, .take 51, .take 52, .take 53, .take 54, .take 55, .take 56, .take 57, .take 58, .take 59, .take 60, .take 61, .take 62, .take 63] (by kernel_rfl) (by kernel_rfl) (fun _ _ _ _ _ h => h) hHeld ?_
                        refine T_light (a' := ?_) 94 rfl rfl rfl (of_decide_eq_true rfl) rfl hHeld (fun wq hSq K Q hK => ?_) ?_
                        rotate_left
                        · (go_step; exact hK)
                        refine T_light (a' := ?_) 95 rfl rfl rfl (of_decide_eq_true rfl) rfl hHeld (fun wq hSq K Q hK => ?_) ?_
                        rotate_left
                        · (go_step; exact hK)
                        refine T_light (a' := ?_) 96 rfl rfl rfl (of_decide_eq_true rfl) rfl hHeld (fun wq hSq K Q hK => ?_) ?_
                        rotate_left
                        · (go_step; exact hK)
                        refine T_light (a' := ?_) 97 rfl rfl rfl (of_decide_eq_true rfl) rfl hHeld (fun wq hSq K Q hK => ?_) ?_
                        rotate_left
                        · ((have r1 := hSq.1; go_step); exact hK)
                        refine T_light (a' := ?_) 98 rfl rfl rfl (of_decide_eq_true rfl) rfl hHeld (fun wq hSq K Q hK => ?_) ?_
                        rotate_left
                        · (go_step; exact hK)
                        refine T_light (a' := ?_) 99 rfl rfl rfl (of_decide_eq_true rfl) rfl hHeld (fun wq hSq K Q hK => ?_) ?_
                        rotate_left
                        · (go_step; exact hK)
                        refine T_light (a' := ?_) 100 rfl rfl rfl (of_decide_eq_true rfl) rfl hHeld (fun wq hSq K Q hK => ?_) ?_
                        rotate_left
                        · (go_step; exact hK)
                        refine T_light (a' := ?_) 101 rfl rfl rfl (of_decide_eq_true rfl) rfl hHeld (fun wq hSq K Q hK => ?_) ?_
                        rotate_left
                        · (go_step; exact hK)
                        refine T_light (a' := ?_) 102 rfl rfl rfl (of_decide_eq_true rfl) rfl hHeld (fun wq hSq K Q hK => ?_) ?_
                        rotate_left
                        · (go_step; exact hK)
                        refine T_light (a' := ?_) 103 rfl rfl rfl (of_decide_eq_true rfl) rfl hHeld (fun wq hSq K Q hK => ?_) ?_
                        rotate_left
                        · ((have r1 := hSq.1; go_step); exact hK)
                        refine T_light (a' := ?_) 104 rfl rfl rfl (of_decide_eq_true rfl) rfl hHeld (fun wq hSq K Q hK => ?_) ?_
                        rotate_left
                        · (go_step; exact hK)
                        refine T_light (a' := ?_) 105 rfl rfl rfl (of_decide_eq_true rfl) rfl hHeld (fun wq hSq K Q hK => ?_) ?_
                        rotate_left
                        · (go_step; exact hK)
                        refine T_light (a' := ?_) 106 rfl rfl rfl (of_decide_eq_true rfl) rfl hHeld (fun wq hSq K Q hK => ?_) ?_
                        rotate_left
                        · (go_step; exact hK)
                        refine T_light (a' := ?_) 107 rfl rfl rfl (of_decide_eq_true rfl) rfl hHeld (fun wq hSq K Q hK => ?_) ?_
                        rotate_left
                        · (go_step; exact hK)
                        refine T_light (a' := ?_) 108 rfl rfl rfl (of_decide_eq_true rfl) rfl hHeld (fun wq hSq K Q hK => ?_) ?_
                        rotate_left
                        · (go_step; exact hK)
                        refine T_light (a' := ?_) 109 rfl rfl rfl (of_decide_eq_true rfl) rfl hHeld (fun wq hSq K Q hK => ?_) ?_
                        rotate_left
                        · (go_step; exact hK)
                        refine T_light (a' := ?_) 110 rfl rfl rfl (of_decide_eq_true rfl) rfl hHeld (fun wq hSq K Q hK => ?_) ?_
                        rotate_left
                        · (go_step; exact hK)
                        refine T_light (a' := ?_) 111 rfl rfl rfl (of_decide_eq_true rfl) rfl hHeld (fun wq hSq K Q hK => ?_) ?_
                        rotate_left
                        · (go_step; exact hK)
                        refine T_light (a' := ?_) 112 rfl rfl rfl (of_decide_eq_true rfl) rfl hHeld (fun wq hSq K Q hK => ?_) ?_
                        rotate_left
                        · (go_step; exact hK)
                        refine T_light (a' := ?_) 113 rfl rfl rfl (of_decide_eq_true rfl) rfl hHeld (fun wq hSq K Q hK => ?_) ?_
                        rotate_left
                        · (go_step; exact hK)
                        refine T_light (a' := ?_) 114 rfl rfl rfl (of_decide_eq_true rfl) rfl hHeld (fun wq hSq K Q hK => ?_) ?_
                        rotate_left
                        · ((have r1 := hSq.1; go_step); exact hK)
                        refine T_light (a' := ?_) 115 rfl rfl rfl (of_decide_eq_true rfl) rfl hHeld (fun wq hSq K Q hK => ?_) ?_
                        rotate_left
                        · (go_step; exact hK)
                        refine T_light (a' := ?_) 116 rfl rfl rfl (of_decide_eq_true rfl) rfl hHeld (fun wq hSq K Q hK => ?_) ?_
                        rotate_left
                        · (go_step; exact hK)
                        refine T_light (a' := ?_) 117 rfl rfl rfl (of_decide_eq_true rfl) rfl hHeld (fun wq hSq K Q hK => ?_) ?_
                        rotate_left
                        · (go_step; exact hK)
                        refine T_light (a' := ?_) 118 rfl rfl rfl (of_decide_eq_true rfl) rfl hHeld (fun wq hSq K Q hK => ?_) ?_
                        rotate_left
                        · (go_step; exact hK)
                        refine T_light (a' := ?_) 119 rfl rfl rfl (of_decide_eq_true rfl) rfl hHeld (fun wq hSq K Q hK => ?_) ?_
                        rotate_left
                        · ((have r1 := hSq.2.1; go_step); exact hK)
                        refine T_light (a' := ?_) 120 rfl rfl rfl (of_decide_eq_true rfl) rfl hHeld (fun wq hSq K Q hK => ?_) ?_
                        rotate_left
                        · (go_step; exact hK)
                        refine T_light (a' := ?_) 121 rfl rfl rfl (of_decide_eq_true rfl) rfl hHeld (fun wq hSq K Q hK => ?_) ?_
                        rotate_left
                        · (go_step; exact hK)
                        refine T_light (a' := ?_) 122 rfl rfl rfl (of_decide_eq_true rfl) rfl hHeld (fun wq hSq K Q hK => ?_) ?_
                        rotate_left
                        · (go_step; exact hK)
                        refine T_light (a' := ?_) 123 rfl rfl rfl (of_decide_eq_true rfl) rfl hHeld (fun wq hSq K Q hK => ?_) ?_
                        rotate_left
                        · (go_step; exact hK)
                        refine T_light (a' := ?_) 124 rfl rfl rfl (of_decide_eq_true rfl) rfl hHeld (fun wq hSq K Q hK => ?_) ?_
                        rotate_left
                        · (go_step; exact hK)
                        refine T_light (a' := ?_) 125 rfl rfl rfl (of_decide_eq_true rfl) rfl hHeld (fun wq hSq K Q hK => ?_) ?_
                        rotate_left
                        · (go_step; exact hK)
                        refine T_light (a' := ?_) 126 rfl rfl rfl (of_decide_eq_true rfl) rfl hHeld (fun wq hSq K Q hK => ?_) ?_
                        rotate_left
                        · (go_step; exact hK)
                        refine T_light (a' := ?_) 127 rfl rfl rfl (of_decide_eq_true rfl) rfl hHeld (fun wq hSq K Q hK => ?_) ?_
                        rotate_left
                        · ((have r1 := hSq.1; go_step); exact hK)
                        refine T_light (a' := ?_) 128 rfl rfl rfl (of_decide_eq_true rfl) rfl hHeld (fun wq hSq K Q hK => ?_) ?_
                        rotate_left
                        · (go_step; exact hK)
                        refine T_light (a' := ?_) 129 rfl rfl rfl (of_decide_eq_true rfl) rfl hHeld (fun wq hSq K Q hK => ?_) ?_
                        rotate_left
                        · (go_step; exact hK)
                        refine T_light (a' := ?_) 130 rfl rfl rfl (of_decide_eq_true rfl) rfl hHeld (fun wq hSq K Q hK => ?_) ?_
                        rotate_left
                        · (go_step; exact hK)
                        refine T_light (a' := ?_) 131 rfl rfl rfl (of_decide_eq_true rfl) rfl hHeld (fun wq hSq K Q hK => ?_) ?_
                        rotate_left
                        · (go_step; exact hK)
                        refine T_light (a' := ?_) 132 rfl rfl rfl (of_decide_eq_true rfl) rfl hHeld (fun wq hSq K Q hK => ?_) ?_
                        rotate_left
                        · (go_step; exact hK)
                        refine T_light (a' := ?_) 133 rfl rfl rfl (of_decide_eq_true rfl) rfl hHeld (fun wq hSq K Q hK => ?_) ?_
                        rotate_left
                        · (go_step; exact hK)
                        refine T_light (a' := ?_) 134 rfl rfl rfl (of_decide_eq_true rfl) rfl hHeld (fun wq hSq K Q hK => ?_) ?_
                        rotate_left
                        · (go_step; exact hK)
                        refine T_light (a' := ?_) 135 rfl rfl rfl (of_decide_eq_true rfl) rfl hHeld (fun wq hSq K Q hK => ?_) ?_
                        rotate_left
                        · (go_step; exact hK)
                        refine T_light (a' := ?_) 136 rfl rfl rfl (of_decide_eq_true rfl) rfl hHeld (fun wq hSq K Q hK => ?_) ?_
                        rotate_left
                        · ((have r1 := hSq.1; go_step); exact hK)
                        refine T_light (a' := ?_) 137 rfl rfl rfl (of_decide_eq_true rfl) rfl hHeld (fun wq hSq K Q hK => ?_) ?_
                        rotate_left
                        · (go_step; exact hK)
                        refine T_light (a' := ?_) 138 rfl rfl rfl (of_decide_eq_true rfl) rfl hHeld (fun wq hSq K Q hK => ?_) ?_
                        rotate_left
                        · ((have r1 := hSq.2.2; go_step); exact hK)
                        refine T_light (a' := ?_) 139 rfl rfl rfl (of_decide_eq_true rfl) rfl hHeld (fun wq hSq K Q hK => ?_) ?_
                        rotate_left
                        · (go_step; exact hK)
                        refine T_light (a' := ?_) 140 rfl rfl rfl (of_decide_eq_true rfl) rfl hHeld (fun wq hSq K Q hK => ?_) ?_
                        rotate_left
                        · (go_step; exact hK)
                        refine T_light (a' := ?_) 141 rfl rfl rfl (of_decide_eq_true rfl) rfl hHeld (fun wq hSq K Q hK => ?_) ?_
                        rotate_left
                        · (go_step; exact hK)
                        refine T_light (a' := ?_) 142 rfl rfl rfl (of_decide_eq_true rfl) rfl hHeld (fun wq hSq K Q hK => ?_) ?_
                        rotate_left
                        · (go_step; exact hK)
                        refine T_light (a' := ?_) 143 rfl rfl rfl (of_decide_eq_true rfl) rfl hHeld (fun wq hSq K Q hK => ?_) ?_
                        rotate_left
                        · (go_step; exact hK)
                        refine T_light (a' := ?_) 144 rfl rfl rfl (of_decide_eq_true rfl) rfl hHeld (fun wq hSq K Q hK => ?_) ?_
                        rotate_left
                        · (go_step; exact hK)
                        refine T_light (a' := ?_) 145 rfl rfl rfl (of_decide_eq_true rfl) rfl hHeld (fun wq hSq K Q hK => ?_) ?_
                        rotate_left
                        · (go_step; exact hK)
                        refine T_light (a' := ?_) 146 rfl rfl rfl (of_decide_eq_true rfl) rfl hHeld (fun wq hSq K Q hK => ?_) ?_
                        rotate_left
                        · (go_step; exact hK)
                        refine T_pass2 (a' := ?_) 147 rfl rfl (by kernel_rfl) (fun K hK => ?_) ?_
                        rotate_left
                        · (simp only [Act.put, List.setIfInBounds_toArray, List.set_cons_zero, List.set_cons_succ]; exact hK)
                        refine T_pass2 (a' := ?_) 148 rfl rfl (by kernel_rfl) (fun K hK => ?_) ?_
                        rotate_left
                        · (simp only [Act.put, List.setIfInBounds_toArray, List.set_cons_zero, List.set_cons_succ]; exact hK)
                        refine T_pass2 (a' := ?_) 149 rfl rfl (by kernel_rfl) (fun K hK => ?_) ?_
                        rotate_left
                        · (simp only [Act.put, List.setIfInBounds_toArray, List.set_cons_zero, List.set_cons_succ]; exact hK)
                        refine T_pass2 (a' := ?_) 150 rfl rfl (by kernel_rfl) (fun K hK => ?_) ?_
                        rotate_left
                        · (simp only [Act.put, List.setIfInBounds_toArray, List.set_cons_zero, List.set_cons_succ]; exact hK)
                        refine T_pass2 (a' := ?_) 151 rfl rfl (by kernel_rfl) (fun K hK => ?_) ?_
                        rotate_left
                        · (simp only [Act.put, List.setIfInBounds_toArray, List.set_cons_zero, List.set_cons_succ]; exact hK)
                        refine T_pass2 (a' := ?_) 152 rfl rfl (by kernel_rfl) (fun K hK => ?_) ?_
                        rotate_left
                        · (simp only [Act.put, List.setIfInBounds_toArray, List.set_cons_zero, List.set_cons_succ]; exact hK)
                        refine T_pass2 (a' := ?_) 153 rfl rfl (by kernel_rfl) (fun K hK => ?_) ?_
                        rotate_left
                        · (simp only [Act.put, List.setIfInBounds_toArray, List.set_cons_zero, List.set_cons_succ]; exact hK)
                        refine T_pass2 (a' := ?_) 154 rfl rfl (by kernel_rfl) (fun K hK => ?_) ?_
                        rotate_left
                        · (simp only [Act.put, List.setIfInBounds_toArray, List.set_cons_zero, List.set_cons_succ]; exact hK)
                        refine T_pass2 (a' := ?_) 155 rfl rfl (by kernel_rfl) (fun K hK => ?_) ?_
                        rotate_left
                        · (simp only [Act.put, List.setIfInBounds_toArray, List.set_cons_zero, List.set_cons_succ]; exact hK)
                        refine T_light (a' := ?_) 156 rfl rfl rfl (of_decide_eq_true rfl) rfl hHeld (fun wq hSq K Q hK => ?_) ?_
                        rotate_left
                        · (go_step; exact hK)
                        refine T_light (a' := ?_) 157 rfl rfl rfl (of_decide_eq_true rfl) rfl hHeld (fun wq hSq K Q hK => ?_) ?_
                        rotate_left
                        · (go_step; exact hK)
                        refine T_done ?_
                        clear hHeld
                        go_wp2_with fail
                        go_roundg f
                        case measure => exact Nat.lt_succ_self f
                        case rel => exact ⟨i + 1, by rw [e1], Lib.hid (mt_nx HI.out), Lib.hid ⟨HW.out.1, HW.out.2.1.drew, HW.out.2.2.drew⟩⟩
                  · obtain ⟨l1, l1'⟩ := mt_ge hl
                    clear hl
                    by_cases hm : i < cm.length
                    · obtain ⟨m1, m1'⟩ := mt_lt hm
                      have n8 : (i : Int) < (cm.length : Int) := Int.ofNat_lt.2 hm
                      obtain ⟨gm, rfl, hgm⟩ := HG.out.2 i q (HPRE.out.2 i q hm HQ.out)
                      have HC3 := Lib.hid (show wr.drew.cell? ⟨gm, i, none⟩ = some (.int .i64 (q : Nat)) from (cell_heap (show wr.drew.heap = w6.heap from HW.out.1) _).trans hgm)
                      clear hm hgm
                      as_aux_lemma =>
                        go_wp2_with fail
                        have hHeld := (show wr.drew.cell? ⟨g, i, none⟩ = some (.int .i64 (q : Nat)) ∧ wr.drew.cell? ⟨g, i0, none⟩ = some (.int .i64 (r : Nat)) ∧ wr.drew.cell? ⟨gm, i, none⟩ = some (.int .i64 (q : Nat)) from ⟨HCELL.out, HC1.out, HC3.out⟩)
                        refine wp_region_T (fun w' => w'.cell? ⟨g, i, none⟩ = some (.int .i64 (q : Nat)) ∧ w'.cell? ⟨g, i0, none⟩ = some (.int .i64 (r : Nat)) ∧ w'.cell? ⟨gm, i, none⟩ = some (.int .i64 (q : Nat))) [.take 0, .take 1, .take 2, .take 3, .take 4, .take 5, .take 6, .take 7, .take 8, .take 9, .take 10, .take 11, .take 12, .take 13, .take 14, .take 15, .take 16, .take 17, .take 18, .take 19, .take 20, .take 21, .take 22, .take 23, .take 24, .take 25, .take 26, .take 27, .take 28, .take 29, .take 30, .take 31, .take 32, .take 33, .take 34, .take 35, .take 36, .take 37, .take 38, .take 39, .take 40, .take 41, .take 42, .take 43, .take 44, .take 45, .take 46, .take 47, .take 48, .take 49, .take 50, .take 51, .take 52, .take 53, .take 54, .take 55, .take 56, .take 57, .take 58, .take 59, .take 60, .take 61, .take 62, .take 63] (by kernel_rfl) (by kernel_rfl) (fun _ _ _ _ _ h => h) hHeld ?_
                        refine T_light (a' := ?_) 94 rfl rfl rfl (of_decide_eq_true rfl) rfl hHeld (fun wq hSq K Q hK => ?_) ?_
                        rotate_left
                        · (go_step; exact hK)
                        refine T_light (a' := ?_) 95 rfl rfl rfl (of_decide_eq_true rfl) rfl hHeld (fun wq hSq K Q hK => ?_) ?_
                        rotate_left
                        · (go_step; exact hK)
                        refine T_light (a' := ?_) 96 rfl rfl rfl (of_decide_eq_true rfl) rfl hHeld (fun wq hSq K Q hK => ?_) ?_
                        rotate_left
                        · (go_step; exact hK)
                        refine T_light (a' := ?_) 97 rfl rfl rfl (of_decide_eq_true rfl) rfl hHeld (fun wq hSq K Q hK => ?_) ?_
                        rotate_left
                        · ((have r1 := hSq.1; go_step); exact hK)
                        refine T_light (a' := ?_) 98 rfl rfl rfl (of_decide_eq_true rfl) rfl hHeld (fun wq hSq K Q hK => ?_) ?_
                        rotate_left
                        · (go_step; exact hK)
                        refine T_light (a' := ?_) 99 rfl rfl rfl (of_decide_eq_true rfl) rfl hHeld (fun wq hSq K Q hK => ?_) ?_
                        rotate_left
                        · (go_step; exact hK)
                        refine T_light (a' := ?_) 100 rfl rfl rfl (of_decide_eq_true rfl) rfl hHeld (fun wq hSq K Q hK => ?_) ?_
                        rotate_left
                        · (go_step; exact hK)
                        refine T_light (a' := ?_) 101 rfl rfl rfl (of_decide_eq_true rfl) rfl hHeld (fun wq hSq K Q hK => ?_) ?_
                        rotate_left
                        · (go_step; exact hK)
                        refine T_light (a' := ?_) 102 rfl rfl rfl (of_decide_eq_true rfl) rfl hHeld (fun wq hSq K Q hK => ?_) ?_
                        rotate_left
                        · (go_step; exact hK)
                        refine T_light (a' := ?_) 103 rfl rfl rfl (of_decide_eq_true rfl) rfl hHeld (fun wq hSq K Q hK => ?_) ?_
                        rotate_left
                        · ((have r1 := hSq.1; go_step); exact hK)
                        refine T_light (a' := ?_) 104 rfl rfl rfl (of_decide_eq_true rfl) rfl hHeld (fun wq hSq K Q hK => ?_) ?_
                        rotate_left
                        · (go_step; exact hK)
                        refine T_light (a' := ?_) 105 rfl rfl rfl (of_decide_eq_true rfl) rfl hHeld (fun wq hSq K Q hK => ?_) ?_
                        rotate_left
                        · (go_step; exact hK)
                        refine T_light (a' := ?_) 106 rfl rfl rfl (of_decide_eq_true rfl) rfl hHeld (fun wq hSq K Q hK => ?_) ?_
                        rotate_left
                        · (go_step; exact hK)
                        refine T_light (a' := ?_) 107 rfl rfl rfl (of_decide_eq_true rfl) rfl hHeld (fun wq hSq K Q hK => ?_) ?_
                        rotate_left
                        · (go_step; exact hK)
                        refine T_light (a' := ?_) 108 rfl rfl rfl (of_decide_eq_true rfl) rfl hHeld (fun wq hSq K Q hK => ?_) ?_
                        rotate_left
                        · (go_step; exact hK)
                        refine T_light (a' := ?_) 109 rfl rfl rfl (of_decide_eq_true rfl) rfl hHeld (fun wq hSq K Q hK => ?_) ?_
                        rotate_left
                        · (go_step; exact hK)
                        refine T_light (a' := ?_) 110 rfl rfl rfl (of_decide_eq_true rfl) rfl hHeld (fun wq hSq K Q hK => ?_) ?_
                        rotate_left
                        · (go_step; exact hK)
                        refine T_light (a' := ?_) 111 rfl rfl rfl (of_decide_eq_true rfl) rfl hHeld (fun wq hSq K Q hK => ?_) ?_
                        rotate_left
                        · (go_step; exact hK)
                        refine T_light (a' := ?_) 112 rfl rfl rfl (of_decide_eq_true rfl) rfl hHeld (fun wq hSq K Q hK => ?_) ?_
                        rotate_left
                        · (go_step; exact hK)
                        refine T_light (a' := ?_) 113 rfl rfl rfl (of_decide_eq_true rfl) rfl hHeld (fun wq hSq K Q hK => ?_) ?_
                        rotate_left
                        · (go_step; exact hK)
                        refine T_light (a' := ?_) 114 rfl rfl rfl (of_decide_eq_true rfl) rfl hHeld (fun wq hSq K Q hK => ?_) ?_
                        rotate_left
                        · ((have r1 := hSq.1; go_step); exact hK)
                        refine T_light (a' := ?_) 115 rfl rfl rfl (of_decide_eq_true rfl) rfl hHeld (fun wq hSq K Q hK => ?_) ?_
                        rotate_left
                        · (go_step; exact hK)
                        refine T_light (a' := ?_) 116 rfl rfl rfl (of_decide_eq_true rfl) rfl hHeld (fun wq hSq K Q hK => ?_) ?_
                        rotate_left
                        · (go_step; exact hK)
                        refine T_light (a' := ?_) 117 rfl rfl rfl (of_decide_eq_true rfl) rfl hHeld (fun wq hSq K Q hK => ?_) ?_
                        rotate_left
                        · (go_step; exact hK)
                        refine T_light (a' := ?_) 118 rfl rfl rfl (of_decide_eq_true rfl) rfl hHeld (fun wq hSq K Q hK => ?_) ?_
                        rotate_left
                        · (go_step; exact hK)
                        refine T_light (a' := ?_) 119 rfl rfl rfl (of_decide_eq_true rfl) rfl hHeld (fun wq hSq K Q hK => ?_) ?_
                        rotate_left
                        · ((have r1 := hSq.2.1; go_step); exact hK)
                        refine T_light (a' := ?_) 120 rfl rfl rfl (of_decide_eq_true rfl) rfl hHeld (fun wq hSq K Q hK => ?_) ?_
                        rotate_left
                        · (go_step; exact hK)
                        refine T_light (a' := ?_) 121 rfl rfl rfl (of_decide_eq_true rfl) rfl hHeld (fun wq hSq K Q hK => ?_) ?_
                        rotate_left
                        · (go_step; exact hK)
                        refine T_light (a' := ?_) 122 rfl rfl rfl (of_decide_eq_true rfl) rfl hHeld (fun wq hSq K Q hK => ?_) ?_
                        rotate_left
                        · (go_step; exact hK)
                        refine T_light (a' := ?_) 123 rfl rfl rfl (of_decide_eq_true rfl) rfl hHeld (fun wq hSq K Q hK => ?_) ?_
                        rotate_left
                        · (go_step; exact hK)
                        refine T_light (a' := ?_) 124 rfl rfl rfl (of_decide_eq_true rfl) rfl hHeld (fun wq hSq K Q hK => ?_) ?_
                        rotate_left
                        · (go_step; exact hK)
                        refine T_light (a' := ?_) 125 rfl rfl rfl (of_decide_eq_true rfl) rfl hHeld (fun wq hSq K Q hK => ?_) ?_
                        rotate_left
                        · (go_step; exact hK)
                        refine T_light (a' := ?_) 126 rfl rfl rfl (of_decide_eq_true rfl) rfl hHeld (fun wq hSq K Q hK => ?_) ?_
                        rotate_left
                        · (go_step; exact hK)
                        refine T_light (a' := ?_) 127 rfl rfl rfl (of_decide_eq_true rfl) rfl hHeld (fun wq hSq K Q hK => ?_) ?_
                        rotate_left
                        · ((have r1 := hSq.1; go_step); exact hK)
                        refine T_light (a' := ?_) 128 rfl rfl rfl (of_decide_eq_true rfl) rfl hHeld (fun wq hSq K Q hK => ?_) ?_
                        rotate_left
                        · (go_step; exact hK)
                        refine T_light (a' := ?_) 129 rfl rfl rfl (of_decide_eq_true rfl) rfl hHeld (fun wq hSq K Q hK => ?_) ?_
                        rotate_left
                        · (go_step; exact hK)
                        refine T_light (a' := ?_) 130 rfl rfl rfl (of_decide_eq_true rfl) rfl hHeld (fun wq hSq K Q hK => ?_) ?_
                        rotate_left
                        · (go_step; exact hK)
                        refine T_light (a' := ?_) 131 rfl rfl rfl (of_decide_eq_true rfl) rfl hHeld (fun wq hSq K Q hK => ?_) ?_
                        rotate_left
                        · (go_step; exact hK)
                        refine T_pass2 (a' := ?_) 132 rfl rfl (by kernel_rfl) (fun K hK => ?_) ?_
                        rotate_left
                        · (simp only [Act.put, List.setIfInBounds_toArray, List.set_cons_zero, List.set_cons_succ]; exact hK)
                        refine T_pass2 (a' := ?_) 133 rfl rfl (by kernel_rfl) (fun K hK => ?_) ?_
                        rotate_left
                        · (simp only [Act.put, List.setIfInBounds_toArray, List.set_cons_zero, List.set_cons_succ]; exact hK)
                        refine T_pass2 (a' := ?_) 134 rfl rfl (by kernel_rfl) (fun K hK => ?_) ?_
                        rotate_left
                        · (simp only [Act.put, List.setIfInBounds_toArray, List.set_cons_zero, List.set_cons_succ]; exact hK)
                        refine T_pass2 (a' := ?_) 135 rfl rfl (by kernel_rfl) (fun K hK => ?_) ?_
                        rotate_left
                        · (simp only [Act.put, List.setIfInBounds_toArray, List.set_cons_zero, List.set_cons_succ]; exact hK)
                        refine T_pass2 (a' := ?_) 136 rfl rfl (by kernel_rfl) (fun K hK => ?_) ?_
                        rotate_left
                        · (simp only [Act.put, List.setIfInBounds_toArray, List.set_cons_zero, List.set_cons_succ]; exact hK)
                        refine T_pass2 (a' := ?_) 137 rfl rfl (by kernel_rfl) (fun K hK => ?_) ?_
                        rotate_left
                        · (simp only [Act.put, List.setIfInBounds_toArray, List.set_cons_zero, List.set_cons_succ]; exact hK)
                        refine T_pass2 (a' := ?_) 138 rfl rfl (by kernel_rfl) (fun K hK => ?_) ?_
                        rotate_left
                        · (simp only [Act.put, List.setIfInBounds_toArray, List.set_cons_zero, List.set_cons_succ]; exact hK)
                        refine T_light (a' := ?_) 139 rfl rfl rfl (of_decide_eq_true rfl) rfl hHeld (fun wq hSq K Q hK => ?_) ?_
                        rotate_left
                        · (go_step; exact hK)
                        refine T_light (a' := ?_) 140 rfl rfl rfl (of_decide_eq_true rfl) rfl hHeld (fun wq hSq K Q hK => ?_) ?_
                        rotate_left
                        · (go_step; exact hK)
                        refine T_light (a' := ?_) 141 rfl rfl rfl (of_decide_eq_true rfl) rfl hHeld (fun wq hSq K Q hK => ?_) ?_
                        rotate_left
                        · (go_step; exact hK)
                        refine T_light (a' := ?_) 142 rfl rfl rfl (of_decide_eq_true rfl) rfl hHeld (fun wq hSq K Q hK => ?_) ?_
                        rotate_left
                        · (go_step; exact hK)
                        refine T_light (a' := ?_) 143 rfl rfl rfl (of_decide_eq_true rfl) rfl hHeld (fun wq hSq K Q hK => ?_) ?_
                        rotate_left
                        · (go_step; exact hK)
                        refine T_light (a' := ?_) 144 rfl rfl rfl (of_decide_eq_true rfl) rfl hHeld (fun wq hSq K Q hK => ?_) ?_
                        rotate_left
                        · (go_step; exact hK)
                        refine T_light (a' := ?_) 145 rfl rfl rfl (of_decide_eq_true rfl) rfl hHeld (fun wq hSq K Q hK => ?_) ?_
                        rotate_left
                        · (go_step; exact hK)
                        refine T_light (a' := ?_) 146 rfl rfl rfl (of_decide_eq_true rfl) rfl hHeld (fun wq hSq K Q hK => ?_) ?_
                        rotate_left
                        · (go_step; exact hK)
                        refine T_light (a' := ?_) 147 rfl rfl rfl (of_decide_eq_true rfl) rfl hHeld (fun wq hSq K Q hK => ?_) ?_
                        rotate_left
                        · (go_step; exact hK)
                        refine T_light (a' := ?_) 148 rfl rfl rfl (of_decide_eq_true rfl) rfl hHeld (fun wq hSq K Q hK => ?_) ?_
                        rotate_left
                        · (go_step; exact hK)
                        refine T_light (a' := ?_) 149 rfl rfl rfl (of_decide_eq_true rfl) rfl hHeld (fun wq hSq K Q hK => ?_) ?_
                        rotate_left
                        · (go_step; exact hK)
                        refine T_light (a' := ?_) 150 rfl rfl rfl (of_decide_eq_true rfl) rfl hHeld (fun wq hSq K Q hK => ?_) ?_
                        rotate_left
                        · ((have r1 := hSq.2.2; go_step); exact hK)
                        refine T_light (a' := ?_) 151 rfl rfl rfl (of_decide_eq_true rfl) rfl hHeld (fun wq hSq K Q hK => ?_) ?_
                        rotate_left
                        · (go_step; exact hK)
                        refine T_light (a' := ?_) 152 rfl rfl rfl (of_decide_eq_true rfl) rfl hHeld (fun wq hSq K Q hK => ?_) ?_
                        rotate_left
                        · (go_step; exact hK)
                        refine T_light (a' := ?_) 153 rfl rfl rfl (of_decide_eq_true rfl) rfl hHeld (fun wq hSq K Q hK => ?_) ?_
                        rotate_left
                        · (go_step; exact hK)
                        refine T_light (a' := ?_) 154 rfl rfl rfl (of_decide_eq_true rfl) rfl hHeld (fun wq hSq K Q hK => ?_) ?_
                        rotate_left
                        · ((have r1 := hSq.1; go_step); exact hK)
                        refine T_light (a' := ?_) 155 rfl rfl rfl (of_decide_eq_true rfl) rfl hHeld (fun wq hSq K Q hK => ?_) ?_
                        rotate_left
                        · (go_step; exact hK)
                        refine T_light (a' := ?_) 156 rfl rfl rfl (of_decide_eq_true rfl) rfl hHeld (fun wq hSq K Q hK => ?_) ?_
                        rotate_left
                        · (go_step; exact hK)
                        refine T_light (a' := ?_) 157 rfl rfl rfl (of_decide_eq_true rfl) rfl hHeld (fun wq hSq K Q hK => ?_) ?_
                        rotate_left
                        · (go_step; exact hK)
                        refine T_done ?_
                        clear hHeld
                        go_wp2_with fail
                        go_roundg f
                        case measure => exact Nat.lt_succ_self f
                        case rel => exact ⟨i + 1, by rw [e1], Lib.hid (mt_nx HI.out), Lib.hid ⟨HW.out.1, HW.out.2.1.drew, HW.out.2.2.drew⟩⟩
                    · obtain ⟨m1, m1'⟩ := mt_ge hm
                      clear hm
                      as_aux_lemma =>
                        go_wp2_with fail
                        have hHeld := (show wr.drew.cell? ⟨g, i, none⟩ = some (.int .i64 (q : Nat)) ∧ wr.drew.cell? ⟨g, i0, none⟩ = some (.int .i64 (r : Nat)) from ⟨HCELL.out, HC1.out⟩)
                        refine wp_region_T (fun w' => w'.cell? ⟨g, i, none⟩ = some (.int .i64 (q : Nat)) ∧ w'.cell? ⟨g, i0, none⟩ = some (.int .i64 (r : Nat))) [.take 0, .take 1, .take 2, .take 3, .take 4, .take 5, .take 6, .take 7, .take 8, .take 9, .take 10, .take 11, .take 12, .take 13, .take 14, .take 15, .take 16, .take 17, .take 18, .take 19, .take 20, .take 21, .take 22, .take 23, .take 24, .take 25, .take 26, .take 27, .take 28, .take 29, .take 30, .take 31, .take 32, .take 33, .take 34, .take 35, .take 36, .take 37, .take 38, .take 39, .take 40, .take 41, .take 42, .take 43, .take 44, .take 45, .take 46, .take 47, .take 48, .take 49, .take 50, .take 51, .take 52, .take 53, .take 54, .take 55, .take 56, .take 57, .take 58, .take 59, .take 60, .take 61, .take 62, .take 63] (by kernel_rfl) (by kernel_rfl) (fun _ _ _ _ _ h => h) hHeld ?_
                        refine T_light (a' := ?_) 94 rfl rfl rfl (of_decide_eq_true rfl) rfl hHeld (fun wq hSq K Q hK => ?_) ?_
                        rotate_left
                        · (go_step; exact hK)
                        refine T_light (a' := ?_) 95 rfl rfl rfl (of_decide_eq_true rfl) rfl hHeld (fun wq hSq K Q hK => ?_) ?_
                        rotate_left
                        · (go_step; exact hK)
                        refine T_light (a' := ?_) 96 rfl rfl rfl (of_decide_eq_true rfl) rfl hHeld (fun wq hSq K Q hK => ?_) ?_
                        rotate_left
                        · (go_step; exact hK)
                        refine T_light (a' := ?_) 97 rfl rfl rfl (of_decide_eq_true rfl) rfl hHeld (fun wq hSq K Q hK => ?_) ?_
                        rotate_left
                        · ((have r1 := hSq.1; go_step); exact hK)
                        refine T_light (a' := ?_) 98 rfl rfl rfl (of_decide_eq_true rfl) rfl hHeld (fun wq hSq K Q hK => ?_) ?_
                        rotate_left
                        · (go_step; exact hK)
                        refine T_light (a' := ?_) 99 rfl rfl rfl (of_decide_eq_true rfl) rfl hHeld (fun wq hSq K Q hK => ?_) ?_
                        rotate_left
                        · (go_step; exact hK)
                        refine T_light (a' := ?_) 100 rfl rfl rfl (of_decide_eq_true rfl) rfl hHeld (fun wq hSq K Q hK => ?_) ?_
                        rotate_left
                        · (go_step; exact hK)
                        refine T_light (a' := ?_) 101 rfl rfl rfl (of_decide_eq_true rfl) rfl hHeld (fun wq hSq K Q hK => ?_) ?_
                        rotate_left
                        · (go_step; exact hK)
                        refine T_light (a' := ?_) 102 rfl rfl rfl (of_decide_eq_true rfl) rfl hHeld (fun wq hSq K Q hK => ?_) ?_
                        rotate_left
                        · (go_step; exact hK)
                        refine T_light (a' := ?_) 103 rfl rfl rfl (of_decide_eq_true rfl) rfl hHeld (fun wq hSq K Q hK => ?_) ?_
                        rotate_left
                        · ((have r1 := hSq.1; go_step); exact hK)
                        refine T_light (a' := ?_) 104 rfl rfl rfl (of_decide_eq_true rfl) rfl hHeld (fun wq hSq K Q hK => ?_) ?_
                        rotate_left
                        · (go_step; exact hK)
                        refine T_light (a' := ?_) 105 rfl rfl rfl (of_decide_eq_true rfl) rfl hHeld (fun wq hSq K Q hK => ?_) ?_
                        rotate_left
                        · (go_step; exact hK)
                        refine T_light (a' := ?_) 106 rfl rfl rfl (of_decide_eq_true rfl) rfl hHeld (fun wq hSq K Q hK => ?_) ?_
                        rotate_left
                        · (go_step; exact hK)
                        refine T_light (a' := ?_) 107 rfl rfl rfl (of_decide_eq_true rfl) rfl hHeld (fun wq hSq K Q hK => ?_) ?_
                        rotate_left
                        · (go_step; exact hK)
                        refine T_light (a' := ?_) 108 rfl rfl rfl (of_decide_eq_true rfl) rfl hHeld (fun wq hSq K Q hK => ?_) ?_
                        rotate_left
                        · (go_step; exact hK)
                        refine T_light (a' := ?_) 109 rfl rfl rfl (of_decide_eq_true rfl) rfl hHeld (fun wq hSq K Q hK => ?_) ?_
                        rotate_left
                        · (go_step; exact hK)
                        refine T_light (a' := ?_) 110 rfl rfl rfl (of_decide_eq_true rfl) rfl hHeld (fun wq hSq K Q hK => ?_) ?_
                        rotate_left
                        · (go_step; exact hK)
                        refine T_light (a' := ?_) 111 rfl rfl rfl (of_decide_eq_true rfl) rfl hHeld (fun wq hSq K Q hK => ?_) ?_
                        rotate_left
                        · (go_step; exact hK)
                        refine T_light (a' := ?_) 112 rfl rfl rfl (of_decide_eq_true rfl) rfl hHeld (fun wq hSq K Q hK => ?_) ?_
                        rotate_left
                        · (go_step; exact hK)
                        refine T_light (a' := ?_) 113 rfl rfl rfl (of_decide_eq_true rfl) rfl hHeld (fun wq hSq K Q hK => ?_) ?_
                        rotate_left
                        · (go_step; exact hK)
                        refine T_light (a' := ?_) 114 rfl rfl rfl (of_decide_eq_true rfl) rfl hHeld (fun wq hSq K Q hK => ?_) ?_
                        rotate_left
                        · ((have r1 := hSq.1; go_step); exact hK)
                        refine T_light (a' := ?_) 115 rfl rfl rfl (of_decide_eq_true rfl) rfl hHeld (fun wq hSq K Q hK => ?_) ?_
                        rotate_left
                        · (go_step; exact hK)
                        refine T_light (a' := ?_) 116 rfl rfl rfl (of_decide_eq_true rfl) rfl hHeld (fun wq hSq K Q hK => ?_) ?_
                        rotate_left
                        · (go_step; exact hK)
                        refine T_light (a' := ?_) 117 rfl rfl rfl (of_decide_eq_true rfl) rfl hHeld (fun wq hSq K Q hK => ?_) ?_
                        rotate_left
                        · (go_step; exact hK)
                        refine T_light (a' := ?_) 118 rfl rfl rfl (of_decide_eq_true rfl) rfl hHeld (fun wq hSq K Q hK => ?_) ?_
                        rotate_left
                        · (go_step; exact hK)
                        refine T_light (a' := ?_) 119 rfl rfl rfl (of_decide_eq_true rfl) rfl hHeld (fun wq hSq K Q hK => ?_) ?_
                        rotate_left
                        · ((have r1 := hSq.2; go_step); exact hK)
                        refine T_light (a' := ?_) 120 rfl rfl rfl (of_decide_eq_true rfl) rfl hHeld (fun wq hSq K Q hK => ?_) ?_
                        rotate_left
                        · (go_step; exact hK)
                        refine T_light (a' := ?_) 121 rfl rfl rfl (of_decide_eq_true rfl) rfl hHeld (fun wq hSq K Q hK => ?_) ?_
                        rotate_left
                        · (go_step; exact hK)
                        refine T_light (a' := ?_) 122 rfl rfl rfl (of_decide_eq_true rfl) rfl hHeld (fun wq hSq K Q hK => ?_) ?_
                        rotate_left
                        · (go_step; exact hK)
                        refine T_light (a' := ?_) 123 rfl rfl rfl (of_decide_eq_true rfl) rfl hHeld (fun wq hSq K Q hK => ?_) ?_
                        rotate_left
                        · (go_step; exact hK)
                        refine T_light (a' := ?_) 124 rfl rfl rfl (of_decide_eq_true rfl) rfl hHeld (fun wq hSq K Q hK => ?_) ?_
                        rotate_left
                        · (go_step; exact hK)
                        refine T_light (a' := ?_) 125 rfl rfl rfl (of_decide_eq_true rfl) rfl hHeld (fun wq hSq K Q hK => ?_) ?_
                        rotate_left
                        · (go_step; exact hK)
                        refine T_light (a' := ?_) 126 rfl rfl rfl (of_decide_eq_true rfl) rfl hHeld (fun wq hSq K Q hK => ?_) ?_
                        rotate_left
                        · (go_step; exact hK)
                        refine T_light (a' := ?_) 127 rfl rfl rfl (of_decide_eq_true rfl) rfl hHeld (fun wq hSq K Q hK => ?_) ?_
                        rotate_left
                        · ((have r1 := hSq.1; go_step); exact hK)
                        refine T_light (a' := ?_) 128 rfl rfl rfl (of_decide_eq_true rfl) rfl hHeld (fun wq hSq K Q hK => ?_) ?_
                        rotate_left
                        · (go_step; exact hK)
                        refine T_light (a' := ?_) 129 rfl rfl rfl (of_decide_eq_true rfl) rfl hHeld (fun wq hSq K Q hK => ?_) ?_
                        rotate_left
                        · (go_step; exact hK)
                        refine T_light (a' := ?_) 130 rfl rfl rfl (of_decide_eq_true rfl) rfl hHeld (fun wq hSq K Q hK => ?_) ?_
                        rotate_left
                        · (go_step; exact hK)
                        refine T_light (a' := ?_) 131 rfl rfl rfl (of_decide_eq_true rfl) rfl hHeld (fun wq hSq K Q hK => ?_) ?_
                        rotate_left
                        · (go_step; exact hK)
                        refine T_pass2 (a' := ?_) 132 rfl rfl (by kernel_rfl) (fun K hK => ?_) ?_
                        rotate_left
                        · (simp only [Act.put, List.setIfInBounds_toArray, List.set_cons_zero, List.set_cons_succ]; exact hK)
                        refine T_pass2 (a' := ?_) 133 rfl rfl (by kernel_rfl) (fun K hK => ?_) ?_
                        rotate_left
                        · (simp only [Act.put, List.setIfInBounds_toArray, List.set_cons_zero, List.set_cons_succ]; exact hK)
                        refine T_pass2 (a' := ?_) 134 rfl rfl (by kernel_rfl) (fun K hK => ?_) ?_
                        rotate_left
                        · (simp only [Act.put, List.setIfInBounds_toArray, List.set_cons_zero, List.set_cons_succ]; exact hK)
                        refine T_pass2 (a' := ?_) 135 rfl rfl (by kernel_rfl) (fun K hK => ?_) ?_
                        rotate_left
                        · (simp only [Act.put, List.setIfInBounds_toArray, List.set_cons_zero, List.set_cons_succ]; exact hK)
                        refine T_pass2 (a' := ?_) 136 rfl rfl (by kernel_rfl) (fun K hK => ?_) ?_
                        rotate_left
                        · (simp only [Act.put, List.setIfInBounds_toArray, List.set_cons_zero, List.set_cons_succ]; exact hK)
                        refine T_pass2 (a' := ?_) 137 rfl rfl (by kernel_rfl) (fun K hK => ?_) ?_
                        rotate_left
                        · (simp only [Act.put, List.setIfInBounds_toArray, List.set_cons_zero, List.set_cons_succ]; exact hK)
                        refine T_pass2 (a' := ?_) 138 rfl rfl (by kernel_rfl) (fun K hK => ?_) ?_
                        rotate_left
                        · (simp only [Act.put, List.setIfInBounds_toArray, List.set_cons_zero, List.set_cons_succ]; exact hK)
                        refine T_light (a' := ?_) 139 rfl rfl rfl (of_decide_eq_true rfl) rfl hHeld (fun wq hSq K Q hK => ?_) ?_
                        rotate_left
                        · (go_step; exact hK)
                        refine T_light (a' := ?_) 140 rfl rfl rfl (of_decide_eq_true rfl) rfl hHeld (fun wq hSq K Q hK => ?_) ?_
                        rotate_left
                        · (go_step; exact hK)
                        refine T_light (a' := ?_) 141 rfl rfl rfl (of_decide_eq_true rfl) rfl hHeld (fun wq hSq K Q hK => ?_) ?_
                        rotate_left
                        · (go_step; exact hK)
                        refine T_light (a' := ?_) 142 rfl rfl rfl (of_decide_eq_true rfl) rfl hHeld (fun wq hSq K Q hK => ?_) ?_
                        rotate_left
                        · (go_step; exact hK)
                        refine T_light (a' := ?_) 143 rfl rfl rfl (of_decide_eq_true rfl) rfl hHeld (fun wq hSq K Q hK => ?_) ?_
                        rotate_left
                        · (go_step; exact hK)
                        refine T_light (a' := ?_) 144 rfl rfl rfl (of_decide_eq_true rfl) rfl hHeld (fun wq hSq K Q hK => ?_) ?_
                        rotate_left
                        · (go_step; exact hK)
                        refine T_light (a' := ?_) 145 rfl rfl rfl (of_decide_eq_true rfl) rfl hHeld (fun wq hSq K Q hK => ?_) ?_
                        rotate_left
                        · (go_step; exact hK)
                        refine T_light (a' := ?_) 146 rfl rfl rfl (of_decide_eq_true rfl) rfl hHeld (fun wq hSq K Q hK => ?_) ?_
                        rotate_left
                        · (go_step; exact hK)
                        refine T_pass2 (a' := ?_) 147 rfl rfl (by kernel_rfl) (fun K hK => ?_) ?_
                        rotate_left
                        · (simp only [Act.put, List.setIfInBounds_toArray, List.set_cons_zero, List.set_cons_succ]; exact hK)
                        refine T_pass2 (a' := ?_) 148 rfl rfl (by kernel_rfl) (fun K hK => ?_) ?_
                        rotate_left
                        · (simp only [Act.put, List.setIfInBounds_toArray, List.set_cons_zero, List.set_cons_succ]; exact hK)
                        refine T_pass2 (a' := ?_) 149 rfl rfl (by kernel_rfl) (fun K hK => ?_) ?_
                        rotate_left
                        · (simp only [Act.put, List.setIfInBounds_toArray, List.set_cons_zero, List.set_cons_succ]; exact hK)
                        refine T_pass2 (a' := ?_) 150 rfl rfl (by kernel_rfl) (fun K hK => ?_) ?_
                        rotate_left
                        · (simp only [Act.put, List.setIfInBounds_toArray, List.set_cons_zero, List.set_cons_succ]; exact hK)
                        refine T_pass2 (a' := ?_) 151 rfl rfl (by kernel_rfl) (fun K hK => ?_) ?_
                        rotate_left
                        · (simp only [Act.put, List.setIfInBounds_toArray, List.set_cons_zero, List.set_cons_succ]; exact hK)
                        refine T_pass2 (a' := ?_) 152 rfl rfl (by kernel_rfl) (fun K hK => ?_) ?_
                        rotate_left
                        · (simp only [Act.put, List.setIfInBounds_toArray, List.set_cons_zero, List.set_cons_succ]; exact hK)
                        refine T_pass2 (a' := ?_) 153 rfl rfl (by kernel_rfl) (fun K hK => ?_) ?_
                        rotate_left
                        · (simp only [Act.put, List.setIfInBounds_toArray, List.set_cons_zero, List.set_cons_succ]; exact hK)
                        refine T_pass2 (a' := ?_) 154 rfl rfl (by kernel_rfl) (fun K hK => ?_) ?_
                        rotate_left
                        · (simp only [Act.put, List.setIfInBounds_toArray, List.set_cons_zero, List.set_cons_succ]; exact hK)
                        refine T_pass2 (a' := ?_) 155 rfl rfl (by kernel_rfl) (fun K hK => ?_) ?_
                        rotate_left
                        · (simp only [Act.put, List.setIfInBounds_toArray, List.set_cons_zero, List.set_cons_succ]; exact hK)
                        refine T_light (a' := ?_) 156 rfl rfl rfl (of_decide_eq_true rfl) rfl hHeld (fun wq hSq K Q hK => ?_) ?_
                        rotate_left
                        · (go_step; exact hK)
                        refine T_light (a' := ?_) 157 rfl rfl rfl (of_decide_eq_true rfl) rfl hHeld (fun wq hSq K Q hK => ?_) ?_
                        rotate_left
                        · (go_step; exact hK)
                        refine T_done ?_
                        clear hHeld
                        go_wp2_with fail
                        go_roundg f
                        case measure => exact Nat.lt_succ_self f
                        case rel => exact ⟨i + 1, by rw [e1], Lib.hid (mt_nx HI.out), Lib.hid ⟨HW.out.1, HW.out.2.1.drew, HW.out.2.2.drew⟩⟩
end Go.Proofs.Ytolkmjclldjkkaa
