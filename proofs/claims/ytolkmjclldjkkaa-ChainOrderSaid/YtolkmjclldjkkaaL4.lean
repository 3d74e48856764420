/-
  ChainMatch: the walk, for every text, place, depth and length.
-/
import Derived.Test.YtolkmjclldjkkaaMa
set_option linter.unusedSimpArgs false
set_option linter.unusedVariables false
namespace Go.Proofs.Ytolkmjclldjkkaa
open Go.RowKit

theorem mt1 {x y j p S : Nat} (hS : S ≤ 2048) (hpj : p < j) (hy : y = j - p) (hx3 : 3 ≤ x) (hx : x ≤ 258) (hjx : j + x ≤ S) :
    decide ((x : Int) < 3) = false ∧ decide (x < 3) = false ∧ decide ((258 : Int) < (x : Int)) = false ∧ decide (258 < x) = false ∧ decide ((y : Int) < 1) = false ∧ decide (y < 1) = false ∧ decide (y = 0) = false ∧ decide ((j : Int) < (y : Int)) = false ∧ decide (j < y) = false ∧
    wrap64 ((j : Int) + (x : Int)) = (j : Int) + (x : Int) ∧ decide ((S : Int) < (j : Int) + (x : Int)) = false ∧ decide (S < j + x) = false ∧ wrap64 ((j : Int) - (y : Int)) = (p : Int) ∧ ¬ (x = 0) ∧ ((x : Int) == 0) = false ∧ decide ((x : Int) = 0) = false := by
  unfold wrap64
  refine ⟨?_, ?_, ?_, ?_, ?_, ?_, ?_, ?_, ?_, ?_, ?_, ?_, ?_, by omega, ?_, ?_⟩
  all_goals first
    | omega
    | (rw [decide_eq_false_iff_not]; omega)
    | (rw [beq_eq_false_iff_ne]; omega)
theorem mt_n2 {p j i S : Nat} (h : p < j) (h2 : j + i < S) : (p : Int) + (i : Int) < (S : Int) := by omega
theorem mt2 {x j p S i : Nat} (hS : S ≤ 2048) (hpj : p < j) (hi : i ≤ 258) (hj : j < S) :
    wrap64 ((i : Int) + 1) = ((i + 1 : Nat) : Int) ∧ wrap64 ((j : Int) + (i : Int)) = (j : Int) + (i : Int) ∧ wrap64 ((p : Int) + (i : Int)) = (p : Int) + (i : Int) ∧ (0 : Int) ≤ (p : Int) + (i : Int) ∧ (0 : Int) ≤ (j : Int) + (i : Int) := by
  unfold wrap64
  refine ⟨?_, ?_, ?_, ?_, ?_⟩
  all_goals omega
theorem mt_lt {i x : Nat} (h : i < x) : decide (i < x) = true ∧ decide ((i : Int) < (x : Int)) = true := by
  constructor
  all_goals (rw [decide_eq_true_eq]; omega)
theorem mt_ge {i x : Nat} (h : ¬ i < x) : decide (i < x) = false ∧ decide ((i : Int) < (x : Int)) = false := by
  constructor
  all_goals (rw [decide_eq_false_iff_not]; omega)
theorem mt_ad {i a x : Nat} (h : a + i < x) : decide (a + i < x) = true ∧ decide ((a : Int) + (i : Int) < (x : Int)) = true ∧ (a : Int) + (i : Int) < (x : Int) := by
  refine ⟨?_, ?_, by omega⟩
  all_goals (rw [decide_eq_true_eq]; omega)
theorem mt_adn {i a x : Nat} (h : ¬ a + i < x) : decide (a + i < x) = false ∧ decide ((a : Int) + (i : Int) < (x : Int)) = false := by
  constructor
  all_goals (rw [decide_eq_false_iff_not]; omega)
theorem mt_up {k S : Nat} (h : k < S) (h2 : S ≤ 2048) : k ≤ 140737488355328 := by omega
theorem mt_cl {a k S : Nat} (h : a ≤ k) (h1 : k < S) (h2 : S ≤ 2048) : a ≤ 2048 := by omega
theorem mt_nx {m f a : Nat} (h : m + (f + 1) = a) : m + 1 + f = a := by omega
theorem mt_nl {m f a : Nat} (h : m + (f + 1) = a) : m < a := by omega
theorem mt_m1 {m a : Nat} (h : m < a) (h2 : a ≤ 2048) : wrap64 ((m : Int) + 1) = ((m + 1 : Nat) : Int) := by unfold wrap64; omega
theorem mt_q {q j : Nat} (h : q < j) : decide ((q : Int) < 0) = false ∧ decide (q < 0) = false ∧ decide (j ≤ q) = false ∧ decide ((j : Int) ≤ (q : Int)) = false := by
  refine ⟨?_, ?_, ?_, ?_⟩
  all_goals (rw [decide_eq_false_iff_not]; omega)
theorem mt_nice {R i nice : Nat} (h : R ≤ i ∨ (nice : Int) ≤ (i : Int)) (h2 : i < R) : ¬ i < nice := by omega
theorem mt_ne {a b : Nat} (h : ¬ a = b) : ((a : Int) == (b : Int)) = false := by rw [beq_eq_false_iff_ne]; omega
theorem mt_plf {k S d : Nat} (h : k < S) (h2 : S ≤ 2048) (hd : d < 256) : (upto k).length < 1000000 ∧ (∀ p ∈ upto k, (p : Int) < (k : Int)) ∧ (k : Int) ≤ 9223372036854775807 ∧ (d : Int) ≤ 9223372036854775807 := by
  rw [upto_length]
  exact ⟨by omega, fun p hp => by have := upto_lt hp; omega, by omega, by omega⟩
theorem row_get {w : World} {base : Nat} {v : Value} {cs : List Nat} (h : w.ownsRow base 3 1 v cs.length (placeV cs)) :
    ∃ a c, v = .slice a cs.length c ∧ ∀ i q, cs[i]? = some q → ∃ g, a = some ⟨g, 0, none⟩ ∧ w.cell? ⟨g, i, none⟩ = some (.int .i64 (q : Nat)) := by
  have h2 := h
  rcases h.2 with ⟨rfl, hn⟩ | ⟨g, cap, cur, rfl, _⟩
  · have hl : cs.length = 0 := hn
    refine ⟨none, 0, by rw [hl], fun i q hq => ?_⟩
    have := List.eq_nil_of_length_eq_zero hl
    subst this
    simp at hq
  · refine ⟨_, cap, rfl, fun i q hq => ⟨g, rfl, ?_⟩⟩
    have := h2.cells (g := g) rfl i (.int .i64 (q : Nat)) (by unfold placeV; rw [List.getElem?_map, hq]; rfl)
    cases i with
    | zero => simpa [Addr.add] using this
    | succ i => simpa [Addr.add] using this
theorem Fnd.drew {W : World} {n₀ A : Nat} {s : ByteArray} {l : List Nat} (h : Fnd W n₀ A s l) : Fnd W.drew n₀ A s l := h.below (Below.refl _ W).drew

set_option maxRecDepth 100000 in
set_option maxHeartbeats 8000000 in
theorem match_all (s : ByteArray) (hs : s.size ≤ 140737488351232) (at_ : Nat) (hat : at_ < 65536) (depth : Nat) (hd : depth < 256) (nice : Nat) (hni : nice < 256) (w : World) :
    Calls Try.prog 3 #[.string s, .int .u16 (at_ : Nat), .int .u8 (depth : Nat), .int .u8 (nice : Nat)] w fun e w' => e = .returned (.bool true) ∧ Below w.heap.size w w' := by
  have HS := Lib.hid hs
  have HA := Lib.hid (And.intro hat (And.intro hd hni))
  clear hs hat hd hni
  go_enter Try.func3, Try.ntmps3
  by_cases h1 : 2048 < s.size
  · have d1 : decide (2048 < s.size) = true := by rw [decide_eq_true_eq]; exact h1
    have d1' : decide ((2048 : Int) < (s.size : Int)) = true := by rw [decide_eq_true_eq]; omega
    clear h1
    go_wp2_with fail
    refine (works_any w).mono ?_
    rintro e w8 ⟨rfl, hb8⟩
    have HB8 := Lib.hid hb8
    clear hb8
    go_wp2_with fail
    go_ret
    exact ⟨rfl, HB8.out⟩
  · have d1 : decide (2048 < s.size) = false := by rw [decide_eq_false_iff_not]; exact h1
    have d1' : decide ((2048 : Int) < (s.size : Int)) = false := by rw [decide_eq_false_iff_not]; omega
    have HS2 := Lib.hid (show s.size ≤ 2048 by omega)
    clear h1
    by_cases h0 : s.size = 0
    · have d0 : ((s.size : Int) == 0) = true := by rw [h0]; rfl
      have d0' : decide (s.size = 0) = true := by rw [h0]; rfl
      go_wp2_with fail
      refine (works_any w).mono ?_
      rintro e w8 ⟨rfl, hb8⟩
      have HB8 := Lib.hid hb8
      clear hb8
      go_wp2_with fail
      go_ret
      exact ⟨rfl, HB8.out⟩
    · have d0 : ((s.size : Int) == 0) = false := by simpa using h0
      have d0' : decide (s.size = 0) = false := by simpa using h0
      have HS0 := Lib.hid (show 0 < s.size by omega)
      clear h0
      go_wp2_with fail
      refine (new_any s w HS.out).mono ?_
      rintro e w1 ⟨A, rfl, hf1, hb1⟩
      have HF1 := Lib.hid hf1
      have HB1 := Lib.hid hb1
      clear hf1 hb1
      obtain ⟨k, hk⟩ : ∃ k, at_ % s.size = k := ⟨_, rfl⟩
      have ek : (at_ : Int) % (s.size : Int) = (k : Int) := by rw [← hk]; omega
      have HK := Lib.hid (show k < s.size by rw [← hk]; exact Nat.mod_lt _ HS0.out)
      have hz : ¬ ((s.size : Int) = 0) := by have := HS0.out; omega
      have ew : wrap64 (at_ : Int) = (at_ : Int) := by have := HA.out; unfold wrap64; omega
      have et : (at_ : Int).tmod (s.size : Int) = (k : Int) := by rw [Int.tmod_eq_emod_of_nonneg (by omega)]; exact ek
      have wd : wrap64 (depth : Int) = (depth : Int) := by have := HA.out; unfold wrap64; omega
      have wn : wrap64 (nice : Int) = (nice : Int) := by have := HA.out; unfold wrap64; omega
      clear hk
      go_wp2_with fail
      (try simp only [ew, et])
      go_loopg [11] k (fun f s11 wx => ∃ j : Nat, s11 = .int .i64 (j : Int) ∧ Hid (j + f = k) ∧ Hid (Fnd wx w.heap.size A s (upto j)) ∧ Hid (Below w.heap.size w wx))
      case atStart => exact ⟨0, rfl, Lib.hid (Nat.zero_add _), HF1, HB1⟩
      case round =>
        clear HF1 HB1
        obtain ⟨j, rfl, HJ, HF, HB⟩ := hrel
        cases gk with
        | succ f =>
          have HJ3 := Lib.hid (show j < k by have := HJ.out; omega)
          have dk : decide (j < k) = true := by rw [decide_eq_true_eq]; exact HJ3.out
          have dk2 : decide ((j : Int) < (k : Int)) = true := by rw [decide_eq_true_eq]; have := HJ3.out; omega
          have e1 : wrap64 ((j : Int) + 1) = ((j + 1 : Nat) : Int) := by have := HJ3.out; have := HK.out; have := HS.out; unfold wrap64; omega
          go_wp2_with fail
          refine (put_any (j : Int) w.heap.size A s (upto j) wr HF.out (by rw [upto_length]; have := HJ3.out; have := HK.out; have := HS2.out; omega) HB.out.size).mono ?_
          rintro e w2 ⟨rfl, hf2, hk2⟩
          rw [put_upto _ _ (show j < s.size by have := HJ3.out; have := HK.out; omega)] at hf2 ⊢
          have HF2 := Lib.hid hf2
          have HB2 := Lib.hid (HB.out.trans hk2.below)
          clear hf2 hk2
          go_wp2_with fail
          go_roundg f
          case measure => exact Nat.lt_succ_self f
          case rel => exact ⟨j + 1, by rw [e1], Lib.hid (by have := HJ.out; omega), HF2, HB2⟩
        | zero =>
          obtain rfl : j = k := HJ.out
          go_wp2_with fail
          refine (find_any (j : Int) (depth : Int) (nice : Int) 2 w.heap.size A s (upto j) wr HF.out (fun p hp => by have := upto_lt hp; have := HK.out; omega) (by have := HK.out; have := HS.out; omega) (by have := HA.out; omega)).mono ?_
          rintro e w2 ⟨rfl, hf2, hb2⟩
          have HM := Lib.hid (find_match (byteL s) j (depth : Int) (nice : Int) (upto j))
          obtain ⟨x, y, hm⟩ : ∃ x y, findL (byteL s) (upto j) (j : Int) (depth : Int) (nice : Int) 2 = (x, y) := ⟨_, _, rfl⟩
          rw [hm] at HM ⊢
          have HF2 := Lib.hid hf2
          have HB2 := Lib.hid (HB.out.trans (hb2.mono HB.out.size))
          clear hm hf2 hb2 hz ek et ew
          obtain ⟨B, hB⟩ : ∃ B, w2.heap.size = B := ⟨_, rfl⟩
          have h3 : (w2.alloc (.cells #[.int .i64 (x : Nat), .int .i64 (y : Nat)] 29)).heap[B]? = some (.cells #[.int .i64 (x : Nat), .int .i64 (y : Nat)] 29 (0, 0)) := by rw [← hB]; exact heap_alloc_last w2 _
          have hb3 : Below w2.heap.size w2 (w2.alloc (.cells #[.int .i64 (x : Nat), .int .i64 (y : Nat)] 29)) := (Below.refl _ w2).alloc (Nat.le_refl _) _
          have HF3 := Lib.hid (HF2.out.below hb3)
          have HB3 := Lib.hid (HB2.out.trans (hb3.mono HB2.out.size))
          clear hb3
          by_cases hx0 : x = 0
          · have hxy : y = 0 ∧ placesL (byteL s) (upto j) (j : Int) (depth : Int) = [] := by
              rcases HM.out with ⟨h, h2⟩ | ⟨_, h, _⟩
              · cases h; exact ⟨rfl, h2⟩
              · have : 3 ≤ x := h; omega
            have HP := Lib.hid hxy.2
            have hy0 := hxy.1
            subst hx0 hy0
            have q0 : (w2.alloc (.cells #[.int .i64 0, .int .i64 0] 29)).cell? ⟨B, 0, none⟩ = some (.int .i64 0) := cell_blk h3 0
            have q1 : (w2.alloc (.cells #[.int .i64 0, .int .i64 0] 29)).cell? ⟨B, 1, none⟩ = some (.int .i64 0) := cell_blk h3 1
            have qe : (binOp .eql 29 (.agg #[.int .i64 0, .int .i64 0]) (.agg #[.int .i64 0, .int .i64 0])).run Try.prog (w2.alloc (.cells #[.int .i64 0, .int .i64 0] 29)) = .ok (.bool true) (w2.alloc (.cells #[.int .i64 0, .int .i64 0] 29)) := eq29 _ 0 0 0 0
            have HF4 := Lib.hid (show Fnd (w2.alloc (.cells #[.int .i64 0, .int .i64 0] 29)) w.heap.size A s (upto j) from HF3.out)
            have HB4 := Lib.hid (show Below w.heap.size w (w2.alloc (.cells #[.int .i64 0, .int .i64 0] 29)) from HB3.out)
            clear h3 hxy HF3 HB3 HM
            by_cases hd0 : depth = 0
            · subst hd0
              go_wp2_with fail
              refine (works_any _).mono ?_
              rintro e w8 ⟨rfl, hb8⟩
              have HB8 := Lib.hid (HB4.out.trans (hb8.mono HB4.out.size))
              clear hb8
              go_wp2_with fail
              go_ret
              exact ⟨rfl, HB8.out⟩
            · have dd : ((depth : Int) == 0) = false := by simpa using hd0
              have dd2 : decide (depth = 0) = false := by simpa using hd0
              have HP1 := Lib.hid (place_one (show (1 : Int) ≤ (depth : Int) by omega) HP.out)
              clear hd0
              go_wp2_with fail
              refine (places_any (j : Int) 1 w.heap.size A s (upto j) _ HF4.out (by rw [upto_length]; have := HK.out; have := HS2.out; omega) (fun p hp => by have := upto_lt hp; omega) (by have := HK.out; have := HS.out; omega) (by decide)).mono ?_
              rintro e w5 ⟨v, rfl, hrow, hf5, hb5⟩
              rw [HP1.out] at hrow
              have HB5 := Lib.hid (HB4.out.trans (hb5.mono HB4.out.size))
              obtain ⟨a, c, rfl⟩ : ∃ a c, v = .slice a 0 c := by
                rcases hrow.2 with ⟨rfl, _⟩ | ⟨g, cap, cur, rfl, _⟩
                · exact ⟨_, _, rfl⟩
                · exact ⟨_, _, rfl⟩
              clear hrow hf5 hb5
              go_wp2_with fail
              refine (works_any _).mono ?_
              rintro e w8 ⟨rfl, hb8⟩
              have HB8 := Lib.hid (HB5.out.trans (hb8.mono HB5.out.size))
              clear hb8
              go_wp2_with fail
              go_ret
              exact ⟨rfl, HB8.out⟩
          · obtain ⟨p, hpm, hxp, hyp, hx3, hall⟩ : ∃ p, p ∈ placesL (byteL s) (upto j) (j : Int) (depth : Int) ∧ x = longL (byteL s) p j ∧ y = j - p ∧ 3 ≤ x ∧ ∀ q ∈ placesL (byteL s) (upto j) (j : Int) (depth : Int), longL (byteL s) q j ≤ x ∨ (nice : Int) ≤ (x : Int) := by
              rcases HM.out with ⟨h, h2⟩ | ⟨⟨p, hp, h⟩, h2, h3⟩
              · cases h; exact absurd rfl hx0
              · cases h; exact ⟨p, hp, rfl, rfl, h2, h3⟩
            obtain ⟨_, k3, _, _, hpl, _⟩ := place_mem hpm
            have hpj := upto_lt hpl
            have HP := Lib.hid (And.intro hpj (And.intro hxp (And.intro hyp hx3)))
            have HALL := Lib.hid hall
            have hxpe := hxp.symm
            have hx258 : x ≤ 258 := by rw [hxp]; exact long_le _ _ _
            have hjx : j + x ≤ s.size := by
              have := (long_same (byteL s) p j (x - 1) (by omega)).1
              rw [byteL_length] at this
              omega
            have HX := Lib.hid (And.intro hx258 hjx)
            have q0 : (w2.alloc (.cells #[.int .i64 (x : Nat), .int .i64 (y : Nat)] 29)).cell? ⟨B, 0, none⟩ = some (.int .i64 (x : Nat)) := cell_blk h3 0
            have q1 : (w2.alloc (.cells #[.int .i64 (x : Nat), .int .i64 (y : Nat)] 29)).cell? ⟨B, 1, none⟩ = some (.int .i64 (y : Nat)) := cell_blk h3 1
            have qe : (binOp .eql 29 (.agg #[.int .i64 (x : Nat), .int .i64 (y : Nat)]) (.agg #[.int .i64 0, .int .i64 0])).run Try.prog (w2.alloc (.cells #[.int .i64 (x : Nat), .int .i64 (y : Nat)] 29)) = .ok (.bool false) (w2.alloc (.cells #[.int .i64 (x : Nat), .int .i64 (y : Nat)] 29)) := by
              rw [eq29, decide_eq_false (by omega)]
            obtain ⟨t1, t1', t2, t2', t3, t3', t3'', t4, t4', e5, t5, t5', e6, x0, x0', x0''⟩ := mt1 HS2.out hpj hyp hx3 hx258 hjx
            have H3 := Lib.hid h3
            clear h3 hpm hxp hyp hx3 hall hpl hpj hx258 hjx HM hx0
            have HE := Lib.hid (show longL (byteL s) p j = x from hxpe)
            have HI0 := Lib.hid (show (w2.alloc (.cells #[.int .i64 (x : Nat), .int .i64 (y : Nat)] 29)).cell? ⟨B, 0, none⟩ = some (.int .i64 (x : Nat)) ∧ (w2.alloc (.cells #[.int .i64 (x : Nat), .int .i64 (y : Nat)] 29)).cell? ⟨B, 1, none⟩ = some (.int .i64 (y : Nat)) ∧ Fnd (w2.alloc (.cells #[.int .i64 (x : Nat), .int .i64 (y : Nat)] 29)) w.heap.size A s (upto j) ∧ Below w.heap.size w (w2.alloc (.cells #[.int .i64 (x : Nat), .int .i64 (y : Nat)] 29)) from ⟨q0, q1, HF3.out, HB3.out⟩)
            clear hxpe
            go_wp2_with fail
            (try simp only [e5])
            go_loopg [8, 13] x (fun f s8 s13 wx => ∃ i : Nat, s13 = .int .i64 (i : Int) ∧ Hid (i + f = x) ∧ Hid (wx.cell? ⟨B, 0, none⟩ = some (.int .i64 (x : Nat)) ∧ wx.cell? ⟨B, 1, none⟩ = some (.int .i64 (y : Nat)) ∧ Fnd wx w.heap.size A s (upto j) ∧ Below w.heap.size w wx))
            case atStart => exact ⟨0, rfl, Lib.hid (Nat.zero_add _), HI0⟩
            case round =>
              obtain ⟨i, rfl, HI, HW⟩ := hrel
              clear q0 q1 qe HF2 HB2 HF3 HB3 H3 HI0 hB
              have q0 := HW.out.1
              have q1 := HW.out.2.1
              cases gk with
              | succ f =>
                have hix : i < x := mt_nl HI.out
                obtain ⟨dk, dk2⟩ := mt_lt hix
                obtain ⟨e1, e2, e3, n1, n3⟩ := mt2 (x := x) (i := i) HS2.out HP.out.1 (by have := HX.out.1; omega) HK.out
                obtain ⟨hb1, hb2⟩ := long_same (byteL s) p j i (by rw [HE.out]; exact hix)
                rw [byteL_length] at hb1
                obtain ⟨_, _, n4⟩ := mt_ad hb1
                have n2 : (p : Int) + (i : Int) < (s.size : Int) := mt_n2 HP.out.1 hb1
                obtain ⟨c, hx2, hy2⟩ : ∃ c : Nat, (∀ h', ((s[p + i]'h').toNat : Int) = (c : Int)) ∧ ∀ h', ((s[j + i]'h').toNat : Int) = (c : Int) := ⟨_, fun h' => by rw [idx_byte s (p + i) h'], fun h' => by rw [idx_byte s (j + i) h', hb2]⟩
                have HH := Lib.hid (show wr.drew.cell? ⟨B, 1, none⟩ = some (.int .i64 (y : Nat)) from q1)
                clear hb1 hb2 hix
                go_wp2_with fail
                have hHeld := HH.out
                refine wp_region_T (fun w' => w'.cell? ⟨B, 1, none⟩ = some (.int .i64 (y : Nat))) [.take 0, .take 1, .take 2, .take 3, .take 4, .take 5, .take 6, .take 7, .take 8, .take 9, .take 10, .take 11, .take 12, .take 13] (by kernel_rfl) (by kernel_rfl) (fun _ _ _ _ _ h => h) hHeld ?_
                refine T_light (a' := ?_) 98 rfl rfl rfl (of_decide_eq_true rfl) rfl hHeld (fun wq hSq K Q hK => ?_) ?_
                rotate_left
                · (go_step; exact hK)
                refine T_light (a' := ?_) 99 rfl rfl rfl (of_decide_eq_true rfl) rfl hHeld (fun wq hSq K Q hK => ?_) ?_
                rotate_left
                · (go_step; exact hK)
                refine T_light (a' := ?_) 100 rfl rfl rfl (of_decide_eq_true rfl) rfl hHeld (fun wq hSq K Q hK => ?_) ?_
                rotate_left
                · (go_step; exact hK)
                refine T_light (a' := ?_) 101 rfl rfl rfl (of_decide_eq_true rfl) rfl hHeld (fun wq hSq K Q hK => ?_) ?_
                rotate_left
                · (go_step; exact hK)
                refine T_light (a' := ?_) 102 rfl rfl rfl (of_decide_eq_true rfl) rfl hHeld (fun wq hSq K Q hK => ?_) ?_
                rotate_left
                · (go_step; exact hK)
                refine T_light (a' := ?_) 103 rfl rfl rfl (of_decide_eq_true rfl) rfl hHeld (fun wq hSq K Q hK => ?_) ?_
                rotate_left
                · (go_step; exact hK)
                refine T_light (a' := ?_) 104 rfl rfl rfl (of_decide_eq_true rfl) rfl hHeld (fun wq hSq K Q hK => ?_) ?_
                rotate_left
                · (go_step; exact hK)
                refine T_light (a' := ?_) 105 rfl rfl rfl (of_decide_eq_true rfl) rfl hHeld (fun wq hSq K Q hK => ?_) ?_
                rotate_left
                · (go_step; exact hK)
                refine T_light (a' := ?_) 106 rfl rfl rfl (of_decide_eq_true rfl) rfl hHeld (fun wq hSq K Q hK => ?_) ?_
                rotate_left
                · ((have r1 := hSq; go_step); exact hK)
                refine T_light (a' := ?_) 107 rfl rfl rfl (of_decide_eq_true rfl) rfl hHeld (fun wq hSq K Q hK => ?_) ?_
                rotate_left
                · (go_step; exact hK)
                refine T_light (a' := ?_) 108 rfl rfl rfl (of_decide_eq_true rfl) rfl hHeld (fun wq hSq K Q hK => ?_) ?_
                rotate_left
                · (go_step; exact hK)
                refine T_light (a' := ?_) 109 rfl rfl rfl (of_decide_eq_true rfl) rfl hHeld (fun wq hSq K Q hK => ?_) ?_
                rotate_left
                · (go_step; exact hK)
                refine T_light (a' := ?_) 110 rfl rfl rfl (of_decide_eq_true rfl) rfl hHeld (fun wq hSq K Q hK => ?_) ?_
                rotate_left
                · (go_step; exact hK)
                refine T_light (a' := ?_) 111 rfl rfl rfl (of_decide_eq_true rfl) rfl hHeld (fun wq hSq K Q hK => ?_) ?_
                rotate_left
                · (go_step; exact hK)
                refine T_done ?_
                go_wp2_with fail
                go_roundg f
                case measure => exact Nat.lt_succ_self f
                case rel => exact ⟨i + 1, by rw [e1], Lib.hid (mt_nx HI.out), Lib.hid ⟨HW.out.1, HW.out.2.1, HW.out.2.2.1.drew, HW.out.2.2.2.drew⟩⟩
              | zero =>
                obtain rfl : i = x := HI.out
                obtain ⟨dk, dk2⟩ := mt_ge (Nat.lt_irrefl i)
                have HW3 := Lib.hid (show wr.drew.cell? ⟨B, 0, none⟩ = some (.int .i64 (i : Nat)) ∧ Fnd wr.drew w.heap.size A s (upto j) ∧ Below w.heap.size w wr.drew from ⟨HW.out.1, HW.out.2.2.1.drew, HW.out.2.2.2.drew⟩)
                have HH := Lib.hid (show wr.drew.cell? ⟨B, 0, none⟩ = some (.int .i64 (i : Nat)) ∧ wr.drew.cell? ⟨B, 1, none⟩ = some (.int .i64 (y : Nat)) from ⟨q0, q1⟩)
                have HPLF := Lib.hid (mt_plf (d := depth) HK.out HS2.out HA.out.2.1)
                have HCS := Lib.hid (show ∀ q ∈ placesL (byteL s) (upto j) (j : Int) (depth : Int), q < j ∧ (longL (byteL s) q j ≤ i ∨ (nice : Int) ≤ (i : Int)) from fun q hq => by
                  obtain ⟨_, _, _, _, h, _⟩ := place_mem hq
                  exact ⟨upto_lt h, HALL.out q hq⟩)
                by_cases h258 : i = 258
                · have m1 : decide (i < 258) = false := by rw [h258]; rfl
                  have m1' : decide ((i : Int) < 258) = false := by rw [h258]; rfl
                  clear h258
                  go_wp2_with fail
                  have hHeld := HH.out
                  refine wp_region_T (fun w' => w'.cell? ⟨B, 0, none⟩ = some (.int .i64 (i : Nat)) ∧ w'.cell? ⟨B, 1, none⟩ = some (.int .i64 (y : Nat))) [.take 0, .take 1, .take 2, .take 3, .take 4, .take 5, .take 6, .take 7, .take 8, .take 9, .take 10, .take 11, .take 12, .take 13, .take 14, .take 15, .take 16, .take 17, .take 18, .take 19, .take 20, .take 21, .take 22, .take 23, .take 24, .take 25, .take 26, .take 27, .take 28, .take 29] (by kernel_rfl) (by kernel_rfl) (fun _ _ _ _ _ h => h) hHeld ?_
                  refine T_light (a' := ?_) 112 rfl rfl rfl (of_decide_eq_true rfl) rfl hHeld (fun wq hSq K Q hK => ?_) ?_
                  rotate_left
                  · (go_step; exact hK)
                  refine T_light (a' := ?_) 113 rfl rfl rfl (of_decide_eq_true rfl) rfl hHeld (fun wq hSq K Q hK => ?_) ?_
                  rotate_left
                  · ((have r1 := hSq.1; go_step); exact hK)
                  refine T_light (a' := ?_) 114 rfl rfl rfl (of_decide_eq_true rfl) rfl hHeld (fun wq hSq K Q hK => ?_) ?_
                  rotate_left
                  · (go_step; exact hK)
                  refine T_light (a' := ?_) 115 rfl rfl rfl (of_decide_eq_true rfl) rfl hHeld (fun wq hSq K Q hK => ?_) ?_
                  rotate_left
                  · (go_step; exact hK)
                  refine T_pass2 (a' := ?_) 116 rfl rfl (by kernel_rfl) (fun K hK => ?_) ?_
                  rotate_left
                  · (simp only [Act.put, List.setIfInBounds_toArray, List.set_cons_zero, List.set_cons_succ]; exact hK)
                  refine T_pass2 (a' := ?_) 117 rfl rfl (by kernel_rfl) (fun K hK => ?_) ?_
                  rotate_left
                  · (simp only [Act.put, List.setIfInBounds_toArray, List.set_cons_zero, List.set_cons_succ]; exact hK)
                  refine T_pass2 (a' := ?_) 118 rfl rfl (by kernel_rfl) (fun K hK => ?_) ?_
                  rotate_left
                  · (simp only [Act.put, List.setIfInBounds_toArray, List.set_cons_zero, List.set_cons_succ]; exact hK)
                  refine T_pass2 (a' := ?_) 119 rfl rfl (by kernel_rfl) (fun K hK => ?_) ?_
                  rotate_left
                  · (simp only [Act.put, List.setIfInBounds_toArray, List.set_cons_zero, List.set_cons_succ]; exact hK)
                  refine T_pass2 (a' := ?_) 120 rfl rfl (by kernel_rfl) (fun K hK => ?_) ?_
                  rotate_left
                  · (simp only [Act.put, List.setIfInBounds_toArray, List.set_cons_zero, List.set_cons_succ]; exact hK)
                  refine T_pass2 (a' := ?_) 121 rfl rfl (by kernel_rfl) (fun K hK => ?_) ?_
                  rotate_left
                  · (simp only [Act.put, List.setIfInBounds_toArray, List.set_cons_zero, List.set_cons_succ]; exact hK)
                  refine T_pass2 (a' := ?_) 122 rfl rfl (by kernel_rfl) (fun K hK => ?_) ?_
                  rotate_left
                  · (simp only [Act.put, List.setIfInBounds_toArray, List.set_cons_zero, List.set_cons_succ]; exact hK)
                  refine T_light (a' := ?_) 123 rfl rfl rfl (of_decide_eq_true rfl) rfl hHeld (fun wq hSq K Q hK => ?_) ?_
                  rotate_left
                  · (go_step; exact hK)
                  refine T_light (a' := ?_) 124 rfl rfl rfl (of_decide_eq_true rfl) rfl hHeld (fun wq hSq K Q hK => ?_) ?_
                  rotate_left
                  · (go_step; exact hK)
                  refine T_pass2 (a' := ?_) 125 rfl rfl (by kernel_rfl) (fun K hK => ?_) ?_
                  rotate_left
                  · (simp only [Act.put, List.setIfInBounds_toArray, List.set_cons_zero, List.set_cons_succ]; exact hK)
                  refine T_pass2 (a' := ?_) 126 rfl rfl (by kernel_rfl) (fun K hK => ?_) ?_
                  rotate_left
                  · (simp only [Act.put, List.setIfInBounds_toArray, List.set_cons_zero, List.set_cons_succ]; exact hK)
                  refine T_pass2 (a' := ?_) 127 rfl rfl (by kernel_rfl) (fun K hK => ?_) ?_
                  rotate_left
                  · (simp only [Act.put, List.setIfInBounds_toArray, List.set_cons_zero, List.set_cons_succ]; exact hK)
                  refine T_pass2 (a' := ?_) 128 rfl rfl (by kernel_rfl) (fun K hK => ?_) ?_
                  rotate_left
                  · (simp only [Act.put, List.setIfInBounds_toArray, List.set_cons_zero, List.set_cons_succ]; exact hK)
                  refine T_pass2 (a' := ?_) 129 rfl rfl (by kernel_rfl) (fun K hK => ?_) ?_
                  rotate_left
                  · (simp only [Act.put, List.setIfInBounds_toArray, List.set_cons_zero, List.set_cons_succ]; exact hK)
                  refine T_pass2 (a' := ?_) 130 rfl rfl (by kernel_rfl) (fun K hK => ?_) ?_
                  rotate_left
                  · (simp only [Act.put, List.setIfInBounds_toArray, List.set_cons_zero, List.set_cons_succ]; exact hK)
                  refine T_pass2 (a' := ?_) 131 rfl rfl (by kernel_rfl) (fun K hK => ?_) ?_
                  rotate_left
                  · (simp only [Act.put, List.setIfInBounds_toArray, List.set_cons_zero, List.set_cons_succ]; exact hK)
                  refine T_pass2 (a' := ?_) 132 rfl rfl (by kernel_rfl) (fun K hK => ?_) ?_
                  rotate_left
                  · (simp only [Act.put, List.setIfInBounds_toArray, List.set_cons_zero, List.set_cons_succ]; exact hK)
                  refine T_pass2 (a' := ?_) 133 rfl rfl (by kernel_rfl) (fun K hK => ?_) ?_
                  rotate_left
                  · (simp only [Act.put, List.setIfInBounds_toArray, List.set_cons_zero, List.set_cons_succ]; exact hK)
                  refine T_pass2 (a' := ?_) 134 rfl rfl (by kernel_rfl) (fun K hK => ?_) ?_
                  rotate_left
                  · (simp only [Act.put, List.setIfInBounds_toArray, List.set_cons_zero, List.set_cons_succ]; exact hK)
                  refine T_pass2 (a' := ?_) 135 rfl rfl (by kernel_rfl) (fun K hK => ?_) ?_
                  rotate_left
                  · (simp only [Act.put, List.setIfInBounds_toArray, List.set_cons_zero, List.set_cons_succ]; exact hK)
                  refine T_pass2 (a' := ?_) 136 rfl rfl (by kernel_rfl) (fun K hK => ?_) ?_
                  rotate_left
                  · (simp only [Act.put, List.setIfInBounds_toArray, List.set_cons_zero, List.set_cons_succ]; exact hK)
                  refine T_pass2 (a' := ?_) 137 rfl rfl (by kernel_rfl) (fun K hK => ?_) ?_
                  rotate_left
                  · (simp only [Act.put, List.setIfInBounds_toArray, List.set_cons_zero, List.set_cons_succ]; exact hK)
                  refine T_pass2 (a' := ?_) 138 rfl rfl (by kernel_rfl) (fun K hK => ?_) ?_
                  rotate_left
                  · (simp only [Act.put, List.setIfInBounds_toArray, List.set_cons_zero, List.set_cons_succ]; exact hK)
                  refine T_pass2 (a' := ?_) 139 rfl rfl (by kernel_rfl) (fun K hK => ?_) ?_
                  rotate_left
                  · (simp only [Act.put, List.setIfInBounds_toArray, List.set_cons_zero, List.set_cons_succ]; exact hK)
                  refine T_pass2 (a' := ?_) 140 rfl rfl (by kernel_rfl) (fun K hK => ?_) ?_
                  rotate_left
                  · (simp only [Act.put, List.setIfInBounds_toArray, List.set_cons_zero, List.set_cons_succ]; exact hK)
                  refine T_light (a' := ?_) 141 rfl rfl rfl (of_decide_eq_true rfl) rfl hHeld (fun wq hSq K Q hK => ?_) ?_
                  rotate_left
                  · (go_step; exact hK)
                  refine T_done ?_
                  go_wp2_with fail
                  clear hHeld HH
                  refine (places_any (j : Int) (depth : Int) w.heap.size A s (upto j) _ HW3.out.2.1 HPLF.out.1 HPLF.out.2.1 HPLF.out.2.2.1 HPLF.out.2.2.2).mono ?_
                  rintro e w5 ⟨v, rfl, hrow, hf5, hb5⟩
                  obtain ⟨cs, hcs⟩ : ∃ cs, placesL (byteL s) (upto j) (j : Int) (depth : Int) = cs := ⟨_, rfl⟩
                  have hcl := placesL_len (byteL s) (upto j) (j : Int) (depth : Int)
                  rw [hcs] at hrow hcl
                  rw [upto_length] at hcl
                  have HCS2 := HCS
                  rw [hcs] at HCS2
                  obtain ⟨a, c, rfl, hget⟩ := row_get hrow
                  have hcl2 : cs.length ≤ 2048 := mt_cl hcl HK.out HS2.out
                  have HCL := Lib.hid hcl2
                  have HI0 := Lib.hid (show w5.cell? ⟨B, 0, none⟩ = some (.int .i64 (i : Nat)) ∧ (∀ i q, cs[i]? = some q → ∃ g', a = some ⟨g', 0, none⟩ ∧ w5.cell? ⟨g', i, none⟩ = some (.int .i64 (q : Nat))) ∧ Below w.heap.size w w5 from ⟨(hb5.cell (World.block_lt_of_cell? _ _ HW3.out.1)).trans HW3.out.1, hget, HW3.out.2.2.trans (hb5.mono HW3.out.2.2.size)⟩)
                  clear hrow hf5 hb5 hcs hcl hget hcl2 HW3 q0 q1
                  go_wp2_with fail
                  go_loopg [8, 15, 16] cs.length (fun f s8 s15 s16 wx => ∃ m : Nat, s15 = .int .i64 (m : Int) ∧ Hid (m + f = cs.length) ∧ Hid (wx.cell? ⟨B, 0, none⟩ = some (.int .i64 (i : Nat)) ∧ (∀ i q, cs[i]? = some q → ∃ g', a = some ⟨g', 0, none⟩ ∧ wx.cell? ⟨g', i, none⟩ = some (.int .i64 (q : Nat))) ∧ Below w.heap.size w wx))
                  case atStart => exact ⟨0, rfl, Lib.hid (Nat.zero_add _), HI0⟩
                  case round =>
                    obtain ⟨m, rfl, HM, HW5⟩ := hrel
                    clear HI0
                    cases gk with
                    | zero =>
                      obtain rfl : m = cs.length := HM.out
                      obtain ⟨dk, dk2⟩ := mt_ge (Nat.lt_irrefl cs.length)
                      go_wp2_with fail
                      refine (works_any _).mono ?_
                      rintro e w8 ⟨rfl, hb8⟩
                      have HB8 := Lib.hid (HW5.out.2.2.trans (hb8.mono HW5.out.2.2.size))
                      clear hb8
                      go_wp2_with fail
                      go_ret
                      exact ⟨rfl, HB8.out⟩
                    | succ fo =>
                      have hmc : m < cs.length := mt_nl HM.out
                      obtain ⟨dk, dk2⟩ := mt_lt hmc
                      have HMC := Lib.hid hmc
                      have n0 : (0 : Int) ≤ (m : Int) := Int.natCast_nonneg m
                      have n9 : (m : Int) < (cs.length : Int) := Int.ofNat_lt.2 hmc
                      obtain ⟨q, hq⟩ : ∃ q, cs[m]? = some q := ⟨cs[m], List.getElem?_eq_getElem hmc⟩
                      obtain ⟨g, rfl, qg⟩ := HW5.out.2.1 m q hq
                      obtain ⟨hqj, hql⟩ := HCS2.out q (List.mem_of_getElem? hq)
                      obtain ⟨R, hR⟩ : ∃ R, longL (byteL s) q j = R := ⟨_, rfl⟩
                      rw [hR] at hql
                      have HQL := Lib.hid hql
                      have HQJ := Lib.hid hqj
                      obtain ⟨z1, z2, z3, z4⟩ := mt_q hqj
                      have e1m : wrap64 ((m : Int) + 1) = ((m + 1 : Nat) : Int) := mt_m1 hmc HCL.out
                      have HG0 := Lib.hid (show longGo (byteL s) q j 0 258 = R from hR)
                      clear hmc hq hqj hql hR
                      go_wp2_with fail
                      go_loopg [16] 258 (fun f s16 wx => ∃ n : Nat, s16 = .int .i64 (n : Int) ∧ Hid (n + f = 258) ∧ Hid (longGo (byteL s) q j n f = R) ∧ Hid (wx.cell? ⟨B, 0, none⟩ = some (.int .i64 (i : Nat)) ∧ (∀ i q, cs[i]? = some q → ∃ g', (some ⟨g, 0, none⟩ : Option Addr) = some ⟨g', 0, none⟩ ∧ wx.cell? ⟨g', i, none⟩ = some (.int .i64 (q : Nat))) ∧ Below w.heap.size w wx) ∧ Hid (wx.cell? ⟨g, m, none⟩ = some (.int .i64 (q : Nat))))
                      case atStart => exact ⟨0, rfl, Lib.hid rfl, HG0, HW5, Lib.hid qg⟩
                      case round =>
                        clear qg
                        obtain ⟨n, rfl, HN, HG, HW6, HQG⟩ := hrel
                        have HH := Lib.hid (show wr.drew.cell? ⟨g, m, none⟩ = some (.int .i64 (q : Nat)) from HQG.out)
                        cases gk with
                        | zero =>
                          obtain rfl : n = 258 := HN.out
                          have HE := Lib.hid (show 258 = R from HG.out)
                          go_wp2_with fail
                          have hHeld := HH.out
                          refine wp_region_T (fun w' => w'.cell? ⟨g, m, none⟩ = some (.int .i64 (q : Nat))) [.take 0, .take 1, .take 2, .take 3, .take 4, .take 5, .take 6, .take 7, .take 8, .take 9, .take 10, .take 11, .take 12, .take 13, .take 14, .take 15, .take 16, .take 17, .take 18, .take 19, .take 20, .take 21, .take 22, .take 23, .take 24, .take 25] (by kernel_rfl) (by kernel_rfl) (fun _ _ _ _ _ h => h) hHeld ?_
                          refine T_light (a' := ?_) 166 rfl rfl rfl (of_decide_eq_true rfl) rfl hHeld (fun wq hSq K Q hK => ?_) ?_
                          rotate_left
                          · (go_step; exact hK)
                          refine T_light (a' := ?_) 167 rfl rfl rfl (of_decide_eq_true rfl) rfl hHeld (fun wq hSq K Q hK => ?_) ?_
                          rotate_left
                          · (go_step; exact hK)
                          refine T_light (a' := ?_) 168 rfl rfl rfl (of_decide_eq_true rfl) rfl hHeld (fun wq hSq K Q hK => ?_) ?_
                          rotate_left
                          · (go_step; exact hK)
                          refine T_pass2 (a' := ?_) 169 rfl rfl (by kernel_rfl) (fun K hK => ?_) ?_
                          rotate_left
                          · (simp only [Act.put, List.setIfInBounds_toArray, List.set_cons_zero, List.set_cons_succ]; exact hK)
                          refine T_pass2 (a' := ?_) 170 rfl rfl (by kernel_rfl) (fun K hK => ?_) ?_
                          rotate_left
                          · (simp only [Act.put, List.setIfInBounds_toArray, List.set_cons_zero, List.set_cons_succ]; exact hK)
                          refine T_pass2 (a' := ?_) 171 rfl rfl (by kernel_rfl) (fun K hK => ?_) ?_
                          rotate_left
                          · (simp only [Act.put, List.setIfInBounds_toArray, List.set_cons_zero, List.set_cons_succ]; exact hK)
                          refine T_pass2 (a' := ?_) 172 rfl rfl (by kernel_rfl) (fun K hK => ?_) ?_
                          rotate_left
                          · (simp only [Act.put, List.setIfInBounds_toArray, List.set_cons_zero, List.set_cons_succ]; exact hK)
                          refine T_pass2 (a' := ?_) 173 rfl rfl (by kernel_rfl) (fun K hK => ?_) ?_
                          rotate_left
                          · (simp only [Act.put, List.setIfInBounds_toArray, List.set_cons_zero, List.set_cons_succ]; exact hK)
                          refine T_pass2 (a' := ?_) 174 rfl rfl (by kernel_rfl) (fun K hK => ?_) ?_
                          rotate_left
                          · (simp only [Act.put, List.setIfInBounds_toArray, List.set_cons_zero, List.set_cons_succ]; exact hK)
                          refine T_light (a' := ?_) 175 rfl rfl rfl (of_decide_eq_true rfl) rfl hHeld (fun wq hSq K Q hK => ?_) ?_
                          rotate_left
                          · (go_step; exact hK)
                          refine T_light (a' := ?_) 176 rfl rfl rfl (of_decide_eq_true rfl) rfl hHeld (fun wq hSq K Q hK => ?_) ?_
                          rotate_left
                          · (go_step; exact hK)
                          refine T_pass2 (a' := ?_) 177 rfl rfl (by kernel_rfl) (fun K hK => ?_) ?_
                          rotate_left
                          · (simp only [Act.put, List.setIfInBounds_toArray, List.set_cons_zero, List.set_cons_succ]; exact hK)
                          refine T_pass2 (a' := ?_) 178 rfl rfl (by kernel_rfl) (fun K hK => ?_) ?_
                          rotate_left
                          · (simp only [Act.put, List.setIfInBounds_toArray, List.set_cons_zero, List.set_cons_succ]; exact hK)
                          refine T_pass2 (a' := ?_) 179 rfl rfl (by kernel_rfl) (fun K hK => ?_) ?_
                          rotate_left
                          · (simp only [Act.put, List.setIfInBounds_toArray, List.set_cons_zero, List.set_cons_succ]; exact hK)
                          refine T_pass2 (a' := ?_) 180 rfl rfl (by kernel_rfl) (fun K hK => ?_) ?_
                          rotate_left
                          · (simp only [Act.put, List.setIfInBounds_toArray, List.set_cons_zero, List.set_cons_succ]; exact hK)
                          refine T_pass2 (a' := ?_) 181 rfl rfl (by kernel_rfl) (fun K hK => ?_) ?_
                          rotate_left
                          · (simp only [Act.put, List.setIfInBounds_toArray, List.set_cons_zero, List.set_cons_succ]; exact hK)
                          refine T_pass2 (a' := ?_) 182 rfl rfl (by kernel_rfl) (fun K hK => ?_) ?_
                          rotate_left
                          · (simp only [Act.put, List.setIfInBounds_toArray, List.set_cons_zero, List.set_cons_succ]; exact hK)
                          refine T_pass2 (a' := ?_) 183 rfl rfl (by kernel_rfl) (fun K hK => ?_) ?_
                          rotate_left
                          · (simp only [Act.put, List.setIfInBounds_toArray, List.set_cons_zero, List.set_cons_succ]; exact hK)
                          refine T_pass2 (a' := ?_) 184 rfl rfl (by kernel_rfl) (fun K hK => ?_) ?_
                          rotate_left
                          · (simp only [Act.put, List.setIfInBounds_toArray, List.set_cons_zero, List.set_cons_succ]; exact hK)
                          refine T_pass2 (a' := ?_) 185 rfl rfl (by kernel_rfl) (fun K hK => ?_) ?_
                          rotate_left
                          · (simp only [Act.put, List.setIfInBounds_toArray, List.set_cons_zero, List.set_cons_succ]; exact hK)
                          refine T_pass2 (a' := ?_) 186 rfl rfl (by kernel_rfl) (fun K hK => ?_) ?_
                          rotate_left
                          · (simp only [Act.put, List.setIfInBounds_toArray, List.set_cons_zero, List.set_cons_succ]; exact hK)
                          refine T_pass2 (a' := ?_) 187 rfl rfl (by kernel_rfl) (fun K hK => ?_) ?_
                          rotate_left
                          · (simp only [Act.put, List.setIfInBounds_toArray, List.set_cons_zero, List.set_cons_succ]; exact hK)
                          refine T_pass2 (a' := ?_) 188 rfl rfl (by kernel_rfl) (fun K hK => ?_) ?_
                          rotate_left
                          · (simp only [Act.put, List.setIfInBounds_toArray, List.set_cons_zero, List.set_cons_succ]; exact hK)
                          refine T_pass2 (a' := ?_) 189 rfl rfl (by kernel_rfl) (fun K hK => ?_) ?_
                          rotate_left
                          · (simp only [Act.put, List.setIfInBounds_toArray, List.set_cons_zero, List.set_cons_succ]; exact hK)
                          refine T_pass2 (a' := ?_) 190 rfl rfl (by kernel_rfl) (fun K hK => ?_) ?_
                          rotate_left
                          · (simp only [Act.put, List.setIfInBounds_toArray, List.set_cons_zero, List.set_cons_succ]; exact hK)
                          refine T_light (a' := ?_) 191 rfl rfl rfl (of_decide_eq_true rfl) rfl hHeld (fun wq hSq K Q hK => ?_) ?_
                          rotate_left
                          · (go_step; exact hK)
                          refine T_done ?_
                          clear hHeld HH
                          have q0 : wr.drew.cell? ⟨B, 0, none⟩ = some (.int .i64 (i : Nat)) := HW6.out.1
                          have HW7 := Lib.hid (show wr.drew.cell? ⟨B, 0, none⟩ = some (.int .i64 (i : Nat)) ∧ (∀ i q, cs[i]? = some q → ∃ g', (some ⟨g, 0, none⟩ : Option Addr) = some ⟨g', 0, none⟩ ∧ wr.drew.cell? ⟨g', i, none⟩ = some (.int .i64 (q : Nat))) ∧ Below w.heap.size w wr.drew from ⟨HW6.out.1, HW6.out.2.1, HW6.out.2.2.drew⟩)
                          by_cases hni : i < 258
                          · obtain ⟨k1, k1x⟩ := mt_lt hni
                            have k1' : decide ((i : Int) < 258) = true := k1x
                            have hnc : ¬ i < nice := mt_nice HQL.out (HE.out ▸ hni)
                            obtain ⟨k2, k2'⟩ := mt_ge hnc
                            clear hni hnc
                            first
                              | exact absurd (m1.symm.trans k1) (by decide)
                              | go_wp2_with fail
                                go_roundg fo
                                case measure => exact Nat.lt_succ_self fo
                                case rel => exact ⟨m + 1, by rw [e1m], Lib.hid (mt_nx HM.out), HW7⟩
                          · obtain ⟨k1, k1x⟩ := mt_ge hni
                            have k1' : decide ((i : Int) < 258) = false := k1x
                            clear hni
                            first
                              | exact absurd (m1.symm.trans k1) (by decide)
                              | go_wp2_with fail
                                go_roundg fo
                                case measure => exact Nat.lt_succ_self fo
                                case rel => exact ⟨m + 1, by rw [e1m], Lib.hid (mt_nx HM.out), HW7⟩
                        | succ f =>
                          have hn258 : n < 258 := mt_nl HN.out
                          obtain ⟨m1, m1x⟩ := mt_lt hn258
                          have m1' : decide ((n : Int) < 258) = true := m1x
                          obtain ⟨e1, e2, e3, n1, n3⟩ := mt2 (x := 0) (i := n) HS2.out HQJ.out (Nat.le_of_lt hn258) HK.out
                          clear hn258 m1x
                          by_cases hlt : j + n < s.size
                          · obtain ⟨d2, d2', n4⟩ := mt_ad hlt
                            have n2 : (q : Int) + (n : Int) < (s.size : Int) := mt_n2 HQJ.out hlt
                            obtain ⟨c1, hc1, hx2⟩ : ∃ c : Nat, (byteL s).getD (q + n) 0 = c ∧ (∀ h', ((s[q + n]'h').toNat : Int) = (c : Int)) := ⟨_, rfl, fun h' => by rw [idx_byte s (q + n) h']⟩
                            obtain ⟨c2, hc2, hy2⟩ : ∃ c : Nat, (byteL s).getD (j + n) 0 = c ∧ (∀ h', ((s[j + n]'h').toNat : Int) = (c : Int)) := ⟨_, rfl, fun h' => by rw [idx_byte s (j + n) h']⟩
                            by_cases hxy : c1 = c2
                            · have HE := Lib.hid (show longGo (byteL s) q j (n + 1) f = R by
                                have := HG.out
                                unfold longGo at this
                                rw [if_pos ⟨by rw [byteL_length]; exact hlt, by rw [hc1, hc2, hxy]⟩] at this
                                exact this)
                              have exy : ((c1 : Int) == (c2 : Int)) = true := by subst hxy; simp
                              clear hc1 hc2 hxy hlt
                              go_wp2_with fail
                              have hHeld := HH.out
                              refine wp_region_T (fun w' => w'.cell? ⟨g, m, none⟩ = some (.int .i64 (q : Nat))) [.take 0, .take 1, .take 2, .take 3, .take 4, .take 5, .take 6, .take 7, .take 8, .take 9, .take 10, .take 11, .take 12, .take 13, .take 14, .take 15, .take 16, .take 17, .take 18, .take 19, .take 20, .take 21, .take 22, .take 23, .take 24, .take 25] (by kernel_rfl) (by kernel_rfl) (fun _ _ _ _ _ h => h) hHeld ?_
                              refine T_light (a' := ?_) 166 rfl rfl rfl (of_decide_eq_true rfl) rfl hHeld (fun wq hSq K Q hK => ?_) ?_
                              rotate_left
                              · (go_step; exact hK)
                              refine T_light (a' := ?_) 167 rfl rfl rfl (of_decide_eq_true rfl) rfl hHeld (fun wq hSq K Q hK => ?_) ?_
                              rotate_left
                              · (go_step; exact hK)
                              refine T_light (a' := ?_) 168 rfl rfl rfl (of_decide_eq_true rfl) rfl hHeld (fun wq hSq K Q hK => ?_) ?_
                              rotate_left
                              · (go_step; exact hK)
                              refine T_light (a' := ?_) 169 rfl rfl rfl (of_decide_eq_true rfl) rfl hHeld (fun wq hSq K Q hK => ?_) ?_
                              rotate_left
                              · (go_step; exact hK)
                              refine T_light (a' := ?_) 170 rfl rfl rfl (of_decide_eq_true rfl) rfl hHeld (fun wq hSq K Q hK => ?_) ?_
                              rotate_left
                              · (go_step; exact hK)
                              refine T_light (a' := ?_) 171 rfl rfl rfl (of_decide_eq_true rfl) rfl hHeld (fun wq hSq K Q hK => ?_) ?_
                              rotate_left
                              · (go_step; exact hK)
                              refine T_light (a' := ?_) 172 rfl rfl rfl (of_decide_eq_true rfl) rfl hHeld (fun wq hSq K Q hK => ?_) ?_
                              rotate_left
                              · (go_step; exact hK)
                              refine T_light (a' := ?_) 173 rfl rfl rfl (of_decide_eq_true rfl) rfl hHeld (fun wq hSq K Q hK => ?_) ?_
                              rotate_left
                              · (go_step; exact hK)
                              refine T_light (a' := ?_) 174 rfl rfl rfl (of_decide_eq_true rfl) rfl hHeld (fun wq hSq K Q hK => ?_) ?_
                              rotate_left
                              · (go_step; exact hK)
                              refine T_light (a' := ?_) 175 rfl rfl rfl (of_decide_eq_true rfl) rfl hHeld (fun wq hSq K Q hK => ?_) ?_
                              rotate_left
                              · (go_step; exact hK)
                              refine T_light (a' := ?_) 176 rfl rfl rfl (of_decide_eq_true rfl) rfl hHeld (fun wq hSq K Q hK => ?_) ?_
                              rotate_left
                              · (go_step; exact hK)
                              refine T_light (a' := ?_) 177 rfl rfl rfl (of_decide_eq_true rfl) rfl hHeld (fun wq hSq K Q hK => ?_) ?_
                              rotate_left
                              · (go_step; exact hK)
                              refine T_light (a' := ?_) 178 rfl rfl rfl (of_decide_eq_true rfl) rfl hHeld (fun wq hSq K Q hK => ?_) ?_
                              rotate_left
                              · (go_step; exact hK)
                              refine T_light (a' := ?_) 179 rfl rfl rfl (of_decide_eq_true rfl) rfl hHeld (fun wq hSq K Q hK => ?_) ?_
                              rotate_left
                              · (go_step; exact hK)
                              refine T_light (a' := ?_) 180 rfl rfl rfl (of_decide_eq_true rfl) rfl hHeld (fun wq hSq K Q hK => ?_) ?_
                              rotate_left
                              · (go_step; exact hK)
                              refine T_light (a' := ?_) 181 rfl rfl rfl (of_decide_eq_true rfl) rfl hHeld (fun wq hSq K Q hK => ?_) ?_
                              rotate_left
                              · ((have r1 := hSq; go_step); exact hK)
                              refine T_light (a' := ?_) 182 rfl rfl rfl (of_decide_eq_true rfl) rfl hHeld (fun wq hSq K Q hK => ?_) ?_
                              rotate_left
                              · (go_step; exact hK)
                              refine T_light (a' := ?_) 183 rfl rfl rfl (of_decide_eq_true rfl) rfl hHeld (fun wq hSq K Q hK => ?_) ?_
                              rotate_left
                              · (go_step; exact hK)
                              refine T_light (a' := ?_) 184 rfl rfl rfl (of_decide_eq_true rfl) rfl hHeld (fun wq hSq K Q hK => ?_) ?_
                              rotate_left
                              · (go_step; exact hK)
                              refine T_light (a' := ?_) 185 rfl rfl rfl (of_decide_eq_true rfl) rfl hHeld (fun wq hSq K Q hK => ?_) ?_
                              rotate_left
                              · (go_step; exact hK)
                              refine T_light (a' := ?_) 186 rfl rfl rfl (of_decide_eq_true rfl) rfl hHeld (fun wq hSq K Q hK => ?_) ?_
                              rotate_left
                              · (go_step; exact hK)
                              refine T_light (a' := ?_) 187 rfl rfl rfl (of_decide_eq_true rfl) rfl hHeld (fun wq hSq K Q hK => ?_) ?_
                              rotate_left
                              · (go_step; exact hK)
                              refine T_light (a' := ?_) 188 rfl rfl rfl (of_decide_eq_true rfl) rfl hHeld (fun wq hSq K Q hK => ?_) ?_
                              rotate_left
                              · (go_step; exact hK)
                              refine T_light (a' := ?_) 189 rfl rfl rfl (of_decide_eq_true rfl) rfl hHeld (fun wq hSq K Q hK => ?_) ?_
                              rotate_left
                              · (go_step; exact hK)
                              refine T_light (a' := ?_) 190 rfl rfl rfl (of_decide_eq_true rfl) rfl hHeld (fun wq hSq K Q hK => ?_) ?_
                              rotate_left
                              · (go_step; exact hK)
                              refine T_light (a' := ?_) 191 rfl rfl rfl (of_decide_eq_true rfl) rfl hHeld (fun wq hSq K Q hK => ?_) ?_
                              rotate_left
                              · (go_step; exact hK)
                              refine T_done ?_
                              go_wp2_with fail
                              go_roundg f
                              case measure => exact Nat.lt_succ_self f
                              case rel => exact ⟨n + 1, by rw [e1], Lib.hid (mt_nx HN.out), HE, Lib.hid ⟨HW6.out.1, HW6.out.2.1, HW6.out.2.2.drew⟩, Lib.hid HQG.out⟩
                            · have HE := Lib.hid (show n = R by
                                have := HG.out
                                unfold longGo at this
                                rw [if_neg (by rw [hc1, hc2]; exact fun h => hxy h.2)] at this
                                exact this)
                              have exy : ((c1 : Int) == (c2 : Int)) = false := mt_ne hxy
                              clear hc1 hc2 hxy hlt
                              go_wp2_with fail
                              have hHeld := HH.out
                              refine wp_region_T (fun w' => w'.cell? ⟨g, m, none⟩ = some (.int .i64 (q : Nat))) [.take 0, .take 1, .take 2, .take 3, .take 4, .take 5, .take 6, .take 7, .take 8, .take 9, .take 10, .take 11, .take 12, .take 13, .take 14, .take 15, .take 16, .take 17, .take 18, .take 19, .take 20, .take 21, .take 22, .take 23, .take 24, .take 25] (by kernel_rfl) (by kernel_rfl) (fun _ _ _ _ _ h => h) hHeld ?_
                              refine T_light (a' := ?_) 166 rfl rfl rfl (of_decide_eq_true rfl) rfl hHeld (fun wq hSq K Q hK => ?_) ?_
                              rotate_left
                              · (go_step; exact hK)
                              refine T_light (a' := ?_) 167 rfl rfl rfl (of_decide_eq_true rfl) rfl hHeld (fun wq hSq K Q hK => ?_) ?_
                              rotate_left
                              · (go_step; exact hK)
                              refine T_light (a' := ?_) 168 rfl rfl rfl (of_decide_eq_true rfl) rfl hHeld (fun wq hSq K Q hK => ?_) ?_
                              rotate_left
                              · (go_step; exact hK)
                              refine T_light (a' := ?_) 169 rfl rfl rfl (of_decide_eq_true rfl) rfl hHeld (fun wq hSq K Q hK => ?_) ?_
                              rotate_left
                              · (go_step; exact hK)
                              refine T_light (a' := ?_) 170 rfl rfl rfl (of_decide_eq_true rfl) rfl hHeld (fun wq hSq K Q hK => ?_) ?_
                              rotate_left
                              · (go_step; exact hK)
                              refine T_light (a' := ?_) 171 rfl rfl rfl (of_decide_eq_true rfl) rfl hHeld (fun wq hSq K Q hK => ?_) ?_
                              rotate_left
                              · (go_step; exact hK)
                              refine T_light (a' := ?_) 172 rfl rfl rfl (of_decide_eq_true rfl) rfl hHeld (fun wq hSq K Q hK => ?_) ?_
                              rotate_left
                              · (go_step; exact hK)
                              refine T_light (a' := ?_) 173 rfl rfl rfl (of_decide_eq_true rfl) rfl hHeld (fun wq hSq K Q hK => ?_) ?_
                              rotate_left
                              · (go_step; exact hK)
                              refine T_light (a' := ?_) 174 rfl rfl rfl (of_decide_eq_true rfl) rfl hHeld (fun wq hSq K Q hK => ?_) ?_
                              rotate_left
                              · (go_step; exact hK)
                              refine T_light (a' := ?_) 175 rfl rfl rfl (of_decide_eq_true rfl) rfl hHeld (fun wq hSq K Q hK => ?_) ?_
                              rotate_left
                              · (go_step; exact hK)
                              refine T_light (a' := ?_) 176 rfl rfl rfl (of_decide_eq_true rfl) rfl hHeld (fun wq hSq K Q hK => ?_) ?_
                              rotate_left
                              · (go_step; exact hK)
                              refine T_light (a' := ?_) 177 rfl rfl rfl (of_decide_eq_true rfl) rfl hHeld (fun wq hSq K Q hK => ?_) ?_
                              rotate_left
                              · (go_step; exact hK)
                              refine T_light (a' := ?_) 178 rfl rfl rfl (of_decide_eq_true rfl) rfl hHeld (fun wq hSq K Q hK => ?_) ?_
                              rotate_left
                              · (go_step; exact hK)
                              refine T_light (a' := ?_) 179 rfl rfl rfl (of_decide_eq_true rfl) rfl hHeld (fun wq hSq K Q hK => ?_) ?_
                              rotate_left
                              · (go_step; exact hK)
                              refine T_light (a' := ?_) 180 rfl rfl rfl (of_decide_eq_true rfl) rfl hHeld (fun wq hSq K Q hK => ?_) ?_
                              rotate_left
                              · (go_step; exact hK)
                              refine T_light (a' := ?_) 181 rfl rfl rfl (of_decide_eq_true rfl) rfl hHeld (fun wq hSq K Q hK => ?_) ?_
                              rotate_left
                              · ((have r1 := hSq; go_step); exact hK)
                              refine T_light (a' := ?_) 182 rfl rfl rfl (of_decide_eq_true rfl) rfl hHeld (fun wq hSq K Q hK => ?_) ?_
                              rotate_left
                              · (go_step; exact hK)
                              refine T_light (a' := ?_) 183 rfl rfl rfl (of_decide_eq_true rfl) rfl hHeld (fun wq hSq K Q hK => ?_) ?_
                              rotate_left
                              · (go_step; exact hK)
                              refine T_light (a' := ?_) 184 rfl rfl rfl (of_decide_eq_true rfl) rfl hHeld (fun wq hSq K Q hK => ?_) ?_
                              rotate_left
                              · (go_step; exact hK)
                              refine T_light (a' := ?_) 185 rfl rfl rfl (of_decide_eq_true rfl) rfl hHeld (fun wq hSq K Q hK => ?_) ?_
                              rotate_left
                              · (go_step; exact hK)
                              refine T_light (a' := ?_) 186 rfl rfl rfl (of_decide_eq_true rfl) rfl hHeld (fun wq hSq K Q hK => ?_) ?_
                              rotate_left
                              · (go_step; exact hK)
                              refine T_light (a' := ?_) 187 rfl rfl rfl (of_decide_eq_true rfl) rfl hHeld (fun wq hSq K Q hK => ?_) ?_
                              rotate_left
                              · (go_step; exact hK)
                              refine T_light (a' := ?_) 188 rfl rfl rfl (of_decide_eq_true rfl) rfl hHeld (fun wq hSq K Q hK => ?_) ?_
                              rotate_left
                              · (go_step; exact hK)
                              refine T_light (a' := ?_) 189 rfl rfl rfl (of_decide_eq_true rfl) rfl hHeld (fun wq hSq K Q hK => ?_) ?_
                              rotate_left
                              · (go_step; exact hK)
                              refine T_light (a' := ?_) 190 rfl rfl rfl (of_decide_eq_true rfl) rfl hHeld (fun wq hSq K Q hK => ?_) ?_
                              rotate_left
                              · (go_step; exact hK)
                              refine T_light (a' := ?_) 191 rfl rfl rfl (of_decide_eq_true rfl) rfl hHeld (fun wq hSq K Q hK => ?_) ?_
                              rotate_left
                              · (go_step; exact hK)
                              refine T_done ?_
                              clear hHeld HH
                              have q0 : wr.drew.cell? ⟨B, 0, none⟩ = some (.int .i64 (i : Nat)) := HW6.out.1
                              have HW7 := Lib.hid (show wr.drew.cell? ⟨B, 0, none⟩ = some (.int .i64 (i : Nat)) ∧ (∀ i q, cs[i]? = some q → ∃ g', (some ⟨g, 0, none⟩ : Option Addr) = some ⟨g', 0, none⟩ ∧ wr.drew.cell? ⟨g', i, none⟩ = some (.int .i64 (q : Nat))) ∧ Below w.heap.size w wr.drew from ⟨HW6.out.1, HW6.out.2.1, HW6.out.2.2.drew⟩)
                              by_cases hni : i < n
                              · obtain ⟨k1, k1'⟩ := mt_lt hni
                                have hnc : ¬ i < nice := mt_nice HQL.out (HE.out ▸ hni)
                                obtain ⟨k2, k2'⟩ := mt_ge hnc
                                clear hni hnc
                                go_wp2_with fail
                                go_roundg fo
                                case measure => exact Nat.lt_succ_self fo
                                case rel => exact ⟨m + 1, by rw [e1m], Lib.hid (mt_nx HM.out), HW7⟩
                              · obtain ⟨k1, k1'⟩ := mt_ge hni
                                clear hni
                                go_wp2_with fail
                                go_roundg fo
                                case measure => exact Nat.lt_succ_self fo
                                case rel => exact ⟨m + 1, by rw [e1m], Lib.hid (mt_nx HM.out), HW7⟩
                          · obtain ⟨d2, d2'⟩ := mt_adn hlt
                            have HE := Lib.hid (show n = R by
                              have := HG.out
                              unfold longGo at this
                              rw [if_neg (by rw [byteL_length]; exact fun h => hlt h.1)] at this
                              exact this)
                            clear hlt
                            go_wp2_with fail
                            have hHeld := HH.out
                            refine wp_region_T (fun w' => w'.cell? ⟨g, m, none⟩ = some (.int .i64 (q : Nat))) [.take 0, .take 1, .take 2, .take 3, .take 4, .take 5, .take 6, .take 7, .take 8, .take 9, .take 10, .take 11, .take 12, .take 13, .take 14, .take 15, .take 16, .take 17, .take 18, .take 19, .take 20, .take 21, .take 22, .take 23, .take 24, .take 25] (by kernel_rfl) (by kernel_rfl) (fun _ _ _ _ _ h => h) hHeld ?_
                            refine T_light (a' := ?_) 166 rfl rfl rfl (of_decide_eq_true rfl) rfl hHeld (fun wq hSq K Q hK => ?_) ?_
                            rotate_left
                            · (go_step; exact hK)
                            refine T_light (a' := ?_) 167 rfl rfl rfl (of_decide_eq_true rfl) rfl hHeld (fun wq hSq K Q hK => ?_) ?_
                            rotate_left
                            · (go_step; exact hK)
                            refine T_light (a' := ?_) 168 rfl rfl rfl (of_decide_eq_true rfl) rfl hHeld (fun wq hSq K Q hK => ?_) ?_
                            rotate_left
                            · (go_step; exact hK)
                            refine T_light (a' := ?_) 169 rfl rfl rfl (of_decide_eq_true rfl) rfl hHeld (fun wq hSq K Q hK => ?_) ?_
                            rotate_left
                            · (go_step; exact hK)
                            refine T_light (a' := ?_) 170 rfl rfl rfl (of_decide_eq_true rfl) rfl hHeld (fun wq hSq K Q hK => ?_) ?_
                            rotate_left
                            · (go_step; exact hK)
                            refine T_light (a' := ?_) 171 rfl rfl rfl (of_decide_eq_true rfl) rfl hHeld (fun wq hSq K Q hK => ?_) ?_
                            rotate_left
                            · (go_step; exact hK)
                            refine T_light (a' := ?_) 172 rfl rfl rfl (of_decide_eq_true rfl) rfl hHeld (fun wq hSq K Q hK => ?_) ?_
                            rotate_left
                            · (go_step; exact hK)
                            refine T_light (a' := ?_) 173 rfl rfl rfl (of_decide_eq_true rfl) rfl hHeld (fun wq hSq K Q hK => ?_) ?_
                            rotate_left
                            · (go_step; exact hK)
                            refine T_light (a' := ?_) 174 rfl rfl rfl (of_decide_eq_true rfl) rfl hHeld (fun wq hSq K Q hK => ?_) ?_
                            rotate_left
                            · (go_step; exact hK)
                            refine T_light (a' := ?_) 175 rfl rfl rfl (of_decide_eq_true rfl) rfl hHeld (fun wq hSq K Q hK => ?_) ?_
                            rotate_left
                            · (go_step; exact hK)
                            refine T_light (a' := ?_) 176 rfl rfl rfl (of_decide_eq_true rfl) rfl hHeld (fun wq hSq K Q hK => ?_) ?_
                            rotate_left
                            · (go_step; exact hK)
                            refine T_pass2 (a' := ?_) 177 rfl rfl (by kernel_rfl) (fun K hK => ?_) ?_
                            rotate_left
                            · (simp only [Act.put, List.setIfInBounds_toArray, List.set_cons_zero, List.set_cons_succ]; exact hK)
                            refine T_pass2 (a' := ?_) 178 rfl rfl (by kernel_rfl) (fun K hK => ?_) ?_
                            rotate_left
                            · (simp only [Act.put, List.setIfInBounds_toArray, List.set_cons_zero, List.set_cons_succ]; exact hK)
                            refine T_pass2 (a' := ?_) 179 rfl rfl (by kernel_rfl) (fun K hK => ?_) ?_
                            rotate_left
                            · (simp only [Act.put, List.setIfInBounds_toArray, List.set_cons_zero, List.set_cons_succ]; exact hK)
                            refine T_pass2 (a' := ?_) 180 rfl rfl (by kernel_rfl) (fun K hK => ?_) ?_
                            rotate_left
                            · (simp only [Act.put, List.setIfInBounds_toArray, List.set_cons_zero, List.set_cons_succ]; exact hK)
                            refine T_pass2 (a' := ?_) 181 rfl rfl (by kernel_rfl) (fun K hK => ?_) ?_
                            rotate_left
                            · (simp only [Act.put, List.setIfInBounds_toArray, List.set_cons_zero, List.set_cons_succ]; exact hK)
                            refine T_pass2 (a' := ?_) 182 rfl rfl (by kernel_rfl) (fun K hK => ?_) ?_
                            rotate_left
                            · (simp only [Act.put, List.setIfInBounds_toArray, List.set_cons_zero, List.set_cons_succ]; exact hK)
                            refine T_pass2 (a' := ?_) 183 rfl rfl (by kernel_rfl) (fun K hK => ?_) ?_
                            rotate_left
                            · (simp only [Act.put, List.setIfInBounds_toArray, List.set_cons_zero, List.set_cons_succ]; exact hK)
                            refine T_pass2 (a' := ?_) 184 rfl rfl (by kernel_rfl) (fun K hK => ?_) ?_
                            rotate_left
                            · (simp only [Act.put, List.setIfInBounds_toArray, List.set_cons_zero, List.set_cons_succ]; exact hK)
                            refine T_pass2 (a' := ?_) 185 rfl rfl (by kernel_rfl) (fun K hK => ?_) ?_
                            rotate_left
                            · (simp only [Act.put, List.setIfInBounds_toArray, List.set_cons_zero, List.set_cons_succ]; exact hK)
                            refine T_pass2 (a' := ?_) 186 rfl rfl (by kernel_rfl) (fun K hK => ?_) ?_
                            rotate_left
                            · (simp only [Act.put, List.setIfInBounds_toArray, List.set_cons_zero, List.set_cons_succ]; exact hK)
                            refine T_pass2 (a' := ?_) 187 rfl rfl (by kernel_rfl) (fun K hK => ?_) ?_
                            rotate_left
                            · (simp only [Act.put, List.setIfInBounds_toArray, List.set_cons_zero, List.set_cons_succ]; exact hK)
                            refine T_pass2 (a' := ?_) 188 rfl rfl (by kernel_rfl) (fun K hK => ?_) ?_
                            rotate_left
                            · (simp only [Act.put, List.setIfInBounds_toArray, List.set_cons_zero, List.set_cons_succ]; exact hK)
                            refine T_pass2 (a' := ?_) 189 rfl rfl (by kernel_rfl) (fun K hK => ?_) ?_
                            rotate_left
                            · (simp only [Act.put, List.setIfInBounds_toArray, List.set_cons_zero, List.set_cons_succ]; exact hK)
                            refine T_pass2 (a' := ?_) 190 rfl rfl (by kernel_rfl) (fun K hK => ?_) ?_
                            rotate_left
                            · (simp only [Act.put, List.setIfInBounds_toArray, List.set_cons_zero, List.set_cons_succ]; exact hK)
                            refine T_light (a' := ?_) 191 rfl rfl rfl (of_decide_eq_true rfl) rfl hHeld (fun wq hSq K Q hK => ?_) ?_
                            rotate_left
                            · (go_step; exact hK)
                            refine T_done ?_
                            clear hHeld HH
                            have q0 : wr.drew.cell? ⟨B, 0, none⟩ = some (.int .i64 (i : Nat)) := HW6.out.1
                            have HW7 := Lib.hid (show wr.drew.cell? ⟨B, 0, none⟩ = some (.int .i64 (i : Nat)) ∧ (∀ i q, cs[i]? = some q → ∃ g', (some ⟨g, 0, none⟩ : Option Addr) = some ⟨g', 0, none⟩ ∧ wr.drew.cell? ⟨g', i, none⟩ = some (.int .i64 (q : Nat))) ∧ Below w.heap.size w wr.drew from ⟨HW6.out.1, HW6.out.2.1, HW6.out.2.2.drew⟩)
                            by_cases hni : i < n
                            · obtain ⟨k1, k1'⟩ := mt_lt hni
                              have hnc : ¬ i < nice := mt_nice HQL.out (HE.out ▸ hni)
                              obtain ⟨k2, k2'⟩ := mt_ge hnc
                              clear hni hnc
                              go_wp2_with fail
                              go_roundg fo
                              case measure => exact Nat.lt_succ_self fo
                              case rel => exact ⟨m + 1, by rw [e1m], Lib.hid (mt_nx HM.out), HW7⟩
                            · obtain ⟨k1, k1'⟩ := mt_ge hni
                              clear hni
                              go_wp2_with fail
                              go_roundg fo
                              case measure => exact Nat.lt_succ_self fo
                              case rel => exact ⟨m + 1, by rw [e1m], Lib.hid (mt_nx HM.out), HW7⟩
                · have hl258 : i < 258 := Nat.lt_of_le_of_ne HX.out.1 h258
                  obtain ⟨m1, m1x⟩ := mt_lt hl258
                  have m1' : decide ((i : Int) < 258) = true := m1x
                  clear m1x
                  obtain ⟨_, e2, e3, n1, n3⟩ := mt2 (x := i) (i := i) HS2.out HP.out.1 HX.out.1 HK.out
                  have HEND := Lib.hid (long_end (byteL s) p j (by rw [HE.out]; exact hl258))
                  rw [HE.out] at HEND
                  clear h258 hl258
                  by_cases hlt : j + i < s.size
                  · obtain ⟨d2, d2', n4⟩ := mt_ad hlt
                    have n2 : (p : Int) + (i : Int) < (s.size : Int) := mt_n2 HP.out.1 hlt
                    have hne : (byteL s).getD (p + i) 0 ≠ (byteL s).getD (j + i) 0 := fun h => HEND.out ⟨by rw [byteL_length]; exact hlt, h⟩
                    obtain ⟨c1, hc1, hx2⟩ : ∃ c : Nat, (byteL s).getD (p + i) 0 = c ∧ (∀ h', ((s[p + i]'h').toNat : Int) = (c : Int)) := ⟨_, rfl, fun h' => by rw [idx_byte s (p + i) h']⟩
                    obtain ⟨c2, hc2, hy2⟩ : ∃ c : Nat, (byteL s).getD (j + i) 0 = c ∧ (∀ h', ((s[j + i]'h').toNat : Int) = (c : Int)) := ⟨_, rfl, fun h' => by rw [idx_byte s (j + i) h']⟩
                    rw [hc1, hc2] at hne
                    have exy : ((c2 : Int) == (c1 : Int)) = false := mt_ne fun h => hne h.symm
                    clear hc1 hc2 hne hlt HEND
                    go_wp2_with fail
                    have hHeld := HH.out
                    refine wp_region_T (fun w' => w'.cell? ⟨B, 0, none⟩ = some (.int .i64 (i : Nat)) ∧ w'.cell? ⟨B, 1, none⟩ = some (.int .i64 (y : Nat))) [.take 0, .take 1, .take 2, .take 3, .take 4, .take 5, .take 6, .take 7, .take 8, .take 9, .take 10, .take 11, .take 12, .take 13, .take 14, .take 15, .take 16, .take 17, .take 18, .take 19, .take 20, .take 21, .take 22, .take 23, .take 24, .take 25, .take 26, .take 27, .take 28, .take 29] (by kernel_rfl) (by kernel_rfl) (fun _ _ _ _ _ h => h) hHeld ?_
                    refine T_light (a' := ?_) 112 rfl rfl rfl (of_decide_eq_true rfl) rfl hHeld (fun wq hSq K Q hK => ?_) ?_
                    rotate_left
                    · (go_step; exact hK)
                    refine T_light (a' := ?_) 113 rfl rfl rfl (of_decide_eq_true rfl) rfl hHeld (fun wq hSq K Q hK => ?_) ?_
                    rotate_left
                    · ((have r1 := hSq.1; go_step); exact hK)
                    refine T_light (a' := ?_) 114 rfl rfl rfl (of_decide_eq_true rfl) rfl hHeld (fun wq hSq K Q hK => ?_) ?_
                    rotate_left
                    · (go_step; exact hK)
                    refine T_light (a' := ?_) 115 rfl rfl rfl (of_decide_eq_true rfl) rfl hHeld (fun wq hSq K Q hK => ?_) ?_
                    rotate_left
                    · (go_step; exact hK)
                    refine T_light (a' := ?_) 116 rfl rfl rfl (of_decide_eq_true rfl) rfl hHeld (fun wq hSq K Q hK => ?_) ?_
                    rotate_left
                    · (go_step; exact hK)
                    refine T_light (a' := ?_) 117 rfl rfl rfl (of_decide_eq_true rfl) rfl hHeld (fun wq hSq K Q hK => ?_) ?_
                    rotate_left
                    · (go_step; exact hK)
                    refine T_light (a' := ?_) 118 rfl rfl rfl (of_decide_eq_true rfl) rfl hHeld (fun wq hSq K Q hK => ?_) ?_
                    rotate_left
                    · ((have r1 := hSq.1; go_step); exact hK)
                    refine T_light (a' := ?_) 119 rfl rfl rfl (of_decide_eq_true rfl) rfl hHeld (fun wq hSq K Q hK => ?_) ?_
                    rotate_left
                    · (go_step; exact hK)
                    refine T_light (a' := ?_) 120 rfl rfl rfl (of_decide_eq_true rfl) rfl hHeld (fun wq hSq K Q hK => ?_) ?_
                    rotate_left
                    · (go_step; exact hK)
                    refine T_light (a' := ?_) 121 rfl rfl rfl (of_decide_eq_true rfl) rfl hHeld (fun wq hSq K Q hK => ?_) ?_
                    rotate_left
                    · (go_step; exact hK)
                    refine T_light (a' := ?_) 122 rfl rfl rfl (of_decide_eq_true rfl) rfl hHeld (fun wq hSq K Q hK => ?_) ?_
                    rotate_left
                    · (go_step; exact hK)
                    refine T_light (a' := ?_) 123 rfl rfl rfl (of_decide_eq_true rfl) rfl hHeld (fun wq hSq K Q hK => ?_) ?_
                    rotate_left
                    · (go_step; exact hK)
                    refine T_light (a' := ?_) 124 rfl rfl rfl (of_decide_eq_true rfl) rfl hHeld (fun wq hSq K Q hK => ?_) ?_
                    rotate_left
                    · (go_step; exact hK)
                    refine T_light (a' := ?_) 125 rfl rfl rfl (of_decide_eq_true rfl) rfl hHeld (fun wq hSq K Q hK => ?_) ?_
                    rotate_left
                    · (go_step; exact hK)
                    refine T_light (a' := ?_) 126 rfl rfl rfl (of_decide_eq_true rfl) rfl hHeld (fun wq hSq K Q hK => ?_) ?_
                    rotate_left
                    · (go_step; exact hK)
                    refine T_light (a' := ?_) 127 rfl rfl rfl (of_decide_eq_true rfl) rfl hHeld (fun wq hSq K Q hK => ?_) ?_
                    rotate_left
                    · (go_step; exact hK)
                    refine T_light (a' := ?_) 128 rfl rfl rfl (of_decide_eq_true rfl) rfl hHeld (fun wq hSq K Q hK => ?_) ?_
                    rotate_left
                    · ((have r1 := hSq.1; go_step); exact hK)
                    refine T_light (a' := ?_) 129 rfl rfl rfl (of_decide_eq_true rfl) rfl hHeld (fun wq hSq K Q hK => ?_) ?_
                    rotate_left
                    · (go_step; exact hK)
                    refine T_light (a' := ?_) 130 rfl rfl rfl (of_decide_eq_true rfl) rfl hHeld (fun wq hSq K Q hK => ?_) ?_
                    rotate_left
                    · (go_step; exact hK)
                    refine T_light (a' := ?_) 131 rfl rfl rfl (of_decide_eq_true rfl) rfl hHeld (fun wq hSq K Q hK => ?_) ?_
                    rotate_left
                    · (go_step; exact hK)
                    refine T_light (a' := ?_) 132 rfl rfl rfl (of_decide_eq_true rfl) rfl hHeld (fun wq hSq K Q hK => ?_) ?_
                    rotate_left
                    · (go_step; exact hK)
                    refine T_light (a' := ?_) 133 rfl rfl rfl (of_decide_eq_true rfl) rfl hHeld (fun wq hSq K Q hK => ?_) ?_
                    rotate_left
                    · (go_step; exact hK)
                    refine T_light (a' := ?_) 134 rfl rfl rfl (of_decide_eq_true rfl) rfl hHeld (fun wq hSq K Q hK => ?_) ?_
                    rotate_left
                    · ((have r1 := hSq.2; go_step); exact hK)
                    refine T_light (a' := ?_) 135 rfl rfl rfl (of_decide_eq_true rfl) rfl hHeld (fun wq hSq K Q hK => ?_) ?_
                    rotate_left
                    · (go_step; exact hK)
                    refine T_light (a' := ?_) 136 rfl rfl rfl (of_decide_eq_true rfl) rfl hHeld (fun wq hSq K Q hK => ?_) ?_
                    rotate_left
                    · (go_step; exact hK)
                    refine T_light (a' := ?_) 137 rfl rfl rfl (of_decide_eq_true rfl) rfl hHeld (fun wq hSq K Q hK => ?_) ?_
                    rotate_left
                    · ((have r1 := hSq.1; go_step); exact hK)
                    refine T_light (a' := ?_) 138 rfl rfl rfl (of_decide_eq_true rfl) rfl hHeld (fun wq hSq K Q hK => ?_) ?_
                    rotate_left
                    · (go_step; exact hK)
                    refine T_light (a' := ?_) 139 rfl rfl rfl (of_decide_eq_true rfl) rfl hHeld (fun wq hSq K Q hK => ?_) ?_
                    rotate_left
                    · (go_step; exact hK)
                    refine T_light (a' := ?_) 140 rfl rfl rfl (of_decide_eq_true rfl) rfl hHeld (fun wq hSq K Q hK => ?_) ?_
                    rotate_left
                    · (go_step; exact hK)
                    refine T_light (a' := ?_) 141 rfl rfl rfl (of_decide_eq_true rfl) rfl hHeld (fun wq hSq K Q hK => ?_) ?_
                    rotate_left
                    · (go_step; exact hK)
                    refine T_done ?_
                    go_wp2_with fail
                    clear hHeld HH
                    refine (places_any (j : Int) (depth : Int) w.heap.size A s (upto j) _ HW3.out.2.1 HPLF.out.1 HPLF.out.2.1 HPLF.out.2.2.1 HPLF.out.2.2.2).mono ?_
                    rintro e w5 ⟨v, rfl, hrow, hf5, hb5⟩
                    obtain ⟨cs, hcs⟩ : ∃ cs, placesL (byteL s) (upto j) (j : Int) (depth : Int) = cs := ⟨_, rfl⟩
                    have hcl := placesL_len (byteL s) (upto j) (j : Int) (depth : Int)
                    rw [hcs] at hrow hcl
                    rw [upto_length] at hcl
                    have HCS2 := HCS
                    rw [hcs] at HCS2
                    obtain ⟨a, c, rfl, hget⟩ := row_get hrow
                    have hcl2 : cs.length ≤ 2048 := mt_cl hcl HK.out HS2.out
                    have HCL := Lib.hid hcl2
                    have HI0 := Lib.hid (show w5.cell? ⟨B, 0, none⟩ = some (.int .i64 (i : Nat)) ∧ (∀ i q, cs[i]? = some q → ∃ g', a = some ⟨g', 0, none⟩ ∧ w5.cell? ⟨g', i, none⟩ = some (.int .i64 (q : Nat))) ∧ Below w.heap.size w w5 from ⟨(hb5.cell (World.block_lt_of_cell? _ _ HW3.out.1)).trans HW3.out.1, hget, HW3.out.2.2.trans (hb5.mono HW3.out.2.2.size)⟩)
                    clear hrow hf5 hb5 hcs hcl hget hcl2 HW3 q0 q1
                    go_wp2_with fail
                    go_loopg [8, 15, 16] cs.length (fun f s8 s15 s16 wx => ∃ m : Nat, s15 = .int .i64 (m : Int) ∧ Hid (m + f = cs.length) ∧ Hid (wx.cell? ⟨B, 0, none⟩ = some (.int .i64 (i : Nat)) ∧ (∀ i q, cs[i]? = some q → ∃ g', a = some ⟨g', 0, none⟩ ∧ wx.cell? ⟨g', i, none⟩ = some (.int .i64 (q : Nat))) ∧ Below w.heap.size w wx))
                    case atStart => exact ⟨0, rfl, Lib.hid (Nat.zero_add _), HI0⟩
                    case round =>
                      obtain ⟨m, rfl, HM, HW5⟩ := hrel
                      clear HI0
                      cases gk with
                      | zero =>
                        obtain rfl : m = cs.length := HM.out
                        obtain ⟨dk, dk2⟩ := mt_ge (Nat.lt_irrefl cs.length)
                        go_wp2_with fail
                        refine (works_any _).mono ?_
                        rintro e w8 ⟨rfl, hb8⟩
                        have HB8 := Lib.hid (HW5.out.2.2.trans (hb8.mono HW5.out.2.2.size))
                        clear hb8
                        go_wp2_with fail
                        go_ret
                        exact ⟨rfl, HB8.out⟩
                      | succ fo =>
                        have hmc : m < cs.length := mt_nl HM.out
                        obtain ⟨dk, dk2⟩ := mt_lt hmc
                        have HMC := Lib.hid hmc
                        have n0 : (0 : Int) ≤ (m : Int) := Int.natCast_nonneg m
                        have n9 : (m : Int) < (cs.length : Int) := Int.ofNat_lt.2 hmc
                        obtain ⟨q, hq⟩ : ∃ q, cs[m]? = some q := ⟨cs[m], List.getElem?_eq_getElem hmc⟩
                        obtain ⟨g, rfl, qg⟩ := HW5.out.2.1 m q hq
                        obtain ⟨hqj, hql⟩ := HCS2.out q (List.mem_of_getElem? hq)
                        obtain ⟨R, hR⟩ : ∃ R, longL (byteL s) q j = R := ⟨_, rfl⟩
                        rw [hR] at hql
                        have HQL := Lib.hid hql
                        have HQJ := Lib.hid hqj
                        obtain ⟨z1, z2, z3, z4⟩ := mt_q hqj
                        have e1m : wrap64 ((m : Int) + 1) = ((m + 1 : Nat) : Int) := mt_m1 hmc HCL.out
                        have HG0 := Lib.hid (show longGo (byteL s) q j 0 258 = R from hR)
                        clear hmc hq hqj hql hR
                        go_wp2_with fail
                        go_loopg [16] 258 (fun f s16 wx => ∃ n : Nat, s16 = .int .i64 (n : Int) ∧ Hid (n + f = 258) ∧ Hid (longGo (byteL s) q j n f = R) ∧ Hid (wx.cell? ⟨B, 0, none⟩ = some (.int .i64 (i : Nat)) ∧ (∀ i q, cs[i]? = some q → ∃ g', (some ⟨g, 0, none⟩ : Option Addr) = some ⟨g', 0, none⟩ ∧ wx.cell? ⟨g', i, none⟩ = some (.int .i64 (q : Nat))) ∧ Below w.heap.size w wx) ∧ Hid (wx.cell? ⟨g, m, none⟩ = some (.int .i64 (q : Nat))))
                        case atStart => exact ⟨0, rfl, Lib.hid rfl, HG0, HW5, Lib.hid qg⟩
                        case round =>
                          clear qg
                          obtain ⟨n, rfl, HN, HG, HW6, HQG⟩ := hrel
                          have HH := Lib.hid (show wr.drew.cell? ⟨g, m, none⟩ = some (.int .i64 (q : Nat)) from HQG.out)
                          cases gk with
                          | zero =>
                            obtain rfl : n = 258 := HN.out
                            have HE := Lib.hid (show 258 = R from HG.out)
                            go_wp2_with fail
                            have hHeld := HH.out
                            refine wp_region_T (fun w' => w'.cell? ⟨g, m, none⟩ = some (.int .i64 (q : Nat))) [.take 0, .take 1, .take 2, .take 3, .take 4, .take 5, .take 6, .take 7, .take 8, .take 9, .take 10, .take 11, .take 12, .take 13, .take 14, .take 15, .take 16, .take 17, .take 18, .take 19, .take 20, .take 21, .take 22, .take 23, .take 24, .take 25] (by kernel_rfl) (by kernel_rfl) (fun _ _ _ _ _ h => h) hHeld ?_
                            refine T_light (a' := ?_) 166 rfl rfl rfl (of_decide_eq_true rfl) rfl hHeld (fun wq hSq K Q hK => ?_) ?_
                            rotate_left
                            · (go_step; exact hK)
                            refine T_light (a' := ?_) 167 rfl rfl rfl (of_decide_eq_true rfl) rfl hHeld (fun wq hSq K Q hK => ?_) ?_
                            rotate_left
                            · (go_step; exact hK)
                            refine T_light (a' := ?_) 168 rfl rfl rfl (of_decide_eq_true rfl) rfl hHeld (fun wq hSq K Q hK => ?_) ?_
                            rotate_left
                            · (go_step; exact hK)
                            refine T_pass2 (a' := ?_) 169 rfl rfl (by kernel_rfl) (fun K hK => ?_) ?_
                            rotate_left
                            · (simp only [Act.put, List.setIfInBounds_toArray, List.set_cons_zero, List.set_cons_succ]; exact hK)
                            refine T_pass2 (a' := ?_) 170 rfl rfl (by kernel_rfl) (fun K hK => ?_) ?_
                            rotate_left
                            · (simp only [Act.put, List.setIfInBounds_toArray, List.set_cons_zero, List.set_cons_succ]; exact hK)
                            refine T_pass2 (a' := ?_) 171 rfl rfl (by kernel_rfl) (fun K hK => ?_) ?_
                            rotate_left
                            · (simp only [Act.put, List.setIfInBounds_toArray, List.set_cons_zero, List.set_cons_succ]; exact hK)
                            refine T_pass2 (a' := ?_) 172 rfl rfl (by kernel_rfl) (fun K hK => ?_) ?_
                            rotate_left
                            · (simp only [Act.put, List.setIfInBounds_toArray, List.set_cons_zero, List.set_cons_succ]; exact hK)
                            refine T_pass2 (a' := ?_) 173 rfl rfl (by kernel_rfl) (fun K hK => ?_) ?_
                            rotate_left
                            · (simp only [Act.put, List.setIfInBounds_toArray, List.set_cons_zero, List.set_cons_succ]; exact hK)
                            refine T_pass2 (a' := ?_) 174 rfl rfl (by kernel_rfl) (fun K hK => ?_) ?_
                            rotate_left
                            · (simp only [Act.put, List.setIfInBounds_toArray, List.set_cons_zero, List.set_cons_succ]; exact hK)
                            refine T_light (a' := ?_) 175 rfl rfl rfl (of_decide_eq_true rfl) rfl hHeld (fun wq hSq K Q hK => ?_) ?_
                            rotate_left
                            · (go_step; exact hK)
                            refine T_light (a' := ?_) 176 rfl rfl rfl (of_decide_eq_true rfl) rfl hHeld (fun wq hSq K Q hK => ?_) ?_
                            rotate_left
                            · (go_step; exact hK)
                            refine T_pass2 (a' := ?_) 177 rfl rfl (by kernel_rfl) (fun K hK => ?_) ?_
                            rotate_left
                            · (simp only [Act.put, List.setIfInBounds_toArray, List.set_cons_zero, List.set_cons_succ]; exact hK)
                            refine T_pass2 (a' := ?_) 178 rfl rfl (by kernel_rfl) (fun K hK => ?_) ?_
                            rotate_left
                            · (simp only [Act.put, List.setIfInBounds_toArray, List.set_cons_zero, List.set_cons_succ]; exact hK)
                            refine T_pass2 (a' := ?_) 179 rfl rfl (by kernel_rfl) (fun K hK => ?_) ?_
                            rotate_left
                            · (simp only [Act.put, List.setIfInBounds_toArray, List.set_cons_zero, List.set_cons_succ]; exact hK)
                            refine T_pass2 (a' := ?_) 180 rfl rfl (by kernel_rfl) (fun K hK => ?_) ?_
                            rotate_left
                            · (simp only [Act.put, List.setIfInBounds_toArray, List.set_cons_zero, List.set_cons_succ]; exact hK)
                            refine T_pass2 (a' := ?_) 181 rfl rfl (by kernel_rfl) (fun K hK => ?_) ?_
                            rotate_left
                            · (simp only [Act.put, List.setIfInBounds_toArray, List.set_cons_zero, List.set_cons_succ]; exact hK)
                            refine T_pass2 (a' := ?_) 182 rfl rfl (by kernel_rfl) (fun K hK => ?_) ?_
                            rotate_left
                            · (simp only [Act.put, List.setIfInBounds_toArray, List.set_cons_zero, List.set_cons_succ]; exact hK)
                            refine T_pass2 (a' := ?_) 183 rfl rfl (by kernel_rfl) (fun K hK => ?_) ?_
                            rotate_left
                            · (simp only [Act.put, List.setIfInBounds_toArray, List.set_cons_zero, List.set_cons_succ]; exact hK)
                            refine T_pass2 (a' := ?_) 184 rfl rfl (by kernel_rfl) (fun K hK => ?_) ?_
                            rotate_left
                            · (simp only [Act.put, List.setIfInBounds_toArray, List.set_cons_zero, List.set_cons_succ]; exact hK)
                            refine T_pass2 (a' := ?_) 185 rfl rfl (by kernel_rfl) (fun K hK => ?_) ?_
                            rotate_left
                            · (simp only [Act.put, List.setIfInBounds_toArray, List.set_cons_zero, List.set_cons_succ]; exact hK)
                            refine T_pass2 (a' := ?_) 186 rfl rfl (by kernel_rfl) (fun K hK => ?_) ?_
                            rotate_left
                            · (simp only [Act.put, List.setIfInBounds_toArray, List.set_cons_zero, List.set_cons_succ]; exact hK)
                            refine T_pass2 (a' := ?_) 187 rfl rfl (by kernel_rfl) (fun K hK => ?_) ?_
                            rotate_left
                            · (simp only [Act.put, List.setIfInBounds_toArray, List.set_cons_zero, List.set_cons_succ]; exact hK)
                            refine T_pass2 (a' := ?_) 188 rfl rfl (by kernel_rfl) (fun K hK => ?_) ?_
                            rotate_left
                            · (simp only [Act.put, List.setIfInBounds_toArray, List.set_cons_zero, List.set_cons_succ]; exact hK)
                            refine T_pass2 (a' := ?_) 189 rfl rfl (by kernel_rfl) (fun K hK => ?_) ?_
                            rotate_left
                            · (simp only [Act.put, List.setIfInBounds_toArray, List.set_cons_zero, List.set_cons_succ]; exact hK)
                            refine T_pass2 (a' := ?_) 190 rfl rfl (by kernel_rfl) (fun K hK => ?_) ?_
                            rotate_left
                            · (simp only [Act.put, List.setIfInBounds_toArray, List.set_cons_zero, List.set_cons_succ]; exact hK)
                            refine T_light (a' := ?_) 191 rfl rfl rfl (of_decide_eq_true rfl) rfl hHeld (fun wq hSq K Q hK => ?_) ?_
                            rotate_left
                            · (go_step; exact hK)
                            refine T_done ?_
                            clear hHeld HH
                            have q0 : wr.drew.cell? ⟨B, 0, none⟩ = some (.int .i64 (i : Nat)) := HW6.out.1
                            have HW7 := Lib.hid (show wr.drew.cell? ⟨B, 0, none⟩ = some (.int .i64 (i : Nat)) ∧ (∀ i q, cs[i]? = some q → ∃ g', (some ⟨g, 0, none⟩ : Option Addr) = some ⟨g', 0, none⟩ ∧ wr.drew.cell? ⟨g', i, none⟩ = some (.int .i64 (q : Nat))) ∧ Below w.heap.size w wr.drew from ⟨HW6.out.1, HW6.out.2.1, HW6.out.2.2.drew⟩)
                            by_cases hni : i < 258
                            · obtain ⟨k1, k1x⟩ := mt_lt hni
                              have k1' : decide ((i : Int) < 258) = true := k1x
                              have hnc : ¬ i < nice := mt_nice HQL.out (HE.out ▸ hni)
                              obtain ⟨k2, k2'⟩ := mt_ge hnc
                              clear hni hnc
                              first
                                | exact absurd (m1.symm.trans k1) (by decide)
                                | go_wp2_with fail
                                  go_roundg fo
                                  case measure => exact Nat.lt_succ_self fo
                                  case rel => exact ⟨m + 1, by rw [e1m], Lib.hid (mt_nx HM.out), HW7⟩
                            · obtain ⟨k1, k1x⟩ := mt_ge hni
                              have k1' : decide ((i : Int) < 258) = false := k1x
                              clear hni
                              first
                                | exact absurd (m1.symm.trans k1) (by decide)
                                | go_wp2_with fail
                                  go_roundg fo
                                  case measure => exact Nat.lt_succ_self fo
                                  case rel => exact ⟨m + 1, by rw [e1m], Lib.hid (mt_nx HM.out), HW7⟩
                          | succ f =>
                            have hn258 : n < 258 := mt_nl HN.out
                            obtain ⟨m1, m1x⟩ := mt_lt hn258
                            have m1' : decide ((n : Int) < 258) = true := m1x
                            obtain ⟨e1, e2, e3, n1, n3⟩ := mt2 (x := 0) (i := n) HS2.out HQJ.out (Nat.le_of_lt hn258) HK.out
                            clear hn258 m1x
                            by_cases hlt : j + n < s.size
                            · obtain ⟨d2, d2', n4⟩ := mt_ad hlt
                              have n2 : (q : Int) + (n : Int) < (s.size : Int) := mt_n2 HQJ.out hlt
                              obtain ⟨c1, hc1, hx2⟩ : ∃ c : Nat, (byteL s).getD (q + n) 0 = c ∧ (∀ h', ((s[q + n]'h').toNat : Int) = (c : Int)) := ⟨_, rfl, fun h' => by rw [idx_byte s (q + n) h']⟩
                              obtain ⟨c2, hc2, hy2⟩ : ∃ c : Nat, (byteL s).getD (j + n) 0 = c ∧ (∀ h', ((s[j + n]'h').toNat : Int) = (c : Int)) := ⟨_, rfl, fun h' => by rw [idx_byte s (j + n) h']⟩
                              by_cases hxy : c1 = c2
                              · have HE := Lib.hid (show longGo (byteL s) q j (n + 1) f = R by
                                  have := HG.out
                                  unfold longGo at this
                                  rw [if_pos ⟨by rw [byteL_length]; exact hlt, by rw [hc1, hc2, hxy]⟩] at this
                                  exact this)
                                have exy : ((c1 : Int) == (c2 : Int)) = true := by subst hxy; simp
                                clear hc1 hc2 hxy hlt
                                go_wp2_with fail
                                have hHeld := HH.out
                                refine wp_region_T (fun w' => w'.cell? ⟨g, m, none⟩ = some (.int .i64 (q : Nat))) [.take 0, .take 1, .take 2, .take 3, .take 4, .take 5, .take 6, .take 7, .take 8, .take 9, .take 10, .take 11, .take 12, .take 13, .take 14, .take 15, .take 16, .take 17, .take 18, .take 19, .take 20, .take 21, .take 22, .take 23, .take 24, .take 25] (by kernel_rfl) (by kernel_rfl) (fun _ _ _ _ _ h => h) hHeld ?_
                                refine T_light (a' := ?_) 166 rfl rfl rfl (of_decide_eq_true rfl) rfl hHeld (fun wq hSq K Q hK => ?_) ?_
                                rotate_left
                                · (go_step; exact hK)
                                refine T_light (a' := ?_) 167 rfl rfl rfl (of_decide_eq_true rfl) rfl hHeld (fun wq hSq K Q hK => ?_) ?_
                                rotate_left
                                · (go_step; exact hK)
                                refine T_light (a' := ?_) 168 rfl rfl rfl (of_decide_eq_true rfl) rfl hHeld (fun wq hSq K Q hK => ?_) ?_
                                rotate_left
                                · (go_step; exact hK)
                                refine T_light (a' := ?_) 169 rfl rfl rfl (of_decide_eq_true rfl) rfl hHeld (fun wq hSq K Q hK => ?_) ?_
                                rotate_left
                                · (go_step; exact hK)
                                refine T_light (a' := ?_) 170 rfl rfl rfl (of_decide_eq_true rfl) rfl hHeld (fun wq hSq K Q hK => ?_) ?_
                                rotate_left
                                · (go_step; exact hK)
                                refine T_light (a' := ?_) 171 rfl rfl rfl (of_decide_eq_true rfl) rfl hHeld (fun wq hSq K Q hK => ?_) ?_
                                rotate_left
                                · (go_step; exact hK)
                                refine T_light (a' := ?_) 172 rfl rfl rfl (of_decide_eq_true rfl) rfl hHeld (fun wq hSq K Q hK => ?_) ?_
                                rotate_left
                                · (go_step; exact hK)
                                refine T_light (a' := ?_) 173 rfl rfl rfl (of_decide_eq_true rfl) rfl hHeld (fun wq hSq K Q hK => ?_) ?_
                                rotate_left
                                · (go_step; exact hK)
                                refine T_light (a' := ?_) 174 rfl rfl rfl (of_decide_eq_true rfl) rfl hHeld (fun wq hSq K Q hK => ?_) ?_
                                rotate_left
                                · (go_step; exact hK)
                                refine T_light (a' := ?_) 175 rfl rfl rfl (of_decide_eq_true rfl) rfl hHeld (fun wq hSq K Q hK => ?_) ?_
                                rotate_left
                                · (go_step; exact hK)
                                refine T_light (a' := ?_) 176 rfl rfl rfl (of_decide_eq_true rfl) rfl hHeld (fun wq hSq K Q hK => ?_) ?_
                                rotate_left
                                · (go_step; exact hK)
                                refine T_light (a' := ?_) 177 rfl rfl rfl (of_decide_eq_true rfl) rfl hHeld (fun wq hSq K Q hK => ?_) ?_
                                rotate_left
                                · (go_step; exact hK)
                                refine T_light (a' := ?_) 178 rfl rfl rfl (of_decide_eq_true rfl) rfl hHeld (fun wq hSq K Q hK => ?_) ?_
                                rotate_left
                                · (go_step; exact hK)
                                refine T_light (a' := ?_) 179 rfl rfl rfl (of_decide_eq_true rfl) rfl hHeld (fun wq hSq K Q hK => ?_) ?_
                                rotate_left
                                · (go_step; exact hK)
                                refine T_light (a' := ?_) 180 rfl rfl rfl (of_decide_eq_true rfl) rfl hHeld (fun wq hSq K Q hK => ?_) ?_
                                rotate_left
                                · (go_step; exact hK)
                                refine T_light (a' := ?_) 181 rfl rfl rfl (of_decide_eq_true rfl) rfl hHeld (fun wq hSq K Q hK => ?_) ?_
                                rotate_left
                                · ((have r1 := hSq; go_step); exact hK)
                                refine T_light (a' := ?_) 182 rfl rfl rfl (of_decide_eq_true rfl) rfl hHeld (fun wq hSq K Q hK => ?_) ?_
                                rotate_left
                                · (go_step; exact hK)
                                refine T_light (a' := ?_) 183 rfl rfl rfl (of_decide_eq_true rfl) rfl hHeld (fun wq hSq K Q hK => ?_) ?_
                                rotate_left
                                · (go_step; exact hK)
                                refine T_light (a' := ?_) 184 rfl rfl rfl (of_decide_eq_true rfl) rfl hHeld (fun wq hSq K Q hK => ?_) ?_
                                rotate_left
                                · (go_step; exact hK)
                                refine T_light (a' := ?_) 185 rfl rfl rfl (of_decide_eq_true rfl) rfl hHeld (fun wq hSq K Q hK => ?_) ?_
                                rotate_left
                                · (go_step; exact hK)
                                refine T_light (a' := ?_) 186 rfl rfl rfl (of_decide_eq_true rfl) rfl hHeld (fun wq hSq K Q hK => ?_) ?_
                                rotate_left
                                · (go_step; exact hK)
                                refine T_light (a' := ?_) 187 rfl rfl rfl (of_decide_eq_true rfl) rfl hHeld (fun wq hSq K Q hK => ?_) ?_
                                rotate_left
                                · (go_step; exact hK)
                                refine T_light (a' := ?_) 188 rfl rfl rfl (of_decide_eq_true rfl) rfl hHeld (fun wq hSq K Q hK => ?_) ?_
                                rotate_left
                                · (go_step; exact hK)
                                refine T_light (a' := ?_) 189 rfl rfl rfl (of_decide_eq_true rfl) rfl hHeld (fun wq hSq K Q hK => ?_) ?_
                                rotate_left
                                · (go_step; exact hK)
                                refine T_light (a' := ?_) 190 rfl rfl rfl (of_decide_eq_true rfl) rfl hHeld (fun wq hSq K Q hK => ?_) ?_
                                rotate_left
                                · (go_step; exact hK)
                                refine T_light (a' := ?_) 191 rfl rfl rfl (of_decide_eq_true rfl) rfl hHeld (fun wq hSq K Q hK => ?_) ?_
                                rotate_left
                                · (go_step; exact hK)
                                refine T_done ?_
                                go_wp2_with fail
                                go_roundg f
                                case measure => exact Nat.lt_succ_self f
                                case rel => exact ⟨n + 1, by rw [e1], Lib.hid (mt_nx HN.out), HE, Lib.hid ⟨HW6.out.1, HW6.out.2.1, HW6.out.2.2.drew⟩, Lib.hid HQG.out⟩
                              · have HE := Lib.hid (show n = R by
                                  have := HG.out
                                  unfold longGo at this
                                  rw [if_neg (by rw [hc1, hc2]; exact fun h => hxy h.2)] at this
                                  exact this)
                                have exy : ((c1 : Int) == (c2 : Int)) = false := mt_ne hxy
                                clear hc1 hc2 hxy hlt
                                go_wp2_with fail
                                have hHeld := HH.out
                                refine wp_region_T (fun w' => w'.cell? ⟨g, m, none⟩ = some (.int .i64 (q : Nat))) [.take 0, .take 1, .take 2, .take 3, .take 4, .take 5, .take 6, .take 7, .take 8, .take 9, .take 10, .take 11, .take 12, .take 13, .take 14, .take 15, .take 16, .take 17, .take 18, .take 19, .take 20, .take 21, .take 22, .take 23, .take 24, .take 25] (by kernel_rfl) (by kernel_rfl) (fun _ _ _ _ _ h => h) hHeld ?_
                                refine T_light (a' := ?_) 166 rfl rfl rfl (of_decide_eq_true rfl) rfl hHeld (fun wq hSq K Q hK => ?_) ?_
                                rotate_left
                                · (go_step; exact hK)
                                refine T_light (a' := ?_) 167 rfl rfl rfl (of_decide_eq_true rfl) rfl hHeld (fun wq hSq K Q hK => ?_) ?_
                                rotate_left
                                · (go_step; exact hK)
                                refine T_light (a' := ?_) 168 rfl rfl rfl (of_decide_eq_true rfl) rfl hHeld (fun wq hSq K Q hK => ?_) ?_
                                rotate_left
                                · (go_step; exact hK)
                                refine T_light (a' := ?_) 169 rfl rfl rfl (of_decide_eq_true rfl) rfl hHeld (fun wq hSq K Q hK => ?_) ?_
                                rotate_left
                                · (go_step; exact hK)
                                refine T_light (a' := ?_) 170 rfl rfl rfl (of_decide_eq_true rfl) rfl hHeld (fun wq hSq K Q hK => ?_) ?_
                                rotate_left
                                · (go_step; exact hK)
                                refine T_light (a' := ?_) 171 rfl rfl rfl (of_decide_eq_true rfl) rfl hHeld (fun wq hSq K Q hK => ?_) ?_
                                rotate_left
                                · (go_step; exact hK)
                                refine T_light (a' := ?_) 172 rfl rfl rfl (of_decide_eq_true rfl) rfl hHeld (fun wq hSq K Q hK => ?_) ?_
                                rotate_left
                                · (go_step; exact hK)
                                refine T_light (a' := ?_) 173 rfl rfl rfl (of_decide_eq_true rfl) rfl hHeld (fun wq hSq K Q hK => ?_) ?_
                                rotate_left
                                · (go_step; exact hK)
                                refine T_light (a' := ?_) 174 rfl rfl rfl (of_decide_eq_true rfl) rfl hHeld (fun wq hSq K Q hK => ?_) ?_
                                rotate_left
                                · (go_step; exact hK)
                                refine T_light (a' := ?_) 175 rfl rfl rfl (of_decide_eq_true rfl) rfl hHeld (fun wq hSq K Q hK => ?_) ?_
                                rotate_left
                                · (go_step; exact hK)
                                refine T_light (a' := ?_) 176 rfl rfl rfl (of_decide_eq_true rfl) rfl hHeld (fun wq hSq K Q hK => ?_) ?_
                                rotate_left
                                · (go_step; exact hK)
                                refine T_light (a' := ?_) 177 rfl rfl rfl (of_decide_eq_true rfl) rfl hHeld (fun wq hSq K Q hK => ?_) ?_
                                rotate_left
                                · (go_step; exact hK)
                                refine T_light (a' := ?_) 178 rfl rfl rfl (of_decide_eq_true rfl) rfl hHeld (fun wq hSq K Q hK => ?_) ?_
                                rotate_left
                                · (go_step; exact hK)
                                refine T_light (a' := ?_) 179 rfl rfl rfl (of_decide_eq_true rfl) rfl hHeld (fun wq hSq K Q hK => ?_) ?_
                                rotate_left
                                · (go_step; exact hK)
                                refine T_light (a' := ?_) 180 rfl rfl rfl (of_decide_eq_true rfl) rfl hHeld (fun wq hSq K Q hK => ?_) ?_
                                rotate_left
                                · (go_step; exact hK)
                                refine T_light (a' := ?_) 181 rfl rfl rfl (of_decide_eq_true rfl) rfl hHeld (fun wq hSq K Q hK => ?_) ?_
                                rotate_left
                                · ((have r1 := hSq; go_step); exact hK)
                                refine T_light (a' := ?_) 182 rfl rfl rfl (of_decide_eq_true rfl) rfl hHeld (fun wq hSq K Q hK => ?_) ?_
                                rotate_left
                                · (go_step; exact hK)
                                refine T_light (a' := ?_) 183 rfl rfl rfl (of_decide_eq_true rfl) rfl hHeld (fun wq hSq K Q hK => ?_) ?_
                                rotate_left
                                · (go_step; exact hK)
                                refine T_light (a' := ?_) 184 rfl rfl rfl (of_decide_eq_true rfl) rfl hHeld (fun wq hSq K Q hK => ?_) ?_
                                rotate_left
                                · (go_step; exact hK)
                                refine T_light (a' := ?_) 185 rfl rfl rfl (of_decide_eq_true rfl) rfl hHeld (fun wq hSq K Q hK => ?_) ?_
                                rotate_left
                                · (go_step; exact hK)
                                refine T_light (a' := ?_) 186 rfl rfl rfl (of_decide_eq_true rfl) rfl hHeld (fun wq hSq K Q hK => ?_) ?_
                                rotate_left
                                · (go_step; exact hK)
                                refine T_light (a' := ?_) 187 rfl rfl rfl (of_decide_eq_true rfl) rfl hHeld (fun wq hSq K Q hK => ?_) ?_
                                rotate_left
                                · (go_step; exact hK)
                                refine T_light (a' := ?_) 188 rfl rfl rfl (of_decide_eq_true rfl) rfl hHeld (fun wq hSq K Q hK => ?_) ?_
                                rotate_left
                                · (go_step; exact hK)
                                refine T_light (a' := ?_) 189 rfl rfl rfl (of_decide_eq_true rfl) rfl hHeld (fun wq hSq K Q hK => ?_) ?_
                                rotate_left
                                · (go_step; exact hK)
                                refine T_light (a' := ?_) 190 rfl rfl rfl (of_decide_eq_true rfl) rfl hHeld (fun wq hSq K Q hK => ?_) ?_
                                rotate_left
                                · (go_step; exact hK)
                                refine T_light (a' := ?_) 191 rfl rfl rfl (of_decide_eq_true rfl) rfl hHeld (fun wq hSq K Q hK => ?_) ?_
                                rotate_left
                                · (go_step; exact hK)
                                refine T_done ?_
                                clear hHeld HH
                                have q0 : wr.drew.cell? ⟨B, 0, none⟩ = some (.int .i64 (i : Nat)) := HW6.out.1
                                have HW7 := Lib.hid (show wr.drew.cell? ⟨B, 0, none⟩ = some (.int .i64 (i : Nat)) ∧ (∀ i q, cs[i]? = some q → ∃ g', (some ⟨g, 0, none⟩ : Option Addr) = some ⟨g', 0, none⟩ ∧ wr.drew.cell? ⟨g', i, none⟩ = some (.int .i64 (q : Nat))) ∧ Below w.heap.size w wr.drew from ⟨HW6.out.1, HW6.out.2.1, HW6.out.2.2.drew⟩)
                                by_cases hni : i < n
                                · obtain ⟨k1, k1'⟩ := mt_lt hni
                                  have hnc : ¬ i < nice := mt_nice HQL.out (HE.out ▸ hni)
                                  obtain ⟨k2, k2'⟩ := mt_ge hnc
                                  clear hni hnc
                                  go_wp2_with fail
                                  go_roundg fo
                                  case measure => exact Nat.lt_succ_self fo
                                  case rel => exact ⟨m + 1, by rw [e1m], Lib.hid (mt_nx HM.out), HW7⟩
                                · obtain ⟨k1, k1'⟩ := mt_ge hni
                                  clear hni
                                  go_wp2_with fail
                                  go_roundg fo
                                  case measure => exact Nat.lt_succ_self fo
                                  case rel => exact ⟨m + 1, by rw [e1m], Lib.hid (mt_nx HM.out), HW7⟩
                            · obtain ⟨d2, d2'⟩ := mt_adn hlt
                              have HE := Lib.hid (show n = R by
                                have := HG.out
                                unfold longGo at this
                                rw [if_neg (by rw [byteL_length]; exact fun h => hlt h.1)] at this
                                exact this)
                              clear hlt
                              go_wp2_with fail
                              have hHeld := HH.out
                              refine wp_region_T (fun w' => w'.cell? ⟨g, m, none⟩ = some (.int .i64 (q : Nat))) [.take 0, .take 1, .take 2, .take 3, .take 4, .take 5, .take 6, .take 7, .take 8, .take 9, .take 10, .take 11, .take 12, .take 13, .take 14, .take 15, .take 16, .take 17, .take 18, .take 19, .take 20, .take 21, .take 22, .take 23, .take 24, .take 25] (by kernel_rfl) (by kernel_rfl) (fun _ _ _ _ _ h => h) hHeld ?_
                              refine T_light (a' := ?_) 166 rfl rfl rfl (of_decide_eq_true rfl) rfl hHeld (fun wq hSq K Q hK => ?_) ?_
                              rotate_left
                              · (go_step; exact hK)
                              refine T_light (a' := ?_) 167 rfl rfl rfl (of_decide_eq_true rfl) rfl hHeld (fun wq hSq K Q hK => ?_) ?_
                              rotate_left
                              · (go_step; exact hK)
                              refine T_light (a' := ?_) 168 rfl rfl rfl (of_decide_eq_true rfl) rfl hHeld (fun wq hSq K Q hK => ?_) ?_
                              rotate_left
                              · (go_step; exact hK)
                              refine T_light (a' := ?_) 169 rfl rfl rfl (of_decide_eq_true rfl) rfl hHeld (fun wq hSq K Q hK => ?_) ?_
                              rotate_left
                              · (go_step; exact hK)
                              refine T_light (a' := ?_) 170 rfl rfl rfl (of_decide_eq_true rfl) rfl hHeld (fun wq hSq K Q hK => ?_) ?_
                              rotate_left
                              · (go_step; exact hK)
                              refine T_light (a' := ?_) 171 rfl rfl rfl (of_decide_eq_true rfl) rfl hHeld (fun wq hSq K Q hK => ?_) ?_
                              rotate_left
                              · (go_step; exact hK)
                              refine T_light (a' := ?_) 172 rfl rfl rfl (of_decide_eq_true rfl) rfl hHeld (fun wq hSq K Q hK => ?_) ?_
                              rotate_left
                              · (go_step; exact hK)
                              refine T_light (a' := ?_) 173 rfl rfl rfl (of_decide_eq_true rfl) rfl hHeld (fun wq hSq K Q hK => ?_) ?_
                              rotate_left
                              · (go_step; exact hK)
                              refine T_light (a' := ?_) 174 rfl rfl rfl (of_decide_eq_true rfl) rfl hHeld (fun wq hSq K Q hK => ?_) ?_
                              rotate_left
                              · (go_step; exact hK)
                              refine T_light (a' := ?_) 175 rfl rfl rfl (of_decide_eq_true rfl) rfl hHeld (fun wq hSq K Q hK => ?_) ?_
                              rotate_left
                              · (go_step; exact hK)
                              refine T_light (a' := ?_) 176 rfl rfl rfl (of_decide_eq_true rfl) rfl hHeld (fun wq hSq K Q hK => ?_) ?_
                              rotate_left
                              · (go_step; exact hK)
                              refine T_pass2 (a' := ?_) 177 rfl rfl (by kernel_rfl) (fun K hK => ?_) ?_
                              rotate_left
                              · (simp only [Act.put, List.setIfInBounds_toArray, List.set_cons_zero, List.set_cons_succ]; exact hK)
                              refine T_pass2 (a' := ?_) 178 rfl rfl (by kernel_rfl) (fun K hK => ?_) ?_
                              rotate_left
                              · (simp only [Act.put, List.setIfInBounds_toArray, List.set_cons_zero, List.set_cons_succ]; exact hK)
                              refine T_pass2 (a' := ?_) 179 rfl rfl (by kernel_rfl) (fun K hK => ?_) ?_
                              rotate_left
                              · (simp only [Act.put, List.setIfInBounds_toArray, List.set_cons_zero, List.set_cons_succ]; exact hK)
                              refine T_pass2 (a' := ?_) 180 rfl rfl (by kernel_rfl) (fun K hK => ?_) ?_
                              rotate_left
                              · (simp only [Act.put, List.setIfInBounds_toArray, List.set_cons_zero, List.set_cons_succ]; exact hK)
                              refine T_pass2 (a' := ?_) 181 rfl rfl (by kernel_rfl) (fun K hK => ?_) ?_
                              rotate_left
                              · (simp only [Act.put, List.setIfInBounds_toArray, List.set_cons_zero, List.set_cons_succ]; exact hK)
                              refine T_pass2 (a' := ?_) 182 rfl rfl (by kernel_rfl) (fun K hK => ?_) ?_
                              rotate_left
                              · (simp only [Act.put, List.setIfInBounds_toArray, List.set_cons_zero, List.set_cons_succ]; exact hK)
                              refine T_pass2 (a' := ?_) 183 rfl rfl (by kernel_rfl) (fun K hK => ?_) ?_
                              rotate_left
                              · (simp only [Act.put, List.setIfInBounds_toArray, List.set_cons_zero, List.set_cons_succ]; exact hK)
                              refine T_pass2 (a' := ?_) 184 rfl rfl (by kernel_rfl) (fun K hK => ?_) ?_
                              rotate_left
                              · (simp only [Act.put, List.setIfInBounds_toArray, List.set_cons_zero, List.set_cons_succ]; exact hK)
                              refine T_pass2 (a' := ?_) 185 rfl rfl (by kernel_rfl) (fun K hK => ?_) ?_
                              rotate_left
                              · (simp only [Act.put, List.setIfInBounds_toArray, List.set_cons_zero, List.set_cons_succ]; exact hK)
                              refine T_pass2 (a' := ?_) 186 rfl rfl (by kernel_rfl) (fun K hK => ?_) ?_
                              rotate_left
                              · (simp only [Act.put, List.setIfInBounds_toArray, List.set_cons_zero, List.set_cons_succ]; exact hK)
                              refine T_pass2 (a' := ?_) 187 rfl rfl (by kernel_rfl) (fun K hK => ?_) ?_
                              rotate_left
                              · (simp only [Act.put, List.setIfInBounds_toArray, List.set_cons_zero, List.set_cons_succ]; exact hK)
                              refine T_pass2 (a' := ?_) 188 rfl rfl (by kernel_rfl) (fun K hK => ?_) ?_
                              rotate_left
                              · (simp only [Act.put, List.setIfInBounds_toArray, List.set_cons_zero, List.set_cons_succ]; exact hK)
                              refine T_pass2 (a' := ?_) 189 rfl rfl (by kernel_rfl) (fun K hK => ?_) ?_
                              rotate_left
                              · (simp only [Act.put, List.setIfInBounds_toArray, List.set_cons_zero, List.set_cons_succ]; exact hK)
                              refine T_pass2 (a' := ?_) 190 rfl rfl (by kernel_rfl) (fun K hK => ?_) ?_
                              rotate_left
                              · (simp only [Act.put, List.setIfInBounds_toArray, List.set_cons_zero, List.set_cons_succ]; exact hK)
                              refine T_light (a' := ?_) 191 rfl rfl rfl (of_decide_eq_true rfl) rfl hHeld (fun wq hSq K Q hK => ?_) ?_
                              rotate_left
                              · (go_step; exact hK)
                              refine T_done ?_
                              clear hHeld HH
                              have q0 : wr.drew.cell? ⟨B, 0, none⟩ = some (.int .i64 (i : Nat)) := HW6.out.1
                              have HW7 := Lib.hid (show wr.drew.cell? ⟨B, 0, none⟩ = some (.int .i64 (i : Nat)) ∧ (∀ i q, cs[i]? = some q → ∃ g', (some ⟨g, 0, none⟩ : Option Addr) = some ⟨g', 0, none⟩ ∧ wr.drew.cell? ⟨g', i, none⟩ = some (.int .i64 (q : Nat))) ∧ Below w.heap.size w wr.drew from ⟨HW6.out.1, HW6.out.2.1, HW6.out.2.2.drew⟩)
                              by_cases hni : i < n
                              · obtain ⟨k1, k1'⟩ := mt_lt hni
                                have hnc : ¬ i < nice := mt_nice HQL.out (HE.out ▸ hni)
                                obtain ⟨k2, k2'⟩ := mt_ge hnc
                                clear hni hnc
                                go_wp2_with fail
                                go_roundg fo
                                case measure => exact Nat.lt_succ_self fo
                                case rel => exact ⟨m + 1, by rw [e1m], Lib.hid (mt_nx HM.out), HW7⟩
                              · obtain ⟨k1, k1'⟩ := mt_ge hni
                                clear hni
                                go_wp2_with fail
                                go_roundg fo
                                case measure => exact Nat.lt_succ_self fo
                                case rel => exact ⟨m + 1, by rw [e1m], Lib.hid (mt_nx HM.out), HW7⟩
                  · obtain ⟨d2, d2'⟩ := mt_adn hlt
                    clear hlt HEND
                    go_wp2_with fail
                    have hHeld := HH.out
                    refine wp_region_T (fun w' => w'.cell? ⟨B, 0, none⟩ = some (.int .i64 (i : Nat)) ∧ w'.cell? ⟨B, 1, none⟩ = some (.int .i64 (y : Nat))) [.take 0, .take 1, .take 2, .take 3, .take 4, .take 5, .take 6, .take 7, .take 8, .take 9, .take 10, .take 11, .take 12, .take 13, .take 14, .take 15, .take 16, .take 17, .take 18, .take 19, .take 20, .take 21, .take 22, .take 23, .take 24, .take 25, .take 26, .take 27, .take 28, .take 29] (by kernel_rfl) (by kernel_rfl) (fun _ _ _ _ _ h => h) hHeld ?_
                    refine T_light (a' := ?_) 112 rfl rfl rfl (of_decide_eq_true rfl) rfl hHeld (fun wq hSq K Q hK => ?_) ?_
                    rotate_left
                    · (go_step; exact hK)
                    refine T_light (a' := ?_) 113 rfl rfl rfl (of_decide_eq_true rfl) rfl hHeld (fun wq hSq K Q hK => ?_) ?_
                    rotate_left
                    · ((have r1 := hSq.1; go_step); exact hK)
                    refine T_light (a' := ?_) 114 rfl rfl rfl (of_decide_eq_true rfl) rfl hHeld (fun wq hSq K Q hK => ?_) ?_
                    rotate_left
                    · (go_step; exact hK)
                    refine T_light (a' := ?_) 115 rfl rfl rfl (of_decide_eq_true rfl) rfl hHeld (fun wq hSq K Q hK => ?_) ?_
                    rotate_left
                    · (go_step; exact hK)
                    refine T_light (a' := ?_) 116 rfl rfl rfl (of_decide_eq_true rfl) rfl hHeld (fun wq hSq K Q hK => ?_) ?_
                    rotate_left
                    · (go_step; exact hK)
                    refine T_light (a' := ?_) 117 rfl rfl rfl (of_decide_eq_true rfl) rfl hHeld (fun wq hSq K Q hK => ?_) ?_
                    rotate_left
                    · (go_step; exact hK)
                    refine T_light (a' := ?_) 118 rfl rfl rfl (of_decide_eq_true rfl) rfl hHeld (fun wq hSq K Q hK => ?_) ?_
                    rotate_left
                    · ((have r1 := hSq.1; go_step); exact hK)
                    refine T_light (a' := ?_) 119 rfl rfl rfl (of_decide_eq_true rfl) rfl hHeld (fun wq hSq K Q hK => ?_) ?_
                    rotate_left
                    · (go_step; exact hK)
                    refine T_light (a' := ?_) 120 rfl rfl rfl (of_decide_eq_true rfl) rfl hHeld (fun wq hSq K Q hK => ?_) ?_
                    rotate_left
                    · (go_step; exact hK)
                    refine T_light (a' := ?_) 121 rfl rfl rfl (of_decide_eq_true rfl) rfl hHeld (fun wq hSq K Q hK => ?_) ?_
                    rotate_left
                    · (go_step; exact hK)
                    refine T_light (a' := ?_) 122 rfl rfl rfl (of_decide_eq_true rfl) rfl hHeld (fun wq hSq K Q hK => ?_) ?_
                    rotate_left
                    · (go_step; exact hK)
                    refine T_light (a' := ?_) 123 rfl rfl rfl (of_decide_eq_true rfl) rfl hHeld (fun wq hSq K Q hK => ?_) ?_
                    rotate_left
                    · (go_step; exact hK)
                    refine T_light (a' := ?_) 124 rfl rfl rfl (of_decide_eq_true rfl) rfl hHeld (fun wq hSq K Q hK => ?_) ?_
                    rotate_left
                    · (go_step; exact hK)
                    refine T_pass2 (a' := ?_) 125 rfl rfl (by kernel_rfl) (fun K hK => ?_) ?_
                    rotate_left
                    · (simp only [Act.put, List.setIfInBounds_toArray, List.set_cons_zero, List.set_cons_succ]; exact hK)
                    refine T_pass2 (a' := ?_) 126 rfl rfl (by kernel_rfl) (fun K hK => ?_) ?_
                    rotate_left
                    · (simp only [Act.put, List.setIfInBounds_toArray, List.set_cons_zero, List.set_cons_succ]; exact hK)
                    refine T_pass2 (a' := ?_) 127 rfl rfl (by kernel_rfl) (fun K hK => ?_) ?_
                    rotate_left
                    · (simp only [Act.put, List.setIfInBounds_toArray, List.set_cons_zero, List.set_cons_succ]; exact hK)
                    refine T_pass2 (a' := ?_) 128 rfl rfl (by kernel_rfl) (fun K hK => ?_) ?_
                    rotate_left
                    · (simp only [Act.put, List.setIfInBounds_toArray, List.set_cons_zero, List.set_cons_succ]; exact hK)
                    refine T_pass2 (a' := ?_) 129 rfl rfl (by kernel_rfl) (fun K hK => ?_) ?_
                    rotate_left
                    · (simp only [Act.put, List.setIfInBounds_toArray, List.set_cons_zero, List.set_cons_succ]; exact hK)
                    refine T_pass2 (a' := ?_) 130 rfl rfl (by kernel_rfl) (fun K hK => ?_) ?_
                    rotate_left
                    · (simp only [Act.put, List.setIfInBounds_toArray, List.set_cons_zero, List.set_cons_succ]; exact hK)
                    refine T_pass2 (a' := ?_) 131 rfl rfl (by kernel_rfl) (fun K hK => ?_) ?_
                    rotate_left
                    · (simp only [Act.put, List.setIfInBounds_toArray, List.set_cons_zero, List.set_cons_succ]; exact hK)
                    refine T_pass2 (a' := ?_) 132 rfl rfl (by kernel_rfl) (fun K hK => ?_) ?_
                    rotate_left
                    · (simp only [Act.put, List.setIfInBounds_toArray, List.set_cons_zero, List.set_cons_succ]; exact hK)
                    refine T_pass2 (a' := ?_) 133 rfl rfl (by kernel_rfl) (fun K hK => ?_) ?_
                    rotate_left
                    · (simp only [Act.put, List.setIfInBounds_toArray, List.set_cons_zero, List.set_cons_succ]; exact hK)
                    refine T_pass2 (a' := ?_) 134 rfl rfl (by kernel_rfl) (fun K hK => ?_) ?_
                    rotate_left
                    · (simp only [Act.put, List.setIfInBounds_toArray, List.set_cons_zero, List.set_cons_succ]; exact hK)
                    refine T_pass2 (a' := ?_) 135 rfl rfl (by kernel_rfl) (fun K hK => ?_) ?_
                    rotate_left
                    · (simp only [Act.put, List.setIfInBounds_toArray, List.set_cons_zero, List.set_cons_succ]; exact hK)
                    refine T_pass2 (a' := ?_) 136 rfl rfl (by kernel_rfl) (fun K hK => ?_) ?_
                    rotate_left
                    · (simp only [Act.put, List.setIfInBounds_toArray, List.set_cons_zero, List.set_cons_succ]; exact hK)
                    refine T_pass2 (a' := ?_) 137 rfl rfl (by kernel_rfl) (fun K hK => ?_) ?_
                    rotate_left
                    · (simp only [Act.put, List.setIfInBounds_toArray, List.set_cons_zero, List.set_cons_succ]; exact hK)
                    refine T_pass2 (a' := ?_) 138 rfl rfl (by kernel_rfl) (fun K hK => ?_) ?_
                    rotate_left
                    · (simp only [Act.put, List.setIfInBounds_toArray, List.set_cons_zero, List.set_cons_succ]; exact hK)
                    refine T_pass2 (a' := ?_) 139 rfl rfl (by kernel_rfl) (fun K hK => ?_) ?_
                    rotate_left
                    · (simp only [Act.put, List.setIfInBounds_toArray, List.set_cons_zero, List.set_cons_succ]; exact hK)
                    refine T_pass2 (a' := ?_) 140 rfl rfl (by kernel_rfl) (fun K hK => ?_) ?_
                    rotate_left
                    · (simp only [Act.put, List.setIfInBounds_toArray, List.set_cons_zero, List.set_cons_succ]; exact hK)
                    refine T_light (a' := ?_) 141 rfl rfl rfl (of_decide_eq_true rfl) rfl hHeld (fun wq hSq K Q hK => ?_) ?_
                    rotate_left
                    · (go_step; exact hK)
                    refine T_done ?_
                    go_wp2_with fail
                    clear hHeld HH
                    refine (places_any (j : Int) (depth : Int) w.heap.size A s (upto j) _ HW3.out.2.1 HPLF.out.1 HPLF.out.2.1 HPLF.out.2.2.1 HPLF.out.2.2.2).mono ?_
                    rintro e w5 ⟨v, rfl, hrow, hf5, hb5⟩
                    obtain ⟨cs, hcs⟩ : ∃ cs, placesL (byteL s) (upto j) (j : Int) (depth : Int) = cs := ⟨_, rfl⟩
                    have hcl := placesL_len (byteL s) (upto j) (j : Int) (depth : Int)
                    rw [hcs] at hrow hcl
                    rw [upto_length] at hcl
                    have HCS2 := HCS
                    rw [hcs] at HCS2
                    obtain ⟨a, c, rfl, hget⟩ := row_get hrow
                    have hcl2 : cs.length ≤ 2048 := mt_cl hcl HK.out HS2.out
                    have HCL := Lib.hid hcl2
                    have HI0 := Lib.hid (show w5.cell? ⟨B, 0, none⟩ = some (.int .i64 (i : Nat)) ∧ (∀ i q, cs[i]? = some q → ∃ g', a = some ⟨g', 0, none⟩ ∧ w5.cell? ⟨g', i, none⟩ = some (.int .i64 (q : Nat))) ∧ Below w.heap.size w w5 from ⟨(hb5.cell (World.block_lt_of_cell? _ _ HW3.out.1)).trans HW3.out.1, hget, HW3.out.2.2.trans (hb5.mono HW3.out.2.2.size)⟩)
                    clear hrow hf5 hb5 hcs hcl hget hcl2 HW3 q0 q1
                    go_wp2_with fail
                    go_loopg [8, 15, 16] cs.length (fun f s8 s15 s16 wx => ∃ m : Nat, s15 = .int .i64 (m : Int) ∧ Hid (m + f = cs.length) ∧ Hid (wx.cell? ⟨B, 0, none⟩ = some (.int .i64 (i : Nat)) ∧ (∀ i q, cs[i]? = some q → ∃ g', a = some ⟨g', 0, none⟩ ∧ wx.cell? ⟨g', i, none⟩ = some (.int .i64 (q : Nat))) ∧ Below w.heap.size w wx))
                    case atStart => exact ⟨0, rfl, Lib.hid (Nat.zero_add _), HI0⟩
                    case round =>
                      obtain ⟨m, rfl, HM, HW5⟩ := hrel
                      clear HI0
                      cases gk with
                      | zero =>
                        obtain rfl : m = cs.length := HM.out
                        obtain ⟨dk, dk2⟩ := mt_ge (Nat.lt_irrefl cs.length)
                        go_wp2_with fail
                        refine (works_any _).mono ?_
                        rintro e w8 ⟨rfl, hb8⟩
                        have HB8 := Lib.hid (HW5.out.2.2.trans (hb8.mono HW5.out.2.2.size))
                        clear hb8
                        go_wp2_with fail
                        go_ret
                        exact ⟨rfl, HB8.out⟩
                      | succ fo =>
                        have hmc : m < cs.length := mt_nl HM.out
                        obtain ⟨dk, dk2⟩ := mt_lt hmc
                        have HMC := Lib.hid hmc
                        have n0 : (0 : Int) ≤ (m : Int) := Int.natCast_nonneg m
                        have n9 : (m : Int) < (cs.length : Int) := Int.ofNat_lt.2 hmc
                        obtain ⟨q, hq⟩ : ∃ q, cs[m]? = some q := ⟨cs[m], List.getElem?_eq_getElem hmc⟩
                        obtain ⟨g, rfl, qg⟩ := HW5.out.2.1 m q hq
                        obtain ⟨hqj, hql⟩ := HCS2.out q (List.mem_of_getElem? hq)
                        obtain ⟨R, hR⟩ : ∃ R, longL (byteL s) q j = R := ⟨_, rfl⟩
                        rw [hR] at hql
                        have HQL := Lib.hid hql
                        have HQJ := Lib.hid hqj
                        obtain ⟨z1, z2, z3, z4⟩ := mt_q hqj
                        have e1m : wrap64 ((m : Int) + 1) = ((m + 1 : Nat) : Int) := mt_m1 hmc HCL.out
                        have HG0 := Lib.hid (show longGo (byteL s) q j 0 258 = R from hR)
                        clear hmc hq hqj hql hR
                        go_wp2_with fail
                        go_loopg [16] 258 (fun f s16 wx => ∃ n : Nat, s16 = .int .i64 (n : Int) ∧ Hid (n + f = 258) ∧ Hid (longGo (byteL s) q j n f = R) ∧ Hid (wx.cell? ⟨B, 0, none⟩ = some (.int .i64 (i : Nat)) ∧ (∀ i q, cs[i]? = some q → ∃ g', (some ⟨g, 0, none⟩ : Option Addr) = some ⟨g', 0, none⟩ ∧ wx.cell? ⟨g', i, none⟩ = some (.int .i64 (q : Nat))) ∧ Below w.heap.size w wx) ∧ Hid (wx.cell? ⟨g, m, none⟩ = some (.int .i64 (q : Nat))))
                        case atStart => exact ⟨0, rfl, Lib.hid rfl, HG0, HW5, Lib.hid qg⟩
                        case round =>
                          clear qg
                          obtain ⟨n, rfl, HN, HG, HW6, HQG⟩ := hrel
                          have HH := Lib.hid (show wr.drew.cell? ⟨g, m, none⟩ = some (.int .i64 (q : Nat)) from HQG.out)
                          cases gk with
                          | zero =>
                            obtain rfl : n = 258 := HN.out
                            have HE := Lib.hid (show 258 = R from HG.out)
                            go_wp2_with fail
                            have hHeld := HH.out
                            refine wp_region_T (fun w' => w'.cell? ⟨g, m, none⟩ = some (.int .i64 (q : Nat))) [.take 0, .take 1, .take 2, .take 3, .take 4, .take 5, .take 6, .take 7, .take 8, .take 9, .take 10, .take 11, .take 12, .take 13, .take 14, .take 15, .take 16, .take 17, .take 18, .take 19, .take 20, .take 21, .take 22, .take 23, .take 24, .take 25] (by kernel_rfl) (by kernel_rfl) (fun _ _ _ _ _ h => h) hHeld ?_
                            refine T_light (a' := ?_) 166 rfl rfl rfl (of_decide_eq_true rfl) rfl hHeld (fun wq hSq K Q hK => ?_) ?_
                            rotate_left
                            · (go_step; exact hK)
                            refine T_light (a' := ?_) 167 rfl rfl rfl (of_decide_eq_true rfl) rfl hHeld (fun wq hSq K Q hK => ?_) ?_
                            rotate_left
                            · (go_step; exact hK)
                            refine T_light (a' := ?_) 168 rfl rfl rfl (of_decide_eq_true rfl) rfl hHeld (fun wq hSq K Q hK => ?_) ?_
                            rotate_left
                            · (go_step; exact hK)
                            refine T_pass2 (a' := ?_) 169 rfl rfl (by kernel_rfl) (fun K hK => ?_) ?_
                            rotate_left
                            · (simp only [Act.put, List.setIfInBounds_toArray, List.set_cons_zero, List.set_cons_succ]; exact hK)
                            refine T_pass2 (a' := ?_) 170 rfl rfl (by kernel_rfl) (fun K hK => ?_) ?_
                            rotate_left
                            · (simp only [Act.put, List.setIfInBounds_toArray, List.set_cons_zero, List.set_cons_succ]; exact hK)
                            refine T_pass2 (a' := ?_) 171 rfl rfl (by kernel_rfl) (fun K hK => ?_) ?_
                            rotate_left
                            · (simp only [Act.put, List.setIfInBounds_toArray, List.set_cons_zero, List.set_cons_succ]; exact hK)
                            refine T_pass2 (a' := ?_) 172 rfl rfl (by kernel_rfl) (fun K hK => ?_) ?_
                            rotate_left
                            · (simp only [Act.put, List.setIfInBounds_toArray, List.set_cons_zero, List.set_cons_succ]; exact hK)
                            refine T_pass2 (a' := ?_) 173 rfl rfl (by kernel_rfl) (fun K hK => ?_) ?_
                            rotate_left
                            · (simp only [Act.put, List.setIfInBounds_toArray, List.set_cons_zero, List.set_cons_succ]; exact hK)
                            refine T_pass2 (a' := ?_) 174 rfl rfl (by kernel_rfl) (fun K hK => ?_) ?_
                            rotate_left
                            · (simp only [Act.put, List.setIfInBounds_toArray, List.set_cons_zero, List.set_cons_succ]; exact hK)
                            refine T_light (a' := ?_) 175 rfl rfl rfl (of_decide_eq_true rfl) rfl hHeld (fun wq hSq K Q hK => ?_) ?_
                            rotate_left
                            · (go_step; exact hK)
                            refine T_light (a' := ?_) 176 rfl rfl rfl (of_decide_eq_true rfl) rfl hHeld (fun wq hSq K Q hK => ?_) ?_
                            rotate_left
                            · (go_step; exact hK)
                            refine T_pass2 (a' := ?_) 177 rfl rfl (by kernel_rfl) (fun K hK => ?_) ?_
                            rotate_left
                            · (simp only [Act.put, List.setIfInBounds_toArray, List.set_cons_zero, List.set_cons_succ]; exact hK)
                            refine T_pass2 (a' := ?_) 178 rfl rfl (by kernel_rfl) (fun K hK => ?_) ?_
                            rotate_left
                            · (simp only [Act.put, List.setIfInBounds_toArray, List.set_cons_zero, List.set_cons_succ]; exact hK)
                            refine T_pass2 (a' := ?_) 179 rfl rfl (by kernel_rfl) (fun K hK => ?_) ?_
                            rotate_left
                            · (simp only [Act.put, List.setIfInBounds_toArray, List.set_cons_zero, List.set_cons_succ]; exact hK)
                            refine T_pass2 (a' := ?_) 180 rfl rfl (by kernel_rfl) (fun K hK => ?_) ?_
                            rotate_left
                            · (simp only [Act.put, List.setIfInBounds_toArray, List.set_cons_zero, List.set_cons_succ]; exact hK)
                            refine T_pass2 (a' := ?_) 181 rfl rfl (by kernel_rfl) (fun K hK => ?_) ?_
                            rotate_left
                            · (simp only [Act.put, List.setIfInBounds_toArray, List.set_cons_zero, List.set_cons_succ]; exact hK)
                            refine T_pass2 (a' := ?_) 182 rfl rfl (by kernel_rfl) (fun K hK => ?_) ?_
                            rotate_left
                            · (simp only [Act.put, List.setIfInBounds_toArray, List.set_cons_zero, List.set_cons_succ]; exact hK)
                            refine T_pass2 (a' := ?_) 183 rfl rfl (by kernel_rfl) (fun K hK => ?_) ?_
                            rotate_left
                            · (simp only [Act.put, List.setIfInBounds_toArray, List.set_cons_zero, List.set_cons_succ]; exact hK)
                            refine T_pass2 (a' := ?_) 184 rfl rfl (by kernel_rfl) (fun K hK => ?_) ?_
                            rotate_left
                            · (simp only [Act.put, List.setIfInBounds_toArray, List.set_cons_zero, List.set_cons_succ]; exact hK)
                            refine T_pass2 (a' := ?_) 185 rfl rfl (by kernel_rfl) (fun K hK => ?_) ?_
                            rotate_left
                            · (simp only [Act.put, List.setIfInBounds_toArray, List.set_cons_zero, List.set_cons_succ]; exact hK)
                            refine T_pass2 (a' := ?_) 186 rfl rfl (by kernel_rfl) (fun K hK => ?_) ?_
                            rotate_left
                            · (simp only [Act.put, List.setIfInBounds_toArray, List.set_cons_zero, List.set_cons_succ]; exact hK)
                            refine T_pass2 (a' := ?_) 187 rfl rfl (by kernel_rfl) (fun K hK => ?_) ?_
                            rotate_left
                            · (simp only [Act.put, List.setIfInBounds_toArray, List.set_cons_zero, List.set_cons_succ]; exact hK)
                            refine T_pass2 (a' := ?_) 188 rfl rfl (by kernel_rfl) (fun K hK => ?_) ?_
                            rotate_left
                            · (simp only [Act.put, List.setIfInBounds_toArray, List.set_cons_zero, List.set_cons_succ]; exact hK)
                            refine T_pass2 (a' := ?_) 189 rfl rfl (by kernel_rfl) (fun K hK => ?_) ?_
                            rotate_left
                            · (simp only [Act.put, List.setIfInBounds_toArray, List.set_cons_zero, List.set_cons_succ]; exact hK)
                            refine T_pass2 (a' := ?_) 190 rfl rfl (by kernel_rfl) (fun K hK => ?_) ?_
                            rotate_left
                            · (simp only [Act.put, List.setIfInBounds_toArray, List.set_cons_zero, List.set_cons_succ]; exact hK)
                            refine T_light (a' := ?_) 191 rfl rfl rfl (of_decide_eq_true rfl) rfl hHeld (fun wq hSq K Q hK => ?_) ?_
                            rotate_left
                            · (go_step; exact hK)
                            refine T_done ?_
                            clear hHeld HH
                            have q0 : wr.drew.cell? ⟨B, 0, none⟩ = some (.int .i64 (i : Nat)) := HW6.out.1
                            have HW7 := Lib.hid (show wr.drew.cell? ⟨B, 0, none⟩ = some (.int .i64 (i : Nat)) ∧ (∀ i q, cs[i]? = some q → ∃ g', (some ⟨g, 0, none⟩ : Option Addr) = some ⟨g', 0, none⟩ ∧ wr.drew.cell? ⟨g', i, none⟩ = some (.int .i64 (q : Nat))) ∧ Below w.heap.size w wr.drew from ⟨HW6.out.1, HW6.out.2.1, HW6.out.2.2.drew⟩)
                            by_cases hni : i < 258
                            · obtain ⟨k1, k1x⟩ := mt_lt hni
                              have k1' : decide ((i : Int) < 258) = true := k1x
                              have hnc : ¬ i < nice := mt_nice HQL.out (HE.out ▸ hni)
                              obtain ⟨k2, k2'⟩ := mt_ge hnc
                              clear hni hnc
                              first
                                | exact absurd (m1.symm.trans k1) (by decide)
                                | go_wp2_with fail
                                  go_roundg fo
                                  case measure => exact Nat.lt_succ_self fo
                                  case rel => exact ⟨m + 1, by rw [e1m], Lib.hid (mt_nx HM.out), HW7⟩
                            · obtain ⟨k1, k1x⟩ := mt_ge hni
                              have k1' : decide ((i : Int) < 258) = false := k1x
                              clear hni
                              first
                                | exact absurd (m1.symm.trans k1) (by decide)
                                | go_wp2_with fail
                                  go_roundg fo
                                  case measure => exact Nat.lt_succ_self fo
                                  case rel => exact ⟨m + 1, by rw [e1m], Lib.hid (mt_nx HM.out), HW7⟩
                          | succ f =>
                            have hn258 : n < 258 := mt_nl HN.out
                            obtain ⟨m1, m1x⟩ := mt_lt hn258
                            have m1' : decide ((n : Int) < 258) = true := m1x
                            obtain ⟨e1, e2, e3, n1, n3⟩ := mt2 (x := 0) (i := n) HS2.out HQJ.out (Nat.le_of_lt hn258) HK.out
                            clear hn258 m1x
                            by_cases hlt : j + n < s.size
                            · obtain ⟨d2, d2', n4⟩ := mt_ad hlt
                              have n2 : (q : Int) + (n : Int) < (s.size : Int) := mt_n2 HQJ.out hlt
                              obtain ⟨c1, hc1, hx2⟩ : ∃ c : Nat, (byteL s).getD (q + n) 0 = c ∧ (∀ h', ((s[q + n]'h').toNat : Int) = (c : Int)) := ⟨_, rfl, fun h' => by rw [idx_byte s (q + n) h']⟩
                              obtain ⟨c2, hc2, hy2⟩ : ∃ c : Nat, (byteL s).getD (j + n) 0 = c ∧ (∀ h', ((s[j + n]'h').toNat : Int) = (c : Int)) := ⟨_, rfl, fun h' => by rw [idx_byte s (j + n) h']⟩
                              by_cases hxy : c1 = c2
                              · have HE := Lib.hid (show longGo (byteL s) q j (n + 1) f = R by
                                  have := HG.out
                                  unfold longGo at this
                                  rw [if_pos ⟨by rw [byteL_length]; exact hlt, by rw [hc1, hc2, hxy]⟩] at this
                                  exact this)
                                have exy : ((c1 : Int) == (c2 : Int)) = true := by subst hxy; simp
                                clear hc1 hc2 hxy hlt
                                go_wp2_with fail
                                have hHeld := HH.out
                                refine wp_region_T (fun w' => w'.cell? ⟨g, m, none⟩ = some (.int .i64 (q : Nat))) [.take 0, .take 1, .take 2, .take 3, .take 4, .take 5, .take 6, .take 7, .take 8, .take 9, .take 10, .take 11, .take 12, .take 13, .take 14, .take 15, .take 16, .take 17, .take 18, .take 19, .take 20, .take 21, .take 22, .take 23, .take 24, .take 25] (by kernel_rfl) (by kernel_rfl) (fun _ _ _ _ _ h => h) hHeld ?_
                                refine T_light (a' := ?_) 166 rfl rfl rfl (of_decide_eq_true rfl) rfl hHeld (fun wq hSq K Q hK => ?_) ?_
                                rotate_left
                                · (go_step; exact hK)
                                refine T_light (a' := ?_) 167 rfl rfl rfl (of_decide_eq_true rfl) rfl hHeld (fun wq hSq K Q hK => ?_) ?_
                                rotate_left
                                · (go_step; exact hK)
                                refine T_light (a' := ?_) 168 rfl rfl rfl (of_decide_eq_true rfl) rfl hHeld (fun wq hSq K Q hK => ?_) ?_
                                rotate_left
                                · (go_step; exact hK)
                                refine T_light (a' := ?_) 169 rfl rfl rfl (of_decide_eq_true rfl) rfl hHeld (fun wq hSq K Q hK => ?_) ?_
                                rotate_left
                                · (go_step; exact hK)
                                refine T_light (a' := ?_) 170 rfl rfl rfl (of_decide_eq_true rfl) rfl hHeld (fun wq hSq K Q hK => ?_) ?_
                                rotate_left
                                · (go_step; exact hK)
                                refine T_light (a' := ?_) 171 rfl rfl rfl (of_decide_eq_true rfl) rfl hHeld (fun wq hSq K Q hK => ?_) ?_
                                rotate_left
                                · (go_step; exact hK)
                                refine T_light (a' := ?_) 172 rfl rfl rfl (of_decide_eq_true rfl) rfl hHeld (fun wq hSq K Q hK => ?_) ?_
                                rotate_left
                                · (go_step; exact hK)
                                refine T_light (a' := ?_) 173 rfl rfl rfl (of_decide_eq_true rfl) rfl hHeld (fun wq hSq K Q hK => ?_) ?_
                                rotate_left
                                · (go_step; exact hK)
                                refine T_light (a' := ?_) 174 rfl rfl rfl (of_decide_eq_true rfl) rfl hHeld (fun wq hSq K Q hK => ?_) ?_
                                rotate_left
                                · (go_step; exact hK)
                                refine T_light (a' := ?_) 175 rfl rfl rfl (of_decide_eq_true rfl) rfl hHeld (fun wq hSq K Q hK => ?_) ?_
                                rotate_left
                                · (go_step; exact hK)
                                refine T_light (a' := ?_) 176 rfl rfl rfl (of_decide_eq_true rfl) rfl hHeld (fun wq hSq K Q hK => ?_) ?_
                                rotate_left
                                · (go_step; exact hK)
                                refine T_light (a' := ?_) 177 rfl rfl rfl (of_decide_eq_true rfl) rfl hHeld (fun wq hSq K Q hK => ?_) ?_
                                rotate_left
                                · (go_step; exact hK)
                                refine T_light (a' := ?_) 178 rfl rfl rfl (of_decide_eq_true rfl) rfl hHeld (fun wq hSq K Q hK => ?_) ?_
                                rotate_left
                                · (go_step; exact hK)
                                refine T_light (a' := ?_) 179 rfl rfl rfl (of_decide_eq_true rfl) rfl hHeld (fun wq hSq K Q hK => ?_) ?_
                                rotate_left
                                · (go_step; exact hK)
                                refine T_light (a' := ?_) 180 rfl rfl rfl (of_decide_eq_true rfl) rfl hHeld (fun wq hSq K Q hK => ?_) ?_
                                rotate_left
                                · (go_step; exact hK)
                                refine T_light (a' := ?_) 181 rfl rfl rfl (of_decide_eq_true rfl) rfl hHeld (fun wq hSq K Q hK => ?_) ?_
                                rotate_left
                                · ((have r1 := hSq; go_step); exact hK)
                                refine T_light (a' := ?_) 182 rfl rfl rfl (of_decide_eq_true rfl) rfl hHeld (fun wq hSq K Q hK => ?_) ?_
                                rotate_left
                                · (go_step; exact hK)
                                refine T_light (a' := ?_) 183 rfl rfl rfl (of_decide_eq_true rfl) rfl hHeld (fun wq hSq K Q hK => ?_) ?_
                                rotate_left
                                · (go_step; exact hK)
                                refine T_light (a' := ?_) 184 rfl rfl rfl (of_decide_eq_true rfl) rfl hHeld (fun wq hSq K Q hK => ?_) ?_
                                rotate_left
                                · (go_step; exact hK)
                                refine T_light (a' := ?_) 185 rfl rfl rfl (of_decide_eq_true rfl) rfl hHeld (fun wq hSq K Q hK => ?_) ?_
                                rotate_left
                                · (go_step; exact hK)
                                refine T_light (a' := ?_) 186 rfl rfl rfl (of_decide_eq_true rfl) rfl hHeld (fun wq hSq K Q hK => ?_) ?_
                                rotate_left
                                · (go_step; exact hK)
                                refine T_light (a' := ?_) 187 rfl rfl rfl (of_decide_eq_true rfl) rfl hHeld (fun wq hSq K Q hK => ?_) ?_
                                rotate_left
                                · (go_step; exact hK)
                                refine T_light (a' := ?_) 188 rfl rfl rfl (of_decide_eq_true rfl) rfl hHeld (fun wq hSq K Q hK => ?_) ?_
                                rotate_left
                                · (go_step; exact hK)
                                refine T_light (a' := ?_) 189 rfl rfl rfl (of_decide_eq_true rfl) rfl hHeld (fun wq hSq K Q hK => ?_) ?_
                                rotate_left
                                · (go_step; exact hK)
                                refine T_light (a' := ?_) 190 rfl rfl rfl (of_decide_eq_true rfl) rfl hHeld (fun wq hSq K Q hK => ?_) ?_
                                rotate_left
                                · (go_step; exact hK)
                                refine T_light (a' := ?_) 191 rfl rfl rfl (of_decide_eq_true rfl) rfl hHeld (fun wq hSq K Q hK => ?_) ?_
                                rotate_left
                                · (go_step; exact hK)
                                refine T_done ?_
                                go_wp2_with fail
                                go_roundg f
                                case measure => exact Nat.lt_succ_self f
                                case rel => exact ⟨n + 1, by rw [e1], Lib.hid (mt_nx HN.out), HE, Lib.hid ⟨HW6.out.1, HW6.out.2.1, HW6.out.2.2.drew⟩, Lib.hid HQG.out⟩
                              · have HE := Lib.hid (show n = R by
                                  have := HG.out
                                  unfold longGo at this
                                  rw [if_neg (by rw [hc1, hc2]; exact fun h => hxy h.2)] at this
                                  exact this)
                                have exy : ((c1 : Int) == (c2 : Int)) = false := mt_ne hxy
                                clear hc1 hc2 hxy hlt
                                go_wp2_with fail
                                have hHeld := HH.out
                                refine wp_region_T (fun w' => w'.cell? ⟨g, m, none⟩ = some (.int .i64 (q : Nat))) [.take 0, .take 1, .take 2, .take 3, .take 4, .take 5, .take 6, .take 7, .take 8, .take 9, .take 10, .take 11, .take 12, .take 13, .take 14, .take 15, .take 16, .take 17, .take 18, .take 19, .take 20, .take 21, .take 22, .take 23, .take 24, .take 25] (by kernel_rfl) (by kernel_rfl) (fun _ _ _ _ _ h => h) hHeld ?_
                                refine T_light (a' := ?_) 166 rfl rfl rfl (of_decide_eq_true rfl) rfl hHeld (fun wq hSq K Q hK => ?_) ?_
                                rotate_left
                                · (go_step; exact hK)
                                refine T_light (a' := ?_) 167 rfl rfl rfl (of_decide_eq_true rfl) rfl hHeld (fun wq hSq K Q hK => ?_) ?_
                                rotate_left
                                · (go_step; exact hK)
                                refine T_light (a' := ?_) 168 rfl rfl rfl (of_decide_eq_true rfl) rfl hHeld (fun wq hSq K Q hK => ?_) ?_
                                rotate_left
                                · (go_step; exact hK)
                                refine T_light (a' := ?_) 169 rfl rfl rfl (of_decide_eq_true rfl) rfl hHeld (fun wq hSq K Q hK => ?_) ?_
                                rotate_left
                                · (go_step; exact hK)
                                refine T_light (a' := ?_) 170 rfl rfl rfl (of_decide_eq_true rfl) rfl hHeld (fun wq hSq K Q hK => ?_) ?_
                                rotate_left
                                · (go_step; exact hK)
                                refine T_light (a' := ?_) 171 rfl rfl rfl (of_decide_eq_true rfl) rfl hHeld (fun wq hSq K Q hK => ?_) ?_
                                rotate_left
                                · (go_step; exact hK)
                                refine T_light (a' := ?_) 172 rfl rfl rfl (of_decide_eq_true rfl) rfl hHeld (fun wq hSq K Q hK => ?_) ?_
                                rotate_left
                                · (go_step; exact hK)
                                refine T_light (a' := ?_) 173 rfl rfl rfl (of_decide_eq_true rfl) rfl hHeld (fun wq hSq K Q hK => ?_) ?_
                                rotate_left
                                · (go_step; exact hK)
                                refine T_light (a' := ?_) 174 rfl rfl rfl (of_decide_eq_true rfl) rfl hHeld (fun wq hSq K Q hK => ?_) ?_
                                rotate_left
                                · (go_step; exact hK)
                                refine T_light (a' := ?_) 175 rfl rfl rfl (of_decide_eq_true rfl) rfl hHeld (fun wq hSq K Q hK => ?_) ?_
                                rotate_left
                                · (go_step; exact hK)
                                refine T_light (a' := ?_) 176 rfl rfl rfl (of_decide_eq_true rfl) rfl hHeld (fun wq hSq K Q hK => ?_) ?_
                                rotate_left
                                · (go_step; exact hK)
                                refine T_light (a' := ?_) 177 rfl rfl rfl (of_decide_eq_true rfl) rfl hHeld (fun wq hSq K Q hK => ?_) ?_
                                rotate_left
                                · (go_step; exact hK)
                                refine T_light (a' := ?_) 178 rfl rfl rfl (of_decide_eq_true rfl) rfl hHeld (fun wq hSq K Q hK => ?_) ?_
                                rotate_left
                                · (go_step; exact hK)
                                refine T_light (a' := ?_) 179 rfl rfl rfl (of_decide_eq_true rfl) rfl hHeld (fun wq hSq K Q hK => ?_) ?_
                                rotate_left
                                · (go_step; exact hK)
                                refine T_light (a' := ?_) 180 rfl rfl rfl (of_decide_eq_true rfl) rfl hHeld (fun wq hSq K Q hK => ?_) ?_
                                rotate_left
                                · (go_step; exact hK)
                                refine T_light (a' := ?_) 181 rfl rfl rfl (of_decide_eq_true rfl) rfl hHeld (fun wq hSq K Q hK => ?_) ?_
                                rotate_left
                                · ((have r1 := hSq; go_step); exact hK)
                                refine T_light (a' := ?_) 182 rfl rfl rfl (of_decide_eq_true rfl) rfl hHeld (fun wq hSq K Q hK => ?_) ?_
                                rotate_left
                                · (go_step; exact hK)
                                refine T_light (a' := ?_) 183 rfl rfl rfl (of_decide_eq_true rfl) rfl hHeld (fun wq hSq K Q hK => ?_) ?_
                                rotate_left
                                · (go_step; exact hK)
                                refine T_light (a' := ?_) 184 rfl rfl rfl (of_decide_eq_true rfl) rfl hHeld (fun wq hSq K Q hK => ?_) ?_
                                rotate_left
                                · (go_step; exact hK)
                                refine T_light (a' := ?_) 185 rfl rfl rfl (of_decide_eq_true rfl) rfl hHeld (fun wq hSq K Q hK => ?_) ?_
                                rotate_left
                                · (go_step; exact hK)
                                refine T_light (a' := ?_) 186 rfl rfl rfl (of_decide_eq_true rfl) rfl hHeld (fun wq hSq K Q hK => ?_) ?_
                                rotate_left
                                · (go_step; exact hK)
                                refine T_light (a' := ?_) 187 rfl rfl rfl (of_decide_eq_true rfl) rfl hHeld (fun wq hSq K Q hK => ?_) ?_
                                rotate_left
                                · (go_step; exact hK)
                                refine T_light (a' := ?_) 188 rfl rfl rfl (of_decide_eq_true rfl) rfl hHeld (fun wq hSq K Q hK => ?_) ?_
                                rotate_left
                                · (go_step; exact hK)
                                refine T_light (a' := ?_) 189 rfl rfl rfl (of_decide_eq_true rfl) rfl hHeld (fun wq hSq K Q hK => ?_) ?_
                                rotate_left
                                · (go_step; exact hK)
                                refine T_light (a' := ?_) 190 rfl rfl rfl (of_decide_eq_true rfl) rfl hHeld (fun wq hSq K Q hK => ?_) ?_
                                rotate_left
                                · (go_step; exact hK)
                                refine T_light (a' := ?_) 191 rfl rfl rfl (of_decide_eq_true rfl) rfl hHeld (fun wq hSq K Q hK => ?_) ?_
                                rotate_left
                                · (go_step; exact hK)
                                refine T_done ?_
                                clear hHeld HH
                                have q0 : wr.drew.cell? ⟨B, 0, none⟩ = some (.int .i64 (i : Nat)) := HW6.out.1
                                have HW7 := Lib.hid (show wr.drew.cell? ⟨B, 0, none⟩ = some (.int .i64 (i : Nat)) ∧ (∀ i q, cs[i]? = some q → ∃ g', (some ⟨g, 0, none⟩ : Option Addr) = some ⟨g', 0, none⟩ ∧ wr.drew.cell? ⟨g', i, none⟩ = some (.int .i64 (q : Nat))) ∧ Below w.heap.size w wr.drew from ⟨HW6.out.1, HW6.out.2.1, HW6.out.2.2.drew⟩)
                                by_cases hni : i < n
                                · obtain ⟨k1, k1'⟩ := mt_lt hni
                                  have hnc : ¬ i < nice := mt_nice HQL.out (HE.out ▸ hni)
                                  obtain ⟨k2, k2'⟩ := mt_ge hnc
                                  clear hni hnc
                                  go_wp2_with fail
                                  go_roundg fo
                                  case measure => exact Nat.lt_succ_self fo
                                  case rel => exact ⟨m + 1, by rw [e1m], Lib.hid (mt_nx HM.out), HW7⟩
                                · obtain ⟨k1, k1'⟩ := mt_ge hni
                                  clear hni
                                  go_wp2_with fail
                                  go_roundg fo
                                  case measure => exact Nat.lt_succ_self fo
                                  case rel => exact ⟨m + 1, by rw [e1m], Lib.hid (mt_nx HM.out), HW7⟩
                            · obtain ⟨d2, d2'⟩ := mt_adn hlt
                              have HE := Lib.hid (show n = R by
                                have := HG.out
                                unfold longGo at this
                                rw [if_neg (by rw [byteL_length]; exact fun h => hlt h.1)] at this
                                exact this)
                              clear hlt
                              go_wp2_with fail
                              have hHeld := HH.out
                              refine wp_region_T (fun w' => w'.cell? ⟨g, m, none⟩ = some (.int .i64 (q : Nat))) [.take 0, .take 1, .take 2, .take 3, .take 4, .take 5, .take 6, .take 7, .take 8, .take 9, .take 10, .take 11, .take 12, .take 13, .take 14, .take 15, .take 16, .take 17, .take 18, .take 19, .take 20, .take 21, .take 22, .take 23, .take 24, .take 25] (by kernel_rfl) (by kernel_rfl) (fun _ _ _ _ _ h => h) hHeld ?_
                              refine T_light (a' := ?_) 166 rfl rfl rfl (of_decide_eq_true rfl) rfl hHeld (fun wq hSq K Q hK => ?_) ?_
                              rotate_left
                              · (go_step; exact hK)
                              refine T_light (a' := ?_) 167 rfl rfl rfl (of_decide_eq_true rfl) rfl hHeld (fun wq hSq K Q hK => ?_) ?_
                              rotate_left
                              · (go_step; exact hK)
                              refine T_light (a' := ?_) 168 rfl rfl rfl (of_decide_eq_true rfl) rfl hHeld (fun wq hSq K Q hK => ?_) ?_
                              rotate_left
                              · (go_step; exact hK)
                              refine T_light (a' := ?_) 169 rfl rfl rfl (of_decide_eq_true rfl) rfl hHeld (fun wq hSq K Q hK => ?_) ?_
                              rotate_left
                              · (go_step; exact hK)
                              refine T_light (a' := ?_) 170 rfl rfl rfl (of_decide_eq_true rfl) rfl hHeld (fun wq hSq K Q hK => ?_) ?_
                              rotate_left
                              · (go_step; exact hK)
                              refine T_light (a' := ?_) 171 rfl rfl rfl (of_decide_eq_true rfl) rfl hHeld (fun wq hSq K Q hK => ?_) ?_
                              rotate_left
                              · (go_step; exact hK)
                              refine T_light (a' := ?_) 172 rfl rfl rfl (of_decide_eq_true rfl) rfl hHeld (fun wq hSq K Q hK => ?_) ?_
                              rotate_left
                              · (go_step; exact hK)
                              refine T_light (a' := ?_) 173 rfl rfl rfl (of_decide_eq_true rfl) rfl hHeld (fun wq hSq K Q hK => ?_) ?_
                              rotate_left
                              · (go_step; exact hK)
                              refine T_light (a' := ?_) 174 rfl rfl rfl (of_decide_eq_true rfl) rfl hHeld (fun wq hSq K Q hK => ?_) ?_
                              rotate_left
                              · (go_step; exact hK)
                              refine T_light (a' := ?_) 175 rfl rfl rfl (of_decide_eq_true rfl) rfl hHeld (fun wq hSq K Q hK => ?_) ?_
                              rotate_left
                              · (go_step; exact hK)
                              refine T_light (a' := ?_) 176 rfl rfl rfl (of_decide_eq_true rfl) rfl hHeld (fun wq hSq K Q hK => ?_) ?_
                              rotate_left
                              · (go_step; exact hK)
                              refine T_pass2 (a' := ?_) 177 rfl rfl (by kernel_rfl) (fun K hK => ?_) ?_
                              rotate_left
                              · (simp only [Act.put, List.setIfInBounds_toArray, List.set_cons_zero, List.set_cons_succ]; exact hK)
                              refine T_pass2 (a' := ?_) 178 rfl rfl (by kernel_rfl) (fun K hK => ?_) ?_
                              rotate_left
                              · (simp only [Act.put, List.setIfInBounds_toArray, List.set_cons_zero, List.set_cons_succ]; exact hK)
                              refine T_pass2 (a' := ?_) 179 rfl rfl (by kernel_rfl) (fun K hK => ?_) ?_
                              rotate_left
                              · (simp only [Act.put, List.setIfInBounds_toArray, List.set_cons_zero, List.set_cons_succ]; exact hK)
                              refine T_pass2 (a' := ?_) 180 rfl rfl (by kernel_rfl) (fun K hK => ?_) ?_
                              rotate_left
                              · (simp only [Act.put, List.setIfInBounds_toArray, List.set_cons_zero, List.set_cons_succ]; exact hK)
                              refine T_pass2 (a' := ?_) 181 rfl rfl (by kernel_rfl) (fun K hK => ?_) ?_
                              rotate_left
                              · (simp only [Act.put, List.setIfInBounds_toArray, List.set_cons_zero, List.set_cons_succ]; exact hK)
                              refine T_pass2 (a' := ?_) 182 rfl rfl (by kernel_rfl) (fun K hK => ?_) ?_
                              rotate_left
                              · (simp only [Act.put, List.setIfInBounds_toArray, List.set_cons_zero, List.set_cons_succ]; exact hK)
                              refine T_pass2 (a' := ?_) 183 rfl rfl (by kernel_rfl) (fun K hK => ?_) ?_
                              rotate_left
                              · (simp only [Act.put, List.setIfInBounds_toArray, List.set_cons_zero, List.set_cons_succ]; exact hK)
                              refine T_pass2 (a' := ?_) 184 rfl rfl (by kernel_rfl) (fun K hK => ?_) ?_
                              rotate_left
                              · (simp only [Act.put, List.setIfInBounds_toArray, List.set_cons_zero, List.set_cons_succ]; exact hK)
                              refine T_pass2 (a' := ?_) 185 rfl rfl (by kernel_rfl) (fun K hK => ?_) ?_
                              rotate_left
                              · (simp only [Act.put, List.setIfInBounds_toArray, List.set_cons_zero, List.set_cons_succ]; exact hK)
                              refine T_pass2 (a' := ?_) 186 rfl rfl (by kernel_rfl) (fun K hK => ?_) ?_
                              rotate_left
                              · (simp only [Act.put, List.setIfInBounds_toArray, List.set_cons_zero, List.set_cons_succ]; exact hK)
                              refine T_pass2 (a' := ?_) 187 rfl rfl (by kernel_rfl) (fun K hK => ?_) ?_
                              rotate_left
                              · (simp only [Act.put, List.setIfInBounds_toArray, List.set_cons_zero, List.set_cons_succ]; exact hK)
                              refine T_pass2 (a' := ?_) 188 rfl rfl (by kernel_rfl) (fun K hK => ?_) ?_
                              rotate_left
                              · (simp only [Act.put, List.setIfInBounds_toArray, List.set_cons_zero, List.set_cons_succ]; exact hK)
                              refine T_pass2 (a' := ?_) 189 rfl rfl (by kernel_rfl) (fun K hK => ?_) ?_
                              rotate_left
                              · (simp only [Act.put, List.setIfInBounds_toArray, List.set_cons_zero, List.set_cons_succ]; exact hK)
                              refine T_pass2 (a' := ?_) 190 rfl rfl (by kernel_rfl) (fun K hK => ?_) ?_
                              rotate_left
                              · (simp only [Act.put, List.setIfInBounds_toArray, List.set_cons_zero, List.set_cons_succ]; exact hK)
                              refine T_light (a' := ?_) 191 rfl rfl rfl (of_decide_eq_true rfl) rfl hHeld (fun wq hSq K Q hK => ?_) ?_
                              rotate_left
                              · (go_step; exact hK)
                              refine T_done ?_
                              clear hHeld HH
                              have q0 : wr.drew.cell? ⟨B, 0, none⟩ = some (.int .i64 (i : Nat)) := HW6.out.1
                              have HW7 := Lib.hid (show wr.drew.cell? ⟨B, 0, none⟩ = some (.int .i64 (i : Nat)) ∧ (∀ i q, cs[i]? = some q → ∃ g', (some ⟨g, 0, none⟩ : Option Addr) = some ⟨g', 0, none⟩ ∧ wr.drew.cell? ⟨g', i, none⟩ = some (.int .i64 (q : Nat))) ∧ Below w.heap.size w wr.drew from ⟨HW6.out.1, HW6.out.2.1, HW6.out.2.2.drew⟩)
                              by_cases hni : i < n
                              · obtain ⟨k1, k1'⟩ := mt_lt hni
                                have hnc : ¬ i < nice := mt_nice HQL.out (HE.out ▸ hni)
                                obtain ⟨k2, k2'⟩ := mt_ge hnc
                                clear hni hnc
                                go_wp2_with fail
                                go_roundg fo
                                case measure => exact Nat.lt_succ_self fo
                                case rel => exact ⟨m + 1, by rw [e1m], Lib.hid (mt_nx HM.out), HW7⟩
                              · obtain ⟨k1, k1'⟩ := mt_ge hni
                                clear hni
                                go_wp2_with fail
                                go_roundg fo
                                case measure => exact Nat.lt_succ_self fo
                                case rel => exact ⟨m + 1, by rw [e1m], Lib.hid (mt_nx HM.out), HW7⟩
end Go.Proofs.Ytolkmjclldjkkaa
