/-
  Parse: what 'Tokens' comes to (a contract, by hand).
-/
import Derived.Test.YtolkmjclldjkkaaPe
set_option linter.unusedSimpArgs false
set_option linter.unusedVariables false
namespace Go.Proofs.Ytolkmjclldjkkaa
open Go.RowKit

theorem Fnd.down {W : World} {n n₀ A : Nat} {s : ByteArray} {l : List Nat} (h : Fnd W n A s l) (hn : n₀ ≤ n) : Fnd W n₀ A s l := by
  obtain ⟨M1, M2, F, G, h1, h2, h3, h4, h5⟩ := h.ex
  exact ⟨⟨M1, M2, F, G, h1, h2, Nat.le_trans hn h3, Nat.le_trans hn h4, h5⟩, Nat.le_trans hn h.low, h.desc, h.lt, h.size⟩
/-- the last 32,768 bytes of a dictionary -/
def cutD (d : ByteArray) : ByteArray := d.extract (d.size - 32768) d.size
theorem cutD_size (d : ByteArray) : (cutD d).size = min d.size 32768 := by
  unfold cutD; rw [ByteArray.size_extract]; omega
theorem mt_t0 {n : Nat} (h : n ≤ 60000) : decide ((1048576 : Int) < (n : Int)) = false ∧ decide (1048576 < n) = false := by
  refine ⟨?_, ?_⟩
  all_goals (rw [decide_eq_false_iff_not]; omega)
theorem mt_t1 {n : Nat} (h : n ≤ 140737488351232) : ∃ c : Nat, wrap64 ((n : Int) - 32768) = (n : Int) - 32768 ∧ (if (32768 : Int) < (n : Int) then (n : Int) - 32768 else 0) = (c : Int) ∧ (0 : Int) ≤ (c : Int) ∧ (c : Int) ≤ (n : Int) ∧ c ≤ n ∧ n - 32768 = c := ⟨n - 32768, by
  refine ⟨by unfold wrap64; omega, ?_, by omega, by omega, by omega, rfl⟩
  split <;> omega⟩
theorem mt_t2 {a b : Nat} (h : a ≤ 32768) (h2 : b ≤ 60000) : a + b ≤ 9223372036854775807 := by omega
theorem mt_t3 {a b S : Nat} (hS : S = a + b) (h : a ≤ 32768) (h2 : b ≤ 60000) : a ≤ S ∧ S ≤ 100000 := by omega
theorem mt_big6 {n : Nat} (h : n ≤ 100000) : n ≤ 140737488351232 := by omega
theorem mt_t4 {k : Nat} (h : k < 10) : (rowL k).1 ≤ 100000 := by
  match k, h with
  | 0, _ | 1, _ | 2, _ | 3, _ | 4, _ | 5, _ | 6, _ | 7, _ | 8, _ | 9, _ => decide
theorem pt_nl {i f n : Nat} (h : i + (f + 1) = n) : i < n := by omega
theorem pt_nx {i f n : Nat} (h : i + (f + 1) = n) : (i + 1) + f = n := by omega
theorem pt_lt {i n : Nat} (h : i < n) : decide ((i : Int) < (n : Int)) = true ∧ decide (i < n) = true := mt_o6 h
theorem pt_ge {i n : Nat} (h : ¬ i < n) : decide ((i : Int) < (n : Int)) = false ∧ decide (i < n) = false := mt_o7 h
theorem litsL_length (L : List Nat) (n k : Nat) : (litsL L n k).length = k := by simp [litsL]
theorem Pb.setF {W : World} {n₀ B : Nat} {r : Nat × Nat × Nat} {s : ByteArray} {f : Value} {ts : List (Nat × Nat × Nat)} (h : Pb W n₀ B r s f ts) (f' : Value) : Pb (W.setCell ⟨B, 4, none⟩ f') n₀ B r s f' ts := by
  obtain ⟨v, hb, hr1, hr2⟩ := h.ex
  refine ⟨⟨v, by simp [World.setCell, Array.getElem?_modify, hb, prsC], hr1, ?_⟩, h.low, by simp [World.setCell]; exact h.size⟩
  rcases hr2 with h0 | ⟨g, cap, cur, e1, e2, e3, e4⟩
  · exact .inl h0
  · refine .inr ⟨g, cap, cur, e1, e2, (Below.heap_setCell W ⟨B, 4, none⟩ f' g (fun e => ?_)).trans e3, e4⟩
    have e' : g = B := e
    subst e'
    rw [hb] at e3
    cases e3
theorem mt_t5 {i n : Nat} (h : i < n) (h2 : n ≤ 60000) : wrap64 ((i : Int) + 1) = ((i + 1 : Nat) : Int) := by unfold wrap64; omega
theorem mt_t6 {i n d S : Nat} (h : i < n) (hS : S = d + n) (h2 : S ≤ 100000) : wrap64 ((d : Int) + (i : Int)) = ((d + i : Nat) : Int) ∧ d + i < S ∧ i < 1000000 := by unfold wrap64; omega
theorem parse_done {L : List Nat} {D N Z a : Nat} (h : ¬ a < L.length) : ∀ f, parseL L D N Z f a = []
  | 0 => rfl
  | f + 1 => by rw [parseL, if_neg h]
set_option maxRecDepth 100000 in
set_option maxHeartbeats 8000000 in
theorem tokens_any (dict text : ByteArray) (k : Nat) (w : World) (hd : dict.size ≤ 140737488351232) (ht : text.size ≤ 60000) (hk : k < 10) :
    Calls Try.prog 19 #[.string dict, .string text, .int .i64 (k : Nat)] w fun e w' => ∃ v, e = .returned (.tuple #[v, .int .i64 0]) ∧
      w'.ownsRow w.heap.size 55 3 v (toksL (byteL (cutD dict ++ text)) (cutD dict).size k).length (tksC (toksL (byteL (cutD dict ++ text)) (cutD dict).size k)) ∧ Below w.heap.size w w' := by
  obtain ⟨d1, d2, d3⟩ := mt_lu hk
  obtain ⟨d4, d5⟩ := mt_t0 ht
  obtain ⟨c, e1, e2, n1, n2, n3, hc⟩ := mt_t1 hd
  have HC := Lib.hid hc
  clear hc
  obtain ⟨T, hT⟩ : ∃ T, toksL (byteL (cutD dict ++ text)) (cutD dict).size k = T := ⟨_, rfl⟩
  rw [hT]
  have HT0 := Lib.hid hT
  clear hT
  have HK := Lib.hid (And.intro hd (And.intro ht hk))
  clear hd ht hk
  go_enter Try.func19, Try.ntmps19
  obtain ⟨D, hD⟩ : ∃ D, dict.extract c dict.size = D := ⟨_, rfl⟩
  have HD := Lib.hid (show cutD dict = D by unfold cutD; rw [HC.out]; exact hD)
  go_wp2_with fail
  clear e1 e2 n1 n2 n3 d4 d5 hD
  refine (rows_any _).mono ?_
  rintro e w2 ⟨rfl, hb⟩
  have HB := Lib.hid hb
  have qi := idx75 k HK.out.2.2 w2
  clear hb
  unfold rowV at qi
  obtain ⟨r, hr⟩ : ∃ r, rowL k = r := ⟨_, rfl⟩
  rw [hr] at qi
  have HR := Lib.hid hr
  clear hr
  obtain ⟨S, hS⟩ : ∃ S, D ++ text = S := ⟨_, rfl⟩
  have hsz : S.size = D.size + text.size := by rw [← hS]; exact ByteArray.size_append
  have hdz : D.size ≤ 32768 := by have := cutD_size dict; rw [HD.out] at this; rw [this]; omega
  have hcc : ∀ w, (Op.stringOp .add D text).run Try.prog w = .ok (.string S) w := fun w => by rw [← hS]; exact run_string_add_sum (P := Try.prog) w D text (mt_t2 hdz HK.out.2.1)
  have HZ := Lib.hid (show S.size = D.size + text.size ∧ D.size ≤ S.size ∧ S.size ≤ 100000 from ⟨hsz, mt_t3 hsz hdz HK.out.2.1⟩)
  have HT := Lib.hid (show toksL (byteL S) D.size k = T by rw [← hS, ← HT0.out, HD.out])
  clear hS hsz hdz HT0
  have HL : Hid ((byteL S).length = S.size) := Lib.hid (byteL_length S)
  have hR100 : r.1 ≤ 100000 := by rw [← HR.out]; exact mt_t4 HK.out.2.2
  have HR1 := Lib.hid hR100
  clear hR100
  obtain ⟨B, hB⟩ : ∃ B, w2.heap.size = B := ⟨_, rfl⟩
  obtain ⟨w3, hw3⟩ : ∃ w3, w2.alloc (.cells #[.int .i64 (r.1 : Nat), .int .i64 (r.2.1 : Nat), .int .i64 (r.2.2 : Nat), .string S, .pointer none, .slice none 0 0] 78) = w3 := ⟨_, rfl⟩
  have hb3 : Below w2.heap.size w2 w3 := by rw [← hw3]; exact (Below.refl _ w2).alloc (Nat.le_refl _) _
  have hp3 : Pb w3 w.heap.size B r S (.pointer none) [] := ⟨⟨.slice none 0 0, by rw [← hw3, ← hB]; exact heap_alloc_last w2 _, World.ownsRow_nil _ _ _ _⟩, by rw [← hB]; exact HB.out.size, Nat.le_trans HB.out.size hb3.size⟩
  have HP3 := Lib.hid hp3
  obtain ⟨v3, hb3', _⟩ := hp3.ex
  have c3 : w3.cell? ⟨B, 3, none⟩ = some (.string S) := cell_blk hb3' 3
  clear hb3'
  have HB3 := Lib.hid (HB.out.trans (hb3.mono HB.out.size))
  clear hp3 hb3
  by_cases hk0 : k = 0
  · obtain ⟨k1, k2⟩ := mt_o3 hk0
    have HK0 := Lib.hid hk0
    clear hk0
    go_wp2_with fail
    clear qi hcc hw3 hB k1 k2 d1 d2 d3
    go_loopg [9, 40] text.size (fun f s9 s40 wx => ∃ i : Nat, s40 = .int .i64 (i : Int) ∧ Hid (i + f = text.size) ∧ Hid (Pb wx w.heap.size B r S (.pointer none) (litsL (byteL S) D.size i)) ∧ Hid (Below w.heap.size w wx))
    case atStart => exact ⟨0, rfl, Lib.hid (Nat.zero_add _), HP3, HB3⟩
    case round =>
      obtain ⟨i, rfl, HI, HP, HB4⟩ := hrel
      cases gk with
      | succ f =>
        have hi : i < text.size := pt_nl HI.out
        obtain ⟨i1, i2⟩ := pt_lt hi
        have HII := Lib.hid hi
        have ei := mt_t5 hi HK.out.2.1
        obtain ⟨ed, ed2, ed3⟩ := mt_t6 hi HZ.out.1 HZ.out.2.2
        have HD2 := Lib.hid (And.intro ed2 ed3)
        clear hi ed2 ed3
        go_wp2_with fail
        have hl := lit_any (D.size + i) w.heap.size B r S (.pointer none) (litsL (byteL S) D.size i) wr HP.out HD2.out.1 (by rw [litsL_length]; exact HD2.out.2)
        simp only [Int.natCast_add] at hl
        refine hl.mono ?_
        rintro e w5 ⟨⟨v, rfl⟩, hp5, hk5⟩
        have HP5 := Lib.hid (show Pb w5 w.heap.size B r S (.pointer none) (litsL (byteL S) D.size (i + 1)) by rw [litsL_succ]; exact hp5)
        have HB5 := Lib.hid (HB4.out.trans hk5.below)
        clear hl hp5 hk5
        go_wp2_with fail
        go_roundg f
        case measure => exact Nat.lt_succ_self f
        case rel => exact ⟨i + 1, by rw [ei], Lib.hid (pt_nx HI.out), HP5, HB5⟩
      | zero =>
        obtain rfl : i = text.size := HI.out
        obtain ⟨i1, i2⟩ := pt_ge (Nat.lt_irrefl text.size)
        have HTT := Lib.hid (show litsL (byteL S) D.size text.size = T by
          rw [← HT.out, HK0.out]
          unfold toksL
          rw [if_pos rfl, HL.out, HZ.out.1, Nat.add_sub_cancel_left])
        obtain ⟨v, hb, hrow⟩ := HP.out.ex
        rw [HTT.out] at hrow
        have c5 : wr.cell? ⟨B, 5, none⟩ = some v := cell_blk hb 5
        have HROW := Lib.hid hrow
        clear hb hrow
        go_wp2_with fail
        refine bodyPost_ret (results_tmp2 rfl _ _ _) rfl ⟨v, rfl, HROW.out, HB4.out⟩
  · obtain ⟨k1, k2, _, _⟩ := mt_o4 hk0
    have HK0 := Lib.hid hk0
    clear hk0
    go_wp2_with fail
    refine (new_any S w3 (mt_big6 HZ.out.2.2)).mono ?_
    rintro e w4 ⟨A, rfl, hf4, hb4⟩
    have hp4 := HP3.out.below hb4
    obtain ⟨v0, hb, _⟩ := hp4.ex
    have c4 : w4.cell? ⟨B, 4, none⟩ = some (.pointer none) := cell_blk hb 4
    have f4 := frozen_blk hb 4
    have HP4 := Lib.hid (hp4.setF (.pointer (some ⟨A, 0, none⟩)))
    have HF4 := Lib.hid ((hf4.down HP3.out.size).set hb (by decide) (j := 4) (.pointer (some ⟨A, 0, none⟩)))
    have HB4 := Lib.hid ((HB3.out.trans (hb4.mono HP3.out.size)).setCell (p := ⟨B, 4, none⟩) HP3.out.low (.pointer (some ⟨A, 0, none⟩)))
    clear hf4 hb4 hp4 hb
    go_wp2_with fail
    clear qi hcc hw3 hB k1 k2 d1 d2 d3 c3 c4 f4
    have HCT := Lib.hid (show T.length ≤ 100000 by rw [← HT.out]; have h1 := toks_count (byteL S) D.size k; rw [HL.out] at h1; have := HZ.out.2.2; omega)
    go_loopg [10] ((byteL S).length - D.size) (fun f s10 wx => ∃ (a j : Nat) (ts : List (Nat × Nat × Nat)), s10 = .int .i64 (a : Int) ∧ Hid (a ≤ (byteL S).length ∧ (byteL S).length ≤ a + f ∧ ts ++ parseL (byteL S) r.1 r.2.1 r.2.2 f a = T ∧ j ≤ a) ∧
      Hid (Pb wx w.heap.size B r S (.pointer (some ⟨A, 0, none⟩)) ts) ∧ Hid (Fnd wx w.heap.size A S (upto j)) ∧ Hid (Below w.heap.size w wx))
    case atStart => exact ⟨D.size, 0, [], rfl, Lib.hid ⟨by rw [HL.out]; exact HZ.out.2.1, by rw [HL.out, HZ.out.1]; omega, by
      rw [← HT.out]
      unfold toksL
      rw [if_neg HK0.out, HR.out]
      rfl, Nat.zero_le _⟩, HP4, HF4, HB4⟩
    case round =>
      obtain ⟨a, j, ts, rfl, HA, HP, HF, HBB⟩ := hrel
      obtain ⟨v, hb, hrow⟩ := HP.out.ex
      have c3 : wr.cell? ⟨B, 3, none⟩ = some (.string S) := cell_blk hb 3
      by_cases ha : a < S.size
      · obtain ⟨a1, a2⟩ := pt_lt ha
        have HAS := Lib.hid ha
        clear ha hb hrow
        cases gk with
        | zero => exact absurd HA.out.2.1 (by rw [HL.out]; have := HAS.out; omega)
        | succ f =>
          have haL : a < (byteL S).length := by rw [HL.out]; exact HAS.out
          have h1 := HA.out.2.2.1
          rw [parseL, if_pos haL] at h1
          have h2 := toks_one (byteL S) r.1 r.2.1 r.2.2 a haL
          have HTS := Lib.hid (show ts.length ≤ 500000 by have h3 := HCT.out; rw [← h1, List.length_append] at h3; omega)
          obtain ⟨R, hR⟩ : ∃ R, oneL (byteL S) r.1 r.2.1 r.2.2 ((byteL S).length - a) a (lookL (byteL S) r.1 r.2.1 a 2) = R := ⟨_, rfl⟩
          rw [hR] at h1 h2
          have H1 := Lib.hid h1
          have H2 := Lib.hid h2
          have HRR := Lib.hid hR
          clear h1 h2 hR haL
          go_wp2_with fail
          have hl := one_any a j w.heap.size A B r S ts wr HP.out HF.out HA.out.2.2.2 HAS.out HZ.out.2.2 HR1.out HTS.out
          rw [HRR.out] at hl
          refine hl.mono ?_
          rintro e w5 ⟨rfl, hp5, ⟨j5, hj5, hf5⟩, hb5⟩
          have HP5 := Lib.hid hp5
          have HF5 := Lib.hid hf5
          have HJ5 := Lib.hid hj5
          have HB5 := Lib.hid (HBB.out.trans hb5)
          clear hl hp5 hf5 hj5 hb5
          go_wp2_with fail
          go_roundg f
          case measure => exact Nat.lt_succ_self f
          case rel => exact ⟨R.2, j5, ts ++ R.1, rfl, Lib.hid ⟨H2.out.2, by have h := HA.out.2.1; have h2 := H2.out.1; omega, by rw [List.append_assoc]; exact H1.out, HJ5.out⟩, HP5, HF5, HB5⟩
      · obtain ⟨a1, a2⟩ := pt_ge ha
        have c5 : wr.cell? ⟨B, 5, none⟩ = some v := cell_blk hb 5
        have hts : ts = T := by
          have h1 := HA.out.2.2.1
          rw [parse_done (by rw [HL.out]; exact ha), List.append_nil] at h1
          exact h1
        rw [hts] at hrow
        have HROW := Lib.hid hrow
        clear ha hb hrow hts
        go_wp2_with fail
        refine bodyPost_ret (results_tmp2 rfl _ _ _) rfl ⟨v, rfl, HROW.out, HBB.out⟩
end Go.Proofs.Ytolkmjclldjkkaa
