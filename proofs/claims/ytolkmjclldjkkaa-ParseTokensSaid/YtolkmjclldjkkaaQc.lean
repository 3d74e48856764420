/-
  Parse: what the document's 'Find' and 'look' come to (contracts, by hand).
-/
import Derived.Test.YtolkmjclldjkkaaQb
set_option linter.unusedSimpArgs false
set_option linter.unusedVariables false
namespace Go.Proofs.Ytolkmjclldjkkaa
open Go.RowKit

theorem rfind_res (tmps : Array Value) (w : World) (B : Nat) (m : Nat × Nat) (h10 : tmps.getD 10 undef = .pointer (some ⟨B, 0, none⟩)) (hv : w.heap[B]? = some (.cells #[.int .i64 (m.1 : Nat), .int .i64 (m.2 : Nat)] 29 (0, 0))) :
    (results Try.f39 tmps).run Try.prog w = .ok (.agg #[.int .i64 (m.1 : Nat), .int .i64 (m.2 : Nat)]) w := by
  have m0 : w.cell? ⟨B, 0, none⟩ = some (.int .i64 (m.1 : Nat)) := cell_blk hv 0
  have m1 : w.cell? ⟨B, 1, none⟩ = some (.int .i64 (m.2 : Nat)) := cell_blk hv 1
  have h10' : tmps[10]?.getD undef = .pointer (some ⟨B, 0, none⟩) := by simpa using h10
  simp [results, Try.results39, asAddr, loadVar, run_load, h10', m0, m1, go_sem]
theorem rlook_res (tmps : Array Value) (w : World) (B : Nat) (m : Nat × Nat) (h10 : tmps.getD 8 undef = .pointer (some ⟨B, 0, none⟩)) (hv : w.heap[B]? = some (.cells #[.int .i64 (m.1 : Nat), .int .i64 (m.2 : Nat)] 29 (0, 0))) :
    (results Try.f35 tmps).run Try.prog w = .ok (.agg #[.int .i64 (m.1 : Nat), .int .i64 (m.2 : Nat)]) w := by
  have m0 : w.cell? ⟨B, 0, none⟩ = some (.int .i64 (m.1 : Nat)) := cell_blk hv 0
  have m1 : w.cell? ⟨B, 1, none⟩ = some (.int .i64 (m.2 : Nat)) := cell_blk hv 1
  have h10' : tmps[8]?.getD undef = .pointer (some ⟨B, 0, none⟩) := by simpa using h10
  simp [results, Try.results35, asAddr, loadVar, run_load, h10', m0, m1, go_sem]
/-- a store of a match into a block of one's own -/
theorem two_below {w W : World} {R : Nat} (h : Below w.heap.size w W) (hR : w.heap.size ≤ R) (u v : Value) : Below w.heap.size w ((W.setCell ⟨R, 0, none⟩ u).setCell ⟨R, 1, none⟩ v) :=
  (h.setCell (p := ⟨R, 0, none⟩) hR u).setCell (p := ⟨R, 1, none⟩) hR v
theorem own_other {W : World} {base n : Nat} {v : Value} {xs : List Value} (h : W.ownsRow base 3 1 v n xs) {R : Nat} {cs : Array Value} (hR : W.heap[R]? = some (.cells cs 29 (0, 0))) (j : Nat) (u : Value) : (W.setCell ⟨R, j, none⟩ u).ownsRow base 3 1 v n xs := by
  refine ⟨h.1, ?_⟩
  rcases h.2 with h0 | ⟨g, cap, cur, e1, e2, e3, e4⟩
  · exact .inl h0
  · refine .inr ⟨g, cap, cur, e1, e2, (Below.heap_setCell W ⟨R, j, none⟩ u g (fun e => ?_)).trans e3, e4⟩
    have e' : g = R := e
    subst e'
    rw [hR] at e3
    cases e3
theorem mt_v1 {n o : Nat} (h : o < n) : decide ((o : Int) < (n : Int)) = true ∧ decide (o < n) = true := mt_o6 h
theorem mt_v2 {i n : Nat} (h : i < n) (h2 : n ≤ 100000) : wrap64 ((i : Int) + 1) = ((i + 1 : Nat) : Int) := by unfold wrap64; omega
theorem mt_v3 {p a S : Nat} (h : p < a) (ha : a < S) (hS : S ≤ 100000) : wrap64 ((a : Int) - (p : Int)) = ((a - p : Nat) : Int) := by unfold wrap64; omega
theorem mt_v4 {N l : Nat} (h : N ≤ l) : decide ((l : Int) < (N : Int)) = false := by rw [decide_eq_false_iff_not]; omega
theorem mt_v5 {N l : Nat} (h : ¬ N ≤ l) : decide ((l : Int) < (N : Int)) = true := by rw [decide_eq_true_eq]; omega
theorem eachGo_cons {σ : Type} (step : σ → Nat → σ × Bool) (p : Nat) (r : List Nat) (x : σ) : eachGo step (p :: r) x = if (step x p).2 = true then eachGo step r (step x p).1 else (step x p).1 := rfl
set_option maxRecDepth 100000 in
set_option maxHeartbeats 8000000 in
theorem rfind_any (a D N over n₀ B G : Nat) (s : ByteArray) (w : World) (h : Rf w n₀ B G s a) (ha : a < s.size) (hs : s.size ≤ 100000) (hD : D ≤ 100000) :
    Calls Try.prog 39 #[.pointer (some ⟨B, 0, none⟩), .int .i64 (a : Nat), .int .i64 (D : Nat), .int .i64 (N : Nat), .int .i64 (over : Nat)] w fun e w' =>
      e = .returned (.agg #[.int .i64 ((lookL (byteL s) D N a over).1 : Nat), .int .i64 ((lookL (byteL s) D N a over).2 : Nat)]) ∧ Below w.heap.size w w' := by
  obtain ⟨T, hT⟩ : ∃ T, lookL (byteL s) D N a over = T := ⟨_, rfl⟩
  rw [hT]
  obtain ⟨P, hP⟩ : ∃ P, placesL (byteL s) (upto a) (a : Int) (D : Int) = P := ⟨_, rfl⟩
  have HT := Lib.hid (show eachGo (findStep (byteL s) (a : Int) (N : Int) (over : Int)) P (0, 0) = T by rw [← hT, ← hP]; rfl)
  have HPL := Lib.hid (show ∀ p ∈ P, p < a by
    intro p hp
    rw [← hP] at hp
    obtain ⟨_, k, _, _, hm, _⟩ := place_mem hp
    exact upto_lt hm)
  have HLN := Lib.hid (show P.length ≤ 100000 by rw [← hP]; have h1 := placesL_len (byteL s) (upto a) (a : Int) (D : Int); rw [upto_length] at h1; omega)
  have HPP := Lib.hid hP
  have H := Lib.hid h
  have HA := Lib.hid (And.intro ha (And.intro hs hD))
  obtain ⟨R, hR⟩ : ∃ R, w.heap.size = R := ⟨_, rfl⟩
  obtain ⟨w1, hw1⟩ : ∃ w1, (w.alloc (.cells #[.int .i64 0, .int .i64 0] 29)).alloc (.cells #[.int .i64 0, .int .i64 0] 29) = w1 := ⟨_, rfl⟩
  have hbA : Below w.heap.size w (w.alloc (.cells #[.int .i64 0, .int .i64 0] 29)) := (Below.refl _ w).alloc (Nat.le_refl _) _
  have hb1 : Below w.heap.size w w1 := by rw [← hw1]; exact hbA.alloc hbA.size _
  have hbB : Below (w.alloc (.cells #[.int .i64 0, .int .i64 0] 29)).heap.size (w.alloc (.cells #[.int .i64 0, .int .i64 0] 29)) w1 := by rw [← hw1]; exact (Below.refl _ _).alloc (Nat.le_refl _) _
  have h10 : w1.heap[R]? = some (.cells #[.int .i64 0, .int .i64 0] 29 (0, 0)) := by rw [← hR]; exact (hbB.block _ (by simp)).trans (heap_alloc_last w _)
  have h11 : w1.heap[R + 1]? = some (.cells #[.int .i64 0, .int .i64 0] 29 (0, 0)) := by
    have h := heap_alloc_last (w.alloc (.cells #[.int .i64 0, .int .i64 0] 29)) (.cells #[.int .i64 0, .int .i64 0] 29)
    have e : (w.alloc (.cells #[.int .i64 0, .int .i64 0] 29)).heap.size = R + 1 := by simp [hR]
    rw [e] at h
    rw [← hw1]
    exact h
  have H10 := Lib.hid h10
  have H11 := Lib.hid h11
  have HB1 := Lib.hid hb1
  have HRR := Lib.hid hR
  have HRf := Lib.hid (h.below hb1)
  have HW1 := Lib.hid hw1
  clear h ha hs hD hT hP hbA hb1 hbB h10 h11 hw1
  go_enter Try.func39, Try.ntmps39
  go_wp2_with fail
  rw [HW1.out]
  clear hR
  refine (rplaces_any a D n₀ B G s w1 HRf.out HA.out.1 HA.out.2.1 HA.out.2.2).mono ?_
  rintro e w2 ⟨v, rfl, hrow, hb2⟩
  rw [HPP.out] at hrow
  obtain ⟨pa, pc, rfl⟩ := owns_form hrow
  have HROW := Lib.hid hrow
  have HB2 := Lib.hid (HB1.out.trans (hb2.mono HB1.out.size))
  have HX10 := Lib.hid ((hb2.block R (Array.getElem?_eq_some_iff.1 H10.out).1).trans H10.out)
  have HX11 := Lib.hid ((hb2.block (R + 1) (Array.getElem?_eq_some_iff.1 H11.out).1).trans H11.out)
  obtain ⟨M, hM⟩ : ∃ M, R + 1 = M := ⟨_, rfl⟩
  rw [hM] at HX11 ⊢
  have HM := Lib.hid (show w.heap.size ≤ M ∧ M ≠ R ∧ w.heap.size ≤ R from by have := HRR.out; omega)
  clear hrow hb2 H10 H11 HB1 hM
  go_wp2_with fail
  obtain ⟨n, hn⟩ : ∃ n, P.length = n := ⟨_, rfl⟩
  rw [hn] at HROW HLN ⊢
  have HN := Lib.hid hn
  clear hn
  go_loopg [13, 14] n (fun f s13 s14 wx => ∃ (i : Nat) (m : Nat × Nat), s13 = .int .i64 (i : Int) ∧ Hid (i + f = n) ∧ Hid (eachGo (findStep (byteL s) (a : Int) (N : Int) (over : Int)) (P.drop i) m = T) ∧
    Hid (wx.heap[M]? = some (.cells #[.int .i64 (m.1 : Nat), .int .i64 (m.2 : Nat)] 29 (0, 0))) ∧ Hid (wx.heap[R]? = some (.cells #[.int .i64 0, .int .i64 0] 29 (0, 0))) ∧ Hid (wx.ownsRow w1.heap.size 3 1 (.slice pa n pc) n (placeV P)) ∧ Hid (Below w.heap.size w wx))
  case atStart => exact ⟨0, (0, 0), rfl, Lib.hid (Nat.zero_add _), HT, HX11, HX10, HROW, HB2⟩
  case round =>
    clear HX10 HX11 HROW HB2
    obtain ⟨i, m, rfl, HI, HG, HX11, HX10, HROW, HB2⟩ := hrel
    have m0 : wr.cell? ⟨M, 0, none⟩ = some (.int .i64 (m.1 : Nat)) := cell_blk HX11.out 0
    have m1 : wr.cell? ⟨M, 1, none⟩ = some (.int .i64 (m.2 : Nat)) := cell_blk HX11.out 1
    have r0 : wr.cell? ⟨R, 0, none⟩ = some (.int .i64 0) := cell_blk HX10.out 0
    have r1 : wr.cell? ⟨R, 1, none⟩ = some (.int .i64 0) := cell_blk HX10.out 1
    have fR : ∀ j, wr.frozen? ⟨R, j, none⟩ = false := frozen_blk HX10.out
    have HEND := Lib.hid (two_cells (u := .int .i64 (m.1 : Nat)) (v := .int .i64 (m.2 : Nat)) HX10.out)
    cases gk with
    | zero =>
      obtain rfl : i = n := HI.out
      obtain ⟨i1, i2⟩ := pt_ge (Nat.lt_irrefl i)
      have HE := Lib.hid (show m = T by
        have h := HG.out
        rw [← HN.out, List.drop_length] at h
        exact h)
      go_wp2_with fail
      refine bodyPost_ret (rfind_res _ _ R m rfl HEND.out) rfl ⟨by rw [HE.out], two_below HB2.out HM.out.2.2 _ _⟩
    | succ f =>
      have hi : i < n := pt_nl HI.out
      obtain ⟨i1, i2⟩ := pt_lt hi
      have ei := mt_v2 hi HLN.out
      have n0 : (0 : Int) ≤ (i : Int) := Int.natCast_nonneg i
      have n1 : (i : Int) < (n : Int) := Int.ofNat_lt.2 hi
      obtain ⟨p, hp⟩ : ∃ p, P[i]? = some p := ⟨P[i]'(by rw [HN.out]; exact hi), List.getElem?_eq_getElem _⟩
      have hpa := HPL.out p (List.mem_of_getElem? hp)
      have ep := mt_v3 hpa HA.out.1 HA.out.2.1
      have hg := HG.out
      obtain ⟨hlt, hpe⟩ := List.getElem?_eq_some_iff.1 hp
      rw [List.drop_eq_getElem_cons hlt, hpe, eachGo_cons] at hg
      have hpv : (placeV P)[i]? = some (.int .i64 (p : Nat)) := by simp [placeV, hp]
      obtain ⟨g, hpg⟩ : ∃ g, pa = some ⟨g, 0, none⟩ := by
        rcases HROW.out.2 with ⟨hv, h0⟩ | ⟨g, cap, cur, hv, _⟩
        · exact absurd hi (by omega)
        · injection hv with h1 _ _
          exact ⟨g, h1⟩
      subst hpg
      have p0 : wr.cell? ⟨g, i, none⟩ = some (.int .i64 (p : Nat)) := by
        have h := HROW.out.cells (g := g) rfl i _ hpv
        rwa [add_blk] at h
      have hA : wr.cell? ⟨B, 0, none⟩ = some (.string s) := (HB2.out.cell (p := ⟨B, 0, none⟩) (World.block_lt_of_cell? w _ (cell_blk H.out.blk 0))).trans (cell_blk H.out.blk 0)
      have HPA := Lib.hid hpa
      have HGG := Lib.hid hg
      have HSA := Lib.hid hA
      have HP0 := Lib.hid p0
      clear hi hp hpa hg hlt hpe hpv hA
      go_wp2_with fail
      refine (rlong_any p a B s wr (mt_big6 HA.out.2.1) HSA.out HPA.out (Nat.le_of_lt HA.out.1)).mono ?_
      rintro e w3 ⟨rfl, hb3⟩
      obtain ⟨l, hl⟩ : ∃ l, longL (byteL s) p a = l := ⟨_, rfl⟩
      rw [hl]
      have hst : findStep (byteL s) (a : Int) (N : Int) (over : Int) m p = (if (over : Int) < (l : Int) ∧ m.1 < l then (l, a - p) else m, decide ((l : Int) < (N : Int))) := by unfold findStep; rw [Int.toNat_natCast, hl]
      have HG3 := Lib.hid (show (if decide ((l : Int) < (N : Int)) = true then eachGo (findStep (byteL s) (a : Int) (N : Int) (over : Int)) (P.drop (i + 1)) (if (over : Int) < (l : Int) ∧ m.1 < l then (l, a - p) else m) else (if (over : Int) < (l : Int) ∧ m.1 < l then (l, a - p) else m)) = T by
        have h := HGG.out
        rw [hst] at h
        exact h)
      have x11 := (hb3.block M (Array.getElem?_eq_some_iff.1 HX11.out).1).trans HX11.out
      have x10 := (hb3.block R (Array.getElem?_eq_some_iff.1 HX10.out).1).trans HX10.out
      have HY11 := Lib.hid x11
      have HY10 := Lib.hid x10
      have HYO := Lib.hid (HROW.out.kept ⟨hb3.os, hb3.tape, hb3.output, hb3.size, fun k hk _ => hb3.block k hk⟩ ne_of_none)
      have HYB := Lib.hid (HB2.out.trans (hb3.mono HB2.out.size))
      have p1 : w3.cell? ⟨g, i, none⟩ = some (.int .i64 (p : Nat)) := (hb3.cell (World.block_lt_of_cell? _ _ HP0.out)).trans HP0.out
      clear m0 m1 r0 r1 fR hb3 hst hl
      have m0 : w3.cell? ⟨M, 0, none⟩ = some (.int .i64 (m.1 : Nat)) := cell_blk x11 0
      have m1 : w3.cell? ⟨M, 1, none⟩ = some (.int .i64 (m.2 : Nat)) := cell_blk x11 1
      have fM : ∀ j, w3.frozen? ⟨M, j, none⟩ = false := frozen_blk x11
      have fR : ∀ j, w3.frozen? ⟨R, j, none⟩ = false := frozen_blk x10
      have r0 : w3.cell? ⟨R, 0, none⟩ = some (.int .i64 0) := cell_blk x10 0
      have r1 : w3.cell? ⟨R, 1, none⟩ = some (.int .i64 0) := cell_blk x10 1
      clear x11 x10 HX11 HX10 HROW HB2 HEND
      by_cases h1 : over < l
      · obtain ⟨v1, v2⟩ := mt_o6 h1
        by_cases h2 : m.1 < l
        · obtain ⟨v3, v4⟩ := mt_o6 h2
          have HGN := Lib.hid (show (if decide ((l : Int) < (N : Int)) = true then eachGo (findStep (byteL s) (a : Int) (N : Int) (over : Int)) (P.drop (i + 1)) (l, a - p) else (l, a - p)) = T by
            have h := HG3.out
            rw [if_pos (show (over : Int) < (l : Int) ∧ m.1 < l from ⟨Int.ofNat_lt.2 h1, h2⟩)] at h
            exact h)
          clear h1 h2 HG3
          have hM' := two_cells (u := .int .i64 (l : Nat)) (v := .int .i64 ((a - p : Nat) : Int)) HY11.out
          have hR' : ((w3.setCell ⟨M, 0, none⟩ (.int .i64 (l : Nat))).setCell ⟨M, 1, none⟩ (.int .i64 ((a - p : Nat) : Int))).heap[R]? = some (.cells #[.int .i64 0, .int .i64 0] 29 (0, 0)) := (Below.heap_setCell _ ⟨M, 1, none⟩ _ R HM.out.2.1.symm).trans ((Below.heap_setCell w3 ⟨M, 0, none⟩ _ R HM.out.2.1.symm).trans HY10.out)
          have hM1 : (w3.setCell ⟨M, 0, none⟩ (.int .i64 (l : Nat))).heap[M]? = some (.cells #[.int .i64 (l : Nat), .int .i64 (m.2 : Nat)] 29 (0, 0)) := by simp [World.setCell, Array.getElem?_modify, HY11.out]
          obtain ⟨W, hW⟩ : ∃ W, (w3.setCell ⟨M, 0, none⟩ (.int .i64 (l : Nat))).setCell ⟨M, 1, none⟩ (.int .i64 ((a - p : Nat) : Int)) = W := ⟨_, rfl⟩
          have HWO := Lib.hid (show W.ownsRow w1.heap.size 3 1 (.slice (some ⟨g, 0, none⟩) n pc) n (placeV P) by rw [← hW]; exact own_other (own_other HYO.out HY11.out 0 _) hM1 1 _)
          have HWB := Lib.hid (show Below w.heap.size w W by rw [← hW]; exact two_below HYB.out HM.out.1 _ _)
          rw [hW] at hM' hR'
          have HWM := Lib.hid hM'
          have HWR := Lib.hid hR'
          have q0 : W.cell? ⟨M, 0, none⟩ = some (.int .i64 (l : Nat)) := cell_blk hM' 0
          have q1 : W.cell? ⟨M, 1, none⟩ = some (.int .i64 ((a - p : Nat) : Int)) := cell_blk hM' 1
          have s0 : W.cell? ⟨R, 0, none⟩ = some (.int .i64 0) := cell_blk hR' 0
          have s1 : W.cell? ⟨R, 1, none⟩ = some (.int .i64 0) := cell_blk hR' 1
          have sR : ∀ j, W.frozen? ⟨R, j, none⟩ = false := frozen_blk hR'
          clear hM' hR' hM1
          by_cases hn : N ≤ l
          · have d5 : decide ((N : Int) ≤ (l : Int)) = true := by rw [decide_eq_true_eq]; exact Int.ofNat_le.2 hn
            have d6 : decide (N ≤ l) = true := by rw [decide_eq_true_eq]; exact hn
            have HE := Lib.hid (show (l, a - p) = T by rw [← HGN.out, mt_v4 hn]; rfl)
            clear hn
            go_wp2_with fail
            refine bodyPost_ret (rfind_res _ _ R (l, a - p) rfl (two_cells HWR.out)) rfl ⟨by rw [← HE.out], two_below HWB.out HM.out.2.2 _ _⟩
          · have d5 : decide ((N : Int) ≤ (l : Int)) = false := by rw [decide_eq_false_iff_not]; exact fun h => hn (Int.ofNat_le.1 h)
            have d6 : decide (N ≤ l) = false := by rw [decide_eq_false_iff_not]; exact hn
            have HE := Lib.hid (show eachGo (findStep (byteL s) (a : Int) (N : Int) (over : Int)) (P.drop (i + 1)) (l, a - p) = T by rw [← HGN.out, mt_v5 hn]; rfl)
            clear hn
            go_wp2_with fail
            go_roundg f
            case measure => exact Nat.lt_succ_self f
            case rel => exact ⟨i + 1, (l, a - p), by first | rw [ei] | rfl, Lib.hid (pt_nx HI.out), HE, HWM, HWR, HWO, HWB⟩
        · obtain ⟨v3, v4⟩ := mt_o7 h2
          have HGN := Lib.hid (show (if decide ((l : Int) < (N : Int)) = true then eachGo (findStep (byteL s) (a : Int) (N : Int) (over : Int)) (P.drop (i + 1)) (m.1, m.2) else (m.1, m.2)) = T by
            have h := HG3.out
            rw [if_neg (show ¬ ((over : Int) < (l : Int) ∧ m.1 < l) from fun h => h2 h.2)] at h
            exact h)
          clear h1 h2 HG3
          by_cases hn : N ≤ l
          · have d5 : decide ((N : Int) ≤ (l : Int)) = true := by rw [decide_eq_true_eq]; exact Int.ofNat_le.2 hn
            have d6 : decide (N ≤ l) = true := by rw [decide_eq_true_eq]; exact hn
            have HE := Lib.hid (show (m.1, m.2) = T by rw [← HGN.out, mt_v4 hn]; rfl)
            clear hn
            go_wp2_with fail
            refine bodyPost_ret (rfind_res _ _ R (m.1, m.2) rfl (two_cells HY10.out)) rfl ⟨by rw [← HE.out], two_below HYB.out HM.out.2.2 _ _⟩
          · have d5 : decide ((N : Int) ≤ (l : Int)) = false := by rw [decide_eq_false_iff_not]; exact fun h => hn (Int.ofNat_le.1 h)
            have d6 : decide (N ≤ l) = false := by rw [decide_eq_false_iff_not]; exact hn
            have HE := Lib.hid (show eachGo (findStep (byteL s) (a : Int) (N : Int) (over : Int)) (P.drop (i + 1)) (m.1, m.2) = T by rw [← HGN.out, mt_v5 hn]; rfl)
            clear hn
            go_wp2_with fail
            go_roundg f
            case measure => exact Nat.lt_succ_self f
            case rel => exact ⟨i + 1, (m.1, m.2), by first | rw [ei] | rfl, Lib.hid (pt_nx HI.out), HE, HY11, HY10, HYO, HYB⟩
      · obtain ⟨v1, v2⟩ := mt_o7 h1
        have HGN := Lib.hid (show (if decide ((l : Int) < (N : Int)) = true then eachGo (findStep (byteL s) (a : Int) (N : Int) (over : Int)) (P.drop (i + 1)) (m.1, m.2) else (m.1, m.2)) = T by
          have h := HG3.out
          rw [if_neg (show ¬ ((over : Int) < (l : Int) ∧ m.1 < l) from fun h => h1 (Int.ofNat_lt.1 h.1))] at h
          exact h)
        clear h1 HG3
        by_cases hn : N ≤ l
        · have d5 : decide ((N : Int) ≤ (l : Int)) = true := by rw [decide_eq_true_eq]; exact Int.ofNat_le.2 hn
          have d6 : decide (N ≤ l) = true := by rw [decide_eq_true_eq]; exact hn
          have HE := Lib.hid (show (m.1, m.2) = T by rw [← HGN.out, mt_v4 hn]; rfl)
          clear hn
          go_wp2_with fail
          refine bodyPost_ret (rfind_res _ _ R (m.1, m.2) rfl (two_cells HY10.out)) rfl ⟨by rw [← HE.out], two_below HYB.out HM.out.2.2 _ _⟩
        · have d5 : decide ((N : Int) ≤ (l : Int)) = false := by rw [decide_eq_false_iff_not]; exact fun h => hn (Int.ofNat_le.1 h)
          have d6 : decide (N ≤ l) = false := by rw [decide_eq_false_iff_not]; exact hn
          have HE := Lib.hid (show eachGo (findStep (byteL s) (a : Int) (N : Int) (over : Int)) (P.drop (i + 1)) (m.1, m.2) = T by rw [← HGN.out, mt_v5 hn]; rfl)
          clear hn
          go_wp2_with fail
          go_roundg f
          case measure => exact Nat.lt_succ_self f
          case rel => exact ⟨i + 1, (m.1, m.2), by first | rw [ei] | rfl, Lib.hid (pt_nx HI.out), HE, HY11, HY10, HYO, HYB⟩
theorem Rf.set29 {W : World} {n₀ B G : Nat} {s : ByteArray} {k : Nat} (h : Rf W n₀ B G s k) {R : Nat} {cs : Array Value} (hR : W.heap[R]? = some (.cells cs 29 (0, 0))) (j : Nat) (u : Value) : Rf (W.setCell ⟨R, j, none⟩ u) n₀ B G s k :=
  ⟨(Below.heap_setCell W ⟨R, j, none⟩ u B (fun e => by
    have e' : B = R := e
    have h1 := h.blk
    rw [e', hR] at h1
    cases h1)).trans h.blk, (Below.heap_setCell W ⟨R, j, none⟩ u G (fun e => by
    have e' : G = R := e
    have h1 := h.row
    rw [e', hR] at h1
    have h2 := congrArg (fun o => match o with | some (Obj.cells _ t _) => t | _ => 0) h1
    exact absurd (show (29 : TypeId) = 4 from h2) (by decide))).trans h.row, h.low, by simp [World.setCell]; exact h.size⟩
theorem KeepR.set {n : Nat} {W W' : World} (h : KeepR n W W') {R : Nat} (hR : W.heap.size ≤ R) (hn : n ≤ R) (j : Nat) (u : Value) : KeepR n W (W'.setCell ⟨R, j, none⟩ u) :=
  ⟨h.below.setCell (p := ⟨R, j, none⟩) hn u, fun k cs t z hk h1 h2 => (Below.heap_setCell W' ⟨R, j, none⟩ u k (fun e => by
    have e' : k = R := e
    have := (Array.getElem?_eq_some_iff.1 hk).1
    omega)).trans (h.cells k cs t z hk h1 h2)⟩
set_option maxHeartbeats 4000000 in
theorem rlook_any (a over k n₀ B G : Nat) (r : Nat × Nat × Nat) (s : ByteArray) (w : World) (h : Rf w n₀ B G s k) (hk : k ≤ a) (ha : a < s.size) (hs : s.size ≤ 100000) (hr : r.1 ≤ 100000) :
    Calls Try.prog 35 #[.pointer (some ⟨B, 0, none⟩), .int .i64 (a : Nat), .agg #[.int .i64 (r.1 : Nat), .int .i64 (r.2.1 : Nat), .int .i64 (r.2.2 : Nat)], .int .i64 (over : Nat)] w fun e w' =>
      e = .returned (.agg #[.int .i64 ((lookL (byteL s) r.1 r.2.1 a over).1 : Nat), .int .i64 ((lookL (byteL s) r.1 r.2.1 a over).2 : Nat)]) ∧ Rf w' n₀ B G s a ∧ KeepR n₀ w w' := by
  obtain ⟨Q, hQ⟩ : ∃ Q, w.heap.size = Q := ⟨_, rfl⟩
  obtain ⟨w1, hw1⟩ : ∃ w1, (w.alloc (.cells #[.int .i64 (r.1 : Nat), .int .i64 (r.2.1 : Nat), .int .i64 (r.2.2 : Nat)] 48)).alloc (.cells #[.int .i64 0, .int .i64 0] 29) = w1 := ⟨_, rfl⟩
  have hbA : Below w.heap.size w (w.alloc (.cells #[.int .i64 (r.1 : Nat), .int .i64 (r.2.1 : Nat), .int .i64 (r.2.2 : Nat)] 48)) := (Below.refl _ w).alloc (Nat.le_refl _) _
  have hb1 : Below w.heap.size w w1 := by rw [← hw1]; exact hbA.alloc hbA.size _
  have hbB : Below (w.alloc (.cells #[.int .i64 (r.1 : Nat), .int .i64 (r.2.1 : Nat), .int .i64 (r.2.2 : Nat)] 48)).heap.size (w.alloc (.cells #[.int .i64 (r.1 : Nat), .int .i64 (r.2.1 : Nat), .int .i64 (r.2.2 : Nat)] 48)) w1 := by rw [← hw1]; exact (Below.refl _ _).alloc (Nat.le_refl _) _
  have h6 : w1.heap[Q]? = some (.cells #[.int .i64 (r.1 : Nat), .int .i64 (r.2.1 : Nat), .int .i64 (r.2.2 : Nat)] 48 (0, 0)) := by rw [← hQ]; exact (hbB.block _ (by simp)).trans (heap_alloc_last w _)
  have h8 : w1.heap[Q + 1]? = some (.cells #[.int .i64 0, .int .i64 0] 29 (0, 0)) := by
    have h := heap_alloc_last (w.alloc (.cells #[.int .i64 (r.1 : Nat), .int .i64 (r.2.1 : Nat), .int .i64 (r.2.2 : Nat)] 48)) (.cells #[.int .i64 0, .int .i64 0] 29)
    have e : (w.alloc (.cells #[.int .i64 (r.1 : Nat), .int .i64 (r.2.1 : Nat), .int .i64 (r.2.2 : Nat)] 48)).heap.size = Q + 1 := by simp [hQ]
    rw [e] at h
    rw [← hw1]
    exact h
  have HW1 := Lib.hid hw1
  have H6 := Lib.hid h6
  have H8 := Lib.hid h8
  have HK1 := Lib.hid (KeepR.of_below hb1 h.size)
  have HF := Lib.hid (h.below hb1)
  have HN := Lib.hid (show n₀ ≤ Q + 1 ∧ w.heap.size ≤ Q + 1 by have := h.size; omega)
  have HA := Lib.hid (And.intro ha (And.intro hs hr))
  have ea := mt_p0 ha hs
  obtain ⟨f, hf2⟩ : ∃ f, k + f = a := ⟨a - k, by omega⟩
  have HF2 := Lib.hid hf2
  clear h hk ha hs hr hf2 hw1 h6 h8 hb1 hbA hbB
  go_enter Try.func35, Try.ntmps35
  go_wp2_with fail
  rw [HW1.out]
  clear hQ
  obtain ⟨M, hM⟩ : ∃ M, Q + 1 = M := ⟨_, rfl⟩
  rw [hM] at H8 HN ⊢
  clear hM
  go_loopg [9] f (fun f s9 wx => ∃ j : Nat, Hid (j + f = a) ∧ Hid (Rf wx n₀ B G s j) ∧ Hid (KeepR n₀ w1 wx))
  case atStart => exact ⟨k, HF2, HF, Lib.hid (KeepR.refl _ _)⟩
  case round =>
    clear HF
    obtain ⟨j, HJ, HF, HK2⟩ := hrel
    have q2 : wr.cell? ⟨B, 2, none⟩ = some (.int .i64 ((j : Int) - 1)) := cell_blk HF.out.blk 2
    cases gk with
    | succ f =>
      obtain ⟨d1, d1', d1''⟩ := mt_p1 HJ.out
      obtain ⟨e1, e1b, j1, j2, j3⟩ := mt_p3 HJ.out HA.out.1 HA.out.2.1
      have HJ2 := Lib.hid (And.intro j1 (And.intro j2 j3))
      clear j1 j2 j3
      go_wp2_with fail
      refine (rput_any j n₀ B G s wr HF.out HJ2.out.1).mono ?_
      rintro e w2 ⟨⟨v, rfl⟩, hf2, hk2⟩
      have HF3 := Lib.hid hf2
      have HK3 := Lib.hid (HK2.out.trans hk2)
      clear hf2 hk2
      go_wp2_with fail
      go_roundg f
      case measure => exact Nat.lt_succ_self f
      case rel => exact ⟨j + 1, Lib.hid HJ2.out.2.2, HF3, HK3⟩
    | zero =>
      have d1 := mt_p2 HJ.out
      obtain rfl : j = a := HJ.out
      have hx6 := HK2.out.cells _ _ _ _ H6.out (by decide) (by decide)
      have hx8 := HK2.out.cells _ _ _ _ H8.out (by decide) (by decide)
      have r0 : wr.cell? ⟨Q, 0, none⟩ = some (.int .i64 (r.1 : Nat)) := cell_blk hx6 0
      have r1 : wr.cell? ⟨Q, 1, none⟩ = some (.int .i64 (r.2.1 : Nat)) := cell_blk hx6 1
      have HX8 := Lib.hid hx8
      clear hx6 hx8
      go_wp2_with fail
      refine (rfind_any j r.1 r.2.1 over n₀ B G s wr HF.out HA.out.1 HA.out.2.1 HA.out.2.2).mono ?_
      rintro e w4 ⟨rfl, hb4⟩
      obtain ⟨m, hm⟩ : ∃ m, lookL (byteL s) r.1 r.2.1 j over = m := ⟨_, rfl⟩
      rw [hm]
      have hy8 := (hb4.block M (Array.getElem?_eq_some_iff.1 HX8.out).1).trans HX8.out
      have m0 : w4.cell? ⟨M, 0, none⟩ = some (.int .i64 0) := cell_blk hy8 0
      have m1 : w4.cell? ⟨M, 1, none⟩ = some (.int .i64 0) := cell_blk hy8 1
      have fM : ∀ j, w4.frozen? ⟨M, j, none⟩ = false := frozen_blk hy8
      have HY8 := Lib.hid hy8
      have HF4 := Lib.hid (HF.out.below hb4)
      have HK4 := Lib.hid ((HK1.out.trans HK2.out).trans (KeepR.of_below hb4 HF.out.size))
      have HMM := Lib.hid hm
      clear hb4 hy8 hm
      go_wp2_with fail
      refine bodyPost_ret (rlook_res _ _ M m rfl (two_cells HY8.out)) rfl ⟨by rw [← HMM.out], ?_, ?_⟩
      · exact (HF4.out.set29 HY8.out _ _).set29 (show (w4.setCell ⟨M, 0, none⟩ (.int .i64 (m.1 : Nat))).heap[M]? = some (.cells #[.int .i64 (m.1 : Nat), .int .i64 0] 29 (0, 0)) by simp [World.setCell, Array.getElem?_modify, HY8.out]) _ _
      · exact (HK4.out.set HN.out.2 HN.out.1 _ _).set HN.out.2 HN.out.1 _ _
end Go.Proofs.Ytolkmjclldjkkaa
