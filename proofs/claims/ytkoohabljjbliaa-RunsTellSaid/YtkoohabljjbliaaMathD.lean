/-
  Runs: what the document's functions answer.
-/
import Derived.Test.YtkoohabljjbliaaMathC
import Derived.Test.YtkoohabljjbliaaPCx12
import Derived.Test.YtkoohabljjbliaaPCx14
import Derived.Test.YtkoohabljjbliaaPCx16
set_option linter.unusedSimpArgs false
set_option linter.unusedVariables false
namespace Go.Proofs.Ytkoohabljjbliaa.Pure
open Go.RowKit Go.Proofs.Ytkoohabljjbliaa.PC Go.Proofs.YtkoohabljjbliaaW.PrintWords Go.Proofs.YtkoohabljjbliaaW.PrintLast

theorem ev_rtimes (s x : Int) (hx : 0 ≤ x ∧ x < 256) : Ev (fun k => platenref12_Times.f k s x) (timesI s x).1 := by
  have w0 : wrap64 x = x := by unfold wrap64; omega
  have w3 : wrap64 (3 + x) = 3 + x := by unfold wrap64; omega
  have w11 : wrap64 (11 + x) = 11 + x := by unfold wrap64; omega
  have hj2 : ∀ b : Bool, s ≠ 16 → ¬ s < 16 → b = decide (s = 17 ∧ x < 8) → Ev (fun k => platenref12_Times.j2 k b s x) (timesI s x).1 := by
    intro b h16 hlt hb
    refine ev_now fun k => ?_
    simp only [platenref12_Times.j2]
    unfold timesI
    by_cases h17 : s = 17
    · subst h17
      by_cases h8 : x < 8
      · rw [hb, decide_eq_true ⟨rfl, h8⟩, if_pos rfl, w0, w3, if_neg (by omega), if_neg (by omega), if_neg (by omega), if_pos rfl, if_neg (by omega)]
      · rw [hb, decide_eq_false (fun h => h8 h.2), if_neg (by decide), if_neg (by omega), if_neg (by omega), if_neg (by omega), if_neg (by omega), if_pos rfl, if_pos (by omega)]
    · rw [hb, decide_eq_false (fun h => h17 h.1), if_neg (by decide)]
      by_cases h18 : s = 18
      · subst h18
        by_cases h128 : x < 128
        · rw [if_pos rfl, if_pos h128, w0, w11, if_neg (by omega), if_neg (by omega), if_neg (by omega), if_neg (by omega), if_neg (by omega)]
        · rw [if_pos rfl, if_neg h128, if_neg (by omega), if_neg (by omega), if_neg (by omega), if_neg (by omega), if_pos (by omega)]
      · rw [if_neg h18, if_pos (by omega)]
  have hj1 : ∀ b : Bool, ¬ s < 16 → b = decide (s = 16 ∧ x < 4) → Ev (fun k => platenref12_Times.j1 k b s x) (timesI s x).1 := by
    intro b hlt hb
    by_cases h16 : s = 16
    · by_cases h4 : x < 4
      · refine ev_now fun k => ?_
        simp only [platenref12_Times.j1]
        rw [hb, decide_eq_true ⟨h16, h4⟩, if_pos rfl, w0, w3]
        unfold timesI
        rw [if_neg (by omega), if_neg (by omega), if_pos h16, if_neg (by omega)]
      · have ht : (timesI s x).1 = 0 := by unfold timesI; rw [if_neg (by omega), if_neg (by omega), if_pos h16, if_pos (by omega)]
        rw [ht]
        refine Ev.step (f := fun k => platenref12_Times.j2 k false s x) (fun k => ?_) (ev_now fun k => ?_)
        · simp only [platenref12_Times.j1]
          rw [hb, decide_eq_false (fun h => h4 h.2), if_neg (by decide), if_neg (by omega)]
        · simp only [platenref12_Times.j2]
          rw [if_neg (by decide), if_neg (by omega)]
    · by_cases h17 : s = 17
      · refine Ev.step (fun k => ?_) (hj2 (decide (x < 8)) h16 hlt (by simp [h17]))
        simp only [platenref12_Times.j1]
        rw [hb, decide_eq_false (fun h => h16 h.1), if_neg (by decide), if_pos h17]
      · refine Ev.step (fun k => ?_) (hj2 false h16 hlt (by simp [h17]))
        simp only [platenref12_Times.j1]
        rw [hb, decide_eq_false (fun h => h16 h.1), if_neg (by decide), if_neg h17]
  have hj0 : ∀ b : Bool, b = decide (s < 16 ∧ x = 0) → Ev (fun k => platenref12_Times.j0 k b s x) (timesI s x).1 := by
    intro b hb
    by_cases hlt : s < 16
    · by_cases h0 : x = 0
      · refine ev_now fun k => ?_
        simp only [platenref12_Times.j0]
        rw [hb, decide_eq_true ⟨hlt, h0⟩, if_pos rfl]
        unfold timesI
        rw [if_neg (by omega), if_pos hlt, if_neg (by omega)]
      · have ht : (timesI s x).1 = 0 := by unfold timesI; rw [if_neg (by omega), if_pos hlt, if_pos (by omega)]
        rw [ht]
        refine Ev.step (f := fun k => platenref12_Times.j1 k false s x) (fun k => ?_) (Ev.step (f := fun k => platenref12_Times.j2 k false s x) (fun k => ?_) (ev_now fun k => ?_))
        · simp only [platenref12_Times.j0]
          rw [hb, decide_eq_false (fun h => h0 h.2), if_neg (by decide), if_neg (by omega)]
        · simp only [platenref12_Times.j1]
          rw [if_neg (by decide), if_neg (by omega)]
        · simp only [platenref12_Times.j2]
          rw [if_neg (by decide), if_neg (by omega)]
    · by_cases h16 : s = 16
      · refine Ev.step (fun k => ?_) (hj1 (decide (x < 4)) hlt (by simp [h16]))
        simp only [platenref12_Times.j0]
        rw [hb, decide_eq_false (fun h => hlt h.1), if_neg (by decide), if_pos h16]
      · refine Ev.step (fun k => ?_) (hj1 false hlt (by simp [h16]))
        simp only [platenref12_Times.j0]
        rw [hb, decide_eq_false (fun h => hlt h.1), if_neg (by decide), if_neg h16]
  by_cases hlt : s < 16
  · refine Ev.congr (fun k => ?_) (hj0 (x == 0) (by by_cases h : x = 0 <;> simp [h, hlt]))
    unfold platenref12_Times.f; rw [if_pos hlt]
  · refine Ev.congr (fun k => ?_) (hj0 false (by simp [hlt]))
    unfold platenref12_Times.f; rw [if_neg hlt]

/-! the document's Unpack -/
theorem ru_l1 (n : Int) (v : Int) (l : List S33) (i : Nat) (K : Nat) (r : List Int × Int) (hK : K ≤ 138) (hi : i ≤ 100000) : ∀ (d j : Nat) (out : List Int), j + d = K → out.length + d ≤ 1000000 →
    Ev (fun k => platenref12_Unpack.l0 k l n (out ++ List.replicate d v) (wrap64 ((i : Int) + 1))) r → Ev (fun k => platenref12_Unpack.l1 k l n out (i : Int) (K : Int) v (j : Int)) r := by
  intro d
  induction d with
  | zero =>
    intro j out hj ho h
    refine Ev.step (fun k => ?_) h
    simp only [platenref12_Unpack.l1]
    rw [if_neg (by omega), List.replicate_zero, List.append_nil]
  | succ d ih =>
    intro j out hj ho h
    refine Ev.step (fun k => ?_) (ih (j + 1) (out ++ [v]) (by omega) (by rw [List.length_append]; simp; omega) (by rwa [List.append_assoc, List.singleton_append, ← List.replicate_succ]))
    simp only [platenref12_Unpack.l1]
    rw [if_pos (by omega), if_pos (by omega), nat_w _ (by omega)]
theorem times_zero {s x : Int} (hx : 0 ≤ x) : ¬ (timesI s x).2 = true → (timesI s x).1 = 0 := by
  unfold timesI
  (repeat' split) <;> simp
theorem last_small {out : List Int} (h : ∀ y ∈ out, y ≤ 15) (h0 : out ≠ []) : ¬ rd out ((out.length : Int) - 1) > 16 := by
  have hm : rd out ((out.length : Int) - 1) ∈ out := by
    have hp : 0 < out.length := List.length_pos_iff.2 h0
    have e : ((out.length : Int) - 1).toNat = out.length - 1 := by omega
    simp only [rd, e]
    rw [List.getD_eq_getElem?_getD, List.getElem?_eq_getElem (by omega)]
    simp
  have := h _ hm
  omega
theorem val_small {out : List Int} (h : ∀ y ∈ out, y ≤ 15) {s : Int} (h0 : ¬ (s = 16 ∧ out = [])) : valU out s ≤ 15 := by
  unfold valU
  by_cases h16 : s = 16
  · rw [if_pos h16]
    have hne : out ≠ [] := fun h => h0 ⟨h16, h⟩
    have hm : rd out ((out.length : Int) - 1) ∈ out := by
      have hp : 0 < out.length := List.length_pos_iff.2 hne
      have e : ((out.length : Int) - 1).toNat = out.length - 1 := by omega
      simp only [rd, e]
      rw [List.getD_eq_getElem?_getD, List.getElem?_eq_getElem (by omega)]
      simp
    exact h _ hm
  · rw [if_neg h16]
    split <;> omega
theorem ru_l0 (n : Int) (l : List S33) (hb : byteS l) (hl : l.length ≤ 4000) (hn : n ≤ 9223372036854775807) : ∀ (d i : Nat) (out : List Int), i + d = l.length → out.length ≤ 138 * i → (∀ y ∈ out, y ≤ 15) →
    Ev (fun k => platenref12_Unpack.l0 k l n out (i : Int)) (unp n out (l.drop i)) := by
  intro d
  induction d with
  | zero =>
    intro i out hi ho _
    rw [List.drop_of_length_le (by omega), unp]
    refine ev_now fun k => ?_
    simp only [platenref12_Unpack.l0]
    rw [if_neg (by omega)]
    split <;> rfl
  | succ d ih =>
    intro i out hi ho ho15
    have hil : i < l.length := by omega
    have hr := hb _ (mem_at l i hil)
    rw [drop_at l i hil, unp]
    obtain ⟨x, hx⟩ : ∃ x, rd_T33 l (i : Int) = x := ⟨_, rfl⟩
    rw [hx] at hr ⊢
    have hbd := @times_bd x.f0 x.f1 hr.2.1
    have hz := @times_zero x.f0 x.f1 hr.2.1
    have ht := ev_rtimes x.f0 x.f1 hr.2
    obtain ⟨t, htt⟩ : ∃ t, timesI x.f0 x.f1 = t := ⟨_, rfl⟩
    rw [htt] at hbd ht hz ⊢
    refine Ev.step (f := fun k => (platenref12_Times.f k x.f0 x.f1).bind fun t155 => (if t155 = 0 then (some (([] : List Int), 2)) else (if x.f0 = 16 then (if (out.length : Int) = 0 then (some (([] : List Int), 7)) else (if 0 ≤ (wrap64 ((out.length : Int) - 1)) then (if (wrap64 ((out.length : Int) - 1)) < (out.length : Int) then (platenref12_Unpack.j1 k l n out (i : Int) t155 (rd out (wrap64 ((out.length : Int) - 1)))) else (none)) else (none))) else (platenref12_Unpack.j1 k l n out (i : Int) t155 x.f0)))) (fun k => ?_) (Ev.bind ht ?_)
    · simp only [platenref12_Unpack.l0]
      rw [if_pos (by omega), if_pos (by omega), hx]
    by_cases ht2 : t.2 = true
    · rw [if_pos ht2]
      obtain ⟨b1, b2⟩ := hbd ht2
      obtain ⟨K, hK⟩ : ∃ K : Nat, t.1 = (K : Int) := ⟨t.1.toNat, by omega⟩
      have hw : wrap64 ((out.length : Int) + t.1) = (out.length : Int) + t.1 := by unfold wrap64; omega
      have hw2 : wrap64 ((out.length : Int) - 1) = (out.length : Int) - 1 := by unfold wrap64; omega
      have hj2 : ¬ (x.f0 = 16 ∧ out = []) → Ev (fun k => platenref12_Unpack.j2 k l n out (i : Int) t.1 (valU out x.f0)) (if (x.f0 = 16 ∧ out = []) ∨ (out.length : Int) + t.1 > n then ([], 7) else unp n (out ++ List.replicate t.1.toNat (valU out x.f0)) (l.drop (i + 1))) := by
        intro hc
        by_cases hg : (out.length : Int) + t.1 > n
        · rw [if_pos (.inr hg)]
          refine ev_now fun k => ?_
          simp only [platenref12_Unpack.j2]
          rw [hw, if_pos hg]
        · rw [if_neg (fun h => h.elim hc hg)]
          refine Ev.step (f := fun k => platenref12_Unpack.l1 k l n out (i : Int) (K : Int) (valU out x.f0) ((0 : Nat) : Int)) (fun k => ?_) (ru_l1 n (valU out x.f0) l i K _ (by omega) (by omega) K 0 out (by omega) (by omega) ?_)
          · simp only [platenref12_Unpack.j2]
            rw [hw, if_neg hg, hK]
            rfl
          · rw [nat_w i (by omega), hK, Int.toNat_natCast]
            refine ih (i + 1) _ (by omega) (by rw [List.length_append, List.length_replicate]; omega) (fun y hy => ?_)
            rcases List.mem_append.1 hy with hy | hy
            · exact ho15 y hy
            · rw [List.eq_of_mem_replicate hy]; exact val_small ho15 hc
      by_cases h16 : x.f0 = 16
      · by_cases h0 : out = []
        · rw [if_pos (.inl ⟨h16, h0⟩)]
          refine Ev.congr (fun k => ?_) (Ev.now _)
          rw [if_neg (by omega), if_pos h16, if_pos (by rw [h0]; rfl)]
        · have hp : 0 < out.length := List.length_pos_iff.2 h0
          have hj := hj2 (fun h => h0 h.2)
          have hv : valU out x.f0 = rd out ((out.length : Int) - 1) := by unfold valU; rw [if_pos h16]
          refine Ev.congr (f := fun k => platenref12_Unpack.j1 k l n out (i : Int) t.1 (rd out ((out.length : Int) - 1))) (fun k => ?_) (Ev.step (fun k => ?_) hj)
          · rw [if_neg (by omega), if_pos h16, if_neg (by omega), hw2, if_pos (by omega), if_pos (by omega)]
          · simp only [platenref12_Unpack.j1]
            rw [if_neg (last_small ho15 h0), hv]
      · have hj := hj2 (fun h => h16 h.1)
        refine Ev.congr (f := fun k => platenref12_Unpack.j1 k l n out (i : Int) t.1 x.f0) (fun k => ?_) (Ev.step (fun k => ?_) hj)
        · rw [if_neg (by omega), if_neg h16]
        · simp only [platenref12_Unpack.j1, valU]
          rw [if_neg h16]
          by_cases h17 : x.f0 > 16
          · rw [if_pos h17, if_pos h17]
          · rw [if_neg h17, if_neg h17]
    · rw [if_neg ht2]
      refine Ev.congr (fun k => ?_) (Ev.now _)
      rw [if_pos (hz ht2)]
theorem ev_runpack (n : Int) (l : List S33) (hb : byteS l) (hl : l.length ≤ 4000) (hn : n ≤ 9223372036854775807) : Ev (fun k => platenref12_Unpack.f k l n) (unpF n l) := by
  unfold unpF
  by_cases h : n < 0
  · rw [if_pos h]
    exact Ev.congr (fun k => by unfold platenref12_Unpack.f; rw [if_pos h]) (Ev.now _)
  · rw [if_neg h]
    have := ru_l0 n l hb hl hn l.length 0 [] (by omega) (by simp) (by simp)
    rw [List.drop_zero] at this
    exact Ev.congr (fun k => by unfold platenref12_Unpack.f; rw [if_neg h]; rfl) this
end Go.Proofs.Ytkoohabljjbliaa.Pure
