/-
  Runs: the plain law of Unpack, and what is told.
-/
import Derived.Test.YtkoohabljjbliaaPCx8
set_option linter.unusedSimpArgs false
set_option linter.unusedVariables false
namespace Go.Proofs.Ytkoohabljjbliaa.Pure
open Go.RowKit Go.Proofs.Ytkoohabljjbliaa.PC Go.Proofs.YtkoohabljjbliaaW.PrintWords Go.Proofs.YtkoohabljjbliaaW.PrintLast

theorem ev_now {α : Type} {g : Nat → Option α} {r : α} (h : ∀ k, g (k + 1) = some r) : Ev g r := Ev.step h (Ev.now r)
theorem nat_w (i : Nat) (h : i ≤ 1000000) : wrap64 ((i : Int) + 1) = ((i + 1 : Nat) : Int) := by unfold wrap64; omega

def byteS (l : List S33) : Prop := ∀ r ∈ l, (0 ≤ r.f0 ∧ r.f0 < 256) ∧ 0 ≤ r.f1 ∧ r.f1 < 256
/-- which length a run tells -/
def valU (out : List Int) (s : Int) : Int := if s = 16 then rd out ((out.length : Int) - 1) else if s > 16 then 0 else s
/-- what runs are, so many -/
def unp (n : Int) : List Int → List S33 → List Int × Int
  | out, [] => if (out.length : Int) < n then ([], 7) else (out, 0)
  | out, r :: l => if (timesI r.f0 r.f1).2 = true then (if (r.f0 = 16 ∧ out = []) ∨ (out.length : Int) + (timesI r.f0 r.f1).1 > n then ([], 7) else unp n (out ++ List.replicate (timesI r.f0 r.f1).1.toNat (valU out r.f0)) l) else ([], 2)
theorem times_bd {s x : Int} (hx : 0 ≤ x) (h : (timesI s x).2 = true) : 1 ≤ (timesI s x).1 ∧ (timesI s x).1 ≤ 138 := by
  unfold timesI at h ⊢
  split
  · rename_i h1; rw [if_pos h1] at h; cases h
  · rename_i h1; rw [if_neg h1] at h
    split
    · rename_i h2; rw [if_pos h2] at h
      split
      · rename_i h3; rw [if_pos h3] at h; cases h
      · omega
    · rename_i h2; rw [if_neg h2] at h
      split
      · rename_i h3; rw [if_pos h3] at h
        split
        · rename_i h4; rw [if_pos h4] at h; cases h
        · dsimp only; omega
      · rename_i h3; rw [if_neg h3] at h
        split
        · rename_i h4; rw [if_pos h4] at h
          split
          · rename_i h5; rw [if_pos h5] at h; cases h
          · dsimp only; omega
        · rename_i h4; rw [if_neg h4] at h
          split
          · rename_i h5; rw [if_pos h5] at h; cases h
          · dsimp only; omega
theorem drop_at (l : List S33) (i : Nat) (h : i < l.length) : l.drop i = rd_T33 l (i : Int) :: l.drop (i + 1) := by
  rw [List.drop_eq_getElem_cons h]
  simp [rd_T33, List.getD_eq_getElem?_getD, h]
theorem mem_at (l : List S33) (i : Nat) (h : i < l.length) : rd_T33 l (i : Int) ∈ l := by
  simp [rd_T33, List.getD_eq_getElem?_getD, h]

theorem times_f {r : S33} (h : (0 ≤ r.f0 ∧ r.f0 < 256) ∧ 0 ≤ r.f1 ∧ r.f1 < 256) : runs_Times.f r.f0 r.f1 = some (timesI r.f0 r.f1) := by
  unfold runs_Times.f; rw [if_pos ⟨h.1.1, h.1.2, h.2.1, h.2.2⟩]

theorem up_l1 (n : Int) (v : Int) (l : List S33) (len : Int) (i : Nat) (K : Nat) (r : List Int × Int) (hK : K ≤ 138) : ∀ (d j : Nat) (out : List Int), j + d = K → out.length + d ≤ 1000000 →
    Ev (fun k => runs_Unpack.l0 k n (out ++ List.replicate d v) l len (wrap64 ((i : Int) + 1))) r → Ev (fun k => runs_Unpack.l1 k n out v l len (i : Int) (K : Int) (j : Int)) r := by
  intro d
  induction d with
  | zero =>
    intro j out hj ho h
    refine Ev.step (fun k => ?_) h
    simp only [runs_Unpack.l1]
    rw [if_neg (by omega), List.replicate_zero, List.append_nil]
  | succ d ih =>
    intro j out hj ho h
    refine Ev.step (fun k => ?_) (ih (j + 1) (out ++ [v]) (by omega) (by rw [List.length_append]; simp; omega) (by rwa [List.append_assoc, List.singleton_append, ← List.replicate_succ]))
    simp only [runs_Unpack.l1]
    rw [if_pos (by omega), if_pos (by omega), nat_w _ (by omega)]

theorem up_l0 (n : Int) (l : List S33) (hb : byteS l) (hl : l.length ≤ 4000) (hn : n ≤ 9223372036854775807) : ∀ (d i : Nat) (out : List Int), i + d = l.length → out.length ≤ 138 * i →
    Ev (fun k => runs_Unpack.l0 k n out l (l.length : Int) (i : Int)) (unp n out (l.drop i)) := by
  intro d
  induction d with
  | zero =>
    intro i out hi ho
    rw [List.drop_of_length_le (by omega), unp]
    refine ev_now fun k => ?_
    simp only [runs_Unpack.l0]
    rw [if_neg (by omega)]
    split <;> rfl
  | succ d ih =>
    intro i out hi ho
    have hil : i < l.length := by omega
    have hr := hb _ (mem_at l i hil)
    rw [drop_at l i hil, unp]
    obtain ⟨x, hx⟩ : ∃ x, rd_T33 l (i : Int) = x := ⟨_, rfl⟩
    rw [hx] at hr ⊢
    have hbd := @times_bd x.f0 x.f1 hr.2.1
    have ht := times_f hr
    obtain ⟨t, htt⟩ : ∃ t, timesI x.f0 x.f1 = t := ⟨_, rfl⟩
    rw [htt] at hbd ht ⊢
    by_cases ht2 : t.2 = true
    · rw [if_pos ht2]
      obtain ⟨b1, b2⟩ := hbd ht2
      obtain ⟨K, hK⟩ : ∃ K : Nat, t.1 = (K : Int) := ⟨t.1.toNat, by omega⟩
      have hw : wrap64 ((out.length : Int) + t.1) = (out.length : Int) + t.1 := by unfold wrap64; omega
      have hw2 : wrap64 ((out.length : Int) - 1) = (out.length : Int) - 1 := by unfold wrap64; omega
      -- what the last steps come to
      have hj3 : ∀ v, Ev (fun k => runs_Unpack.j3 k n out t.1 v l (l.length : Int) (i : Int)) (unp n (out ++ List.replicate t.1.toNat v) (l.drop (i + 1))) := by
        intro v
        rw [hK] at b2 ⊢
        refine Ev.step (fun k => by simp only [runs_Unpack.j3]; rfl) (up_l1 n v l (l.length : Int) i K _ (by omega) K 0 out (by omega) (by omega) ?_)
        rw [nat_w i (by omega)]
        rw [Int.toNat_natCast]
        exact ih (i + 1) _ (by omega) (by rw [List.length_append, List.length_replicate]; omega)
      have hj2 : ¬ (x.f0 = 16 ∧ out = []) → Ev (fun k => runs_Unpack.j2 k n out t.1 x.f0 l (l.length : Int) (i : Int) false) (unp n (out ++ List.replicate t.1.toNat (valU out x.f0)) (l.drop (i + 1))) := by
        intro hne
        by_cases h16 : x.f0 = 16
        · have hout : 0 < out.length := by
            cases out with
            | nil => exact absurd ⟨h16, rfl⟩ hne
            | cons _ _ => simp
          refine Ev.step (fun k => ?_) (hj3 (valU out x.f0))
          simp only [runs_Unpack.j2]
          rw [if_neg (by decide), if_pos h16, hw2, if_pos (by omega), if_pos (by omega)]
          simp only [valU]
          rw [if_pos h16]
        · refine Ev.step (fun k => ?_) (hj3 (valU out x.f0))
          simp only [runs_Unpack.j2]
          rw [if_neg (by decide), if_neg h16]
          simp only [valU]
          rw [if_neg h16]
          by_cases h17 : x.f0 > 16
          · rw [if_pos h17, if_pos h17]
          · rw [if_neg h17, if_neg h17]
      have hj2t : Ev (fun k => runs_Unpack.j2 k n out t.1 x.f0 l (l.length : Int) (i : Int) true) ([], 7) := ev_now fun k => by simp only [runs_Unpack.j2]; rw [if_pos trivial]
      have hj1 : ∀ b : Bool, b = (decide (x.f0 = 16) && ((out.length : Int) == 0)) → Ev (fun k => runs_Unpack.j1 k n out t.1 x.f0 l (l.length : Int) (i : Int) b)
          (if (x.f0 = 16 ∧ out = []) ∨ (out.length : Int) + t.1 > n then ([], 7) else unp n (out ++ List.replicate t.1.toNat (valU out x.f0)) (l.drop (i + 1))) := by
        intro b hbb
        by_cases hc : x.f0 = 16 ∧ out = []
        · have : b = true := by rw [hbb, hc.2]; simp [hc.1]
          subst this
          rw [if_pos (.inl hc)]
          refine Ev.step (fun k => by simp only [runs_Unpack.j1]; rw [if_pos trivial]) hj2t
        · have : b = false := by
            rw [hbb]
            by_cases h16 : x.f0 = 16
            · have : out ≠ [] := fun h => hc ⟨h16, h⟩
              cases out with
              | nil => exact absurd rfl this
              | cons _ _ => simp; omega
            · simp [h16]
          subst this
          by_cases hg : (out.length : Int) + t.1 > n
          · rw [if_pos (.inr hg)]
            refine Ev.step (fun k => ?_) hj2t
            simp only [runs_Unpack.j1]
            rw [if_neg (by decide), hw, decide_eq_true hg]
          · rw [if_neg (fun h => h.elim hc hg)]
            refine Ev.step (fun k => ?_) (hj2 hc)
            simp only [runs_Unpack.j1]
            rw [if_neg (by decide), hw, decide_eq_false hg]
      by_cases h16 : x.f0 = 16
      · refine Ev.step (fun k => ?_) (hj1 ((out.length : Int) == 0) (by simp [h16]))
        simp only [runs_Unpack.l0]
        rw [if_pos (by omega), if_pos (by omega), if_pos (by omega), hx, ht, Option.bind_some, if_pos ht2, if_pos h16]
      · refine Ev.step (fun k => ?_) (hj1 false (by simp [h16]))
        simp only [runs_Unpack.l0]
        rw [if_pos (by omega), if_pos (by omega), if_pos (by omega), hx, ht, Option.bind_some, if_pos ht2, if_neg h16]
    · rw [if_neg ht2]
      refine ev_now fun k => ?_
      simp only [runs_Unpack.l0]
      rw [if_pos (by omega), if_pos (by omega), if_pos (by omega), hx, ht, Option.bind_some, if_neg ht2]
/-- what Unpack answers -/
def unpF (n : Int) (l : List S33) : List Int × Int := if n < 0 then ([], 2) else unp n [] l
theorem ev_unpack (n : Int) (l : List S33) (hb : byteS l) (hl : l.length ≤ 4000) (hn : n ≤ 9223372036854775807) : Ev (fun k => runs_Unpack.f k l n) (unpF n l) := by
  unfold unpF
  by_cases h : n < 0
  · rw [if_pos h]
    exact Ev.congr (fun k => by unfold runs_Unpack.f; rw [if_pos h]) (Ev.now _)
  · rw [if_neg h]
    have := up_l0 n l hb hl hn l.length 0 [] (by omega) (by simp)
    rw [List.drop_zero] at this
    exact Ev.congr (fun k => by unfold runs_Unpack.f; rw [if_neg h]; rfl) this

end Go.Proofs.Ytkoohabljjbliaa.Pure
