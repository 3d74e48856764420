/-
  RunsCounts: for every runs and how many more, the law answers true.
-/
import Derived.Test.YtkoohabljjbliaaPCx19
import Derived.Test.YtkoohabljjbliaaMathC
set_option linter.unusedSimpArgs false
set_option linter.unusedVariables false
namespace Go.Proofs.Ytkoohabljjbliaa.Pure
open Go.RowKit Go.Proofs.Ytkoohabljjbliaa.PC Go.Proofs.YtkoohabljjbliaaW.PrintWords Go.Proofs.YtkoohabljjbliaaW.PrintLast

/-- how often one says its symbol -/
abbrev tm (r : S33) : Int × Bool := timesI r.f0 r.f1
/-- how many lengths all are -/
def tot : List S33 → Int
  | [] => 0
  | r :: l => (tm r).1 + tot l
def head16 : List S33 → Bool
  | [] => false
  | r :: _ => r.f0 == 16
/-- are all runs, and is there one ahead of the first that repeats? -/
def fineB (l : List S33) : Bool := l.all (fun r => (tm r).2) && !head16 l
theorem tm_bd {r : S33} (h : (0 ≤ r.f0 ∧ r.f0 < 256) ∧ 0 ≤ r.f1 ∧ r.f1 < 256) : 0 ≤ (tm r).1 ∧ (tm r).1 ≤ 138 := by
  by_cases h2 : (tm r).2 = true
  · have h3 : 1 ≤ (tm r).1 ∧ (tm r).1 ≤ 138 := times_bd h.2.1 h2
    omega
  · have : (tm r).1 = 0 := by
      revert h2
      simp only [tm]
      unfold timesI
      (repeat' split) <;> simp
    omega
theorem tot_app (a b : List S33) : tot (a ++ b) = tot a + tot b := by
  induction a with
  | nil => simp [tot]
  | cons r a ih => simp only [List.cons_append, tot, ih]; omega
theorem tot_bd (l : List S33) (hb : byteS l) : 0 ≤ tot l ∧ tot l ≤ 138 * l.length := by
  induction l with
  | nil => simp [tot]
  | cons r l ih =>
    have h1 := tm_bd (hb r (by simp))
    have h2 := ih (fun x hx => hb x (by simp [hx]))
    simp only [tot, List.length_cons]
    omega
theorem fine_snoc (l : List S33) (x : S33) (hl : l ≠ []) : fineB (l ++ [x]) = (fineB l && (tm x).2) := by
  cases l with
  | nil => exact absurd rfl hl
  | cons r l =>
    unfold fineB
    rw [List.all_append]
    simp only [head16, List.cons_append, List.all_cons, List.all_nil, Bool.and_true]
    cases (tm r).2 <;> cases (l.all fun r => (tm r).2) <;> cases (tm x).2 <;> cases (r.f0 == 16) <;> rfl
theorem fine_one (x : S33) : fineB [x] = ((tm x).2 && !(x.f0 == 16)) := by simp [fineB, head16]

theorem unp_err (n : Int) : ∀ (l : List S33) (out : List Int), (unp n out l).2 ≠ 0 → (unp n out l).1 = [] := by
  intro l
  induction l with
  | nil => intro out h; rw [unp] at h ⊢; split at h <;> simp_all
  | cons r l ih =>
    intro out h
    rw [unp] at h ⊢
    split
    · rename_i h1
      rw [if_pos h1] at h
      split
      · rfl
      · rename_i h2
        rw [if_neg h2] at h
        exact ih _ h
    · rfl
theorem unp_ok : ∀ (l : List S33) (out : List Int) (n : Int), byteS l → (∀ r ∈ l, (tm r).2 = true) → (out = [] → head16 l = false) → n = out.length + tot l → (unp n out l).2 = 0 ∧ ((unp n out l).1.length : Int) = n := by
  intro l
  induction l with
  | nil => intro out n _ _ _ hn; simp only [tot] at hn; rw [unp, if_neg (by omega)]; exact ⟨rfl, by dsimp only; omega⟩
  | cons r l ih =>
    intro out n hb hall hh hn
    have ht := hall r (by simp)
    have hbd := times_bd (hb r (by simp)).2.1 ht
    have hb' : byteS l := fun x hx => hb x (by simp [hx])
    have htot := tot_bd l hb'
    simp only [tot] at hn
    have hc : ¬ ((r.f0 = 16 ∧ out = []) ∨ (out.length : Int) + (timesI r.f0 r.f1).1 > n) := by
      intro h
      rcases h with ⟨h1, h2⟩ | h
      · have := hh h2
        simp [head16, h1] at this
      · have : (tm r).1 = (timesI r.f0 r.f1).1 := rfl
        omega
    rw [unp, if_pos ht, if_neg hc]
    refine ih _ n hb' (fun x hx => hall x (by simp [hx])) (fun h => ?_) ?_
    · have : (out ++ List.replicate (timesI r.f0 r.f1).1.toNat (valU out r.f0)).length = 0 := by rw [h]; rfl
      rw [List.length_append, List.length_replicate] at this
      have : (tm r).1 = (timesI r.f0 r.f1).1 := rfl
      omega
    · rw [List.length_append, List.length_replicate]
      have : (tm r).1 = (timesI r.f0 r.f1).1 := rfl
      omega
theorem unp_conv : ∀ (l : List S33) (out : List Int) (n : Int), byteS l → (out.length : Int) ≤ n → (unp n out l).2 = 0 → (∀ r ∈ l, (tm r).2 = true) ∧ (out = [] → head16 l = false) ∧ n = out.length + tot l := by
  intro l
  induction l with
  | nil =>
    intro out n _ hle h
    rw [unp] at h
    split at h
    · cases h
    · exact ⟨by simp, fun _ => rfl, by simp only [tot]; omega⟩
  | cons r l ih =>
    intro out n hb hle h
    rw [unp] at h
    split at h
    · rename_i ht
      have hbd := times_bd (hb r (by simp)).2.1 ht
      split at h
      · cases h
      · rename_i hc
        have hc1 : ¬ (r.f0 = 16 ∧ out = []) := fun hh => hc (.inl hh)
        have hc2 : ¬ (out.length : Int) + (timesI r.f0 r.f1).1 > n := fun hh => hc (.inr hh)
        obtain ⟨h1, _, h3⟩ := ih _ n (fun x hx => hb x (by simp [hx])) (by rw [List.length_append, List.length_replicate]; omega) h
        refine ⟨fun x hx => ?_, fun ho => ?_, ?_⟩
        · rcases List.mem_cons.1 hx with rfl | hx
          · exact ht
          · exact h1 x hx
        · simp only [head16]
          have : ¬ r.f0 = 16 := fun h16 => hc1 ⟨h16, ho⟩
          simpa using this
        · rw [List.length_append, List.length_replicate] at h3
          simp only [tot]
          have : (tm r).1 = (timesI r.f0 r.f1).1 := rfl
          omega
    · cases h
theorem fine_iff (l : List S33) : fineB l = true ↔ (∀ r ∈ l, (tm r).2 = true) ∧ head16 l = false := by
  unfold fineB
  rw [Bool.and_eq_true, List.all_eq_true]
  simp
theorem unpF_fine (l : List S33) (hb : byteS l) (h : fineB l = true) : (unpF (tot l) l).2 = 0 ∧ ((unpF (tot l) l).1.length : Int) = tot l := by
  have ht := tot_bd l hb
  unfold unpF
  rw [if_neg (by omega)]
  obtain ⟨h1, h2⟩ := (fine_iff l).1 h
  exact unp_ok l [] _ hb h1 (fun _ => h2) (by simp)
theorem unpF_conv (l : List S33) (hb : byteS l) (n : Int) (h : (unpF n l).2 = 0) : fineB l = true ∧ n = tot l := by
  unfold unpF at h
  split at h
  · cases h
  · obtain ⟨h1, h2, h3⟩ := unp_conv l [] n hb (by simp; omega) h
    exact ⟨(fine_iff l).2 ⟨h1, h2 rfl⟩, by simpa using h3⟩
theorem unpF_err (n : Int) (l : List S33) (h : (unpF n l).2 ≠ 0) : (unpF n l).1 = [] := by
  unfold unpF at h ⊢
  split
  · rfl
  · rename_i hn
    rw [if_neg hn] at h
    exact unp_err n l [] h

theorem ev_c_end (l : List S33) (hb : byteS l) (hl : l.length ≤ 500) (more : Int) (hm : -128 ≤ more ∧ more < 128) (i : Nat) (hi : i = l.length) : Ev (fun k => platenlaw12_RunsCounts.l0 k l more (tot l) (fineB l) (i : Int)) true := by
  have ht := tot_bd l hb
  have hw : wrap64 more = more := by unfold wrap64; omega
  have hw2 : wrap64 (tot l + more) = tot l + more := by unfold wrap64; omega
  have hu := ev_unpack (tot l) l hb (by omega) (by omega)
  have hu2 := ev_unpack (tot l + more) l hb (by omega) (by omega)
  have hz : (((unpF (tot l + more) l).2 == 0) == (fineB l && (more == 0))) = true := by
    by_cases hf : fineB l = true
    · rw [hf, Bool.true_and]
      by_cases h0 : more = 0
      · subst h0
        rw [Int.add_zero, (unpF_fine l hb hf).1]; rfl
      · have : ¬ (unpF (tot l + more) l).2 = 0 := fun h => by have := (unpF_conv l hb _ h).2; omega
        rw [beq_eq_false_iff_ne.2 this, beq_eq_false_iff_ne.2 h0]; rfl
    · have hf' : fineB l = false := by simpa using hf
      have : ¬ (unpF (tot l + more) l).2 = 0 := fun h => hf (unpF_conv l hb _ h).1
      rw [hf', Bool.false_and, beq_eq_false_iff_ne.2 this]; rfl
  have hend : Ev (fun k => (platenlaw12_works.f k).bind fun t => some t) true := Ev.bind ev_works (Ev.now true)
  by_cases hf : fineB l = true
  · obtain ⟨g1, g2⟩ := unpF_fine l hb hf
    rw [hf, Bool.true_and] at hz
    have hj1 : Ev (fun k => platenlaw12_RunsCounts.j1 k l more (tot l) true false) true := by
      refine Ev.step (f := fun k => (runs_Unpack.f k l (tot l + more)).bind fun bt248 => (if ((bt248.2 == 0) == (more == 0)) = true then ((platenlaw12_works.f k).bind fun t252 => (some t252)) else (some false))) (fun k => ?_) (Ev.bind hu2 (Ev.congr (fun k => by rw [if_pos hz]) hend))
      simp only [platenlaw12_RunsCounts.j1]
      rw [if_neg (by decide), hw, hw2]
      rfl
    rw [hf]
    refine Ev.step (f := fun k => (runs_Unpack.f k l (tot l)).bind fun bt244 => (if bt244.2 = 0 then (platenlaw12_RunsCounts.j1 k l more (tot l) true ((bt244.1.length : Int) != tot l)) else (platenlaw12_RunsCounts.j1 k l more (tot l) true true))) (fun k => ?_) (Ev.bind hu (Ev.congr (fun k => by rw [if_pos g1, g2, bne_self_eq_false]) hj1))
    simp only [platenlaw12_RunsCounts.l0]
    rw [if_neg (by omega)]
    rfl
  · have hf' : fineB l = false := by simpa using hf
    have g1 : ¬ (unpF (tot l) l).2 = 0 := fun h => hf (unpF_conv l hb _ h).1
    have g2 := unpF_err (tot l) l g1
    rw [hf', Bool.false_and] at hz
    have hj2 : Ev (fun k => platenlaw12_RunsCounts.j2 k l more (tot l) false false) true := by
      refine Ev.step (f := fun k => (runs_Unpack.f k l (tot l + more)).bind fun bt248 => (if ((bt248.2 == 0) == false) = true then ((platenlaw12_works.f k).bind fun t252 => (some t252)) else (some false))) (fun k => ?_) (Ev.bind hu2 (Ev.congr (fun k => by rw [if_pos hz]) hend))
      simp only [platenlaw12_RunsCounts.j2]
      rw [if_neg (by decide), hw, hw2]
      rfl
    rw [hf']
    refine Ev.step (f := fun k => (runs_Unpack.f k l (tot l)).bind fun bt244 => (if bt244.2 = 0 then (platenlaw12_RunsCounts.j2 k l more (tot l) false true) else (platenlaw12_RunsCounts.j2 k l more (tot l) false ((bt244.1.length : Int) != 0)))) (fun k => ?_) (Ev.bind hu (Ev.congr (fun k => by rw [if_neg g1, g2]; rfl) hj2))
    simp only [platenlaw12_RunsCounts.l0]
    rw [if_neg (by omega)]
    rfl
theorem take_snocS (l : List S33) (i : Nat) (h : i < l.length) : l.take (i + 1) = l.take i ++ [rd_T33 l (i : Int)] := by
  rw [List.take_succ_eq_append_getElem h]
  simp [rd_T33, List.getD_eq_getElem?_getD, h]
theorem ev_c_l0 (l : List S33) (hb : byteS l) (hl : l.length ≤ 500) (more : Int) (hm : -128 ≤ more ∧ more < 128) : ∀ (d i : Nat), i + d = l.length → Ev (fun k => platenlaw12_RunsCounts.l0 k l more (tot (l.take i)) (fineB (l.take i)) (i : Int)) true := by
  intro d
  induction d with
  | zero => intro i hi; have := ev_c_end l hb hl more hm i (by omega); rwa [List.take_of_length_le (show l.length ≤ i by omega)]
  | succ d ih =>
    intro i hi
    have hil : i < l.length := by omega
    have hx := hb _ (mem_at l i hil)
    have hbd := tm_bd hx
    have hti := tot_bd (l.take i) (fun x hx => hb x (List.mem_of_mem_take hx))
    rw [List.length_take] at hti
    have h1 := ih (i + 1) (by omega)
    rw [take_snocS l i hil, tot_app] at h1
    obtain ⟨x, hxx⟩ : ∃ x, rd_T33 l (i : Int) = x := ⟨_, rfl⟩
    rw [hxx] at hx hbd h1
    have hf := times_f hx
    have ew : wrap64 (tot (l.take i) + (timesI x.f0 x.f1).1) = tot (l.take i) + tot [x] := by simp only [tot, tm] at *; unfold wrap64; omega
    have hng : ¬ (timesI x.f0 x.f1).1 < 0 := by have : (tm x).1 = (timesI x.f0 x.f1).1 := rfl; omega
    have hng2 : ¬ (timesI x.f0 x.f1).1 > 138 := by have : (tm x).1 = (timesI x.f0 x.f1).1 := rfl; omega
    refine Ev.step (fun k => ?_) h1
    simp only [platenlaw12_RunsCounts.l0]
    rw [if_pos (by omega), if_pos (by omega), hxx, hf, Option.bind_some]
    simp only [if_neg hng, if_neg hng2]
    rw [ew, nat_w i (by omega)]
    by_cases hi0 : i = 0
    · subst hi0
      rw [List.take_zero, List.nil_append, fine_one]
      rw [if_pos (by rfl)]
      by_cases h2 : (timesI x.f0 x.f1).2 = true
      · rw [if_pos h2, if_pos (by rfl), show (tm x).2 = true from h2, Bool.true_and]
      · rw [if_neg h2, show (tm x).2 = false by simpa using h2, Bool.false_and]
    · rw [fine_snoc _ _ (by intro h; have h5 := congrArg List.length h; rw [List.length_take, List.length_nil] at h5; omega)]
      by_cases h3 : fineB (l.take i) = true
      · rw [if_pos h3, h3, Bool.true_and]
        by_cases h2 : (timesI x.f0 x.f1).2 = true
        · rw [if_pos h2, if_neg (by omega), show (tm x).2 = true from h2]; rfl
        · rw [if_neg h2, show (tm x).2 = false by simpa using h2]
      · rw [if_neg h3, show fineB (l.take i) = false by simpa using h3, Bool.false_and]
theorem RunsCounts (l : List S33) (hb : byteS l) (more : Int) (hm : -128 ≤ more ∧ more < 128) : ∃ k, platenlaw12_RunsCounts.f k l more = some true := by
  refine Ev.rounds (r := true) ?_
  by_cases h : l.length ≤ 500
  · refine Ev.congr (f := fun k => platenlaw12_RunsCounts.l0 k l more 0 true 0) (fun k => ?_) (ev_c_l0 l hb h more hm l.length 0 (by omega))
    unfold platenlaw12_RunsCounts.f platenlaw12_heavy.f
    rw [if_neg (by simp), Option.bind_some, if_neg (by simp; omega)]
  · refine Ev.congr (f := fun k => (platenlaw12_works.f k).bind fun t => some t) (fun k => ?_) (Ev.bind ev_works (Ev.now true))
    unfold platenlaw12_RunsCounts.f platenlaw12_heavy.f
    rw [if_neg (by simp), Option.bind_some, if_pos (by simp; omega)]
end Go.Proofs.Ytkoohabljjbliaa.Pure
