/-
  RunsTell: for every lengths, runs and number, the law answers true.
-/
import Derived.Test.YtkoohabljjbliaaPCx17
import Derived.Test.YtkoohabljjbliaaMathE
set_option linter.unusedSimpArgs false
set_option linter.unusedVariables false
namespace Go.Proofs.Ytkoohabljjbliaa.Pure
open Go.RowKit Go.Proofs.Ytkoohabljjbliaa.PC Go.Proofs.YtkoohabljjbliaaW.PrintWords Go.Proofs.YtkoohabljjbliaaW.PrintLast Go.Proofs.YtkoohabljjbliaaW.PrintMore

theorem unp_len (n : Int) : ∀ (l : List S33) (out : List Int), byteS l → (unp n out l).1.length ≤ out.length + 138 * l.length := by
  intro l
  induction l with
  | nil => intro out _; rw [unp]; split <;> simp
  | cons r l ih =>
    intro out hb
    rw [unp]
    split
    · rename_i h1
      have hbd := times_bd (hb r (by simp)).2.1 h1
      split
      · simp
      · have := ih (out ++ List.replicate (timesI r.f0 r.f1).1.toNat (valU out r.f0)) (fun x hx => hb x (by simp [hx]))
        rw [List.length_append, List.length_replicate] at this
        simp only [List.length_cons]
        omega
    · simp
theorem unpF_len (n : Int) (l : List S33) (hb : byteS l) : (unpF n l).1.length ≤ 138 * l.length := by
  unfold unpF
  split
  · simp
  · have := unp_len n l [] hb; simpa using this
def rbits (s : Int) : Int := if s < 16 then 0 else if s = 16 then 2 else if s = 17 then 3 else if s = 18 then 7 else -1
theorem rbits_f (s : Int) : platenref12_Bits.f s = some (rbits s) := by
  unfold platenref12_Bits.f rbits
  (repeat' split) <;> rfl
theorem bits_f {s : Int} (h : 0 ≤ s) : runs_Bits.f s = some (bitsI s) := by
  unfold runs_Bits.f; rw [if_pos h]
theorem bits_same (s : Int) : (bitsI s).1 = mx (rbits s) 0 ∧ (bitsI s).2 = decide (rbits s ≥ 0) := by
  unfold bitsI rbits mx
  by_cases h1 : s < 16
  · simp [h1]
  · by_cases h2 : s = 16
    · subst h2; decide
    · by_cases h3 : s = 17
      · subst h3; decide
      · by_cases h4 : s = 18
        · subst h4; decide
        · rw [if_neg h1, if_pos (by omega), if_neg h1, if_neg h2, if_neg h3, if_neg h4]; decide
theorem times_same {s x : Int} (hx : 0 ≤ x) : (timesI s x).2 = decide ((timesI s x).1 > 0) := by
  by_cases h : (timesI s x).2 = true
  · have := (times_bd hx h).1
    rw [h, decide_eq_true (by omega)]
  · have h2 := times_zero hx h
    rw [show (timesI s x).2 = false by simpa using h, h2]; rfl
theorem ev_t_l1 (l : List S33) (hb : byteS l) (hl : l.length ≤ 500) : ∀ d i : Nat, i + d = l.length → Ev (fun k => platenlaw12_RunsTell.l1 k l (i : Int)) true := by
  intro d
  induction d with
  | zero =>
    intro i hi
    refine Ev.step (f := fun k => (platenlaw12_works.f k).bind fun t184 => some t184) (fun k => ?_) (Ev.bind ev_works (Ev.now true))
    simp only [platenlaw12_RunsTell.l1]
    rw [if_neg (by omega)]
  | succ d ih =>
    intro i hi
    have hil : i < l.length := by omega
    have hx := hb _ (mem_at l i hil)
    have h1 := ih (i + 1) (by omega)
    obtain ⟨x, hxx⟩ : ∃ x, rd_T33 l (i : Int) = x := ⟨_, rfl⟩
    rw [hxx] at hx
    have ht := ev_rtimes x.f0 x.f1 hx.2
    obtain ⟨b1, b2⟩ := bits_same x.f0
    have t2 := @times_same x.f0 x.f1 hx.2.1
    refine Ev.step (f := fun k => (platenref12_Times.f k x.f0 x.f1).bind fun t192 => (if (timesI x.f0 x.f1).1 = t192 then (if ((timesI x.f0 x.f1).2 != (decide (t192 > 0))) = true then (some false) else (if (bitsI x.f0).1 = (mx (rbits x.f0) 0) then (if ((bitsI x.f0).2 != (decide (rbits x.f0 ≥ 0))) = true then (some false) else (platenlaw12_RunsTell.l1 k l (wrap64 ((i : Int) + 1)))) else (some false))) else (some false))) (fun k => ?_) (Ev.bind ht ?_)
    · simp only [platenlaw12_RunsTell.l1]
      rw [if_pos (by omega), if_pos (by omega), hxx, times_f hx, Option.bind_some, bits_f hx.1.1, Option.bind_some, rbits_f]
      rfl
    · refine Ev.congr (fun k => ?_) h1
      rw [if_pos rfl, ← t2, bne_self_eq_false, if_neg (by decide), if_pos b1, ← b2, bne_self_eq_false, if_neg (by decide), nat_w i (by omega)]
theorem ev_t_l0 (l : List S33) (hb : byteS l) (hl : l.length ≤ 500) (q : List S33) (hq : q.length ≤ 2000) : ∀ d i : Nat, i + d = q.length → Ev (fun k => platenlaw12_RunsTell.l0 k l q q (i : Int)) true := by
  intro d
  induction d with
  | zero =>
    intro i hi
    refine Ev.step (fun k => ?_) (ev_t_l1 l hb hl l.length 0 (by omega))
    simp only [platenlaw12_RunsTell.l0]
    rw [if_neg (by omega)]
    rfl
  | succ d ih =>
    intro i hi
    refine Ev.step (fun k => ?_) (ih (i + 1) (by omega))
    simp only [platenlaw12_RunsTell.l0]
    rw [if_pos (by omega), if_pos (by omega), if_pos (by omega), if_neg (by simp), nat_w i (by omega)]
theorem RunsTell (l0 : List Int) (l : List S33) (hb : byteS l) (n : Int) (hn : n < 9223372036854775808) : ∃ k, platenlaw12_RunsTell.f k l0 l n = some true := by
  refine Ev.rounds (r := true) ?_
  have hend : Ev (fun k => (platenlaw12_works.f k).bind fun t => some t) true := Ev.bind ev_works (Ev.now true)
  by_cases h : l0.length ≤ 2000
  · by_cases h2 : l.length ≤ 500
    · obtain ⟨p, hp⟩ : ∃ p : List S33 × Int, (if l0.all (fun x => decide (x ≤ 15)) = true then (toldS l0, 0) else ([], 2)) = p := ⟨_, rfl⟩
      have hpl : p.1.length ≤ 2000 := by
        rw [← hp]
        split
        · exact Nat.le_trans (toldS_len l0) h
        · simp
      have hpack : runs_Pack.f l0 = some p := by
        unfold runs_Pack.f
        rw [if_pos h, ← hp]
        split <;> rfl
      have hr := ev_rpack l0 h
      rw [hp] at hr
      have hu := ev_unpack n l hb (by omega) (by omega)
      have hru := ev_runpack n l hb (by omega) (by omega)
      have hlen := unpF_len n l hb
      obtain ⟨u, hu2⟩ : ∃ u, unpF n l = u := ⟨_, rfl⟩
      rw [hu2] at hu hru hlen
      have hlens := ev_lens u.1 (by omega)
      have hj0 : Ev (fun k => platenlaw12_RunsTell.j0 k l p.1 p.1 false) true := by
        refine Ev.step (fun k => ?_) (ev_t_l0 l hb h2 p.1 hpl p.1.length 0 (by omega))
        simp only [platenlaw12_RunsTell.j0]
        rw [if_neg (by decide)]
        rfl
      refine Ev.congr (f := fun k => (platenref12_Pack.f k l0).bind fun bt169 => ((runs_Unpack.f k l n).bind fun bt173 => ((platenref12_Unpack.f k l n).bind fun bt177 => (if (p.1.length : Int) = (bt169.1.length : Int) then (if p.2 = bt169.2 then ((platenlaw12_lens.f k bt173.1 bt177.1).bind fun t181 => (if t181 = true then (platenlaw12_RunsTell.j0 k l p.1 bt169.1 (bt173.2 != bt177.2)) else (platenlaw12_RunsTell.j0 k l p.1 bt169.1 true))) else (platenlaw12_RunsTell.j0 k l p.1 bt169.1 true)) else (platenlaw12_RunsTell.j0 k l p.1 bt169.1 true))))) (fun k => ?_) (Ev.bind hr (Ev.bind hu (Ev.bind hru ?_)))
      · unfold platenlaw12_RunsTell.f platenlaw12_heavy.f
        rw [if_neg (by omega), Option.bind_some, if_neg (by simp; omega), hpack, Option.bind_some]
      · refine Ev.congr (fun k => by rw [if_pos rfl, if_pos rfl]) (Ev.bind hlens (Ev.congr (fun k => by rw [if_pos rfl, bne_self_eq_false]) hj0))
    · refine Ev.congr (fun k => ?_) hend
      unfold platenlaw12_RunsTell.f platenlaw12_heavy.f
      rw [if_neg (by omega), Option.bind_some, if_pos (by simp; omega)]
  · refine Ev.congr (fun k => ?_) hend
    unfold platenlaw12_RunsTell.f platenlaw12_heavy.f
    rw [if_pos (by omega), Option.bind_some, if_pos rfl]
end Go.Proofs.Ytkoohabljjbliaa.Pure
