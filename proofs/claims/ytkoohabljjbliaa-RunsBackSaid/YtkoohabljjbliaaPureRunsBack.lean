/-
  RunsBack: for every lengths and place, the law answers true.
-/
import Derived.Test.YtkoohabljjbliaaPCx18
import Derived.Test.YtkoohabljjbliaaMathC
set_option linter.unusedSimpArgs false
set_option linter.unusedVariables false
namespace Go.Proofs.Ytkoohabljjbliaa.Pure
open Go.RowKit Go.Proofs.Ytkoohabljjbliaa.PC Go.Proofs.YtkoohabljjbliaaW.PrintWords Go.Proofs.YtkoohabljjbliaaW.PrintLast

theorem unp_whole (l : List Int) (hb : ∀ x ∈ l, 0 ≤ x ∧ x ≤ 15) : unpF (l.length : Int) (toldS l) = (l, 0) := by
  unfold unpF
  rw [if_neg (by omega)]
  have := unp_told (l.length : Int) [] _ l (Nat.le_refl _) hb [] (by simp)
  rw [List.append_nil] at this
  rw [this, List.nil_append, unp, if_neg (by omega)]
theorem unp_parts (l : List Int) (c : Nat) (hb : ∀ x ∈ l, 0 ≤ x ∧ x ≤ 15) : unpF (l.length : Int) (toldS (l.take c) ++ toldS (l.drop c)) = (l, 0) := by
  unfold unpF
  rw [if_neg (by omega)]
  have h1 := unp_told (l.length : Int) (toldS (l.drop c)) _ (l.take c) (Nat.le_refl _) (fun x hx => hb x (List.mem_of_mem_take hx)) [] (by simp; omega)
  have h2 := unp_told (l.length : Int) [] _ (l.drop c) (Nat.le_refl _) (fun x hx => hb x (List.mem_of_mem_drop hx)) (l.take c) (by simp; omega)
  rw [List.append_nil] at h2
  rw [h1, List.nil_append, h2, List.take_append_drop, unp, if_neg (by omega)]
theorem ev_end (a1 : Int) (l : List Int) (hl : l.length ≤ 2000) (h0 : 0 ≤ a1) (h1 : a1 < 65536) (hb : ∀ x ∈ l, 0 ≤ x ∧ x ≤ 15) : Ev (fun k => platenlaw12_RunsBack.j1 k a1 l false) true := by
  have e1 : wrap64 a1 = a1 := by unfold wrap64; omega
  have e2 : wrap64 ((l.length : Int) + 1) = (l.length : Int) + 1 := by unfold wrap64; omega
  have e3 : Int.tmod a1 ((l.length : Int) + 1) = a1 % ((l.length : Int) + 1) := Int.tmod_eq_emod_of_nonneg h0
  have b0 := Int.emod_nonneg a1 (b := (l.length : Int) + 1) (by omega)
  have b1 := Int.emod_lt_of_pos a1 (b := (l.length : Int) + 1) (by omega)
  obtain ⟨c, hc⟩ : ∃ c : Nat, a1 % ((l.length : Int) + 1) = (c : Int) := ⟨(a1 % ((l.length : Int) + 1)).toNat, by omega⟩
  rw [hc] at e3 b1
  have hcl : c ≤ l.length := by omega
  have hbt : ∀ x ∈ l.take c, 0 ≤ x ∧ x ≤ 15 := fun x hx => hb x (List.mem_of_mem_take hx)
  have hbd : ∀ x ∈ l.drop c, 0 ≤ x ∧ x ≤ 15 := fun x hx => hb x (List.mem_of_mem_drop hx)
  have p1 := pack_f (l := l.take c) (by rw [List.length_take]; omega) hbt
  have p2 := pack_f (l := l.drop c) (by rw [List.length_drop]; omega) hbd
  have s1 := toldS_len (l.take c)
  have s2 := toldS_len (l.drop c)
  rw [List.length_take] at s1
  rw [List.length_drop] at s2
  have hu := ev_unpack (l.length : Int) (toldS (l.take c) ++ toldS (l.drop c)) (byteS_app (told_bytes _ hbt) (told_bytes _ hbd)) (by rw [List.length_append]; omega) (by omega)
  rw [unp_parts l c hb] at hu
  have hj2 : Ev (fun k => platenlaw12_RunsBack.j2 k l (toldS (l.take c)) (toldS (l.drop c)) false) true := by
    refine Ev.step (f := fun k => (runs_Unpack.f k (toldS (l.take c) ++ toldS (l.drop c)) (l.length : Int)).bind fun bt232 => (if bt232.2 = 0 then ((platenlaw12_lens.f k bt232.1 l).bind fun t236 => (if t236 = true then ((platenlaw12_works.f k).bind fun t237 => (some t237)) else (some false))) else (some false))) (fun k => ?_) (Ev.bind hu ?_)
    · simp only [platenlaw12_RunsBack.j2]
      rw [if_neg (by decide), if_pos (by simp; omega), Option.bind_some, List.nil_append, if_pos (by omega)]
    · refine Ev.congr (fun k => by dsimp only; rw [if_pos rfl]) (Ev.bind (ev_lens l (by omega)) ?_)
      exact Ev.congr (fun k => by rw [if_pos rfl]) (Ev.bind ev_works (Ev.now true))
  refine Ev.step (fun k => ?_) hj2
  simp only [platenlaw12_RunsBack.j1]
  rw [if_neg (by decide), e1, e2, e3, if_neg (by omega), if_pos (by omega), if_pos (by omega), Int.toNat_natCast, p1, Option.bind_some, p2, Option.bind_some]
  rfl
theorem ev_back (a1 : Int) (l : List Int) (hl : l.length ≤ 2000) (h0 : 0 ≤ a1) (h1 : a1 < 65536) (hb : ∀ x ∈ l, 0 ≤ x ∧ x ≤ 15) : ∀ (y : List Int) (i : Nat), i = y.length → Ev (fun k => platenlaw12_RunsBack.l0 k y a1 l (i : Int)) true := by
  intro y i hi
  have p := pack_f hl hb
  have hu := ev_unpack (l.length : Int) (toldS l) (told_bytes l hb) (Nat.le_trans (toldS_len l) (by omega)) (by omega)
  rw [unp_whole l hb] at hu
  refine Ev.step (f := fun k => (runs_Unpack.f k (toldS l) (l.length : Int)).bind fun bt205 => (if bt205.2 = 0 then ((platenlaw12_lens.f k bt205.1 l).bind fun t209 => (if t209 = true then (platenlaw12_RunsBack.j1 k a1 l (decide (((toldS l).length : Int) > (l.length : Int)))) else (platenlaw12_RunsBack.j1 k a1 l true))) else (platenlaw12_RunsBack.j1 k a1 l true))) (fun k => ?_) (Ev.bind hu ?_)
  · simp only [platenlaw12_RunsBack.l0]
    rw [if_neg (by omega), p, Option.bind_some]
    rfl
  · refine Ev.congr (fun k => by dsimp only; rw [if_pos rfl]) (Ev.bind (ev_lens l (by omega)) ?_)
    have hs := toldS_len l
    refine Ev.congr (fun k => by rw [if_pos rfl, decide_eq_false (by omega)]) (ev_end a1 l hl h0 h1 hb)
theorem tmod16 (x : Int) (h : 0 ≤ x) : 0 ≤ Int.tmod x 16 ∧ Int.tmod x 16 ≤ 15 := by
  rw [Int.tmod_eq_emod_of_nonneg h]
  omega
theorem ev_l0 (a1 : Int) (y : List Int) (hy : y.length ≤ 2000) (h0 : 0 ≤ a1) (h1 : a1 < 65536) (hby : ∀ x ∈ y, 0 ≤ x) : ∀ (d i : Nat) (l : List Int), i + d = y.length → l.length = i → (∀ x ∈ l, 0 ≤ x ∧ x ≤ 15) →
    Ev (fun k => platenlaw12_RunsBack.l0 k y a1 l (i : Int)) true := by
  intro d
  induction d with
  | zero => intro i l hi hl hb; exact ev_back a1 l (by omega) h0 h1 hb y i (by omega)
  | succ d ih =>
    intro i l hi hl hb
    have hm : rd y (i : Int) ∈ y := by simp [rd, show i < y.length by omega]
    refine Ev.step (fun k => ?_) (ih (i + 1) (l ++ [Int.tmod (rd y (i : Int)) 16]) (by omega) (by rw [List.length_append, hl]; rfl) (fun x hx => ?_))
    · simp only [platenlaw12_RunsBack.l0]
      rw [if_pos (by omega), if_pos (by omega), if_pos (by omega), nat_w i (by omega)]
    · rcases List.mem_append.1 hx with hx | hx
      · exact hb x hx
      · rw [List.mem_singleton.1 hx]; exact tmod16 _ (hby _ hm)
theorem RunsBack : platenlaw12_RunsBack.Pure := by
  intro l0 a1 hlen _ hwf hwf1
  have hb : ∀ x ∈ l0, 0 ≤ x := fun x hx => by have := hwf x hx; simp [Lit.wf, IntKind.min, IntKind.max, IntKind.signed, IntKind.bits] at this; omega
  have ha : 0 ≤ a1 ∧ a1 < 65536 := by simp [Lit.wf, IntKind.min, IntKind.max, IntKind.signed, IntKind.bits] at hwf1; omega
  refine Ev.rounds (r := true) ?_
  by_cases h : l0.length ≤ 2000
  · refine Ev.congr (f := fun k => platenlaw12_RunsBack.l0 k l0 a1 [] 0) (fun k => ?_) (ev_l0 a1 l0 h ha.1 ha.2 hb l0.length 0 [] (by omega) rfl (by simp))
    unfold platenlaw12_RunsBack.f platenlaw12_heavy.f
    rw [if_neg (by omega), Option.bind_some, if_neg (by simp)]
  · refine Ev.congr (f := fun k => (platenlaw12_works.f k).bind fun t => some t) (fun k => ?_) (Ev.bind ev_works (Ev.now true))
    unfold platenlaw12_RunsBack.f platenlaw12_heavy.f
    rw [if_pos (by omega), Option.bind_some, if_pos rfl]
end Go.Proofs.Ytkoohabljjbliaa.Pure
