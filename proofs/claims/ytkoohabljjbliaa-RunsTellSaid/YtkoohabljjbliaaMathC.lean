/-
  Runs: the document's example; equal lists.
-/
import Derived.Test.YtkoohabljjbliaaMathB
import Derived.Test.YtkoohabljjbliaaPCx9
import Derived.Test.YtkoohabljjbliaaPCx15
set_option linter.unusedSimpArgs false
set_option linter.unusedVariables false
namespace Go.Proofs.Ytkoohabljjbliaa.Pure
open Go.RowKit Go.Proofs.Ytkoohabljjbliaa.PC Go.Proofs.YtkoohabljjbliaaW.PrintWords Go.Proofs.YtkoohabljjbliaaW.PrintLast

def okP (p : Int × Int) : Prop := (0 ≤ p.1 ∧ p.1 < 256) ∧ 0 ≤ p.2 ∧ p.2 < 256
theorem reps_ok (s least most : Nat) (hs : s < 256) (hm : most - least < 256) (h0 : 0 < least) (h1 : least ≤ most) : ∀ (b n : Nat), n ≤ b → ∀ p ∈ (reps s least most n).1, okP p := by
  intro b
  induction b with
  | zero => intro n hn p hp; rw [reps_lt s (by omega)] at hp; cases hp
  | succ b ih =>
    intro n hn p hp
    by_cases h : n < least
    · rw [reps_lt s h] at hp; cases hp
    · rw [reps_ge s h0 h1 (by omega)] at hp
      rcases List.mem_cons.1 hp with rfl | hp
      · unfold okP; dsimp only; omega
      · exact ih (n - min n most) (by omega) p hp
theorem rep_ok (v : Int) (h : 0 ≤ v ∧ v ≤ 15) (m : Nat) : ∀ p ∈ List.replicate m ((v, 0) : Int × Int), okP p := by
  intro p hp
  rw [List.eq_of_mem_replicate hp]
  unfold okP; dsimp only; omega
theorem one_ok (v : Int) (h : 0 ≤ v ∧ v ≤ 15) (n : Nat) : ∀ p ∈ oneL v n, okP p := by
  intro p hp
  unfold oneL at hp
  split at hp
  · rcases List.mem_append.1 hp with hp | hp
    · rcases List.mem_append.1 hp with hp | hp
      · exact reps_ok 18 11 138 (by omega) (by omega) (by omega) (by omega) _ _ (Nat.le_refl _) p hp
      · exact reps_ok 17 3 10 (by omega) (by omega) (by omega) (by omega) _ _ (Nat.le_refl _) p hp
    · exact rep_ok 0 (by omega) _ p hp
  · rcases List.mem_cons.1 hp with rfl | hp
    · unfold okP; dsimp only; omega
    · rcases List.mem_append.1 hp with hp | hp
      · exact reps_ok 16 3 6 (by omega) (by omega) (by omega) (by omega) _ _ (Nat.le_refl _) p hp
      · exact rep_ok v h _ p hp
theorem told_ok : ∀ (b : Nat) (l : List Int), l.length ≤ b → (∀ x ∈ l, 0 ≤ x ∧ x ≤ 15) → ∀ p ∈ toldL l, okP p := by
  intro b
  induction b with
  | zero => intro l hl hb p hp; obtain rfl : l = [] := List.length_eq_zero_iff.1 (by omega); simp [toldL] at hp
  | succ b ih =>
    intro l hl hb p hp
    cases l with
    | nil => simp [toldL] at hp
    | cons v r =>
      rw [told_step] at hp
      have h1 := headN_pos v r
      rcases List.mem_append.1 hp with hp | hp
      · exact one_ok v (hb v (by simp)) _ p hp
      · exact ih ((v :: r).drop (headN (v :: r))) (by rw [List.length_drop]; omega) (fun x hx => hb x (List.mem_of_mem_drop hx)) p hp
theorem told_bytes (l : List Int) (hb : ∀ x ∈ l, 0 ≤ x ∧ x ≤ 15) : byteS (toldS l) := by
  intro r hr
  obtain ⟨p, hp, rfl⟩ := List.mem_map.1 hr
  exact told_ok _ l (Nat.le_refl _) hb p hp
theorem toldS_len (l : List Int) : (toldS l).length ≤ l.length := by unfold toldS; rw [List.length_map]; exact told_len l _ (Nat.le_refl _)
theorem byteS_app {a b : List S33} (ha : byteS a) (hb : byteS b) : byteS (a ++ b) := fun r hr => (List.mem_append.1 hr).elim (ha r) (hb r)
theorem pack_f {l : List Int} (hl : l.length ≤ 2000) (hb : ∀ x ∈ l, 0 ≤ x ∧ x ≤ 15) : runs_Pack.f l = some (toldS l, 0) := by
  unfold runs_Pack.f
  rw [if_pos hl, if_pos (by simpa using fun x hx => (hb x hx).2)]

theorem ev_lens_l0 (l : List Int) (hl : l.length ≤ 1000000) : ∀ d i : Nat, i + d = l.length → Ev (fun k => platenlaw12_lens.l0 k l l (i : Int)) true := by
  intro d
  induction d with
  | zero => intro i hi; refine ev_now fun k => ?_; simp only [platenlaw12_lens.l0]; rw [if_neg (by omega)]
  | succ d ih =>
    intro i hi
    refine Ev.step (fun k => ?_) (ih (i + 1) (by omega))
    simp only [platenlaw12_lens.l0]
    rw [if_pos (by omega), if_pos (by omega), if_pos (by omega), if_pos trivial, nat_w i (by omega)]
theorem ev_lens (l : List Int) (hl : l.length ≤ 1000000) : Ev (fun k => platenlaw12_lens.f k l l) true :=
  Ev.congr (fun k => by unfold platenlaw12_lens.f; rw [if_pos rfl]; rfl) (ev_lens_l0 l hl l.length 0 (by omega))

theorem told_ex : toldS [0, 0, 0, 0, 0, 0, 0, 0, 0, 0, 0, 0, 3, 3, 3, 3, 3] = [⟨18, 1⟩, ⟨3, 0⟩, ⟨16, 1⟩] := by
  have h1 : headN [0, 0, 0, 0, 0, 0, 0, 0, 0, 0, 0, 0, 3, 3, 3, 3, 3] = 12 := by decide
  have h2 : headN [3, 3, 3, 3, 3] = 5 := by decide
  have r1 : reps 18 11 138 12 = ([(18, 1)], 0) := by rw [reps_ge 18 (by omega) (by omega) (by omega), reps_lt 18 (by omega)]; rfl
  have r2 : reps 17 3 10 0 = ([], 0) := reps_lt 17 (by omega)
  have r3 : reps 16 3 6 4 = ([(16, 1)], 0) := by rw [reps_ge 16 (by omega) (by omega) (by omega), reps_lt 16 (by omega)]; rfl
  have o1 : oneL 0 12 = [(18, 1)] := by rw [oneL_zero, r1]; dsimp only; rw [r2]; rfl
  have o2 : oneL 3 5 = [(3, 0), (16, 1)] := by rw [oneL_other (by decide)]; show (3, 0) :: ((reps 16 3 6 4).1 ++ _) = _; rw [show (5 - 1 : Nat) = 4 from rfl, r3]; rfl
  unfold toldS
  rw [told_step, h1, o1]
  show List.map _ ([(18, 1)] ++ toldL [3, 3, 3, 3, 3]) = _
  rw [told_step, h2, o2]
  show List.map _ ([(18, 1)] ++ ([(3, 0), (16, 1)] ++ toldL [])) = _
  rw [show toldL [] = [] by rw [toldL]]
  rfl
theorem ev_works : Ev (fun k => platenlaw12_works.f k) true := by
  have hp : runs_Pack.f [0, 0, 0, 0, 0, 0, 0, 0, 0, 0, 0, 0, 3, 3, 3, 3, 3] = some ([⟨18, 1⟩, ⟨3, 0⟩, ⟨16, 1⟩], 0) := by
    rw [pack_f (by decide) (by decide), told_ex]
  have hu : Ev (fun k => runs_Unpack.f k [(⟨16, 0⟩ : S33)] 3) ([], 7) := by
    have := ev_unpack 3 [(⟨16, 0⟩ : S33)] (by intro r hr; rw [List.mem_singleton.1 hr]; decide) (by decide) (by decide)
    have e : unpF 3 [(⟨16, 0⟩ : S33)] = ([], 7) := by decide
    rw [e] at this
    exact this
  refine Ev.congr (fun k => by unfold platenlaw12_works.f; rw [hp, Option.bind_some]) (Ev.bind hu ?_)
  exact Ev.congr (fun k => by rfl) (Ev.now true)
end Go.Proofs.Ytkoohabljjbliaa.Pure
