-- WRITTEN BY A PROGRAM of this repo (wip/tools/given.py), which drives the kit's print over functions that are given by hand. Lean checks it.
import Derived.Test.YtkoohabljjbliaaPCx0
namespace Go.Proofs.Ytkoohabljjbliaa.PC
open Go.RowKit Go.Proofs.YtkoohabljjbliaaW.PrintWords Go.Proofs.YtkoohabljjbliaaW.PrintLast Go.Proofs.YtkoohabljjbliaaW.PrintMore
attribute [local go_sem] max2_int min2_int max_two min_two max_three min_three max_four min_four   -- for this text's walks alone
set_option linter.unusedVariables false
set_option linter.unusedSimpArgs false


/-! ### runs_Pack: function 8, given by hand -/

/-- the runs of lengths, as the print tells them -/
def toldS (l : List Int) : List S33 := (toldL l).map fun p => (⟨p.1, p.2⟩ : S33)
def runs_Pack.f (l0 : List Int) : Option (List S33 × Int) := if l0.length ≤ 2000 then (if l0.all (fun x => decide (x ≤ 15)) = true then some (toldS l0, 0) else some ([], 2)) else none
theorem cellsR_piece : ∀ (L : List (Int × Int)) (j : Nat) (p : Int × Int), L[j]? = some p → ((cellsR L).drop (j * 2)).take 2 = [.int .u8 p.1, .int .u8 p.2]
  | q :: r, 0, p, h => by simp at h; subst h; rfl
  | q :: r, j + 1, p, h => by
    have := cellsR_piece r j p (by simpa using h)
    rw [show (j + 1) * 2 = j * 2 + 1 + 1 by omega]
    simpa [cellsR] using this
theorem told_row {w : World} {base : Nat} {v : Value} {L : List (Int × Int)} (h : w.ownsRow base 33 2 v L.length (cellsR L)) : Kd.R k33 33 w base (fun _ => True) v (L.map fun p => (⟨p.1, p.2⟩ : S33)) := by
  refine ⟨fun _ _ => trivial, cellsR L, by rw [List.length_map]; exact h, by rw [List.length_map]; exact h.1, fun j p hj => ?_⟩
  simp only [List.getElem?_map, Option.map_eq_some_iff] at hj
  obtain ⟨q, hq, rfl⟩ := hj
  have := cellsR_piece L j q hq
  exact this ▸ k33_mkM _ _ _ _
theorem runs_Pack.calls (A0 : Option Addr) (c0 : Nat) (l0 : List Int) (r1 : List (S33)) (r2 : Int) (w : World) (hr0 : Kd.C (Kd.int .u8) w A0 l0.length l0) (hc0 : l0.length ≤ c0) (h : runs_Pack.f l0 = some (r1, r2)) :
    Calls Try.prog 8 #[.slice A0 l0.length c0] w fun e w' => ∃ v0_ : Value, e = .returned (.tuple #[v0_, .int .i64 r2]) ∧ Kd.R k33 33 w' w.heap.size (fun _ => True) v0_ r1 ∧ Below w.heap.size w w' := by
  unfold runs_Pack.f at h
  by_cases hl : l0.length ≤ 2000
  · rw [if_pos hl] at h
    by_cases h15 : l0.all (fun x => decide (x ≤ 15)) = true
    · rw [if_pos h15] at h
      obtain ⟨rfl, rfl⟩ := Prod.mk.inj (Option.some.inj h)
      refine (pack_ok l0 A0 c0 w (Kd.reads_of_C hr0) hl hc0 (by simpa using h15)).mono ?_
      rintro e w' ⟨v, rfl, hR, hb⟩
      exact ⟨v, rfl, told_row hR, hb⟩
    · rw [if_neg h15] at h
      obtain ⟨rfl, rfl⟩ := Prod.mk.inj (Option.some.inj h)
      refine (pack_bad l0 A0 c0 w (Kd.reads_of_C hr0) (by omega) (by simpa using h15)).mono ?_
      rintro e w' ⟨rfl, hb⟩
      exact ⟨_, rfl, Kd.R_nil _ _ _ _ _, hb⟩
  · rw [if_neg hl] at h; cases h


end Go.Proofs.Ytkoohabljjbliaa.PC
