-- WRITTEN BY A PROGRAM of this repo (wip/tools/given.py), which drives the kit's print over functions that are given by hand. Lean checks it.
import Derived.Test.YtogpjdiammecjaaPCx0
import Derived.Test.YtogpjdiammecjaaPCx3
namespace Go.Proofs.Ytogpjdiammecjaa.PC
open Go.RowKit Go.Proofs.YtogpjdiammecjaaW.PrintWords Go.Proofs.YtogpjdiammecjaaW.PrintLast Go.Proofs.YtogpjdiammecjaaW.PrintMore
attribute [local go_sem] max2_int min2_int max_two min_two max_three min_three max_four min_four   -- for this text's walks alone
set_option linter.unusedVariables false
set_option linter.unusedSimpArgs false


/-! ### canon_Codes: function 9, given by hand -/

def codesS (l : List Int) : List S31 := (codesK l l.length).map fun p => (⟨(p.1 : Int), (p.2 : Int)⟩ : S31)
def canon_Codes.f (l0 : List Int) : Option (List S31 × Int) := if okL l0 = true then (if kindI l0 = 5 then some ([], 2) else if kindI l0 = 4 then some ([], 7) else some (codesS l0, 0)) else none
theorem cellsC_piece : ∀ (P : List (Nat × Nat)) (j : Nat) (p : Nat × Nat), P[j]? = some p → ((cellsC P).drop (j * 2)).take 2 = [.int .u32 (p.1 : Nat), .int .u8 (p.2 : Nat)]
  | q :: r, 0, p, h => by simp at h; subst h; rfl
  | q :: r, j + 1, p, h => by
    have := cellsC_piece r j p (by simpa using h)
    rw [show (j + 1) * 2 = j * 2 + 1 + 1 by omega]
    simpa [cellsC] using this
theorem codes_row {w : World} {B base : Nat} {P : List (Nat × Nat)} (hB : base ≤ B) (h : w.heap[B]? = some (.cells (cellsC P).toArray 31 (0, 0))) (hP : P.length ≤ 1000) :
    Kd.R k31 31 w base (fun _ => True) (.slice (some ⟨B, 0, none⟩) P.length P.length) (P.map fun p => (⟨(p.1 : Int), (p.2 : Int)⟩ : S31)) := by
  refine ⟨fun _ _ => trivial, cellsC P, ⟨by rw [cellsC_length]; simp; rfl, .inr ⟨B, P.length, (cellsC P).toArray, by simp, hB, h, by simp, by unfold maxLen; omega, by simp [cellsC_length]; rfl, by simp [List.take_of_length_le, cellsC_length]; exact List.take_of_length_le (by rw [cellsC_length]; exact Nat.le_refl _)⟩⟩, by rw [cellsC_length]; simp; rfl, fun j p hj => ?_⟩
  simp only [List.getElem?_map, Option.map_eq_some_iff] at hj
  obtain ⟨q, hq, rfl⟩ := hj
  have := cellsC_piece P j q hq
  exact this ▸ k31_mkM _ _ _ _
theorem canon_Codes.calls (A0 : Option Addr) (c0 : Nat) (l0 : List Int) (r1 : List (S31)) (r2 : Int) (w : World) (hr0 : Kd.C (Kd.int .u8) w A0 l0.length l0) (hc0 : l0.length ≤ c0) (h : canon_Codes.f l0 = some (r1, r2)) :
    Calls Try.prog 9 #[.slice A0 l0.length c0] w fun e w' => ∃ v0_ : Value, e = .returned (.tuple #[v0_, .int .i64 r2]) ∧ Kd.R k31 31 w' w.heap.size (fun _ => True) v0_ r1 ∧ Below w.heap.size w w' := by
  unfold canon_Codes.f at h
  cases hk : okL l0 with
  | false => rw [hk] at h; simp at h
  | true =>
    rw [hk] at h
    simp only [if_true] at h
    by_cases h5 : kindI l0 = 5
    · rw [if_pos h5] at h
      obtain ⟨rfl, rfl⟩ := Prod.mk.inj (Option.some.inj h)
      refine (codes_bad l0 A0 c0 w (Kd.reads_of_C hr0) (okL_out hk) h5).mono ?_
      rintro e w' ⟨rfl, hb⟩
      exact ⟨_, rfl, Kd.R_nil _ _ _ _ _, hb⟩
    · rw [if_neg h5] at h
      by_cases h4 : kindI l0 = 4
      · rw [if_pos h4] at h
        obtain ⟨rfl, rfl⟩ := Prod.mk.inj (Option.some.inj h)
        refine (codes_over l0 A0 c0 w (Kd.reads_of_C hr0) (okL_out hk) h4).mono ?_
        rintro e w' ⟨rfl, hb⟩
        exact ⟨_, rfl, Kd.R_nil _ _ _ _ _, hb⟩
      · rw [if_neg h4] at h
        obtain ⟨rfl, rfl⟩ := Prod.mk.inj (Option.some.inj h)
        refine (codes_ok l0 A0 c0 w (Kd.reads_of_C hr0) (okL_out hk) h5 h4).mono ?_
        rintro e w' ⟨B, hB, rfl, hC, hb⟩
        have hl := ((good_iff l0).1 (kind_of_ok l0 h5 h4).1).1
        have hR := codes_row hB hC (by rw [codesK_length]; omega)
        rw [codesK_length] at hR
        exact ⟨_, rfl, hR, hb⟩


end Go.Proofs.Ytogpjdiammecjaa.PC
