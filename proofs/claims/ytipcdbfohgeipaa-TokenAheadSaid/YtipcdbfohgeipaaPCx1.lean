-- WRITTEN BY A PROGRAM of this repo (wip/tools/given.py), which drives the kit's print over functions that are given by hand. Lean checks it.
import Derived.Test.YtipcdbfohgeipaaPCx0
namespace Go.Proofs.Ytipcdbfohgeipaa.PC
open Go.RowKit Go.Proofs.YtipcdbfohgeipaaW.PrintWords Go.Proofs.YtipcdbfohgeipaaW.PrintLast Go.Proofs.YtipcdbfohgeipaaW.PrintMore
attribute [local go_sem] max2_int min2_int max_two min_two max_three min_three max_four min_four   -- for this text's walks alone
set_option linter.unusedVariables false
set_option linter.unusedSimpArgs false


/-! ### token_Text: function 5, given by hand -/

def tk (x : S24) : Tk := ⟨x.f0, x.f1, x.f2⟩
theorem toks_of {w : World} {A : Option Addr} {l : List S24} (h : Kd.C k24 w A l.length l) : ToksAt w A (l.map tk) := by
  by_cases h0 : l = []
  · left; rw [h0]; rfl
  · have hp : 0 < l.length := List.length_pos_iff.2 h0
    obtain ⟨ad, hA, _⟩ := at_T24 h 0 (by omega) (by omega)
    refine .inr ⟨ad, hA, fun i t hi => ?_⟩
    rw [List.getElem?_map, Option.map_eq_some_iff] at hi
    obtain ⟨x, hx, rfl⟩ := hi
    have hlt := (List.getElem?_eq_some_iff.1 hx).1
    obtain ⟨ad', hA', c0, c1, c2⟩ := at_T24 h (i : Int) (by omega) (by omega)
    rw [hA] at hA'; cases hA'
    have e : rd_T24 l (i : Int) = x := by unfold rd_T24; rw [Int.toNat_natCast, List.getD_eq_getElem?_getD, hx]; rfl
    rw [e, Int.toNat_natCast] at c0 c1 c2
    exact ⟨c0, c1, c2⟩
def fit (l : List S24) : Bool := l.all fun x => decide (0 ≤ x.f0) && decide (x.f0 < 256)
theorem fit_tk {l : List S24} (h : fit l = true) : ∀ t ∈ l.map tk, 0 ≤ t.a ∧ t.a < 256 := by
  intro t ht
  obtain ⟨x, hx, rfl⟩ := List.mem_map.1 ht
  have h2 := List.all_eq_true.1 h x hx
  simp only [Bool.and_eq_true, decide_eq_true_eq] at h2
  exact h2
def token_Text.f (a0 : ByteArray) (l1 : List S24) : Option (ByteArray × Int) := if a0.size ≤ 1048576 ∧ l1.length ≤ 1000000 ∧ fit l1 = true then some (textB a0 (l1.map tk)) else none
theorem token_Text.calls (a0 : ByteArray) (A1 : Option Addr) (c1 : Nat) (l1 : List (S24)) (r1 : ByteArray) (r2 : Int) (w : World) (hr1 : Kd.C k24 w A1 l1.length l1) (hc1 : l1.length ≤ c1) (h : token_Text.f a0 l1 = some (r1, r2)) :
    Calls Try.prog 5 #[.string a0, .slice A1 l1.length c1] w fun e w' => e = .returned (.tuple #[.string r1, .int .i64 r2]) ∧ Below w.heap.size w w' := by
  unfold token_Text.f at h
  by_cases hl : a0.size ≤ 1048576 ∧ l1.length ≤ 1000000 ∧ fit l1 = true
  · rw [if_pos hl] at h
    have e := Option.some.inj h
    have hb := text_any a0 (l1.map tk) A1 c1 w hl.1 (by rw [List.length_map]; exact hl.2.1) (fit_tk hl.2.2) (toks_of hr1)
    rw [e, List.length_map] at hb
    exact hb
  · rw [if_neg hl] at h; cases h


end Go.Proofs.Ytipcdbfohgeipaa.PC
