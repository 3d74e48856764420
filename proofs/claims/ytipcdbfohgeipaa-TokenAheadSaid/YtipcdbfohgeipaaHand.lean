/-
  Token: what 'May' comes to (a contract, by hand).
-/
import Derived.Test.YtipcdbfohgeipaaProg
import Derived.Test.YtipcdbfohgeipaaK
import Derived.Test.YtipcdbfohgeipaaT
import Derived.Deep.LoopGhost
import Derived.Deep.WholeRow
import Derived.Laws.Rows
import Derived.WalkLawsBesides
import Derived.Outline
import Derived.KernelRfl
import Derived.Lib.Hide
set_option linter.unusedSimpArgs false
set_option linter.unusedVariables false
namespace Go.Proofs.Ytipcdbfohgeipaa
open Go.RowKit

/-- may a token be? -/
def mayI (a n d : Int) : Bool := if n = 0 then d == 0 else decide (3 ≤ n) && decide (n ≤ 258) && decide (1 ≤ d) && decide (d ≤ 32768) && a == 0
theorem new3 (w : World) (u v x : Value) (t : TypeId) : (w.alloc (.cells #[u, v, x] t)).cell? ⟨w.heap.size, 0, none⟩ = some u ∧ (w.alloc (.cells #[u, v, x] t)).cell? ⟨w.heap.size, 1, none⟩ = some v ∧ (w.alloc (.cells #[u, v, x] t)).cell? ⟨w.heap.size, 2, none⟩ = some x := by
  have h : (w.alloc (.cells #[u, v, x] t)).heap[w.heap.size]? = some (.cells #[u, v, x] t (0, 0)) := heap_alloc_last w _
  refine ⟨?_, ?_, ?_⟩ <;> (unfold World.cell?; rw [h]; rfl)
theorem may_any (a n d : Int) (w : World) : Calls Try.prog 10 #[.agg #[.int .u8 a, .int .i64 n, .int .i64 d]] w fun e w' => e = .returned (.bool (mayI a n d)) ∧ Below w.heap.size w w' := by
  unfold mayI
  by_cases h0 : n = 0
  · subst h0
    rw [if_pos rfl]
    go_enter Try.func10, Try.ntmps10
    obtain ⟨q0, q1, q2⟩ := new3 w (.int .u8 a) (.int .i64 0) (.int .i64 d) 24
    go_wp2_with fail
    go_ret
    exact ⟨rfl, (Below.refl _ w).alloc (Nat.le_refl _) _⟩
  · rw [if_neg h0]
    go_enter Try.func10, Try.ntmps10
    obtain ⟨q0, q1, q2⟩ := new3 w (.int .u8 a) (.int .i64 n) (.int .i64 d) 24
    cases h1 : decide (3 ≤ n) with
    | false => 
      go_wp2_with fail
      go_ret
      exact ⟨rfl, (Below.refl _ w).alloc (Nat.le_refl _) _⟩
    | true =>
      cases h2 : decide (n ≤ 258) with
      | false =>
        go_wp2_with fail
        go_ret
        exact ⟨rfl, (Below.refl _ w).alloc (Nat.le_refl _) _⟩
      | true =>
        cases h3 : decide (1 ≤ d) with
        | false =>
          go_wp2_with fail
          go_ret
          exact ⟨rfl, (Below.refl _ w).alloc (Nat.le_refl _) _⟩
        | true =>
          cases h4 : decide (d ≤ 32768) with
          | false =>
            go_wp2_with fail
            go_ret
            exact ⟨rfl, (Below.refl _ w).alloc (Nat.le_refl _) _⟩
          | true =>
            go_wp2_with fail
            go_ret
            exact ⟨rfl, (Below.refl _ w).alloc (Nat.le_refl _) _⟩
end Go.Proofs.Ytipcdbfohgeipaa
