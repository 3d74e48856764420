/-
  A range over a function whose iterator may write a cell of its own: the statement's law, in the walk without a fence.
-/
import Derived.RangeFuncNested
import Derived.RangeFuncBound
import Derived.RangeFuncCalls
import Derived.RangeFuncLeaves
import Derived.RangeFuncBox
import Derived.Shelf.Abstract
import Derived.WalkKit
import Derived.OwnWalkIn
import Derived.TacticsInMore
import Derived.LoopNIn
import Derived.LoopIn
import Derived.Lib.Hide
set_option linter.unusedSimpArgs false
set_option linter.unusedVariables false
namespace Go.Proofs.Ytipcdbfohgeipaa
open Go.RowKit

/-- the iterator's contract: it gives all of xs, one by one; T: a step of its own; Kp: what a round keeps -/
def Gives {α : Type} (P : Program) (g : Nat) (lb : Array Value) (encs : α → Array Value) (T Kp : World → World → Prop) (xs : List α) (N : Nat) (w : World) : Prop :=
  ∀ (l : Nat) (J : List α → World → Prop) (W : World), Below w.heap.size w W → (∀ s A B, J s A → T A B → J s B) →
    (∀ pre x W1, J pre W1 → pre.length < N → YieldAt Fence.wide 0 P l (encs x) W1 fun e W' => e = .returned (.bool true) ∧ J (pre ++ [x]) W' ∧ Kp W1 W') →
    J [] W → Calls P g (#[.func (.yield l) #[] #[]] ++ lb) W fun e W' => (∃ v, e = .returned v) ∧ J xs W'

theorem putObj_other {A : World} {l k : Nat} {o : Obj} (h : k ≠ l) : (A.putObj l o).heap[k]? = A.heap[k]? := World.putObj_heap_other h

theorem range_law {α : Type} {P : Program} {g : Operand} {ps : Array Tmp} {assign body : Code} {Q : Exit → Act → World → Prop} {a : Act} {w : World} {gf : Nat} {lb : Array Value}
    (hg : a.eval g = .func (.func gf) #[] lb) (eg : ∀ args w, (callFunc gf args).run P w = .ok (.enter gf args) w)
    {encs : α → Array Value} {T Kp : World → World → Prop} {xs : List α} {N : Nat} (hseq : Gives P gf lb encs T Kp xs N w)
    (hps : ∀ x, (encs x).size = ps.size)
    (hT : ∀ A B, T A B → ∀ (k : Nat) (o : Obj), A.heap[k]? = some o → o.isCells = false → B.heap[k]? = some o)
    (hKt : ∀ A B C, Kp A B → Kp B C → Kp A C) (hKp : ∀ (A : World) (l : Nat) (o o' : Obj), w.heap.size ≤ l → A.heap[l]? = some o → o.isCells = false → Kp A (A.putObj l o'))
    (I : List α → World → Prop) (hIT : ∀ s A B, I s A → T A B → I s B)
    (hIp : ∀ s (A : World) (l : Nat) (o o' : Obj), w.heap.size ≤ l → I s A → A.heap[l]? = some o → o.isCells = false → I s (A.putObj l o'))
    (hIa : ∀ s A o, I s A → I s (A.alloc o)) (h0 : I [] w)
    (a₁ : α → World → Act) (asg : α → World → World) (hasg1 : ∀ x W, KeepsOthers W (asg x W)) (hasg2 : ∀ x W, w.heap.size ≤ W.heap.size → Kp W (asg x W)) (hasg3 : ∀ s x W, I s W → I s (asg x W))
    (hassign : ∀ l x W K, K (a₁ x W) (asg x W) → assign.wpIn (Fence.wide.inRound l) 0 P (Exit.then K (fun _ _ _ => False)) { tmps := (ps.zip (encs x)).foldl (fun t (p, v) => t.setIfInBounds p v) a.tmps, defers := [] } W)
    (hbody : ∀ l pre x W W2, w.heap.size ≤ l → l < W.heap.size → w.heap.size ≤ W.heap.size → I pre W2 → pre.length < N → (∀ k : Nat, k ≠ l → W2.heap[k]? = (asg x W).heap[k]?) → W2.heap.size = (asg x W).heap.size →
      body.wpIn (Fence.wide.inRound l) 0 P (fun e _ W3 => e = .normal ∧ KeepsOthers W2 W3 ∧ Kp W2 W3 ∧ I (pre ++ [x]) W3) (a₁ x W) W2)
    (hdone : ∀ D W, w.heap.size ≤ D → I xs W → W.heap[D]? = some (.deferred (some [])) → Q .normal { a with defers := { target := .collected D, args := #[] } :: a.defers } W) :
    (Code.rangeFunc g ps assign body).wpIn Fence.wide 0 P Q a w := by
  refine wpIn_rangeFunc fun fn hfn => ?_
  obtain ⟨rec, hrec⟩ : ∃ rec : LoopState → Option Code → Loop, rec = fun st pe => { state := st, pending := pe, fn, tmps := a.tmps, params := ps, assign, body, defers := w.heap.size } := ⟨_, rfl⟩
  obtain ⟨W1, hW1⟩ : ∃ W1, (w.alloc (.deferred (some []))).alloc (.loop (rec .ready none)) = W1 := ⟨_, rfl⟩
  have hl1 : W1.heap[w.heap.size + 1]? = some (.loop (rec .ready none)) := by
    have := World.alloc_heap_new (w.alloc (.deferred (some []))) (.loop (rec .ready none))
    rwa [World.size_alloc, hW1] at this
  have hd1 : W1.heap[w.heap.size]? = some (.deferred (some [])) := by
    rw [← hW1]; exact (Below.heap_alloc _ _ _ (by simp)).trans (World.alloc_heap_new w _)
  have hb1 : Below w.heap.size w W1 := by
    rw [← hW1]; exact ((Below.refl _ w).alloc (Nat.le_refl _) _).alloc (by simp) _
  have hI1 : I [] W1 := by rw [← hW1]; exact hIa _ _ _ (hIa _ _ _ h0)
  refine ⟨w.heap.size + 1, [{ target := .collected w.heap.size, args := #[] }], W1, { target := .fn (.func gf) lb, args := #[.func (.yield (w.heap.size + 1)) #[] #[]] }, W1, gf,
    #[.func (.yield (w.heap.size + 1)) #[] #[]] ++ lb, W1, ?_, ?_, ?_, ?_, fun _ => ?_, ?_⟩
  · rw [← hW1, hrec]; exact run_enterLoop_outer _ _ _ _ _
  · simp only [resolve, hg]
    simp [go_sem]
  · intro _ _; exact trivial
  · simp [invoke, go_sem, eg]
  · simp_all [Fence.wide]
  · refine (callsIn_wide.2 (hseq (w.heap.size + 1)
      (fun pre W => I pre W ∧ W.heap[w.heap.size + 1]? = some (.loop (rec .ready none)) ∧ W.heap[w.heap.size]? = some (.deferred (some [])) ∧ w.heap.size ≤ W.heap.size)
      W1 hb1 (fun s A B hs ht => ?_) ?_ ⟨hI1, hl1, hd1, hb1.size⟩)).mono ?_
    · obtain ⟨hi, hl, hd, hsz⟩ := hs
      have hl' := hT A B ht _ _ hl rfl
      exact ⟨hIT s A B hi ht, hl', hT A B ht _ _ hd rfl, by have := (Array.getElem?_eq_some_iff.1 hl').1; omega⟩
    · rintro pre x W ⟨hi, hl, hd, hsz⟩ hlen
      have hlt := (Array.getElem?_eq_some_iff.1 hl).1
      have hy := run_yield (P := P) (args := encs x) hl (by rw [hrec]; simp [hps])
      rw [hrec] at hy
      have hl2 := (hasg1 x W).same _ _ hl rfl
      have hlt2 := (Array.getElem?_eq_some_iff.1 hl2).1
      refine ⟨fn, _, assign, body, hy, roundIn_of_wpIn hfn (hassign _ x W _ ⟨_, run_beginRound hl2 (by rw [hrec]), ?_⟩)⟩
      obtain ⟨W2, hW2⟩ : ∃ W2, (asg x W).putObj (w.heap.size + 1) (.loop { rec .ready none with state := .busy }) = W2 := ⟨_, rfl⟩
      have hl3 : W2.heap[w.heap.size + 1]? = some (.loop { rec .ready none with state := .busy }) := by rw [← hW2]; exact World.putObj_heap_same hlt2
      have hd3 : W2.heap[w.heap.size]? = some (.deferred (some [])) := by
        rw [← hW2]; exact (putObj_other (by omega)).trans ((hasg1 x W).same _ _ hd rfl)
      rw [hW2]
      refine wpIn_mono (hbody (w.heap.size + 1) pre x W W2 (by omega) hlt hsz (by rw [← hW2]; exact hIp _ _ _ _ _ (by omega) (hasg3 _ _ _ hi) hl2 rfl) hlen (fun k hk => by rw [← hW2]; exact putObj_other hk) (by rw [← hW2]; simp)) ?_
      rintro e a3 W3 ⟨rfl, hk3, hkp3, hi3⟩
      have hl4 := hk3.same _ _ hl3 rfl
      have hd4 := hk3.same _ _ hd3 rfl
      have hr := run_endRound (P := P) none hl4
      refine ⟨_, _, hr, rfl, ⟨hIp _ _ _ _ _ (by omega) hi3 hl4 rfl, ?_, (putObj_other (by omega)).trans hd4, by have := (Array.getElem?_eq_some_iff.1 hd4).1; simp; omega⟩, ?_⟩
      · rw [World.putObj_heap_same (Array.getElem?_eq_some_iff.1 hl4).1]
        rw [hrec]; rfl
      · refine hKt _ _ _ (hasg2 x W hsz) (hKt _ _ _ ?_ (hKt _ _ _ hkp3 (hKp _ _ _ _ (by omega) hl4 rfl)))
        rw [← hW2]; exact hKp _ _ _ _ (by omega) hl2 rfl
    · rintro e W2 ⟨⟨v, rfl⟩, hi, hl, hd, hsz⟩
      exact ⟨none, _, by have := run_endLoop (P := P) hl (by rw [hrec]; simp); rw [hrec] at this; exact this, hdone w.heap.size _ (Nat.le_refl _) (hIp _ _ _ _ _ (by omega) hi hl rfl) ((putObj_other (by omega)).trans hd)⟩

end Go.Proofs.Ytipcdbfohgeipaa
