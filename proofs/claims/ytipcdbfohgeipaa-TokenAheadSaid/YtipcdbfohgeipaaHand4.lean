/-
  Token: what Text's closure 'add' comes to (a contract, by hand).
-/
import Derived.Test.YtipcdbfohgeipaaHand3
import Derived.Test.YtipcdbfohgeipaaBy
set_option linter.unusedSimpArgs false
set_option linter.unusedVariables false
namespace Go.Proofs.Ytipcdbfohgeipaa
open Go.RowKit

/-- n bytes more, each as the one that stands d ahead -/
def copyT (d : Nat) (L : List Nat) : Nat → List Nat
  | 0 => L
  | n + 1 => copyT d L n ++ [(copyT d L n).getD ((copyT d L n).length - d) 0]
theorem copyT_length (d : Nat) (L : List Nat) (n : Nat) : (copyT d L n).length = L.length + n := by
  induction n with
  | zero => rfl
  | succ n ih => simp only [copyT, List.length_append, ih, List.length_singleton]; omega
/-- one token's step: behind k bytes of a dictionary -/
def stepT (k : Nat) (L : List Nat) (t : Tk) : Int × List Nat :=
  if mayI t.a t.n t.d = false then (2, L)
  else if t.d > L.length then (7, L)
  else if (L.length : Int) - k + max t.n 1 > 1048576 then (5, L)
  else (0, if t.n = 0 then L ++ [t.a.toNat] else copyT t.d.toNat L t.n.toNat)

/-- Text's own two cells: the text as it is made, and the dictionary -/
structure Txt (W : World) (n₀ BO BD : Nat) (dict : ByteArray) (L : List Nat) : Prop where
  own : ∃ v, Boxed W BO 34 v ∧ BRow W n₀ 5 v (numsV .u8 L)
  dict : Boxed W BD 9 (.string dict)
  lt : ∀ x ∈ L, x < 256
  size : n₀ ≤ W.heap.size
/-- what a step keeps: what lay below n, and all cells but bytes' and rows' -/
structure KeepB (n : Nat) (W W' : World) : Prop where
  below : Below n W W'
  cells : ∀ (k : Nat) (cs : Array Value) (t : TypeId) (z : Nat × Nat), W.heap[k]? = some (.cells cs t z) → t ≠ 5 → t ≠ 34 → W'.heap[k]? = some (.cells cs t z)
theorem KeepB.refl (n : Nat) (W : World) : KeepB n W W := ⟨Below.refl _ _, fun _ _ _ _ h _ _ => h⟩
theorem KeepB.trans {n : Nat} {A B C : World} (h : KeepB n A B) (k : KeepB n B C) : KeepB n A C := ⟨h.below.trans k.below, fun i cs t z hi h1 h2 => k.cells i cs t z (h.cells i cs t z hi h1 h2) h1 h2⟩
theorem KeepB.of_below {n : Nat} {A B : World} (h : Below A.heap.size A B) (hn : n ≤ A.heap.size) : KeepB n A B :=
  ⟨h.mono hn, fun k cs t z hk _ _ => (h.block k (Array.getElem?_eq_some_iff.1 hk).1).trans hk⟩
theorem Txt.grown {W W' : World} {n₀ BO BD : Nat} {dict : ByteArray} {L : List Nat} (h : Txt W n₀ BO BD dict L) (hb : Below W.heap.size W W') : Txt W' n₀ BO BD dict L := by
  have hg : W.grownBy W' none := ⟨hb.os, hb.tape, hb.output, hb.size, fun k hk _ => hb.block k hk⟩
  obtain ⟨v, hv, hr⟩ := h.own
  exact ⟨⟨v, hv.kept hg (by simp), hr.below hb⟩, h.dict.kept hg (by simp), h.lt, Nat.le_trans h.size hb.size⟩
/-- one byte more -/
theorem Txt.push {W w1 : World} {n₀ BO BD : Nat} {dict : ByteArray} {L : List Nat} (h : Txt W n₀ BO BD dict L) (hB : n₀ ≤ BO) {v v' : Value} (hv : Boxed W BO 34 v) (hr : BRow W n₀ 5 v (numsV .u8 L)) {tmp : Obj}
    (hgrow : (W.alloc tmp).grownBy w1 v.ownBlock) {x : Nat} (hx : x < 256) (hown : BRow w1 n₀ 5 v' (numsV .u8 L ++ [.int .u8 (x : Nat)])) :
    Boxed w1 BO 34 v ∧ Txt (w1.setCell ⟨BO, 0, none⟩ v') n₀ BO BD dict (L ++ [x]) ∧ KeepB n₀ W (w1.setCell ⟨BO, 0, none⟩ v') := by
  have hne := hr.not_box hv (by decide)
  have hv1 : Boxed w1 BO 34 v := (hv.alloc tmp).kept hgrow hne
  have hne1 := hown.not_box hv1 (by decide)
  have hned := hr.not_box h.dict (by decide)
  have hd1 : Boxed w1 BD 9 (.string dict) := (h.dict.alloc tmp).kept hgrow hned
  have hBD : BO ≠ BD := fun e => by
    subst e
    have h1 : W.heap[BO]? = some (.cells #[v] 34 (0, 0)) := hv
    rw [show W.heap[BO]? = some (.cells #[.string dict] 9 (0, 0)) from h.dict] at h1
    cases h1
  have hs := grownBy_setCell' w1 BO v'
  have hb : ∀ k, k < W.heap.size → some k ≠ v.ownBlock → k ≠ BO → (w1.setCell ⟨BO, 0, none⟩ v').heap[k]? = W.heap[k]? := fun k hk hne hkB =>
    (Below.heap_setCell w1 _ v' k hkB).trans ((hgrow.block k (by simp; omega) hne).trans (Below.heap_alloc W tmp k hk))
  have hsz : W.heap.size ≤ w1.heap.size := by have := hgrow.size; simp at this; omega
  refine ⟨hv1, ⟨⟨v', hv1.set v', ?_⟩, hd1.kept hs (fun e => hBD (by cases e; rfl)), ?_, ?_⟩, ⟨⟨?_, ?_, ?_, ?_, ?_⟩, ?_⟩⟩
  · have e : numsV .u8 (L ++ [x]) = numsV .u8 L ++ [.int .u8 (x : Nat)] := by simp [numsV]
    rw [e]
    exact hown.kept hs hne1.symm
  · intro y hy
    rcases List.mem_append.1 hy with hy | hy
    · exact h.lt y hy
    · rw [List.mem_singleton.1 hy]; exact hx
  · rw [World.size_setCell]; exact Nat.le_trans h.size hsz
  · exact hgrow.os
  · exact hgrow.tape
  · exact hgrow.output
  · rw [World.size_setCell]; exact hsz
  · intro k hk
    refine hb k (Nat.lt_of_lt_of_le hk h.size) (fun e => ?_) (by omega)
    have := (hr.lt k e.symm).1
    omega
  · intro k cs t z hk h5 h34
    refine (hb k (Array.getElem?_eq_some_iff.1 hk).1 (fun e => ?_) (fun e => ?_)).trans hk
    · obtain ⟨g, cap, cur, fz, rfl, _, hg, _⟩ := hr
      obtain rfl : k = g := by simpa [Value.ownBlock] using e
      rw [hk] at hg; cases hg; exact h5 rfl
    · subst e
      rw [show W.heap[k]? = some (.cells #[v] 34 (0, 0)) from hv] at hk
      cases hk; exact h34 rfl
end Go.Proofs.Ytipcdbfohgeipaa
