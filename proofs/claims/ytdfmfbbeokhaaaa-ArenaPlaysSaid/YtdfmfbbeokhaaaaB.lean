/-
  'Beside X w w'': of the blocks that were there, only those of the list X may have changed.
-/
import Derived.WalkKit
set_option linter.unusedSimpArgs false
set_option linter.unusedVariables false
namespace Go.Proofs.Ytdfmfbbeokhaaaa
open Go.RowKit

structure Beside (X : List Nat) (w w' : World) : Prop where
  os : w'.os = w.os
  tape : w'.tape = w.tape
  output : w'.output = w.output
  size : w.heap.size ≤ w'.heap.size
  block : ∀ k, k < w.heap.size → k ∉ X → w'.heap[k]? = w.heap[k]?

theorem Beside.refl (X : List Nat) (w : World) : Beside X w w := ⟨rfl, rfl, rfl, Nat.le_refl _, fun _ _ _ => rfl⟩
theorem Beside.trans {X : List Nat} {a b c : World} (h : Beside X a b) (k : Beside X b c) : Beside X a c :=
  ⟨k.os.trans h.os, k.tape.trans h.tape, k.output.trans h.output, Nat.le_trans h.size k.size, fun i hi hx => (k.block i (Nat.lt_of_lt_of_le hi h.size) hx).trans (h.block i hi hx)⟩
theorem Beside.mono {X Y : List Nat} {a b : World} (h : Beside X a b) (hx : ∀ k ∈ X, k ∈ Y) : Beside Y a b :=
  ⟨h.os, h.tape, h.output, h.size, fun i hi hn => h.block i hi (fun hm => hn (hx i hm))⟩
theorem Beside.below {X : List Nat} {a b : World} (h : Below a.heap.size a b) : Beside X a b := ⟨h.os, h.tape, h.output, h.size, fun i hi _ => h.block i hi⟩
theorem Beside.drew {X : List Nat} {a b : World} (h : Beside X a b) : Beside X a b.drew := ⟨h.os, h.tape, h.output, h.size, h.block⟩
theorem Beside.alloc {X : List Nat} {a b : World} (h : Beside X a b) (o : Obj) : Beside X a (b.alloc o) :=
  h.trans (Beside.below ((Below.refl _ _).alloc (Nat.le_refl _) o))
theorem Beside.setCell {X : List Nat} {a b : World} (h : Beside X a b) {p : Addr} (hp : p.block ∈ X ∨ a.heap.size ≤ p.block) (u : Value) : Beside X a (b.setCell p u) :=
  ⟨h.os, h.tape, h.output, by rw [World.size_setCell]; exact h.size, fun i hi hx => by
    rw [Below.heap_setCell _ _ _ _ (fun e => by subst e; rcases hp with hp | hp; exact hx hp; omega)]
    exact h.block i hi hx⟩
theorem Beside.setRow {X : List Nat} {a b : World} (h : Beside X a b) {g : Nat} (hp : g ∈ X ∨ a.heap.size ≤ g) (cs : Array Value) : Beside X a (b.setRow g cs) :=
  ⟨h.os, h.tape, h.output, by rw [setRow_size]; exact h.size, fun i hi hx => by
    rw [setRow_other _ _ _ _ (fun e => by subst e; rcases hp with hp | hp; exact hx hp; omega)]
    exact h.block i hi hx⟩
/-- what was there when all of X was new is as it was -/
theorem Beside.to_below {X : List Nat} {w0 a b : World} (h0 : Below w0.heap.size w0 a) (h : Beside X a b) (hx : ∀ k ∈ X, w0.heap.size ≤ k) : Below w0.heap.size w0 b :=
  h0.trans ⟨h.os, h.tape, h.output, h.size, fun k hk => h.block k (Nat.lt_of_lt_of_le hk h0.size) (fun hm => by have := hx k hm; omega)⟩
theorem Beside.cell {X : List Nat} {a b : World} (h : Beside X a b) {p : Addr} (hp : p.block < a.heap.size) (hx : p.block ∉ X) : b.cell? p = a.cell? p := World.cell?_of_block (w := a) (h.block p.block hp hx)
theorem Beside.frozen {X : List Nat} {a b : World} (h : Beside X a b) {p : Addr} (hp : p.block < a.heap.size) (hx : p.block ∉ X) : b.frozen? p = a.frozen? p := World.frozen?_of_block (w := a) (h.block p.block hp hx)
/-- what came since may have changed as well -/
theorem Beside.thin {X Y : List Nat} {a b c : World} (h : Beside Y a b) (k : Beside X b c) (hx : ∀ i ∈ X, i ∈ Y ∨ a.heap.size ≤ i) : Beside Y a c :=
  ⟨k.os.trans h.os, k.tape.trans h.tape, k.output.trans h.output, Nat.le_trans h.size k.size, fun i hi hn =>
    (k.block i (Nat.lt_of_lt_of_le hi h.size) (fun hm => by rcases hx i hm with e | e; exact hn e; omega)).trans (h.block i hi hn)⟩
theorem row_lt {w : World} {B : Nat} {o : Obj} (h : w.heap[B]? = some o) : B < w.heap.size := (Array.getElem?_eq_some_iff.1 h).1
theorem alloc_at (w : World) (o : Obj) {k : Nat} {x : Obj} (h : w.heap[k]? = some x) : (w.alloc o).heap[k]? = some x := (Below.heap_alloc w o k (row_lt h)).trans h
end Go.Proofs.Ytdfmfbbeokhaaaa
