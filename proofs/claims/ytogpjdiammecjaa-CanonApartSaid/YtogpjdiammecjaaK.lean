/-
  Rows of cells, texts as numbers, slices that are made: small laws for the walks (of no program).
-/
import Derived.WalkKit
import Derived.Laws.IdiomStrings
import Derived.Lib.Hide
import Derived.Deep.MidRow
set_option linter.unusedSimpArgs false
set_option linter.unusedVariables false
namespace Go.Proofs.Ytogpjdiammecjaa
open Go.RowKit

/-- a text's bytes as numbers -/
def byteL (s : ByteArray) : List Nat := s.data.toList.map (·.toNat)
theorem byteL_length (s : ByteArray) : (byteL s).length = s.size := by simp [byteL]
theorem byteL_lt (s : ByteArray) : ∀ x ∈ byteL s, x < 256 := by
  intro x hx
  simp only [byteL, List.mem_map] at hx
  obtain ⟨y, _, rfl⟩ := hx
  exact y.toNat_lt
theorem byteL_append (s t : ByteArray) : byteL (s ++ t) = byteL s ++ byteL t := by simp [byteL]
/-- the text of numbers -/
def textOf (L : List Nat) : ByteArray := ⟨(L.map UInt8.ofNat).toArray⟩
theorem byteL_textOf (L : List Nat) (h : ∀ x ∈ L, x < 256) : byteL (textOf L) = L := by
  simp only [byteL, textOf, List.map_map]
  have : ∀ x ∈ L, ((fun u : UInt8 => u.toNat) ∘ UInt8.ofNat) x = x := fun x hx => by
    have := h x hx
    simp [Nat.mod_eq_of_lt this]
  rw [List.map_congr_left this]
  simp
theorem textOf_size (L : List Nat) : (textOf L).size = L.length := by simp [textOf, ByteArray.size]
theorem byteL_inj {s t : ByteArray} (h : byteL s = byteL t) : s = t := by
  apply ByteArray.ext
  apply Array.ext'
  have hi : ∀ (l m : List UInt8), l.map (·.toNat) = m.map (·.toNat) → l = m := by
    intro l
    induction l with
    | nil => intro m hm; cases m with | nil => rfl | cons _ _ => simp at hm
    | cons a l ih =>
      intro m hm
      cases m with
      | nil => simp at hm
      | cons b m =>
        simp only [List.map_cons, List.cons.injEq] at hm
        rw [ih m hm.2, UInt8.toNat_inj.1 hm.1]
  exact hi _ _ h
theorem textOf_byteL (s : ByteArray) : textOf (byteL s) = s := byteL_inj (byteL_textOf _ (byteL_lt s))

/-- one call behind the other -/
theorem bt {a b c : World} (h : Below a.heap.size a b) (k : Below b.heap.size b c) : Below a.heap.size a c := h.trans (k.mono h.size)

/-- the cells 'vs' lie at the head of block B, and may be written -/
structure RowAt (w : World) (B : Nat) (vs : List Value) : Prop where
  cell : ∀ j v, vs[j]? = some v → w.cell? ⟨B, j, none⟩ = some v
  free : ∀ j, j < vs.length → w.frozen? ⟨B, j, none⟩ = false
theorem RowAt.lt {w : World} {B : Nat} {vs : List Value} (h : RowAt w B vs) (hv : 0 < vs.length) : B < w.heap.size :=
  World.block_lt_of_cell? w _ (h.cell 0 vs[0] (by simp [hv]))
theorem RowAt.below {w w' : World} {B N : Nat} {vs : List Value} (h : RowAt w B vs) (hb : Below N w w') (hB : B < N) : RowAt w' B vs :=
  ⟨fun j v hj => (hb.cell (p := ⟨B, j, none⟩) hB).trans (h.cell j v hj), fun j hj => (hb.frozen (p := ⟨B, j, none⟩) hB).trans (h.free j hj)⟩
theorem RowAt.drew {w : World} {B : Nat} {vs : List Value} (h : RowAt w B vs) : RowAt w.drew B vs := ⟨h.cell, h.free⟩
theorem RowAt.set {w : World} {B : Nat} {vs : List Value} (h : RowAt w B vs) (k : Nat) (v : Value) (hk : k < vs.length) : RowAt (w.setCell ⟨B, k, none⟩ v) B (vs.set k v) := by
  refine ⟨fun j u hj => ?_, fun j hj => ?_⟩
  · by_cases e : k = j
    · subst e
      rw [List.getElem?_set_self hk, Option.some.injEq] at hj
      subst hj
      exact World.cell?_setCell_same _ _ _ (h.cell k vs[k] (by simp [hk]))
    · rw [List.getElem?_set_ne e] at hj
      rw [World.cell?_setCell_other _ _ _ _ (fun he => e (by injection he))]
      exact h.cell j u hj
  · rw [World.frozen?_setCell]
    exact h.free j (by simpa using hj)
theorem RowAt.other {w : World} {B : Nat} {vs : List Value} (h : RowAt w B vs) (a : Addr) (v : Value) (ha : a.block ≠ B) : RowAt (w.setCell a v) B vs := by
  refine ⟨fun j u hj => ?_, fun j hj => ?_⟩
  · rw [World.cell?_setCell_other _ _ _ _ (fun he => ha (by rw [he]))]
    exact h.cell j u hj
  · rw [World.frozen?_setCell]
    exact h.free j hj
theorem RowAt.alloc {w : World} {B : Nat} {vs : List Value} (h : RowAt w B vs) (hB : B < w.heap.size) (o : Obj) : RowAt (w.alloc o) B vs :=
  h.below ((Below.refl w.heap.size w).alloc (Nat.le_refl _) o) hB
theorem RowAt.new (w : World) (vs : List Value) (t : TypeId) : RowAt (w.alloc (.cells vs.toArray t)) w.heap.size vs := by
  refine ⟨fun j v hj => ?_, fun j hj => ?_⟩
  · rw [World.cell?_alloc_new]; simpa using hj
  · rw [World.frozen?_alloc_new]

/-- numbers as cells -/
def numsV (k : IntKind) (L : List Nat) : List Value := L.map fun n => .int k (n : Nat)
theorem numsV_length (k : IntKind) (L : List Nat) : (numsV k L).length = L.length := by simp [numsV]
theorem numsV_get {k : IntKind} {L : List Nat} {j n : Nat} (h : L[j]? = some n) : (numsV k L)[j]? = some (.int k (n : Nat)) := by simp [numsV, h]
theorem numsV_set (k : IntKind) (L : List Nat) (j n : Nat) : (numsV k L).set j (.int k (n : Nat)) = numsV k (L.set j n) := by
  simp only [numsV, List.map_set]

/-- '[]byte(s)': a new row that holds the bytes. -/
theorem row_of_string {P : Program} (src dst e : TypeId) (s : ByteArray) (hs : P.underlying src = some .string) (hd : P.underlying dst = some (.slice e)) (he : P.underlying e = some (.int .u8)) (w : World) :
    ∃ w1 cap, (convert src dst (.string s)).run P w = .ok (.slice (some ⟨w.heap.size, 0, none⟩) s.size cap) w1 ∧ Below w.heap.size w w1 ∧ w1.heap.size = w.heap.size + 1 ∧ RowAt w1 w.heap.size (numsV .u8 (byteL s)) ∧ s.size ≤ cap := by
  have hr : ∀ (j : Nat) (v : Value), (numsV .u8 (byteL s))[j]? = some v → (bytesRow s (grownCap w s.size 0 e))[j]? = some v := by
    intro j v hj
    have hlt : j < s.data.size := by
      have := (List.getElem?_eq_some_iff.1 hj).1
      simpa [numsV, byteL] using this
    simp only [numsV, byteL, List.getElem?_map, Array.getElem?_toList, Array.getElem?_eq_getElem hlt, Option.map_some, Option.some.injEq] at hj
    subst hj
    simp [bytesRow, Array.getElem?_append, show j < s.size from hlt]
  have hsz : (byteL s).length ≤ (bytesRow s (grownCap w s.size 0 e)).size := by
    rw [byteL_length]
    simp [bytesRow]
  have hcap : s.size ≤ grownCap w s.size 0 e := by
    show s.size ≤ s.size + _
    omega
  refine ⟨_, _, run_bytes_of_string w src dst e s hs hd he, (Below.refl _ _).drew.alloc (Nat.le_refl _) _, by simp, ?_, hcap⟩
  generalize bytesRow s (grownCap w s.size 0 e) = R at hr hsz
  refine RowAt.mk (fun j v hj => ?_) (fun j hj => ?_)
  · show (match (w.heap.push (Obj.cells R e (R.size, R.size + 1)))[w.heap.size]? with | some (.cells c _ _) => _ | _ => none) = _
    simp [hr j v hj]
  · rw [numsV_length] at hj
    show (match (w.heap.push (Obj.cells R e (R.size, R.size + 1)))[w.heap.size]? with | some (.cells _ _ (lo, hi)) => _ | _ => false) = _
    simp
    omega

/-- 'string(b)' of a row of bytes. -/
theorem string_of_row {P : Program} (src dst e : TypeId) (hs : P.underlying src = some (.slice e)) (he : P.underlying e = some (.int .u8)) (hd : P.underlying dst = some .string) {w : World} {B off : Nat} (cap n : Nat) (L : List Nat)
    (hL : ∀ x ∈ L, x < 256) (hn : n = L.length) (hr : ∀ j m, L[j]? = some m → w.cell? ⟨B, off + j, none⟩ = some (.int .u8 (m : Nat))) :
    (convert src dst (.slice (some ⟨B, off, none⟩) n cap)).run P w = .ok (.string (textOf L)) w := by
  have h := run_convert_bytes_back (P := P) w src dst e ⟨B, off, none⟩ cap (L.map UInt8.ofNat) hs he hd (fun j hj => by
    have hj' : j < L.length := by simpa using hj
    rw [Addr.add_mid, hr j L[j] (by simp [hj'])]
    have := hL _ (List.getElem_mem hj')
    simp [Nat.mod_eq_of_lt this])
  subst hn
  simpa [textOf] using h

/-- 'make([]T, n)' of one-cell elements: a new row of n zeros. -/
theorem make_row {P : Program} (t e : TypeId) (z : Value) (bytes : Nat) (ht : P.underlying t = some (.slice e)) (he : (P.info? e).map (fun i => (i.zero, i.size, i.bytes)) = some (some z, 1, bytes))
    (hz : z.cells = #[z]) (n : Nat) (h1 : bytes * n ≤ 281474976710656) (h2 : n ≤ 9223372036854775807) (w : World) :
    (Instr.makeSlice t (.int .i64 (n : Nat)) (.int .i64 (n : Nat))).run P w = .ok (.slice (some ⟨w.heap.size, 0, none⟩) n n) (w.alloc (.cells (List.replicate n z).toArray e)) := by
  obtain ⟨i0, hi, hz0, hz1, hz2⟩ := info_parts he
  have h := run_make (P := P) w t e i0 z ht hi hz0 .i64 .i64 (n : Int) (n : Int) (by omega) (Int.le_refl _) (by rw [hz2, show (bytes : Int) * (n : Int) = ((bytes * n : Nat) : Int) from (Int.natCast_mul _ _).symm]; omega) (by omega)
  have e1 : ((n : Int)).toNat = n := by simp
  rw [e1] at h
  have e2 : madeCells #[z] n = (List.replicate n z).toArray := by
    apply Array.ext_getElem?
    intro j
    unfold madeCells
    by_cases hj : j < n
    · simp [hj, Nat.mod_one]
    · simp [hj]
  rw [hz1, hz, Nat.mul_one, e2] at h
  exact h
end Go.Proofs.Ytogpjdiammecjaa
