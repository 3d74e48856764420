/-
  A []byte of the call's own, as a conversion makes it: its block may bear a mark behind its last cell.
-/
import Derived.Test.YtolkmjclldjkkaaK
import Derived.Test.YtolkmjclldjkkaaT
import Derived.Laws.AppendOwn
import Derived.ArgAppend
import Derived.RangeFuncBox
set_option linter.unusedSimpArgs false
set_option linter.unusedVariables false
namespace Go.Proofs.Ytolkmjclldjkkaa
open Go.RowKit

/-- v owns the one-cell elements xs; the block's frozen range is none, or lies behind its cells -/
def BRow (w : World) (base : Nat) (e : TypeId) (v : Value) (xs : List Value) : Prop :=
  ∃ g cap cur fz, v = .slice (some ⟨g, 0, none⟩) xs.length cap ∧ base ≤ g ∧ w.heap[g]? = some (.cells cur e fz) ∧ xs.length ≤ cap ∧ cur.size = cap ∧ (fz = (0, 0) ∨ fz = (cap, cap + 1)) ∧ cur.toList.take xs.length = xs
theorem BRow.lt {w : World} {base : Nat} {e : TypeId} {v : Value} {xs : List Value} (h : BRow w base e v xs) : ∀ k, v.ownBlock = some k → base ≤ k ∧ k < w.heap.size := by
  obtain ⟨g, cap, cur, fz, rfl, hb, hg, _⟩ := h
  intro k hk
  obtain rfl : g = k := by simpa [Value.ownBlock] using hk
  exact ⟨hb, (Array.getElem?_eq_some_iff.1 hg).1⟩
theorem BRow.form {w : World} {base : Nat} {e : TypeId} {v : Value} {xs : List Value} (h : BRow w base e v xs) : ∃ g cap, v = .slice (some ⟨g, 0, none⟩) xs.length cap ∧ xs.length ≤ cap ∧ base ≤ g := by
  obtain ⟨g, cap, cur, fz, rfl, hb, hg, hl, _⟩ := h
  exact ⟨g, cap, rfl, hl, hb⟩
theorem BRow.kept {w w' : World} {base : Nat} {e : TypeId} {v : Value} {xs : List Value} {row : Option Nat} (h : BRow w base e v xs) (hg : w.grownBy w' row) (hne : v.ownBlock ≠ row) : BRow w' base e v xs := by
  obtain ⟨g, cap, cur, fz, rfl, hb, hgg, rest⟩ := h
  exact ⟨g, cap, cur, fz, rfl, hb, (hg.block g (Array.getElem?_eq_some_iff.1 hgg).1 (by simpa [Value.ownBlock] using hne)).trans hgg, rest⟩
theorem BRow.below {w w' : World} {base : Nat} {e : TypeId} {v : Value} {xs : List Value} (h : BRow w base e v xs) (hb : Below w.heap.size w w') : BRow w' base e v xs := by
  obtain ⟨g, cap, cur, fz, rfl, hb', hgg, rest⟩ := h
  exact ⟨g, cap, cur, fz, rfl, hb', (hb.block g (Array.getElem?_eq_some_iff.1 hgg).1).trans hgg, rest⟩
theorem BRow.cell {w : World} {base : Nat} {e : TypeId} {g n cap : Nat} {xs : List Value} (h : BRow w base e (.slice (some ⟨g, 0, none⟩) n cap) xs) {j : Nat} {u : Value} (hu : xs[j]? = some u) : w.cell? ⟨g, j, none⟩ = some u := by
  obtain ⟨g', cap', cur, fz, hv, hb, hg, hl, hc, hf, ht⟩ := h
  injection hv with h1 h2 h3
  injection h1 with h1
  injection h1 with h1 _ _
  subst h1
  have hj : j < xs.length := (List.getElem?_eq_some_iff.1 hu).1
  rw [cell_of_row w g j cur e fz hg]
  rw [← ht, List.getElem?_take] at hu
  rw [if_pos hj] at hu
  simpa using hu
theorem BRow.not_box {w : World} {base : Nat} {e t : TypeId} {v u : Value} {xs : List Value} {B : Nat} (h : BRow w base e v xs) (hB : Boxed w B t u) (hte : t ≠ e) : some B ≠ v.ownBlock := by
  obtain ⟨g, cap, cur, fz, rfl, hb, hg, _⟩ := h
  intro he
  obtain rfl : B = g := by simpa [Value.ownBlock] using he
  rw [show w.heap[B]? = some (.cells #[u] t (0, 0)) from hB] at hg
  cases hg
  exact hte rfl

theorem heap_setCell_mark {w : World} {B : Nat} {cur : Array Value} {e : TypeId} {fz : Nat × Nat} (h : w.heap[B]? = some (.cells cur e fz)) (k : Nat) (u : Value) :
    (w.setCell ⟨B, k, none⟩ u).heap[B]? = some (.cells (cur.setIfInBounds k u) e fz) := by
  simp [World.setCell, Array.getElem?_modify, h]
section
variable {P : Program} (w : World)
/-- one element more -/
theorem run_append_b (base : Nat) (t ty e : TypeId) (i : TypeInfo) (z : Value) (ht : P.underlying t = some (.slice e)) (hi : P.info? e = some i) (hz : i.zero = some z)
    (hsize : i.size = 1) (hby : i.bytes = 1) (hzs : z.cells.size = 1) (v : Value) (xs : List Value) (hown : BRow w base e v xs)
    (ad : Addr) (c : Nat) (u : Value) (hnew : w.cell? ad = some u) (h1 : u.oneCell' = true) (hlen : xs.length + 1 ≤ 140737488355328) (hbase : base ≤ w.heap.size) :
    ∃ v' w', (Builtin.append_ #[t, t] ty #[v, .slice (some ad) 1 c]).run P w = .ok v' w' ∧ BRow w' base e v' (xs ++ [u]) ∧ w.grownBy w' v.ownBlock ∧ (∃ g cap, v' = .slice (some ⟨g, 0, none⟩) (xs.length + 1) cap) ∧ ∀ g n cap j, v = .slice (some ⟨g, 0, none⟩) n cap → j < xs.length → w'.cell? ⟨g, j, none⟩ = w.cell? ⟨g, j, none⟩ := by
  obtain ⟨g, cap, cur, fz, rfl, hb, hg, hl, hc, hf, htk⟩ := hown
  have hnews : ∀ (j : Nat) (x : Value), [u][j]? = some x → w.cell? (ad.add j) = some x := by
    intro j x hj
    match j, hj with
    | 0, hj => simp at hj; subst hj; simpa [Addr.add] using hnew
  by_cases hr : xs.length + 1 ≤ cap
  · have hlt : xs.length < cur.size := by omega
    have hcell : (w.cell? ⟨g, 0 + xs.length * i.size + 0, none⟩).isSome = true := by
      rw [hsize, cell_of_row w g _ cur e fz hg]
      simp [hlt]
    have hfr : w.frozen? ⟨g, 0 + xs.length * i.size + 0, none⟩ = false := by
      rw [hsize]
      show (match w.heap[g]? with | some (.cells _ _ (lo, hi)) => _ | _ => false) = _
      rw [hg]
      rcases hf with rfl | rfl
      · simp
      · simp; omega
    have hrun := run_append_room_cells (P := P) w t ty e i ht hi g 0 xs.length cap ad 1 c [u] (by simp [hsize]) hnews (by simpa using h1) hr (fun j hj => by
        have : j = 0 := by simpa using hj
        subst this; exact hcell) (fun j hj => by
        have : j = 0 := by simpa using hj
        subst this; exact hfr)
    refine ⟨_, _, hrun, ?_, ?_, ⟨g, cap, rfl⟩, fun g' n' cap' j hv hj => ?_⟩
    rotate_left 2
    · injection hv with h1 _ _
      injection h1 with h1
      injection h1 with h1 _ _
      subst h1
      rw [hsize]
      simp only [Nat.zero_add, Nat.mul_one, World.setCells]
      exact World.cell?_setCell_other _ _ _ _ (fun e => by injection e; omega)
    · refine ⟨g, cap, cur.setIfInBounds xs.length u, fz, by simp, hb, ?_, by simpa using hr, by simpa using hc, hf, ?_⟩
      · rw [hsize]
        simp only [Nat.zero_add, Nat.mul_one, World.setCells]
        exact heap_setCell_mark hg _ u
      · simp only [List.length_append, List.length_singleton, Array.toList_setIfInBounds]
        rw [List.take_set, List.take_succ_eq_append_getElem (by simpa using hlt), htk]
        rw [List.set_append_right _ _ (Nat.le_refl _)]
        simp
    · rw [hsize]
      simp only [Nat.zero_add, Nat.mul_one, World.setCells]
      exact ⟨rfl, rfl, rfl, (KeepsWalks.setCell w _ u).size, fun k _ hk => Below.heap_setCell _ _ _ k (fun e => hk (by simp [Value.ownBlock, e]))⟩
  · obtain ⟨v', w', hrun, r1, r2⟩ := run_append_arg_grows (P := P) w t ty e i z 1 1 ht hi hz hsize hby hzs (by decide) ⟨g, 0, none⟩ xs.length cap xs (by simp) (fun j x hj => by
        have hj' : j < xs.length := (List.getElem?_eq_some_iff.1 hj).1
        rw [Addr.add_lit, cell_of_row w g _ cur e fz hg]
        rw [← htk, List.getElem?_take, if_pos hj'] at hj
        simpa using hj) ad 1 c [u] (by simp) hnews (by omega) (by unfold maxLen; omega) (by omega)
    refine ⟨v', w', hrun, ?_, ⟨r2.os, r2.tape, r2.output, r2.size, fun k hk _ => r2.block k hk (by simp)⟩, ?_, fun g' n' cap' j hv hj => ?_⟩
    · rcases r1.2 with ⟨_, h0⟩ | ⟨g', cap', cur', rfl, hb', hg', hn', _, hc', ht'⟩
      · omega
      · refine ⟨g', cap', cur', (0, 0), by simp, Nat.le_trans hbase hb', hg', by simpa using hn', by simpa using hc', .inl rfl, ?_⟩
        simpa using ht'
    · rcases r1.2 with ⟨_, h0⟩ | ⟨g', cap', cur', rfl, _⟩
      · omega
      · exact ⟨g', cap', rfl⟩
    · injection hv with h1 _ _
      injection h1 with h1
      injection h1 with h1 _ _
      subst h1
      exact World.cell?_of_block (a := ⟨g, j, none⟩) (r2.block g (Array.getElem?_eq_some_iff.1 hg).1 (by simp))

theorem wp_append_b {w : World} {o : Oper} {a : Act} {K : Act → World → Prop} {Q : Exit → Act → World → Prop} (s x : Operand) (t : TypeId)
    (ho : o.op = .call { callee := .builtin .append, args := #[s, x], argTypes := #[t, t] })
    (base : Nat) (e : TypeId) (i : TypeInfo) (z : Value) (ht : P.underlying t = some (.slice e)) (hi : P.info? e = some i) (hz : i.zero = some z)
    (hsize : i.size = 1) (hby : i.bytes = 1) (hzs : z.cells.size = 1) (v : Value) (xs : List Value) (hs : a.eval s = v) (hown : BRow w base e v xs)
    (ad : Addr) (c : Nat) (u : Value) (hx : a.eval x = .slice (some ad) 1 c) (hnew : w.cell? ad = some u) (h1 : u.oneCell' = true) (hlen : xs.length + 1 ≤ 140737488355328) (hbase : base ≤ w.heap.size)
    (h : ∀ v' w', BRow w' base e v' (xs ++ [u]) → w.grownBy w' v.ownBlock → (∀ g n cap j, v = .slice (some ⟨g, 0, none⟩) n cap → j < xs.length → w'.cell? ⟨g, j, none⟩ = w.cell? ⟨g, j, none⟩) → K (a.put o.dst v') w') : o.wp P a w K Q := by
  obtain ⟨v', w', hr, h2, h3, _, h4⟩ := run_append_b (P := P) w base t o.type e i z ht hi hz hsize hby hzs v xs hown ad c u hnew h1 hlen hbase
  unfold Oper.wp execOp
  simp only [ho, resolve, invoke, builtin, Sem.run_bind, Sem.run_pure, Result.andThen_ok, List.map_toArray, List.map_cons, List.map_nil, hs, hx, hr]
  exact h v' w' h2 h3 h4
theorem wpList_append_b {w : World} {ops : Array Oper} {rest : List Oper} {o : Oper} {a : Act} {Q : Exit → Act → World → Prop} (hgd : o.guard = none) (s x : Operand) (t : TypeId)
    (ho : o.op = .call { callee := .builtin .append, args := #[s, x], argTypes := #[t, t] })
    (base : Nat) (e : TypeId) (i : TypeInfo) (z : Value) (ht : P.underlying t = some (.slice e)) (hi : P.info? e = some i) (hz : i.zero = some z)
    (hsize : i.size = 1) (hby : i.bytes = 1) (hzs : z.cells.size = 1) (v : Value) (xs : List Value) (hs : a.eval s = v) (hown : BRow w base e v xs)
    (ad : Addr) (c : Nat) (u : Value) (hx : a.eval x = .slice (some ad) 1 c) (hnew : w.cell? ad = some u) (h1 : u.oneCell' = true) (hlen : xs.length + 1 ≤ 140737488355328) (hbase : base ≤ w.heap.size)
    (h : ∀ v' w', BRow w' base e v' (xs ++ [u]) → w.grownBy w' v.ownBlock → wpList P ops Q rest (a.put o.dst v') w') : wpList P ops Q (o :: rest) a w :=
  wpList_plain hgd fun _ hK => wp_append_b s x t ho base e i z ht hi hz hsize hby hzs v xs hs hown ad c u hx hnew h1 hlen hbase fun v' w' h2 h3 _ => hK _ _ (h v' w' h2 h3)
/-- '[]byte(s)' -/
theorem brow_of_string (src dst e : TypeId) (s : ByteArray) (hs : P.underlying src = some .string) (hd : P.underlying dst = some (.slice e)) (he : P.underlying e = some (.int .u8)) :
    ∃ v w1, (convert src dst (.string s)).run P w = .ok v w1 ∧ Below w.heap.size w w1 ∧ BRow w1 w.heap.size e v (numsV .u8 (byteL s)) := by
  have hcap : s.size ≤ grownCap w s.size 0 e := by
    show s.size ≤ s.size + _
    omega
  have hn : (numsV .u8 (byteL s)).length = s.size := by rw [numsV_length, byteL_length]
  refine ⟨_, _, run_bytes_of_string w src dst e s hs hd he, (Below.refl _ _).drew.alloc (Nat.le_refl _) _, ?_⟩
  have hsz : (bytesRow s (grownCap w s.size 0 e)).size = grownCap w s.size 0 e := by
    simp [bytesRow]
    have : s.data.size = s.size := rfl
    omega
  refine ⟨w.heap.size, grownCap w s.size 0 e, bytesRow s (grownCap w s.size 0 e), _, by rw [hn], Nat.le_refl _, heap_alloc_new w.drew _, by rw [hn]; exact hcap, hsz, .inr (by rw [hsz]), ?_⟩
  rw [hn]
  unfold bytesRow
  rw [Array.toList_append]
  have h1 : (s.data.map fun b => Value.int .u8 b.toNat).toList.length = s.size := by simp
  rw [List.take_append_of_le_length (by omega), ← h1, List.take_length]
  simp [numsV, byteL]
end
end Go.Proofs.Ytolkmjclldjkkaa
