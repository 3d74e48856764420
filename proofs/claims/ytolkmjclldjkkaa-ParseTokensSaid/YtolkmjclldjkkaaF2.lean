/-
  Chain: what 'New', 'Last', 'before' and 'long' come to (contracts, by hand).
-/
import Derived.Test.YtolkmjclldjkkaaF
import Derived.Carry
set_option linter.unusedSimpArgs false
set_option linter.unusedVariables false
namespace Go.Proofs.Ytolkmjclldjkkaa
open Go.RowKit

theorem eq_map0 (w : World) (d M : Nat) : (Op.equalIn (d + 1) 61 (.map (some M)) (.map none)).run Try.prog w = .ok false w := by
  have hu := Try.underlying61
  simp [Op.equalIn, run_underlying hu]
theorem eq_map1 (w : World) (M : Nat) : (Op.equal 61 (.map (some M)) (.map none)).run Try.prog w = .ok false w := eq_map0 w 9999 M
theorem eq_map (w : World) (M : Nat) : (binOp .eql 61 (.map (some M)) (.map none)).run Try.prog w = .ok (.bool false) w := by
  simp [binOp, eq_map1]
theorem new_any (s : ByteArray) (w : World) (hs : s.size ≤ 140737488351232) :
    Calls Try.prog 12 #[.string s] w fun e w' => ∃ A, e = .returned (.pointer (some ⟨A, 0, none⟩)) ∧ Fnd w' w.heap.size A s [] ∧ Below w.heap.size w w' := by
  have HS := Lib.hid hs
  clear hs
  have hm1 := run_makeMap (P := Try.prog) 61 w
  have hm2 := run_makeMap (P := Try.prog) 62 (w.alloc (.map #[] 0))
  go_enter Try.func12, Try.ntmps12
  go_wp2_with fail
  go_ret
  have b1 : Below w.heap.size w (w.alloc (.map #[] 0)) := (Below.refl _ w).alloc (Nat.le_refl _) _
  have b2 := b1.alloc b1.size (.map #[] 0)
  have e1 : (w.alloc (.map #[] 0)).heap.size = w.heap.size + 1 := World.size_alloc _ _
  have e2 : ((w.alloc (.map #[] 0)).alloc (.map #[] 0)).heap.size = w.heap.size + 2 := by rw [World.size_alloc, e1]
  have m1 := MapI.made w 65
  have m2 := MapI.made (w.alloc (.map #[] 0)) 3
  have b3 := b2.alloc b2.size (.cells #[.string s, .map (some w.heap.size), .map (some (w.heap.size + 1)), .int .i64 (-1)] 64)
  have hE := heap_alloc_last ((w.alloc (.map #[] 0)).alloc (.map #[] 0)) (.cells #[.string s, .map (some w.heap.size), .map (some (w.heap.size + 1)), .int .i64 (-1)] 64)
  rw [e2] at hE
  rw [e1] at m2
  have x2 : (((w.alloc (.map #[] 0)).alloc (.map #[] 0)).alloc (.cells #[.string s, .map (some w.heap.size), .map (some (w.heap.size + 1)), .int .i64 (-1)] 64)).heap[w.heap.size + 1]? = ((w.alloc (.map #[] 0)).alloc (.map #[] 0)).heap[w.heap.size + 1]? := Below.heap_alloc _ _ _ (by rw [e2]; omega)
  have x1 : (((w.alloc (.map #[] 0)).alloc (.map #[] 0)).alloc (.cells #[.string s, .map (some w.heap.size), .map (some (w.heap.size + 1)), .int .i64 (-1)] 64)).heap[w.heap.size]? = (w.alloc (.map #[] 0)).heap[w.heap.size]? := (Below.heap_alloc _ _ _ (by rw [e2]; omega)).trans (Below.heap_alloc _ _ _ (by rw [e1]; omega))
  exact ⟨w.heap.size + 1 + 1, rfl, ⟨⟨w.heap.size, w.heap.size + 1, _, _, hE, by omega, Nat.le_refl _, by omega, m1.same x1, m2.same x2, fun k => rfl, fun k pre p r h => by simp [cand] at h, fun p _ => rfl⟩, by omega, List.Pairwise.nil, by simp, HS.out⟩, b3⟩
theorem last_any (n₀ A : Nat) (s : ByteArray) (l : List Nat) (w : World) (h : Fnd w n₀ A s l) :
    Calls Try.prog 16 #[.pointer (some ⟨A, 0, none⟩)] w fun e w' => e = .returned (.int .i64 (lastI l)) ∧ w' = w := by
  obtain ⟨M1, M2, F, G, hA, _⟩ := h.ex
  have q1 : w.cell? ⟨A, 1, none⟩ = some (.map (some M1)) := cell_blk hA 1
  have q3 : w.cell? ⟨A, 3, none⟩ = some (.int .i64 (lastI l)) := cell_blk hA 3
  have qe := eq_map w M1
  clear hA h
  go_enter Try.func16, Try.ntmps16
  go_wp2_with fail
  go_ret
  exact ⟨rfl, rfl⟩
theorem last_nil (w : World) : Calls Try.prog 16 #[.pointer none] w fun e w' => e = .returned (.int .i64 (-1)) ∧ w' = w := by
  go_enter Try.func16, Try.ntmps16
  go_wp2_with fail
  go_ret
  exact ⟨rfl, rfl⟩
theorem before_any (n₀ A : Nat) (s : ByteArray) (l : List Nat) (w : World) (p : Nat) (k : Nat × Nat × Nat) (pre r : List Nat) (h : Fnd w n₀ A s l) (hc : cand (byteL s) k l = pre ++ p :: r) :
    Calls Try.prog 36 #[.pointer (some ⟨A, 0, none⟩), .int .i64 (p : Nat)] w fun e w' => e = .returned (.tuple #[.int .i64 ((oI r.head?).getD 0), .bool r.head?.isSome]) ∧ w' = w := by
  obtain ⟨M1, M2, F, G, hA, _, _, _, h1, h2, hb, hg⟩ := h.ex
  have q2 : w.cell? ⟨A, 2, none⟩ = some (.map (some M2)) := cell_blk hA 2
  have hp : p ∈ l := (List.mem_filter.1 (show p ∈ cand (byteL s) k l by rw [hc]; simp)).1
  have hwf : (Lit.int .i64 (p : Nat)).wf = true := by
    have := h.lt p hp
    have := h.size
    simp [Lit.wf, IntKind.min, IntKind.max, IntKind.signed, IntKind.bits]
    omega
  have hl := h2.look law3 Try.underlying62 (key3 hwf)
  rw [hg.1 k pre p r hc] at hl
  obtain ⟨x, hx⟩ : ∃ x, (oI r.head?).getD 0 = x := ⟨_, rfl⟩
  obtain ⟨y, hy⟩ : ∃ y, r.head?.isSome = y := ⟨_, rfl⟩
  rw [hx, show (oI r.head?).isSome = y by rw [← hy]; cases r <;> rfl] at hl
  rw [hx, hy]
  clear hA h h1 h2 hb hg hp hwf hx hy hc
  go_enter Try.func36, Try.ntmps36
  go_wp2_with fail
  go_ret2
  exact ⟨rfl, rfl⟩
end Go.Proofs.Ytolkmjclldjkkaa
