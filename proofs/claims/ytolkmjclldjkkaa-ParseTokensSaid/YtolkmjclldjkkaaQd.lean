/-
  Parse: what the document's 'Level' comes to (a contract, by hand).
-/
import Derived.Test.YtolkmjclldjkkaaQc
set_option linter.unusedSimpArgs false
set_option linter.unusedVariables false
namespace Go.Proofs.Ytolkmjclldjkkaa
open Go.RowKit

theorem rlevel_res (tmps : Array Value) (w : World) (B : Nat) (r : Nat × Nat × Nat) (b : Bool) (h2 : tmps.getD 2 undef = .pointer (some ⟨B, 0, none⟩)) (h3 : tmps.getD 3 undef = .bool b) (hv : w.heap[B]? = some (.cells #[.int .i64 (r.1 : Nat), .int .i64 (r.2.1 : Nat), .int .i64 (r.2.2 : Nat)] 48 (0, 0))) :
    (results Try.f22 tmps).run Try.prog w = .ok (.tuple #[rowV r, .bool b]) w := by
  have m0 : w.cell? ⟨B, 0, none⟩ = some (.int .i64 (r.1 : Nat)) := cell_blk hv 0
  have m1 : w.cell? ⟨B, 1, none⟩ = some (.int .i64 (r.2.1 : Nat)) := cell_blk hv 1
  have m2 : w.cell? ⟨B, 2, none⟩ = some (.int .i64 (r.2.2 : Nat)) := cell_blk hv 2
  have h2' : tmps[2]?.getD undef = .pointer (some ⟨B, 0, none⟩) := by simpa using h2
  have h3' : tmps[3]?.getD undef = .bool b := by simpa using h3
  simp [results, Try.results22, asAddr, loadVar, run_load, h2', h3', m0, m1, m2, go_sem, rowV]
def rlevelV (k : Int) : Value := if 0 ≤ k ∧ k < 10 then .tuple #[rowV (rowL k.toNat), .bool true] else .tuple #[rowV (0, 0, 0), .bool false]
theorem rows_cell (k : Nat) (hk : k < 10) : rowsA[k * 3]? = some (.int .i64 ((rowL k).1 : Nat)) ∧ rowsA[k * 3 + 1]? = some (.int .i64 ((rowL k).2.1 : Nat)) ∧ rowsA[k * 3 + 2]? = some (.int .i64 ((rowL k).2.2 : Nat)) := by
  match k, hk with
  | 0, _ | 1, _ | 2, _ | 3, _ | 4, _ | 5, _ | 6, _ | 7, _ | 8, _ | 9, _ => exact ⟨rfl, rfl, rfl⟩
theorem mt_lr {k : Int} (h : ¬ (0 ≤ k ∧ k < 10)) : decide (k < 0) = true ∨ (decide (k < 0) = false ∧ decide (9 < k) = true) := by
  by_cases h1 : k < 0
  · exact .inl (by rw [decide_eq_true_eq]; exact h1)
  · exact .inr ⟨by rw [decide_eq_false_iff_not]; exact h1, by rw [decide_eq_true_eq]; omega⟩
theorem mt_ls {n : Nat} (h : n < 10) : decide ((n : Int) < 0) = false ∧ decide ((9 : Int) < (n : Int)) = false ∧ decide (9 < n) = false ∧ (0 : Int) ≤ (n : Int) ∧ (n : Int) < 10 := by
  refine ⟨?_, ?_, ?_, by omega, by omega⟩
  all_goals (rw [decide_eq_false_iff_not]; omega)
theorem three_cells {W : World} {R : Nat} {x y z : Value} {t : TypeId} {u v q : Value} (h : W.heap[R]? = some (.cells #[x, y, z] t (0, 0))) :
    (((W.setCell ⟨R, 0, none⟩ u).setCell ⟨R, 1, none⟩ v).setCell ⟨R, 2, none⟩ q).heap[R]? = some (.cells #[u, v, q] t (0, 0)) := by
  simp [World.setCell, Array.getElem?_modify, h]
set_option maxRecDepth 100000 in
set_option maxHeartbeats 8000000 in
theorem rlevel_any (k : Int) (w : World) : Calls Try.prog 22 #[.int .i64 k] w fun e w' => e = .returned (rlevelV k) ∧ Below w.heap.size w w' := by
  obtain ⟨R, hR⟩ : ∃ R, w.heap.size = R := ⟨_, rfl⟩
  have hbA : Below w.heap.size w (w.alloc (.cells #[.int .i64 0, .int .i64 0, .int .i64 0] 48)) := (Below.refl _ w).alloc (Nat.le_refl _) _
  obtain ⟨w2, hw2⟩ : ∃ w2, (w.alloc (.cells #[.int .i64 0, .int .i64 0, .int .i64 0] 48)).alloc (.cells #[.int .i64 0, .int .i64 0, .int .i64 0, .int .i64 4, .int .i64 8, .int .i64 0, .int .i64 8, .int .i64 16, .int .i64 0, .int .i64 16, .int .i64 32, .int .i64 0, .int .i64 8, .int .i64 16, .int .i64 4, .int .i64 16, .int .i64 32, .int .i64 16, .int .i64 64, .int .i64 128, .int .i64 16, .int .i64 128, .int .i64 128, .int .i64 32, .int .i64 512, .int .i64 258, .int .i64 128, .int .i64 2048, .int .i64 258, .int .i64 258] 48) = w2 := ⟨_, rfl⟩
  have hb2 : Below w.heap.size w w2 := by rw [← hw2]; exact hbA.alloc hbA.size _
  have hbB : Below (w.alloc (.cells #[.int .i64 0, .int .i64 0, .int .i64 0] 48)).heap.size (w.alloc (.cells #[.int .i64 0, .int .i64 0, .int .i64 0] 48)) w2 := by rw [← hw2]; exact (Below.refl _ _).alloc (Nat.le_refl _) _
  have h2 : w2.heap[R]? = some (.cells #[.int .i64 0, .int .i64 0, .int .i64 0] 48 (0, 0)) := by rw [← hR]; exact (hbB.block _ (by simp)).trans (heap_alloc_last w _)
  have h15 : w2.heap[R + 1]? = some (.cells rowsA 48 (0, 0)) := by
    have h := heap_alloc_last (w.alloc (.cells #[.int .i64 0, .int .i64 0, .int .i64 0] 48)) (.cells rowsA 48)
    have e : (w.alloc (.cells #[.int .i64 0, .int .i64 0, .int .i64 0] 48)).heap.size = R + 1 := by simp [hR]
    rw [e] at h
    rw [← hw2]
    exact h
  have y0 : w2.cell? ⟨R, 0, none⟩ = some (.int .i64 0) := cell_blk h2 0
  have y1 : w2.cell? ⟨R, 1, none⟩ = some (.int .i64 0) := cell_blk h2 1
  have y2 : w2.cell? ⟨R, 2, none⟩ = some (.int .i64 0) := cell_blk h2 2
  have fR : ∀ j, w2.frozen? ⟨R, j, none⟩ = false := frozen_blk h2
  have H2 := Lib.hid h2
  have HB := Lib.hid hb2
  have HRR := Lib.hid (show w.heap.size ≤ R by rw [hR]; exact Nat.le_refl _)
  by_cases h : 0 ≤ k ∧ k < 10
  · obtain ⟨_, _, n, rfl, hn⟩ := mt_lv h
    obtain ⟨d1, d2, d3, n0, n1⟩ := mt_ls hn
    obtain ⟨c0, c1, c2⟩ := rows_cell n hn
    have HV := Lib.hid (show rlevelV (n : Int) = .tuple #[rowV (rowL n), .bool true] by unfold rlevelV; rw [if_pos h, Int.toNat_natCast])
    obtain ⟨r, hr⟩ : ∃ r, rowL n = r := ⟨_, rfl⟩
    rw [hr] at HV c0 c1 c2
    have z0 : w2.cell? ⟨R + 1, n * 3, none⟩ = some (.int .i64 (r.1 : Nat)) := (cell_blk h15 _).trans c0
    have z1 : w2.cell? ⟨R + 1, n * 3 + 1, none⟩ = some (.int .i64 (r.2.1 : Nat)) := (cell_blk h15 _).trans c1
    have z2 : w2.cell? ⟨R + 1, n * 3 + 2, none⟩ = some (.int .i64 (r.2.2 : Nat)) := (cell_blk h15 _).trans c2
    clear h hn c0 c1 c2 h15 h2 hb2 hbB hbA hr
    go_enter Try.func22, Try.ntmps22
    go_wp2_with fail
    refine bodyPost_ret (rlevel_res _ _ R r true rfl rfl (three_cells H2.out)) rfl ⟨by rw [HV.out], (two_below HB.out HRR.out _ _).setCell (p := ⟨R, 2, none⟩) HRR.out _⟩
  · have HV := Lib.hid (show rlevelV k = .tuple #[rowV (0, 0, 0), .bool false] by unfold rlevelV; rw [if_neg h])
    rcases mt_lr h with d1 | ⟨d1, d2⟩
    · clear h h15 h2 hb2 hbB hbA
      go_enter Try.func22, Try.ntmps22
      go_wp2_with fail
      refine bodyPost_ret (rlevel_res _ _ R (0, 0, 0) false rfl rfl (three_cells H2.out)) rfl ⟨by rw [HV.out], (two_below HB.out HRR.out _ _).setCell (p := ⟨R, 2, none⟩) HRR.out _⟩
    · clear h h15 h2 hb2 hbB hbA
      go_enter Try.func22, Try.ntmps22
      go_wp2_with fail
      refine bodyPost_ret (rlevel_res _ _ R (0, 0, 0) false rfl rfl (three_cells H2.out)) rfl ⟨by rw [HV.out], (two_below HB.out HRR.out _ _).setCell (p := ⟨R, 2, none⟩) HRR.out _⟩
end Go.Proofs.Ytolkmjclldjkkaa
