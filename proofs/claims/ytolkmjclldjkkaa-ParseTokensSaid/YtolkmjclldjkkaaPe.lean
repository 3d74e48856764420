/-
  Parse: what 'rows' and 'Level' come to (contracts, by hand).
-/
import Derived.Test.YtolkmjclldjkkaaPd
set_option linter.unusedSimpArgs false
set_option linter.unusedVariables false
namespace Go.Proofs.Ytolkmjclldjkkaa
open Go.RowKit

def rowV (r : Nat × Nat × Nat) : Value := .agg #[.int .i64 (r.1 : Nat), .int .i64 (r.2.1 : Nat), .int .i64 (r.2.2 : Nat)]
def rowsA : Array Value := #[.int .i64 0, .int .i64 0, .int .i64 0, .int .i64 4, .int .i64 8, .int .i64 0, .int .i64 8, .int .i64 16, .int .i64 0, .int .i64 16, .int .i64 32, .int .i64 0, .int .i64 8, .int .i64 16, .int .i64 4, .int .i64 16, .int .i64 32, .int .i64 16, .int .i64 64, .int .i64 128, .int .i64 16, .int .i64 128, .int .i64 128, .int .i64 32, .int .i64 512, .int .i64 258, .int .i64 128, .int .i64 2048, .int .i64 258, .int .i64 258]
theorem idx75 (k : Nat) (hk : k < 10) (w : World) : (Instr.index 75 (.agg rowsA) (.int .i64 (k : Nat))).run Try.prog w = .ok (rowV (rowL k)) w := by
  have h := Try.underlying75
  match k, hk with
  | 0, _ => simp [Instr.index, run_underlying h, asIntOf, rowsA, go_sem, rowV, rowL]
  | 1, _ => simp [Instr.index, run_underlying h, asIntOf, rowsA, go_sem, rowV, rowL]
  | 2, _ => simp [Instr.index, run_underlying h, asIntOf, rowsA, go_sem, rowV, rowL]
  | 3, _ => simp [Instr.index, run_underlying h, asIntOf, rowsA, go_sem, rowV, rowL]
  | 4, _ => simp [Instr.index, run_underlying h, asIntOf, rowsA, go_sem, rowV, rowL]
  | 5, _ => simp [Instr.index, run_underlying h, asIntOf, rowsA, go_sem, rowV, rowL]
  | 6, _ => simp [Instr.index, run_underlying h, asIntOf, rowsA, go_sem, rowV, rowL]
  | 7, _ => simp [Instr.index, run_underlying h, asIntOf, rowsA, go_sem, rowV, rowL]
  | 8, _ => simp [Instr.index, run_underlying h, asIntOf, rowsA, go_sem, rowV, rowL]
  | 9, _ => simp [Instr.index, run_underlying h, asIntOf, rowsA, go_sem, rowV, rowL]
theorem size75 : (Try.prog.info? 75).map (·.size) = some rowsA.size := by kernel_rfl
theorem rows_one : rowsA.all (·.oneCell') = true := by kernel_rfl
def zeros30 : Array Value := #[.int .i64 0, .int .i64 0, .int .i64 0, .int .i64 0, .int .i64 0, .int .i64 0, .int .i64 0, .int .i64 0, .int .i64 0, .int .i64 0, .int .i64 0, .int .i64 0, .int .i64 0, .int .i64 0, .int .i64 0, .int .i64 0, .int .i64 0, .int .i64 0, .int .i64 0, .int .i64 0, .int .i64 0, .int .i64 0, .int .i64 0, .int .i64 0, .int .i64 0, .int .i64 0, .int .i64 0, .int .i64 0, .int .i64 0, .int .i64 0]
theorem rows_size : zeros30.size = rowsA.size := rfl
theorem rows_new (w : World) : ((w.alloc (.cells zeros30 75)).setRow w.heap.size rowsA).heap[w.heap.size]? = some (.cells rowsA 75 (0, 0)) := setRow_heap _ _ zeros30 _ _ _ (heap_alloc_new w _)
theorem rows_below (w : World) : Below w.heap.size w ((w.alloc (.cells zeros30 75)).setRow w.heap.size rowsA) :=
  ⟨rfl, rfl, rfl, by simp [World.setRow], fun k hk => (setRow_other _ _ k _ (by omega)).trans (Below.heap_alloc w _ k hk)⟩
set_option maxRecDepth 100000 in
theorem rows_any (w : World) : Calls Try.prog 31 #[] w fun e w' => e = .returned (.agg rowsA) ∧ Below w.heap.size w w' := by
  go_enter Try.func31, Try.ntmps31
  go_wp2_with (with_reducible refine wpList_store_row rfl 75 _ _ rfl _ rowsA rfl rfl 75 zeros30 (heap_alloc_new _ _) size75 rows_size rows_one ?_; simp only [Act.put])
  refine bodyPost_ret (results_cell_row rfl _ _ w.heap.size 75 rowsA (0, 0) _ rfl (rows_new w) Try.underlying75 rfl size75) rfl ⟨rfl, rows_below w⟩
theorem results_tmp4 {P : Program} {fn : Func} {t u v x : Tmp} (h : fn.results = #[.tmp t, .tmp u, .tmp v, .tmp x]) (tmps : Array Value) (w : World) :
    (results fn tmps).run P w = .ok (.tuple #[tmps.getD t undef, tmps.getD u undef, tmps.getD v undef, tmps.getD x undef]) w := by
  simp [results, h]
/-- what 'Level' answers -/
def levelV (k : Int) : Value := if 0 ≤ k ∧ k < 10 then .tuple #[.int .i64 ((rowL k.toNat).1 : Nat), .int .i64 ((rowL k.toNat).2.1 : Nat), .int .i64 ((rowL k.toNat).2.2 : Nat), .bool true] else .tuple #[.int .i64 0, .int .i64 0, .int .i64 0, .bool false]
theorem mt_lv {k : Int} (h : 0 ≤ k ∧ k < 10) : decide (k < 0) = false ∧ decide (10 ≤ k) = false ∧ ∃ n : Nat, k = (n : Int) ∧ n < 10 := by
  refine ⟨?_, ?_, k.toNat, by omega, by omega⟩
  all_goals (rw [decide_eq_false_iff_not]; omega)
theorem mt_lw {k : Int} (h : ¬ (0 ≤ k ∧ k < 10)) : decide (k < 0) = true ∨ (decide (k < 0) = false ∧ decide (10 ≤ k) = true) := by
  by_cases h1 : k < 0
  · exact .inl (by rw [decide_eq_true_eq]; exact h1)
  · exact .inr ⟨by rw [decide_eq_false_iff_not]; exact h1, by rw [decide_eq_true_eq]; omega⟩
theorem mt_lu {n : Nat} (h : n < 10) : decide ((n : Int) < 0) = false ∧ decide ((10 : Int) ≤ (n : Int)) = false ∧ decide (10 ≤ n) = false := by
  refine ⟨?_, ?_, ?_⟩
  all_goals (rw [decide_eq_false_iff_not]; omega)
set_option maxHeartbeats 4000000 in
theorem level_any (k : Int) (w : World) : Calls Try.prog 21 #[.int .i64 k] w fun e w' => e = .returned (levelV k) ∧ Below w.heap.size w w' := by
  by_cases h : 0 ≤ k ∧ k < 10
  · obtain ⟨_, _, n, rfl, hn⟩ := mt_lv h
    obtain ⟨d1, d2, d3⟩ := mt_lu hn
    have HN := Lib.hid hn
    have HV := Lib.hid (show levelV (n : Int) = .tuple #[.int .i64 ((rowL n).1 : Nat), .int .i64 ((rowL n).2.1 : Nat), .int .i64 ((rowL n).2.2 : Nat), .bool true] by unfold levelV; rw [if_pos h, Int.toNat_natCast])
    clear h hn
    go_enter Try.func21, Try.ntmps21
    go_wp2_with fail
    refine (rows_any _).mono ?_
    rintro e w2 ⟨rfl, hb⟩
    have HB := Lib.hid hb
    have qi := idx75 n HN.out w2
    clear hb
    obtain ⟨r, hr⟩ : ∃ r, rowL n = r := ⟨_, rfl⟩
    rw [hr] at qi HV
    unfold rowV at qi
    clear hr
    go_wp2_with fail
    have hHeld : (w2.alloc (.cells #[.int .i64 (r.1 : Nat), .int .i64 (r.2.1 : Nat), .int .i64 (r.2.2 : Nat)] 74)).drew.cell? ⟨w2.heap.size, 0, none⟩ = some (.int .i64 (r.1 : Nat)) ∧ (w2.alloc (.cells #[.int .i64 (r.1 : Nat), .int .i64 (r.2.1 : Nat), .int .i64 (r.2.2 : Nat)] 74)).drew.cell? ⟨w2.heap.size, 1, none⟩ = some (.int .i64 (r.2.1 : Nat)) ∧ (w2.alloc (.cells #[.int .i64 (r.1 : Nat), .int .i64 (r.2.1 : Nat), .int .i64 (r.2.2 : Nat)] 74)).drew.cell? ⟨w2.heap.size, 2, none⟩ = some (.int .i64 (r.2.2 : Nat)) := new3 w2 _ _ _ _
    refine wp_region_T (fun w' => w'.cell? ⟨w2.heap.size, 0, none⟩ = some (.int .i64 (r.1 : Nat)) ∧ w'.cell? ⟨w2.heap.size, 1, none⟩ = some (.int .i64 (r.2.1 : Nat)) ∧ w'.cell? ⟨w2.heap.size, 2, none⟩ = some (.int .i64 (r.2.2 : Nat))) [.take 0, .take 1, .take 2, .take 3, .take 4, .take 5, .take 6, .take 7, .take 8, .take 9] (by kernel_rfl) (by kernel_rfl) (fun _ _ _ _ _ h => h) hHeld ?_
    refine T_light (a' := ?_) 16 rfl rfl rfl (of_decide_eq_true rfl) rfl hHeld (fun wq hSq K Q hK => ?_) ?_
    rotate_left
    · (go_step; exact hK)
    refine T_light (a' := ?_) 17 rfl rfl rfl (of_decide_eq_true rfl) rfl hHeld (fun wq hSq K Q hK => ?_) ?_
    rotate_left
    · ((have r1 := hSq.1; go_step); exact hK)
    refine T_light (a' := ?_) 18 rfl rfl rfl (of_decide_eq_true rfl) rfl hHeld (fun wq hSq K Q hK => ?_) ?_
    rotate_left
    · (go_step; exact hK)
    refine T_light (a' := ?_) 19 rfl rfl rfl (of_decide_eq_true rfl) rfl hHeld (fun wq hSq K Q hK => ?_) ?_
    rotate_left
    · ((have r1 := hSq.2.1; go_step); exact hK)
    refine T_light (a' := ?_) 20 rfl rfl rfl (of_decide_eq_true rfl) rfl hHeld (fun wq hSq K Q hK => ?_) ?_
    rotate_left
    · (go_step; exact hK)
    refine T_light (a' := ?_) 21 rfl rfl rfl (of_decide_eq_true rfl) rfl hHeld (fun wq hSq K Q hK => ?_) ?_
    rotate_left
    · ((have r1 := hSq.2.2; go_step); exact hK)
    refine T_light (a' := ?_) 2 rfl rfl rfl (of_decide_eq_true rfl) rfl hHeld (fun wq hSq K Q hK => ?_) ?_
    rotate_left
    · (go_step; exact hK)
    refine T_light (a' := ?_) 3 rfl rfl rfl (of_decide_eq_true rfl) rfl hHeld (fun wq hSq K Q hK => ?_) ?_
    rotate_left
    · (go_step; exact hK)
    refine T_light (a' := ?_) 4 rfl rfl rfl (of_decide_eq_true rfl) rfl hHeld (fun wq hSq K Q hK => ?_) ?_
    rotate_left
    · (go_step; exact hK)
    refine T_light (a' := ?_) 5 rfl rfl rfl (of_decide_eq_true rfl) rfl hHeld (fun wq hSq K Q hK => ?_) ?_
    rotate_left
    · (go_step; exact hK)
    refine T_done ?_
    clear hHeld
    go_wp2_with fail
    refine bodyPost_ret (results_tmp4 rfl _ _) rfl ⟨by rw [HV.out]; rfl, HB.out.trans ((((Below.refl _ w2).alloc (Nat.le_refl _) _).drew).mono HB.out.size)⟩
  · have HV := Lib.hid (show levelV k = .tuple #[.int .i64 0, .int .i64 0, .int .i64 0, .bool false] by unfold levelV; rw [if_neg h])
    rcases mt_lw h with d1 | ⟨d1, d2⟩
    · clear h
      go_enter Try.func21, Try.ntmps21
      go_wp2_with fail
      refine bodyPost_ret (results_tmp4 rfl _ _) rfl ⟨by rw [HV.out]; rfl, Below.refl _ _⟩
    · clear h
      go_enter Try.func21, Try.ntmps21
      go_wp2_with fail
      refine bodyPost_ret (results_tmp4 rfl _ _) rfl ⟨by rw [HV.out]; rfl, Below.refl _ _⟩
end Go.Proofs.Ytolkmjclldjkkaa
