/-
  Runs: what 'rows', 'Bits' and 'Times' come to (contracts, by hand).
-/
import Derived.Test.YtkoohabljjbliaaProg
import Derived.Test.YtkoohabljjbliaaK
import Derived.Test.YtkoohabljjbliaaT
import Derived.Deep.LoopGhost
import Derived.Deep.WholeRow
import Derived.Laws.Rows
import Derived.WalkLawsBesides
import Derived.Outline
import Derived.KernelRfl
import Derived.Lib.Hide

set_option linter.unusedSimpArgs false
set_option linter.unusedVariables false
namespace Go.Proofs.Ytkoohabljjbliaa
open Go.RowKit


theorem rows_calls (w : World) : Calls Try.prog 20 #[] w fun e w' => e = .returned (.agg #[.int .i64 3, .int .i64 2, .int .i64 3, .int .i64 3, .int .i64 11, .int .i64 7]) ∧ Below w.heap.size w w' := by
  go_enter Try.func20, Try.ntmps20
  go_wp2_with fail
  refine bodyPost_ret ?_ rfl ⟨rfl, (Below.refl _ w).alloc (Nat.le_refl _) _⟩
  have hi : (Try.prog.info? 50).map (·.size) = some 6 := by kernel_rfl
  have hl := run_loadVar_row (P := Try.prog) (w.alloc (.cells #[.int .i64 3, .int .i64 2, .int .i64 3, .int .i64 3, .int .i64 11, .int .i64 7] 50)) w.heap.size 50 50 #[.int .i64 3, .int .i64 2, .int .i64 3, .int .i64 3, .int .i64 11, .int .i64 7] (0, 0) _ (heap_alloc_last w _) Try.underlying50 rfl hi
  simp [results, Try.results20, asAddr, hl]

theorem row_run0 (w : World) : (Instr.index 50 (.agg #[.int .i64 3, .int .i64 2, .int .i64 3, .int .i64 3, .int .i64 11, .int .i64 7]) (.int .u8 0)).run Try.prog w = .ok (.agg #[.int .i64 3, .int .i64 2]) w := by kernel_rfl
theorem row_run1 (w : World) : (Instr.index 50 (.agg #[.int .i64 3, .int .i64 2, .int .i64 3, .int .i64 3, .int .i64 11, .int .i64 7]) (.int .u8 1)).run Try.prog w = .ok (.agg #[.int .i64 3, .int .i64 3]) w := by kernel_rfl
theorem row_run2 (w : World) : (Instr.index 50 (.agg #[.int .i64 3, .int .i64 2, .int .i64 3, .int .i64 3, .int .i64 11, .int .i64 7]) (.int .u8 2)).run Try.prog w = .ok (.agg #[.int .i64 11, .int .i64 7]) w := by kernel_rfl
theorem at_run0 (a b : Int) (w : World) : (Instr.index 49 (.agg #[.int .i64 a, .int .i64 b]) (.int .i64 0)).run Try.prog w = .ok (.int .i64 a) w := by kernel_rfl
theorem at_run1 (a b : Int) (w : World) : (Instr.index 49 (.agg #[.int .i64 a, .int .i64 b]) (.int .i64 1)).run Try.prog w = .ok (.int .i64 b) w := by kernel_rfl

/-- how many bits more; is it a symbol? -/
def bitsI (s : Int) : Int × Bool := if s < 16 then (0, true) else if 18 < s then (0, false) else (if s = 16 then 2 else if s = 17 then 3 else 7, true)

theorem bits_any (s : Int) (h0 : 0 ≤ s) (w : World) :
    Calls Try.prog 14 #[.int .u8 s] w fun e w' => e = .returned (.tuple #[.int .i64 (bitsI s).1, .bool (bitsI s).2]) ∧ Below w.heap.size w w' := by
  unfold bitsI
  by_cases h1 : s < 16
  · have d1 : decide (s < 16) = true := by simpa using h1
    rw [if_pos h1]
    clear h0 h1
    go_enter Try.func14, Try.ntmps14
    go_wp2_with fail
    go_ret2
    exact ⟨rfl, Below.refl _ _⟩
  · have d1 : decide (s < 16) = false := by simpa using h1
    rw [if_neg h1]
    by_cases h2 : 18 < s
    · have d2 : decide (18 < s) = true := by simpa using h2
      rw [if_pos h2]
      clear h0 h1 h2
      go_enter Try.func14, Try.ntmps14
      go_wp2_with fail
      go_ret2
      exact ⟨rfl, Below.refl _ _⟩
    · rw [if_neg h2]
      have h3 : s = 16 ∨ s = 17 ∨ s = 18 := by omega
      clear h0 h1 h2 d1
      rcases h3 with rfl | rfl | rfl
      all_goals
        simp only [reduceIte, Int.reduceEq]
        have r0 := row_run0
        have r1 := row_run1
        have r2 := row_run2
        have r3 := at_run0
        have r4 := at_run1
        go_enter Try.func14, Try.ntmps14
        go_wp2_with (go_at_call 20; refine (rows_calls _).mono ?_; rintro e w' ⟨rfl, hb⟩)
        go_ret2
        exact ⟨rfl, hb⟩
/-- how often it says its symbol; is it a run? -/
def timesI (s x : Int) : Int × Bool :=
  if 18 < s then (0, false) else if s < 16 then (if 0 < x then (0, false) else (1, true))
  else if s = 16 then (if 4 ≤ x then (0, false) else (3 + x, true)) else if s = 17 then (if 8 ≤ x then (0, false) else (3 + x, true)) else (if 128 ≤ x then (0, false) else (11 + x, true))

theorem timesI_no {s x : Int} (h : 18 < s) : timesI s x = (0, false) := if_pos h
theorem own20 : Own Try.prog 20 := own_of Try.func20 (by kernel_rfl) rfl
theorem keep2 {w w' : World} {B : Nat} {u v : Value} (h : w.cell? ⟨B, 0, none⟩ = some u ∧ w.cell? ⟨B, 1, none⟩ = some v) (hb : Below w.heap.size w w') :
    w'.cell? ⟨B, 0, none⟩ = some u ∧ w'.cell? ⟨B, 1, none⟩ = some v :=
  ⟨(hb.cell (World.block_lt_of_cell? w _ h.1)).trans h.1, (hb.cell (World.block_lt_of_cell? w _ h.2)).trans h.2⟩
theorem new2 (w : World) (u v : Value) (t : TypeId) : (w.alloc (.cells #[u, v] t)).cell? ⟨w.heap.size, 0, none⟩ = some u ∧ (w.alloc (.cells #[u, v] t)).cell? ⟨w.heap.size, 1, none⟩ = some v := by
  have h : (w.alloc (.cells #[u, v] t)).heap[w.heap.size]? = some (.cells #[u, v] t (0, 0)) := heap_alloc_last w _
  constructor <;> (unfold World.cell?; rw [h]; rfl)
theorem below_box {w w' : World} {o : Obj} (hb : Below (w.alloc o).heap.size (w.alloc o) w') : Below w.heap.size w w' :=
  ((Below.refl _ w).alloc (Nat.le_refl _) o).trans (hb.mono (by simp))
/-- a row and an extra: the way that all runs go -/
abbrev timesPost (s x : Int) (w : World) (e : Ending) (w' : World) : Prop := e = .returned (.tuple #[.int .i64 (timesI s x).1, .bool (timesI s x).2]) ∧ Below w.heap.size w w'
theorem times_none (s x : Int) (h0 : 18 < s) (w : World) : Calls Try.prog 13 #[.agg #[.int .u8 s, .int .u8 x]] w (timesPost s x w) := by
  unfold timesPost
  rw [timesI_no h0]
  have hbits : bitsI s = (0, false) := by unfold bitsI; rw [if_neg (by omega), if_pos h0]
  have hB := bits_any s (by omega)
  rw [hbits] at hB
  have HB := Lib.hid hB
  clear h0 hbits hB
  go_enter Try.func13, Try.ntmps13
  have hcell := new2 w (.int .u8 s) (.int .u8 x) 33
  go_wp2_with (go_at_call 14; refine (HB.out _).mono ?_; rintro e w' ⟨rfl, hb⟩; have hcell2 := keep2 hcell hb; obtain ⟨q1, q2⟩ := hcell2; clear hcell)
  go_ret2
  exact ⟨rfl, below_box hb⟩

theorem times_lit (s x : Int) (h0 : 0 ≤ s) (h16 : s < 16) (hx : 0 ≤ x) (hx2 : x < 256) (w : World) : Calls Try.prog 13 #[.agg #[.int .u8 s, .int .u8 x]] w (timesPost s x w) := by
  have hbits : bitsI s = (0, true) := by unfold bitsI; rw [if_pos h16]
  have hB := bits_any s h0
  rw [hbits] at hB
  have HB := Lib.hid hB
  have d1 : decide (s < 16) = true := by rw [decide_eq_true_eq]; omega
  have e1 : wrap64 x = x := by unfold wrap64; omega
  have d2 : decide (0 < x) = true ∨ decide (0 < x) = false := by cases decide (0 < x) <;> simp
  have ht : timesI s x = if 0 < x then (0, false) else (1, true) := by unfold timesI; rw [if_neg (by omega), if_pos h16]
  unfold timesPost
  rw [ht]
  clear hbits hB h0 h16 hx hx2 ht
  rcases d2 with d2 | d2
  · rw [if_pos (by simpa using d2)]
    go_enter Try.func13, Try.ntmps13
    have hcell := new2 w (.int .u8 s) (.int .u8 x) 33
    go_wp2_with (go_at_call 14; refine (HB.out _).mono ?_; rintro e w' ⟨rfl, hb⟩; have hcell2 := keep2 hcell hb; obtain ⟨q1, q2⟩ := hcell2; clear hcell)
    go_ret2
    exact ⟨rfl, below_box hb⟩
  · rw [if_neg (by simpa using d2)]
    go_enter Try.func13, Try.ntmps13
    have hcell := new2 w (.int .u8 s) (.int .u8 x) 33
    go_wp2_with (go_at_call 14; refine (HB.out _).mono ?_; rintro e w' ⟨rfl, hb⟩; have hcell2 := keep2 hcell hb; obtain ⟨q1, q2⟩ := hcell2; clear hcell)
    go_ret2
    exact ⟨rfl, below_box hb⟩

theorem times_16 (x : Int) (hx : 0 ≤ x) (hx2 : x < 256) (w : World) : Calls Try.prog 13 #[.agg #[.int .u8 16, .int .u8 x]] w (timesPost 16 x w) := by
  have hB := bits_any 16 (by omega)
  rw [show bitsI 16 = (2, true) from rfl] at hB
  have HB := Lib.hid hB
  have e1 : wrap64 x = x := by unfold wrap64; omega
  have e2 : wrap64 (3 + x) = 3 + x := by unfold wrap64; omega
  have d2 : decide (0 < x / 4) = true ∨ decide (0 < x / 4) = false := by cases decide (0 < x / 4) <;> simp
  have ht : timesI 16 x = if 4 ≤ x then (0, false) else (3 + x, true) := rfl
  have hc : decide (4 ≤ x) = decide (0 < x / 4) := by rw [decide_eq_decide]; omega
  have hc2 : 4 ≤ x ↔ decide (0 < x / 4) = true := by rw [← hc, decide_eq_true_eq]
  have d3 : decide (0 < x / 4) = true → 4 ≤ x := hc2.2
  have d4 : decide (0 < x / 4) = false → ¬ 4 ≤ x := fun h h' => by rw [hc2.1 h'] at h; cases h
  unfold timesPost
  rw [ht]
  have r0 := row_run0
  have r1 := row_run1
  have r2 := row_run2
  have r3 := at_run0
  clear hB hx hx2 ht hc hc2
  rcases d2 with d2 | d2
  · rw [if_pos (d3 d2)]
    clear d3 d4
    go_enter Try.func13, Try.ntmps13
    have hcell := new2 w (.int .u8 16) (.int .u8 x) 33
    go_wp2_with (go_at_call 14; refine (HB.out _).mono ?_; rintro e w' ⟨rfl, hb⟩; have hcell2 := keep2 hcell hb; obtain ⟨q1, q2⟩ := hcell2; clear hcell)
    go_ret2
    exact ⟨rfl, below_box hb⟩
  · rw [if_neg (d4 d2)]
    clear d3 d4
    go_enter Try.func13, Try.ntmps13
    have hcell := new2 w (.int .u8 16) (.int .u8 x) 33
    go_wp2_with (go_at_call 14; refine (HB.out _).mono ?_; rintro e w' ⟨rfl, hb⟩; have hcell2 := keep2 hcell hb; obtain ⟨q1, q2⟩ := hcell2; clear hcell)
    have hHeld : w'.drew.cell? ⟨w.heap.size, 0, none⟩ = some (.int .u8 16) ∧ w'.drew.cell? ⟨w.heap.size, 1, none⟩ = some (.int .u8 x) := ⟨q1, q2⟩
    refine wp_region_T (fun w' => w'.cell? ⟨w.heap.size, 0, none⟩ = some (.int .u8 16) ∧ w'.cell? ⟨w.heap.size, 1, none⟩ = some (.int .u8 x)) [.take 1, .take 2, .take 3, .take 6, .take 7, .take 8, .go 0, .take 4, .take 5, .take 9, .take 10, .take 11] (by kernel_rfl) (by kernel_rfl) (fun _ _ _ _ _ h => h) hHeld ?_
    refine T_light (a' := ?_) 26 rfl rfl rfl (of_decide_eq_true rfl) rfl hHeld (fun wq hSq K Q hK => ?_) ?_
    rotate_left
    · (go_step; exact hK)
    refine T_light (a' := ?_) 27 rfl rfl rfl (of_decide_eq_true rfl) rfl hHeld (fun wq hSq K Q hK => ?_) ?_
    rotate_left
    · ((obtain ⟨q1, q2⟩ := hSq; go_step); exact hK)
    refine T_light (a' := ?_) 28 rfl rfl rfl (of_decide_eq_true rfl) rfl hHeld (fun wq hSq K Q hK => ?_) ?_
    rotate_left
    · (go_step; exact hK)
    refine T_light (a' := ?_) 31 rfl rfl rfl (of_decide_eq_true rfl) rfl hHeld (fun wq hSq K Q hK => ?_) ?_
    rotate_left
    · (go_step; exact hK)
    refine T_light (a' := ?_) 32 rfl rfl rfl (of_decide_eq_true rfl) rfl hHeld (fun wq hSq K Q hK => ?_) ?_
    rotate_left
    · ((obtain ⟨q1, q2⟩ := hSq; go_step); exact hK)
    refine T_light (a' := ?_) 33 rfl rfl rfl (of_decide_eq_true rfl) rfl hHeld (fun wq hSq K Q hK => ?_) ?_
    rotate_left
    · (go_step; exact hK)
    refine T_call own20 25 [] rfl rfl rfl rfl rfl ?_
    refine (rows_calls _).mono ?_; rintro e w2 ⟨rfl, hb2⟩; have hHeld := keep2 hHeld hb2
    refine ⟨_, rfl, hHeld, ?_⟩
    simp only [Act.put, List.setIfInBounds_toArray, List.set_cons_zero, List.set_cons_succ]
    refine T_light (a' := ?_) 29 rfl rfl rfl (of_decide_eq_true rfl) rfl hHeld (fun wq hSq K Q hK => ?_) ?_
    rotate_left
    · (go_step; exact hK)
    refine T_light (a' := ?_) 30 rfl rfl rfl (of_decide_eq_true rfl) rfl hHeld (fun wq hSq K Q hK => ?_) ?_
    rotate_left
    · (go_step; exact hK)
    refine T_light (a' := ?_) 34 rfl rfl rfl (of_decide_eq_true rfl) rfl hHeld (fun wq hSq K Q hK => ?_) ?_
    rotate_left
    · (go_step; exact hK)
    refine T_light (a' := ?_) 2 rfl rfl rfl (of_decide_eq_true rfl) rfl hHeld (fun wq hSq K Q hK => ?_) ?_
    rotate_left
    · (go_step; exact hK)
    refine T_light (a' := ?_) 3 rfl rfl rfl (of_decide_eq_true rfl) rfl hHeld (fun wq hSq K Q hK => ?_) ?_
    rotate_left
    · (go_step; exact hK)
    refine T_done ?_
    go_wp2
    go_ret2
    exact ⟨rfl, (below_box hb).drew.trans (hb2.mono (by have := hb.size; simp at this ⊢; omega))⟩

theorem times_17 (x : Int) (hx : 0 ≤ x) (hx2 : x < 256) (w : World) : Calls Try.prog 13 #[.agg #[.int .u8 17, .int .u8 x]] w (timesPost 17 x w) := by
  have hB := bits_any 17 (by omega)
  rw [show bitsI 17 = (3, true) from rfl] at hB
  have HB := Lib.hid hB
  have e1 : wrap64 x = x := by unfold wrap64; omega
  have e2 : wrap64 (3 + x) = 3 + x := by unfold wrap64; omega
  have d2 : decide (0 < x / 8) = true ∨ decide (0 < x / 8) = false := by cases decide (0 < x / 8) <;> simp
  have ht : timesI 17 x = if 8 ≤ x then (0, false) else (3 + x, true) := rfl
  have hc : decide (8 ≤ x) = decide (0 < x / 8) := by rw [decide_eq_decide]; omega
  have hc2 : 8 ≤ x ↔ decide (0 < x / 8) = true := by rw [← hc, decide_eq_true_eq]
  have d3 : decide (0 < x / 8) = true → 8 ≤ x := hc2.2
  have d4 : decide (0 < x / 8) = false → ¬ 8 ≤ x := fun h h' => by rw [hc2.1 h'] at h; cases h
  unfold timesPost
  rw [ht]
  have r0 := row_run0
  have r1 := row_run1
  have r2 := row_run2
  have r3 := at_run0
  clear hB hx hx2 ht hc hc2
  rcases d2 with d2 | d2
  · rw [if_pos (d3 d2)]
    clear d3 d4
    go_enter Try.func13, Try.ntmps13
    have hcell := new2 w (.int .u8 17) (.int .u8 x) 33
    go_wp2_with (go_at_call 14; refine (HB.out _).mono ?_; rintro e w' ⟨rfl, hb⟩; have hcell2 := keep2 hcell hb; obtain ⟨q1, q2⟩ := hcell2; clear hcell)
    go_ret2
    exact ⟨rfl, below_box hb⟩
  · rw [if_neg (d4 d2)]
    clear d3 d4
    go_enter Try.func13, Try.ntmps13
    have hcell := new2 w (.int .u8 17) (.int .u8 x) 33
    go_wp2_with (go_at_call 14; refine (HB.out _).mono ?_; rintro e w' ⟨rfl, hb⟩; have hcell2 := keep2 hcell hb; obtain ⟨q1, q2⟩ := hcell2; clear hcell)
    have hHeld : w'.drew.cell? ⟨w.heap.size, 0, none⟩ = some (.int .u8 17) ∧ w'.drew.cell? ⟨w.heap.size, 1, none⟩ = some (.int .u8 x) := ⟨q1, q2⟩
    refine wp_region_T (fun w' => w'.cell? ⟨w.heap.size, 0, none⟩ = some (.int .u8 17) ∧ w'.cell? ⟨w.heap.size, 1, none⟩ = some (.int .u8 x)) [.take 1, .take 2, .take 3, .take 6, .take 7, .take 8, .go 0, .take 4, .take 5, .take 9, .take 10, .take 11] (by kernel_rfl) (by kernel_rfl) (fun _ _ _ _ _ h => h) hHeld ?_
    refine T_light (a' := ?_) 26 rfl rfl rfl (of_decide_eq_true rfl) rfl hHeld (fun wq hSq K Q hK => ?_) ?_
    rotate_left
    · (go_step; exact hK)
    refine T_light (a' := ?_) 27 rfl rfl rfl (of_decide_eq_true rfl) rfl hHeld (fun wq hSq K Q hK => ?_) ?_
    rotate_left
    · ((obtain ⟨q1, q2⟩ := hSq; go_step); exact hK)
    refine T_light (a' := ?_) 28 rfl rfl rfl (of_decide_eq_true rfl) rfl hHeld (fun wq hSq K Q hK => ?_) ?_
    rotate_left
    · (go_step; exact hK)
    refine T_light (a' := ?_) 31 rfl rfl rfl (of_decide_eq_true rfl) rfl hHeld (fun wq hSq K Q hK => ?_) ?_
    rotate_left
    · (go_step; exact hK)
    refine T_light (a' := ?_) 32 rfl rfl rfl (of_decide_eq_true rfl) rfl hHeld (fun wq hSq K Q hK => ?_) ?_
    rotate_left
    · ((obtain ⟨q1, q2⟩ := hSq; go_step); exact hK)
    refine T_light (a' := ?_) 33 rfl rfl rfl (of_decide_eq_true rfl) rfl hHeld (fun wq hSq K Q hK => ?_) ?_
    rotate_left
    · (go_step; exact hK)
    refine T_call own20 25 [] rfl rfl rfl rfl rfl ?_
    refine (rows_calls _).mono ?_; rintro e w2 ⟨rfl, hb2⟩; have hHeld := keep2 hHeld hb2
    refine ⟨_, rfl, hHeld, ?_⟩
    simp only [Act.put, List.setIfInBounds_toArray, List.set_cons_zero, List.set_cons_succ]
    refine T_light (a' := ?_) 29 rfl rfl rfl (of_decide_eq_true rfl) rfl hHeld (fun wq hSq K Q hK => ?_) ?_
    rotate_left
    · (go_step; exact hK)
    refine T_light (a' := ?_) 30 rfl rfl rfl (of_decide_eq_true rfl) rfl hHeld (fun wq hSq K Q hK => ?_) ?_
    rotate_left
    · (go_step; exact hK)
    refine T_light (a' := ?_) 34 rfl rfl rfl (of_decide_eq_true rfl) rfl hHeld (fun wq hSq K Q hK => ?_) ?_
    rotate_left
    · (go_step; exact hK)
    refine T_light (a' := ?_) 2 rfl rfl rfl (of_decide_eq_true rfl) rfl hHeld (fun wq hSq K Q hK => ?_) ?_
    rotate_left
    · (go_step; exact hK)
    refine T_light (a' := ?_) 3 rfl rfl rfl (of_decide_eq_true rfl) rfl hHeld (fun wq hSq K Q hK => ?_) ?_
    rotate_left
    · (go_step; exact hK)
    refine T_done ?_
    go_wp2
    go_ret2
    exact ⟨rfl, (below_box hb).drew.trans (hb2.mono (by have := hb.size; simp at this ⊢; omega))⟩

theorem times_18 (x : Int) (hx : 0 ≤ x) (hx2 : x < 256) (w : World) : Calls Try.prog 13 #[.agg #[.int .u8 18, .int .u8 x]] w (timesPost 18 x w) := by
  have hB := bits_any 18 (by omega)
  rw [show bitsI 18 = (7, true) from rfl] at hB
  have HB := Lib.hid hB
  have e1 : wrap64 x = x := by unfold wrap64; omega
  have e2 : wrap64 (11 + x) = 11 + x := by unfold wrap64; omega
  have d2 : decide (0 < x / 128) = true ∨ decide (0 < x / 128) = false := by cases decide (0 < x / 128) <;> simp
  have ht : timesI 18 x = if 128 ≤ x then (0, false) else (11 + x, true) := rfl
  have hc : decide (128 ≤ x) = decide (0 < x / 128) := by rw [decide_eq_decide]; omega
  have hc2 : 128 ≤ x ↔ decide (0 < x / 128) = true := by rw [← hc, decide_eq_true_eq]
  have d3 : decide (0 < x / 128) = true → 128 ≤ x := hc2.2
  have d4 : decide (0 < x / 128) = false → ¬ 128 ≤ x := fun h h' => by rw [hc2.1 h'] at h; cases h
  unfold timesPost
  rw [ht]
  have r0 := row_run0
  have r1 := row_run1
  have r2 := row_run2
  have r3 := at_run0
  clear hB hx hx2 ht hc hc2
  rcases d2 with d2 | d2
  · rw [if_pos (d3 d2)]
    clear d3 d4
    go_enter Try.func13, Try.ntmps13
    have hcell := new2 w (.int .u8 18) (.int .u8 x) 33
    go_wp2_with (go_at_call 14; refine (HB.out _).mono ?_; rintro e w' ⟨rfl, hb⟩; have hcell2 := keep2 hcell hb; obtain ⟨q1, q2⟩ := hcell2; clear hcell)
    go_ret2
    exact ⟨rfl, below_box hb⟩
  · rw [if_neg (d4 d2)]
    clear d3 d4
    go_enter Try.func13, Try.ntmps13
    have hcell := new2 w (.int .u8 18) (.int .u8 x) 33
    go_wp2_with (go_at_call 14; refine (HB.out _).mono ?_; rintro e w' ⟨rfl, hb⟩; have hcell2 := keep2 hcell hb; obtain ⟨q1, q2⟩ := hcell2; clear hcell)
    have hHeld : w'.drew.cell? ⟨w.heap.size, 0, none⟩ = some (.int .u8 18) ∧ w'.drew.cell? ⟨w.heap.size, 1, none⟩ = some (.int .u8 x) := ⟨q1, q2⟩
    refine wp_region_T (fun w' => w'.cell? ⟨w.heap.size, 0, none⟩ = some (.int .u8 18) ∧ w'.cell? ⟨w.heap.size, 1, none⟩ = some (.int .u8 x)) [.take 1, .take 2, .take 3, .take 6, .take 7, .take 8, .go 0, .take 4, .take 5, .take 9, .take 10, .take 11] (by kernel_rfl) (by kernel_rfl) (fun _ _ _ _ _ h => h) hHeld ?_
    refine T_light (a' := ?_) 26 rfl rfl rfl (of_decide_eq_true rfl) rfl hHeld (fun wq hSq K Q hK => ?_) ?_
    rotate_left
    · (go_step; exact hK)
    refine T_light (a' := ?_) 27 rfl rfl rfl (of_decide_eq_true rfl) rfl hHeld (fun wq hSq K Q hK => ?_) ?_
    rotate_left
    · ((obtain ⟨q1, q2⟩ := hSq; go_step); exact hK)
    refine T_light (a' := ?_) 28 rfl rfl rfl (of_decide_eq_true rfl) rfl hHeld (fun wq hSq K Q hK => ?_) ?_
    rotate_left
    · (go_step; exact hK)
    refine T_light (a' := ?_) 31 rfl rfl rfl (of_decide_eq_true rfl) rfl hHeld (fun wq hSq K Q hK => ?_) ?_
    rotate_left
    · (go_step; exact hK)
    refine T_light (a' := ?_) 32 rfl rfl rfl (of_decide_eq_true rfl) rfl hHeld (fun wq hSq K Q hK => ?_) ?_
    rotate_left
    · ((obtain ⟨q1, q2⟩ := hSq; go_step); exact hK)
    refine T_light (a' := ?_) 33 rfl rfl rfl (of_decide_eq_true rfl) rfl hHeld (fun wq hSq K Q hK => ?_) ?_
    rotate_left
    · (go_step; exact hK)
    refine T_call own20 25 [] rfl rfl rfl rfl rfl ?_
    refine (rows_calls _).mono ?_; rintro e w2 ⟨rfl, hb2⟩; have hHeld := keep2 hHeld hb2
    refine ⟨_, rfl, hHeld, ?_⟩
    simp only [Act.put, List.setIfInBounds_toArray, List.set_cons_zero, List.set_cons_succ]
    refine T_light (a' := ?_) 29 rfl rfl rfl (of_decide_eq_true rfl) rfl hHeld (fun wq hSq K Q hK => ?_) ?_
    rotate_left
    · (go_step; exact hK)
    refine T_light (a' := ?_) 30 rfl rfl rfl (of_decide_eq_true rfl) rfl hHeld (fun wq hSq K Q hK => ?_) ?_
    rotate_left
    · (go_step; exact hK)
    refine T_light (a' := ?_) 34 rfl rfl rfl (of_decide_eq_true rfl) rfl hHeld (fun wq hSq K Q hK => ?_) ?_
    rotate_left
    · (go_step; exact hK)
    refine T_light (a' := ?_) 2 rfl rfl rfl (of_decide_eq_true rfl) rfl hHeld (fun wq hSq K Q hK => ?_) ?_
    rotate_left
    · (go_step; exact hK)
    refine T_light (a' := ?_) 3 rfl rfl rfl (of_decide_eq_true rfl) rfl hHeld (fun wq hSq K Q hK => ?_) ?_
    rotate_left
    · (go_step; exact hK)
    refine T_done ?_
    go_wp2
    go_ret2
    exact ⟨rfl, (below_box hb).drew.trans (hb2.mono (by have := hb.size; simp at this ⊢; omega))⟩

theorem times_any (s x : Int) (h0 : 0 ≤ s) (h1 : s < 256) (hx : 0 ≤ x) (hx2 : x < 256) (w : World) : Calls Try.prog 13 #[.agg #[.int .u8 s, .int .u8 x]] w (timesPost s x w) := by
  by_cases h : 18 < s
  · exact times_none s x h w
  · by_cases h' : s < 16
    · exact times_lit s x h0 h' hx hx2 w
    · rcases (by omega : s = 16 ∨ s = 17 ∨ s = 18) with rfl | rfl | rfl
      · exact times_16 x hx hx2 w
      · exact times_17 x hx hx2 w
      · exact times_18 x hx hx2 w

end Go.Proofs.Ytkoohabljjbliaa
