/-
  Runs: what 'repeats' comes to (a contract, by hand).
-/
import Derived.Test.YtkoohabljjbliaaHand
import Derived.Test.YtkoohabljjbliaaG
set_option linter.unusedSimpArgs false
set_option linter.unusedVariables false
namespace Go.Proofs.Ytkoohabljjbliaa
open Go.RowKit
attribute [local go_sem] Oper.semAt_some

/-- what a round keeps: what lay below n, and all cells but those of the types 23 and 33 -/
structure Keep (n : Nat) (W W' : World) : Prop where
  below : Below n W W'
  cells : ∀ (k : Nat) (cs : Array Value) (t : TypeId) (z : Nat × Nat), W.heap[k]? = some (.cells cs t z) → t ≠ 23 → t ≠ 33 → W'.heap[k]? = some (.cells cs t z)
theorem Keep.refl (n : Nat) (W : World) : Keep n W W := ⟨Below.refl _ _, fun _ _ _ _ h _ _ => h⟩
theorem Keep.trans {n : Nat} {A B C : World} (h : Keep n A B) (k : Keep n B C) : Keep n A C := ⟨h.below.trans k.below, fun i cs t z hi h1 h2 => k.cells i cs t z (h.cells i cs t z hi h1 h2) h1 h2⟩
theorem Keep.of_below {n : Nat} {A B : World} (h : Below A.heap.size A B) (hn : n ≤ A.heap.size) : Keep n A B :=
  ⟨h.mono hn, fun k cs t z hk _ _ => (h.block k (Array.getElem?_eq_some_iff.1 hk).1).trans hk⟩

/-- how n of a symbol are told, and how many are left -/
def reps (s least most : Nat) (n : Nat) : List (Int × Int) × Nat :=
  if h : 0 < least ∧ least ≤ most ∧ least ≤ n then let r := reps s least most (n - min n most); (((s : Int), ((min n most - least : Nat) : Int)) :: r.1, r.2) else ([], n)
termination_by n
decreasing_by omega
theorem reps_lt (s : Nat) {least most n : Nat} (h : n < least) : reps s least most n = ([], n) := by rw [reps, dif_neg (by omega)]
theorem reps_ge (s : Nat) {least most n : Nat} (h0 : 0 < least) (h1 : least ≤ most) (h : least ≤ n) :
    reps s least most n = (((s : Int), ((min n most - least : Nat) : Int)) :: (reps s least most (n - min n most)).1, (reps s least most (n - min n most)).2) := by rw [reps, dif_pos ⟨h0, h1, h⟩]

abbrev encR (x : Int × Int) : Value := .agg #[.int .u8 x.1, .int .u8 x.2]
abbrev Rounds (l N n₀ : Nat) (J : List (Int × Int) → World → Prop) : Prop :=
  ∀ pre x W, J pre W → pre.length < N → YieldAt Fence.wide 0 Try.prog l #[encR x] W fun e W' => e = .returned (.bool true) ∧ J (pre ++ [x]) W' ∧ Keep n₀ W W'
theorem row_new (w : World) (u v : Value) (t : TypeId) : (w.alloc (.cells #[u, v] t)).heap[w.heap.size]? = some (.cells #[u, v] t (0, 0)) := heap_alloc_last w _
theorem cells_of {w : World} {B : Nat} {u v : Value} {t : TypeId} (h : w.heap[B]? = some (.cells #[u, v] t (0, 0))) : w.cell? ⟨B, 0, none⟩ = some u ∧ w.cell? ⟨B, 1, none⟩ = some v := by
  constructor <;> (unfold World.cell?; rw [h]; rfl)

set_option maxHeartbeats 1000000 in
theorem repeats_16 (l N n₀ n : Nat) (J : List (Int × Int) → World → Prop) (hJ : ∀ s A B, J s A → Below A.heap.size A B → J s B) (hY : Rounds l N n₀ J)
    (pre : List (Int × Int)) (w : World) (hn₀ : n₀ ≤ w.heap.size) (hN : pre.length + n ≤ N) (hn : n < 4611686018427387904) (h0 : J pre w) :
    Calls Try.prog 22 #[.int .i64 (n : Int), .int .u8 16, .func (.yield l) #[] #[]] w fun e w' =>
      e = .returned (.tuple #[.int .i64 ((reps 16 3 6 n).2 : Nat), .bool true]) ∧ J (pre ++ (reps 16 3 6 n).1) w' ∧ Keep n₀ w w' := by
  have r0 := row_run0
  have r1 := row_run1
  have r2 := row_run2
  have HJ := Lib.hid hJ
  have HY := Lib.hid hY
  have HN := Lib.hid (And.intro hn₀ (And.intro hN hn))
  have H0 := Lib.hid h0
  clear hJ hY hn₀ hN hn h0
  go_enter Try.func22, Try.ntmps22
  go_wp2_with (go_at_call 20; refine (rows_calls _).mono ?_; rintro e w1 ⟨rfl, hb1⟩)
  have hHeld : (w1.alloc (.cells #[.int .i64 3, .int .i64 2] 49)).drew.cell? ⟨w1.heap.size, 0, none⟩ = some (.int .i64 3) ∧ (w1.alloc (.cells #[.int .i64 3, .int .i64 2] 49)).drew.cell? ⟨w1.heap.size, 1, none⟩ = some (.int .i64 2) := new2 w1 _ _ 49
  refine wp_region_T (fun w' => w'.cell? ⟨w1.heap.size, 0, none⟩ = some (.int .i64 3) ∧ w'.cell? ⟨w1.heap.size, 1, none⟩ = some (.int .i64 2)) [.take 0, .take 1, .take 2, .take 3, .take 4, .take 5, .take 6, .take 7] (by kernel_rfl) (by kernel_rfl) (fun _ _ _ _ _ h => h) hHeld ?_
  refine T_light (a' := ?_) 15 rfl rfl rfl (of_decide_eq_true rfl) rfl hHeld (fun wq hSq K Q hK => ?_) ?_
  rotate_left
  · (go_step; exact hK)
  refine T_light (a' := ?_) 16 rfl rfl rfl (of_decide_eq_true rfl) rfl hHeld (fun wq hSq K Q hK => ?_) ?_
  rotate_left
  · ((obtain ⟨q1, q2⟩ := hSq; go_step); exact hK)
  refine T_light (a' := ?_) 17 rfl rfl rfl (of_decide_eq_true rfl) rfl hHeld (fun wq hSq K Q hK => ?_) ?_
  rotate_left
  · (go_step; exact hK)
  refine T_light (a' := ?_) 18 rfl rfl rfl (of_decide_eq_true rfl) rfl hHeld (fun wq hSq K Q hK => ?_) ?_
  rotate_left
  · ((obtain ⟨q1, q2⟩ := hSq; go_step); exact hK)
  refine T_light (a' := ?_) 19 rfl rfl rfl (of_decide_eq_true rfl) rfl hHeld (fun wq hSq K Q hK => ?_) ?_
  rotate_left
  · (go_step; exact hK)
  refine T_light (a' := ?_) 20 rfl rfl rfl (of_decide_eq_true rfl) rfl hHeld (fun wq hSq K Q hK => ?_) ?_
  rotate_left
  · (go_step; exact hK)
  refine T_light (a' := ?_) 21 rfl rfl rfl (of_decide_eq_true rfl) rfl hHeld (fun wq hSq K Q hK => ?_) ?_
  rotate_left
  · (go_step; exact hK)
  refine T_light (a' := ?_) 9 rfl rfl rfl (of_decide_eq_true rfl) rfl hHeld (fun wq hSq K Q hK => ?_) ?_
  rotate_left
  · (go_step; exact hK)
  refine T_done ?_
  go_wp2
  obtain ⟨W0, hW0⟩ : ∃ W0, (w1.alloc (.cells #[.int .i64 3, .int .i64 2] 49)).drew = W0 := ⟨_, rfl⟩
  have hrow : W0.heap[w1.heap.size]? = some (.cells #[.int .i64 3, .int .i64 2] 49 (0, 0)) := by rw [← hW0]; exact row_new w1 _ _ 49
  have hB0 : Below w.heap.size w W0 := by rw [← hW0]; exact (hb1.alloc hb1.size _).drew
  rw [hW0]
  clear hHeld r0 r1 r2
  have HROW := Lib.hid hrow
  have HB0 := Lib.hid hB0
  clear hrow hB0 hW0 hb1
  refine (wpIn_wide (n := 0)).1 ?_
  gi_loopw [0] (fun i wr => ∃ (m : Nat) (e : List (Int × Int)), i = .int .i64 (m : Int) ∧ m + e.length ≤ n ∧ Hid (reps 16 3 6 n = (e ++ (reps 16 3 6 m).1, (reps 16 3 6 m).2)) ∧ Hid (J (pre ++ e) wr) ∧ Hid (Keep n₀ W0 wr))
    (fun i _ => (intOf i).toNat)
  case atStart => exact ⟨n, [], rfl, by simp, Lib.hid (by simp), Lib.hid (by rw [List.append_nil]; exact HJ.out _ _ _ H0.out HB0.out), Lib.hid (Keep.refl _ _)⟩
  case round =>
    obtain ⟨m, e, rfl, hme, HR, HJr, HK⟩ := hrel
    have hrowr := cells_of (HK.out.cells _ _ _ _ HROW.out (by decide) (by decide))
    obtain ⟨q1, q2⟩ := hrowr
    by_cases hlt : m < 3
    · have d1 : decide ((3 : Int) ≤ (m : Int)) = false := by rw [decide_eq_false_iff_not]; omega
      have d2 : decide (3 ≤ m) = false := by rw [decide_eq_false_iff_not]; omega
      have HLT := Lib.hid hlt
      clear hlt hme
      gi_wp2
      go_wp2
      go_ret2
      have hr := HR.out
      rw [reps_lt 16 HLT.out] at hr
      rw [hr]
      exact ⟨rfl, by simpa using HJr.out, (Keep.of_below HB0.out HN.out.1).trans HK.out⟩
    · have d1 : decide ((3 : Int) ≤ (m : Int)) = true := by rw [decide_eq_true_eq]; omega
      have d2 : decide (3 ≤ m) = true := by rw [decide_eq_true_eq]; omega
      have HLT := Lib.hid (And.intro hlt hme)
      have hroom : pre.length + e.length < N := by have := HN.out; omega
      have hlen : (pre ++ e).length < N := by rw [List.length_append]; exact hroom
      have hge := reps_ge 16 (least := 3) (most := 6) (n := m) (by omega) (by omega) (by omega)
      rcases (by omega : m ≤ 6 ∨ 6 < m) with h | h
      · have dm : (m : Int) ≤ 6 := by omega
        have e3 := Lib.hid (show ((m : Int) - 3) % 256 = (m : Int) - 3 by omega)
        obtain ⟨fn, tmps, assign, body, hy, hR⟩ := HY.out (pre ++ e) ((16 : Int), ((m : Int) - 3) % 256) wr HJr.out hlen
        rw [show min m 6 = m by omega, show ((m - 3 : Nat) : Int) = (m : Int) - 3 by omega, Nat.sub_self] at hge
        have HGE := Lib.hid hge
        clear hlt hme hroom hlen h hge
        gi_wp2
        refine ⟨rfl, hR.mono ?_⟩
        rintro e' W' ⟨rfl, hJ', hK'⟩
        have hJ' : J (pre ++ e ++ [((16 : Int), (m : Int) - 3)]) W' := e3.out ▸ hJ'
        have HJ' := Lib.hid hJ'
        have HK' := Lib.hid hK'
        clear hJ' hK' hy hR e3
        gi_wp2
        go_roundw
        case rel => exact ⟨0, e ++ [((16 : Int), (m : Int) - 3)], by simp, by have := HLT.out; simp; omega, Lib.hid (by rw [HR.out, HGE.out]; simp), Lib.hid (by rw [← List.append_assoc]; exact HJ'.out), Lib.hid (HK.out.trans HK'.out)⟩
        case measure => have := HLT.out; simp [intOf]; omega
      · have dm : ¬ ((m : Int) ≤ 6) := by omega
        have E4 := Lib.hid (show wrap64 ((m : Int) - 6) = ((m - 6 : Nat) : Int) by have := HN.out; unfold wrap64; omega)
        obtain ⟨fn, tmps, assign, body, hy, hR⟩ := HY.out (pre ++ e) ((16 : Int), 3) wr HJr.out hlen
        rw [show min m 6 = 6 by omega] at hge
        have HGE := Lib.hid hge
        have HLT2 := Lib.hid h
        clear hlt hme hroom hlen hge h
        gi_wp2
        refine ⟨rfl, hR.mono ?_⟩
        rintro e' W' ⟨rfl, hJ', hK'⟩
        have HJ' := Lib.hid hJ'
        have HK' := Lib.hid hK'
        clear hJ' hK' hy hR
        gi_wp2
        go_roundw
        case rel => exact ⟨m - 6, e ++ [((16 : Int), 3)], by rw [E4.out], by have := HLT.out; simp; omega, Lib.hid (by rw [HR.out, HGE.out]; simp), Lib.hid (by rw [← List.append_assoc]; exact HJ'.out), Lib.hid (HK.out.trans HK'.out)⟩
        case measure => have := HLT2.out; simp only [intOf]; rw [E4.out]; simp; omega

set_option maxHeartbeats 1000000 in
theorem repeats_17 (l N n₀ n : Nat) (J : List (Int × Int) → World → Prop) (hJ : ∀ s A B, J s A → Below A.heap.size A B → J s B) (hY : Rounds l N n₀ J)
    (pre : List (Int × Int)) (w : World) (hn₀ : n₀ ≤ w.heap.size) (hN : pre.length + n ≤ N) (hn : n < 4611686018427387904) (h0 : J pre w) :
    Calls Try.prog 22 #[.int .i64 (n : Int), .int .u8 17, .func (.yield l) #[] #[]] w fun e w' =>
      e = .returned (.tuple #[.int .i64 ((reps 17 3 10 n).2 : Nat), .bool true]) ∧ J (pre ++ (reps 17 3 10 n).1) w' ∧ Keep n₀ w w' := by
  have r0 := row_run0
  have r1 := row_run1
  have r2 := row_run2
  have HJ := Lib.hid hJ
  have HY := Lib.hid hY
  have HN := Lib.hid (And.intro hn₀ (And.intro hN hn))
  have H0 := Lib.hid h0
  clear hJ hY hn₀ hN hn h0
  go_enter Try.func22, Try.ntmps22
  go_wp2_with (go_at_call 20; refine (rows_calls _).mono ?_; rintro e w1 ⟨rfl, hb1⟩)
  have hHeld : (w1.alloc (.cells #[.int .i64 3, .int .i64 3] 49)).drew.cell? ⟨w1.heap.size, 0, none⟩ = some (.int .i64 3) ∧ (w1.alloc (.cells #[.int .i64 3, .int .i64 3] 49)).drew.cell? ⟨w1.heap.size, 1, none⟩ = some (.int .i64 3) := new2 w1 _ _ 49
  refine wp_region_T (fun w' => w'.cell? ⟨w1.heap.size, 0, none⟩ = some (.int .i64 3) ∧ w'.cell? ⟨w1.heap.size, 1, none⟩ = some (.int .i64 3)) [.take 0, .take 1, .take 2, .take 3, .take 4, .take 5, .take 6, .take 7] (by kernel_rfl) (by kernel_rfl) (fun _ _ _ _ _ h => h) hHeld ?_
  refine T_light (a' := ?_) 15 rfl rfl rfl (of_decide_eq_true rfl) rfl hHeld (fun wq hSq K Q hK => ?_) ?_
  rotate_left
  · (go_step; exact hK)
  refine T_light (a' := ?_) 16 rfl rfl rfl (of_decide_eq_true rfl) rfl hHeld (fun wq hSq K Q hK => ?_) ?_
  rotate_left
  · ((obtain ⟨q1, q2⟩ := hSq; go_step); exact hK)
  refine T_light (a' := ?_) 17 rfl rfl rfl (of_decide_eq_true rfl) rfl hHeld (fun wq hSq K Q hK => ?_) ?_
  rotate_left
  · (go_step; exact hK)
  refine T_light (a' := ?_) 18 rfl rfl rfl (of_decide_eq_true rfl) rfl hHeld (fun wq hSq K Q hK => ?_) ?_
  rotate_left
  · ((obtain ⟨q1, q2⟩ := hSq; go_step); exact hK)
  refine T_light (a' := ?_) 19 rfl rfl rfl (of_decide_eq_true rfl) rfl hHeld (fun wq hSq K Q hK => ?_) ?_
  rotate_left
  · (go_step; exact hK)
  refine T_light (a' := ?_) 20 rfl rfl rfl (of_decide_eq_true rfl) rfl hHeld (fun wq hSq K Q hK => ?_) ?_
  rotate_left
  · (go_step; exact hK)
  refine T_light (a' := ?_) 21 rfl rfl rfl (of_decide_eq_true rfl) rfl hHeld (fun wq hSq K Q hK => ?_) ?_
  rotate_left
  · (go_step; exact hK)
  refine T_light (a' := ?_) 9 rfl rfl rfl (of_decide_eq_true rfl) rfl hHeld (fun wq hSq K Q hK => ?_) ?_
  rotate_left
  · (go_step; exact hK)
  refine T_done ?_
  go_wp2
  obtain ⟨W0, hW0⟩ : ∃ W0, (w1.alloc (.cells #[.int .i64 3, .int .i64 3] 49)).drew = W0 := ⟨_, rfl⟩
  have hrow : W0.heap[w1.heap.size]? = some (.cells #[.int .i64 3, .int .i64 3] 49 (0, 0)) := by rw [← hW0]; exact row_new w1 _ _ 49
  have hB0 : Below w.heap.size w W0 := by rw [← hW0]; exact (hb1.alloc hb1.size _).drew
  rw [hW0]
  clear hHeld r0 r1 r2
  have HROW := Lib.hid hrow
  have HB0 := Lib.hid hB0
  clear hrow hB0 hW0 hb1
  refine (wpIn_wide (n := 0)).1 ?_
  gi_loopw [0] (fun i wr => ∃ (m : Nat) (e : List (Int × Int)), i = .int .i64 (m : Int) ∧ m + e.length ≤ n ∧ Hid (reps 17 3 10 n = (e ++ (reps 17 3 10 m).1, (reps 17 3 10 m).2)) ∧ Hid (J (pre ++ e) wr) ∧ Hid (Keep n₀ W0 wr))
    (fun i _ => (intOf i).toNat)
  case atStart => exact ⟨n, [], rfl, by simp, Lib.hid (by simp), Lib.hid (by rw [List.append_nil]; exact HJ.out _ _ _ H0.out HB0.out), Lib.hid (Keep.refl _ _)⟩
  case round =>
    obtain ⟨m, e, rfl, hme, HR, HJr, HK⟩ := hrel
    have hrowr := cells_of (HK.out.cells _ _ _ _ HROW.out (by decide) (by decide))
    obtain ⟨q1, q2⟩ := hrowr
    by_cases hlt : m < 3
    · have d1 : decide ((3 : Int) ≤ (m : Int)) = false := by rw [decide_eq_false_iff_not]; omega
      have d2 : decide (3 ≤ m) = false := by rw [decide_eq_false_iff_not]; omega
      have HLT := Lib.hid hlt
      clear hlt hme
      gi_wp2
      go_wp2
      go_ret2
      have hr := HR.out
      rw [reps_lt 17 HLT.out] at hr
      rw [hr]
      exact ⟨rfl, by simpa using HJr.out, (Keep.of_below HB0.out HN.out.1).trans HK.out⟩
    · have d1 : decide ((3 : Int) ≤ (m : Int)) = true := by rw [decide_eq_true_eq]; omega
      have d2 : decide (3 ≤ m) = true := by rw [decide_eq_true_eq]; omega
      have HLT := Lib.hid (And.intro hlt hme)
      have hroom : pre.length + e.length < N := by have := HN.out; omega
      have hlen : (pre ++ e).length < N := by rw [List.length_append]; exact hroom
      have hge := reps_ge 17 (least := 3) (most := 10) (n := m) (by omega) (by omega) (by omega)
      rcases (by omega : m ≤ 10 ∨ 10 < m) with h | h
      · have dm : (m : Int) ≤ 10 := by omega
        have e3 := Lib.hid (show ((m : Int) - 3) % 256 = (m : Int) - 3 by omega)
        obtain ⟨fn, tmps, assign, body, hy, hR⟩ := HY.out (pre ++ e) ((17 : Int), ((m : Int) - 3) % 256) wr HJr.out hlen
        rw [show min m 10 = m by omega, show ((m - 3 : Nat) : Int) = (m : Int) - 3 by omega, Nat.sub_self] at hge
        have HGE := Lib.hid hge
        clear hlt hme hroom hlen h hge
        gi_wp2
        refine ⟨rfl, hR.mono ?_⟩
        rintro e' W' ⟨rfl, hJ', hK'⟩
        have hJ' : J (pre ++ e ++ [((17 : Int), (m : Int) - 3)]) W' := e3.out ▸ hJ'
        have HJ' := Lib.hid hJ'
        have HK' := Lib.hid hK'
        clear hJ' hK' hy hR e3
        gi_wp2
        go_roundw
        case rel => exact ⟨0, e ++ [((17 : Int), (m : Int) - 3)], by simp, by have := HLT.out; simp; omega, Lib.hid (by rw [HR.out, HGE.out]; simp), Lib.hid (by rw [← List.append_assoc]; exact HJ'.out), Lib.hid (HK.out.trans HK'.out)⟩
        case measure => have := HLT.out; simp [intOf]; omega
      · have dm : ¬ ((m : Int) ≤ 10) := by omega
        have E4 := Lib.hid (show wrap64 ((m : Int) - 10) = ((m - 10 : Nat) : Int) by have := HN.out; unfold wrap64; omega)
        obtain ⟨fn, tmps, assign, body, hy, hR⟩ := HY.out (pre ++ e) ((17 : Int), 7) wr HJr.out hlen
        rw [show min m 10 = 10 by omega] at hge
        have HGE := Lib.hid hge
        have HLT2 := Lib.hid h
        clear hlt hme hroom hlen hge h
        gi_wp2
        refine ⟨rfl, hR.mono ?_⟩
        rintro e' W' ⟨rfl, hJ', hK'⟩
        have HJ' := Lib.hid hJ'
        have HK' := Lib.hid hK'
        clear hJ' hK' hy hR
        gi_wp2
        go_roundw
        case rel => exact ⟨m - 10, e ++ [((17 : Int), 7)], by rw [E4.out], by have := HLT.out; simp; omega, Lib.hid (by rw [HR.out, HGE.out]; simp), Lib.hid (by rw [← List.append_assoc]; exact HJ'.out), Lib.hid (HK.out.trans HK'.out)⟩
        case measure => have := HLT2.out; simp only [intOf]; rw [E4.out]; simp; omega

set_option maxHeartbeats 1000000 in
theorem repeats_18 (l N n₀ n : Nat) (J : List (Int × Int) → World → Prop) (hJ : ∀ s A B, J s A → Below A.heap.size A B → J s B) (hY : Rounds l N n₀ J)
    (pre : List (Int × Int)) (w : World) (hn₀ : n₀ ≤ w.heap.size) (hN : pre.length + n ≤ N) (hn : n < 4611686018427387904) (h0 : J pre w) :
    Calls Try.prog 22 #[.int .i64 (n : Int), .int .u8 18, .func (.yield l) #[] #[]] w fun e w' =>
      e = .returned (.tuple #[.int .i64 ((reps 18 11 138 n).2 : Nat), .bool true]) ∧ J (pre ++ (reps 18 11 138 n).1) w' ∧ Keep n₀ w w' := by
  have r0 := row_run0
  have r1 := row_run1
  have r2 := row_run2
  have HJ := Lib.hid hJ
  have HY := Lib.hid hY
  have HN := Lib.hid (And.intro hn₀ (And.intro hN hn))
  have H0 := Lib.hid h0
  clear hJ hY hn₀ hN hn h0
  go_enter Try.func22, Try.ntmps22
  go_wp2_with (go_at_call 20; refine (rows_calls _).mono ?_; rintro e w1 ⟨rfl, hb1⟩)
  have hHeld : (w1.alloc (.cells #[.int .i64 11, .int .i64 7] 49)).drew.cell? ⟨w1.heap.size, 0, none⟩ = some (.int .i64 11) ∧ (w1.alloc (.cells #[.int .i64 11, .int .i64 7] 49)).drew.cell? ⟨w1.heap.size, 1, none⟩ = some (.int .i64 7) := new2 w1 _ _ 49
  refine wp_region_T (fun w' => w'.cell? ⟨w1.heap.size, 0, none⟩ = some (.int .i64 11) ∧ w'.cell? ⟨w1.heap.size, 1, none⟩ = some (.int .i64 7)) [.take 0, .take 1, .take 2, .take 3, .take 4, .take 5, .take 6, .take 7] (by kernel_rfl) (by kernel_rfl) (fun _ _ _ _ _ h => h) hHeld ?_
  refine T_light (a' := ?_) 15 rfl rfl rfl (of_decide_eq_true rfl) rfl hHeld (fun wq hSq K Q hK => ?_) ?_
  rotate_left
  · (go_step; exact hK)
  refine T_light (a' := ?_) 16 rfl rfl rfl (of_decide_eq_true rfl) rfl hHeld (fun wq hSq K Q hK => ?_) ?_
  rotate_left
  · ((obtain ⟨q1, q2⟩ := hSq; go_step); exact hK)
  refine T_light (a' := ?_) 17 rfl rfl rfl (of_decide_eq_true rfl) rfl hHeld (fun wq hSq K Q hK => ?_) ?_
  rotate_left
  · (go_step; exact hK)
  refine T_light (a' := ?_) 18 rfl rfl rfl (of_decide_eq_true rfl) rfl hHeld (fun wq hSq K Q hK => ?_) ?_
  rotate_left
  · ((obtain ⟨q1, q2⟩ := hSq; go_step); exact hK)
  refine T_light (a' := ?_) 19 rfl rfl rfl (of_decide_eq_true rfl) rfl hHeld (fun wq hSq K Q hK => ?_) ?_
  rotate_left
  · (go_step; exact hK)
  refine T_light (a' := ?_) 20 rfl rfl rfl (of_decide_eq_true rfl) rfl hHeld (fun wq hSq K Q hK => ?_) ?_
  rotate_left
  · (go_step; exact hK)
  refine T_light (a' := ?_) 21 rfl rfl rfl (of_decide_eq_true rfl) rfl hHeld (fun wq hSq K Q hK => ?_) ?_
  rotate_left
  · (go_step; exact hK)
  refine T_light (a' := ?_) 9 rfl rfl rfl (of_decide_eq_true rfl) rfl hHeld (fun wq hSq K Q hK => ?_) ?_
  rotate_left
  · (go_step; exact hK)
  refine T_done ?_
  go_wp2
  obtain ⟨W0, hW0⟩ : ∃ W0, (w1.alloc (.cells #[.int .i64 11, .int .i64 7] 49)).drew = W0 := ⟨_, rfl⟩
  have hrow : W0.heap[w1.heap.size]? = some (.cells #[.int .i64 11, .int .i64 7] 49 (0, 0)) := by rw [← hW0]; exact row_new w1 _ _ 49
  have hB0 : Below w.heap.size w W0 := by rw [← hW0]; exact (hb1.alloc hb1.size _).drew
  rw [hW0]
  clear hHeld r0 r1 r2
  have HROW := Lib.hid hrow
  have HB0 := Lib.hid hB0
  clear hrow hB0 hW0 hb1
  refine (wpIn_wide (n := 0)).1 ?_
  gi_loopw [0] (fun i wr => ∃ (m : Nat) (e : List (Int × Int)), i = .int .i64 (m : Int) ∧ m + e.length ≤ n ∧ Hid (reps 18 11 138 n = (e ++ (reps 18 11 138 m).1, (reps 18 11 138 m).2)) ∧ Hid (J (pre ++ e) wr) ∧ Hid (Keep n₀ W0 wr))
    (fun i _ => (intOf i).toNat)
  case atStart => exact ⟨n, [], rfl, by simp, Lib.hid (by simp), Lib.hid (by rw [List.append_nil]; exact HJ.out _ _ _ H0.out HB0.out), Lib.hid (Keep.refl _ _)⟩
  case round =>
    obtain ⟨m, e, rfl, hme, HR, HJr, HK⟩ := hrel
    have hrowr := cells_of (HK.out.cells _ _ _ _ HROW.out (by decide) (by decide))
    obtain ⟨q1, q2⟩ := hrowr
    by_cases hlt : m < 11
    · have d1 : decide ((11 : Int) ≤ (m : Int)) = false := by rw [decide_eq_false_iff_not]; omega
      have d2 : decide (11 ≤ m) = false := by rw [decide_eq_false_iff_not]; omega
      have HLT := Lib.hid hlt
      clear hlt hme
      gi_wp2
      go_wp2
      go_ret2
      have hr := HR.out
      rw [reps_lt 18 HLT.out] at hr
      rw [hr]
      exact ⟨rfl, by simpa using HJr.out, (Keep.of_below HB0.out HN.out.1).trans HK.out⟩
    · have d1 : decide ((11 : Int) ≤ (m : Int)) = true := by rw [decide_eq_true_eq]; omega
      have d2 : decide (11 ≤ m) = true := by rw [decide_eq_true_eq]; omega
      have HLT := Lib.hid (And.intro hlt hme)
      have hroom : pre.length + e.length < N := by have := HN.out; omega
      have hlen : (pre ++ e).length < N := by rw [List.length_append]; exact hroom
      have hge := reps_ge 18 (least := 11) (most := 138) (n := m) (by omega) (by omega) (by omega)
      rcases (by omega : m ≤ 138 ∨ 138 < m) with h | h
      · have dm : (m : Int) ≤ 138 := by omega
        have e3 := Lib.hid (show ((m : Int) - 11) % 256 = (m : Int) - 11 by omega)
        obtain ⟨fn, tmps, assign, body, hy, hR⟩ := HY.out (pre ++ e) ((18 : Int), ((m : Int) - 11) % 256) wr HJr.out hlen
        rw [show min m 138 = m by omega, show ((m - 11 : Nat) : Int) = (m : Int) - 11 by omega, Nat.sub_self] at hge
        have HGE := Lib.hid hge
        clear hlt hme hroom hlen h hge
        gi_wp2
        refine ⟨rfl, hR.mono ?_⟩
        rintro e' W' ⟨rfl, hJ', hK'⟩
        have hJ' : J (pre ++ e ++ [((18 : Int), (m : Int) - 11)]) W' := e3.out ▸ hJ'
        have HJ' := Lib.hid hJ'
        have HK' := Lib.hid hK'
        clear hJ' hK' hy hR e3
        gi_wp2
        go_roundw
        case rel => exact ⟨0, e ++ [((18 : Int), (m : Int) - 11)], by simp, by have := HLT.out; simp; omega, Lib.hid (by rw [HR.out, HGE.out]; simp), Lib.hid (by rw [← List.append_assoc]; exact HJ'.out), Lib.hid (HK.out.trans HK'.out)⟩
        case measure => have := HLT.out; simp [intOf]; omega
      · have dm : ¬ ((m : Int) ≤ 138) := by omega
        have E4 := Lib.hid (show wrap64 ((m : Int) - 138) = ((m - 138 : Nat) : Int) by have := HN.out; unfold wrap64; omega)
        obtain ⟨fn, tmps, assign, body, hy, hR⟩ := HY.out (pre ++ e) ((18 : Int), 127) wr HJr.out hlen
        rw [show min m 138 = 138 by omega] at hge
        have HGE := Lib.hid hge
        have HLT2 := Lib.hid h
        clear hlt hme hroom hlen hge h
        gi_wp2
        refine ⟨rfl, hR.mono ?_⟩
        rintro e' W' ⟨rfl, hJ', hK'⟩
        have HJ' := Lib.hid hJ'
        have HK' := Lib.hid hK'
        clear hJ' hK' hy hR
        gi_wp2
        go_roundw
        case rel => exact ⟨m - 138, e ++ [((18 : Int), 127)], by rw [E4.out], by have := HLT.out; simp; omega, Lib.hid (by rw [HR.out, HGE.out]; simp), Lib.hid (by rw [← List.append_assoc]; exact HJ'.out), Lib.hid (HK.out.trans HK'.out)⟩
        case measure => have := HLT2.out; simp only [intOf]; rw [E4.out]; simp; omega

end Go.Proofs.Ytkoohabljjbliaa
