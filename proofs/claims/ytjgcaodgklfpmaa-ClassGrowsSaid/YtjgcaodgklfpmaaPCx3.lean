-- WRITTEN BY A PROGRAM of this repo (wip/tools/given.py), which drives the kit's print over functions that are given by hand. Lean checks it.
import Derived.Test.YtjgcaodgklfpmaaPCx0
import Derived.Test.YtjgcaodgklfpmaaPCx1
namespace Go.Proofs.Ytjgcaodgklfpmaa.PC
open Go.RowKit Go.Proofs.YtjgcaodgklfpmaaW.PrintWords Go.Proofs.YtjgcaodgklfpmaaW.PrintLast Go.Proofs.YtjgcaodgklfpmaaW.PrintMore
attribute [local go_sem] max2_int min2_int max_two min_two max_three min_three max_four min_four   -- for this text's walks alone
set_option linter.unusedVariables false
set_option linter.unusedSimpArgs false

/-! ### platenlaw20_ClassGrows: function 4 -/
mutual
def platenlaw20_ClassGrows.j0 : Nat → Int → Int → Int → Int → Bool → Option (Bool)
  | 0, _, _, _, _, _ => none
  | k + 1, x2, x3, x11, x12, x59 => if x59 = true then (some false) else ((class_Spare.f k x12 (wrap64 (mn x2 x3)) x11).bind fun bt149 => ((class_Spare.f k x12 (wrap64 (mx x2 x3)) x11).bind fun bt151 => (if (bt149.2 != bt151.2) = true then (platenlaw20_ClassGrows.j1 k x11 true) else (if bt149.2 = true then (if bt149.1 > bt151.1 then ((class_Size.f 5 x11).bind fun t153 => (platenlaw20_ClassGrows.j1 k x11 (decide ((wrap64 (x12 + (wrap64 (mx x2 x3)))) ≤ t153)))) else (platenlaw20_ClassGrows.j1 k x11 false)) else (platenlaw20_ClassGrows.j1 k x11 false)))))
def platenlaw20_ClassGrows.j1 : Nat → Int → Bool → Option (Bool)
  | 0, _, _ => none
  | k + 1, x11, x101 => if x101 = true then (some false) else (platenlaw20_ClassGrows.l0 k x11 0)
def platenlaw20_ClassGrows.l0 : Nat → Int → Int → Option (Bool)
  | 0, _, _ => none
  | k + 1, x11, x22 => if x22 < 6 then ((class_Size.f x22 (wrap64 (2 * x11))).bind fun t155 => ((class_Size.f x22 x11).bind fun t156 => (if t155 = (wrap64 (2 * t156)) then (platenlaw20_ClassGrows.l0 k x11 (wrap64 (x22 + 1))) else (some false)))) else ((platenlaw20_alive.f k).bind fun t154 => (some t154))
end
def platenlaw20_ClassGrows.f (k : Nat) (a0 : Int) (a1 : Int) (a2 : Int) (a3 : Int) (a4 : Int) : Option (Bool) := if 0 ≤ (IntKind.u64.wrap (Int.tmod a4 4)) then ((class_Fit.f (Int.tmod (wrap64 (mn a0 a1)) 18000) (shl .i64 1024 (IntKind.u64.wrap (Int.tmod a4 4)))).bind fun bt145 => ((class_Fit.f (mx (Int.tmod (wrap64 (mn a0 a1)) 18000) (wrap64 (mx a0 a1))) (shl .i64 1024 (IntKind.u64.wrap (Int.tmod a4 4)))).bind fun bt147 => (if bt147.2 = true then (if bt145.2 = true then (platenlaw20_ClassGrows.j0 k a2 a3 (shl .i64 1024 (IntKind.u64.wrap (Int.tmod a4 4))) (Int.tmod (wrap64 (mn a0 a1)) 18000) (decide (bt145.1 > bt147.1))) else (platenlaw20_ClassGrows.j0 k a2 a3 (shl .i64 1024 (IntKind.u64.wrap (Int.tmod a4 4))) (Int.tmod (wrap64 (mn a0 a1)) 18000) true)) else (platenlaw20_ClassGrows.j0 k a2 a3 (shl .i64 1024 (IntKind.u64.wrap (Int.tmod a4 4))) (Int.tmod (wrap64 (mn a0 a1)) 18000) false)))) else (none)
theorem platenlaw20_ClassGrows.mono_l : ∀ k, (∀ y0 y1 y2 y3 y4, LeO (platenlaw20_ClassGrows.j0 k y0 y1 y2 y3 y4) (platenlaw20_ClassGrows.j0 (k + 1) y0 y1 y2 y3 y4)) ∧ (∀ y0 y1, LeO (platenlaw20_ClassGrows.j1 k y0 y1) (platenlaw20_ClassGrows.j1 (k + 1) y0 y1)) ∧ (∀ y0 y1, LeO (platenlaw20_ClassGrows.l0 k y0 y1) (platenlaw20_ClassGrows.l0 (k + 1) y0 y1))
  | 0 => ⟨fun _ _ _ _ _ r h => by simp [platenlaw20_ClassGrows.j0] at h, fun _ _ r h => by simp [platenlaw20_ClassGrows.j1] at h, fun _ _ r h => by simp [platenlaw20_ClassGrows.l0] at h⟩
  | k + 1 => by
    obtain ⟨ih0, ih1, ih2⟩ := platenlaw20_ClassGrows.mono_l k
    refine ⟨?_, ?_, ?_⟩
    · intro y0 y1 y2 y3 y4
      unfold platenlaw20_ClassGrows.j0
      repeat' first
      | (with_reducible exact ih0 _ _ _ _ _)
      | (with_reducible exact ih1 _ _)
      | (with_reducible exact ih2 _ _)
      | (with_reducible exact class_Spare.mono _ _ _ _)
      | (with_reducible exact platenlaw20_alive.mono _)
      | (with_reducible exact LeO.refl _)
      | (with_reducible exact LeO.none _)
      | (with_reducible refine LeO.ite ?_ ?_)
      | (with_reducible refine LeO.bind ?_ (fun _ => ?_))
      | exact ih0 _ _ _ _ _
      | exact ih1 _ _
      | exact ih2 _ _
      | exact class_Spare.mono _ _ _ _
      | exact platenlaw20_alive.mono _
      | exact LeO.none _
      | refine LeO.ite ?_ ?_
      | refine LeO.bind ?_ (fun _ => ?_)
    · intro y0 y1
      unfold platenlaw20_ClassGrows.j1
      repeat' first
      | (with_reducible exact ih0 _ _ _ _ _)
      | (with_reducible exact ih1 _ _)
      | (with_reducible exact ih2 _ _)
      | (with_reducible exact class_Spare.mono _ _ _ _)
      | (with_reducible exact platenlaw20_alive.mono _)
      | (with_reducible exact LeO.refl _)
      | (with_reducible exact LeO.none _)
      | (with_reducible refine LeO.ite ?_ ?_)
      | (with_reducible refine LeO.bind ?_ (fun _ => ?_))
      | exact ih0 _ _ _ _ _
      | exact ih1 _ _
      | exact ih2 _ _
      | exact class_Spare.mono _ _ _ _
      | exact platenlaw20_alive.mono _
      | exact LeO.none _
      | refine LeO.ite ?_ ?_
      | refine LeO.bind ?_ (fun _ => ?_)
    · intro y0 y1
      unfold platenlaw20_ClassGrows.l0
      repeat' first
      | (with_reducible exact ih0 _ _ _ _ _)
      | (with_reducible exact ih1 _ _)
      | (with_reducible exact ih2 _ _)
      | (with_reducible exact class_Spare.mono _ _ _ _)
      | (with_reducible exact platenlaw20_alive.mono _)
      | (with_reducible exact LeO.refl _)
      | (with_reducible exact LeO.none _)
      | (with_reducible refine LeO.ite ?_ ?_)
      | (with_reducible refine LeO.bind ?_ (fun _ => ?_))
      | exact ih0 _ _ _ _ _
      | exact ih1 _ _
      | exact ih2 _ _
      | exact class_Spare.mono _ _ _ _
      | exact platenlaw20_alive.mono _
      | exact LeO.none _
      | refine LeO.ite ?_ ?_
      | refine LeO.bind ?_ (fun _ => ?_)
theorem platenlaw20_ClassGrows.mono : ∀ a0 a1 a2 a3 a4 k, LeO (platenlaw20_ClassGrows.f k a0 a1 a2 a3 a4) (platenlaw20_ClassGrows.f (k + 1) a0 a1 a2 a3 a4) := by
  intro a0 a1 a2 a3 a4 k
  obtain ⟨ih0, ih1, ih2⟩ := platenlaw20_ClassGrows.mono_l k
  unfold platenlaw20_ClassGrows.f
  repeat' first
      | (with_reducible exact ih0 _ _ _ _ _)
      | (with_reducible exact ih1 _ _)
      | (with_reducible exact ih2 _ _)
      | (with_reducible exact class_Spare.mono _ _ _ _)
      | (with_reducible exact platenlaw20_alive.mono _)
      | (with_reducible exact LeO.refl _)
      | (with_reducible exact LeO.none _)
      | (with_reducible refine LeO.ite ?_ ?_)
      | (with_reducible refine LeO.bind ?_ (fun _ => ?_))
      | exact ih0 _ _ _ _ _
      | exact ih1 _ _
      | exact ih2 _ _
      | exact class_Spare.mono _ _ _ _
      | exact platenlaw20_alive.mono _
      | exact LeO.none _
      | refine LeO.ite ?_ ?_
      | refine LeO.bind ?_ (fun _ => ?_)
set_option maxHeartbeats 8000000 in
set_option maxRecDepth 100000 in
theorem platenlaw20_ClassGrows.calls (k : Nat) (a0 : Int) (a1 : Int) (a2 : Int) (a3 : Int) (a4 : Int) (r : Bool) (w : World) (h : platenlaw20_ClassGrows.f k a0 a1 a2 a3 a4 = some r) :
    Calls Try.prog 4 #[.int .u16 a0, .int .u16 a1, .int .u16 a2, .int .u16 a3, .int .u8 a4] w fun e w' => e = .returned (.bool r) ∧ Below w.heap.size w w' := by
  have HB := Aside0.mk (Below.refl w.heap.size w)
  have H : (if 0 ≤ (IntKind.u64.wrap (Int.tmod a4 4)) then ((class_Fit.f (Int.tmod (wrap64 (mn a0 a1)) 18000) (shl .i64 1024 (IntKind.u64.wrap (Int.tmod a4 4)))).bind fun bt145 => ((class_Fit.f (mx (Int.tmod (wrap64 (mn a0 a1)) 18000) (wrap64 (mx a0 a1))) (shl .i64 1024 (IntKind.u64.wrap (Int.tmod a4 4)))).bind fun bt147 => (if bt147.2 = true then (if bt145.2 = true then (platenlaw20_ClassGrows.j0 k a2 a3 (shl .i64 1024 (IntKind.u64.wrap (Int.tmod a4 4))) (Int.tmod (wrap64 (mn a0 a1)) 18000) (decide (bt145.1 > bt147.1))) else (platenlaw20_ClassGrows.j0 k a2 a3 (shl .i64 1024 (IntKind.u64.wrap (Int.tmod a4 4))) (Int.tmod (wrap64 (mn a0 a1)) 18000) true)) else (platenlaw20_ClassGrows.j0 k a2 a3 (shl .i64 1024 (IntKind.u64.wrap (Int.tmod a4 4))) (Int.tmod (wrap64 (mn a0 a1)) 18000) false)))) else (none)) = some r := h
  clear h
  obtain ⟨ji6, hji6⟩ : ∃ j_ : Int, (IntKind.u64.wrap (Int.tmod a4 4)) = j_ := ⟨_, rfl⟩
  replace H : (if 0 ≤ (ji6) then ((class_Fit.f (Int.tmod (wrap64 (mn a0 a1)) 18000) (shl .i64 1024 (ji6))).bind fun bt145 => ((class_Fit.f (mx (Int.tmod (wrap64 (mn a0 a1)) 18000) (wrap64 (mx a0 a1))) (shl .i64 1024 (ji6))).bind fun bt147 => (if bt147.2 = true then (if bt145.2 = true then (platenlaw20_ClassGrows.j0 k a2 a3 (shl .i64 1024 (ji6)) (Int.tmod (wrap64 (mn a0 a1)) 18000) (decide (bt145.1 > bt147.1))) else (platenlaw20_ClassGrows.j0 k a2 a3 (shl .i64 1024 (ji6)) (Int.tmod (wrap64 (mn a0 a1)) 18000) true)) else (platenlaw20_ClassGrows.j0 k a2 a3 (shl .i64 1024 (ji6)) (Int.tmod (wrap64 (mn a0 a1)) 18000) false)))) else (none)) = some r := by first | (rw [hji6] at H; exact H) | (simp only [hji6] at H ⊢; exact H)
  by_cases c7 : 0 ≤ (ji6)
  · rw [if_pos c7] at H
    have c7b0 := eq_true c7
    have c7b1 : decide (0 ≤ (ji6)) = true := decide_eq_true c7
    clear c7
    obtain ⟨ji8, hji8⟩ : ∃ j_ : Int, (shl .i64 1024 (ji6)) = j_ := ⟨_, rfl⟩
    replace H : ((class_Fit.f (Int.tmod (wrap64 (mn a0 a1)) 18000) (ji8)).bind fun bt145 => ((class_Fit.f (mx (Int.tmod (wrap64 (mn a0 a1)) 18000) (wrap64 (mx a0 a1))) (ji8)).bind fun bt147 => (if bt147.2 = true then (if bt145.2 = true then (platenlaw20_ClassGrows.j0 k a2 a3 ji8 (Int.tmod (wrap64 (mn a0 a1)) 18000) (decide (bt145.1 > bt147.1))) else (platenlaw20_ClassGrows.j0 k a2 a3 ji8 (Int.tmod (wrap64 (mn a0 a1)) 18000) true)) else (platenlaw20_ClassGrows.j0 k a2 a3 ji8 (Int.tmod (wrap64 (mn a0 a1)) 18000) false)))) = some r := by first | (rw [hji8] at H; exact H) | (simp only [hji8] at H ⊢; exact H)
    have hji8_ : (IntKind.i64.wrap (1024 * 2 ^ min (ji6).toNat 64)) = ji8 := hji8
    have hji8z : (ji6) ≤ 64 → (IntKind.i64.wrap (1024 * 2 ^ (ji6).toNat)) = ji8 := shl_small hji8
    have hji8y : (wrap64 (1024 * 2 ^ min (ji6).toNat 64)) = ji8 := (i64_w _).symm.trans hji8_
    have hji8x : (ji6) ≤ 64 → (wrap64 (1024 * 2 ^ (ji6).toNat)) = ji8 := fun h_ => (i64_w _).symm.trans (hji8z h_)
    obtain ⟨ji9, hji9⟩ : ∃ j_ : Int, (mn a0 a1) = j_ := ⟨_, rfl⟩
    replace H : ((class_Fit.f (Int.tmod (wrap64 (ji9)) 18000) (ji8)).bind fun bt145 => ((class_Fit.f (mx (Int.tmod (wrap64 (ji9)) 18000) (wrap64 (mx a0 a1))) (ji8)).bind fun bt147 => (if bt147.2 = true then (if bt145.2 = true then (platenlaw20_ClassGrows.j0 k a2 a3 ji8 (Int.tmod (wrap64 (ji9)) 18000) (decide (bt145.1 > bt147.1))) else (platenlaw20_ClassGrows.j0 k a2 a3 ji8 (Int.tmod (wrap64 (ji9)) 18000) true)) else (platenlaw20_ClassGrows.j0 k a2 a3 ji8 (Int.tmod (wrap64 (ji9)) 18000) false)))) = some r := by first | (rw [hji9] at H; exact H) | (simp only [hji9] at H ⊢; exact H)
    have hji9_ : (if a1 < a0 then a1 else a0) = ji9 := hji9
    obtain ⟨ji10, hji10⟩ : ∃ j_ : Int, (mx a0 a1) = j_ := ⟨_, rfl⟩
    replace H : ((class_Fit.f (Int.tmod (wrap64 (ji9)) 18000) (ji8)).bind fun bt145 => ((class_Fit.f (mx (Int.tmod (wrap64 (ji9)) 18000) (wrap64 (ji10))) (ji8)).bind fun bt147 => (if bt147.2 = true then (if bt145.2 = true then (platenlaw20_ClassGrows.j0 k a2 a3 ji8 (Int.tmod (wrap64 (ji9)) 18000) (decide (bt145.1 > bt147.1))) else (platenlaw20_ClassGrows.j0 k a2 a3 ji8 (Int.tmod (wrap64 (ji9)) 18000) true)) else (platenlaw20_ClassGrows.j0 k a2 a3 ji8 (Int.tmod (wrap64 (ji9)) 18000) false)))) = some r := by first | (rw [hji10] at H; exact H) | (simp only [hji10] at H ⊢; exact H)
    have hji10_ : (if a0 < a1 then a1 else a0) = ji10 := hji10
    replace H := Option.bind_eq_some_iff.mp H
    obtain ⟨⟨t145, t146⟩, A110, H⟩ := H
    replace H : ((class_Fit.f (mx (Int.tmod (wrap64 (ji9)) 18000) (wrap64 (ji10))) (ji8)).bind fun bt147 => (if bt147.2 = true then (if t146 = true then (platenlaw20_ClassGrows.j0 k a2 a3 ji8 (Int.tmod (wrap64 (ji9)) 18000) (decide (t145 > bt147.1))) else (platenlaw20_ClassGrows.j0 k a2 a3 ji8 (Int.tmod (wrap64 (ji9)) 18000) true)) else (platenlaw20_ClassGrows.j0 k a2 a3 ji8 (Int.tmod (wrap64 (ji9)) 18000) false))) = some r := H
    have A11 := Aside0.mk A110
    clear A110
    obtain ⟨ji12, hji12⟩ : ∃ j_ : Int, (mx (Int.tmod (wrap64 (ji9)) 18000) (wrap64 (ji10))) = j_ := ⟨_, rfl⟩
    replace H : ((class_Fit.f (ji12) (ji8)).bind fun bt147 => (if bt147.2 = true then (if t146 = true then (platenlaw20_ClassGrows.j0 k a2 a3 ji8 (Int.tmod (wrap64 (ji9)) 18000) (decide (t145 > bt147.1))) else (platenlaw20_ClassGrows.j0 k a2 a3 ji8 (Int.tmod (wrap64 (ji9)) 18000) true)) else (platenlaw20_ClassGrows.j0 k a2 a3 ji8 (Int.tmod (wrap64 (ji9)) 18000) false))) = some r := by first | (rw [hji12] at H; exact H) | (simp only [hji12] at H ⊢; exact H)
    (try rw [hji12] at A11)
    have hji12_ : (if (Int.tmod (wrap64 (ji9)) 18000) < (wrap64 (ji10)) then (wrap64 (ji10)) else (Int.tmod (wrap64 (ji9)) 18000)) = ji12 := hji12
    replace H := Option.bind_eq_some_iff.mp H
    obtain ⟨⟨t147, t148⟩, A130, H⟩ := H
    replace H : (if t148 = true then (if t146 = true then (platenlaw20_ClassGrows.j0 k a2 a3 ji8 (Int.tmod (wrap64 (ji9)) 18000) (decide (t145 > t147))) else (platenlaw20_ClassGrows.j0 k a2 a3 ji8 (Int.tmod (wrap64 (ji9)) 18000) true)) else (platenlaw20_ClassGrows.j0 k a2 a3 ji8 (Int.tmod (wrap64 (ji9)) 18000) false)) = some r := H
    have A13 := Aside0.mk A130
    clear A130
    have HC14 := Aside0.mk H
    clear H
    go_enter Try.func4, Try.ntmps4
    go_upto_region 5 with (first | ((with_reducible refine gate_callee (f := 5) rfl ?_); refine goesL_ (some 39) rfl rfl Try.func5 (by kernel_rfl) rfl #[.int .i64 (Int.tmod (wrap64 (ji9)) 18000), .int .i64 ji8] rfl (by (try simp only [List.map_toArray, List.map_cons, List.map_nil]); first | done | (simp only [hji8, hji9]; rfl) | rfl | (simp only [List.length_drop, List.length_take]; rfl)) ?_; (with_reducible refine (class_Fit.calls (Int.tmod (wrap64 (ji9)) 18000) ji8 t145 t146 _ A11.out).mono ?_); rintro e w15 ⟨rfl, hb⟩; refine ⟨_, rfl, ?_⟩; have n0_ := Aside0.mk (below_step (by repeat (first | (with_reducible first | exact HB.out | apply below_alloc | apply pw_below_drewN | apply below_drew1) | exact HB.out)) hb); clear HB; have HB := n0_; clear n0_; (try clear hb); (try clear hb2); (try clear hk); (try clear hi)) | ((with_reducible refine gate_callee (f := 5) rfl ?_); refine goesL_ (some 47) rfl rfl Try.func5 (by kernel_rfl) rfl #[.int .i64 ji12, .int .i64 ji8] rfl (by (try simp only [List.map_toArray, List.map_cons, List.map_nil]); first | done | (simp only [hji12, hji8]; rfl) | rfl | (simp only [List.length_drop, List.length_take]; rfl)) ?_; (with_reducible refine (class_Fit.calls ji12 ji8 t147 t148 _ A13.out).mono ?_); rintro e w16 ⟨rfl, hb⟩; refine ⟨_, rfl, ?_⟩; have n0_ := Aside0.mk (below_step (by repeat (first | (with_reducible first | exact HB.out | apply below_alloc | apply pw_below_drewN | apply below_drew1) | exact HB.out)) hb); clear HB; have HB := n0_; clear n0_; (try clear hb); (try clear hb2); (try clear hk); (try clear hi)))
    (try simp only [Act.put, List.setIfInBounds_toArray, List.set_cons_zero, List.set_cons_succ])
    go_cut [59] (fun v59 wc => ∃ (kq : Nat) (x59_13 : Bool), v59 = .bool x59_13 ∧ Aside0 (platenlaw20_ClassGrows.j0 kq a2 a3 ji8 (Int.tmod (wrap64 (ji9)) 18000) x59_13 = some r) ∧ Aside0 (kq ≤ k) ∧ Aside0 (Below w.heap.size w wc))
    case first =>
      have H := HC14.out
      clear HC14
      by_cases c17 : t148 = true
      · subst c17
        have H1 : (if t146 = true then (platenlaw20_ClassGrows.j0 k a2 a3 ji8 (Int.tmod (wrap64 (ji9)) 18000) (decide (t145 > t147))) else (platenlaw20_ClassGrows.j0 k a2 a3 ji8 (Int.tmod (wrap64 (ji9)) 18000) true)) = some r := by rw [if_pos rfl] at H; exact H
        clear H
        have H := H1
        clear H1
        by_cases c18 : t146 = true
        · subst c18
          have H1 : (platenlaw20_ClassGrows.j0 k a2 a3 ji8 (Int.tmod (wrap64 (ji9)) 18000) (decide (t145 > t147))) = some r := by rw [if_pos rfl] at H; exact H
          clear H
          have H := H1
          clear H1
          have H' := Aside0.mk H
          clear H
          go_wp2
          go_meet
          case rel => exact ⟨_, (decide (t145 > t147)), (by first | rfl | (simp; done) | (simp [*]; done)), H', ⟨by first | omega | exact Nat.le_refl _⟩, ⟨by repeat (first | (with_reducible first | exact HB.out | apply below_alloc | apply pw_below_drewN | apply below_drew1) | exact HB.out)⟩⟩
        · replace c18 := Bool.eq_false_iff.mpr c18
          subst c18
          have H1 : (platenlaw20_ClassGrows.j0 k a2 a3 ji8 (Int.tmod (wrap64 (ji9)) 18000) true) = some r := by rw [if_neg (show ¬ (false = true) by decide)] at H; exact H
          clear H
          have H := H1
          clear H1
          have H' := Aside0.mk H
          clear H
          go_wp2
          go_meet
          case rel => exact ⟨_, (true), (by first | rfl | (simp; done) | (simp [*]; done)), H', ⟨by first | omega | exact Nat.le_refl _⟩, ⟨by repeat (first | (with_reducible first | exact HB.out | apply below_alloc | apply pw_below_drewN | apply below_drew1) | exact HB.out)⟩⟩
      · replace c17 := Bool.eq_false_iff.mpr c17
        subst c17
        have H1 : (platenlaw20_ClassGrows.j0 k a2 a3 ji8 (Int.tmod (wrap64 (ji9)) 18000) false) = some r := by rw [if_neg (show ¬ (false = true) by decide)] at H; exact H
        clear H
        have H := H1
        clear H1
        have H' := Aside0.mk H
        clear H
        go_wp2
        go_meet
        case rel => exact ⟨_, (false), (by first | rfl | (simp; done) | (simp [*]; done)), H', ⟨by first | omega | exact Nat.le_refl _⟩, ⟨by repeat (first | (with_reducible first | exact HB.out | apply below_alloc | apply pw_below_drewN | apply below_drew1) | exact HB.out)⟩⟩
    case rest =>
      clear HC14
      try clear c1
      try clear p2
      try clear c4
      try clear c5
      try clear p6
      try clear c7
      try clear c7b0
      try clear c7b1
      try clear c17
      try clear c18
      obtain ⟨kq, x59_13, rfl, HA, HJ13, HB⟩ := hcut
      cases kq with
      | zero => exact absurd HA.out (by simp [platenlaw20_ClassGrows.j0])
      | succ kj13 =>
        have H := HA.out
        clear HA
        simp only [platenlaw20_ClassGrows.j0] at H
        by_cases c19 : x59_13 = true
        · subst c19
          have H1 : (some false) = some r := by rw [if_pos rfl] at H; exact H
          clear H
          have H := H1
          clear H1
          obtain rfl := Option.some.inj H
          go_wp2
          go_ret
          exact ⟨by first | rfl | (simp [errW_none, errW_some] <;> rfl) | (simp only [← hji6, ← hji8, ← hji9, ← hji10, ← hji12]; first | rfl | (simp [errW_none, errW_some] <;> rfl)) | (simp [*, errW_none, errW_some] <;> rfl), by repeat (first | (with_reducible first | exact HB.out | apply below_alloc | apply pw_below_drewN | apply below_drew1) | exact HB.out)⟩
        · replace c19 := Bool.eq_false_iff.mpr c19
          subst c19
          have H1 : ((class_Spare.f kj13 (Int.tmod (wrap64 (ji9)) 18000) (wrap64 (mn a2 a3)) ji8).bind fun bt149 => ((class_Spare.f kj13 (Int.tmod (wrap64 (ji9)) 18000) (wrap64 (mx a2 a3)) ji8).bind fun bt151 => (if (bt149.2 != bt151.2) = true then (platenlaw20_ClassGrows.j1 kj13 ji8 true) else (if bt149.2 = true then (if bt149.1 > bt151.1 then ((class_Size.f 5 ji8).bind fun t153 => (platenlaw20_ClassGrows.j1 kj13 ji8 (decide ((wrap64 ((Int.tmod (wrap64 (ji9)) 18000) + (wrap64 (mx a2 a3)))) ≤ t153)))) else (platenlaw20_ClassGrows.j1 kj13 ji8 false)) else (platenlaw20_ClassGrows.j1 kj13 ji8 false))))) = some r := by rw [if_neg (show ¬ (false = true) by decide)] at H; exact H
          clear H
          have H := H1
          clear H1
          obtain ⟨ji20, hji20⟩ : ∃ j_ : Int, (mn a2 a3) = j_ := ⟨_, rfl⟩
          replace H : ((class_Spare.f kj13 (Int.tmod (wrap64 (ji9)) 18000) (wrap64 (ji20)) ji8).bind fun bt149 => ((class_Spare.f kj13 (Int.tmod (wrap64 (ji9)) 18000) (wrap64 (mx a2 a3)) ji8).bind fun bt151 => (if (bt149.2 != bt151.2) = true then (platenlaw20_ClassGrows.j1 kj13 ji8 true) else (if bt149.2 = true then (if bt149.1 > bt151.1 then ((class_Size.f 5 ji8).bind fun t153 => (platenlaw20_ClassGrows.j1 kj13 ji8 (decide ((wrap64 ((Int.tmod (wrap64 (ji9)) 18000) + (wrap64 (mx a2 a3)))) ≤ t153)))) else (platenlaw20_ClassGrows.j1 kj13 ji8 false)) else (platenlaw20_ClassGrows.j1 kj13 ji8 false))))) = some r := by first | (rw [hji20] at H; exact H) | (simp only [hji20] at H ⊢; exact H)
          have hji20_ : (if a3 < a2 then a3 else a2) = ji20 := hji20
          replace H := Option.bind_eq_some_iff.mp H
          obtain ⟨⟨t149, t150⟩, A210, H⟩ := H
          replace H : ((class_Spare.f kj13 (Int.tmod (wrap64 (ji9)) 18000) (wrap64 (mx a2 a3)) ji8).bind fun bt151 => (if (t150 != bt151.2) = true then (platenlaw20_ClassGrows.j1 kj13 ji8 true) else (if t150 = true then (if t149 > bt151.1 then ((class_Size.f 5 ji8).bind fun t153 => (platenlaw20_ClassGrows.j1 kj13 ji8 (decide ((wrap64 ((Int.tmod (wrap64 (ji9)) 18000) + (wrap64 (mx a2 a3)))) ≤ t153)))) else (platenlaw20_ClassGrows.j1 kj13 ji8 false)) else (platenlaw20_ClassGrows.j1 kj13 ji8 false)))) = some r := H
          have A21 := Aside0.mk A210
          clear A210
          obtain ⟨ji22, hji22⟩ : ∃ j_ : Int, (mx a2 a3) = j_ := ⟨_, rfl⟩
          replace H : ((class_Spare.f kj13 (Int.tmod (wrap64 (ji9)) 18000) (wrap64 (ji22)) ji8).bind fun bt151 => (if (t150 != bt151.2) = true then (platenlaw20_ClassGrows.j1 kj13 ji8 true) else (if t150 = true then (if t149 > bt151.1 then ((class_Size.f 5 ji8).bind fun t153 => (platenlaw20_ClassGrows.j1 kj13 ji8 (decide ((wrap64 ((Int.tmod (wrap64 (ji9)) 18000) + (wrap64 (ji22)))) ≤ t153)))) else (platenlaw20_ClassGrows.j1 kj13 ji8 false)) else (platenlaw20_ClassGrows.j1 kj13 ji8 false)))) = some r := by first | (rw [hji22] at H; exact H) | (simp only [hji22] at H ⊢; exact H)
          (try rw [hji22] at A21)
          have hji22_ : (if a2 < a3 then a3 else a2) = ji22 := hji22
          replace H := Option.bind_eq_some_iff.mp H
          obtain ⟨⟨t151, t152⟩, A230, H⟩ := H
          replace H : (if (t150 != t152) = true then (platenlaw20_ClassGrows.j1 kj13 ji8 true) else (if t150 = true then (if t149 > t151 then ((class_Size.f 5 ji8).bind fun t153 => (platenlaw20_ClassGrows.j1 kj13 ji8 (decide ((wrap64 ((Int.tmod (wrap64 (ji9)) 18000) + (wrap64 (ji22)))) ≤ t153)))) else (platenlaw20_ClassGrows.j1 kj13 ji8 false)) else (platenlaw20_ClassGrows.j1 kj13 ji8 false))) = some r := H
          have A23 := Aside0.mk A230
          clear A230
          have HC24 := Aside0.mk H
          clear H
          go_upto_region 9 with (first | ((with_reducible refine gate_callee (f := 6) rfl ?_); refine goesL_ (some 67) rfl rfl Try.func6 (by kernel_rfl) rfl #[.int .i64 (Int.tmod (wrap64 (ji9)) 18000), .int .i64 (wrap64 (ji20)), .int .i64 ji8] rfl (by (try simp only [List.map_toArray, List.map_cons, List.map_nil]); first | done | (simp only [hji20, hji8, hji9]; rfl) | rfl | (simp only [List.length_drop, List.length_take]; rfl)) ?_; (with_reducible refine (class_Spare.calls kj13 (Int.tmod (wrap64 (ji9)) 18000) (wrap64 (ji20)) ji8 t149 t150 _ A21.out).mono ?_); rintro e w25 ⟨rfl, hb⟩; refine ⟨_, rfl, ?_⟩; have n0_ := Aside0.mk (below_step (by repeat (first | (with_reducible first | exact HB.out | apply below_alloc | apply pw_below_drewN | apply below_drew1) | exact HB.out)) hb); clear HB; have HB := n0_; clear n0_; (try clear hb); (try clear hb2); (try clear hk); (try clear hi)) | ((with_reducible refine gate_callee (f := 6) rfl ?_); refine goesL_ (some 77) rfl rfl Try.func6 (by kernel_rfl) rfl #[.int .i64 (Int.tmod (wrap64 (ji9)) 18000), .int .i64 (wrap64 (ji22)), .int .i64 ji8] rfl (by (try simp only [List.map_toArray, List.map_cons, List.map_nil]); first | done | (simp only [hji22, hji8, hji9]; rfl) | rfl | (simp only [List.length_drop, List.length_take]; rfl)) ?_; (with_reducible refine (class_Spare.calls kj13 (Int.tmod (wrap64 (ji9)) 18000) (wrap64 (ji22)) ji8 t151 t152 _ A23.out).mono ?_); rintro e w26 ⟨rfl, hb⟩; refine ⟨_, rfl, ?_⟩; have n0_ := Aside0.mk (below_step (by repeat (first | (with_reducible first | exact HB.out | apply below_alloc | apply pw_below_drewN | apply below_drew1) | exact HB.out)) hb); clear HB; have HB := n0_; clear n0_; (try clear hb); (try clear hb2); (try clear hk); (try clear hi)))
          (try simp only [Act.put, List.setIfInBounds_toArray, List.set_cons_zero, List.set_cons_succ])
          go_cut [101] (fun v101 wc => ∃ (kq : Nat) (x101_23 : Bool), v101 = .bool x101_23 ∧ Aside0 (platenlaw20_ClassGrows.j1 kq ji8 x101_23 = some r) ∧ Aside0 (kq ≤ kj13) ∧ Aside0 (Below w.heap.size w wc))
          case first =>
            have H := HC24.out
            clear HC24
            by_cases c27 : (t150 != t152) = true
            · rw [if_pos c27] at H
              have c27b0 : (t150 != t152) = true := c27
              (try (have c27b1 : decide (t150 = t152) = false := by simpa using c27))
              (try (have c27b2 : (t150 == t152) = false := by simpa using c27))
              (try (have c27b3 : ¬ (t150 = t152) := by simpa using c27))
              clear c27
              (first | rw [c27b0] | (simp only [i64_w, i32_w]; rw [c27b0]) | skip)
              have H' := Aside0.mk H
              clear H
              go_wp2
              go_meet
              case rel => exact ⟨_, (true), (by first | rfl | (simp; done) | (simp [*]; done)), H', ⟨by have := HJ13.out; first | omega | exact Nat.le_refl _⟩, ⟨by repeat (first | (with_reducible first | exact HB.out | apply below_alloc | apply pw_below_drewN | apply below_drew1) | exact HB.out)⟩⟩
            · rw [if_neg c27] at H
              have c27b0 : (t150 != t152) = false := by simpa using c27
              (try (have c27b1 : decide (t150 = t152) = true := by simpa using c27))
              (try (have c27b2 : (t150 == t152) = true := by simpa using c27))
              clear c27
              (first | rw [c27b0] | (simp only [i64_w, i32_w]; rw [c27b0]) | skip)
              by_cases c28 : t150 = true
              · subst c28
                have H1 : (if t149 > t151 then ((class_Size.f 5 ji8).bind fun t153 => (platenlaw20_ClassGrows.j1 kj13 ji8 (decide ((wrap64 ((Int.tmod (wrap64 (ji9)) 18000) + (wrap64 (ji22)))) ≤ t153)))) else (platenlaw20_ClassGrows.j1 kj13 ji8 false)) = some r := by rw [if_pos rfl] at H; exact H
                clear H
                have H := H1
                clear H1
                by_cases c29 : t149 > t151
                · rw [if_pos c29] at H
                  have c29b0 : decide (t151 < t149) = true := decide_eq_true c29
                  clear c29
                  replace H := Option.bind_eq_some_iff.mp H
                  obtain ⟨t153, A310, H⟩ := H
                  replace H : (platenlaw20_ClassGrows.j1 kj13 ji8 (decide ((wrap64 ((Int.tmod (wrap64 (ji9)) 18000) + (wrap64 (ji22)))) ≤ t153))) = some r := H
                  have A31 := Aside0.mk A310
                  clear A310
                  have H' := Aside0.mk H
                  clear H
                  go_wp2_with (first | (go_at_call 7; (with_reducible refine (class_Size.calls 5 ji8 t153 _ A31.out).mono ?_); rintro e w32 ⟨rfl, hb⟩; have n0_ := Aside0.mk (below_step (by repeat (first | (with_reducible first | exact HB.out | apply below_alloc | apply pw_below_drewN | apply below_drew1) | exact HB.out)) hb); clear HB; have HB := n0_; clear n0_; (try clear hb); (try clear hb2); (try clear hk); (try clear hi)))
                  go_meet
                  case rel => exact ⟨_, (decide ((wrap64 ((Int.tmod (wrap64 (ji9)) 18000) + (wrap64 (ji22)))) ≤ t153)), (by first | rfl | (simp; done) | (simp only [← hji9, ← hji22] <;> (first | rfl | simp)) | (simp [*]; done)), H', ⟨by have := HJ13.out; first | omega | exact Nat.le_refl _⟩, ⟨by repeat (first | (with_reducible first | exact HB.out | apply below_alloc | apply pw_below_drewN | apply below_drew1) | exact HB.out)⟩⟩
                · rw [if_neg c29] at H
                  have c29b0 : decide (t151 < t149) = false := decide_eq_false c29
                  clear c29
                  have H' := Aside0.mk H
                  clear H
                  go_wp2
                  go_meet
                  case rel => exact ⟨_, (false), (by first | rfl | (simp; done) | (simp [*]; done)), H', ⟨by have := HJ13.out; first | omega | exact Nat.le_refl _⟩, ⟨by repeat (first | (with_reducible first | exact HB.out | apply below_alloc | apply pw_below_drewN | apply below_drew1) | exact HB.out)⟩⟩
              · replace c28 := Bool.eq_false_iff.mpr c28
                subst c28
                have H1 : (platenlaw20_ClassGrows.j1 kj13 ji8 false) = some r := by rw [if_neg (show ¬ (false = true) by decide)] at H; exact H
                clear H
                have H := H1
                clear H1
                have H' := Aside0.mk H
                clear H
                go_wp2
                go_meet
                case rel => exact ⟨_, (false), (by first | rfl | (simp; done) | (simp [*]; done)), H', ⟨by have := HJ13.out; first | omega | exact Nat.le_refl _⟩, ⟨by repeat (first | (with_reducible first | exact HB.out | apply below_alloc | apply pw_below_drewN | apply below_drew1) | exact HB.out)⟩⟩
          case rest =>
            clear HC24
            try clear c1
            try clear c2
            try clear p2
            try clear c3
            try clear c4
            try clear c5
            try clear c6
            try clear p6
            try clear c7
            try clear c7b0
            try clear c7b1
            try clear c17
            try clear c18
            try clear c19
            try clear c27
            try clear c27b0
            try clear c27b1
            try clear c27b2
            try clear c28
            try clear c29
            try clear c29b0
            try clear c30
            try clear c30b0
            try clear p2
            try clear p6
            obtain ⟨kq, x101_23, rfl, HA, HJ23, HB⟩ := hcut
            cases kq with
            | zero => exact absurd HA.out (by simp [platenlaw20_ClassGrows.j1])
            | succ kj23 =>
              have H := HA.out
              clear HA
              simp only [platenlaw20_ClassGrows.j1] at H
              by_cases c33 : x101_23 = true
              · subst c33
                have H1 : (some false) = some r := by rw [if_pos rfl] at H; exact H
                clear H
                have H := H1
                clear H1
                obtain rfl := Option.some.inj H
                go_wp2
                go_ret
                exact ⟨by first | rfl | (simp [errW_none, errW_some] <;> rfl) | (simp only [← hji6, ← hji8, ← hji9, ← hji10, ← hji12, ← hji20, ← hji22]; first | rfl | (simp [errW_none, errW_some] <;> rfl)) | (simp [*, errW_none, errW_some] <;> rfl), by repeat (first | (with_reducible first | exact HB.out | apply below_alloc | apply pw_below_drewN | apply below_drew1) | exact HB.out)⟩
              · replace c33 := Bool.eq_false_iff.mpr c33
                subst c33
                have H1 : (platenlaw20_ClassGrows.l0 kj23 ji8 0) = some r := by rw [if_neg (show ¬ (false = true) by decide)] at H; exact H
                clear H
                have H := H1
                clear H1
                have H' := Aside0.mk H
                clear H
                go_wp2
                go_loopg [22] kj23 (fun kq v22 w' => ∃ (x22_3 : Int), v22 = .int .i64 x22_3 ∧ Aside0 (platenlaw20_ClassGrows.l0 kq ji8 x22_3 = some r) ∧ Aside0 (kq ≤ kj23) ∧ Aside0 (Below w.heap.size w w'))
                case atStart => exact ⟨(0), (by first | rfl | (simp; done) | (simp [*]; done)), H', ⟨Nat.le_refl _⟩, ⟨by repeat (first | (with_reducible first | exact HB.out | apply below_alloc | apply pw_below_drewN | apply below_drew1) | exact HB.out)⟩⟩
                case round =>
                  clear H'
                  try clear c1
                  try clear c2
                  try clear p2
                  try clear c3
                  try clear c4
                  try clear c5
                  try clear c6
                  try clear p6
                  try clear c7
                  try clear c7b0
                  try clear c7b1
                  try clear c17
                  try clear c18
                  try clear c19
                  try clear c27
                  try clear c27b0
                  try clear c27b1
                  try clear c27b2
                  try clear c28
                  try clear c29
                  try clear c29b0
                  try clear c30
                  try clear c30b0
                  try clear c33
                  try clear p2
                  try clear p6
                  obtain ⟨x22_3, rfl, HA, HK3, HB⟩ := hrel
                  cases gk with
                  | zero => exact absurd HA.out (by simp [platenlaw20_ClassGrows.l0])
                  | succ k3 =>
                    have H := HA.out
                    clear HA
                    simp only [platenlaw20_ClassGrows.l0] at H
                    by_cases c34 : x22_3 < 6
                    · rw [if_pos c34] at H
                      have c34b0 : decide (x22_3 < 6) = true := decide_eq_true c34
                      clear c34
                      replace H := Option.bind_eq_some_iff.mp H
                      obtain ⟨t155, A350, H⟩ := H
                      replace H : ((class_Size.f x22_3 ji8).bind fun t156 => (if t155 = (wrap64 (2 * t156)) then (platenlaw20_ClassGrows.l0 k3 ji8 (wrap64 (x22_3 + 1))) else (some false))) = some r := H
                      have A35 := Aside0.mk A350
                      clear A350
                      replace H := Option.bind_eq_some_iff.mp H
                      obtain ⟨t156, A360, H⟩ := H
                      replace H : (if t155 = (wrap64 (2 * t156)) then (platenlaw20_ClassGrows.l0 k3 ji8 (wrap64 (x22_3 + 1))) else (some false)) = some r := H
                      have A36 := Aside0.mk A360
                      clear A360
                      by_cases c37 : t155 = (wrap64 (2 * t156))
                      · rw [if_pos c37] at H
                        have c37b0 : (t155 == (wrap64 (2 * t156))) = true := beq_iff_eq.mpr c37
                        have c37b1 : (t155 != (wrap64 (2 * t156))) = false := bne_eq_false_iff_eq.mpr c37
                        clear c37
                        have H' := Aside0.mk H
                        clear H
                        go_wp2_with (first | ((with_reducible refine gate_callee (f := 7) rfl ?_); refine goesL_ (some 109) rfl rfl Try.func7 (by kernel_rfl) rfl #[.int .i64 x22_3, .int .i64 (wrap64 (2 * ji8))] rfl (by (try simp only [List.map_toArray, List.map_cons, List.map_nil]); first | done | (simp only [hji8]; rfl) | rfl | (simp only [List.length_drop, List.length_take]; rfl)) ?_; (with_reducible refine (class_Size.calls x22_3 (wrap64 (2 * ji8)) t155 _ A35.out).mono ?_); rintro e w38 ⟨rfl, hb⟩; refine ⟨_, rfl, ?_⟩; have n0_ := Aside0.mk (below_step (by repeat (first | (with_reducible first | exact HB.out | apply below_alloc | apply pw_below_drewN | apply below_drew1) | exact HB.out)) hb); clear HB; have HB := n0_; clear n0_; (try clear hb); (try clear hb2); (try clear hk); (try clear hi)) | ((with_reducible refine gate_callee (f := 7) rfl ?_); refine goesL_ (some 112) rfl rfl Try.func7 (by kernel_rfl) rfl #[.int .i64 x22_3, .int .i64 ji8] rfl (by (try simp only [List.map_toArray, List.map_cons, List.map_nil]); first | done | (simp only [hji8]; rfl) | rfl | (simp only [List.length_drop, List.length_take]; rfl)) ?_; (with_reducible refine (class_Size.calls x22_3 ji8 t156 _ A36.out).mono ?_); rintro e w39 ⟨rfl, hb⟩; refine ⟨_, rfl, ?_⟩; have n0_ := Aside0.mk (below_step (by repeat (first | (with_reducible first | exact HB.out | apply below_alloc | apply pw_below_drewN | apply below_drew1) | exact HB.out)) hb); clear HB; have HB := n0_; clear n0_; (try clear hb); (try clear hb2); (try clear hk); (try clear hi)))
                        go_roundg k3
                        case measure => have := HJ13.out; have := HJ23.out; have := HK3.out; omega
                        case rel => exact ⟨(wrap64 (x22_3 + 1)), (by first | rfl | (simp; done) | (simp [*]; done)), H', ⟨by have := HJ13.out; have := HJ23.out; have := HK3.out; omega⟩, ⟨by repeat (first | (with_reducible first | exact HB.out | apply below_alloc | apply pw_below_drewN | apply below_drew1) | exact HB.out)⟩⟩
                      · rw [if_neg c37] at H
                        have c37b0 : (t155 == (wrap64 (2 * t156))) = false := beq_eq_false_iff_ne.mpr c37
                        have c37b1 : (t155 != (wrap64 (2 * t156))) = true := bne_iff_ne.mpr c37
                        obtain rfl := Option.some.inj H
                        go_wp2_with (first | ((with_reducible refine gate_callee (f := 7) rfl ?_); refine goesL_ (some 109) rfl rfl Try.func7 (by kernel_rfl) rfl #[.int .i64 x22_3, .int .i64 (wrap64 (2 * ji8))] rfl (by (try simp only [List.map_toArray, List.map_cons, List.map_nil]); first | done | (simp only [hji8]; rfl) | rfl | (simp only [List.length_drop, List.length_take]; rfl)) ?_; (with_reducible refine (class_Size.calls x22_3 (wrap64 (2 * ji8)) t155 _ A35.out).mono ?_); rintro e w40 ⟨rfl, hb⟩; refine ⟨_, rfl, ?_⟩; have n0_ := Aside0.mk (below_step (by repeat (first | (with_reducible first | exact HB.out | apply below_alloc | apply pw_below_drewN | apply below_drew1) | exact HB.out)) hb); clear HB; have HB := n0_; clear n0_; (try clear hb); (try clear hb2); (try clear hk); (try clear hi)) | ((with_reducible refine gate_callee (f := 7) rfl ?_); refine goesL_ (some 112) rfl rfl Try.func7 (by kernel_rfl) rfl #[.int .i64 x22_3, .int .i64 ji8] rfl (by (try simp only [List.map_toArray, List.map_cons, List.map_nil]); first | done | (simp only [hji8]; rfl) | rfl | (simp only [List.length_drop, List.length_take]; rfl)) ?_; (with_reducible refine (class_Size.calls x22_3 ji8 t156 _ A36.out).mono ?_); rintro e w41 ⟨rfl, hb⟩; refine ⟨_, rfl, ?_⟩; have n0_ := Aside0.mk (below_step (by repeat (first | (with_reducible first | exact HB.out | apply below_alloc | apply pw_below_drewN | apply below_drew1) | exact HB.out)) hb); clear HB; have HB := n0_; clear n0_; (try clear hb); (try clear hb2); (try clear hk); (try clear hi)))
                        go_ret
                        exact ⟨by first | rfl | (simp [errW_none, errW_some] <;> rfl) | (simp only [← hji6, ← hji8, ← hji9, ← hji10, ← hji12, ← hji20, ← hji22]; first | rfl | (simp [errW_none, errW_some] <;> rfl)) | (simp [*, errW_none, errW_some] <;> rfl), by repeat (first | (with_reducible first | exact HB.out | apply below_alloc | apply pw_below_drewN | apply below_drew1) | exact HB.out)⟩
                    · rw [if_neg c34] at H
                      have c34b0 : decide (x22_3 < 6) = false := decide_eq_false c34
                      clear c34
                      replace H := Option.bind_eq_some_iff.mp H
                      obtain ⟨t154, A420, H⟩ := H
                      replace H : (some t154) = some r := H
                      have A42 := Aside0.mk A420
                      clear A420
                      obtain rfl := Option.some.inj H
                      go_wp2_with (first | ((with_reducible refine gate_callee (f := 10) rfl ?_); refine goesL_ (some 115) rfl rfl Try.func10 (by kernel_rfl) rfl #[] rfl (by (try simp only [List.map_toArray, List.map_cons, List.map_nil]); first | done | rfl | (simp only [List.length_drop, List.length_take]; rfl)) ?_; (with_reducible refine (platenlaw20_alive.calls k3  t154 _ A42.out).mono ?_); rintro e w43 ⟨rfl, hb⟩; refine ⟨_, rfl, ?_⟩; have n0_ := Aside0.mk (below_step (by repeat (first | (with_reducible first | exact HB.out | apply below_alloc | apply pw_below_drewN | apply below_drew1) | exact HB.out)) hb); clear HB; have HB := n0_; clear n0_; (try clear hb); (try clear hb2); (try clear hk); (try clear hi)))
                      go_ret
                      exact ⟨by first | rfl | (simp [errW_none, errW_some] <;> rfl) | (simp only [← hji6, ← hji8, ← hji9, ← hji10, ← hji12, ← hji20, ← hji22]; first | rfl | (simp [errW_none, errW_some] <;> rfl)) | (simp [*, errW_none, errW_some] <;> rfl), by repeat (first | (with_reducible first | exact HB.out | apply below_alloc | apply pw_below_drewN | apply below_drew1) | exact HB.out)⟩
  · rw [if_neg c7] at H
    exact absurd H (by simp)

/-- THE ONE PURE STATEMENT of platenlaw20_ClassGrows: yours. -/
def platenlaw20_ClassGrows.Pure : Prop := ∀ (a0 : Int) (a1 : Int) (a2 : Int) (a3 : Int) (a4 : Int), (Lit.int .u16 a0).wf = true → (Lit.int .u16 a1).wf = true → (Lit.int .u16 a2).wf = true → (Lit.int .u16 a3).wf = true → (Lit.int .u8 a4).wf = true → ∃ k, platenlaw20_ClassGrows.f k a0 a1 a2 a3 a4 = some true
theorem platenlaw20_ClassGrows.walk (P : platenlaw20_ClassGrows.Pure) (a0 : Int) (a1 : Int) (a2 : Int) (a3 : Int) (a4 : Int) (w : World) (w0 : (Lit.int .u16 a0).wf = true) (w1 : (Lit.int .u16 a1).wf = true) (w2 : (Lit.int .u16 a2).wf = true) (w3 : (Lit.int .u16 a3).wf = true) (w4 : (Lit.int .u8 a4).wf = true) :
    Calls Try.prog 4 #[.int .u16 a0, .int .u16 a1, .int .u16 a2, .int .u16 a3, .int .u8 a4] w fun e w' => e = .returned (.bool true) ∧ Below w.heap.size w w' := by
  obtain ⟨k, h⟩ := P a0 a1 a2 a3 a4 w0 w1 w2 w3 w4
  refine (platenlaw20_ClassGrows.calls k a0 a1 a2 a3 a4 true w h).mono ?_
  rintro e w' ⟨rfl, hd⟩
  exact ⟨rfl, hd⟩

end Go.Proofs.Ytjgcaodgklfpmaa.PC
