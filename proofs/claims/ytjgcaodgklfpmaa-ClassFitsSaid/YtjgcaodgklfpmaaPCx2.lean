-- WRITTEN BY A PROGRAM of this repo (wip/tools/given.py), which drives the kit's print over functions that are given by hand. Lean checks it.
import Derived.Test.YtjgcaodgklfpmaaPCx0
import Derived.Test.YtjgcaodgklfpmaaPCx1
namespace Go.Proofs.Ytjgcaodgklfpmaa.PC
open Go.RowKit Go.Proofs.YtjgcaodgklfpmaaW.PrintWords Go.Proofs.YtjgcaodgklfpmaaW.PrintLast Go.Proofs.YtjgcaodgklfpmaaW.PrintMore
attribute [local go_sem] max2_int min2_int max_two min_two max_three min_three max_four min_four   -- for this text's walks alone
set_option linter.unusedVariables false
set_option linter.unusedSimpArgs false

/-! ### platenlaw20_ClassFits: function 3 -/
mutual
def platenlaw20_ClassFits.j0 : Nat → Int → Int → Int → Int → Bool → Int → Bool → Option (Bool)
  | 0, _, _, _, _, _, _, _ => none
  | k + 1, x7, x8, x9, x10, x11, x12, x76 => if x76 = true then (some false) else (platenlaw20_ClassFits.l0 k x7 x8 x9 x10 x11 x12 0)
def platenlaw20_ClassFits.l0 : Nat → Int → Int → Int → Int → Bool → Int → Int → Option (Bool)
  | 0, _, _, _, _, _, _, _ => none
  | k + 1, x7, x8, x9, x10, x11, x12, x14 => if x14 < 6 then ((class_Size.f x14 x7).bind fun t128 => ((class_Units.f x14).bind fun t129 => (if t128 = (wrap64 (t129 * (wrap64 (Int.tdiv x7 16)))) then ((class_Slots.f x14).bind fun t130 => ((class_Units.f x14).bind fun t131 => (if (wrap64 (t130 * t131)) > 64 then (some false) else ((class_Slots.f x14).bind fun t132 => ((class_Units.f x14).bind fun t133 => (if (wrap64 ((wrap64 (t132 + 1)) * t133)) ≤ 64 then (some false) else (if x14 > 0 then ((class_Size.f x14 x7).bind fun t134 => ((class_Size.f (wrap64 (x14 - 1)) x7).bind fun t135 => (if t134 ≤ t135 then (some false) else (platenlaw20_ClassFits.l0 k x7 x8 x9 x10 x11 x12 (wrap64 (x14 + 1)))))) else (platenlaw20_ClassFits.l0 k x7 x8 x9 x10 x11 x12 (wrap64 (x14 + 1)))))))))) else (some false)))) else (if x11 = true then ((class_Size.f x12 x7).bind fun t137 => (if (wrap64 (t137 - x8)) ≥ x9 then (if x12 = 0 then ((platenlaw20_alive.f k).bind fun t138 => (some t138)) else (if x12 = x10 then ((platenlaw20_alive.f k).bind fun t139 => (some t139)) else ((class_Size.f (wrap64 (x12 - 1)) x7).bind fun t140 => (if (wrap64 (t140 - x8)) < x9 then ((platenlaw20_alive.f k).bind fun t141 => (some t141)) else (some false))))) else (if x12 = x10 then ((class_Size.f 5 x7).bind fun t142 => (if (wrap64 (x8 + x9)) > t142 then (if x12 = 0 then ((platenlaw20_alive.f k).bind fun t143 => (some t143)) else ((platenlaw20_alive.f k).bind fun t144 => (some t144))) else (some false))) else (some false)))) else ((platenlaw20_alive.f k).bind fun t136 => (some t136)))
end
def platenlaw20_ClassFits.f (k : Nat) (a0 : Int) (a1 : Int) (a2 : Int) : Option (Bool) := if 0 ≤ (IntKind.u64.wrap (Int.tmod a0 5)) then ((class_Fit.f (Int.tmod (wrap64 (a1)) 18000) (shl .i64 1024 (IntKind.u64.wrap (Int.tmod a0 5)))).bind fun bt121 => ((class_Spare.f k (Int.tmod (wrap64 (a1)) 18000) (Int.tmod (wrap64 (a2)) 3000) (shl .i64 1024 (IntKind.u64.wrap (Int.tmod a0 5)))).bind fun bt123 => ((class_Size.f 5 (shl .i64 1024 (IntKind.u64.wrap (Int.tmod a0 5)))).bind fun t125 => (if (bt121.2 != (decide ((Int.tmod (wrap64 (a1)) 18000) ≤ t125))) = true then (platenlaw20_ClassFits.j0 k (shl .i64 1024 (IntKind.u64.wrap (Int.tmod a0 5))) (Int.tmod (wrap64 (a1)) 18000) (Int.tmod (wrap64 (a2)) 3000) bt121.1 bt121.2 bt123.1 true) else (if (bt123.2 != bt121.2) = true then (platenlaw20_ClassFits.j0 k (shl .i64 1024 (IntKind.u64.wrap (Int.tmod a0 5))) (Int.tmod (wrap64 (a1)) 18000) (Int.tmod (wrap64 (a2)) 3000) bt121.1 bt121.2 bt123.1 true) else (if bt121.2 = true then ((class_Size.f bt121.1 (shl .i64 1024 (IntKind.u64.wrap (Int.tmod a0 5)))).bind fun t126 => (if t126 < (Int.tmod (wrap64 (a1)) 18000) then (platenlaw20_ClassFits.j0 k (shl .i64 1024 (IntKind.u64.wrap (Int.tmod a0 5))) (Int.tmod (wrap64 (a1)) 18000) (Int.tmod (wrap64 (a2)) 3000) bt121.1 bt121.2 bt123.1 true) else (if bt121.1 > 0 then ((class_Size.f (wrap64 (bt121.1 - 1)) (shl .i64 1024 (IntKind.u64.wrap (Int.tmod a0 5)))).bind fun t127 => (if t127 ≥ (Int.tmod (wrap64 (a1)) 18000) then (platenlaw20_ClassFits.j0 k (shl .i64 1024 (IntKind.u64.wrap (Int.tmod a0 5))) (Int.tmod (wrap64 (a1)) 18000) (Int.tmod (wrap64 (a2)) 3000) bt121.1 bt121.2 bt123.1 true) else (platenlaw20_ClassFits.j0 k (shl .i64 1024 (IntKind.u64.wrap (Int.tmod a0 5))) (Int.tmod (wrap64 (a1)) 18000) (Int.tmod (wrap64 (a2)) 3000) bt121.1 bt121.2 bt123.1 (decide (bt123.1 < bt121.1))))) else (platenlaw20_ClassFits.j0 k (shl .i64 1024 (IntKind.u64.wrap (Int.tmod a0 5))) (Int.tmod (wrap64 (a1)) 18000) (Int.tmod (wrap64 (a2)) 3000) bt121.1 bt121.2 bt123.1 (decide (bt123.1 < bt121.1)))))) else (platenlaw20_ClassFits.j0 k (shl .i64 1024 (IntKind.u64.wrap (Int.tmod a0 5))) (Int.tmod (wrap64 (a1)) 18000) (Int.tmod (wrap64 (a2)) 3000) bt121.1 bt121.2 bt123.1 false))))))) else (none)
theorem platenlaw20_ClassFits.mono_l : ∀ k, (∀ y0 y1 y2 y3 y4 y5 y6, LeO (platenlaw20_ClassFits.j0 k y0 y1 y2 y3 y4 y5 y6) (platenlaw20_ClassFits.j0 (k + 1) y0 y1 y2 y3 y4 y5 y6)) ∧ (∀ y0 y1 y2 y3 y4 y5 y6, LeO (platenlaw20_ClassFits.l0 k y0 y1 y2 y3 y4 y5 y6) (platenlaw20_ClassFits.l0 (k + 1) y0 y1 y2 y3 y4 y5 y6))
  | 0 => ⟨fun _ _ _ _ _ _ _ r h => by simp [platenlaw20_ClassFits.j0] at h, fun _ _ _ _ _ _ _ r h => by simp [platenlaw20_ClassFits.l0] at h⟩
  | k + 1 => by
    obtain ⟨ih0, ih1⟩ := platenlaw20_ClassFits.mono_l k
    refine ⟨?_, ?_⟩
    · intro y0 y1 y2 y3 y4 y5 y6
      unfold platenlaw20_ClassFits.j0
      repeat' first
      | (with_reducible exact ih0 _ _ _ _ _ _ _)
      | (with_reducible exact ih1 _ _ _ _ _ _ _)
      | (with_reducible exact class_Spare.mono _ _ _ _)
      | (with_reducible exact platenlaw20_alive.mono _)
      | (with_reducible exact LeO.refl _)
      | (with_reducible exact LeO.none _)
      | (with_reducible refine LeO.ite ?_ ?_)
      | (with_reducible refine LeO.bind ?_ (fun _ => ?_))
      | exact ih0 _ _ _ _ _ _ _
      | exact ih1 _ _ _ _ _ _ _
      | exact class_Spare.mono _ _ _ _
      | exact platenlaw20_alive.mono _
      | exact LeO.none _
      | refine LeO.ite ?_ ?_
      | refine LeO.bind ?_ (fun _ => ?_)
    · intro y0 y1 y2 y3 y4 y5 y6
      unfold platenlaw20_ClassFits.l0
      repeat' first
      | (with_reducible exact ih0 _ _ _ _ _ _ _)
      | (with_reducible exact ih1 _ _ _ _ _ _ _)
      | (with_reducible exact class_Spare.mono _ _ _ _)
      | (with_reducible exact platenlaw20_alive.mono _)
      | (with_reducible exact LeO.refl _)
      | (with_reducible exact LeO.none _)
      | (with_reducible refine LeO.ite ?_ ?_)
      | (with_reducible refine LeO.bind ?_ (fun _ => ?_))
      | exact ih0 _ _ _ _ _ _ _
      | exact ih1 _ _ _ _ _ _ _
      | exact class_Spare.mono _ _ _ _
      | exact platenlaw20_alive.mono _
      | exact LeO.none _
      | refine LeO.ite ?_ ?_
      | refine LeO.bind ?_ (fun _ => ?_)
theorem platenlaw20_ClassFits.mono : ∀ a0 a1 a2 k, LeO (platenlaw20_ClassFits.f k a0 a1 a2) (platenlaw20_ClassFits.f (k + 1) a0 a1 a2) := by
  intro a0 a1 a2 k
  obtain ⟨ih0, ih1⟩ := platenlaw20_ClassFits.mono_l k
  unfold platenlaw20_ClassFits.f
  repeat' first
      | (with_reducible exact ih0 _ _ _ _ _ _ _)
      | (with_reducible exact ih1 _ _ _ _ _ _ _)
      | (with_reducible exact class_Spare.mono _ _ _ _)
      | (with_reducible exact platenlaw20_alive.mono _)
      | (with_reducible exact LeO.refl _)
      | (with_reducible exact LeO.none _)
      | (with_reducible refine LeO.ite ?_ ?_)
      | (with_reducible refine LeO.bind ?_ (fun _ => ?_))
      | exact ih0 _ _ _ _ _ _ _
      | exact ih1 _ _ _ _ _ _ _
      | exact class_Spare.mono _ _ _ _
      | exact platenlaw20_alive.mono _
      | exact LeO.none _
      | refine LeO.ite ?_ ?_
      | refine LeO.bind ?_ (fun _ => ?_)
set_option maxHeartbeats 8000000 in
set_option maxRecDepth 100000 in
theorem platenlaw20_ClassFits.calls (k : Nat) (a0 : Int) (a1 : Int) (a2 : Int) (r : Bool) (w : World) (h : platenlaw20_ClassFits.f k a0 a1 a2 = some r) :
    Calls Try.prog 3 #[.int .u8 a0, .int .u16 a1, .int .u16 a2] w fun e w' => e = .returned (.bool r) ∧ Below w.heap.size w w' := by
  have HB := Aside0.mk (Below.refl w.heap.size w)
  have H : (if 0 ≤ (IntKind.u64.wrap (Int.tmod a0 5)) then ((class_Fit.f (Int.tmod (wrap64 (a1)) 18000) (shl .i64 1024 (IntKind.u64.wrap (Int.tmod a0 5)))).bind fun bt121 => ((class_Spare.f k (Int.tmod (wrap64 (a1)) 18000) (Int.tmod (wrap64 (a2)) 3000) (shl .i64 1024 (IntKind.u64.wrap (Int.tmod a0 5)))).bind fun bt123 => ((class_Size.f 5 (shl .i64 1024 (IntKind.u64.wrap (Int.tmod a0 5)))).bind fun t125 => (if (bt121.2 != (decide ((Int.tmod (wrap64 (a1)) 18000) ≤ t125))) = true then (platenlaw20_ClassFits.j0 k (shl .i64 1024 (IntKind.u64.wrap (Int.tmod a0 5))) (Int.tmod (wrap64 (a1)) 18000) (Int.tmod (wrap64 (a2)) 3000) bt121.1 bt121.2 bt123.1 true) else (if (bt123.2 != bt121.2) = true then (platenlaw20_ClassFits.j0 k (shl .i64 1024 (IntKind.u64.wrap (Int.tmod a0 5))) (Int.tmod (wrap64 (a1)) 18000) (Int.tmod (wrap64 (a2)) 3000) bt121.1 bt121.2 bt123.1 true) else (if bt121.2 = true then ((class_Size.f bt121.1 (shl .i64 1024 (IntKind.u64.wrap (Int.tmod a0 5)))).bind fun t126 => (if t126 < (Int.tmod (wrap64 (a1)) 18000) then (platenlaw20_ClassFits.j0 k (shl .i64 1024 (IntKind.u64.wrap (Int.tmod a0 5))) (Int.tmod (wrap64 (a1)) 18000) (Int.tmod (wrap64 (a2)) 3000) bt121.1 bt121.2 bt123.1 true) else (if bt121.1 > 0 then ((class_Size.f (wrap64 (bt121.1 - 1)) (shl .i64 1024 (IntKind.u64.wrap (Int.tmod a0 5)))).bind fun t127 => (if t127 ≥ (Int.tmod (wrap64 (a1)) 18000) then (platenlaw20_ClassFits.j0 k (shl .i64 1024 (IntKind.u64.wrap (Int.tmod a0 5))) (Int.tmod (wrap64 (a1)) 18000) (Int.tmod (wrap64 (a2)) 3000) bt121.1 bt121.2 bt123.1 true) else (platenlaw20_ClassFits.j0 k (shl .i64 1024 (IntKind.u64.wrap (Int.tmod a0 5))) (Int.tmod (wrap64 (a1)) 18000) (Int.tmod (wrap64 (a2)) 3000) bt121.1 bt121.2 bt123.1 (decide (bt123.1 < bt121.1))))) else (platenlaw20_ClassFits.j0 k (shl .i64 1024 (IntKind.u64.wrap (Int.tmod a0 5))) (Int.tmod (wrap64 (a1)) 18000) (Int.tmod (wrap64 (a2)) 3000) bt121.1 bt121.2 bt123.1 (decide (bt123.1 < bt121.1)))))) else (platenlaw20_ClassFits.j0 k (shl .i64 1024 (IntKind.u64.wrap (Int.tmod a0 5))) (Int.tmod (wrap64 (a1)) 18000) (Int.tmod (wrap64 (a2)) 3000) bt121.1 bt121.2 bt123.1 false))))))) else (none)) = some r := h
  clear h
  obtain ⟨ji4, hji4⟩ : ∃ j_ : Int, (IntKind.u64.wrap (Int.tmod a0 5)) = j_ := ⟨_, rfl⟩
  replace H : (if 0 ≤ (ji4) then ((class_Fit.f (Int.tmod (wrap64 (a1)) 18000) (shl .i64 1024 (ji4))).bind fun bt121 => ((class_Spare.f k (Int.tmod (wrap64 (a1)) 18000) (Int.tmod (wrap64 (a2)) 3000) (shl .i64 1024 (ji4))).bind fun bt123 => ((class_Size.f 5 (shl .i64 1024 (ji4))).bind fun t125 => (if (bt121.2 != (decide ((Int.tmod (wrap64 (a1)) 18000) ≤ t125))) = true then (platenlaw20_ClassFits.j0 k (shl .i64 1024 (ji4)) (Int.tmod (wrap64 (a1)) 18000) (Int.tmod (wrap64 (a2)) 3000) bt121.1 bt121.2 bt123.1 true) else (if (bt123.2 != bt121.2) = true then (platenlaw20_ClassFits.j0 k (shl .i64 1024 (ji4)) (Int.tmod (wrap64 (a1)) 18000) (Int.tmod (wrap64 (a2)) 3000) bt121.1 bt121.2 bt123.1 true) else (if bt121.2 = true then ((class_Size.f bt121.1 (shl .i64 1024 (ji4))).bind fun t126 => (if t126 < (Int.tmod (wrap64 (a1)) 18000) then (platenlaw20_ClassFits.j0 k (shl .i64 1024 (ji4)) (Int.tmod (wrap64 (a1)) 18000) (Int.tmod (wrap64 (a2)) 3000) bt121.1 bt121.2 bt123.1 true) else (if bt121.1 > 0 then ((class_Size.f (wrap64 (bt121.1 - 1)) (shl .i64 1024 (ji4))).bind fun t127 => (if t127 ≥ (Int.tmod (wrap64 (a1)) 18000) then (platenlaw20_ClassFits.j0 k (shl .i64 1024 (ji4)) (Int.tmod (wrap64 (a1)) 18000) (Int.tmod (wrap64 (a2)) 3000) bt121.1 bt121.2 bt123.1 true) else (platenlaw20_ClassFits.j0 k (shl .i64 1024 (ji4)) (Int.tmod (wrap64 (a1)) 18000) (Int.tmod (wrap64 (a2)) 3000) bt121.1 bt121.2 bt123.1 (decide (bt123.1 < bt121.1))))) else (platenlaw20_ClassFits.j0 k (shl .i64 1024 (ji4)) (Int.tmod (wrap64 (a1)) 18000) (Int.tmod (wrap64 (a2)) 3000) bt121.1 bt121.2 bt123.1 (decide (bt123.1 < bt121.1)))))) else (platenlaw20_ClassFits.j0 k (shl .i64 1024 (ji4)) (Int.tmod (wrap64 (a1)) 18000) (Int.tmod (wrap64 (a2)) 3000) bt121.1 bt121.2 bt123.1 false))))))) else (none)) = some r := by first | (rw [hji4] at H; exact H) | (simp only [hji4] at H ⊢; exact H)
  by_cases c5 : 0 ≤ (ji4)
  · rw [if_pos c5] at H
    have c5b0 := eq_true c5
    have c5b1 : decide (0 ≤ (ji4)) = true := decide_eq_true c5
    clear c5
    obtain ⟨ji6, hji6⟩ : ∃ j_ : Int, (shl .i64 1024 (ji4)) = j_ := ⟨_, rfl⟩
    replace H : ((class_Fit.f (Int.tmod (wrap64 (a1)) 18000) (ji6)).bind fun bt121 => ((class_Spare.f k (Int.tmod (wrap64 (a1)) 18000) (Int.tmod (wrap64 (a2)) 3000) (ji6)).bind fun bt123 => ((class_Size.f 5 (ji6)).bind fun t125 => (if (bt121.2 != (decide ((Int.tmod (wrap64 (a1)) 18000) ≤ t125))) = true then (platenlaw20_ClassFits.j0 k ji6 (Int.tmod (wrap64 (a1)) 18000) (Int.tmod (wrap64 (a2)) 3000) bt121.1 bt121.2 bt123.1 true) else (if (bt123.2 != bt121.2) = true then (platenlaw20_ClassFits.j0 k ji6 (Int.tmod (wrap64 (a1)) 18000) (Int.tmod (wrap64 (a2)) 3000) bt121.1 bt121.2 bt123.1 true) else (if bt121.2 = true then ((class_Size.f bt121.1 (ji6)).bind fun t126 => (if t126 < (Int.tmod (wrap64 (a1)) 18000) then (platenlaw20_ClassFits.j0 k ji6 (Int.tmod (wrap64 (a1)) 18000) (Int.tmod (wrap64 (a2)) 3000) bt121.1 bt121.2 bt123.1 true) else (if bt121.1 > 0 then ((class_Size.f (wrap64 (bt121.1 - 1)) (ji6)).bind fun t127 => (if t127 ≥ (Int.tmod (wrap64 (a1)) 18000) then (platenlaw20_ClassFits.j0 k ji6 (Int.tmod (wrap64 (a1)) 18000) (Int.tmod (wrap64 (a2)) 3000) bt121.1 bt121.2 bt123.1 true) else (platenlaw20_ClassFits.j0 k ji6 (Int.tmod (wrap64 (a1)) 18000) (Int.tmod (wrap64 (a2)) 3000) bt121.1 bt121.2 bt123.1 (decide (bt123.1 < bt121.1))))) else (platenlaw20_ClassFits.j0 k ji6 (Int.tmod (wrap64 (a1)) 18000) (Int.tmod (wrap64 (a2)) 3000) bt121.1 bt121.2 bt123.1 (decide (bt123.1 < bt121.1)))))) else (platenlaw20_ClassFits.j0 k ji6 (Int.tmod (wrap64 (a1)) 18000) (Int.tmod (wrap64 (a2)) 3000) bt121.1 bt121.2 bt123.1 false))))))) = some r := by first | (rw [hji6] at H; exact H) | (simp only [hji6] at H ⊢; exact H)
    have hji6_ : (IntKind.i64.wrap (1024 * 2 ^ min (ji4).toNat 64)) = ji6 := hji6
    have hji6z : (ji4) ≤ 64 → (IntKind.i64.wrap (1024 * 2 ^ (ji4).toNat)) = ji6 := shl_small hji6
    have hji6y : (wrap64 (1024 * 2 ^ min (ji4).toNat 64)) = ji6 := (i64_w _).symm.trans hji6_
    have hji6x : (ji4) ≤ 64 → (wrap64 (1024 * 2 ^ (ji4).toNat)) = ji6 := fun h_ => (i64_w _).symm.trans (hji6z h_)
    replace H := Option.bind_eq_some_iff.mp H
    obtain ⟨⟨t121, t122⟩, A70, H⟩ := H
    replace H : ((class_Spare.f k (Int.tmod (wrap64 (a1)) 18000) (Int.tmod (wrap64 (a2)) 3000) (ji6)).bind fun bt123 => ((class_Size.f 5 (ji6)).bind fun t125 => (if (t122 != (decide ((Int.tmod (wrap64 (a1)) 18000) ≤ t125))) = true then (platenlaw20_ClassFits.j0 k ji6 (Int.tmod (wrap64 (a1)) 18000) (Int.tmod (wrap64 (a2)) 3000) t121 t122 bt123.1 true) else (if (bt123.2 != t122) = true then (platenlaw20_ClassFits.j0 k ji6 (Int.tmod (wrap64 (a1)) 18000) (Int.tmod (wrap64 (a2)) 3000) t121 t122 bt123.1 true) else (if t122 = true then ((class_Size.f t121 (ji6)).bind fun t126 => (if t126 < (Int.tmod (wrap64 (a1)) 18000) then (platenlaw20_ClassFits.j0 k ji6 (Int.tmod (wrap64 (a1)) 18000) (Int.tmod (wrap64 (a2)) 3000) t121 t122 bt123.1 true) else (if t121 > 0 then ((class_Size.f (wrap64 (t121 - 1)) (ji6)).bind fun t127 => (if t127 ≥ (Int.tmod (wrap64 (a1)) 18000) then (platenlaw20_ClassFits.j0 k ji6 (Int.tmod (wrap64 (a1)) 18000) (Int.tmod (wrap64 (a2)) 3000) t121 t122 bt123.1 true) else (platenlaw20_ClassFits.j0 k ji6 (Int.tmod (wrap64 (a1)) 18000) (Int.tmod (wrap64 (a2)) 3000) t121 t122 bt123.1 (decide (bt123.1 < t121))))) else (platenlaw20_ClassFits.j0 k ji6 (Int.tmod (wrap64 (a1)) 18000) (Int.tmod (wrap64 (a2)) 3000) t121 t122 bt123.1 (decide (bt123.1 < t121)))))) else (platenlaw20_ClassFits.j0 k ji6 (Int.tmod (wrap64 (a1)) 18000) (Int.tmod (wrap64 (a2)) 3000) t121 t122 bt123.1 false)))))) = some r := H
    have A7 := Aside0.mk A70
    clear A70
    replace H := Option.bind_eq_some_iff.mp H
    obtain ⟨⟨t123, t124⟩, A80, H⟩ := H
    replace H : ((class_Size.f 5 (ji6)).bind fun t125 => (if (t122 != (decide ((Int.tmod (wrap64 (a1)) 18000) ≤ t125))) = true then (platenlaw20_ClassFits.j0 k ji6 (Int.tmod (wrap64 (a1)) 18000) (Int.tmod (wrap64 (a2)) 3000) t121 t122 t123 true) else (if (t124 != t122) = true then (platenlaw20_ClassFits.j0 k ji6 (Int.tmod (wrap64 (a1)) 18000) (Int.tmod (wrap64 (a2)) 3000) t121 t122 t123 true) else (if t122 = true then ((class_Size.f t121 (ji6)).bind fun t126 => (if t126 < (Int.tmod (wrap64 (a1)) 18000) then (platenlaw20_ClassFits.j0 k ji6 (Int.tmod (wrap64 (a1)) 18000) (Int.tmod (wrap64 (a2)) 3000) t121 t122 t123 true) else (if t121 > 0 then ((class_Size.f (wrap64 (t121 - 1)) (ji6)).bind fun t127 => (if t127 ≥ (Int.tmod (wrap64 (a1)) 18000) then (platenlaw20_ClassFits.j0 k ji6 (Int.tmod (wrap64 (a1)) 18000) (Int.tmod (wrap64 (a2)) 3000) t121 t122 t123 true) else (platenlaw20_ClassFits.j0 k ji6 (Int.tmod (wrap64 (a1)) 18000) (Int.tmod (wrap64 (a2)) 3000) t121 t122 t123 (decide (t123 < t121))))) else (platenlaw20_ClassFits.j0 k ji6 (Int.tmod (wrap64 (a1)) 18000) (Int.tmod (wrap64 (a2)) 3000) t121 t122 t123 (decide (t123 < t121)))))) else (platenlaw20_ClassFits.j0 k ji6 (Int.tmod (wrap64 (a1)) 18000) (Int.tmod (wrap64 (a2)) 3000) t121 t122 t123 false))))) = some r := H
    have A8 := Aside0.mk A80
    clear A80
    have HC9 := Aside0.mk H
    clear H
    go_enter Try.func3, Try.ntmps3
    go_upto_region 5 with (first | ((with_reducible refine gate_callee (f := 5) rfl ?_); refine goesL_ (some 29) rfl rfl Try.func5 (by kernel_rfl) rfl #[.int .i64 (Int.tmod (wrap64 (a1)) 18000), .int .i64 ji6] rfl (by (try simp only [List.map_toArray, List.map_cons, List.map_nil]); first | done | (simp only [hji6]; rfl) | rfl | (simp only [List.length_drop, List.length_take]; rfl)) ?_; (with_reducible refine (class_Fit.calls (Int.tmod (wrap64 (a1)) 18000) ji6 t121 t122 _ A7.out).mono ?_); rintro e w10 ⟨rfl, hb⟩; refine ⟨_, rfl, ?_⟩; have n0_ := Aside0.mk (below_step (by repeat (first | (with_reducible first | exact HB.out | apply below_alloc | apply pw_below_drewN | apply below_drew1) | exact HB.out)) hb); clear HB; have HB := n0_; clear n0_; (try clear hb); (try clear hb2); (try clear hk); (try clear hi)) | ((with_reducible refine gate_callee (f := 6) rfl ?_); refine goesL_ (some 36) rfl rfl Try.func6 (by kernel_rfl) rfl #[.int .i64 (Int.tmod (wrap64 (a1)) 18000), .int .i64 (Int.tmod (wrap64 (a2)) 3000), .int .i64 ji6] rfl (by (try simp only [List.map_toArray, List.map_cons, List.map_nil]); first | done | (simp only [hji6]; rfl) | rfl | (simp only [List.length_drop, List.length_take]; rfl)) ?_; (with_reducible refine (class_Spare.calls k (Int.tmod (wrap64 (a1)) 18000) (Int.tmod (wrap64 (a2)) 3000) ji6 t123 t124 _ A8.out).mono ?_); rintro e w11 ⟨rfl, hb⟩; refine ⟨_, rfl, ?_⟩; have n0_ := Aside0.mk (below_step (by repeat (first | (with_reducible first | exact HB.out | apply below_alloc | apply pw_below_drewN | apply below_drew1) | exact HB.out)) hb); clear HB; have HB := n0_; clear n0_; (try clear hb); (try clear hb2); (try clear hk); (try clear hi)))
    (try simp only [Act.put, List.setIfInBounds_toArray, List.set_cons_zero, List.set_cons_succ])
    go_cut [76] (fun v76 wc => ∃ (kq : Nat) (x76_8 : Bool), v76 = .bool x76_8 ∧ Aside0 (platenlaw20_ClassFits.j0 kq ji6 (Int.tmod (wrap64 (a1)) 18000) (Int.tmod (wrap64 (a2)) 3000) t121 t122 t123 x76_8 = some r) ∧ Aside0 (kq ≤ k) ∧ Aside0 (Below w.heap.size w wc))
    case first =>
      have H := HC9.out
      clear HC9
      replace H := Option.bind_eq_some_iff.mp H
      obtain ⟨t125, A120, H⟩ := H
      replace H : (if (t122 != (decide ((Int.tmod (wrap64 (a1)) 18000) ≤ t125))) = true then (platenlaw20_ClassFits.j0 k ji6 (Int.tmod (wrap64 (a1)) 18000) (Int.tmod (wrap64 (a2)) 3000) t121 t122 t123 true) else (if (t124 != t122) = true then (platenlaw20_ClassFits.j0 k ji6 (Int.tmod (wrap64 (a1)) 18000) (Int.tmod (wrap64 (a2)) 3000) t121 t122 t123 true) else (if t122 = true then ((class_Size.f t121 (ji6)).bind fun t126 => (if t126 < (Int.tmod (wrap64 (a1)) 18000) then (platenlaw20_ClassFits.j0 k ji6 (Int.tmod (wrap64 (a1)) 18000) (Int.tmod (wrap64 (a2)) 3000) t121 t122 t123 true) else (if t121 > 0 then ((class_Size.f (wrap64 (t121 - 1)) (ji6)).bind fun t127 => (if t127 ≥ (Int.tmod (wrap64 (a1)) 18000) then (platenlaw20_ClassFits.j0 k ji6 (Int.tmod (wrap64 (a1)) 18000) (Int.tmod (wrap64 (a2)) 3000) t121 t122 t123 true) else (platenlaw20_ClassFits.j0 k ji6 (Int.tmod (wrap64 (a1)) 18000) (Int.tmod (wrap64 (a2)) 3000) t121 t122 t123 (decide (t123 < t121))))) else (platenlaw20_ClassFits.j0 k ji6 (Int.tmod (wrap64 (a1)) 18000) (Int.tmod (wrap64 (a2)) 3000) t121 t122 t123 (decide (t123 < t121)))))) else (platenlaw20_ClassFits.j0 k ji6 (Int.tmod (wrap64 (a1)) 18000) (Int.tmod (wrap64 (a2)) 3000) t121 t122 t123 false)))) = some r := H
      have A12 := Aside0.mk A120
      clear A120
      by_cases c13 : (t122 != (decide ((Int.tmod (wrap64 (a1)) 18000) ≤ t125))) = true
      · rw [if_pos c13] at H
        have c13b0 : (t122 != (decide ((Int.tmod (wrap64 (a1)) 18000) ≤ t125))) = true := c13
        (try (have c13b1 : decide (t122 = (decide ((Int.tmod (wrap64 (a1)) 18000) ≤ t125))) = false := by simpa using c13))
        (try (have c13b2 : (t122 == (decide ((Int.tmod (wrap64 (a1)) 18000) ≤ t125))) = false := by simpa using c13))
        (try (have c13b3 : ¬ (t122 = (decide ((Int.tmod (wrap64 (a1)) 18000) ≤ t125))) := by simpa using c13))
        clear c13
        (first | rw [c13b0] | (simp only [i64_w, i32_w]; rw [c13b0]) | skip)
        have H' := Aside0.mk H
        clear H
        go_wp2_with (first | ((with_reducible refine gate_callee (f := 7) rfl ?_); refine goesL_ (some 42) rfl rfl Try.func7 (by kernel_rfl) rfl #[.int .i64 5, .int .i64 ji6] rfl (by (try simp only [List.map_toArray, List.map_cons, List.map_nil]); first | done | (simp only [hji6]; rfl) | rfl | (simp only [List.length_drop, List.length_take]; rfl)) ?_; (with_reducible refine (class_Size.calls 5 ji6 t125 _ A12.out).mono ?_); rintro e w14 ⟨rfl, hb⟩; refine ⟨_, rfl, ?_⟩; have n0_ := Aside0.mk (below_step (by repeat (first | (with_reducible first | exact HB.out | apply below_alloc | apply pw_below_drewN | apply below_drew1) | exact HB.out)) hb); clear HB; have HB := n0_; clear n0_; (try clear hb); (try clear hb2); (try clear hk); (try clear hi)))
        go_meet
        case rel => exact ⟨_, (true), (by first | rfl | (simp; done) | (simp [*]; done)), H', ⟨by first | omega | exact Nat.le_refl _⟩, ⟨by repeat (first | (with_reducible first | exact HB.out | apply below_alloc | apply pw_below_drewN | apply below_drew1) | exact HB.out)⟩⟩
      · rw [if_neg c13] at H
        have c13b0 : (t122 != (decide ((Int.tmod (wrap64 (a1)) 18000) ≤ t125))) = false := by simpa using c13
        (try (have c13b1 : decide (t122 = (decide ((Int.tmod (wrap64 (a1)) 18000) ≤ t125))) = true := by simpa using c13))
        (try (have c13b2 : (t122 == (decide ((Int.tmod (wrap64 (a1)) 18000) ≤ t125))) = true := by simpa using c13))
        clear c13
        (first | rw [c13b0] | (simp only [i64_w, i32_w]; rw [c13b0]) | skip)
        by_cases c15 : (t124 != t122) = true
        · rw [if_pos c15] at H
          have c15b0 : (t124 != t122) = true := c15
          (try (have c15b1 : decide (t124 = t122) = false := by simpa using c15))
          (try (have c15b2 : (t124 == t122) = false := by simpa using c15))
          (try (have c15b3 : ¬ (t124 = t122) := by simpa using c15))
          clear c15
          have H' := Aside0.mk H
          clear H
          go_wp2_with (first | ((with_reducible refine gate_callee (f := 7) rfl ?_); refine goesL_ (some 42) rfl rfl Try.func7 (by kernel_rfl) rfl #[.int .i64 5, .int .i64 ji6] rfl (by (try simp only [List.map_toArray, List.map_cons, List.map_nil]); first | done | (simp only [hji6]; rfl) | rfl | (simp only [List.length_drop, List.length_take]; rfl)) ?_; (with_reducible refine (class_Size.calls 5 ji6 t125 _ A12.out).mono ?_); rintro e w16 ⟨rfl, hb⟩; refine ⟨_, rfl, ?_⟩; have n0_ := Aside0.mk (below_step (by repeat (first | (with_reducible first | exact HB.out | apply below_alloc | apply pw_below_drewN | apply below_drew1) | exact HB.out)) hb); clear HB; have HB := n0_; clear n0_; (try clear hb); (try clear hb2); (try clear hk); (try clear hi)))
          go_meet
          case rel => exact ⟨_, (true), (by first | rfl | (simp; done) | (simp [*]; done)), H', ⟨by first | omega | exact Nat.le_refl _⟩, ⟨by repeat (first | (with_reducible first | exact HB.out | apply below_alloc | apply pw_below_drewN | apply below_drew1) | exact HB.out)⟩⟩
        · rw [if_neg c15] at H
          have c15b0 : (t124 != t122) = false := by simpa using c15
          (try (have c15b1 : decide (t124 = t122) = true := by simpa using c15))
          (try (have c15b2 : (t124 == t122) = true := by simpa using c15))
          clear c15
          by_cases c17 : t122 = true
          · subst c17
            have H1 : ((class_Size.f t121 (ji6)).bind fun t126 => (if t126 < (Int.tmod (wrap64 (a1)) 18000) then (platenlaw20_ClassFits.j0 k ji6 (Int.tmod (wrap64 (a1)) 18000) (Int.tmod (wrap64 (a2)) 3000) t121 true t123 true) else (if t121 > 0 then ((class_Size.f (wrap64 (t121 - 1)) (ji6)).bind fun t127 => (if t127 ≥ (Int.tmod (wrap64 (a1)) 18000) then (platenlaw20_ClassFits.j0 k ji6 (Int.tmod (wrap64 (a1)) 18000) (Int.tmod (wrap64 (a2)) 3000) t121 true t123 true) else (platenlaw20_ClassFits.j0 k ji6 (Int.tmod (wrap64 (a1)) 18000) (Int.tmod (wrap64 (a2)) 3000) t121 true t123 (decide (t123 < t121))))) else (platenlaw20_ClassFits.j0 k ji6 (Int.tmod (wrap64 (a1)) 18000) (Int.tmod (wrap64 (a2)) 3000) t121 true t123 (decide (t123 < t121)))))) = some r := by rw [if_pos rfl] at H; exact H
            clear H
            have H := H1
            clear H1
            replace H := Option.bind_eq_some_iff.mp H
            obtain ⟨t126, A180, H⟩ := H
            replace H : (if t126 < (Int.tmod (wrap64 (a1)) 18000) then (platenlaw20_ClassFits.j0 k ji6 (Int.tmod (wrap64 (a1)) 18000) (Int.tmod (wrap64 (a2)) 3000) t121 true t123 true) else (if t121 > 0 then ((class_Size.f (wrap64 (t121 - 1)) (ji6)).bind fun t127 => (if t127 ≥ (Int.tmod (wrap64 (a1)) 18000) then (platenlaw20_ClassFits.j0 k ji6 (Int.tmod (wrap64 (a1)) 18000) (Int.tmod (wrap64 (a2)) 3000) t121 true t123 true) else (platenlaw20_ClassFits.j0 k ji6 (Int.tmod (wrap64 (a1)) 18000) (Int.tmod (wrap64 (a2)) 3000) t121 true t123 (decide (t123 < t121))))) else (platenlaw20_ClassFits.j0 k ji6 (Int.tmod (wrap64 (a1)) 18000) (Int.tmod (wrap64 (a2)) 3000) t121 true t123 (decide (t123 < t121))))) = some r := H
            have A18 := Aside0.mk A180
            clear A180
            by_cases c19 : t126 < (Int.tmod (wrap64 (a1)) 18000)
            · rw [if_pos c19] at H
              have c19b0 : decide (t126 < (Int.tmod (wrap64 (a1)) 18000)) = true := decide_eq_true c19
              clear c19
              have H' := Aside0.mk H
              clear H
              go_wp2_with (first | ((with_reducible refine gate_callee (f := 7) rfl ?_); refine goesL_ (some 42) rfl rfl Try.func7 (by kernel_rfl) rfl #[.int .i64 5, .int .i64 ji6] rfl (by (try simp only [List.map_toArray, List.map_cons, List.map_nil]); first | done | (simp only [hji6]; rfl) | rfl | (simp only [List.length_drop, List.length_take]; rfl)) ?_; (with_reducible refine (class_Size.calls 5 ji6 t125 _ A12.out).mono ?_); rintro e w20 ⟨rfl, hb⟩; refine ⟨_, rfl, ?_⟩; have n0_ := Aside0.mk (below_step (by repeat (first | (with_reducible first | exact HB.out | apply below_alloc | apply pw_below_drewN | apply below_drew1) | exact HB.out)) hb); clear HB; have HB := n0_; clear n0_; (try clear hb); (try clear hb2); (try clear hk); (try clear hi)) | (go_at_call 7; (with_reducible refine (class_Size.calls t121 ji6 t126 _ A18.out).mono ?_); rintro e w21 ⟨rfl, hb⟩; have n0_ := Aside0.mk (below_step (by repeat (first | (with_reducible first | exact HB.out | apply below_alloc | apply pw_below_drewN | apply below_drew1) | exact HB.out)) hb); clear HB; have HB := n0_; clear n0_; (try clear hb); (try clear hb2); (try clear hk); (try clear hi)))
              go_meet
              case rel => exact ⟨_, (true), (by first | rfl | (simp; done) | (simp [*]; done)), H', ⟨by first | omega | exact Nat.le_refl _⟩, ⟨by repeat (first | (with_reducible first | exact HB.out | apply below_alloc | apply pw_below_drewN | apply below_drew1) | exact HB.out)⟩⟩
            · rw [if_neg c19] at H
              have c19b0 : decide (t126 < (Int.tmod (wrap64 (a1)) 18000)) = false := decide_eq_false c19
              clear c19
              by_cases c22 : t121 > 0
              · rw [if_pos c22] at H
                have c22b0 : decide (0 < t121) = true := decide_eq_true c22
                clear c22
                replace H := Option.bind_eq_some_iff.mp H
                obtain ⟨t127, A230, H⟩ := H
                replace H : (if t127 ≥ (Int.tmod (wrap64 (a1)) 18000) then (platenlaw20_ClassFits.j0 k ji6 (Int.tmod (wrap64 (a1)) 18000) (Int.tmod (wrap64 (a2)) 3000) t121 true t123 true) else (platenlaw20_ClassFits.j0 k ji6 (Int.tmod (wrap64 (a1)) 18000) (Int.tmod (wrap64 (a2)) 3000) t121 true t123 (decide (t123 < t121)))) = some r := H
                have A23 := Aside0.mk A230
                clear A230
                by_cases c24 : t127 ≥ (Int.tmod (wrap64 (a1)) 18000)
                · rw [if_pos c24] at H
                  have c24b0 : decide ((Int.tmod (wrap64 (a1)) 18000) ≤ t127) = true := decide_eq_true c24
                  clear c24
                  have H' := Aside0.mk H
                  clear H
                  go_wp2_with (first | ((with_reducible refine gate_callee (f := 7) rfl ?_); refine goesL_ (some 42) rfl rfl Try.func7 (by kernel_rfl) rfl #[.int .i64 5, .int .i64 ji6] rfl (by (try simp only [List.map_toArray, List.map_cons, List.map_nil]); first | done | (simp only [hji6]; rfl) | rfl | (simp only [List.length_drop, List.length_take]; rfl)) ?_; (with_reducible refine (class_Size.calls 5 ji6 t125 _ A12.out).mono ?_); rintro e w25 ⟨rfl, hb⟩; refine ⟨_, rfl, ?_⟩; have n0_ := Aside0.mk (below_step (by repeat (first | (with_reducible first | exact HB.out | apply below_alloc | apply pw_below_drewN | apply below_drew1) | exact HB.out)) hb); clear HB; have HB := n0_; clear n0_; (try clear hb); (try clear hb2); (try clear hk); (try clear hi)) | (go_at_call 7; (with_reducible refine (class_Size.calls t121 ji6 t126 _ A18.out).mono ?_); rintro e w26 ⟨rfl, hb⟩; have n0_ := Aside0.mk (below_step (by repeat (first | (with_reducible first | exact HB.out | apply below_alloc | apply pw_below_drewN | apply below_drew1) | exact HB.out)) hb); clear HB; have HB := n0_; clear n0_; (try clear hb); (try clear hb2); (try clear hk); (try clear hi)) | (go_at_call 7; (with_reducible refine (class_Size.calls (wrap64 (t121 - 1)) ji6 t127 _ A23.out).mono ?_); rintro e w27 ⟨rfl, hb⟩; have n0_ := Aside0.mk (below_step (by repeat (first | (with_reducible first | exact HB.out | apply below_alloc | apply pw_below_drewN | apply below_drew1) | exact HB.out)) hb); clear HB; have HB := n0_; clear n0_; (try clear hb); (try clear hb2); (try clear hk); (try clear hi)))
                  go_meet
                  case rel => exact ⟨_, (true), (by first | rfl | (simp; done) | (simp [*]; done)), H', ⟨by first | omega | exact Nat.le_refl _⟩, ⟨by repeat (first | (with_reducible first | exact HB.out | apply below_alloc | apply pw_below_drewN | apply below_drew1) | exact HB.out)⟩⟩
                · rw [if_neg c24] at H
                  have c24b0 : decide ((Int.tmod (wrap64 (a1)) 18000) ≤ t127) = false := decide_eq_false c24
                  clear c24
                  have H' := Aside0.mk H
                  clear H
                  go_wp2_with (first | ((with_reducible refine gate_callee (f := 7) rfl ?_); refine goesL_ (some 42) rfl rfl Try.func7 (by kernel_rfl) rfl #[.int .i64 5, .int .i64 ji6] rfl (by (try simp only [List.map_toArray, List.map_cons, List.map_nil]); first | done | (simp only [hji6]; rfl) | rfl | (simp only [List.length_drop, List.length_take]; rfl)) ?_; (with_reducible refine (class_Size.calls 5 ji6 t125 _ A12.out).mono ?_); rintro e w28 ⟨rfl, hb⟩; refine ⟨_, rfl, ?_⟩; have n0_ := Aside0.mk (below_step (by repeat (first | (with_reducible first | exact HB.out | apply below_alloc | apply pw_below_drewN | apply below_drew1) | exact HB.out)) hb); clear HB; have HB := n0_; clear n0_; (try clear hb); (try clear hb2); (try clear hk); (try clear hi)) | (go_at_call 7; (with_reducible refine (class_Size.calls t121 ji6 t126 _ A18.out).mono ?_); rintro e w29 ⟨rfl, hb⟩; have n0_ := Aside0.mk (below_step (by repeat (first | (with_reducible first | exact HB.out | apply below_alloc | apply pw_below_drewN | apply below_drew1) | exact HB.out)) hb); clear HB; have HB := n0_; clear n0_; (try clear hb); (try clear hb2); (try clear hk); (try clear hi)) | (go_at_call 7; (with_reducible refine (class_Size.calls (wrap64 (t121 - 1)) ji6 t127 _ A23.out).mono ?_); rintro e w30 ⟨rfl, hb⟩; have n0_ := Aside0.mk (below_step (by repeat (first | (with_reducible first | exact HB.out | apply below_alloc | apply pw_below_drewN | apply below_drew1) | exact HB.out)) hb); clear HB; have HB := n0_; clear n0_; (try clear hb); (try clear hb2); (try clear hk); (try clear hi)))
                  go_meet
                  case rel => exact ⟨_, (decide (t123 < t121)), (by first | rfl | (simp; done) | (simp [*]; done)), H', ⟨by first | omega | exact Nat.le_refl _⟩, ⟨by repeat (first | (with_reducible first | exact HB.out | apply below_alloc | apply pw_below_drewN | apply below_drew1) | exact HB.out)⟩⟩
              · rw [if_neg c22] at H
                have c22b0 : decide (0 < t121) = false := decide_eq_false c22
                clear c22
                have H' := Aside0.mk H
                clear H
                go_wp2_with (first | ((with_reducible refine gate_callee (f := 7) rfl ?_); refine goesL_ (some 42) rfl rfl Try.func7 (by kernel_rfl) rfl #[.int .i64 5, .int .i64 ji6] rfl (by (try simp only [List.map_toArray, List.map_cons, List.map_nil]); first | done | (simp only [hji6]; rfl) | rfl | (simp only [List.length_drop, List.length_take]; rfl)) ?_; (with_reducible refine (class_Size.calls 5 ji6 t125 _ A12.out).mono ?_); rintro e w31 ⟨rfl, hb⟩; refine ⟨_, rfl, ?_⟩; have n0_ := Aside0.mk (below_step (by repeat (first | (with_reducible first | exact HB.out | apply below_alloc | apply pw_below_drewN | apply below_drew1) | exact HB.out)) hb); clear HB; have HB := n0_; clear n0_; (try clear hb); (try clear hb2); (try clear hk); (try clear hi)) | (go_at_call 7; (with_reducible refine (class_Size.calls t121 ji6 t126 _ A18.out).mono ?_); rintro e w32 ⟨rfl, hb⟩; have n0_ := Aside0.mk (below_step (by repeat (first | (with_reducible first | exact HB.out | apply below_alloc | apply pw_below_drewN | apply below_drew1) | exact HB.out)) hb); clear HB; have HB := n0_; clear n0_; (try clear hb); (try clear hb2); (try clear hk); (try clear hi)))
                go_meet
                case rel => exact ⟨_, (decide (t123 < t121)), (by first | rfl | (simp; done) | (simp [*]; done)), H', ⟨by first | omega | exact Nat.le_refl _⟩, ⟨by repeat (first | (with_reducible first | exact HB.out | apply below_alloc | apply pw_below_drewN | apply below_drew1) | exact HB.out)⟩⟩
          · replace c17 := Bool.eq_false_iff.mpr c17
            subst c17
            have H1 : (platenlaw20_ClassFits.j0 k ji6 (Int.tmod (wrap64 (a1)) 18000) (Int.tmod (wrap64 (a2)) 3000) t121 false t123 false) = some r := by rw [if_neg (show ¬ (false = true) by decide)] at H; exact H
            clear H
            have H := H1
            clear H1
            have H' := Aside0.mk H
            clear H
            go_wp2_with (first | ((with_reducible refine gate_callee (f := 7) rfl ?_); refine goesL_ (some 42) rfl rfl Try.func7 (by kernel_rfl) rfl #[.int .i64 5, .int .i64 ji6] rfl (by (try simp only [List.map_toArray, List.map_cons, List.map_nil]); first | done | (simp only [hji6]; rfl) | rfl | (simp only [List.length_drop, List.length_take]; rfl)) ?_; (with_reducible refine (class_Size.calls 5 ji6 t125 _ A12.out).mono ?_); rintro e w33 ⟨rfl, hb⟩; refine ⟨_, rfl, ?_⟩; have n0_ := Aside0.mk (below_step (by repeat (first | (with_reducible first | exact HB.out | apply below_alloc | apply pw_below_drewN | apply below_drew1) | exact HB.out)) hb); clear HB; have HB := n0_; clear n0_; (try clear hb); (try clear hb2); (try clear hk); (try clear hi)))
            go_meet
            case rel => exact ⟨_, (false), (by first | rfl | (simp; done) | (simp [*]; done)), H', ⟨by first | omega | exact Nat.le_refl _⟩, ⟨by repeat (first | (with_reducible first | exact HB.out | apply below_alloc | apply pw_below_drewN | apply below_drew1) | exact HB.out)⟩⟩
    case rest =>
      clear HC9
      try clear c1
      try clear c2
      try clear p2
      try clear c3
      try clear c5
      try clear c5b0
      try clear c5b1
      try clear c6
      try clear p6
      try clear c7
      try clear c13
      try clear c13b0
      try clear c13b1
      try clear c13b2
      try clear c15
      try clear c15b0
      try clear c15b1
      try clear c15b2
      try clear c17
      try clear c19
      try clear c19b0
      try clear c22
      try clear c22b0
      try clear c24
      try clear c24b0
      obtain ⟨kq, x76_8, rfl, HA, HJ8, HB⟩ := hcut
      cases kq with
      | zero => exact absurd HA.out (by simp [platenlaw20_ClassFits.j0])
      | succ kj8 =>
        have H := HA.out
        clear HA
        simp only [platenlaw20_ClassFits.j0] at H
        by_cases c34 : x76_8 = true
        · subst c34
          have H1 : (some false) = some r := by rw [if_pos rfl] at H; exact H
          clear H
          have H := H1
          clear H1
          obtain rfl := Option.some.inj H
          go_wp2
          go_ret
          exact ⟨by first | rfl | (simp [errW_none, errW_some] <;> rfl) | (simp only [← hji4, ← hji6]; first | rfl | (simp [errW_none, errW_some] <;> rfl)) | (simp [*, errW_none, errW_some] <;> rfl), by repeat (first | (with_reducible first | exact HB.out | apply below_alloc | apply pw_below_drewN | apply below_drew1) | exact HB.out)⟩
        · replace c34 := Bool.eq_false_iff.mpr c34
          subst c34
          have H1 : (platenlaw20_ClassFits.l0 kj8 ji6 (Int.tmod (wrap64 (a1)) 18000) (Int.tmod (wrap64 (a2)) 3000) t121 t122 t123 0) = some r := by rw [if_neg (show ¬ (false = true) by decide)] at H; exact H
          clear H
          have H := H1
          clear H1
          have H' := Aside0.mk H
          clear H
          go_wp2
          go_loopg [14] kj8 (fun kq v14 w' => ∃ (x14_2 : Int), v14 = .int .i64 x14_2 ∧ Aside0 (platenlaw20_ClassFits.l0 kq ji6 (Int.tmod (wrap64 (a1)) 18000) (Int.tmod (wrap64 (a2)) 3000) t121 t122 t123 x14_2 = some r) ∧ Aside0 (kq ≤ kj8) ∧ Aside0 (Below w.heap.size w w'))
          case atStart => exact ⟨(0), (by first | rfl | (simp; done) | (simp [*]; done)), H', ⟨Nat.le_refl _⟩, ⟨by repeat (first | (with_reducible first | exact HB.out | apply below_alloc | apply pw_below_drewN | apply below_drew1) | exact HB.out)⟩⟩
          case round =>
            clear H'
            try clear c1
            try clear c2
            try clear p2
            try clear c3
            try clear c5
            try clear c5b0
            try clear c5b1
            try clear c6
            try clear p6
            try clear c7
            try clear c13
            try clear c13b0
            try clear c13b1
            try clear c13b2
            try clear c15
            try clear c15b0
            try clear c15b1
            try clear c15b2
            try clear c17
            try clear c19
            try clear c19b0
            try clear c22
            try clear c22b0
            try clear c24
            try clear c24b0
            try clear c34
            try clear p2
            try clear p6
            obtain ⟨x14_2, rfl, HA, HK2, HB⟩ := hrel
            cases gk with
            | zero => exact absurd HA.out (by simp [platenlaw20_ClassFits.l0])
            | succ k2 =>
              have H := HA.out
              clear HA
              simp only [platenlaw20_ClassFits.l0] at H
              by_cases c35 : x14_2 < 6
              · rw [if_pos c35] at H
                have c35b0 : decide (x14_2 < 6) = true := decide_eq_true c35
                clear c35
                replace H := Option.bind_eq_some_iff.mp H
                obtain ⟨t128, A360, H⟩ := H
                replace H : ((class_Units.f x14_2).bind fun t129 => (if t128 = (wrap64 (t129 * (wrap64 (Int.tdiv ji6 16)))) then ((class_Slots.f x14_2).bind fun t130 => ((class_Units.f x14_2).bind fun t131 => (if (wrap64 (t130 * t131)) > 64 then (some false) else ((class_Slots.f x14_2).bind fun t132 => ((class_Units.f x14_2).bind fun t133 => (if (wrap64 ((wrap64 (t132 + 1)) * t133)) ≤ 64 then (some false) else (if x14_2 > 0 then ((class_Size.f x14_2 ji6).bind fun t134 => ((class_Size.f (wrap64 (x14_2 - 1)) ji6).bind fun t135 => (if t134 ≤ t135 then (some false) else (platenlaw20_ClassFits.l0 k2 ji6 (Int.tmod (wrap64 (a1)) 18000) (Int.tmod (wrap64 (a2)) 3000) t121 t122 t123 (wrap64 (x14_2 + 1)))))) else (platenlaw20_ClassFits.l0 k2 ji6 (Int.tmod (wrap64 (a1)) 18000) (Int.tmod (wrap64 (a2)) 3000) t121 t122 t123 (wrap64 (x14_2 + 1)))))))))) else (some false))) = some r := H
                have A36 := Aside0.mk A360
                clear A360
                replace H := Option.bind_eq_some_iff.mp H
                obtain ⟨t129, A370, H⟩ := H
                replace H : (if t128 = (wrap64 (t129 * (wrap64 (Int.tdiv ji6 16)))) then ((class_Slots.f x14_2).bind fun t130 => ((class_Units.f x14_2).bind fun t131 => (if (wrap64 (t130 * t131)) > 64 then (some false) else ((class_Slots.f x14_2).bind fun t132 => ((class_Units.f x14_2).bind fun t133 => (if (wrap64 ((wrap64 (t132 + 1)) * t133)) ≤ 64 then (some false) else (if x14_2 > 0 then ((class_Size.f x14_2 ji6).bind fun t134 => ((class_Size.f (wrap64 (x14_2 - 1)) ji6).bind fun t135 => (if t134 ≤ t135 then (some false) else (platenlaw20_ClassFits.l0 k2 ji6 (Int.tmod (wrap64 (a1)) 18000) (Int.tmod (wrap64 (a2)) 3000) t121 t122 t123 (wrap64 (x14_2 + 1)))))) else (platenlaw20_ClassFits.l0 k2 ji6 (Int.tmod (wrap64 (a1)) 18000) (Int.tmod (wrap64 (a2)) 3000) t121 t122 t123 (wrap64 (x14_2 + 1)))))))))) else (some false)) = some r := H
                have A37 := Aside0.mk A370
                clear A370
                by_cases c38 : t128 = (wrap64 (t129 * (wrap64 (Int.tdiv ji6 16))))
                · rw [if_pos c38] at H
                  have c38b0 : (t128 == (wrap64 (t129 * (wrap64 (Int.tdiv ji6 16))))) = true := beq_iff_eq.mpr c38
                  have c38b1 : (t128 != (wrap64 (t129 * (wrap64 (Int.tdiv ji6 16))))) = false := bne_eq_false_iff_eq.mpr c38
                  clear c38
                  replace H := Option.bind_eq_some_iff.mp H
                  obtain ⟨t130, A390, H⟩ := H
                  replace H : ((class_Units.f x14_2).bind fun t131 => (if (wrap64 (t130 * t131)) > 64 then (some false) else ((class_Slots.f x14_2).bind fun t132 => ((class_Units.f x14_2).bind fun t133 => (if (wrap64 ((wrap64 (t132 + 1)) * t133)) ≤ 64 then (some false) else (if x14_2 > 0 then ((class_Size.f x14_2 ji6).bind fun t134 => ((class_Size.f (wrap64 (x14_2 - 1)) ji6).bind fun t135 => (if t134 ≤ t135 then (some false) else (platenlaw20_ClassFits.l0 k2 ji6 (Int.tmod (wrap64 (a1)) 18000) (Int.tmod (wrap64 (a2)) 3000) t121 t122 t123 (wrap64 (x14_2 + 1)))))) else (platenlaw20_ClassFits.l0 k2 ji6 (Int.tmod (wrap64 (a1)) 18000) (Int.tmod (wrap64 (a2)) 3000) t121 t122 t123 (wrap64 (x14_2 + 1))))))))) = some r := H
                  have A39 := Aside0.mk A390
                  clear A390
                  replace H := Option.bind_eq_some_iff.mp H
                  obtain ⟨t131, A400, H⟩ := H
                  obtain rfl : t129 = t131 := Option.some.inj (A37.out.symm.trans A400)
                  replace H : (if (wrap64 (t130 * t129)) > 64 then (some false) else ((class_Slots.f x14_2).bind fun t132 => ((class_Units.f x14_2).bind fun t133 => (if (wrap64 ((wrap64 (t132 + 1)) * t133)) ≤ 64 then (some false) else (if x14_2 > 0 then ((class_Size.f x14_2 ji6).bind fun t134 => ((class_Size.f (wrap64 (x14_2 - 1)) ji6).bind fun t135 => (if t134 ≤ t135 then (some false) else (platenlaw20_ClassFits.l0 k2 ji6 (Int.tmod (wrap64 (a1)) 18000) (Int.tmod (wrap64 (a2)) 3000) t121 t122 t123 (wrap64 (x14_2 + 1)))))) else (platenlaw20_ClassFits.l0 k2 ji6 (Int.tmod (wrap64 (a1)) 18000) (Int.tmod (wrap64 (a2)) 3000) t121 t122 t123 (wrap64 (x14_2 + 1)))))))) = some r := H
                  have A40 := Aside0.mk A400
                  clear A400
                  by_cases c41 : (wrap64 (t130 * t129)) > 64
                  · rw [if_pos c41] at H
                    have c41b0 : decide (64 < (wrap64 (t130 * t129))) = true := decide_eq_true c41
                    clear c41
                    obtain rfl := Option.some.inj H
                    go_wp2_with (first | ((with_reducible refine gate_callee (f := 7) rfl ?_); refine goesL_ (some 83) rfl rfl Try.func7 (by kernel_rfl) rfl #[.int .i64 x14_2, .int .i64 ji6] rfl (by (try simp only [List.map_toArray, List.map_cons, List.map_nil]); first | done | (simp only [hji6]; rfl) | rfl | (simp only [List.length_drop, List.length_take]; rfl)) ?_; (with_reducible refine (class_Size.calls x14_2 ji6 t128 _ A36.out).mono ?_); rintro e w42 ⟨rfl, hb⟩; refine ⟨_, rfl, ?_⟩; have n0_ := Aside0.mk (below_step (by repeat (first | (with_reducible first | exact HB.out | apply below_alloc | apply pw_below_drewN | apply below_drew1) | exact HB.out)) hb); clear HB; have HB := n0_; clear n0_; (try clear hb); (try clear hb2); (try clear hk); (try clear hi)) | ((with_reducible refine gate_callee (f := 8) rfl ?_); refine goesL_ (some 85) rfl rfl Try.func8 (by kernel_rfl) rfl #[.int .i64 x14_2] rfl (by (try simp only [List.map_toArray, List.map_cons, List.map_nil]); first | done | rfl | (simp only [List.length_drop, List.length_take]; rfl)) ?_; (with_reducible refine (class_Units.calls x14_2 t129 _ A37.out).mono ?_); rintro e w43 ⟨rfl, hb⟩; refine ⟨_, rfl, ?_⟩; have n0_ := Aside0.mk (below_step (by repeat (first | (with_reducible first | exact HB.out | apply below_alloc | apply pw_below_drewN | apply below_drew1) | exact HB.out)) hb); clear HB; have HB := n0_; clear n0_; (try clear hb); (try clear hb2); (try clear hk); (try clear hi)) | (go_at_call 9; (with_reducible refine (class_Slots.calls x14_2 t130 _ A39.out).mono ?_); rintro e w44 ⟨rfl, hb⟩; have n0_ := Aside0.mk (below_step (by repeat (first | (with_reducible first | exact HB.out | apply below_alloc | apply pw_below_drewN | apply below_drew1) | exact HB.out)) hb); clear HB; have HB := n0_; clear n0_; (try clear hb); (try clear hb2); (try clear hk); (try clear hi)) | (go_at_call 8; (with_reducible refine (class_Units.calls x14_2 t129 _ A40.out).mono ?_); rintro e w45 ⟨rfl, hb⟩; have n0_ := Aside0.mk (below_step (by repeat (first | (with_reducible first | exact HB.out | apply below_alloc | apply pw_below_drewN | apply below_drew1) | exact HB.out)) hb); clear HB; have HB := n0_; clear n0_; (try clear hb); (try clear hb2); (try clear hk); (try clear hi)))
                    go_ret
                    exact ⟨by first | rfl | (simp [errW_none, errW_some] <;> rfl) | (simp only [← hji4, ← hji6]; first | rfl | (simp [errW_none, errW_some] <;> rfl)) | (simp [*, errW_none, errW_some] <;> rfl), by repeat (first | (with_reducible first | exact HB.out | apply below_alloc | apply pw_below_drewN | apply below_drew1) | exact HB.out)⟩
                  · rw [if_neg c41] at H
                    have c41b0 : decide (64 < (wrap64 (t130 * t129))) = false := decide_eq_false c41
                    clear c41
                    replace H := Option.bind_eq_some_iff.mp H
                    obtain ⟨t132, A460, H⟩ := H
                    obtain rfl : t130 = t132 := Option.some.inj (A39.out.symm.trans A460)
                    replace H : ((class_Units.f x14_2).bind fun t133 => (if (wrap64 ((wrap64 (t130 + 1)) * t133)) ≤ 64 then (some false) else (if x14_2 > 0 then ((class_Size.f x14_2 ji6).bind fun t134 => ((class_Size.f (wrap64 (x14_2 - 1)) ji6).bind fun t135 => (if t134 ≤ t135 then (some false) else (platenlaw20_ClassFits.l0 k2 ji6 (Int.tmod (wrap64 (a1)) 18000) (Int.tmod (wrap64 (a2)) 3000) t121 t122 t123 (wrap64 (x14_2 + 1)))))) else (platenlaw20_ClassFits.l0 k2 ji6 (Int.tmod (wrap64 (a1)) 18000) (Int.tmod (wrap64 (a2)) 3000) t121 t122 t123 (wrap64 (x14_2 + 1)))))) = some r := H
                    have A46 := Aside0.mk A460
                    clear A460
                    replace H := Option.bind_eq_some_iff.mp H
                    obtain ⟨t133, A470, H⟩ := H
                    obtain rfl : t129 = t133 := Option.some.inj (A37.out.symm.trans A470)
                    replace H : (if (wrap64 ((wrap64 (t130 + 1)) * t129)) ≤ 64 then (some false) else (if x14_2 > 0 then ((class_Size.f x14_2 ji6).bind fun t134 => ((class_Size.f (wrap64 (x14_2 - 1)) ji6).bind fun t135 => (if t134 ≤ t135 then (some false) else (platenlaw20_ClassFits.l0 k2 ji6 (Int.tmod (wrap64 (a1)) 18000) (Int.tmod (wrap64 (a2)) 3000) t121 t122 t123 (wrap64 (x14_2 + 1)))))) else (platenlaw20_ClassFits.l0 k2 ji6 (Int.tmod (wrap64 (a1)) 18000) (Int.tmod (wrap64 (a2)) 3000) t121 t122 t123 (wrap64 (x14_2 + 1))))) = some r := H
                    have A47 := Aside0.mk A470
                    clear A470
                    by_cases c48 : (wrap64 ((wrap64 (t130 + 1)) * t129)) ≤ 64
                    · rw [if_pos c48] at H
                      have c48b0 : decide ((wrap64 ((wrap64 (t130 + 1)) * t129)) ≤ 64) = true := decide_eq_true c48
                      clear c48
                      obtain rfl := Option.some.inj H
                      go_wp2_with (first | ((with_reducible refine gate_callee (f := 7) rfl ?_); refine goesL_ (some 83) rfl rfl Try.func7 (by kernel_rfl) rfl #[.int .i64 x14_2, .int .i64 ji6] rfl (by (try simp only [List.map_toArray, List.map_cons, List.map_nil]); first | done | (simp only [hji6]; rfl) | rfl | (simp only [List.length_drop, List.length_take]; rfl)) ?_; (with_reducible refine (class_Size.calls x14_2 ji6 t128 _ A36.out).mono ?_); rintro e w49 ⟨rfl, hb⟩; refine ⟨_, rfl, ?_⟩; have n0_ := Aside0.mk (below_step (by repeat (first | (with_reducible first | exact HB.out | apply below_alloc | apply pw_below_drewN | apply below_drew1) | exact HB.out)) hb); clear HB; have HB := n0_; clear n0_; (try clear hb); (try clear hb2); (try clear hk); (try clear hi)) | ((with_reducible refine gate_callee (f := 8) rfl ?_); refine goesL_ (some 85) rfl rfl Try.func8 (by kernel_rfl) rfl #[.int .i64 x14_2] rfl (by (try simp only [List.map_toArray, List.map_cons, List.map_nil]); first | done | rfl | (simp only [List.length_drop, List.length_take]; rfl)) ?_; (with_reducible refine (class_Units.calls x14_2 t129 _ A37.out).mono ?_); rintro e w50 ⟨rfl, hb⟩; refine ⟨_, rfl, ?_⟩; have n0_ := Aside0.mk (below_step (by repeat (first | (with_reducible first | exact HB.out | apply below_alloc | apply pw_below_drewN | apply below_drew1) | exact HB.out)) hb); clear HB; have HB := n0_; clear n0_; (try clear hb); (try clear hb2); (try clear hk); (try clear hi)) | (go_at_call 9; (with_reducible refine (class_Slots.calls x14_2 t130 _ A39.out).mono ?_); rintro e w51 ⟨rfl, hb⟩; have n0_ := Aside0.mk (below_step (by repeat (first | (with_reducible first | exact HB.out | apply below_alloc | apply pw_below_drewN | apply below_drew1) | exact HB.out)) hb); clear HB; have HB := n0_; clear n0_; (try clear hb); (try clear hb2); (try clear hk); (try clear hi)) | (go_at_call 8; (with_reducible refine (class_Units.calls x14_2 t129 _ A40.out).mono ?_); rintro e w52 ⟨rfl, hb⟩; have n0_ := Aside0.mk (below_step (by repeat (first | (with_reducible first | exact HB.out | apply below_alloc | apply pw_below_drewN | apply below_drew1) | exact HB.out)) hb); clear HB; have HB := n0_; clear n0_; (try clear hb); (try clear hb2); (try clear hk); (try clear hi)) | (go_at_call 9; (with_reducible refine (class_Slots.calls x14_2 t130 _ A46.out).mono ?_); rintro e w53 ⟨rfl, hb⟩; have n0_ := Aside0.mk (below_step (by repeat (first | (with_reducible first | exact HB.out | apply below_alloc | apply pw_below_drewN | apply below_drew1) | exact HB.out)) hb); clear HB; have HB := n0_; clear n0_; (try clear hb); (try clear hb2); (try clear hk); (try clear hi)) | (go_at_call 8; (with_reducible refine (class_Units.calls x14_2 t129 _ A47.out).mono ?_); rintro e w54 ⟨rfl, hb⟩; have n0_ := Aside0.mk (below_step (by repeat (first | (with_reducible first | exact HB.out | apply below_alloc | apply pw_below_drewN | apply below_drew1) | exact HB.out)) hb); clear HB; have HB := n0_; clear n0_; (try clear hb); (try clear hb2); (try clear hk); (try clear hi)))
                      go_ret
                      exact ⟨by first | rfl | (simp [errW_none, errW_some] <;> rfl) | (simp only [← hji4, ← hji6]; first | rfl | (simp [errW_none, errW_some] <;> rfl)) | (simp [*, errW_none, errW_some] <;> rfl), by repeat (first | (with_reducible first | exact HB.out | apply below_alloc | apply pw_below_drewN | apply below_drew1) | exact HB.out)⟩
                    · rw [if_neg c48] at H
                      have c48b0 : decide ((wrap64 ((wrap64 (t130 + 1)) * t129)) ≤ 64) = false := decide_eq_false c48
                      clear c48
                      by_cases c55 : x14_2 > 0
                      · rw [if_pos c55] at H
                        have c55b0 : decide (0 < x14_2) = true := decide_eq_true c55
                        clear c55
                        replace H := Option.bind_eq_some_iff.mp H
                        obtain ⟨t134, A560, H⟩ := H
                        obtain rfl : t128 = t134 := Option.some.inj (A36.out.symm.trans A560)
                        replace H : ((class_Size.f (wrap64 (x14_2 - 1)) ji6).bind fun t135 => (if t128 ≤ t135 then (some false) else (platenlaw20_ClassFits.l0 k2 ji6 (Int.tmod (wrap64 (a1)) 18000) (Int.tmod (wrap64 (a2)) 3000) t121 t122 t123 (wrap64 (x14_2 + 1))))) = some r := H
                        have A56 := Aside0.mk A560
                        clear A560
                        replace H := Option.bind_eq_some_iff.mp H
                        obtain ⟨t135, A570, H⟩ := H
                        replace H : (if t128 ≤ t135 then (some false) else (platenlaw20_ClassFits.l0 k2 ji6 (Int.tmod (wrap64 (a1)) 18000) (Int.tmod (wrap64 (a2)) 3000) t121 t122 t123 (wrap64 (x14_2 + 1)))) = some r := H
                        have A57 := Aside0.mk A570
                        clear A570
                        by_cases c58 : t128 ≤ t135
                        · rw [if_pos c58] at H
                          have c58b0 : decide (t128 ≤ t135) = true := decide_eq_true c58
                          clear c58
                          obtain rfl := Option.some.inj H
                          go_wp2_with (first | ((with_reducible refine gate_callee (f := 7) rfl ?_); refine goesL_ (some 83) rfl rfl Try.func7 (by kernel_rfl) rfl #[.int .i64 x14_2, .int .i64 ji6] rfl (by (try simp only [List.map_toArray, List.map_cons, List.map_nil]); first | done | (simp only [hji6]; rfl) | rfl | (simp only [List.length_drop, List.length_take]; rfl)) ?_; (with_reducible refine (class_Size.calls x14_2 ji6 t128 _ A36.out).mono ?_); rintro e w59 ⟨rfl, hb⟩; refine ⟨_, rfl, ?_⟩; have n0_ := Aside0.mk (below_step (by repeat (first | (with_reducible first | exact HB.out | apply below_alloc | apply pw_below_drewN | apply below_drew1) | exact HB.out)) hb); clear HB; have HB := n0_; clear n0_; (try clear hb); (try clear hb2); (try clear hk); (try clear hi)) | ((with_reducible refine gate_callee (f := 8) rfl ?_); refine goesL_ (some 85) rfl rfl Try.func8 (by kernel_rfl) rfl #[.int .i64 x14_2] rfl (by (try simp only [List.map_toArray, List.map_cons, List.map_nil]); first | done | rfl | (simp only [List.length_drop, List.length_take]; rfl)) ?_; (with_reducible refine (class_Units.calls x14_2 t129 _ A37.out).mono ?_); rintro e w60 ⟨rfl, hb⟩; refine ⟨_, rfl, ?_⟩; have n0_ := Aside0.mk (below_step (by repeat (first | (with_reducible first | exact HB.out | apply below_alloc | apply pw_below_drewN | apply below_drew1) | exact HB.out)) hb); clear HB; have HB := n0_; clear n0_; (try clear hb); (try clear hb2); (try clear hk); (try clear hi)) | (go_at_call 9; (with_reducible refine (class_Slots.calls x14_2 t130 _ A39.out).mono ?_); rintro e w61 ⟨rfl, hb⟩; have n0_ := Aside0.mk (below_step (by repeat (first | (with_reducible first | exact HB.out | apply below_alloc | apply pw_below_drewN | apply below_drew1) | exact HB.out)) hb); clear HB; have HB := n0_; clear n0_; (try clear hb); (try clear hb2); (try clear hk); (try clear hi)) | (go_at_call 8; (with_reducible refine (class_Units.calls x14_2 t129 _ A40.out).mono ?_); rintro e w62 ⟨rfl, hb⟩; have n0_ := Aside0.mk (below_step (by repeat (first | (with_reducible first | exact HB.out | apply below_alloc | apply pw_below_drewN | apply below_drew1) | exact HB.out)) hb); clear HB; have HB := n0_; clear n0_; (try clear hb); (try clear hb2); (try clear hk); (try clear hi)) | (go_at_call 9; (with_reducible refine (class_Slots.calls x14_2 t130 _ A46.out).mono ?_); rintro e w63 ⟨rfl, hb⟩; have n0_ := Aside0.mk (below_step (by repeat (first | (with_reducible first | exact HB.out | apply below_alloc | apply pw_below_drewN | apply below_drew1) | exact HB.out)) hb); clear HB; have HB := n0_; clear n0_; (try clear hb); (try clear hb2); (try clear hk); (try clear hi)) | (go_at_call 8; (with_reducible refine (class_Units.calls x14_2 t129 _ A47.out).mono ?_); rintro e w64 ⟨rfl, hb⟩; have n0_ := Aside0.mk (below_step (by repeat (first | (with_reducible first | exact HB.out | apply below_alloc | apply pw_below_drewN | apply below_drew1) | exact HB.out)) hb); clear HB; have HB := n0_; clear n0_; (try clear hb); (try clear hb2); (try clear hk); (try clear hi)) | (go_at_call 7; (with_reducible refine (class_Size.calls x14_2 ji6 t128 _ A56.out).mono ?_); rintro e w65 ⟨rfl, hb⟩; have n0_ := Aside0.mk (below_step (by repeat (first | (with_reducible first | exact HB.out | apply below_alloc | apply pw_below_drewN | apply below_drew1) | exact HB.out)) hb); clear HB; have HB := n0_; clear n0_; (try clear hb); (try clear hb2); (try clear hk); (try clear hi)) | (go_at_call 7; (with_reducible refine (class_Size.calls (wrap64 (x14_2 - 1)) ji6 t135 _ A57.out).mono ?_); rintro e w66 ⟨rfl, hb⟩; have n0_ := Aside0.mk (below_step (by repeat (first | (with_reducible first | exact HB.out | apply below_alloc | apply pw_below_drewN | apply below_drew1) | exact HB.out)) hb); clear HB; have HB := n0_; clear n0_; (try clear hb); (try clear hb2); (try clear hk); (try clear hi)))
                          go_ret
                          exact ⟨by first | rfl | (simp [errW_none, errW_some] <;> rfl) | (simp only [← hji4, ← hji6]; first | rfl | (simp [errW_none, errW_some] <;> rfl)) | (simp [*, errW_none, errW_some] <;> rfl), by repeat (first | (with_reducible first | exact HB.out | apply below_alloc | apply pw_below_drewN | apply below_drew1) | exact HB.out)⟩
                        · rw [if_neg c58] at H
                          have c58b0 : decide (t128 ≤ t135) = false := decide_eq_false c58
                          clear c58
                          have H' := Aside0.mk H
                          clear H
                          go_wp2_with (first | ((with_reducible refine gate_callee (f := 7) rfl ?_); refine goesL_ (some 83) rfl rfl Try.func7 (by kernel_rfl) rfl #[.int .i64 x14_2, .int .i64 ji6] rfl (by (try simp only [List.map_toArray, List.map_cons, List.map_nil]); first | done | (simp only [hji6]; rfl) | rfl | (simp only [List.length_drop, List.length_take]; rfl)) ?_; (with_reducible refine (class_Size.calls x14_2 ji6 t128 _ A36.out).mono ?_); rintro e w67 ⟨rfl, hb⟩; refine ⟨_, rfl, ?_⟩; have n0_ := Aside0.mk (below_step (by repeat (first | (with_reducible first | exact HB.out | apply below_alloc | apply pw_below_drewN | apply below_drew1) | exact HB.out)) hb); clear HB; have HB := n0_; clear n0_; (try clear hb); (try clear hb2); (try clear hk); (try clear hi)) | ((with_reducible refine gate_callee (f := 8) rfl ?_); refine goesL_ (some 85) rfl rfl Try.func8 (by kernel_rfl) rfl #[.int .i64 x14_2] rfl (by (try simp only [List.map_toArray, List.map_cons, List.map_nil]); first | done | rfl | (simp only [List.length_drop, List.length_take]; rfl)) ?_; (with_reducible refine (class_Units.calls x14_2 t129 _ A37.out).mono ?_); rintro e w68 ⟨rfl, hb⟩; refine ⟨_, rfl, ?_⟩; have n0_ := Aside0.mk (below_step (by repeat (first | (with_reducible first | exact HB.out | apply below_alloc | apply pw_below_drewN | apply below_drew1) | exact HB.out)) hb); clear HB; have HB := n0_; clear n0_; (try clear hb); (try clear hb2); (try clear hk); (try clear hi)) | (go_at_call 9; (with_reducible refine (class_Slots.calls x14_2 t130 _ A39.out).mono ?_); rintro e w69 ⟨rfl, hb⟩; have n0_ := Aside0.mk (below_step (by repeat (first | (with_reducible first | exact HB.out | apply below_alloc | apply pw_below_drewN | apply below_drew1) | exact HB.out)) hb); clear HB; have HB := n0_; clear n0_; (try clear hb); (try clear hb2); (try clear hk); (try clear hi)) | (go_at_call 8; (with_reducible refine (class_Units.calls x14_2 t129 _ A40.out).mono ?_); rintro e w70 ⟨rfl, hb⟩; have n0_ := Aside0.mk (below_step (by repeat (first | (with_reducible first | exact HB.out | apply below_alloc | apply pw_below_drewN | apply below_drew1) | exact HB.out)) hb); clear HB; have HB := n0_; clear n0_; (try clear hb); (try clear hb2); (try clear hk); (try clear hi)) | (go_at_call 9; (with_reducible refine (class_Slots.calls x14_2 t130 _ A46.out).mono ?_); rintro e w71 ⟨rfl, hb⟩; have n0_ := Aside0.mk (below_step (by repeat (first | (with_reducible first | exact HB.out | apply below_alloc | apply pw_below_drewN | apply below_drew1) | exact HB.out)) hb); clear HB; have HB := n0_; clear n0_; (try clear hb); (try clear hb2); (try clear hk); (try clear hi)) | (go_at_call 8; (with_reducible refine (class_Units.calls x14_2 t129 _ A47.out).mono ?_); rintro e w72 ⟨rfl, hb⟩; have n0_ := Aside0.mk (below_step (by repeat (first | (with_reducible first | exact HB.out | apply below_alloc | apply pw_below_drewN | apply below_drew1) | exact HB.out)) hb); clear HB; have HB := n0_; clear n0_; (try clear hb); (try clear hb2); (try clear hk); (try clear hi)) | (go_at_call 7; (with_reducible refine (class_Size.calls x14_2 ji6 t128 _ A56.out).mono ?_); rintro e w73 ⟨rfl, hb⟩; have n0_ := Aside0.mk (below_step (by repeat (first | (with_reducible first | exact HB.out | apply below_alloc | apply pw_below_drewN | apply below_drew1) | exact HB.out)) hb); clear HB; have HB := n0_; clear n0_; (try clear hb); (try clear hb2); (try clear hk); (try clear hi)) | (go_at_call 7; (with_reducible refine (class_Size.calls (wrap64 (x14_2 - 1)) ji6 t135 _ A57.out).mono ?_); rintro e w74 ⟨rfl, hb⟩; have n0_ := Aside0.mk (below_step (by repeat (first | (with_reducible first | exact HB.out | apply below_alloc | apply pw_below_drewN | apply below_drew1) | exact HB.out)) hb); clear HB; have HB := n0_; clear n0_; (try clear hb); (try clear hb2); (try clear hk); (try clear hi)))
                          go_roundg k2
                          case measure => have := HJ8.out; have := HK2.out; omega
                          case rel => exact ⟨(wrap64 (x14_2 + 1)), (by first | rfl | (simp; done) | (simp [*]; done)), H', ⟨by have := HJ8.out; have := HK2.out; omega⟩, ⟨by repeat (first | (with_reducible first | exact HB.out | apply below_alloc | apply pw_below_drewN | apply below_drew1) | exact HB.out)⟩⟩
                      · rw [if_neg c55] at H
                        have c55b0 : decide (0 < x14_2) = false := decide_eq_false c55
                        clear c55
                        have H' := Aside0.mk H
                        clear H
                        go_wp2_with (first | ((with_reducible refine gate_callee (f := 7) rfl ?_); refine goesL_ (some 83) rfl rfl Try.func7 (by kernel_rfl) rfl #[.int .i64 x14_2, .int .i64 ji6] rfl (by (try simp only [List.map_toArray, List.map_cons, List.map_nil]); first | done | (simp only [hji6]; rfl) | rfl | (simp only [List.length_drop, List.length_take]; rfl)) ?_; (with_reducible refine (class_Size.calls x14_2 ji6 t128 _ A36.out).mono ?_); rintro e w75 ⟨rfl, hb⟩; refine ⟨_, rfl, ?_⟩; have n0_ := Aside0.mk (below_step (by repeat (first | (with_reducible first | exact HB.out | apply below_alloc | apply pw_below_drewN | apply below_drew1) | exact HB.out)) hb); clear HB; have HB := n0_; clear n0_; (try clear hb); (try clear hb2); (try clear hk); (try clear hi)) | ((with_reducible refine gate_callee (f := 8) rfl ?_); refine goesL_ (some 85) rfl rfl Try.func8 (by kernel_rfl) rfl #[.int .i64 x14_2] rfl (by (try simp only [List.map_toArray, List.map_cons, List.map_nil]); first | done | rfl | (simp only [List.length_drop, List.length_take]; rfl)) ?_; (with_reducible refine (class_Units.calls x14_2 t129 _ A37.out).mono ?_); rintro e w76 ⟨rfl, hb⟩; refine ⟨_, rfl, ?_⟩; have n0_ := Aside0.mk (below_step (by repeat (first | (with_reducible first | exact HB.out | apply below_alloc | apply pw_below_drewN | apply below_drew1) | exact HB.out)) hb); clear HB; have HB := n0_; clear n0_; (try clear hb); (try clear hb2); (try clear hk); (try clear hi)) | (go_at_call 9; (with_reducible refine (class_Slots.calls x14_2 t130 _ A39.out).mono ?_); rintro e w77 ⟨rfl, hb⟩; have n0_ := Aside0.mk (below_step (by repeat (first | (with_reducible first | exact HB.out | apply below_alloc | apply pw_below_drewN | apply below_drew1) | exact HB.out)) hb); clear HB; have HB := n0_; clear n0_; (try clear hb); (try clear hb2); (try clear hk); (try clear hi)) | (go_at_call 8; (with_reducible refine (class_Units.calls x14_2 t129 _ A40.out).mono ?_); rintro e w78 ⟨rfl, hb⟩; have n0_ := Aside0.mk (below_step (by repeat (first | (with_reducible first | exact HB.out | apply below_alloc | apply pw_below_drewN | apply below_drew1) | exact HB.out)) hb); clear HB; have HB := n0_; clear n0_; (try clear hb); (try clear hb2); (try clear hk); (try clear hi)) | (go_at_call 9; (with_reducible refine (class_Slots.calls x14_2 t130 _ A46.out).mono ?_); rintro e w79 ⟨rfl, hb⟩; have n0_ := Aside0.mk (below_step (by repeat (first | (with_reducible first | exact HB.out | apply below_alloc | apply pw_below_drewN | apply below_drew1) | exact HB.out)) hb); clear HB; have HB := n0_; clear n0_; (try clear hb); (try clear hb2); (try clear hk); (try clear hi)) | (go_at_call 8; (with_reducible refine (class_Units.calls x14_2 t129 _ A47.out).mono ?_); rintro e w80 ⟨rfl, hb⟩; have n0_ := Aside0.mk (below_step (by repeat (first | (with_reducible first | exact HB.out | apply below_alloc | apply pw_below_drewN | apply below_drew1) | exact HB.out)) hb); clear HB; have HB := n0_; clear n0_; (try clear hb); (try clear hb2); (try clear hk); (try clear hi)))
                        go_roundg k2
                        case measure => have := HJ8.out; have := HK2.out; omega
                        case rel => exact ⟨(wrap64 (x14_2 + 1)), (by first | rfl | (simp; done) | (simp [*]; done)), H', ⟨by have := HJ8.out; have := HK2.out; omega⟩, ⟨by repeat (first | (with_reducible first | exact HB.out | apply below_alloc | apply pw_below_drewN | apply below_drew1) | exact HB.out)⟩⟩
                · rw [if_neg c38] at H
                  have c38b0 : (t128 == (wrap64 (t129 * (wrap64 (Int.tdiv ji6 16))))) = false := beq_eq_false_iff_ne.mpr c38
                  have c38b1 : (t128 != (wrap64 (t129 * (wrap64 (Int.tdiv ji6 16))))) = true := bne_iff_ne.mpr c38
                  obtain rfl := Option.some.inj H
                  go_wp2_with (first | ((with_reducible refine gate_callee (f := 7) rfl ?_); refine goesL_ (some 83) rfl rfl Try.func7 (by kernel_rfl) rfl #[.int .i64 x14_2, .int .i64 ji6] rfl (by (try simp only [List.map_toArray, List.map_cons, List.map_nil]); first | done | (simp only [hji6]; rfl) | rfl | (simp only [List.length_drop, List.length_take]; rfl)) ?_; (with_reducible refine (class_Size.calls x14_2 ji6 t128 _ A36.out).mono ?_); rintro e w81 ⟨rfl, hb⟩; refine ⟨_, rfl, ?_⟩; have n0_ := Aside0.mk (below_step (by repeat (first | (with_reducible first | exact HB.out | apply below_alloc | apply pw_below_drewN | apply below_drew1) | exact HB.out)) hb); clear HB; have HB := n0_; clear n0_; (try clear hb); (try clear hb2); (try clear hk); (try clear hi)) | ((with_reducible refine gate_callee (f := 8) rfl ?_); refine goesL_ (some 85) rfl rfl Try.func8 (by kernel_rfl) rfl #[.int .i64 x14_2] rfl (by (try simp only [List.map_toArray, List.map_cons, List.map_nil]); first | done | rfl | (simp only [List.length_drop, List.length_take]; rfl)) ?_; (with_reducible refine (class_Units.calls x14_2 t129 _ A37.out).mono ?_); rintro e w82 ⟨rfl, hb⟩; refine ⟨_, rfl, ?_⟩; have n0_ := Aside0.mk (below_step (by repeat (first | (with_reducible first | exact HB.out | apply below_alloc | apply pw_below_drewN | apply below_drew1) | exact HB.out)) hb); clear HB; have HB := n0_; clear n0_; (try clear hb); (try clear hb2); (try clear hk); (try clear hi)))
                  go_ret
                  exact ⟨by first | rfl | (simp [errW_none, errW_some] <;> rfl) | (simp only [← hji4, ← hji6]; first | rfl | (simp [errW_none, errW_some] <;> rfl)) | (simp [*, errW_none, errW_some] <;> rfl), by repeat (first | (with_reducible first | exact HB.out | apply below_alloc | apply pw_below_drewN | apply below_drew1) | exact HB.out)⟩
              · rw [if_neg c35] at H
                have c35b0 : decide (x14_2 < 6) = false := decide_eq_false c35
                clear c35
                by_cases c83 : t122 = true
                · subst c83
                  have H1 : ((class_Size.f t123 ji6).bind fun t137 => (if (wrap64 (t137 - (Int.tmod (wrap64 (a1)) 18000))) ≥ (Int.tmod (wrap64 (a2)) 3000) then (if t123 = 0 then ((platenlaw20_alive.f k2).bind fun t138 => (some t138)) else (if t123 = t121 then ((platenlaw20_alive.f k2).bind fun t139 => (some t139)) else ((class_Size.f (wrap64 (t123 - 1)) ji6).bind fun t140 => (if (wrap64 (t140 - (Int.tmod (wrap64 (a1)) 18000))) < (Int.tmod (wrap64 (a2)) 3000) then ((platenlaw20_alive.f k2).bind fun t141 => (some t141)) else (some false))))) else (if t123 = t121 then ((class_Size.f 5 ji6).bind fun t142 => (if (wrap64 ((Int.tmod (wrap64 (a1)) 18000) + (Int.tmod (wrap64 (a2)) 3000))) > t142 then (if t123 = 0 then ((platenlaw20_alive.f k2).bind fun t143 => (some t143)) else ((platenlaw20_alive.f k2).bind fun t144 => (some t144))) else (some false))) else (some false)))) = some r := by rw [if_pos rfl] at H; exact H
                  clear H
                  have H := H1
                  clear H1
                  replace H := Option.bind_eq_some_iff.mp H
                  obtain ⟨t137, A840, H⟩ := H
                  replace H : (if (wrap64 (t137 - (Int.tmod (wrap64 (a1)) 18000))) ≥ (Int.tmod (wrap64 (a2)) 3000) then (if t123 = 0 then ((platenlaw20_alive.f k2).bind fun t138 => (some t138)) else (if t123 = t121 then ((platenlaw20_alive.f k2).bind fun t139 => (some t139)) else ((class_Size.f (wrap64 (t123 - 1)) ji6).bind fun t140 => (if (wrap64 (t140 - (Int.tmod (wrap64 (a1)) 18000))) < (Int.tmod (wrap64 (a2)) 3000) then ((platenlaw20_alive.f k2).bind fun t141 => (some t141)) else (some false))))) else (if t123 = t121 then ((class_Size.f 5 ji6).bind fun t142 => (if (wrap64 ((Int.tmod (wrap64 (a1)) 18000) + (Int.tmod (wrap64 (a2)) 3000))) > t142 then (if t123 = 0 then ((platenlaw20_alive.f k2).bind fun t143 => (some t143)) else ((platenlaw20_alive.f k2).bind fun t144 => (some t144))) else (some false))) else (some false))) = some r := H
                  have A84 := Aside0.mk A840
                  clear A840
                  by_cases c85 : (wrap64 (t137 - (Int.tmod (wrap64 (a1)) 18000))) ≥ (Int.tmod (wrap64 (a2)) 3000)
                  · rw [if_pos c85] at H
                    have c85b0 : decide ((Int.tmod (wrap64 (a2)) 3000) ≤ (wrap64 (t137 - (Int.tmod (wrap64 (a1)) 18000)))) = true := decide_eq_true c85
                    clear c85
                    by_cases c86 : t123 = 0
                    · rw [if_pos c86] at H
                      have c86b0 : (t123 == 0) = true := beq_iff_eq.mpr c86
                      have c86b1 : (t123 != 0) = false := bne_eq_false_iff_eq.mpr c86
                      clear c86
                      replace H := Option.bind_eq_some_iff.mp H
                      obtain ⟨t138, A870, H⟩ := H
                      replace H : (some t138) = some r := H
                      have A87 := Aside0.mk A870
                      clear A870
                      obtain rfl := Option.some.inj H
                      go_wp2_with (first | ((with_reducible refine gate_callee (f := 7) rfl ?_); refine goesL_ (some 126) rfl rfl Try.func7 (by kernel_rfl) rfl #[.int .i64 t123, .int .i64 ji6] rfl (by (try simp only [List.map_toArray, List.map_cons, List.map_nil]); first | done | (simp only [hji6]; rfl) | rfl | (simp only [List.length_drop, List.length_take]; rfl)) ?_; (with_reducible refine (class_Size.calls t123 ji6 t137 _ A84.out).mono ?_); rintro e w88 ⟨rfl, hb⟩; refine ⟨_, rfl, ?_⟩; have n0_ := Aside0.mk (below_step (by repeat (first | (with_reducible first | exact HB.out | apply below_alloc | apply pw_below_drewN | apply below_drew1) | exact HB.out)) hb); clear HB; have HB := n0_; clear n0_; (try clear hb); (try clear hb2); (try clear hk); (try clear hi)) | (go_at_call 10; (with_reducible refine (platenlaw20_alive.calls k2  t138 _ A87.out).mono ?_); rintro e w89 ⟨rfl, hb⟩; have n0_ := Aside0.mk (below_step (by repeat (first | (with_reducible first | exact HB.out | apply below_alloc | apply pw_below_drewN | apply below_drew1) | exact HB.out)) hb); clear HB; have HB := n0_; clear n0_; (try clear hb); (try clear hb2); (try clear hk); (try clear hi)))
                      go_ret
                      exact ⟨by first | rfl | (simp [errW_none, errW_some] <;> rfl) | (simp only [← hji4, ← hji6]; first | rfl | (simp [errW_none, errW_some] <;> rfl)) | (simp [*, errW_none, errW_some] <;> rfl), by repeat (first | (with_reducible first | exact HB.out | apply below_alloc | apply pw_below_drewN | apply below_drew1) | exact HB.out)⟩
                    · rw [if_neg c86] at H
                      have c86b0 : (t123 == 0) = false := beq_eq_false_iff_ne.mpr c86
                      have c86b1 : (t123 != 0) = true := bne_iff_ne.mpr c86
                      by_cases c90 : t123 = t121
                      · rw [if_pos c90] at H
                        have c90b0 : (t123 == t121) = true := beq_iff_eq.mpr c90
                        have c90b1 : (t123 != t121) = false := bne_eq_false_iff_eq.mpr c90
                        clear c90
                        replace H := Option.bind_eq_some_iff.mp H
                        obtain ⟨t139, A910, H⟩ := H
                        replace H : (some t139) = some r := H
                        have A91 := Aside0.mk A910
                        clear A910
                        obtain rfl := Option.some.inj H
                        go_wp2_with (first | ((with_reducible refine gate_callee (f := 7) rfl ?_); refine goesL_ (some 126) rfl rfl Try.func7 (by kernel_rfl) rfl #[.int .i64 t123, .int .i64 ji6] rfl (by (try simp only [List.map_toArray, List.map_cons, List.map_nil]); first | done | (simp only [hji6]; rfl) | rfl | (simp only [List.length_drop, List.length_take]; rfl)) ?_; (with_reducible refine (class_Size.calls t123 ji6 t137 _ A84.out).mono ?_); rintro e w92 ⟨rfl, hb⟩; refine ⟨_, rfl, ?_⟩; have n0_ := Aside0.mk (below_step (by repeat (first | (with_reducible first | exact HB.out | apply below_alloc | apply pw_below_drewN | apply below_drew1) | exact HB.out)) hb); clear HB; have HB := n0_; clear n0_; (try clear hb); (try clear hb2); (try clear hk); (try clear hi)) | (go_at_call 10; (with_reducible refine (platenlaw20_alive.calls k2  t139 _ A91.out).mono ?_); rintro e w93 ⟨rfl, hb⟩; have n0_ := Aside0.mk (below_step (by repeat (first | (with_reducible first | exact HB.out | apply below_alloc | apply pw_below_drewN | apply below_drew1) | exact HB.out)) hb); clear HB; have HB := n0_; clear n0_; (try clear hb); (try clear hb2); (try clear hk); (try clear hi)))
                        go_ret
                        exact ⟨by first | rfl | (simp [errW_none, errW_some] <;> rfl) | (simp only [← hji4, ← hji6]; first | rfl | (simp [errW_none, errW_some] <;> rfl)) | (simp [*, errW_none, errW_some] <;> rfl), by repeat (first | (with_reducible first | exact HB.out | apply below_alloc | apply pw_below_drewN | apply below_drew1) | exact HB.out)⟩
                      · rw [if_neg c90] at H
                        have c90b0 : (t123 == t121) = false := beq_eq_false_iff_ne.mpr c90
                        have c90b1 : (t123 != t121) = true := bne_iff_ne.mpr c90
                        replace H := Option.bind_eq_some_iff.mp H
                        obtain ⟨t140, A940, H⟩ := H
                        replace H : (if (wrap64 (t140 - (Int.tmod (wrap64 (a1)) 18000))) < (Int.tmod (wrap64 (a2)) 3000) then ((platenlaw20_alive.f k2).bind fun t141 => (some t141)) else (some false)) = some r := H
                        have A94 := Aside0.mk A940
                        clear A940
                        by_cases c95 : (wrap64 (t140 - (Int.tmod (wrap64 (a1)) 18000))) < (Int.tmod (wrap64 (a2)) 3000)
                        · rw [if_pos c95] at H
                          have c95b0 : decide ((wrap64 (t140 - (Int.tmod (wrap64 (a1)) 18000))) < (Int.tmod (wrap64 (a2)) 3000)) = true := decide_eq_true c95
                          clear c95
                          replace H := Option.bind_eq_some_iff.mp H
                          obtain ⟨t141, A960, H⟩ := H
                          replace H : (some t141) = some r := H
                          have A96 := Aside0.mk A960
                          clear A960
                          obtain rfl := Option.some.inj H
                          go_wp2_with (first | ((with_reducible refine gate_callee (f := 7) rfl ?_); refine goesL_ (some 126) rfl rfl Try.func7 (by kernel_rfl) rfl #[.int .i64 t123, .int .i64 ji6] rfl (by (try simp only [List.map_toArray, List.map_cons, List.map_nil]); first | done | (simp only [hji6]; rfl) | rfl | (simp only [List.length_drop, List.length_take]; rfl)) ?_; (with_reducible refine (class_Size.calls t123 ji6 t137 _ A84.out).mono ?_); rintro e w97 ⟨rfl, hb⟩; refine ⟨_, rfl, ?_⟩; have n0_ := Aside0.mk (below_step (by repeat (first | (with_reducible first | exact HB.out | apply below_alloc | apply pw_below_drewN | apply below_drew1) | exact HB.out)) hb); clear HB; have HB := n0_; clear n0_; (try clear hb); (try clear hb2); (try clear hk); (try clear hi)) | (go_at_call 7; (with_reducible refine (class_Size.calls (wrap64 (t123 - 1)) ji6 t140 _ A94.out).mono ?_); rintro e w98 ⟨rfl, hb⟩; have n0_ := Aside0.mk (below_step (by repeat (first | (with_reducible first | exact HB.out | apply below_alloc | apply pw_below_drewN | apply below_drew1) | exact HB.out)) hb); clear HB; have HB := n0_; clear n0_; (try clear hb); (try clear hb2); (try clear hk); (try clear hi)) | (go_at_call 10; (with_reducible refine (platenlaw20_alive.calls k2  t141 _ A96.out).mono ?_); rintro e w99 ⟨rfl, hb⟩; have n0_ := Aside0.mk (below_step (by repeat (first | (with_reducible first | exact HB.out | apply below_alloc | apply pw_below_drewN | apply below_drew1) | exact HB.out)) hb); clear HB; have HB := n0_; clear n0_; (try clear hb); (try clear hb2); (try clear hk); (try clear hi)))
                          go_ret
                          exact ⟨by first | rfl | (simp [errW_none, errW_some] <;> rfl) | (simp only [← hji4, ← hji6]; first | rfl | (simp [errW_none, errW_some] <;> rfl)) | (simp [*, errW_none, errW_some] <;> rfl), by repeat (first | (with_reducible first | exact HB.out | apply below_alloc | apply pw_below_drewN | apply below_drew1) | exact HB.out)⟩
                        · rw [if_neg c95] at H
                          have c95b0 : decide ((wrap64 (t140 - (Int.tmod (wrap64 (a1)) 18000))) < (Int.tmod (wrap64 (a2)) 3000)) = false := decide_eq_false c95
                          clear c95
                          obtain rfl := Option.some.inj H
                          go_wp2_with (first | ((with_reducible refine gate_callee (f := 7) rfl ?_); refine goesL_ (some 126) rfl rfl Try.func7 (by kernel_rfl) rfl #[.int .i64 t123, .int .i64 ji6] rfl (by (try simp only [List.map_toArray, List.map_cons, List.map_nil]); first | done | (simp only [hji6]; rfl) | rfl | (simp only [List.length_drop, List.length_take]; rfl)) ?_; (with_reducible refine (class_Size.calls t123 ji6 t137 _ A84.out).mono ?_); rintro e w100 ⟨rfl, hb⟩; refine ⟨_, rfl, ?_⟩; have n0_ := Aside0.mk (below_step (by repeat (first | (with_reducible first | exact HB.out | apply below_alloc | apply pw_below_drewN | apply below_drew1) | exact HB.out)) hb); clear HB; have HB := n0_; clear n0_; (try clear hb); (try clear hb2); (try clear hk); (try clear hi)) | (go_at_call 7; (with_reducible refine (class_Size.calls (wrap64 (t123 - 1)) ji6 t140 _ A94.out).mono ?_); rintro e w101 ⟨rfl, hb⟩; have n0_ := Aside0.mk (below_step (by repeat (first | (with_reducible first | exact HB.out | apply below_alloc | apply pw_below_drewN | apply below_drew1) | exact HB.out)) hb); clear HB; have HB := n0_; clear n0_; (try clear hb); (try clear hb2); (try clear hk); (try clear hi)))
                          go_ret
                          exact ⟨by first | rfl | (simp [errW_none, errW_some] <;> rfl) | (simp only [← hji4, ← hji6]; first | rfl | (simp [errW_none, errW_some] <;> rfl)) | (simp [*, errW_none, errW_some] <;> rfl), by repeat (first | (with_reducible first | exact HB.out | apply below_alloc | apply pw_below_drewN | apply below_drew1) | exact HB.out)⟩
                  · rw [if_neg c85] at H
                    have c85b0 : decide ((Int.tmod (wrap64 (a2)) 3000) ≤ (wrap64 (t137 - (Int.tmod (wrap64 (a1)) 18000)))) = false := decide_eq_false c85
                    clear c85
                    by_cases c102 : t123 = t121
                    · rw [if_pos c102] at H
                      have c102b0 : (t123 == t121) = true := beq_iff_eq.mpr c102
                      have c102b1 : (t123 != t121) = false := bne_eq_false_iff_eq.mpr c102
                      clear c102
                      replace H := Option.bind_eq_some_iff.mp H
                      obtain ⟨t142, A1030, H⟩ := H
                      replace H : (if (wrap64 ((Int.tmod (wrap64 (a1)) 18000) + (Int.tmod (wrap64 (a2)) 3000))) > t142 then (if t123 = 0 then ((platenlaw20_alive.f k2).bind fun t143 => (some t143)) else ((platenlaw20_alive.f k2).bind fun t144 => (some t144))) else (some false)) = some r := H
                      have A103 := Aside0.mk A1030
                      clear A1030
                      by_cases c104 : (wrap64 ((Int.tmod (wrap64 (a1)) 18000) + (Int.tmod (wrap64 (a2)) 3000))) > t142
                      · rw [if_pos c104] at H
                        have c104b0 : decide (t142 < (wrap64 ((Int.tmod (wrap64 (a1)) 18000) + (Int.tmod (wrap64 (a2)) 3000)))) = true := decide_eq_true c104
                        clear c104
                        by_cases c105 : t123 = 0
                        · rw [if_pos c105] at H
                          have c105b0 : (t123 == 0) = true := beq_iff_eq.mpr c105
                          have c105b1 : (t123 != 0) = false := bne_eq_false_iff_eq.mpr c105
                          clear c105
                          replace H := Option.bind_eq_some_iff.mp H
                          obtain ⟨t143, A1060, H⟩ := H
                          replace H : (some t143) = some r := H
                          have A106 := Aside0.mk A1060
                          clear A1060
                          obtain rfl := Option.some.inj H
                          go_wp2_with (first | ((with_reducible refine gate_callee (f := 7) rfl ?_); refine goesL_ (some 126) rfl rfl Try.func7 (by kernel_rfl) rfl #[.int .i64 t123, .int .i64 ji6] rfl (by (try simp only [List.map_toArray, List.map_cons, List.map_nil]); first | done | (simp only [hji6]; rfl) | rfl | (simp only [List.length_drop, List.length_take]; rfl)) ?_; (with_reducible refine (class_Size.calls t123 ji6 t137 _ A84.out).mono ?_); rintro e w107 ⟨rfl, hb⟩; refine ⟨_, rfl, ?_⟩; have n0_ := Aside0.mk (below_step (by repeat (first | (with_reducible first | exact HB.out | apply below_alloc | apply pw_below_drewN | apply below_drew1) | exact HB.out)) hb); clear HB; have HB := n0_; clear n0_; (try clear hb); (try clear hb2); (try clear hk); (try clear hi)) | (go_at_call 7; (with_reducible refine (class_Size.calls 5 ji6 t142 _ A103.out).mono ?_); rintro e w108 ⟨rfl, hb⟩; have n0_ := Aside0.mk (below_step (by repeat (first | (with_reducible first | exact HB.out | apply below_alloc | apply pw_below_drewN | apply below_drew1) | exact HB.out)) hb); clear HB; have HB := n0_; clear n0_; (try clear hb); (try clear hb2); (try clear hk); (try clear hi)) | (go_at_call 10; (with_reducible refine (platenlaw20_alive.calls k2  t143 _ A106.out).mono ?_); rintro e w109 ⟨rfl, hb⟩; have n0_ := Aside0.mk (below_step (by repeat (first | (with_reducible first | exact HB.out | apply below_alloc | apply pw_below_drewN | apply below_drew1) | exact HB.out)) hb); clear HB; have HB := n0_; clear n0_; (try clear hb); (try clear hb2); (try clear hk); (try clear hi)))
                          go_ret
                          exact ⟨by first | rfl | (simp [errW_none, errW_some] <;> rfl) | (simp only [← hji4, ← hji6]; first | rfl | (simp [errW_none, errW_some] <;> rfl)) | (simp [*, errW_none, errW_some] <;> rfl), by repeat (first | (with_reducible first | exact HB.out | apply below_alloc | apply pw_below_drewN | apply below_drew1) | exact HB.out)⟩
                        · rw [if_neg c105] at H
                          have c105b0 : (t123 == 0) = false := beq_eq_false_iff_ne.mpr c105
                          have c105b1 : (t123 != 0) = true := bne_iff_ne.mpr c105
                          replace H := Option.bind_eq_some_iff.mp H
                          obtain ⟨t144, A1100, H⟩ := H
                          replace H : (some t144) = some r := H
                          have A110 := Aside0.mk A1100
                          clear A1100
                          obtain rfl := Option.some.inj H
                          go_wp2_with (first | ((with_reducible refine gate_callee (f := 7) rfl ?_); refine goesL_ (some 126) rfl rfl Try.func7 (by kernel_rfl) rfl #[.int .i64 t123, .int .i64 ji6] rfl (by (try simp only [List.map_toArray, List.map_cons, List.map_nil]); first | done | (simp only [hji6]; rfl) | rfl | (simp only [List.length_drop, List.length_take]; rfl)) ?_; (with_reducible refine (class_Size.calls t123 ji6 t137 _ A84.out).mono ?_); rintro e w111 ⟨rfl, hb⟩; refine ⟨_, rfl, ?_⟩; have n0_ := Aside0.mk (below_step (by repeat (first | (with_reducible first | exact HB.out | apply below_alloc | apply pw_below_drewN | apply below_drew1) | exact HB.out)) hb); clear HB; have HB := n0_; clear n0_; (try clear hb); (try clear hb2); (try clear hk); (try clear hi)) | (go_at_call 7; (with_reducible refine (class_Size.calls 5 ji6 t142 _ A103.out).mono ?_); rintro e w112 ⟨rfl, hb⟩; have n0_ := Aside0.mk (below_step (by repeat (first | (with_reducible first | exact HB.out | apply below_alloc | apply pw_below_drewN | apply below_drew1) | exact HB.out)) hb); clear HB; have HB := n0_; clear n0_; (try clear hb); (try clear hb2); (try clear hk); (try clear hi)) | (go_at_call 10; (with_reducible refine (platenlaw20_alive.calls k2  t144 _ A110.out).mono ?_); rintro e w113 ⟨rfl, hb⟩; have n0_ := Aside0.mk (below_step (by repeat (first | (with_reducible first | exact HB.out | apply below_alloc | apply pw_below_drewN | apply below_drew1) | exact HB.out)) hb); clear HB; have HB := n0_; clear n0_; (try clear hb); (try clear hb2); (try clear hk); (try clear hi)))
                          go_ret
                          exact ⟨by first | rfl | (simp [errW_none, errW_some] <;> rfl) | (simp only [← hji4, ← hji6]; first | rfl | (simp [errW_none, errW_some] <;> rfl)) | (simp [*, errW_none, errW_some] <;> rfl), by repeat (first | (with_reducible first | exact HB.out | apply below_alloc | apply pw_below_drewN | apply below_drew1) | exact HB.out)⟩
                      · rw [if_neg c104] at H
                        have c104b0 : decide (t142 < (wrap64 ((Int.tmod (wrap64 (a1)) 18000) + (Int.tmod (wrap64 (a2)) 3000)))) = false := decide_eq_false c104
                        clear c104
                        obtain rfl := Option.some.inj H
                        go_wp2_with (first | ((with_reducible refine gate_callee (f := 7) rfl ?_); refine goesL_ (some 126) rfl rfl Try.func7 (by kernel_rfl) rfl #[.int .i64 t123, .int .i64 ji6] rfl (by (try simp only [List.map_toArray, List.map_cons, List.map_nil]); first | done | (simp only [hji6]; rfl) | rfl | (simp only [List.length_drop, List.length_take]; rfl)) ?_; (with_reducible refine (class_Size.calls t123 ji6 t137 _ A84.out).mono ?_); rintro e w114 ⟨rfl, hb⟩; refine ⟨_, rfl, ?_⟩; have n0_ := Aside0.mk (below_step (by repeat (first | (with_reducible first | exact HB.out | apply below_alloc | apply pw_below_drewN | apply below_drew1) | exact HB.out)) hb); clear HB; have HB := n0_; clear n0_; (try clear hb); (try clear hb2); (try clear hk); (try clear hi)) | (go_at_call 7; (with_reducible refine (class_Size.calls 5 ji6 t142 _ A103.out).mono ?_); rintro e w115 ⟨rfl, hb⟩; have n0_ := Aside0.mk (below_step (by repeat (first | (with_reducible first | exact HB.out | apply below_alloc | apply pw_below_drewN | apply below_drew1) | exact HB.out)) hb); clear HB; have HB := n0_; clear n0_; (try clear hb); (try clear hb2); (try clear hk); (try clear hi)))
                        go_ret
                        exact ⟨by first | rfl | (simp [errW_none, errW_some] <;> rfl) | (simp only [← hji4, ← hji6]; first | rfl | (simp [errW_none, errW_some] <;> rfl)) | (simp [*, errW_none, errW_some] <;> rfl), by repeat (first | (with_reducible first | exact HB.out | apply below_alloc | apply pw_below_drewN | apply below_drew1) | exact HB.out)⟩
                    · rw [if_neg c102] at H
                      have c102b0 : (t123 == t121) = false := beq_eq_false_iff_ne.mpr c102
                      have c102b1 : (t123 != t121) = true := bne_iff_ne.mpr c102
                      obtain rfl := Option.some.inj H
                      go_wp2_with (first | ((with_reducible refine gate_callee (f := 7) rfl ?_); refine goesL_ (some 126) rfl rfl Try.func7 (by kernel_rfl) rfl #[.int .i64 t123, .int .i64 ji6] rfl (by (try simp only [List.map_toArray, List.map_cons, List.map_nil]); first | done | (simp only [hji6]; rfl) | rfl | (simp only [List.length_drop, List.length_take]; rfl)) ?_; (with_reducible refine (class_Size.calls t123 ji6 t137 _ A84.out).mono ?_); rintro e w116 ⟨rfl, hb⟩; refine ⟨_, rfl, ?_⟩; have n0_ := Aside0.mk (below_step (by repeat (first | (with_reducible first | exact HB.out | apply below_alloc | apply pw_below_drewN | apply below_drew1) | exact HB.out)) hb); clear HB; have HB := n0_; clear n0_; (try clear hb); (try clear hb2); (try clear hk); (try clear hi)))
                      go_ret
                      exact ⟨by first | rfl | (simp [errW_none, errW_some] <;> rfl) | (simp only [← hji4, ← hji6]; first | rfl | (simp [errW_none, errW_some] <;> rfl)) | (simp [*, errW_none, errW_some] <;> rfl), by repeat (first | (with_reducible first | exact HB.out | apply below_alloc | apply pw_below_drewN | apply below_drew1) | exact HB.out)⟩
                · replace c83 := Bool.eq_false_iff.mpr c83
                  subst c83
                  have H1 : ((platenlaw20_alive.f k2).bind fun t136 => (some t136)) = some r := by rw [if_neg (show ¬ (false = true) by decide)] at H; exact H
                  clear H
                  have H := H1
                  clear H1
                  replace H := Option.bind_eq_some_iff.mp H
                  obtain ⟨t136, A1170, H⟩ := H
                  replace H : (some t136) = some r := H
                  have A117 := Aside0.mk A1170
                  clear A1170
                  obtain rfl := Option.some.inj H
                  go_wp2_with (first | ((with_reducible refine gate_callee (f := 10) rfl ?_); refine goesL_ (some 123) rfl rfl Try.func10 (by kernel_rfl) rfl #[] rfl (by (try simp only [List.map_toArray, List.map_cons, List.map_nil]); first | done | rfl | (simp only [List.length_drop, List.length_take]; rfl)) ?_; (with_reducible refine (platenlaw20_alive.calls k2  t136 _ A117.out).mono ?_); rintro e w118 ⟨rfl, hb⟩; refine ⟨_, rfl, ?_⟩; have n0_ := Aside0.mk (below_step (by repeat (first | (with_reducible first | exact HB.out | apply below_alloc | apply pw_below_drewN | apply below_drew1) | exact HB.out)) hb); clear HB; have HB := n0_; clear n0_; (try clear hb); (try clear hb2); (try clear hk); (try clear hi)))
                  go_ret
                  exact ⟨by first | rfl | (simp [errW_none, errW_some] <;> rfl) | (simp only [← hji4, ← hji6]; first | rfl | (simp [errW_none, errW_some] <;> rfl)) | (simp [*, errW_none, errW_some] <;> rfl), by repeat (first | (with_reducible first | exact HB.out | apply below_alloc | apply pw_below_drewN | apply below_drew1) | exact HB.out)⟩
  · rw [if_neg c5] at H
    exact absurd H (by simp)

/-- THE ONE PURE STATEMENT of platenlaw20_ClassFits: yours. -/
def platenlaw20_ClassFits.Pure : Prop := ∀ (a0 : Int) (a1 : Int) (a2 : Int), (Lit.int .u8 a0).wf = true → (Lit.int .u16 a1).wf = true → (Lit.int .u16 a2).wf = true → ∃ k, platenlaw20_ClassFits.f k a0 a1 a2 = some true
theorem platenlaw20_ClassFits.walk (P : platenlaw20_ClassFits.Pure) (a0 : Int) (a1 : Int) (a2 : Int) (w : World) (w0 : (Lit.int .u8 a0).wf = true) (w1 : (Lit.int .u16 a1).wf = true) (w2 : (Lit.int .u16 a2).wf = true) :
    Calls Try.prog 3 #[.int .u8 a0, .int .u16 a1, .int .u16 a2] w fun e w' => e = .returned (.bool true) ∧ Below w.heap.size w w' := by
  obtain ⟨k, h⟩ := P a0 a1 a2 w0 w1 w2
  refine (platenlaw20_ClassFits.calls k a0 a1 a2 true w h).mono ?_
  rintro e w' ⟨rfl, hd⟩
  exact ⟨rfl, hd⟩

end Go.Proofs.Ytjgcaodgklfpmaa.PC
