/-
  Parse: what 'look' comes to (a contract, by hand).
-/
import Derived.Test.YtolkmjclldjkkaaPb
set_option linter.unusedSimpArgs false
set_option linter.unusedVariables false
namespace Go.Proofs.Ytolkmjclldjkkaa
open Go.RowKit

theorem own13 : Own Try.prog 13 := own_of Try.func13 (by kernel_rfl) rfl
theorem own14 : Own Try.prog 14 := own_of Try.func14 (by kernel_rfl) rfl
theorem own16 : Own Try.prog 16 := own_of Try.func16 (by kernel_rfl) rfl
theorem look_res (tmps : Array Value) (w : World) (B : Nat) (m : Nat × Nat) (h6 : tmps.getD 6 undef = .pointer (some ⟨B, 0, none⟩)) (hv : w.heap[B]? = some (.cells #[.int .i64 (m.1 : Nat), .int .i64 (m.2 : Nat)] 29 (0, 0))) :
    (results Try.f37 tmps).run Try.prog w = .ok (.agg #[.int .i64 (m.1 : Nat), .int .i64 (m.2 : Nat)]) w := by
  have m0 : w.cell? ⟨B, 0, none⟩ = some (.int .i64 (m.1 : Nat)) := cell_blk hv 0
  have m1 : w.cell? ⟨B, 1, none⟩ = some (.int .i64 (m.2 : Nat)) := cell_blk hv 1
  have h6' : tmps[6]?.getD undef = .pointer (some ⟨B, 0, none⟩) := by simpa using h6
  simp [results, Try.results37, asAddr, loadVar, run_load, h6', m0, m1, go_sem]
theorem Fnd.drew0 {W : World} {n₀ A : Nat} {s : ByteArray} {l : List Nat} (h : Fnd W n₀ A s l) : Fnd W.drew n₀ A s l := h.below (Below.refl _ W).drew
theorem mt_p0 {a S : Nat} (h : a < S) (h2 : S ≤ 100000) : wrap64 ((a : Int) - 1) = (a : Int) - 1 := by unfold wrap64; omega
theorem mt_p1 {j f a : Nat} (h : j + (f + 1) = a) : decide ((j : Int) - 1 < (a : Int) - 1) = true ∧ decide ((j : Int) < (a : Int)) = true ∧ decide (j < a) = true := by
  refine ⟨?_, ?_, ?_⟩
  all_goals (rw [decide_eq_true_eq]; omega)
theorem mt_p2 {j a : Nat} (h : j + 0 = a) : decide ((j : Int) - 1 < (a : Int) - 1) = false := by rw [decide_eq_false_iff_not]; omega
theorem mt_p3 {j f a S : Nat} (h : j + (f + 1) = a) (h1 : a < S) (h2 : S ≤ 100000) : wrap64 ((j : Int) - 1 + 1) = (j : Int) ∧ wrap64 (j : Int) = (j : Int) ∧ j < S ∧ j < 1000000 ∧ (j + 1) + f = a := by unfold wrap64; omega
theorem mt_p5a {x : Nat} (h : x ≤ 100000) : (x : Int) ≤ 9223372036854775807 := by omega
theorem mt_p4 {a S : Nat} (h : a < S) (h2 : S ≤ 100000) : (a : Int) ≤ 9223372036854775807 ∧ ∀ p ∈ upto a, (p : Int) < (a : Int) ∧ (a : Int) ≤ (S : Int) := by
  refine ⟨by omega, fun p hp => ?_⟩
  have := upto_lt hp
  omega
theorem two_cells {W : World} {R : Nat} {x y : Value} {t : TypeId} {u v : Value} (h : W.heap[R]? = some (.cells #[x, y] t (0, 0))) :
    ((W.setCell ⟨R, 0, none⟩ u).setCell ⟨R, 1, none⟩ v).heap[R]? = some (.cells #[u, v] t (0, 0)) := by
  have h1 : (W.setCell ⟨R, 0, none⟩ u).heap[R]? = some (.cells #[u, y] t (0, 0)) := by simp [World.setCell, Array.getElem?_modify, h]
  simp [World.setCell, Array.getElem?_modify, h]
/-- what is kept keeps a store into a block of one's own -/
theorem KeepP.set {n : Nat} {W W' : World} (h : KeepP n W W') {R : Nat} (hR : W.heap.size ≤ R) (hn : n ≤ R) (j : Nat) (u : Value) : KeepP n W (W'.setCell ⟨R, j, none⟩ u) :=
  ⟨h.below.setCell (p := ⟨R, j, none⟩) hn u, fun k cs t z hk ht => (Below.heap_setCell W' ⟨R, j, none⟩ u k (fun e => by
    have e' : k = R := e
    have := (Array.getElem?_eq_some_iff.1 hk).1
    omega)).trans (h.cells k cs t z hk ht)⟩
set_option maxHeartbeats 4000000 in
theorem look_any (a over k n₀ A B : Nat) (r : Nat × Nat × Nat) (s : ByteArray) (ts : List (Nat × Nat × Nat)) (w : World) (hp : Pb w n₀ B r s (.pointer (some ⟨A, 0, none⟩)) ts) (hf : Fnd w n₀ A s (upto k)) (hk : k ≤ a) (ha : a < s.size) (hs : s.size ≤ 100000) (hr : r.1 ≤ 100000) :
    Calls Try.prog 37 #[.pointer (some ⟨B, 0, none⟩), .int .i64 (a : Nat), .int .i64 (over : Nat)] w fun e w' =>
      e = .returned (.agg #[.int .i64 ((lookL (byteL s) r.1 r.2.1 a over).1 : Nat), .int .i64 ((lookL (byteL s) r.1 r.2.1 a over).2 : Nat)]) ∧ Fnd w' n₀ A s (upto a) ∧ KeepP n₀ w w' := by
  obtain ⟨v, hb, _⟩ := hp.ex
  have HN := Lib.hid hp.size
  have hk0 : KeepP n₀ w (w.alloc (.cells #[.int .i64 0, .int .i64 0] 29)) := KeepP.of_below ((Below.refl _ w).alloc (Nat.le_refl _) _) hp.size
  have HF := Lib.hid (hf.below ((Below.refl _ w).alloc (Nat.le_refl _) (.cells #[.int .i64 0, .int .i64 0] 29)))
  have HB := Lib.hid hb
  have HA := Lib.hid (And.intro ha (And.intro hs hr))
  have HK := Lib.hid hk0
  have ea := mt_p0 ha hs
  obtain ⟨f, hf2⟩ : ∃ f, k + f = a := ⟨a - k, by omega⟩
  obtain ⟨R, hR⟩ : ∃ R, w.heap.size = R := ⟨_, rfl⟩
  have HR := Lib.hid (show (w.alloc (.cells #[.int .i64 0, .int .i64 0] 29)).heap[R]? = some (.cells #[.int .i64 0, .int .i64 0] 29 (0, 0)) by rw [← hR]; exact heap_alloc_last w _)
  have HRN := Lib.hid (show w.heap.size ≤ R ∧ n₀ ≤ R by rw [← hR]; exact ⟨Nat.le_refl _, HN.out⟩)
  have HF2 := Lib.hid hf2
  clear hb hp hf hk ha hs hk0 hf2 hr
  go_enter Try.func37, Try.ntmps37
  go_wp2_with fail
  clear hR
  go_loopg [7] f (fun f s7 wx => ∃ j : Nat, Hid (j + f = a) ∧ Hid (Fnd wx n₀ A s (upto j)) ∧ Hid (KeepP n₀ (w.alloc (.cells #[.int .i64 0, .int .i64 0] 29)) wx))
  case atStart => exact ⟨k, HF2, HF, Lib.hid (KeepP.refl _ _)⟩
  case round =>
    clear HF
    obtain ⟨j, HJ, HF, HK2⟩ := hrel
    have HB2 := Lib.hid ((HK.out.trans HK2.out).cells _ _ _ _ HB.out (by decide))
    have q4 : wr.cell? ⟨B, 4, none⟩ = some (.pointer (some ⟨A, 0, none⟩)) := cell_blk HB2.out 4
    have hh : n₀ ≤ wr.heap.size := Nat.le_trans HN.out (HK.out.trans HK2.out).below.size
    have HH := Lib.hid hh
    clear hh
    cases gk with
    | succ f =>
      obtain ⟨d1, d1', d1''⟩ := mt_p1 HJ.out
      obtain ⟨e1, e1b, j1, j2, j3⟩ := mt_p3 HJ.out HA.out.1 HA.out.2.1
      have HJ2 := Lib.hid (And.intro j1 (And.intro j2 j3))
      clear j1 j2 j3
      go_wp2_with fail
      refine (last_any n₀ A s (upto j) _ HF.out).mono ?_
      rintro e w2 ⟨rfl, rfl⟩
      rw [last_upto]
      go_wp2_with fail
      have hHeld : w2.drew.cell? ⟨B, 4, none⟩ = some (.pointer (some ⟨A, 0, none⟩)) := q4
      have HFD := Lib.hid HF.out.drew0
      refine wp_region_T (fun w' => w'.cell? ⟨B, 4, none⟩ = some (.pointer (some ⟨A, 0, none⟩))) [.take 0, .take 1, .take 2, .take 3, .take 4, .take 5, .take 6, .take 7, .go 8, .take 9, .go 10] (by kernel_rfl) (by kernel_rfl) (fun _ _ _ _ _ h => h) hHeld ?_
      refine T_light (a' := ?_) 15 rfl rfl rfl (of_decide_eq_true rfl) rfl hHeld (fun wq hSq K Q hK => ?_) ?_
      rotate_left
      · (go_step; exact hK)
      refine T_light (a' := ?_) 16 rfl rfl rfl (of_decide_eq_true rfl) rfl hHeld (fun wq hSq K Q hK => ?_) ?_
      rotate_left
      · (go_step; exact hK)
      refine T_light (a' := ?_) 17 rfl rfl rfl (of_decide_eq_true rfl) rfl hHeld (fun wq hSq K Q hK => ?_) ?_
      rotate_left
      · (go_step; exact hK)
      refine T_light (a' := ?_) 18 rfl rfl rfl (of_decide_eq_true rfl) rfl hHeld (fun wq hSq K Q hK => ?_) ?_
      rotate_left
      · ((have r1 := hSq; go_step); exact hK)
      refine T_light (a' := ?_) 19 rfl rfl rfl (of_decide_eq_true rfl) rfl hHeld (fun wq hSq K Q hK => ?_) ?_
      rotate_left
      · (go_step; exact hK)
      refine T_light (a' := ?_) 20 rfl rfl rfl (of_decide_eq_true rfl) rfl hHeld (fun wq hSq K Q hK => ?_) ?_
      rotate_left
      · (go_step; exact hK)
      refine T_light (a' := ?_) 21 rfl rfl rfl (of_decide_eq_true rfl) rfl hHeld (fun wq hSq K Q hK => ?_) ?_
      rotate_left
      · (go_step; exact hK)
      refine T_light (a' := ?_) 22 rfl rfl rfl (of_decide_eq_true rfl) rfl hHeld (fun wq hSq K Q hK => ?_) ?_
      rotate_left
      · ((have r1 := hSq; go_step); exact hK)
      refine T_call own16 23 [.pointer (some ⟨A, 0, none⟩)] rfl rfl rfl rfl rfl ?_
      refine (last_any n₀ A s (upto j) _ HFD.out).mono ?_; rintro e w2 ⟨rfl, rfl⟩; rw [last_upto]
      refine ⟨_, rfl, hHeld, ?_⟩
      simp only [Act.put, List.setIfInBounds_toArray, List.set_cons_zero, List.set_cons_succ]
      refine T_light (a' := ?_) 24 rfl rfl rfl (of_decide_eq_true rfl) rfl hHeld (fun wq hSq K Q hK => ?_) ?_
      rotate_left
      · ((go_step; try simp only [e1, e1b]); exact hK)
      refine T_call own13 25 [.pointer (some ⟨A, 0, none⟩), .int .i64 (j : Nat)] rfl rfl rfl rfl rfl ?_
      refine (put_any (j : Int) n₀ A s (upto j) _ HFD.out (by rw [upto_length]; exact HJ2.out.2.1) HH.out).mono ?_; rintro e w3 ⟨rfl, hf3, hk3⟩; rw [put_upto _ _ HJ2.out.1] at hf3 ⊢; have hHeld := cell_blk (hk3.cells _ _ _ _ HB2.out (by decide)) 4; have HF3 := Lib.hid hf3; have HK3 := Lib.hid (HK2.out.trans ((KeepP.of_below ((Below.refl _ _).drew) HH.out).trans hk3)); clear hf3 hk3
      refine ⟨_, rfl, hHeld, ?_⟩
      simp only [Act.put, List.setIfInBounds_toArray, List.set_cons_zero, List.set_cons_succ]
      refine T_done ?_
      clear hHeld
      go_wp2_with fail
      go_roundg f
      case measure => exact Nat.lt_succ_self f
      case rel => exact ⟨j + 1, Lib.hid HJ2.out.2.2, HF3, HK3⟩
    | zero =>
      have d1 := mt_p2 HJ.out
      obtain rfl : j = a := HJ.out
      go_wp2_with fail
      refine (last_any n₀ A s (upto j) _ HF.out).mono ?_
      rintro e w2 ⟨rfl, rfl⟩
      rw [last_upto]
      go_wp2_with fail
      have hHeld : w2.drew.cell? ⟨B, 0, none⟩ = some (.int .i64 (r.1 : Nat)) ∧ w2.drew.cell? ⟨B, 1, none⟩ = some (.int .i64 (r.2.1 : Nat)) ∧ w2.drew.cell? ⟨B, 4, none⟩ = some (.pointer (some ⟨A, 0, none⟩)) := ⟨cell_blk HB2.out 0, cell_blk HB2.out 1, q4⟩
      have HFD := Lib.hid HF.out.drew0
      have HRD := Lib.hid (HK2.out.cells _ _ _ _ HR.out (by decide))
      have HKD := Lib.hid (HK2.out.trans (KeepP.of_below ((Below.refl _ w2).drew) HH.out))
      refine wp_region_Z (fun w' => w'.cell? ⟨B, 0, none⟩ = some (.int .i64 (r.1 : Nat)) ∧ w'.cell? ⟨B, 1, none⟩ = some (.int .i64 (r.2.1 : Nat)) ∧ w'.cell? ⟨B, 4, none⟩ = some (.pointer (some ⟨A, 0, none⟩))) 17 [.take 0, .take 1, .take 2, .take 3, .take 4, .take 5, .take 6, .take 7, .take 8, .take 9, .take 10, .take 11, .take 12, .take 13, .take 14, .take 15, .go 16, .last 17] [16, 0, 1, 2, 3, 4, 5, 6, 7, 8, 9, 10, 11, 12, 13, 14, 15] (by kernel_rfl) (by kernel_rfl) (fun _ _ _ _ _ h => h) hHeld ?_
      refine T_light (a' := ?_) 26 rfl rfl rfl (of_decide_eq_true rfl) rfl hHeld (fun wq hSq K Q hK => ?_) ?_
      rotate_left
      · (go_step; exact hK)
      refine T_light (a' := ?_) 27 rfl rfl rfl (of_decide_eq_true rfl) rfl hHeld (fun wq hSq K Q hK => ?_) ?_
      rotate_left
      · (go_step; exact hK)
      refine T_light (a' := ?_) 28 rfl rfl rfl (of_decide_eq_true rfl) rfl hHeld (fun wq hSq K Q hK => ?_) ?_
      rotate_left
      · (go_step; exact hK)
      refine T_light (a' := ?_) 29 rfl rfl rfl (of_decide_eq_true rfl) rfl hHeld (fun wq hSq K Q hK => ?_) ?_
      rotate_left
      · ((have r1 := hSq.2.2; go_step); exact hK)
      refine T_light (a' := ?_) 30 rfl rfl rfl (of_decide_eq_true rfl) rfl hHeld (fun wq hSq K Q hK => ?_) ?_
      rotate_left
      · (go_step; exact hK)
      refine T_light (a' := ?_) 31 rfl rfl rfl (of_decide_eq_true rfl) rfl hHeld (fun wq hSq K Q hK => ?_) ?_
      rotate_left
      · (go_step; exact hK)
      refine T_light (a' := ?_) 32 rfl rfl rfl (of_decide_eq_true rfl) rfl hHeld (fun wq hSq K Q hK => ?_) ?_
      rotate_left
      · (go_step; exact hK)
      refine T_light (a' := ?_) 33 rfl rfl rfl (of_decide_eq_true rfl) rfl hHeld (fun wq hSq K Q hK => ?_) ?_
      rotate_left
      · (go_step; exact hK)
      refine T_light (a' := ?_) 34 rfl rfl rfl (of_decide_eq_true rfl) rfl hHeld (fun wq hSq K Q hK => ?_) ?_
      rotate_left
      · (go_step; exact hK)
      refine T_light (a' := ?_) 35 rfl rfl rfl (of_decide_eq_true rfl) rfl hHeld (fun wq hSq K Q hK => ?_) ?_
      rotate_left
      · ((have r1 := hSq.1; go_step); exact hK)
      refine T_light (a' := ?_) 36 rfl rfl rfl (of_decide_eq_true rfl) rfl hHeld (fun wq hSq K Q hK => ?_) ?_
      rotate_left
      · (go_step; exact hK)
      refine T_light (a' := ?_) 37 rfl rfl rfl (of_decide_eq_true rfl) rfl hHeld (fun wq hSq K Q hK => ?_) ?_
      rotate_left
      · (go_step; exact hK)
      refine T_light (a' := ?_) 38 rfl rfl rfl (of_decide_eq_true rfl) rfl hHeld (fun wq hSq K Q hK => ?_) ?_
      rotate_left
      · (go_step; exact hK)
      refine T_light (a' := ?_) 39 rfl rfl rfl (of_decide_eq_true rfl) rfl hHeld (fun wq hSq K Q hK => ?_) ?_
      rotate_left
      · (go_step; exact hK)
      refine T_light (a' := ?_) 40 rfl rfl rfl (of_decide_eq_true rfl) rfl hHeld (fun wq hSq K Q hK => ?_) ?_
      rotate_left
      · ((have r1 := hSq.2.1; go_step); exact hK)
      refine T_light (a' := ?_) 41 rfl rfl rfl (of_decide_eq_true rfl) rfl hHeld (fun wq hSq K Q hK => ?_) ?_
      rotate_left
      · (go_step; exact hK)
      refine T_call own14 42 [.pointer (some ⟨A, 0, none⟩), .int .i64 (j : Nat), .int .i64 (r.1 : Nat), .int .i64 (r.2.1 : Nat), .int .i64 (over : Nat)] rfl rfl rfl rfl rfl ?_
      refine (find_any (j : Int) (r.1 : Int) (r.2.1 : Int) (over : Int) n₀ A s (upto j) _ HFD.out (mt_p4 HA.out.1 HA.out.2.1).2 (mt_p4 HA.out.1 HA.out.2.1).1 (mt_p5a HA.out.2.2)).mono ?_; rintro e w4 ⟨rfl, hf4, hb4⟩; have hHeld := show w4.cell? ⟨B, 0, none⟩ = some (.int .i64 (r.1 : Nat)) ∧ w4.cell? ⟨B, 1, none⟩ = some (.int .i64 (r.2.1 : Nat)) ∧ w4.cell? ⟨B, 4, none⟩ = some (.pointer (some ⟨A, 0, none⟩)) from ⟨(hb4.cell (World.block_lt_of_cell? _ _ hHeld.1)).trans hHeld.1, (hb4.cell (World.block_lt_of_cell? _ _ hHeld.2.1)).trans hHeld.2.1, (hb4.cell (World.block_lt_of_cell? _ _ hHeld.2.2)).trans hHeld.2.2⟩; have HF4 := Lib.hid hf4; have HK4 := Lib.hid (HKD.out.trans (KeepP.of_below hb4 HH.out)); have hR4 := (hb4.block R (Array.getElem?_eq_some_iff.1 HRD.out).1).trans HRD.out; have HR4 := Lib.hid hR4; have m0 : w4.cell? ⟨R, 0, none⟩ = some (.int .i64 0) := cell_blk hR4 0; have m1 : w4.cell? ⟨R, 1, none⟩ = some (.int .i64 0) := cell_blk hR4 1; have f0 : ∀ j, w4.frozen? ⟨R, j, none⟩ = false := frozen_blk hR4; clear hf4 hb4 hR4
      refine ⟨_, rfl, hHeld, ?_⟩
      simp only [Act.put, List.setIfInBounds_toArray, List.set_cons_zero, List.set_cons_succ]
      refine T_last rfl rfl (fun K hK => ?_)
      go_step
      refine hK _ _ ?_
      clear hK K
      refine T_done ?_
      clear hHeld
      go_wp2_with fail
      refine bodyPost_ret (look_res _ _ R (lookL (byteL s) r.1 r.2.1 j over) rfl (two_cells HR4.out)) rfl ⟨rfl, ?_, ?_⟩
      · exact (HF4.out.set HR4.out (by decide) _).set (t := 29) (cs := #[.int .i64 ((lookL (byteL s) r.1 r.2.1 j over).1 : Nat), .int .i64 0]) (by simp [World.setCell, Array.getElem?_modify, HR4.out, lookL]) (by decide) _
      · exact (((HK.out.trans HK4.out).set HRN.out.1 HRN.out.2 _ _).set HRN.out.1 HRN.out.2 _ _)
end Go.Proofs.Ytolkmjclldjkkaa
