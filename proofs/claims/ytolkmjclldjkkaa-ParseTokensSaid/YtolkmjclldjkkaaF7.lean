/-
  Chain: what 'Find' comes to (a contract, by hand).
-/
import Derived.Test.YtolkmjclldjkkaaF6
set_option linter.unusedSimpArgs false
set_option linter.unusedVariables false
namespace Go.Proofs.Ytolkmjclldjkkaa
open Go.RowKit

/-- one candidate more -/
def findStep (L : List Nat) (at_ nice over : Int) (m : Nat × Nat) (p : Nat) : (Nat × Nat) × Bool :=
  (if over < (longL L p at_.toNat : Int) ∧ m.1 < longL L p at_.toNat then (longL L p at_.toNat, at_.toNat - p) else m, decide ((longL L p at_.toNat : Int) < nice))
/-- the match -/
def findL (L : List Nat) (l : List Nat) (at_ depth nice over : Int) : Nat × Nat := eachGo (findStep L at_ nice over) (placesL L l at_ depth) (0, 0)
/-- Find's own: the finder, its variables, and what lay below -/
structure FiJ (n₀ A : Nat) (s : ByteArray) (l : List Nat) (at_ nice over : Int) (w : World) (b5 b6 b8 b9 b10 : Nat) (m : Nat × Nat) (W : World) : Prop where
  fnd : Fnd W n₀ A s l
  x5 : Boxed W b5 24 (.pointer (some ⟨A, 0, none⟩))
  x6 : Boxed W b6 3 (.int .i64 at_)
  x8 : Boxed W b8 3 (.int .i64 nice)
  x9 : Boxed W b9 3 (.int .i64 over)
  x10 : W.heap[b10]? = some (.cells #[.int .i64 (m.1 : Nat), .int .i64 (m.2 : Nat)] 29 (0, 0))
  below : Below w.heap.size w W
theorem FiJ.grown {n₀ A : Nat} {s : ByteArray} {l : List Nat} {at_ nice over : Int} {w : World} {b5 b6 b8 b9 b10 : Nat} {m : Nat × Nat} {W W' : World} (h : FiJ n₀ A s l at_ nice over w b5 b6 b8 b9 b10 m W) (hb : Below W.heap.size W W') : FiJ n₀ A s l at_ nice over w b5 b6 b8 b9 b10 m W' := by
  have hg : W.grownBy W' none := ⟨hb.os, hb.tape, hb.output, hb.size, fun k hk _ => hb.block k hk⟩
  exact ⟨h.fnd.below hb, h.x5.kept hg (by simp), h.x6.kept hg (by simp), h.x8.kept hg (by simp), h.x9.kept hg (by simp), (hb.block b10 (Array.getElem?_eq_some_iff.1 h.x10).1).trans h.x10, h.below.trans (hb.mono h.below.size)⟩
theorem box_far {W : World} {B B' t t' : Nat} {v : Value} {cs : Array Value} {k : Nat} (u : Value) (h : Boxed W B t v) (h' : W.heap[B']? = some (.cells cs t' (0, 0))) (hne : t ≠ t') : Boxed (W.setCell ⟨B', k, none⟩ u) B t v :=
  (Below.heap_setCell W ⟨B', k, none⟩ u B (fun e => by
    have e' : B = B' := e
    subst e'
    rw [show W.heap[B]? = some (.cells #[v] t (0, 0)) from h] at h'
    cases h'; exact hne rfl)).trans h
theorem FiJ.put {n₀ A : Nat} {s : ByteArray} {l : List Nat} {at_ nice over : Int} {w : World} {b5 b6 b8 b9 b10 : Nat} {m : Nat × Nat} {W : World} (h : FiJ n₀ A s l at_ nice over w b5 b6 b8 b9 b10 m W) (hb : w.heap.size ≤ b10) (x y : Nat) :
    FiJ n₀ A s l at_ nice over w b5 b6 b8 b9 b10 (x, y) ((W.setCell ⟨b10, 0, none⟩ (.int .i64 (x : Nat))).setCell ⟨b10, 1, none⟩ (.int .i64 (y : Nat))) := by
  have h1 : (W.setCell ⟨b10, 0, none⟩ (.int .i64 (x : Nat))).heap[b10]? = some (.cells #[.int .i64 (x : Nat), .int .i64 (m.2 : Nat)] 29 (0, 0)) := by simp [World.setCell, Array.getElem?_modify, h.x10]
  refine ⟨(h.fnd.set h.x10 (by decide) _).set h1 (by decide) _, box_far _ (box_far _ h.x5 h.x10 (by decide)) h1 (by decide), box_far _ (box_far _ h.x6 h.x10 (by decide)) h1 (by decide), box_far _ (box_far _ h.x8 h.x10 (by decide)) h1 (by decide),
    box_far _ (box_far _ h.x9 h.x10 (by decide)) h1 (by decide), ?_, (h.below.setCell (p := ⟨b10, 0, none⟩) hb _).setCell (p := ⟨b10, 1, none⟩) hb _⟩
  simp [World.setCell, Array.getElem?_modify, h.x10]
set_option maxHeartbeats 1000000 in
theorem find1_any (n₀ A : Nat) (s : ByteArray) (l : List Nat) (at_ nice over : Int) (w : World) (b5 b6 b8 b9 b10 : Nat) (m : Nat × Nat) (W : World) (p : Nat) (hJ : FiJ n₀ A s l at_ nice over w b5 b6 b8 b9 b10 m W) (hb : w.heap.size ≤ b10) (hp : (p : Int) < at_) (hs : at_ ≤ (s.size : Int)) :
    Calls Try.prog 28 #[.int .i64 (p : Nat), .pointer (some ⟨b5, 0, none⟩), .pointer (some ⟨b6, 0, none⟩), .pointer (some ⟨b9, 0, none⟩), .pointer (some ⟨b10, 0, none⟩), .pointer (some ⟨b8, 0, none⟩)] W fun e W' =>
      e = .returned (.bool (findStep (byteL s) at_ nice over m p).2) ∧ FiJ n₀ A s l at_ nice over w b5 b6 b8 b9 b10 (findStep (byteL s) at_ nice over m p).1 W' := by
  obtain ⟨a, rfl⟩ : ∃ a : Nat, at_ = (a : Int) := ⟨at_.toNat, by omega⟩
  have HP := Lib.hid (And.intro (show p < a by omega) (show a ≤ s.size by omega))
  have HJ := Lib.hid hJ
  have HB := Lib.hid hb
  have q5 := hJ.x5.cell
  have q6 := hJ.x6.cell
  have HA := Lib.hid (show W.cell? ⟨A, 0, none⟩ = some (.string s) by
    obtain ⟨M1, M2, F, G, hA, _⟩ := hJ.fnd.ex
    exact cell_blk hA 0)
  clear hJ hb hp hs
  go_enter Try.func28, Try.ntmps28
  go_wp2_with fail
  refine (long_any p a A s W HJ.out.fnd.size HA.out HP.out.1 HP.out.2).mono ?_
  rintro e W2 ⟨rfl, hb2⟩
  have HJ2 := Lib.hid (HJ.out.grown hb2)
  clear q5 q6 hb2
  obtain ⟨n, hn⟩ : ∃ n, longL (byteL s) p a = n := ⟨_, rfl⟩
  have HFS := Lib.hid (show findStep (byteL s) (a : Int) nice over m p = (if over < (n : Int) ∧ m.1 < n then (n, a - p) else m, decide ((n : Int) < nice)) by unfold findStep; rw [Int.toNat_natCast, hn])
  rw [hn]
  clear hn
  have q6 := HJ2.out.x6.cell
  have q8 := HJ2.out.x8.cell
  have q9 := HJ2.out.x9.cell
  have m0 : W2.cell? ⟨b10, 0, none⟩ = some (.int .i64 (m.1 : Nat)) := cell_blk HJ2.out.x10 0
  have m1 : W2.cell? ⟨b10, 1, none⟩ = some (.int .i64 (m.2 : Nat)) := cell_blk HJ2.out.x10 1
  have f0 : ∀ j, W2.frozen? ⟨b10, j, none⟩ = false := fun j => by unfold World.frozen?; rw [HJ2.out.x10]; rfl
  by_cases h1 : over < (n : Int)
  · have d1 : decide (over < (n : Int)) = true := by rw [decide_eq_true_eq]; exact h1
    by_cases h2 : m.1 < n
    · have d2 : decide (m.1 < n) = true := by rw [decide_eq_true_eq]; exact h2
      have d2' : decide ((m.1 : Int) < (n : Int)) = true := by rw [decide_eq_true_eq]; omega
      have e1 : wrap64 ((a : Int) - (p : Int)) = ((a - p : Nat) : Int) := by have := HP.out; have := HJ.out.fnd.size; unfold wrap64; omega
      have HI := Lib.hid (show (if over < (n : Int) ∧ m.1 < n then (n, a - p) else m) = (n, a - p) from if_pos ⟨h1, h2⟩)
      have HP2 := Lib.hid (HJ2.out.put HB.out n (a - p))
      have q8' := HP2.out.x8.cell
      clear h1 h2
      go_wp2_with fail
      go_ret
      rw [HFS.out, HI.out]
      exact ⟨rfl, HP2.out⟩
    · have d2 : decide (m.1 < n) = false := by rw [decide_eq_false_iff_not]; exact h2
      have d2' : decide ((m.1 : Int) < (n : Int)) = false := by rw [decide_eq_false_iff_not]; omega
      have HI := Lib.hid (show (if over < (n : Int) ∧ m.1 < n then (n, a - p) else m) = m from if_neg (fun h => h2 h.2))
      clear h1 h2
      go_wp2_with fail
      go_ret
      rw [HFS.out, HI.out]
      exact ⟨rfl, HJ2.out⟩
  · have d1 : decide (over < (n : Int)) = false := by rw [decide_eq_false_iff_not]; exact h1
    have HI := Lib.hid (show (if over < (n : Int) ∧ m.1 < n then (n, a - p) else m) = m from if_neg (fun h => h1 h.1))
    clear h1
    go_wp2_with fail
    go_ret
    rw [HFS.out, HI.out]
    exact ⟨rfl, HJ2.out⟩
theorem find_res (tmps : Array Value) (w : World) (B : Nat) (m : Nat × Nat) (h10 : tmps.getD 10 undef = .pointer (some ⟨B, 0, none⟩)) (hv : w.heap[B]? = some (.cells #[.int .i64 (m.1 : Nat), .int .i64 (m.2 : Nat)] 29 (0, 0))) :
    (results Try.f14 tmps).run Try.prog w = .ok (.agg #[.int .i64 (m.1 : Nat), .int .i64 (m.2 : Nat)]) w := by
  have m0 : w.cell? ⟨B, 0, none⟩ = some (.int .i64 (m.1 : Nat)) := cell_blk hv 0
  have m1 : w.cell? ⟨B, 1, none⟩ = some (.int .i64 (m.2 : Nat)) := cell_blk hv 1
  have h10' : tmps[10]?.getD undef = .pointer (some ⟨B, 0, none⟩) := by simpa using h10
  simp [results, Try.results14, asAddr, loadVar, run_load, h10', m0, m1, go_sem]
set_option maxHeartbeats 1000000 in
theorem find_any (at_ depth nice over : Int) (n₀ A : Nat) (s : ByteArray) (l : List Nat) (w : World) (hf : Fnd w n₀ A s l) (hat : ∀ p ∈ l, (p : Int) < at_ ∧ at_ ≤ (s.size : Int)) (hat2 : at_ ≤ 9223372036854775807) (hd2 : depth ≤ 9223372036854775807) :
    Calls Try.prog 14 #[.pointer (some ⟨A, 0, none⟩), .int .i64 at_, .int .i64 depth, .int .i64 nice, .int .i64 over] w fun e w' =>
      e = .returned (.agg #[.int .i64 ((findL (byteL s) l at_ depth nice over).1 : Nat), .int .i64 ((findL (byteL s) l at_ depth nice over).2 : Nat)]) ∧ Fnd w' n₀ A s l ∧ Below w.heap.size w w' := by
  have HF := Lib.hid hf
  have HAT := Lib.hid (And.intro hat (And.intro hat2 hd2))
  clear hf hat hat2 hd2
  have b1 := Boxed.new w 24 (.pointer (some ⟨A, 0, none⟩))
  obtain ⟨w1, hw1⟩ : ∃ w1, w.alloc (.cells #[.pointer (some ⟨A, 0, none⟩)] 24) = w1 := ⟨_, rfl⟩
  have b2 := Boxed.new w1 3 (.int .i64 at_)
  obtain ⟨w2, hw2⟩ : ∃ w2, w1.alloc (.cells #[.int .i64 at_] 3) = w2 := ⟨_, rfl⟩
  have b3 := Boxed.new w2 3 (.int .i64 nice)
  obtain ⟨w3, hw3⟩ : ∃ w3, w2.alloc (.cells #[.int .i64 nice] 3) = w3 := ⟨_, rfl⟩
  have b4 := Boxed.new w3 3 (.int .i64 over)
  obtain ⟨w4, hw4⟩ : ∃ w4, w3.alloc (.cells #[.int .i64 over] 3) = w4 := ⟨_, rfl⟩
  have b5 := heap_alloc_last w4 (.cells #[.int .i64 0, .int .i64 0] 29)
  obtain ⟨w5, hw5⟩ : ∃ w5, w4.alloc (.cells #[.int .i64 0, .int .i64 0] 29) = w5 := ⟨_, rfl⟩
  have l1 : Below w.heap.size w w1 := by rw [← hw1]; exact (Below.refl _ w).alloc (Nat.le_refl _) _
  have l2 : Below w1.heap.size w1 w2 := by rw [← hw2]; exact (Below.refl _ w1).alloc (Nat.le_refl _) _
  have l3 : Below w2.heap.size w2 w3 := by rw [← hw3]; exact (Below.refl _ w2).alloc (Nat.le_refl _) _
  have l4 : Below w3.heap.size w3 w4 := by rw [← hw4]; exact (Below.refl _ w3).alloc (Nat.le_refl _) _
  have l5 : Below w4.heap.size w4 w5 := by rw [← hw5]; exact (Below.refl _ w4).alloc (Nat.le_refl _) _
  rw [hw1] at b1
  rw [hw2] at b2
  rw [hw3] at b3
  rw [hw4] at b4
  rw [hw5] at b5
  have g2 := bt l1 l2
  have g3 := bt g2 l3
  have g4 := bt g3 l4
  have g5 := bt g4 l5
  have k2 := bt l2 (bt l3 (bt l4 l5))
  have k3 := bt l3 (bt l4 l5)
  have k4 := bt l4 l5
  have HJ0 := Lib.hid (show FiJ n₀ A s l at_ nice over w w.heap.size w1.heap.size w2.heap.size w3.heap.size w4.heap.size (0, 0) w5 from
    ⟨HF.out.below g5, (k2.block _ b1.lt).trans b1, (k3.block _ b2.lt).trans b2, (k4.block _ b3.lt).trans b3, (l5.block _ b4.lt).trans b4, b5, g5⟩)
  have HS := Lib.hid (show w.heap.size ≤ w4.heap.size from g4.size)
  have hE5 : w5.cell? ⟨w.heap.size, 0, none⟩ = some (.pointer (some ⟨A, 0, none⟩)) := HJ0.out.x5.cell
  have hE6 : w5.cell? ⟨w1.heap.size, 0, none⟩ = some (.int .i64 at_) := HJ0.out.x6.cell
  clear l1 l2 l3 l4 l5 g2 g3 g4 g5 k2 k3 k4 b1 b2 b3 b4 b5
  go_enter Try.func14, Try.ntmps14
  go_wp2_with fail
  refine (each_any 28 _ (enters_of Try.func28 (by kernel_rfl) rfl) (findStep (byteL s) at_ nice over) (fun c m W => FiJ n₀ A s l at_ nice over w w.heap.size w1.heap.size w2.heap.size w3.heap.size w4.heap.size m W) n₀ A s l at_ depth
    (fun c x W W' h hb => h.grown hb) (fun c x W h => h.fnd) (fun p hp => (HAT.out.1 p hp).1) HAT.out.2.1 (fun c m W p h hp hc => ?_) w5 (0, 0) HJ0.out HAT.out.2.2).mono ?_
  · exact find1_any n₀ A s l at_ nice over w w.heap.size w1.heap.size w2.heap.size w3.heap.size w4.heap.size m W p h HS.out (HAT.out.1 p hp).1 (HAT.out.1 p hp).2
  · rintro e W1 ⟨⟨v, rfl⟩, c, hJ⟩
    rw [show eachGo (findStep (byteL s) at_ nice over) (placesL (byteL s) l at_ depth) (0, 0) = findL (byteL s) l at_ depth nice over from rfl] at hJ
    obtain ⟨m, hm⟩ : ∃ m, findL (byteL s) l at_ depth nice over = m := ⟨_, rfl⟩
    rw [hm] at hJ
    have HM := Lib.hid hm
    have HJ := Lib.hid hJ
    have m0 : W1.cell? ⟨w4.heap.size, 0, none⟩ = some (.int .i64 (m.1 : Nat)) := cell_blk hJ.x10 0
    have m1 : W1.cell? ⟨w4.heap.size, 1, none⟩ = some (.int .i64 (m.2 : Nat)) := cell_blk hJ.x10 1
    have f0 : ∀ j, W1.frozen? ⟨w4.heap.size, j, none⟩ = false := fun j => by unfold World.frozen?; rw [hJ.x10]; rfl
    clear hm hJ hw1 hw2 hw3 hw4 hw5 hE5 hE6
    go_wp2_with fail
    have hP := HJ.out.put HS.out m.1 m.2
    refine bodyPost_ret (find_res _ _ w4.heap.size m rfl hP.x10) rfl ⟨by rw [HM.out], hP.fnd, hP.below⟩
theorem find_nil (at_ depth nice over : Int) (w : World) : Calls Try.prog 14 #[.pointer none, .int .i64 at_, .int .i64 depth, .int .i64 nice, .int .i64 over] w fun e w' => e = .returned (.agg #[.int .i64 0, .int .i64 0]) ∧ Below w.heap.size w w' := by
  have b1 := Boxed.new w 24 (.pointer none)
  obtain ⟨w1, hw1⟩ : ∃ w1, w.alloc (.cells #[.pointer none] 24) = w1 := ⟨_, rfl⟩
  have b2 := Boxed.new w1 3 (.int .i64 at_)
  obtain ⟨w2, hw2⟩ : ∃ w2, w1.alloc (.cells #[.int .i64 at_] 3) = w2 := ⟨_, rfl⟩
  obtain ⟨w3, hw3⟩ : ∃ w3, w2.alloc (.cells #[.int .i64 nice] 3) = w3 := ⟨_, rfl⟩
  obtain ⟨w4, hw4⟩ : ∃ w4, w3.alloc (.cells #[.int .i64 over] 3) = w4 := ⟨_, rfl⟩
  have b5 := heap_alloc_last w4 (.cells #[.int .i64 0, .int .i64 0] 29)
  obtain ⟨w5, hw5⟩ : ∃ w5, w4.alloc (.cells #[.int .i64 0, .int .i64 0] 29) = w5 := ⟨_, rfl⟩
  have l1 : Below w.heap.size w w1 := by rw [← hw1]; exact (Below.refl _ w).alloc (Nat.le_refl _) _
  have l2 : Below w1.heap.size w1 w2 := by rw [← hw2]; exact (Below.refl _ w1).alloc (Nat.le_refl _) _
  have l3 : Below w2.heap.size w2 w3 := by rw [← hw3]; exact (Below.refl _ w2).alloc (Nat.le_refl _) _
  have l4 : Below w3.heap.size w3 w4 := by rw [← hw4]; exact (Below.refl _ w3).alloc (Nat.le_refl _) _
  have l5 : Below w4.heap.size w4 w5 := by rw [← hw5]; exact (Below.refl _ w4).alloc (Nat.le_refl _) _
  rw [hw1] at b1
  rw [hw2] at b2
  rw [hw5] at b5
  have g4 := bt (bt (bt l1 l2) l3) l4
  have HG := Lib.hid (And.intro g4.size (bt g4 l5))
  have hE5 : w5.cell? ⟨w.heap.size, 0, none⟩ = some (.pointer none) := Boxed.cell (((bt l2 (bt l3 (bt l4 l5))).block _ b1.lt).trans b1)
  have hE6 : w5.cell? ⟨w1.heap.size, 0, none⟩ = some (.int .i64 at_) := Boxed.cell (((bt l3 (bt l4 l5)).block _ b2.lt).trans b2)
  have m0 : w5.cell? ⟨w4.heap.size, 0, none⟩ = some (.int .i64 0) := cell_blk b5 0
  have m1 : w5.cell? ⟨w4.heap.size, 1, none⟩ = some (.int .i64 0) := cell_blk b5 1
  have f0 : ∀ j, w5.frozen? ⟨w4.heap.size, j, none⟩ = false := fun j => by unfold World.frozen?; rw [b5]; rfl
  have H5 := Lib.hid b5
  clear l1 l2 l3 l4 l5 g4 b1 b2 b5
  go_enter Try.func14, Try.ntmps14
  go_wp2_with fail
  refine (each_nil _ _ _ _ _).mono ?_
  rintro e W1 ⟨⟨v, rfl⟩, rfl⟩
  go_wp2_with fail
  refine bodyPost_ret (find_res _ _ w4.heap.size (0, 0) rfl ?_) rfl ⟨rfl, (HG.out.2.setCell (p := ⟨w4.heap.size, 0, none⟩) HG.out.1 _).setCell (p := ⟨w4.heap.size, 1, none⟩) HG.out.1 _⟩
  simp [World.setCell, Array.getElem?_modify, H5.out]
theorem put_nil (at_ : Int) (w : World) : Calls Try.prog 13 #[.pointer none, .int .i64 at_] w fun e w' => e = .returned (.int .i64 1) ∧ w' = w := by
  go_enter Try.func13, Try.ntmps13
  go_wp2_with fail
  go_ret
  exact ⟨rfl, rfl⟩
end Go.Proofs.Ytolkmjclldjkkaa
