/-
  Chain: what 'Places' and 'Find' come to (contracts, by hand).
-/
import Derived.Test.YtolkmjclldjkkaaF5
import Derived.RangeFuncBox
import Derived.Maps.AppendAt
import Derived.Shelf.Abstract
set_option linter.unusedSimpArgs false
set_option linter.unusedVariables false
namespace Go.Proofs.Ytolkmjclldjkkaa
open Go.RowKit

/-- places as cells -/
def placeV (l : List Nat) : List Value := l.map fun p => .int .i64 (p : Nat)
theorem info3 : (Try.prog.info? 3).map (fun i => (i.zero, i.size, i.bytes)) = some (some (.int .i64 0), 1, 8) := by kernel_rfl
/-- Places' own: the finder, the box of its result, and what lay below -/
structure PlJ (n₀ A : Nat) (s : ByteArray) (l : List Nat) (w : World) (BL : Nat) (x : List Nat) (W : World) : Prop where
  fnd : Fnd W n₀ A s l
  own : ∃ v, Boxed W BL 31 v ∧ W.ownsRow w.heap.size 3 1 v x.length (placeV x)
  below : Below w.heap.size w W
theorem ne_of_none {v : Value} : v.ownBlock = none ∨ v.ownBlock ≠ none := by cases v.ownBlock <;> simp
theorem PlJ.grown {n₀ A : Nat} {s : ByteArray} {l : List Nat} {w : World} {BL : Nat} {x : List Nat} {W W' : World} (h : PlJ n₀ A s l w BL x W) (hb : Below W.heap.size W W') : PlJ n₀ A s l w BL x W' := by
  have hg : W.grownBy W' none := ⟨hb.os, hb.tape, hb.output, hb.size, fun k hk _ => hb.block k hk⟩
  obtain ⟨v, hv, hr⟩ := h.own
  exact ⟨h.fnd.below hb, ⟨v, hv.kept hg (by simp), hr.kept hg ne_of_none⟩, h.below.trans (hb.mono h.below.size)⟩
theorem kept_app {W w1 : World} {tmp : Obj} {v v' : Value} {BL t e size base n : Nat} {xs : List Value} (hv : Boxed W BL t v) (hrow : W.ownsRow base e size v n xs) (hgrow : (W.alloc tmp).grownBy w1 v.ownBlock)
    {k : Nat} {o : Obj} (hk : W.heap[k]? = some o) (ho : ∀ cs z, o ≠ .cells cs t z ∧ o ≠ .cells cs e z) : (w1.setCell ⟨BL, 0, none⟩ v').heap[k]? = some o := by
  have hlt := (Array.getElem?_eq_some_iff.1 hk).1
  have h1 : k ≠ BL := fun e => by
    subst e
    rw [show W.heap[k]? = some (.cells #[v] t (0, 0)) from hv] at hk
    cases hk; exact (ho _ _).1 rfl
  have h2 : some k ≠ v.ownBlock := fun e => by
    rcases hrow.2 with ⟨rfl, _⟩ | ⟨g, cap, cur, rfl, _, hg, _⟩
    · simp [Value.ownBlock] at e
    · obtain rfl : k = g := by simpa [Value.ownBlock] using e
      rw [hk] at hg; cases hg; exact (ho _ _).2 rfl
  exact (Below.heap_setCell w1 _ v' k h1).trans ((hgrow.block k (by simp; omega) h2).trans ((Below.heap_alloc W tmp k hlt).trans hk))
theorem Fnd.keep2 {W W' : World} {n₀ A : Nat} {s : ByteArray} {l : List Nat} (h : Fnd W n₀ A s l) (hk : ∀ (k : Nat) (o : Obj), W.heap[k]? = some o → ((∃ cs, o = Obj.cells cs 64 (0, 0)) ∨ ∃ es c, o = Obj.map es c) → W'.heap[k]? = some o) : Fnd W' n₀ A s l :=
  h.keep fun k o ho hc => hk k o ho (by
    rcases hc with rfl | hc
    · obtain ⟨M1, M2, F, G, hA, _⟩ := h.ex
      rw [hA] at ho; cases ho
      exact .inl ⟨_, rfl⟩
    · exact .inr hc)
theorem Fnd.set {W : World} {n₀ A : Nat} {s : ByteArray} {l : List Nat} (h : Fnd W n₀ A s l) {B t : Nat} {cs : Array Value} (hb : W.heap[B]? = some (.cells cs t (0, 0))) (ht : t ≠ 64) {j : Nat} (u : Value) : Fnd (W.setCell ⟨B, j, none⟩ u) n₀ A s l :=
  h.keep2 fun k o hk hc => (Below.heap_setCell W ⟨B, j, none⟩ u k (fun e => by
    have e' : k = B := e
    subst e'
    rw [hb] at hk
    cases hk
    rcases hc with ⟨cs', hc⟩ | ⟨es, c, hc⟩
    · cases hc; exact ht rfl
    · cases hc)).trans hk
set_option maxHeartbeats 1000000 in
theorem places1_any (n₀ A : Nat) (s : ByteArray) (l : List Nat) (w : World) (BL : Nat) (hBL : w.heap.size ≤ BL) (hA : A < w.heap.size) (x : List Nat) (W : World) (p : Nat) (hJ : PlJ n₀ A s l w BL x W) (hx : x.length < 1000000) :
    Calls Try.prog 30 #[.int .i64 (p : Nat), .pointer (some ⟨BL, 0, none⟩)] W fun e W' => e = .returned (.bool true) ∧ PlJ n₀ A s l w BL (x ++ [p]) W' := by
  obtain ⟨hf, ⟨v, hv, hrow⟩, hB⟩ := hJ
  have hc := hv.cell
  obtain ⟨i0, hi, hz0, hz1, hz2⟩ := info_parts info3
  have HX := Lib.hid (show x.length + 1 ≤ maxLen ∧ (x.length + 1) * 8 ≤ 140737488355328 from by unfold maxLen; omega)
  have HF := Lib.hid hf
  have HB := Lib.hid hB
  have HBL := Lib.hid (And.intro hBL hA)
  have HV := Lib.hid hv
  have HROW := Lib.hid hrow
  have HC := Lib.hid (show ∀ j u, [Value.int .i64 (p : Nat)][j]? = some u → (W.alloc (.cells #[.int .i64 (p : Nat)] 3)).cell? ((⟨W.heap.size, 0, none⟩ : Addr).add j) = some u from fun j u hj => by
    match j, hj with
    | 0, hj => simp at hj; subst hj; exact cell_blk (heap_alloc_last W _) 0)
  clear hf hv hrow hB hx hBL hA
  go_enter Try.func30, Try.ntmps30
  go_wp2_with (at_builtin; refine wpList_append_own _ rfl _ _ 31 rfl w.heap.size 3 i0 (.int .i64 0) 1 8 Try.underlying31 hi hz0 hz1 hz2 rfl (by decide) _ _ _ rfl (HROW.out.alloc _) ⟨W.heap.size, 0, none⟩ 1 1 [.int .i64 (p : Nat)] rfl rfl HC.out (by simp [Value.oneCell']) HX.out.1 HX.out.2 (Nat.le_trans HB.out.size (by simp)) ?_; intro v' w1 hown' hgrow _; obtain ⟨g', cap', rfl⟩ := ownsRow_succ hown'; obtain ⟨hv1, hv2, hr2, hk2, hb2⟩ := HV.out.appended (by decide) HROW.out HB.out.size HBL.out.1 hown' hgrow; have hc1 := hv1.cell; have hf1 := hv1.frozen; have HG := Lib.hid hgrow; have HR := Lib.hid hown')
  go_ret
  refine ⟨rfl, ⟨HF.out.keep2 fun k o hk hc => kept_app HV.out HROW.out HG.out hk (fun cs z => ?_), ⟨_, hv2, ?_⟩, HB.out.trans hb2⟩⟩
  · rcases hc with ⟨cs', rfl⟩ | ⟨es, c, rfl⟩
    · exact ⟨(fun e => by cases e), (fun e => by cases e)⟩
    · exact ⟨(fun e => by cases e), (fun e => by cases e)⟩
  · rw [List.length_append, placeV, List.map_append]; exact hr2
theorem places_res (tmps : Array Value) (w : World) (B : Nat) (v : Value) (h6 : tmps.getD 6 undef = .pointer (some ⟨B, 0, none⟩)) (hv : Boxed w B 31 v) :
    (results Try.f15 tmps).run Try.prog w = .ok v w := by
  have hc := hv.cell
  have h6' : tmps[6]?.getD undef = .pointer (some ⟨B, 0, none⟩) := by simpa using h6
  simp [results, Try.results15, asAddr, loadVar, run_load, h6', hc, go_sem]
theorem eachGo_places (l : List Nat) : ∀ x, eachGo (fun (x : List Nat) p => (x ++ [p], true)) l x = x ++ l := by
  induction l with
  | nil => intro x; simp [eachGo]
  | cons p r ih => intro x; rw [eachGo, if_pos rfl, ih]; simp
theorem placesL_len (L : List Nat) (l : List Nat) (at_ depth : Int) : (placesL L l at_ depth).length ≤ l.length := by
  unfold placesL
  split
  · simp
  · split
    · simp
    · rename_i k _
      rw [List.length_take]
      have h1 := List.takeWhile_sublist (p := fun p : Nat => decide (at_ - (p : Int) ≤ 32768)) (l := cand L k l) |>.length_le
      have h2 : (cand L k l).length ≤ l.length := List.length_filter_le _ _
      omega
set_option maxHeartbeats 1000000 in
theorem places_any (at_ depth : Int) (n₀ A : Nat) (s : ByteArray) (l : List Nat) (w : World) (hf : Fnd w n₀ A s l) (hl : l.length < 1000000) (hat : ∀ p ∈ l, (p : Int) < at_) (hat2 : at_ ≤ 9223372036854775807) (hd2 : depth ≤ 9223372036854775807) :
    Calls Try.prog 15 #[.pointer (some ⟨A, 0, none⟩), .int .i64 at_, .int .i64 depth] w fun e w' => ∃ v, e = .returned v ∧ w'.ownsRow w.heap.size 3 1 v (placesL (byteL s) l at_ depth).length (placeV (placesL (byteL s) l at_ depth)) ∧ Fnd w' n₀ A s l ∧ Below w.heap.size w w' := by
  have HF := Lib.hid hf
  have HL := Lib.hid hl
  have HAT := Lib.hid (And.intro hat (And.intro hat2 hd2))
  clear hf hl hat hat2 hd2
  go_enter Try.func15, Try.ntmps15
  go_wp2_with fail
  have hb0 : Below w.heap.size w (w.alloc (.cells #[.slice none 0 0] 31)) := (Below.refl _ w).alloc (Nat.le_refl _) _
  have HJ0 := Lib.hid (show PlJ n₀ A s l w w.heap.size [] (w.alloc (.cells #[.slice none 0 0] 31)) from ⟨HF.out.below hb0, ⟨_, Boxed.new w 31 _, World.ownsRow_nil _ _ _ _⟩, hb0⟩)
  refine (each_any 30 #[.pointer (some ⟨w.heap.size, 0, none⟩)] (enters_of Try.func30 (by kernel_rfl) rfl) (fun (x : List Nat) p => (x ++ [p], true)) (fun c x W => x.length = c ∧ PlJ n₀ A s l w w.heap.size x W) n₀ A s l at_ depth
    (fun c x W W' h hb => ⟨h.1, h.2.grown hb⟩) (fun c x W h => h.2.fnd) HAT.out.1 HAT.out.2.1 (fun c x W p h hp hc => ?_) _ [] ⟨rfl, HJ0.out⟩ HAT.out.2.2).mono ?_
  · refine (places1_any n₀ A s l w w.heap.size (Nat.le_refl _) HF.out.blk x W p h.2 (by have := HL.out; rw [h.1]; omega)).mono ?_
    rintro e W' ⟨rfl, hJ⟩
    exact ⟨rfl, by rw [List.length_append, h.1]; rfl, hJ⟩
  · rintro e W1 ⟨⟨v, rfl⟩, c, hc, hJ⟩
    rw [eachGo_places, List.nil_append] at hJ hc
    obtain ⟨hfn, ⟨u, hu, hrow⟩, hbl⟩ := hJ
    have q1 := hu.cell
    have f1 := hu.frozen
    have HU := Lib.hid hu
    have HROW := Lib.hid hrow
    have HFN := Lib.hid hfn
    have HBL := Lib.hid hbl
    obtain ⟨a', n', c', rfl⟩ : ∃ a n c, u = .slice a n c := by
      rcases hrow.2 with ⟨rfl, _⟩ | ⟨g, cap, cur, rfl, _⟩
      · exact ⟨_, _, _, rfl⟩
      · exact ⟨_, _, _, rfl⟩
    clear hu hrow hfn hbl hc hb0
    go_wp2_with fail
    have hv2 := HU.out.set (.slice a' n' c')
    refine bodyPost_ret (places_res _ _ w.heap.size _ rfl hv2) rfl ⟨_, rfl, HROW.out.kept (grownBy_setCell' W1 w.heap.size (.slice a' n' c')) (.inr (HU.out.not_row (by decide) HROW.out).symm), HFN.out.set HU.out (by decide) _, HBL.out.setCell (p := ⟨w.heap.size, 0, none⟩) (Nat.le_refl _) _⟩
theorem places_nil (at_ depth : Int) (w : World) : Calls Try.prog 15 #[.pointer none, .int .i64 at_, .int .i64 depth] w fun e w' => e = .returned (.slice none 0 0) ∧ Below w.heap.size w w' := by
  go_enter Try.func15, Try.ntmps15
  go_wp2_with fail
  refine (each_nil _ _ _ _ _).mono ?_
  rintro e W1 ⟨⟨v, rfl⟩, rfl⟩
  have hu := Boxed.new w 31 (.slice none 0 0)
  have q1 := hu.cell
  have f1 := hu.frozen
  go_wp2_with fail
  refine bodyPost_ret (places_res _ _ w.heap.size _ rfl hu) rfl ⟨rfl, (Below.refl _ w).alloc (Nat.le_refl _) _⟩
end Go.Proofs.Ytolkmjclldjkkaa
