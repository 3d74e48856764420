/-
  Runs: what 'Pack' comes to (a contract, by hand).
-/
import Derived.Test.YtkoohabljjbliaaHand3
import Derived.Maps.AppendAt
set_option linter.unusedSimpArgs false
set_option linter.unusedVariables false
namespace Go.Proofs.Ytkoohabljjbliaa
open Go.RowKit Go.Proofs.YtkoohabljjbliaaW.PrintWords
attribute [local go_sem] Oper.semAt_some

theorem told_calls (A : Option Addr) (n c : Nat) (w : World) :
    Calls Try.prog 17 #[.slice A n c] w fun e w' => e = .returned (.func (.func 21) #[] #[.pointer (some ⟨w.heap.size, 0, none⟩)]) ∧ w' = w.alloc (.cells #[.slice A n c] 22) := by
  go_enter Try.func17, Try.ntmps17
  go_wp2
  go_ret
  exact ⟨rfl, rfl⟩

/-- a step of the iterator's own -/
def Turn (B : Nat) (X Y : World) : Prop := Below X.heap.size X Y ∨ ∃ v, Y = X.setCell ⟨B, 0, none⟩ v
theorem Turn.others {B : Nat} (X Y : World) (h : Turn B X Y) (k : Nat) (o : Obj) (hk : X.heap[k]? = some o) (ho : o.isCells = false) : Y.heap[k]? = some o := by
  rcases h with h | ⟨v, rfl⟩
  · exact (h.block k (Array.getElem?_eq_some_iff.1 hk).1).trans hk
  · exact (KeepsOthers.setCell X _ v).same k o hk ho
theorem told_gives (B n₀ : Nat) (l0 : List Int) (hl : l0.length ≤ 2000) (w : World) (A0 : Option Addr) (c0 : Nat) (hBn : n₀ ≤ B) (hn₀ : n₀ ≤ w.heap.size) (hBw : B < w.heap.size)
    (hB : lensAt w B A0 l0.length c0) (hc0 : l0.length ≤ c0) (hr : ReadsInt w .u8 A0 l0.length l0) (hA : Low n₀ A0 l0.length) :
    Gives Try.prog 21 #[.pointer (some ⟨B, 0, none⟩)] (fun x : Int × Int => #[encR x]) (Turn B) (Keep n₀) (toldL l0) l0.length w := fun l J W hW hT hY h0 =>
  told1_any l B n₀ l0 J (fun s X Y hs hb => hT s X Y hs (.inl hb)) (fun s X v hs => hT s X _ hs (.inr ⟨v, rfl⟩)) hY hl W A0 c0 hBn (Nat.le_trans hn₀ hW.size)
    ((hW.block B hBw).trans hB) hc0 (reads_low hr hA (hW.mono hn₀)) hA h0
/-- the cells of runs -/
def cellsR (l : List (Int × Int)) : List Value := l.flatMap fun x => [.int .u8 x.1, .int .u8 x.2]
theorem cellsR_snoc (l : List (Int × Int)) (x : Int × Int) : cellsR (l ++ [x]) = cellsR l ++ [.int .u8 x.1, .int .u8 x.2] := by simp [cellsR]
theorem cell_two_new (w : World) (x y : Value) (t : TypeId) : ∀ j u, [x, y][j]? = some u → (w.alloc (.cells #[x, y] t)).cell? ((⟨w.heap.size, 0, none⟩ : Addr).add j) = some u := by
  intro j u hj
  have hn := new2 w x y t
  match j, hj with
  | 0, hj => simp at hj; subst hj; exact hn.1
  | 1, hj => simp at hj; subst hj; exact hn.2
theorem infoR : (Try.prog.info? 33).map (fun i => (i.zero, i.size, i.bytes)) = some (some (.agg #[.int .u8 0, .int .u8 0]), 2, 2) := by kernel_rfl

/-- Pack's own: the box of its result, the box of the lengths, and what lay below -/
structure Mine (w : World) (BL BN n₀ : Nat) (pre : List (Int × Int)) (W : World) : Prop where
  own : ∃ v, Boxed W BL 23 v ∧ W.ownsRow n₀ 33 2 v pre.length (cellsR pre)
  lens : ∃ u, Boxed W BN 22 u
  below : Below n₀ w W
theorem ne_of_none {v : Value} : v.ownBlock = none ∨ v.ownBlock ≠ none := by cases v.ownBlock <;> simp
theorem Mine.grown {w : World} {BL BN n₀ : Nat} {pre : List (Int × Int)} {X Y : World} (h : Mine w BL BN n₀ pre X) (hb : Below X.heap.size X Y) (hn : n₀ ≤ w.heap.size) : Mine w BL BN n₀ pre Y := by
  have hg : X.grownBy Y none := ⟨hb.os, hb.tape, hb.output, hb.size, fun k hk _ => hb.block k hk⟩
  obtain ⟨v, hv, hr⟩ := h.own
  obtain ⟨u, hu⟩ := h.lens
  exact ⟨⟨v, hv.kept hg (by simp), hr.kept hg ne_of_none⟩, ⟨u, hu.kept hg (by simp)⟩, h.below.trans (hb.mono (Nat.le_trans hn h.below.size))⟩
theorem Mine.turn {w : World} {BL BN n₀ : Nat} {pre : List (Int × Int)} {X Y : World} (h : Mine w BL BN n₀ pre X) (ht : Turn BN X Y) (hn : n₀ ≤ w.heap.size) (hne : BL ≠ BN) (hBN : n₀ ≤ BN) : Mine w BL BN n₀ pre Y := by
  rcases ht with hb | ⟨v', rfl⟩
  · exact h.grown hb hn
  · obtain ⟨v, hv, hr⟩ := h.own
    obtain ⟨u, hu⟩ := h.lens
    have hg := grownBy_setCell' X BN v'
    exact ⟨⟨v, hv.kept hg (fun e => hne (by cases e; rfl)), hr.kept hg (.inr (hu.not_row (by decide) hr).symm)⟩, ⟨_, hu.set v'⟩, h.below.setCell (p := ⟨BN, 0, none⟩) hBN v'⟩
theorem Mine.put {w : World} {BL BN n₀ : Nat} {pre : List (Int × Int)} {X : World} (h : Mine w BL BN n₀ pre X) (l : Nat) (o o' : Obj) (hl : BL < l ∧ BN < l ∧ n₀ ≤ l) (ho : X.heap[l]? = some o) (hc : o.isCells = false) (hn : n₀ ≤ w.heap.size) : Mine w BL BN n₀ pre (X.putObj l o') := by
  obtain ⟨v, hv, hr⟩ := h.own
  obtain ⟨u, hu⟩ := h.lens
  have hg := grownBy_putObj' X l o'
  exact ⟨⟨v, hv.kept hg (fun e => by cases e; omega), ownsRow_putObj hr o' ho hc⟩, ⟨u, hu.kept hg (fun e => by cases e; omega)⟩, h.below.grown hg (Nat.le_trans hn h.below.size) (fun k e => by cases e; exact hl.2.2)⟩
theorem Keep.put (n₀ : Nat) (A : World) (l : Nat) (o o' : Obj) (hl : n₀ ≤ l) (h : A.heap[l]? = some o) (hc : o.isCells = false) (hn : n₀ ≤ A.heap.size) : Keep n₀ A (A.putObj l o') := by
  refine ⟨(Below.refl n₀ A).grown (grownBy_putObj' A l o') hn (fun k e => by cases e; exact hl), fun k cs t z hk _ _ => ?_⟩
  by_cases e : k = l
  · subst e; rw [h] at hk; cases hk; cases hc
  · exact (putObj_other e).trans hk
theorem Keep.alloc (n₀ : Nat) (A : World) (o : Obj) (hn : n₀ ≤ A.heap.size) : Keep n₀ A (A.alloc o) := Keep.of_below ((Below.refl _ A).alloc (Nat.le_refl _) o) hn

theorem keep_appended {W w1 : World} {n₀ B : Nat} {v v' : Value} {k : Nat} {xs : List Value} {tmp : Obj} (hv : Boxed W B 23 v) (hrow : W.ownsRow n₀ 33 2 v k xs) (hgrow : (W.alloc tmp).grownBy w1 v.ownBlock)
    (hb : Below n₀ W (w1.setCell ⟨B, 0, none⟩ v')) : Keep n₀ W (w1.setCell ⟨B, 0, none⟩ v') := by
  refine ⟨hb, fun i cs t z hi h1 h2 => ?_⟩
  have hlt := (Array.getElem?_eq_some_iff.1 hi).1
  have hiB : i ≠ B := fun e => by
    subst e
    rw [show W.heap[i]? = some (.cells #[v] 23 (0, 0)) from hv] at hi
    cases hi; exact h1 rfl
  have hio : some i ≠ v.ownBlock := fun e => by
    rcases hrow.2 with ⟨rfl, _⟩ | ⟨g, cap, cur, rfl, _, hgb, _⟩
    · simp [Value.ownBlock] at e
    · obtain rfl : i = g := by simpa [Value.ownBlock] using e
      rw [hgb] at hi; cases hi; exact h2 rfl
  exact (Below.heap_setCell w1 _ v' i hiB).trans ((hgrow.block i (by simp; omega) hio).trans ((Below.heap_alloc W tmp i hlt).trans hi))
theorem slice_of {W : World} {n₀ : Nat} {v : Value} {k : Nat} {xs : List Value} (h : W.ownsRow n₀ 33 2 v k xs) : ∃ a n c, v = .slice a n c := by
  rcases h.2 with ⟨rfl, _⟩ | ⟨g, cap, cur, rfl, _⟩
  · exact ⟨_, _, _, rfl⟩
  · exact ⟨_, _, _, rfl⟩
theorem pack_res (tmps : Array Value) (w : World) (B : Nat) (v : Value) (h2 : tmps.getD 2 undef = .pointer (some ⟨B, 0, none⟩)) (h3 : tmps.getD 3 undef = .int .i64 0) (hv : Boxed w B 23 v) :
    (results Try.f8 tmps).run Try.prog w = .ok (.tuple #[v, .int .i64 0]) w := by
  have hc := hv.cell
  have h2' : tmps[2]?.getD undef = .pointer (some ⟨B, 0, none⟩) := by simpa using h2
  have h3' : tmps[3]?.getD undef = .int .i64 0 := by simpa using h3
  rw [results_cell_tmp rfl]
  simp [asAddr, loadVar, run_load, h2', h3', hc, go_sem]
set_option maxHeartbeats 1000000 in
theorem pack_ok (l0 : List Int) (A : Option Addr) (c : Nat) (w : World) (hr : ReadsInt w .u8 A l0.length l0) (hl : l0.length ≤ 2000) (hc : l0.length ≤ c) (h15 : ∀ x ∈ l0, x ≤ 15) :
    Calls Try.prog 8 #[.slice A l0.length c] w fun e w' => ∃ v, e = .returned (.tuple #[v, .int .i64 0]) ∧ w'.ownsRow w.heap.size 33 2 v (toldL l0).length (cellsR (toldL l0)) ∧ Below w.heap.size w w' := by
  have HL := Lib.hid (And.intro hl hc)
  have HR := Lib.hid hr
  have H15 := Lib.hid h15
  clear hl hc hr h15
  refine callsIn_wide.1 (callsIn_of_wp_marks (n := 0) Try.func8 rfl trivial ?_ rfl)
  simp only [Try.ntmps8, List.size_toArray, List.length_cons, List.length_nil, Nat.reduceAdd, Nat.reduceSub, Array.replicate_succ, Array.replicate_zero, List.push_toArray, List.append_toArray, List.nil_append, List.cons_append]
  gi_wp2
  gi_loopw [9] (fun s9 wx => ∃ k : Nat, s9 = .int .i64 (k : Int) ∧ Hid (k ≤ l0.length) ∧ wx = w.alloc (.cells #[.slice none 0 0] 23)) (fun s9 wx => l0.length - (intOf s9).toNat)
  case atStart => exact ⟨0, rfl, Lib.hid (Nat.zero_le _), rfl⟩
  case round =>
    obtain ⟨k, rfl, HK, rfl⟩ := hrel
    by_cases hk : k < l0.length
    · have dk : decide (k < l0.length) = true := by rw [decide_eq_true_eq]; exact hk
      have dk2 : decide ((k : Int) < (l0.length : Int)) = true := by rw [decide_eq_true_eq]; omega
      obtain ⟨ad, hAd, hcs⟩ := HR.out.2.2 (Nat.lt_of_le_of_lt (Nat.zero_le k) hk)
      subst hAd
      have qk := (((Below.refl w.heap.size w).alloc (Nat.le_refl _) (.cells #[.slice none 0 0] 23)).cell (World.block_lt_of_cell? w _ (hcs k hk))).trans (hcs k hk)
      have hx : l0.getD k 0 ≤ 15 := H15.out _ (by rw [List.getD_eq_getElem?_getD, List.getElem?_eq_getElem hk]; simp)
      obtain ⟨x, hx2⟩ : ∃ x, l0.getD k 0 = x := ⟨_, rfl⟩
      rw [hx2] at hx qk
      have dx : decide (15 < x) = false := by rw [decide_eq_false_iff_not]; omega
      have EK := Lib.hid (show wrap64 ((k : Int) + 1) = ((k + 1 : Nat) : Int) by have := HL.out.1; unfold wrap64; omega)
      have HK2 := Lib.hid hk
      clear hx hx2 hcs
      gi_wp2
      go_roundw
      case rel => exact ⟨k + 1, by rw [EK.out], Lib.hid HK2.out, trivial⟩
      case measure => exact meas_up HK2.out EK.out
    · have dk : decide (k < l0.length) = false := by rw [decide_eq_false_iff_not]; exact hk
      have dk2 : decide ((k : Int) < (l0.length : Int)) = false := by rw [decide_eq_false_iff_not]; omega
      clear hk
      gi_wp2
      refine ⟨trivial, rfl, (callsIn_wide.2 (told_calls _ _ _ _)).mono ?_⟩
      rintro e w2 ⟨rfl, hw2⟩
      have hn0 : w.heap.size ≤ w2.heap.size := by rw [hw2]; simp; omega
      have hBl : (w.alloc (.cells #[.slice none 0 0] 23)).heap.size = w.heap.size + 1 := World.size_alloc _ _
      have bx := Boxed.new w 23 (.slice none 0 0)
      have bn := Boxed.new (w.alloc (.cells #[.slice none 0 0] 23)) 22 (.slice A l0.length c)
      rw [← hw2, hBl] at bn
      have bx2 : Boxed w2 w.heap.size 23 (.slice none 0 0) := by rw [hw2]; exact bx.alloc _
      have hb2 : Below w.heap.size w w2 := by rw [hw2]; exact ((Below.refl _ w).alloc (Nat.le_refl _) _).alloc (by simp) _
      have hsz : w2.heap.size = w.heap.size + 2 := by rw [hw2, World.size_alloc, hBl]
      rw [hBl]
      have hlow : Low w.heap.size A l0.length := fun ad hA hn => by
        obtain ⟨ad', hA', hcs⟩ := HR.out.2.2 hn
        rw [hA] at hA'; cases hA'
        have := World.block_lt_of_cell? w _ (hcs 0 hn)
        rwa [add_block] at this
      have hg := told_gives (w.heap.size + 1) w.heap.size l0 HL.out.1 w2 A c (Nat.le_succ _) hn0 (by omega) bn HL.out.2 (reads_low HR.out hlow hb2) hlow
      have HG := Lib.hid hg
      have HM0 := Lib.hid (show Mine w w.heap.size (w.heap.size + 1) w.heap.size [] w2 from ⟨⟨_, bx2, World.ownsRow_nil _ _ _ _⟩, ⟨_, bn⟩, hb2⟩)
      have HSZ := Lib.hid hsz
      clear hg hlow hsz hb2 bx2 bn bx hBl hn0 hw2 dk dk2 HK
      gi_wp2
      refine range_law (α := Int × Int) (gf := 21) (lb := #[.pointer (some ⟨w.heap.size + 1, 0, none⟩)]) rfl (enters_of Try.func21 (by kernel_rfl) rfl) HG.out (fun _ => rfl)
        Turn.others (fun _ _ _ h k => h.trans k) (fun X l o o' hl h hc => Keep.put _ X l o o' (by have := HSZ.out; omega) h hc (by have := HSZ.out; have := (Array.getElem?_eq_some_iff.1 h).1; omega))
        (fun pre W => Mine w w.heap.size (w.heap.size + 1) w.heap.size pre W) (fun s X Y h t => h.turn t (Nat.le_refl _) (by omega) (Nat.le_succ _))
        (fun s X l o o' hl h ho hc => h.put l o o' (by have := HSZ.out; omega) ho hc (Nat.le_refl _)) (fun s X o h => h.grown ((Below.refl _ X).alloc (Nat.le_refl _) o) (Nat.le_refl _)) HM0.out
        (fun x W => { tmps := #[.slice A l0.length c, undef, .pointer (some ⟨w.heap.size, 0, none⟩), u3, undef, u5, .pointer (some ⟨W.heap.size, 0, none⟩), .slice A l0.length c, .int .i64 l0.length, .int .i64 k, .bool false, u11, u12, u13, u14, u15, .slice A l0.length c, .func (.func 21) #[] #[.pointer (some ⟨w.heap.size + 1, 0, none⟩)], encR x, undef, undef, undef, undef, undef], defers := [] })
        (fun x W => W.alloc (.cells #[.int .u8 x.1, .int .u8 x.2] 33)) (fun x W => KeepsOthers.alloc _ _) (fun x W h => Keep.alloc _ _ _ (by have := HSZ.out; omega)) (fun s x W h => h.grown ((Below.refl _ W).alloc (Nat.le_refl _) _) (Nat.le_refl _)) ?assign ?body ?done
      case assign =>
        intro l x W K hK
        gi_wp2
        exact hK
      case body =>
        rintro l pre x W W2 hl1 hl2 hsz ⟨⟨v, hv, hrow⟩, ⟨u, hu⟩, hB⟩ hlen hbk hs2
        have hrb : W2.heap[W.heap.size]? = some (.cells #[.int .u8 x.1, .int .u8 x.2] 33 (0, 0)) := (hbk _ (by omega)).trans (row_new W _ _ 33)
        obtain ⟨q1, q2⟩ := cells_of hrb
        have hc := hv.cell
        obtain ⟨i0, hi, hz0, hz1, hz2⟩ := info_parts infoR
        have HX := Lib.hid (show (pre.length + 1) ≤ maxLen ∧ (pre.length + 1) * 2 ≤ 140737488355328 from by have := HL.out.1; unfold maxLen; omega)
        have HB2 := Lib.hid hB
        have HS := Lib.hid (show w.heap.size ≤ W2.heap.size from hB.size)
        have HU := Lib.hid hu
        have HROW := Lib.hid hrow
        have HV := Lib.hid hv
        clear hrb hbk hs2 hlen hsz hl1 hl2 hB hu hrow hv
        gi_wp2_with (gi_at_builtin; refine wpListIn_append_own _ rfl _ _ 23 rfl w.heap.size 33 i0 (.agg #[.int .u8 0, .int .u8 0]) 2 2 Try.underlying23 hi hz0 hz1 hz2 rfl (by decide) _ _ _ rfl (HROW.out.alloc _) ⟨W2.heap.size, 0, none⟩ 1 1 [.int .u8 x.1, .int .u8 x.2] rfl rfl (cell_two_new _ _ _ _) (by simp [Value.oneCell']) HX.out.1 HX.out.2 (Nat.le_trans HS.out (by simp)) ?_; intro v' w1 hown' hgrow _; obtain ⟨g', cap', rfl⟩ := ownsRow_succ hown'; obtain ⟨hv1, hv2, hr2, hk2, hb2⟩ := HV.out.appended (by decide) HROW.out HS.out (Nat.le_refl _) hown' hgrow; have hc1 := hv1.cell; have hf1 := hv1.frozen)
        have hK := keep_appended HV.out HROW.out hgrow hb2
        refine ⟨hK, ⟨⟨_, hv2, ?_⟩, ⟨u, hK.cells _ _ _ _ HU.out (by decide) (by decide)⟩, HB2.out.trans hb2⟩⟩
        rw [cellsR_snoc, List.length_append]
        exact hr2
      case done =>
        rintro D W2 hD ⟨⟨v, hv, hrow⟩, _, hB⟩ hK
        obtain ⟨a', n', c', rfl⟩ := slice_of hrow
        have hc := hv.cell
        have hf := hv.frozen
        have HV := Lib.hid hv
        have HROW := Lib.hid hrow
        have HB2 := Lib.hid hB
        have HD := Lib.hid hD
        have HK := Lib.hid hK
        clear hv hrow hB hD hK
        gi_wp2
        have hv2 := HV.out.set (.slice a' n' c')
        have hr2 := HROW.out.kept (grownBy_setCell' W2 w.heap.size (.slice a' n' c')) (.inr (HV.out.not_row (by decide) HROW.out).symm)
        have hk2 := (KeepsOthers.setCell W2 ⟨w.heap.size, 0, none⟩ (.slice a' n' c')).same D _ HK.out rfl
        have hne : w.heap.size < D := by have := HD.out; have := HSZ.out; omega
        have hb2 := HB2.out.setCell (p := ⟨w.heap.size, 0, none⟩) (Nat.le_refl _) (.slice a' n' c')
        refine ⟨by simp, .inl ⟨_, _, rfl, run_takeDeferred hk2, ?_⟩⟩
        exact ⟨_, pack_res _ _ w.heap.size (.slice a' n' c') rfl rfl (hv2.kept (grownBy_putObj' _ D _) (fun e => by cases e; exact Nat.lt_irrefl _ hne)), _, rfl, ownsRow_putObj hr2 _ hk2 rfl,
          hb2.grown (grownBy_putObj' _ D _) hb2.size (fun k e => by cases e; exact Nat.le_of_lt hne)⟩

theorem pack_res_bad (tmps : Array Value) (w : World) (B : Nat) (v : Value) (h2 : tmps.getD 2 undef = .pointer (some ⟨B, 0, none⟩)) (h3 : tmps.getD 3 undef = .int .i64 2) (hc : w.cell? ⟨B, 0, none⟩ = some v) :
    (results Try.f8 tmps).run Try.prog w = .ok (.tuple #[v, .int .i64 2]) w := by
  have h2' : tmps[2]?.getD undef = .pointer (some ⟨B, 0, none⟩) := by simpa using h2
  have h3' : tmps[3]?.getD undef = .int .i64 2 := by simpa using h3
  rw [results_cell_tmp rfl]
  simp [asAddr, loadVar, run_load, h2', h3', hc, go_sem]
theorem take_all {l : List Int} {k : Nat} (h : ¬ k < l.length) (ht : ∀ x ∈ l.take k, x ≤ 15) : ∀ x ∈ l, x ≤ 15 := by
  rw [List.take_of_length_le (by omega)] at ht; exact ht
theorem take_more {l : List Int} {k : Nat} (h : k < l.length) (ht : ∀ x ∈ l.take k, x ≤ 15) (hx : l.getD k 0 ≤ 15) : ∀ x ∈ l.take (k + 1), x ≤ 15 := by
  intro x hm
  rw [List.take_succ_eq_append_getElem h, List.mem_append, List.mem_singleton] at hm
  rcases hm with hm | rfl
  · exact ht x hm
  · rw [List.getD_eq_getElem?_getD, List.getElem?_eq_getElem h] at hx; simpa using hx
set_option maxHeartbeats 1000000 in
theorem pack_bad (l0 : List Int) (A : Option Addr) (c : Nat) (w : World) (hr : ReadsInt w .u8 A l0.length l0) (hl : l0.length ≤ 9223372036854775806) (h15 : ¬ ∀ x ∈ l0, x ≤ 15) :
    Calls Try.prog 8 #[.slice A l0.length c] w fun e w' => e = .returned (.tuple #[.slice none 0 0, .int .i64 2]) ∧ Below w.heap.size w w' := by
  have HL := Lib.hid hl
  have HR := Lib.hid hr
  have H15 := Lib.hid h15
  clear hl hr h15
  go_enter Try.func8, Try.ntmps8
  refine (wpIn_wide (n := 0)).1 ?_
  gi_wp2
  gi_loopw [9] (fun s9 wx => ∃ k : Nat, s9 = .int .i64 (k : Int) ∧ Hid (∀ x ∈ l0.take k, x ≤ 15) ∧ wx = w.alloc (.cells #[.slice none 0 0] 23)) (fun s9 wx => l0.length - (intOf s9).toNat)
  case atStart => exact ⟨0, rfl, Lib.hid (by simp), rfl⟩
  case round =>
    obtain ⟨k, rfl, HK, rfl⟩ := hrel
    by_cases hk : k < l0.length
    · have dk : decide (k < l0.length) = true := by rw [decide_eq_true_eq]; exact hk
      have dk2 : decide ((k : Int) < (l0.length : Int)) = true := by rw [decide_eq_true_eq]; omega
      obtain ⟨ad, hAd, hcs⟩ := HR.out.2.2 (Nat.lt_of_le_of_lt (Nat.zero_le k) hk)
      subst hAd
      have qk := (((Below.refl w.heap.size w).alloc (Nat.le_refl _) (.cells #[.slice none 0 0] 23)).cell (World.block_lt_of_cell? w _ (hcs k hk))).trans (hcs k hk)
      have HK2 := Lib.hid hk
      by_cases hx : l0.getD k 0 ≤ 15
      · have HX := Lib.hid hx
        obtain ⟨x, hx2⟩ : ∃ x, l0.getD k 0 = x := ⟨_, rfl⟩
        rw [hx2] at hx qk
        have dx : decide (15 < x) = false := by rw [decide_eq_false_iff_not]; omega
        have EK := Lib.hid (show wrap64 ((k : Int) + 1) = ((k + 1 : Nat) : Int) by have := HL.out; unfold wrap64; omega)
        clear hx hx2 hcs
        gi_wp2
        go_roundw
        case rel => exact ⟨k + 1, by rw [EK.out], Lib.hid (take_more HK2.out HK.out HX.out), trivial⟩
        case measure => exact meas_up HK2.out EK.out
      · obtain ⟨x, hx2⟩ : ∃ x, l0.getD k 0 = x := ⟨_, rfl⟩
        rw [hx2] at hx qk
        have dx : decide (15 < x) = true := by rw [decide_eq_true_eq]; omega
        clear hx hx2 hcs
        gi_wp2
        refine bodyPost_ret (pack_res_bad _ _ w.heap.size (.slice none 0 0) rfl rfl ?_) rfl ⟨rfl, ?_⟩
        · exact cell_box (heap_alloc_last w _)
        · exact (Below.refl _ w).alloc (Nat.le_refl _) _
    · exact (H15.out (take_all hk HK.out)).elim
end Go.Proofs.Ytkoohabljjbliaa
