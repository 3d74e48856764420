/-
  Token: what 'Size' comes to (a contract, by hand).
-/
import Derived.Test.YtipcdbfohgeipaaHand2
set_option linter.unusedSimpArgs false
set_option linter.unusedVariables false
namespace Go.Proofs.Ytipcdbfohgeipaa
open Go.RowKit
attribute [local go_sem] Oper.semAt_some

/-- a sum, as it is made -/
def wsum (l : List Int) : Int := l.foldl (fun a x => wrap64 (a + x)) 0
theorem wsum_snoc (l : List Int) (x : Int) : wsum (l ++ [x]) = wrap64 (wsum l + x) := by simp [wsum]
theorem wsum_from (b : Int) (hb : 0 ≤ b ∧ b ≤ 1000000) : ∀ (l : List Int) (a : Int), 0 ≤ a → (∀ x ∈ l, 0 ≤ x ∧ x ≤ b) → a + (l.length : Int) * b ≤ 4611686018427387904 → l.foldl (fun a x => wrap64 (a + x)) a = a + l.sum ∧ 0 ≤ l.sum := by
  intro l
  induction l with
  | nil => intro a _ _ _; simp
  | cons x l ih =>
    intro a ha hx hl
    have h1 := hx x (by simp)
    have e : (((x :: l).length : Nat) : Int) * b = l.length * b + b := by rw [List.length_cons, Int.natCast_add, Int.add_mul]; simp
    have hp : 0 ≤ (l.length : Int) * b := Int.mul_nonneg (by omega) hb.1
    rw [e] at hl
    have hw : wrap64 (a + x) = a + x := by unfold wrap64; omega
    obtain ⟨i1, i2⟩ := ih (a + x) (by omega) (fun y hy => hx y (by simp [hy])) (by omega)
    simp only [List.foldl_cons, List.sum_cons]
    rw [hw, i1]
    exact ⟨by omega, by omega⟩
theorem wsum_eq (b : Int) (hb : 0 ≤ b ∧ b ≤ 1000000) (l : List Int) (hx : ∀ x ∈ l, 0 ≤ x ∧ x ≤ b) (hl : (l.length : Int) * b ≤ 4611686018427387904) : wsum l = l.sum := by
  have := (wsum_from b hb l 0 (by omega) hx (by omega)).1
  unfold wsum; omega

/-- a step of the iterator's own -/
def Turn (X Y : World) : Prop := Below X.heap.size X Y
theorem sizes_gives (B n₀ : Nat) (ts : List Tk) (hl : ts.length ≤ 1000000) (w : World) (A : Option Addr) (c : Nat) (hn₀ : n₀ ≤ w.heap.size) (hBw : B < w.heap.size)
    (hB : w.heap[B]? = some (.cells #[.slice A ts.length c] 25 (0, 0))) (hT : ToksAt w A ts) (hA : ∀ ad, A = some ad → ts ≠ [] → ad.block < n₀) :
    Gives Try.prog 12 #[.pointer (some ⟨B, 0, none⟩)] (fun x : Int => #[.int .i64 x]) Turn (Keep n₀) (ts.map sizeI) ts.length w := fun l J W hW hTn hY h0 =>
  sizes1_any l B n₀ ts.length ts J (fun s X Y hs hb => hTn s X Y hs hb) hY hl W A c (Nat.le_trans hn₀ hW.size) ((hW.block B hBw).trans hB) (toks_keep hT (hW.mono hn₀) hA) hA h0
structure Mine (w : World) (BL n₀ : Nat) (pre : List Int) (W : World) : Prop where
  box : Boxed W BL 3 (.int .i64 (wsum pre))
  below : Below n₀ w W
theorem Mine.grown {w : World} {BL n₀ : Nat} {pre : List Int} {X Y : World} (h : Mine w BL n₀ pre X) (hb : Below X.heap.size X Y) (hn : n₀ ≤ w.heap.size) : Mine w BL n₀ pre Y := by
  have hg : X.grownBy Y none := ⟨hb.os, hb.tape, hb.output, hb.size, fun k hk _ => hb.block k hk⟩
  exact ⟨h.box.kept hg (by simp), h.below.trans (hb.mono (Nat.le_trans hn h.below.size))⟩
theorem Mine.put {w : World} {BL n₀ : Nat} {pre : List Int} {X : World} (h : Mine w BL n₀ pre X) (l : Nat) (o o' : Obj) (hl : BL < l ∧ n₀ ≤ l) (ho : X.heap[l]? = some o) (hc : o.isCells = false) (hn : n₀ ≤ w.heap.size) : Mine w BL n₀ pre (X.putObj l o') := by
  have hg := grownBy_putObj' X l o'
  exact ⟨h.box.kept hg (fun e => by cases e; omega), h.below.grown hg (Nat.le_trans hn h.below.size) (fun k e => by cases e; exact hl.2)⟩
theorem Keep.put (n₀ : Nat) (A : World) (l : Nat) (o o' : Obj) (hl : n₀ ≤ l) (h : A.heap[l]? = some o) (hc : o.isCells = false) (hn : n₀ ≤ A.heap.size) : Keep n₀ A (A.putObj l o') := by
  refine ⟨(Below.refl n₀ A).grown (grownBy_putObj' A l o') hn (fun k e => by cases e; exact hl), fun k cs t z hk _ => ?_⟩
  by_cases e : k = l
  · subst e; rw [h] at hk; cases hk; cases hc
  · exact (putObj_other e).trans hk
theorem size_res (tmps : Array Value) (w : World) (B : Nat) (v : Value) (h2 : tmps.getD 2 undef = .pointer (some ⟨B, 0, none⟩)) (hv : Boxed w B 3 v) :
    (results Try.f7 tmps).run Try.prog w = .ok v w := by
  have hc := hv.cell
  have h2' : tmps[2]?.getD undef = .pointer (some ⟨B, 0, none⟩) := by simpa using h2
  simp [results, Try.results7, asAddr, loadVar, run_load, h2', hc, go_sem]

set_option maxHeartbeats 1000000 in
theorem size_any (ts : List Tk) (A : Option Addr) (c : Nat) (w : World) (hl : ts.length ≤ 1000000) (hT : ToksAt w A ts) :
    Calls Try.prog 7 #[.slice A ts.length c] w fun e w' => e = .returned (.int .i64 (wsum (ts.map sizeI))) ∧ Below w.heap.size w w' := by
  have HL := Lib.hid hl
  have HT := Lib.hid hT
  clear hl hT
  refine callsIn_wide.1 (callsIn_of_wp_marks (n := 0) Try.func7 rfl trivial ?_ rfl)
  simp only [Try.ntmps7, List.size_toArray, List.length_cons, List.length_nil, Nat.reduceAdd, Nat.reduceSub, Array.replicate_succ, Array.replicate_zero, List.push_toArray, List.append_toArray, List.nil_append, List.cons_append]
  gi_wp2
  refine ⟨trivial, rfl, (callsIn_wide.2 (sizes_calls _ _ _ _)).mono ?_⟩
  rintro e w2 ⟨rfl, hw2⟩
  have hBl : (w.alloc (.cells #[.int .i64 0] 3)).heap.size = w.heap.size + 1 := World.size_alloc _ _
  have bx := Boxed.new w 3 (.int .i64 0)
  have bn := Boxed.new (w.alloc (.cells #[.int .i64 0] 3)) 25 (.slice A ts.length c)
  rw [← hw2, hBl] at bn
  have bx2 : Boxed w2 w.heap.size 3 (.int .i64 0) := by rw [hw2]; exact bx.alloc _
  have hb2 : Below w.heap.size w w2 := by rw [hw2]; exact ((Below.refl _ w).alloc (Nat.le_refl _) _).alloc (by simp) _
  have hsz : w2.heap.size = w.heap.size + 2 := by rw [hw2, World.size_alloc, hBl]
  rw [hBl]
  have hlow : ∀ ad, A = some ad → ts ≠ [] → ad.block < w.heap.size := fun ad hA hn => by
    rcases HT.out with h | ⟨ad', hA', hcs⟩
    · exact absurd h hn
    · rw [hA] at hA'; cases hA'
      cases ts with
      | nil => exact absurd rfl hn
      | cons t ts =>
        have h1 := (hcs 0 t rfl).1
        have := World.block_lt_of_cell? w _ h1
        simpa [Addr.add] using this
  have hg := sizes_gives (w.heap.size + 1) w.heap.size ts HL.out w2 A c (by omega) (by omega) bn (toks_keep HT.out hb2 hlow) hlow
  have HG := Lib.hid hg
  have HM0 := Lib.hid (show Mine w w.heap.size w.heap.size [] w2 from ⟨bx2, hb2⟩)
  have HSZ := Lib.hid hsz
  clear hg hlow hsz hb2 bx2 bn bx hBl hw2
  gi_wp2
  refine range_law (α := Int) (gf := 12) (lb := #[.pointer (some ⟨w.heap.size + 1, 0, none⟩)]) rfl (enters_of Try.func12 (by kernel_rfl) rfl) HG.out (fun _ => rfl)
    (fun X Y h k o hk ho => (h.block k (Array.getElem?_eq_some_iff.1 hk).1).trans hk) (fun _ _ _ h k => h.trans k) (fun X l o o' hl h hc => Keep.put _ X l o o' (by have := HSZ.out; omega) h hc (by have := HSZ.out; have := (Array.getElem?_eq_some_iff.1 h).1; omega))
    (fun pre W => Mine w w.heap.size w.heap.size pre W) (fun s X Y h t => h.grown t (Nat.le_refl _))
    (fun s X l o o' hl h ho hc => h.put l o o' (by have := HSZ.out; omega) ho hc (Nat.le_refl _)) (fun s X o h => h.grown ((Below.refl _ X).alloc (Nat.le_refl _) o) (Nat.le_refl _)) HM0.out
    (fun x W => { tmps := #[.slice A ts.length c, undef, .pointer (some ⟨w.heap.size, 0, none⟩), .int .i64 x, .slice A ts.length c, .func (.func 12) #[] #[.pointer (some ⟨w.heap.size + 1, 0, none⟩)], .int .i64 x, undef, undef, undef, undef], defers := [] })
    (fun x W => W) (fun x W => KeepsOthers.refl _) (fun x W h => Keep.refl _ _) (fun s x W h => h) ?assign ?body ?done
  case assign =>
    intro l x W K hK
    gi_wp2
    exact hK
  case body =>
    rintro l pre x W W2 hl1 hl2 hsz ⟨hv, hB⟩ hlen hbk hs2
    have hc := hv.cell
    have hf := hv.frozen
    have HV := Lib.hid hv
    have HB2 := Lib.hid hB
    clear hbk hs2 hlen hsz hl1 hl2 hB hv
    gi_wp2
    have hb2 : Below w.heap.size W2 (W2.setCell ⟨w.heap.size, 0, none⟩ (.int .i64 (wrap64 (wsum pre + x)))) := (Below.refl _ W2).setCell (p := ⟨w.heap.size, 0, none⟩) (Nat.le_refl _) _
    refine ⟨KeepsOthers.setCell _ _ _, ⟨hb2, fun k cs t z hk ht => ?_⟩, ⟨by rw [wsum_snoc]; exact HV.out.set _, HB2.out.trans hb2⟩⟩
    have hne : k ≠ w.heap.size := fun e => by
      subst e
      rw [show W2.heap[w.heap.size]? = some (.cells #[.int .i64 (wsum pre)] 3 (0, 0)) from HV.out] at hk
      cases hk; exact ht rfl
    exact (Below.heap_setCell W2 _ _ k hne).trans hk
  case done =>
    rintro D W2 hD ⟨hv, hB⟩ hK
    have hc := hv.cell
    have hf := hv.frozen
    have HV := Lib.hid hv
    have HB2 := Lib.hid hB
    have HD := Lib.hid hD
    have HK := Lib.hid hK
    clear hv hB hD hK
    gi_wp2
    have hv2 := HV.out.set (.int .i64 (wsum (ts.map sizeI)))
    have hk2 := (KeepsOthers.setCell W2 ⟨w.heap.size, 0, none⟩ (.int .i64 (wsum (ts.map sizeI)))).same D _ HK.out rfl
    have hne : w.heap.size < D := by have := HD.out; have := HSZ.out; omega
    have hb2 := HB2.out.setCell (p := ⟨w.heap.size, 0, none⟩) (Nat.le_refl _) (.int .i64 (wsum (ts.map sizeI)))
    refine ⟨by simp, .inl ⟨_, _, rfl, run_takeDeferred hk2, ?_⟩⟩
    exact ⟨_, size_res _ _ w.heap.size _ rfl (hv2.kept (grownBy_putObj' _ D _) (fun e => by cases e; exact Nat.lt_irrefl _ hne)), rfl,
      hb2.grown (grownBy_putObj' _ D _) hb2.size (fun k e => by cases e; exact Nat.le_of_lt hne)⟩
end Go.Proofs.Ytipcdbfohgeipaa
