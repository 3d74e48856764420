/-
  Token: what 'Text' comes to (a contract, by hand).
-/
import Derived.Test.YtipcdbfohgeipaaHand5
set_option linter.unusedSimpArgs false
set_option linter.unusedVariables false
namespace Go.Proofs.Ytipcdbfohgeipaa
open Go.RowKit

/-- the tokens' text, behind k bytes -/
def textGo (k : Nat) : List Tk → List Nat → Int × List Nat
  | [], L => (0, L)
  | t :: r, L => if (stepT k L t).1 = 0 then textGo k r (stepT k L t).2 else stepT k L t
theorem stepT_zero {k : Nat} {L : List Nat} {t : Tk} (hk : k ≤ L.length) (h : (stepT k L t).1 = 0) : k ≤ (stepT k L t).2.length ∧ (stepT k L t).2.length ≤ k + 1048576 := by
  unfold stepT at h ⊢
  by_cases h1 : mayI t.a t.n t.d = false
  · rw [if_pos h1] at h; cases h
  · rw [if_neg h1] at h ⊢
    by_cases h2 : t.d > (L.length : Int)
    · rw [if_pos h2] at h; cases h
    · rw [if_neg h2] at h ⊢
      by_cases h3 : (L.length : Int) - k + max t.n 1 > 1048576
      · rw [if_pos h3] at h; cases h
      · rw [if_neg h3]
        by_cases h4 : t.n = 0
        · rw [if_pos h4]; simp only [List.length_append, List.length_singleton]; omega
        · rw [if_neg h4, copyT_length]; omega
theorem cut34 (g n c m : Nat) (hm : m ≤ n) (hc : n ≤ c) :
    ∃ o : Nat, (∀ W : World, (Instr.slice 34 (.slice (some ⟨g, 0, none⟩) n c) (some (.int .i64 (m : Int))) none none).run Try.prog W = .ok (.slice (some ⟨g, o, none⟩) (n - m) (c - m)) W) ∧ (n = m ∨ o = m) := by
  have hi : (Try.prog.info? 5).map (·.size) = some 1 := by kernel_rfl
  obtain ⟨i5, h5, h5s⟩ := Option.map_eq_some_iff.1 hi
  refine ⟨if c = m then 0 else m, fun W => ?_, ?_⟩
  · have hel : Try.prog.elem 34 = 5 := by kernel_rfl
    have hu : Try.prog.underlying 34 = some (.slice (Try.prog.elem 34)) := by rw [hel]; exact Try.underlying34
    rw [run_slice_l W 34 (some ⟨g, 0, none⟩) n c hu .i64 (m : Int) (Int.natCast_nonneg _) (by omega), hel]
    by_cases e : c = m
    · simp [sizeOf, typeInfo, h5, h5s, sliced, Result.andThen, e]
    · simp [sizeOf, typeInfo, h5, h5s, sliced, Result.andThen, e, Addr.add_lit]
  · by_cases e : c = m
    · left; omega
    · right; rw [if_neg e]
/-- the tokens' text, and what is told of it -/
def textB (dict : ByteArray) (ts : List Tk) : ByteArray × Int :=
  (if (textGo dict.size ts (byteL dict)).1 = 0 then textOf ((textGo dict.size ts (byteL dict)).2.drop dict.size) else ByteArray.empty, (textGo dict.size ts (byteL dict)).1)
set_option maxHeartbeats 2000000 in
theorem text_any (dict : ByteArray) (ts : List Tk) (A : Option Addr) (c : Nat) (w : World) (hd : dict.size ≤ 1048576) (hl : ts.length ≤ 1000000) (ha : ∀ t ∈ ts, 0 ≤ t.a ∧ t.a < 256) (hT : ToksAt w A ts) :
    Calls Try.prog 5 #[.string dict, .slice A ts.length c] w fun e w' => e = .returned (.tuple #[.string (textB dict ts).1, .int .i64 (textB dict ts).2]) ∧ Below w.heap.size w w' := by
  have HD := Lib.hid hd
  have HL := Lib.hid hl
  have HA := Lib.hid ha
  have HT := Lib.hid hT
  have hlow : ∀ ad, A = some ad → ts ≠ [] → ad.block < w.heap.size := fun ad hA hn => by
    rcases hT with h | ⟨ad', hA', hcs⟩
    · exact absurd h hn
    · rw [hA] at hA'; cases hA'
      cases ts with
      | nil => exact absurd rfl hn
      | cons t ts =>
        have h1 := (hcs 0 t rfl).1
        have := World.block_lt_of_cell? w _ h1
        simpa [Addr.add] using this
  have HLOW := Lib.hid hlow
  clear hd hl ha hT hlow
  obtain ⟨S, E, hSE⟩ : ∃ S E, textB dict ts = (S, E) := ⟨_, _, rfl⟩
  rw [hSE]
  have HSE := Lib.hid hSE
  clear hSE
  go_enter Try.func5, Try.ntmps5
  obtain ⟨v0, w1, hcv, hb1, hr1⟩ := brow_of_string (P := Try.prog) (w.alloc (.cells #[.string dict] 9)) 9 34 5 dict Try.underlying9 Try.underlying34 Try.underlying5
  obtain ⟨g0, cap0, rfl, _, _⟩ := hr1.form
  obtain ⟨W0, hW0⟩ : ∃ W0, w1.alloc (.cells #[.slice (some ⟨g0, 0, none⟩) (numsV .u8 (byteL dict)).length cap0] 34) = W0 := ⟨_, rfl⟩
  have hbox := Boxed.new w1 34 (.slice (some ⟨g0, 0, none⟩) (numsV .u8 (byteL dict)).length cap0)
  have hbA : Below w.heap.size w (w.alloc (.cells #[.string dict] 9)) := (Below.refl _ w).alloc (Nat.le_refl _) _
  have hb01 : Below w.heap.size w w1 := hbA.trans (hb1.mono (by simp))
  have hbW : Below w.heap.size w W0 := by
    rw [← hW0]
    exact hb01.alloc hb01.size _
  have hTx : Txt W0 w.heap.size w1.heap.size w.heap.size dict (byteL dict) := by
    have hd1 : Boxed w1 w.heap.size 9 (.string dict) := (hb1.block _ (by simp)).trans (heap_alloc_last w _)
    refine ⟨⟨.slice (some ⟨g0, 0, none⟩) (numsV .u8 (byteL dict)).length cap0, ?_, ?_⟩, ?_, byteL_lt dict, hbW.size⟩
    · rw [← hW0]; exact hbox
    · rw [← hW0]
      refine BRow.below ?_ ((Below.refl _ w1).alloc (Nat.le_refl _) _)
      obtain ⟨g', cap', cur, fz, hv', hb', rest⟩ := hr1
      exact ⟨g', cap', cur, fz, hv', Nat.le_trans (by simp) hb', rest⟩
    · rw [← hW0]; exact hd1.alloc _
  have HTX := Lib.hid hTx
  have HBW := Lib.hid hbW
  have HBO := Lib.hid (show w.heap.size ≤ w1.heap.size from hb01.size)
  clear hb1 hr1 hbox hbA hb01 hbW hTx
  have q9 : (w.alloc (.cells #[.string dict] 9)).cell? ⟨w.heap.size, 0, none⟩ = some (.string dict) := cell_box (heap_alloc_last w _)
  go_wp2_with fail
  obtain ⟨BO, hBO⟩ : ∃ BO, w1.heap.size = BO := ⟨_, rfl⟩
  obtain ⟨BD, hBD⟩ : ∃ BD, w.heap.size = BD := ⟨_, rfl⟩
  rw [hBO] at HTX HBO ⊢
  rw [hBD] at HTX ⊢
  have HBD := Lib.hid hBD
  clear hBO hBD hW0 q9 hcv
  go_loopg [16] ts.length (fun f s16 wx => ∃ (j : Nat) (L : List Nat), s16 = .int .i64 (j : Int) ∧ Hid (j + f = ts.length) ∧ Hid (Txt wx w.heap.size BO BD dict L) ∧ Hid (Below w.heap.size w wx) ∧
    Hid (textGo dict.size ts (byteL dict) = textGo dict.size (ts.drop j) L ∧ dict.size ≤ L.length ∧ L.length ≤ dict.size + 1048576))
  case atStart => exact ⟨0, byteL dict, rfl, Lib.hid (Nat.zero_add _), Lib.hid (HBD.out ▸ HTX.out), Lib.hid HBW.out, Lib.hid ⟨rfl, by rw [byteL_length]; exact Nat.le_refl _, by rw [byteL_length]; omega⟩⟩
  case round =>
    obtain ⟨j, L, rfl, HJ, HTJ, HBJ, HGO⟩ := hrel
    cases gk with
    | zero =>
      obtain rfl : j = ts.length := HJ.out
      obtain ⟨v, hv, hr⟩ := HTJ.out.own
      obtain ⟨g, cap, rfl, hlc, hgb⟩ := hr.form
      rw [numsV_length] at hv hr hlc
      obtain ⟨o, hcut, ho⟩ := cut34 g L.length cap dict.size HGO.out.2.1 hlc
      have qo := hv.cell
      have qd := HTJ.out.dict.cell
      have hcv : (convert 34 9 (.slice (some ⟨g, o, none⟩) (L.length - dict.size) (cap - dict.size))).run Try.prog wr = .ok (.string (textOf (L.drop dict.size))) wr :=
        string_of_row 34 9 5 Try.underlying34 Try.underlying5 Try.underlying9 (cap - dict.size) (L.length - dict.size) (L.drop dict.size) (fun x hx => HTJ.out.lt x (List.mem_of_mem_drop hx)) (by simp) (fun i m hi => by
          have hi' := (List.getElem?_eq_some_iff.1 hi).1
          rw [List.length_drop] at hi'
          have : o = dict.size := ho.resolve_left (by omega)
          subst this
          rw [List.getElem?_drop] at hi
          exact hr.cell (numsV_get hi))
      have HE := Lib.hid (show textGo dict.size ts (byteL dict) = (0, L) by rw [HGO.out.1, List.drop_length]; rfl)
      clear hv hr hlc hgb ho
      have HR := Lib.hid (show textOf (L.drop dict.size) = S ∧ 0 = E by
        have := HSE.out
        unfold textB at this
        rw [HE.out] at this
        simpa using this)
      go_wp2_with fail
      go_ret2
      exact ⟨by rw [← HR.out.1, ← HR.out.2]; rfl, HBJ.out⟩
    | succ f =>
      have hj : j < ts.length := by have := HJ.out; omega
      have HJL := Lib.hid hj
      obtain ⟨t, ht⟩ : ∃ t, ts[j]? = some t := ⟨_, List.getElem?_eq_getElem hj⟩
      have HTO := Lib.hid ht
      have HDR := Lib.hid (show ts.drop j = t :: ts.drop (j + 1) by
        rw [List.drop_eq_getElem_cons hj]
        obtain ⟨hh, he⟩ := List.getElem?_eq_some_iff.1 ht
        rw [he])
      rcases toks_keep HT.out HBJ.out HLOW.out with h | ⟨ad, rfl, hc⟩
      · exact absurd hj (by rw [h]; simp)
      obtain ⟨c0, c1, c2⟩ := hc j t ht
      have dk : decide (j < ts.length) = true := by rw [decide_eq_true_eq]; exact hj
      have dk2 : decide ((j : Int) < (ts.length : Int)) = true := by rw [decide_eq_true_eq]; omega
      have EK := Lib.hid (show wrap64 ((j : Int) + 1) = ((j + 1 : Nat) : Int) by have := HL.out; unfold wrap64; omega)
      obtain ⟨x0, x1, x2⟩ := new3 wr (.int .u8 t.a) (.int .i64 t.n) (.int .i64 t.d) 24
      clear hc ht hj
      go_wp2_with fail
      have hbA : Below wr.heap.size wr (wr.alloc (.cells #[.int .u8 t.a, .int .i64 t.n, .int .i64 t.d] 24)) := (Below.refl _ wr).alloc (Nat.le_refl _) _
      refine (add_any t _ w.heap.size BO BD dict L (HTJ.out.grown hbA) HBO.out (HA.out t (List.mem_of_getElem? HTO.out)) ⟨HGO.out.2.1, HD.out, HGO.out.2.2⟩).mono ?_
      rintro e W2 ⟨rfl, hT2, hK2⟩
      have HT2 := Lib.hid hT2
      have HB2 := Lib.hid (HBJ.out.trans ((hbA.mono HBJ.out.size).trans hK2.below))
      have HST := Lib.hid (fun h => stepT_zero (t := t) HGO.out.2.1 h)
      have HGE := Lib.hid (show textGo dict.size ts (byteL dict) = if (stepT dict.size L t).1 = 0 then textGo dict.size (ts.drop (j + 1)) (stepT dict.size L t).2 else stepT dict.size L t by rw [HGO.out.1, HDR.out]; rfl)
      clear hbA hT2 hK2 x0 x1 x2 c0 c1 c2
      obtain ⟨cd, L2, hst⟩ : ∃ cd L2, stepT dict.size L t = (cd, L2) := ⟨_, _, rfl⟩
      rw [hst] at HST HGE HT2 ⊢
      clear hst
      by_cases hcd : cd = 0
      · subst hcd
        have HG2 := Lib.hid (And.intro (HGE.out.trans (if_pos rfl)) (HST.out rfl))
        clear HGE HST
        go_wp2_with fail
        go_roundg f
        case measure => exact Nat.lt_succ_self f
        case rel => exact ⟨j + 1, L2, by rw [EK.out], Lib.hid (by have := HJ.out; omega), Lib.hid HT2.out, Lib.hid HB2.out, HG2⟩
      · have HE := Lib.hid (show ByteArray.empty = S ∧ cd = E by
          have h1 := HGE.out
          rw [if_neg hcd] at h1
          have := HSE.out
          unfold textB at this
          rw [h1, if_neg hcd] at this
          simpa using this)
        go_wp2_with fail
        go_ret2
        exact ⟨by rw [← HE.out.1, ← HE.out.2]; rfl, HB2.out⟩
end Go.Proofs.Ytipcdbfohgeipaa
