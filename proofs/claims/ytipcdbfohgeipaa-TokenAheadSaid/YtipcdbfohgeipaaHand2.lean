/-
  Token: what 'sizes' and its function come to (contracts, by hand).
-/
import Derived.Test.YtipcdbfohgeipaaHand
import Derived.Test.YtipcdbfohgeipaaG
set_option linter.unusedSimpArgs false
set_option linter.unusedVariables false
namespace Go.Proofs.Ytipcdbfohgeipaa
open Go.RowKit
attribute [local go_sem] Oper.semAt_some

/-- a token -/
structure Tk where
  a : Int
  n : Int
  d : Int
/-- tokens that lie in memory -/
def ToksAt (w : World) (A : Option Addr) (l : List Tk) : Prop :=
  l = [] ∨ ∃ ad, A = some ad ∧ ∀ (i : Nat) (t : Tk), l[i]? = some t → w.cell? (ad.add (i * 3)) = some (.int .u8 t.a) ∧ w.cell? ⟨(ad.add (i * 3)).block, (ad.add (i * 3)).off + 1, none⟩ = some (.int .i64 t.n) ∧ w.cell? ⟨(ad.add (i * 3)).block, (ad.add (i * 3)).off + 2, none⟩ = some (.int .i64 t.d)
/-- how many bytes a token is -/
def sizeI (t : Tk) : Int := if mayI t.a t.n t.d = true then (if t.n < 1 then 1 else t.n) else 0

/-- what a round keeps: what lay below n, and all cells but whole numbers' -/
structure Keep (n : Nat) (W W' : World) : Prop where
  below : Below n W W'
  cells : ∀ (k : Nat) (cs : Array Value) (t : TypeId) (z : Nat × Nat), W.heap[k]? = some (.cells cs t z) → t ≠ 3 → W'.heap[k]? = some (.cells cs t z)
theorem Keep.refl (n : Nat) (W : World) : Keep n W W := ⟨Below.refl _ _, fun _ _ _ _ h _ => h⟩
theorem Keep.trans {n : Nat} {A B C : World} (h : Keep n A B) (k : Keep n B C) : Keep n A C := ⟨h.below.trans k.below, fun i cs t z hi h1 => k.cells i cs t z (h.cells i cs t z hi h1) h1⟩
theorem Keep.of_below {n : Nat} {A B : World} (h : Below A.heap.size A B) (hn : n ≤ A.heap.size) : Keep n A B :=
  ⟨h.mono hn, fun k cs t z hk _ => (h.block k (Array.getElem?_eq_some_iff.1 hk).1).trans hk⟩
theorem sizes_calls (A : Option Addr) (n c : Nat) (w : World) :
    Calls Try.prog 11 #[.slice A n c] w fun e w' => e = .returned (.func (.func 12) #[] #[.pointer (some ⟨w.heap.size, 0, none⟩)]) ∧ w' = w.alloc (.cells #[.slice A n c] 25) := by
  go_enter Try.func11, Try.ntmps11
  go_wp2
  go_ret
  exact ⟨rfl, rfl⟩

abbrev Rounds (l N n₀ : Nat) (J : List Int → World → Prop) : Prop :=
  ∀ pre x W, J pre W → pre.length < N → YieldAt Fence.wide 0 Try.prog l #[.int .i64 x] W fun e W' => e = .returned (.bool true) ∧ J (pre ++ [x]) W' ∧ Keep n₀ W W'
theorem cell_box {w : World} {B : Nat} {u : Value} {t : TypeId} (h : w.heap[B]? = some (.cells #[u] t (0, 0))) : w.cell? ⟨B, 0, none⟩ = some u := by
  unfold World.cell?; rw [h]; rfl
theorem meas_up {N k : Nat} {x : Int} (h : k < N) (e : x = ((k + 1 : Nat) : Int)) : N - (intOf (.int .i64 x)).toNat < N - (intOf (.int .i64 (k : Int))).toNat := by
  subst e; simp only [intOf]; omega
theorem toks_keep {w w' : World} {A : Option Addr} {l : List Tk} {n₀ : Nat} (h : ToksAt w A l) (hb : Below n₀ w w') (hl : ∀ ad, A = some ad → l ≠ [] → ad.block < n₀) : ToksAt w' A l := by
  rcases h with h | ⟨ad, rfl, hc⟩
  · exact .inl h
  · by_cases h0 : l = []
    · exact .inl h0
    · have hb' : ∀ j : Nat, (ad.add j).block < n₀ := fun j => by
        have : (ad.add j).block = ad.block := by unfold Addr.add; split <;> rfl
        rw [this]; exact hl ad rfl h0
      refine .inr ⟨ad, rfl, fun i t hi => ?_⟩
      obtain ⟨h1, h2, h3⟩ := hc i t hi
      exact ⟨(hb.cell (hb' _)).trans h1, (hb.cell (p := ⟨(ad.add (i * 3)).block, _, none⟩) (hb' _)).trans h2, (hb.cell (p := ⟨(ad.add (i * 3)).block, _, none⟩) (hb' _)).trans h3⟩

set_option maxHeartbeats 2000000 in
theorem sizes1_any (l B n₀ N : Nat) (ts : List Tk) (J : List Int → World → Prop) (hJ : ∀ s A B, J s A → Below A.heap.size A B → J s B) (hY : Rounds l ts.length n₀ J) (hl : ts.length ≤ 1000000)
    (W : World) (A : Option Addr) (c : Nat) (hn₀ : n₀ ≤ W.heap.size) (hB : W.heap[B]? = some (.cells #[.slice A ts.length c] 25 (0, 0))) (hT : ToksAt W A ts) (hA : ∀ ad, A = some ad → ts ≠ [] → ad.block < n₀) (h0 : J [] W) :
    Calls Try.prog 12 #[.func (.yield l) #[] #[], .pointer (some ⟨B, 0, none⟩)] W fun e W' => (∃ v, e = .returned v) ∧ J (ts.map sizeI) W' := by
  have q0 := cell_box hB
  have HJ := Lib.hid hJ
  have HY := Lib.hid hY
  have HL := Lib.hid hl
  have HB := Lib.hid (And.intro hn₀ (And.intro hT hA))
  have H0 := Lib.hid h0
  clear hJ hY hl hn₀ hB hT hA h0
  go_enter Try.func12, Try.ntmps12
  refine (wpIn_wide (n := 0)).1 ?_
  gi_wp2
  gi_loopw [8] (fun s8 wr => ∃ k : Nat, s8 = .int .i64 (k : Int) ∧ Hid (k ≤ ts.length) ∧ Hid (J ((ts.take k).map sizeI) wr) ∧ Hid (Keep n₀ W wr)) (fun s8 wr => ts.length - (intOf s8).toNat)
  case atStart => exact ⟨0, rfl, Lib.hid (Nat.zero_le _), Lib.hid (by simpa using H0.out), Lib.hid (Keep.refl _ _)⟩
  case round =>
    clear q0
    obtain ⟨k, rfl, HK, HJk, HP⟩ := hrel
    by_cases hk : k < ts.length
    · have dk : decide (k < ts.length) = true := by rw [decide_eq_true_eq]; exact hk
      have dk2 : decide ((k : Int) < (ts.length : Int)) = true := by rw [decide_eq_true_eq]; omega
      obtain ⟨t, ht⟩ : ∃ t, ts[k]? = some t := ⟨_, List.getElem?_eq_getElem hk⟩
      have hTk := toks_keep HB.out.2.1 HP.out.below HB.out.2.2
      rcases hTk with h | ⟨ad, rfl, hc⟩
      · exact absurd hk (by rw [h]; simp)
      obtain ⟨c0, c1, c2⟩ := hc k t ht
      have HT := Lib.hid ht
      have HK2 := Lib.hid hk
      have EK := Lib.hid (show wrap64 ((k : Int) + 1) = ((k + 1 : Nat) : Int) by have := HL.out; unfold wrap64; omega)
      clear hc ht
      gi_wp2
      refine ⟨trivial, rfl, (callsIn_wide.2 (may_any _ _ _ _)).mono ?_⟩
      rintro e W2 ⟨rfl, hb⟩
      obtain ⟨x0, x1, x2⟩ := new3 wr (.int .u8 t.a) (.int .i64 t.n) (.int .i64 t.d) 24
      have n1 := (hb.cell (World.block_lt_of_cell? _ _ x1)).trans x1
      have hn1 : n₀ ≤ wr.heap.size := Nat.le_trans HB.out.1 HP.out.below.size
      have hb1 : Below wr.heap.size wr W2 := ((Below.refl _ wr).alloc (Nat.le_refl _) _).trans (hb.mono (by simp))
      have HP2 := Lib.hid (HP.out.trans (Keep.of_below hb1 hn1))
      have HJ2 := Lib.hid (HJ.out _ _ _ HJk.out hb1)
      have hlen : ((ts.take k).map sizeI).length < ts.length := by rw [List.length_map, List.length_take]; omega
      obtain ⟨fn, tmps, assign, body, hy, hR⟩ := HY.out _ (sizeI t) W2 HJ2.out hlen
      have HS := Lib.hid (show (ts.take (k + 1)).map sizeI = (ts.take k).map sizeI ++ [sizeI t] by
        obtain ⟨hh, he⟩ := List.getElem?_eq_some_iff.1 HT.out
        rw [List.take_succ_eq_append_getElem hh, List.map_append, he]; rfl)
      clear x0 x1 x2 hb hb1 hn1 hlen c0 c1 c2
      unfold sizeI at hy
      cases hm : mayI t.a t.n t.d with
      | true =>
        rw [hm, if_pos rfl] at hy
        by_cases h1 : t.n < 1
        · rw [if_pos h1] at hy
          have HSI := Lib.hid (show sizeI t = 1 by unfold sizeI; rw [hm, if_pos rfl, if_pos h1])
          have hR : RoundIn Fence.wide 0 Try.prog l fn tmps assign body W2 fun e W' => e = .returned (.bool true) ∧ J ((ts.take k).map sizeI ++ [1]) W' ∧ Keep n₀ W2 W' := HSI.out ▸ hR
          clear hm
          gi_wp2
          refine ⟨rfl, hR.mono ?_⟩
          rintro e' W' ⟨rfl, hJ', hK'⟩
          have HJ' := Lib.hid hJ'
          have HK' := Lib.hid (HP2.out.trans hK')
          clear hJ' hK' hy hR
          gi_wp2
          go_roundw
          case rel => exact ⟨k + 1, by rw [EK.out], Lib.hid HK2.out, Lib.hid (by rw [HS.out, HSI.out]; exact HJ'.out), Lib.hid HK'.out⟩
          case measure => exact meas_up HK2.out EK.out
        · rw [if_neg h1] at hy
          have HSI := Lib.hid (show sizeI t = t.n by unfold sizeI; rw [hm, if_pos rfl, if_neg h1])
          have hR : RoundIn Fence.wide 0 Try.prog l fn tmps assign body W2 fun e W' => e = .returned (.bool true) ∧ J ((ts.take k).map sizeI ++ [t.n]) W' ∧ Keep n₀ W2 W' := HSI.out ▸ hR
          have h2 : 1 ≤ t.n := by omega
          clear hm
          gi_wp2
          refine ⟨rfl, hR.mono ?_⟩
          rintro e' W' ⟨rfl, hJ', hK'⟩
          have HJ' := Lib.hid hJ'
          have HK' := Lib.hid (HP2.out.trans hK')
          clear hJ' hK' hy hR
          gi_wp2
          go_roundw
          case rel => exact ⟨k + 1, by rw [EK.out], Lib.hid HK2.out, Lib.hid (by rw [HS.out, HSI.out]; exact HJ'.out), Lib.hid HK'.out⟩
          case measure => exact meas_up HK2.out EK.out
      | false =>
        rw [hm, if_neg (by decide)] at hy
        have HSI := Lib.hid (show sizeI t = 0 by unfold sizeI; rw [hm, if_neg (by decide)])
        have hR : RoundIn Fence.wide 0 Try.prog l fn tmps assign body W2 fun e W' => e = .returned (.bool true) ∧ J ((ts.take k).map sizeI ++ [0]) W' ∧ Keep n₀ W2 W' := HSI.out ▸ hR
        clear hm
        gi_wp2
        refine ⟨rfl, hR.mono ?_⟩
        rintro e' W' ⟨rfl, hJ', hK'⟩
        have HJ' := Lib.hid hJ'
        have HK' := Lib.hid (HP2.out.trans hK')
        clear hJ' hK' hy hR
        gi_wp2
        go_roundw
        case rel => exact ⟨k + 1, by rw [EK.out], Lib.hid HK2.out, Lib.hid (by rw [HS.out, HSI.out]; exact HJ'.out), Lib.hid HK'.out⟩
        case measure => exact meas_up HK2.out EK.out
    · have dk : decide (k < ts.length) = false := by rw [decide_eq_false_iff_not]; exact hk
      have dk2 : decide ((k : Int) < (ts.length : Int)) = false := by rw [decide_eq_false_iff_not]; omega
      have HKE := Lib.hid (show ts.take k = ts from List.take_of_length_le (by omega))
      clear hk
      gi_wp2
      go_end0
      exact ⟨⟨_, rfl⟩, by have := HJk.out; rwa [HKE.out] at this⟩
end Go.Proofs.Ytipcdbfohgeipaa
