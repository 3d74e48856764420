/-
  Chain: what 'each' comes to (a contract, by hand).
-/
import Derived.Test.YtolkmjclldjkkaaF4
set_option linter.unusedSimpArgs false
set_option linter.unusedVariables false
namespace Go.Proofs.Ytolkmjclldjkkaa
open Go.RowKit

/-- one place after the other, until one says no -/
def eachGo {σ : Type} (step : σ → Nat → σ × Bool) : List Nat → σ → σ
  | [], x => x
  | p :: r, x => if (step x p).2 = true then eachGo step r (step x p).1 else (step x p).1
/-- the candidates of a place, the nearest first -/
def placesL (L : List Nat) (l : List Nat) (at_ depth : Int) : List Nat :=
  if at_ < 0 then [] else match threeAt L at_.toNat with
    | none => []
    | some k => ((cand L k l).takeWhile fun p : Nat => decide (at_ - (p : Int) ≤ 32768)).take depth.toNat
theorem bytes_lt (s : ByteArray) (i : Nat) : (byteL s).getD i 0 < 256 := by
  rcases Nat.lt_or_ge i (byteL s).length with hi | hi
  · rw [List.getD_eq_getElem?_getD, List.getElem?_eq_getElem hi]; exact byteL_lt s _ (List.getElem_mem hi)
  · rw [List.getD_eq_getElem?_getD, List.getElem?_eq_none hi]; decide
/-- the key of a place, and whether there is one -/
theorem key_of (s : ByteArray) (l : List Nat) (at_ depth : Int) (A : Nat) (w : World) (hs : s.size ≤ 140737488351232) (hA : w.cell? ⟨A, 0, none⟩ = some (.string s)) : ∃ (k : Nat × Nat × Nat) (b : Bool),
    (Calls Try.prog 26 #[.pointer (some ⟨A, 0, none⟩), .int .i64 at_] w fun e w' => Below w.heap.size w w' ∧ e = .returned (.tuple #[kV k, .bool b])) ∧
    (k.1 < 256 ∧ k.2.1 < 256 ∧ k.2.2 < 256) ∧ placesL (byteL s) l at_ depth = if b = true then ((cand (byteL s) k l).takeWhile fun p : Nat => decide (at_ - (p : Int) ≤ 32768)).take depth.toNat else [] := by
  have h3 := three_any at_ A s w hs hA
  by_cases h : 0 ≤ at_
  · rw [if_pos h] at h3
    unfold placesL
    rw [if_neg (by omega)]
    cases ht : threeAt (byteL s) at_.toNat with
    | none =>
      rw [ht] at h3
      exact ⟨(0, 0, 0), false, h3, ⟨by decide, by decide, by decide⟩, rfl⟩
    | some k =>
      rw [ht] at h3
      refine ⟨k, true, h3, ?_, rfl⟩
      unfold threeAt at ht
      split at ht
      · cases ht
        exact ⟨bytes_lt s _, bytes_lt s _, bytes_lt s _⟩
      · cases ht
  · rw [if_neg h] at h3
    unfold placesL
    rw [if_pos (by omega)]
    exact ⟨(0, 0, 0), false, h3, ⟨by decide, by decide, by decide⟩, rfl⟩
theorem head_oI (q : Nat) (r : List Nat) : (oI (q :: r).head?).getD 0 = (q : Int) := rfl
theorem some_oI (q : Nat) (r : List Nat) : (oI (q :: r).head?).isSome = true := rfl
theorem none_oI : (oI ([] : List Nat).head?).isSome = false := rfl
theorem is_oI (r : List Nat) : r.head?.isSome = (oI r.head?).isSome := by cases r <;> rfl
set_option maxHeartbeats 4000000 in
theorem each_any {σ : Type} (g : Nat) (bound : Array Value) (eg : ∀ args w, (callFunc g args).run Try.prog w = .ok (.enter g args) w) (step : σ → Nat → σ × Bool) (J : Nat → σ → World → Prop) (n₀ A : Nat) (s : ByteArray) (l : List Nat) (at_ depth : Int)
    (hJ : ∀ c x W W', J c x W → Below W.heap.size W W' → J c x W') (hF : ∀ c x W, J c x W → Fnd W n₀ A s l) (hat : ∀ p ∈ l, (p : Int) < at_) (hat2 : at_ ≤ 9223372036854775807)
    (hstep : ∀ c x W (p : Nat), J c x W → p ∈ l → c < l.length → Calls Try.prog g (#[.int .i64 (p : Nat)] ++ bound) W fun e W' => e = .returned (.bool (step x p).2) ∧ J (c + 1) (step x p).1 W')
    (w : World) (x0 : σ) (h0 : J 0 x0 w) (hd2 : depth ≤ 9223372036854775807) :
    Calls Try.prog 27 #[.pointer (some ⟨A, 0, none⟩), .int .i64 at_, .int .i64 depth, .func (.func g) #[] bound] w fun e w' => (∃ v, e = .returned v) ∧ ∃ c, J c (eachGo step (placesL (byteL s) l at_ depth) x0) w' := by
  have HJ := Lib.hid hJ
  have HF := Lib.hid hF
  have HAT := Lib.hid (And.intro hat hat2)
  have HST := Lib.hid hstep
  have H0 := Lib.hid h0
  have HD2 := Lib.hid hd2
  clear hJ hF hat hat2 hstep h0 hd2
  go_enter Try.func27, Try.ntmps27
  by_cases hd : depth < 1
  · have dd : decide (depth < 1) = true := by rw [decide_eq_true_eq]; exact hd
    have HE := Lib.hid (show eachGo step (placesL (byteL s) l at_ depth) x0 = x0 by
      have : depth.toNat = 0 := by omega
      unfold placesL
      rw [this]
      split
      · rfl
      · split
        · rfl
        · rw [List.take_zero]; rfl)
    clear hd
    go_wp2_with fail
    refine bodyPost_ret (results_none rfl _ _ _) rfl ⟨⟨_, rfl⟩, 0, by rw [HE.out]; exact H0.out⟩
  · have dd : decide (depth < 1) = false := by rw [decide_eq_false_iff_not]; exact hd
    have HDP := Lib.hid (show 1 ≤ depth by omega)
    clear hd
    have hf := HF.out _ _ _ H0.out
    obtain ⟨M1, M2, F, G, hA, hne, hl1, hl2, h1, h2, hb, hg⟩ := hf.ex
    have HSZ := Lib.hid hf.size
    have HA := Lib.hid hA
    have H1 := Lib.hid h1
    have HB := Lib.hid hb
    clear hA hne hl1 hl2 h1 h2 hb hg hf
    go_wp2_with fail
    obtain ⟨k, b, hcall, hk2, hpl⟩ := key_of s l at_ depth A w HSZ.out (cell_blk HA.out 0)
    refine hcall.mono ?_
    rintro e W2 ⟨hb2, rfl⟩
    have HA2 := Lib.hid ((hb2.block A (Array.getElem?_eq_some_iff.1 HA.out).1).trans HA.out)
    have H12 := Lib.hid (H1.out.same (hb2.block M1 H1.out.lt))
    have HJ2 := Lib.hid (HJ.out _ _ _ _ H0.out hb2)
    clear hb2
    have HPL := Lib.hid hpl
    obtain ⟨B5, hB5⟩ : ∃ B5, W2.heap.size = B5 := ⟨_, rfl⟩
    obtain ⟨W3, hW3⟩ : ∃ W3, W2.alloc (.cells #[.int .u8 (k.1 : Nat), .int .u8 (k.2.1 : Nat), .int .u8 (k.2.2 : Nat)] 65) = W3 := ⟨_, rfl⟩
    have hbA : Below W2.heap.size W2 W3 := by rw [← hW3]; exact (Below.refl _ W2).alloc (Nat.le_refl _) _
    have h5 : W3.heap[B5]? = some (.cells #[.int .u8 (k.1 : Nat), .int .u8 (k.2.1 : Nat), .int .u8 (k.2.2 : Nat)] 65 (0, 0)) := by rw [← hW3, ← hB5]; exact heap_alloc_last W2 _
    have hA3 := (hbA.block A (Array.getElem?_eq_some_iff.1 HA2.out).1).trans HA2.out
    have HJ3 := Lib.hid (HJ.out _ _ _ _ HJ2.out (hbA.trans ((Below.refl _ W3).drew.mono hbA.size)))
    have H13 := Lib.hid (H12.out.same (hbA.block M1 H12.out.lt))
    obtain ⟨kl, hkl⟩ := key65 hk2.1 hk2.2.1 hk2.2.2
    have hlk : ∀ W', MapI W' 65 M1 l.length F → (Instr.lookup 61 (.map (some M1)) (.agg #[.int .u8 (k.1 : Nat), .int .u8 (k.2.1 : Nat), .int .u8 (k.2.2 : Nat)]) true).run Try.prog W' = .ok (.tuple #[.int .i64 ((F (kV k)).getD 0), .bool (F (kV k)).isSome]) W' :=
      fun W' h => h.look law65 Try.underlying61 hkl
    rw [HB.out k] at hlk
    have HLKH := Lib.hid hlk
    have hHeld0 : W3.drew.cell? ⟨A, 1, none⟩ = some (.map (some M1)) ∧ W3.drew.cell? ⟨B5, 0, none⟩ = some (.int .u8 (k.1 : Nat)) ∧ W3.drew.cell? ⟨B5, 1, none⟩ = some (.int .u8 (k.2.1 : Nat)) ∧ W3.drew.cell? ⟨B5, 2, none⟩ = some (.int .u8 (k.2.2 : Nat)) ∧ MapI W3.drew 65 M1 l.length F :=
      ⟨cell_blk hA3 1, cell_blk h5 0, cell_blk h5 1, cell_blk h5 2, H13.out.same rfl⟩
    have HH := Lib.hid hHeld0
    have qB := hB5
    clear hbA h5 hA3 hkl hlk hHeld0 hk2 hpl
    simp only [kV]
    go_wp2_with fail
    have hHeld := HH.out
    refine wp_region_T (fun w' => w'.cell? ⟨A, 1, none⟩ = some (.map (some M1)) ∧ w'.cell? ⟨B5, 0, none⟩ = some (.int .u8 (k.1 : Nat)) ∧ w'.cell? ⟨B5, 1, none⟩ = some (.int .u8 (k.2.1 : Nat)) ∧ w'.cell? ⟨B5, 2, none⟩ = some (.int .u8 (k.2.2 : Nat)) ∧ MapI w' 65 M1 l.length F) [.take 0, .take 1, .take 2, .take 3, .take 4, .take 5, .take 6, .take 7, .take 8, .take 9, .take 10] (by kernel_rfl) (by kernel_rfl) (fun _ _ _ _ _ h => h) hHeld ?_
    refine T_light (a' := ?_) 25 rfl rfl rfl (of_decide_eq_true rfl) rfl hHeld (fun wq hSq K Q hK => ?_) ?_
    rotate_left
    · (go_step; exact hK)
    refine T_light (a' := ?_) 26 rfl rfl rfl (of_decide_eq_true rfl) rfl hHeld (fun wq hSq K Q hK => ?_) ?_
    rotate_left
    · (go_step; exact hK)
    refine T_light (a' := ?_) 27 rfl rfl rfl (of_decide_eq_true rfl) rfl hHeld (fun wq hSq K Q hK => ?_) ?_
    rotate_left
    · (go_step; exact hK)
    refine T_light (a' := ?_) 28 rfl rfl rfl (of_decide_eq_true rfl) rfl hHeld (fun wq hSq K Q hK => ?_) ?_
    rotate_left
    · ((have r1 := hSq.1; go_step); exact hK)
    refine T_light (a' := ?_) 29 rfl rfl rfl (of_decide_eq_true rfl) rfl hHeld (fun wq hSq K Q hK => ?_) ?_
    rotate_left
    · ((obtain ⟨_, r2, r3, r4, _⟩ := hSq; go_step); exact hK)
    refine T_light (a' := ?_) 30 rfl rfl rfl (of_decide_eq_true rfl) rfl hHeld (fun wq hSq K Q hK => ?_) ?_
    rotate_left
    · ((have r5 := HLKH.out wq hSq.2.2.2.2; go_step); exact hK)
    refine T_light (a' := ?_) 24 rfl rfl rfl (of_decide_eq_true rfl) rfl hHeld (fun wq hSq K Q hK => ?_) ?_
    rotate_left
    · (go_step; exact hK)
    refine T_light (a' := ?_) 31 rfl rfl rfl (of_decide_eq_true rfl) rfl hHeld (fun wq hSq K Q hK => ?_) ?_
    rotate_left
    · (go_step; exact hK)
    refine T_light (a' := ?_) 32 rfl rfl rfl (of_decide_eq_true rfl) rfl hHeld (fun wq hSq K Q hK => ?_) ?_
    rotate_left
    · (go_step; exact hK)
    refine T_light (a' := ?_) 10 rfl rfl rfl (of_decide_eq_true rfl) rfl hHeld (fun wq hSq K Q hK => ?_) ?_
    rotate_left
    · (go_step; exact hK)
    refine T_light (a' := ?_) 11 rfl rfl rfl (of_decide_eq_true rfl) rfl hHeld (fun wq hSq K Q hK => ?_) ?_
    rotate_left
    · (go_step; exact hK)
    refine T_done ?_
    go_wp2_with fail
    go_loopg [2, 10, 11] l.length (fun f s2 s10 s11 wx => ∃ (r : List Nat) (d c : Nat) (x : σ), s2 = .int .i64 (d : Int) ∧ s10 = .int .i64 ((oI r.head?).getD 0) ∧ s11 = .bool (oI r.head?).isSome ∧ Hid (r.length ≤ f) ∧ Hid (∃ pre, cand (byteL s) k l = pre ++ r) ∧ Hid (c + r.length ≤ l.length ∧ J c x wx) ∧ Hid ((d : Int) ≤ depth) ∧
      Hid (b = true → eachGo step ((r.takeWhile fun p : Nat => decide (at_ - (p : Int) ≤ 32768)).take d) x = eachGo step (placesL (byteL s) l at_ depth) x0) ∧ Hid (b = false → x = x0))
    case atStart =>
      obtain ⟨d, hd⟩ : ∃ d : Nat, depth = (d : Int) := ⟨depth.toNat, by have := HDP.out; omega⟩
      exact ⟨cand (byteL s) k l, d, 0, x0, by rw [hd], rfl, rfl, Lib.hid (List.length_filter_le _ _), Lib.hid ⟨[], rfl⟩, Lib.hid ⟨by rw [Nat.zero_add]; exact List.length_filter_le _ _, HJ3.out⟩, Lib.hid (by omega), Lib.hid (fun hb => by rw [HPL.out, if_pos hb, hd, Int.toNat_natCast]), Lib.hid (fun _ => rfl)⟩
    case round =>
      obtain ⟨r, d, c, x, rfl, rfl, rfl, HR, HPRE, HJX, HD, HGO, HNO⟩ := hrel
      clear hHeld HH HLKH HJ3 H13 HJ2 HA2 H12 HA hB5 hW3 qB hcall dd
      cases b with
      | false =>
        have HE := Lib.hid (show eachGo step (placesL (byteL s) l at_ depth) x0 = x by
          rw [HPL.out, if_neg (by decide), HNO.out rfl]; rfl)
        go_wp2_with fail
        go_end0
        exact ⟨⟨_, rfl⟩, c, by rw [HE.out]; exact HJX.out.2⟩
      | true =>
        have HGO2 := Lib.hid (HGO.out rfl)
        clear HGO HNO
        cases r with
        | nil =>
          have HE := Lib.hid (show eachGo step (placesL (byteL s) l at_ depth) x0 = x by rw [← HGO2.out]; simp [eachGo])
          simp only [none_oI]
          go_wp2_with fail
          go_end0
          exact ⟨⟨_, rfl⟩, c, by rw [HE.out]; exact HJX.out.2⟩
        | cons q r =>
          simp only [head_oI, some_oI]
          cases d with
          | zero =>
            have HE := Lib.hid (show eachGo step (placesL (byteL s) l at_ depth) x0 = x by rw [← HGO2.out]; simp [eachGo])
            go_wp2_with fail
            go_end0
            exact ⟨⟨_, rfl⟩, c, by rw [HE.out]; exact HJX.out.2⟩
          | succ d =>
            have hql : q ∈ l := by
              obtain ⟨pre, hpre⟩ := HPRE.out
              exact (List.mem_filter.1 (show q ∈ cand (byteL s) k l by rw [hpre]; simp)).1
            have hqa := HAT.out.1 q hql
            have e1 : wrap64 (at_ - (q : Int)) = at_ - (q : Int) := by have := HAT.out.2; unfold wrap64; omega
            have e2 : wrap64 (((d + 1 : Nat) : Int) - 1) = (d : Int) := by have := HD2.out; have := HD.out; unfold wrap64; omega
            have d1 : decide (at_ ≤ (q : Int)) = false := by rw [decide_eq_false_iff_not]; omega
            have d0 : decide ((0 : Int) < ((d + 1 : Nat) : Int)) = true := by rw [decide_eq_true_eq]; omega
            have HQ := Lib.hid hql
            clear hql hqa
            by_cases hn : at_ - (q : Int) ≤ 32768
            · have dn : decide (at_ - (q : Int) ≤ 32768) = true := by rw [decide_eq_true_eq]; exact hn
              have HE := Lib.hid (show (if (step x q).2 = true then eachGo step ((r.takeWhile fun p : Nat => decide (at_ - (p : Int) ≤ 32768)).take d) (step x q).1 else (step x q).1) = eachGo step (placesL (byteL s) l at_ depth) x0 by
                rw [← HGO2.out, List.takeWhile_cons, dn, if_pos rfl, List.take_succ_cons]; rfl)
              have e3 : wrap64 (d : Int) = (d : Int) := by have := HD2.out; have := HD.out; unfold wrap64; omega
              have HD' := Lib.hid (show (d : Int) ≤ depth by have := HD.out; omega)
              clear hn HGO2
              go_wp2_with fail
              refine (HST.out c x wr q HJX.out.2 HQ.out (by have := HJX.out.1; simp only [List.length_cons] at this; omega)).mono ?_
              rintro e W4 ⟨rfl, hJ4⟩
              have HJ4 := Lib.hid hJ4
              clear hJ4
              obtain ⟨x', b', hx⟩ : ∃ x' b', step x q = (x', b') := ⟨_, _, rfl⟩
              rw [hx] at HE HJ4
              simp only [hx]
              cases b' with
              | false =>
                have HE2 := Lib.hid (show x' = eachGo step (placesL (byteL s) l at_ depth) x0 from HE.out)
                go_wp2_with fail
                refine bodyPost_ret (results_none rfl _ _ _) rfl ⟨⟨_, rfl⟩, c + 1, by rw [← HE2.out]; exact HJ4.out⟩
              | true =>
                have HE2 := Lib.hid (show eachGo step ((r.takeWhile fun p : Nat => decide (at_ - (p : Int) ≤ 32768)).take d) x' = eachGo step (placesL (byteL s) l at_ depth) x0 from HE.out)
                clear HE
                go_wp2_with fail
                obtain ⟨pre, hpre⟩ := HPRE.out
                have HPR := Lib.hid hpre
                clear hpre
                refine (before_any n₀ A s l W4 q k pre r (HF.out _ _ _ HJ4.out) HPR.out).mono ?_
                rintro e W5 ⟨rfl, rfl⟩
                rw [is_oI]
                go_wp2_with fail
                cases gk with
                | zero => exact absurd HR.out (by simp)
                | succ f =>
                  go_roundg f
                  case measure => exact Nat.lt_succ_self f
                  case rel => exact ⟨r, d, c + 1, x', rfl, rfl, rfl, Lib.hid (Nat.le_of_succ_le_succ HR.out), Lib.hid ⟨pre ++ [q], by rw [HPR.out]; simp⟩, Lib.hid ⟨by have := HJX.out.1; simp only [List.length_cons] at this; omega, HJ4.out⟩, HD', Lib.hid (fun _ => HE2.out), Lib.hid (fun h => by cases h)⟩
            · have dn : decide (at_ - (q : Int) ≤ 32768) = false := by rw [decide_eq_false_iff_not]; exact hn
              have HE := Lib.hid (show eachGo step (placesL (byteL s) l at_ depth) x0 = x by
                rw [← HGO2.out, List.takeWhile_cons, dn, if_neg (by decide), List.take_nil]; rfl)
              clear hn HGO2
              go_wp2_with fail
              go_end0
              exact ⟨⟨_, rfl⟩, c, by rw [HE.out]; exact HJX.out.2⟩
theorem each_nil (g : Nat) (bound : Array Value) (at_ depth : Int) (w : World) :
    Calls Try.prog 27 #[.pointer none, .int .i64 at_, .int .i64 depth, .func (.func g) #[] bound] w fun e w' => (∃ v, e = .returned v) ∧ w' = w := by
  go_enter Try.func27, Try.ntmps27
  go_wp2_with fail
  refine bodyPost_ret (results_none rfl _ _ _) rfl ⟨⟨_, rfl⟩, rfl⟩
end Go.Proofs.Ytolkmjclldjkkaa
