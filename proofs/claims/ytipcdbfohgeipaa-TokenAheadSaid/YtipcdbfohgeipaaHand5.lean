/-
  Token: what Text's closure 'add' comes to (a contract, by hand): the walk.
-/
import Derived.Test.YtipcdbfohgeipaaHand4
set_option linter.unusedSimpArgs false
set_option linter.unusedVariables false
namespace Go.Proofs.Ytipcdbfohgeipaa
open Go.RowKit

theorem info5 : (Try.prog.info? 5).map (fun i => (i.zero, i.size, i.bytes)) = some (some (.int .u8 0), 1, 1) := by kernel_rfl
theorem may_match {a n d : Int} (h : mayI a n d = true) (hn : ¬ n = 0) : 3 ≤ n ∧ n ≤ 258 ∧ 1 ≤ d ∧ d ≤ 32768 ∧ a = 0 := by
  unfold mayI at h
  rw [if_neg hn] at h
  simpa [and_assoc] using h
theorem tok_cells {w : World} {B : Nat} {u v x : Value} {t : TypeId} (h : w.heap[B]? = some (.cells #[u, v, x] t (0, 0))) : w.cell? ⟨B, 0, none⟩ = some u ∧ w.cell? ⟨B, 1, none⟩ = some v ∧ w.cell? ⟨B, 2, none⟩ = some x := by
  refine ⟨?_, ?_, ?_⟩ <;> (unfold World.cell?; rw [h]; rfl)
theorem BRow.form1 {w : World} {base : Nat} {e : TypeId} {v u : Value} {xs : List Value} (h : BRow w base e v (xs ++ [u])) : ∃ g cap, v = .slice (some ⟨g, 0, none⟩) (xs.length + 1) cap := by
  obtain ⟨g, cap, rfl, _⟩ := h.form
  exact ⟨g, cap, by simp⟩
set_option maxHeartbeats 2000000 in
theorem add_any (t : Tk) (W : World) (n₀ BO BD : Nat) (dict : ByteArray) (L : List Nat) (hT : Txt W n₀ BO BD dict L) (hB : n₀ ≤ BO) (ha : 0 ≤ t.a ∧ t.a < 256) (hk : dict.size ≤ L.length ∧ dict.size ≤ 1048576 ∧ L.length ≤ dict.size + 1048576) :
    Calls Try.prog 9 #[.agg #[.int .u8 t.a, .int .i64 t.n, .int .i64 t.d], .pointer (some ⟨BO, 0, none⟩), .pointer (some ⟨BD, 0, none⟩)] W fun e W' => e = .returned (.int .i64 (stepT dict.size L t).1) ∧
      Txt W' n₀ BO BD dict (stepT dict.size L t).2 ∧ KeepB n₀ W W' := by
  obtain ⟨a, n, d⟩ := t
  have HT := Lib.hid hT
  have HB := Lib.hid hB
  have HA := Lib.hid ha
  have HK := Lib.hid hk
  clear hT hB ha hk
  go_enter Try.func9, Try.ntmps9
  obtain ⟨q0, q1, q2⟩ := new3 W (.int .u8 a) (.int .i64 n) (.int .i64 d) 24
  go_wp2_with fail
  refine (may_any a n d _).mono ?_
  rintro e W2 ⟨rfl, hb⟩
  obtain ⟨B3, hB3⟩ : ∃ B3, W.heap.size = B3 := ⟨_, rfl⟩
  have hbW : Below W.heap.size W W2 := ((Below.refl _ W).alloc (Nat.le_refl _) _).trans (hb.mono (by simp))
  have HK1 := Lib.hid (KeepB.of_below hbW HT.out.size)
  have HT2 := Lib.hid (HT.out.grown hbW)
  have h3 : W2.heap[B3]? = some (.cells #[.int .u8 a, .int .i64 n, .int .i64 d] 24 (0, 0)) := by
    rw [hb.block B3 (by rw [← hB3]; simp), ← hB3]; exact heap_alloc_last W _
  rw [hB3]
  have HB3 := Lib.hid hB3
  have H3 := Lib.hid h3
  clear q0 q1 q2 hb hbW hB3
  obtain ⟨q0, q1, q2⟩ := tok_cells h3
  clear h3
  obtain ⟨v, hv, hr⟩ := HT2.out.own
  obtain ⟨g, cap, rfl, hlc, hgb⟩ := hr.form
  rw [numsV_length] at hv hr hlc
  have qo := hv.cell
  have qd := HT2.out.dict.cell
  have HV := Lib.hid hv
  have HR := Lib.hid hr
  have HG := Lib.hid (And.intro hlc hgb)
  clear hv hr hlc hgb
  obtain ⟨i5, hi5, hz0, hz1, hz2⟩ := info_parts info5
  cases hm : mayI a n d with
  | false =>
    go_wp2_with fail
    go_ret
    exact ⟨by simp [stepT, hm], by simpa [stepT, hm] using HT2.out, HK1.out⟩
  | true =>
    by_cases hd : d > (L.length : Int)
    · have dd : decide ((L.length : Int) < d) = true := by rw [decide_eq_true_eq]; exact hd
      have HS := Lib.hid (show stepT dict.size L ⟨a, n, d⟩ = (7, L) by simp [stepT, hm, hd])
      clear hd
      go_wp2_with fail
      go_ret
      rw [HS.out]
      exact ⟨rfl, HT2.out, HK1.out⟩
    · have dd : decide ((L.length : Int) < d) = false := by rw [decide_eq_false_iff_not]; omega
      obtain ⟨M, hM⟩ : ∃ M, L.length = dict.size + M := ⟨L.length - dict.size, by have := HK.out; omega⟩
      have HM := Lib.hid hM
      have e1 : wrap64 ((L.length : Int) - (dict.size : Int)) = (M : Int) := by have := HK.out; unfold wrap64; omega
      by_cases hn : n = 0
      · subst hn
        have e2 : wrap64 ((M : Int) + 1) = (M : Int) + 1 := by have := HK.out; unfold wrap64; omega
        by_cases h5 : 1048576 < (M : Int) + 1
        · have d5 : decide (1048576 < (M : Int) + 1) = true := by rw [decide_eq_true_eq]; exact h5
          have HS := Lib.hid (show stepT dict.size L ⟨a, 0, d⟩ = (5, L) by
            have h6 : (L.length : Int) - dict.size + max 0 1 > 1048576 := by omega
            unfold stepT
            rw [if_neg (by simp [hm]), if_neg hd, if_pos h6])
          clear hd hM h5
          go_wp2_with fail
          go_ret
          rw [HS.out]
          exact ⟨rfl, HT2.out, HK1.out⟩
        · have d5 : decide (1048576 < (M : Int) + 1) = false := by rw [decide_eq_false_iff_not]; omega
          have HS := Lib.hid (show stepT dict.size L ⟨a, 0, d⟩ = (0, L ++ [a.toNat]) by
            have h6 : ¬ (L.length : Int) - dict.size + max 0 1 > 1048576 := by omega
            unfold stepT
            rw [if_neg (by simp [hm]), if_neg hd, if_neg h6, if_pos rfl])
          obtain ⟨A, rfl⟩ : ∃ A : Nat, a = (A : Int) := ⟨a.toNat, by have := HA.out; omega⟩
          have HLa := Lib.hid (show (numsV .u8 L).length + 1 ≤ 140737488355328 by rw [numsV_length]; have := HK.out; omega)
          have HA2 := Lib.hid (show A < 256 by have := HA.out; omega)
          have HBa := Lib.hid (show n₀ ≤ (W2.alloc (.cells #[.int .u8 (A : Int)] 5)).heap.size by have := HT2.out.size; simp; omega)
          have HCa := Lib.hid (show (W2.alloc (.cells #[.int .u8 (A : Int)] 5)).cell? ⟨W2.heap.size, 0, none⟩ = some (.int .u8 (A : Int)) from cell_box (heap_alloc_last W2 _))
          have HRa := Lib.hid (HR.out.below ((Below.refl W2.heap.size W2).alloc (Nat.le_refl _) (.cells #[.int .u8 (A : Int)] 5)))
          clear hd hM h5
          go_wp2_with (at_builtin; refine wpList_append_b rfl _ _ 34 rfl n₀ 5 i5 (.int .u8 0) Try.underlying34 hi5 hz0 hz1 hz2 rfl _ (numsV .u8 L) rfl HRa.out ⟨W2.heap.size, 0, none⟩ 1 (.int .u8 (A : Nat)) rfl HCa.out rfl HLa.out HBa.out ?_; intro v1 w1 hown1 hgrow1; obtain ⟨g1, cap1, rfl⟩ := hown1.form1; obtain ⟨hb1, hx1, hk1⟩ := HT2.out.push HB.out HV.out HR.out hgrow1 HA2.out hown1; have c1 := hb1.cell; have f1 := hb1.frozen; have h31 := hk1.cells _ _ _ _ H3.out (by decide) (by decide); obtain ⟨t0, t1, t2⟩ := tok_cells h31; have HX1 := Lib.hid hx1; have HK2 := Lib.hid hk1; clear hown1 hgrow1 hb1 hx1 hk1 h31)
          go_loopg [37] 0 (fun g s37 wx => s37 = .int .i64 0 ∧ wx = w1.setCell ⟨BO, 0, none⟩ (.slice (some ⟨g1, 0, none⟩) ((numsV .u8 L).length + 1) cap1))
          case atStart => exact ⟨rfl, rfl⟩
          case round =>
            obtain ⟨rfl, rfl⟩ := hrel
            go_wp2_with fail
            go_ret
            rw [HS.out]
            exact ⟨rfl, by simpa using HX1.out, HK1.out.trans HK2.out⟩
      · obtain ⟨m1, m2, m3, m4, m5⟩ := may_match hm hn
        obtain ⟨N, rfl⟩ : ∃ N : Nat, n = (N : Int) := ⟨n.toNat, by omega⟩
        obtain ⟨D, rfl⟩ : ∃ D : Nat, d = (D : Int) := ⟨d.toNat, by omega⟩
        subst m5
        have HND := Lib.hid (show N ≤ 258 ∧ 1 ≤ D ∧ D ≤ L.length by omega)
        have e2 : wrap64 ((M : Int) + (N : Int)) = (M : Int) + (N : Int) := by have := HK.out; unfold wrap64; omega
        have hx : ¬ ((N : Int) < 1) := by omega
        have en : decide ((N : Int) = 0) = false := by rw [decide_eq_false_iff_not]; omega
        have enb : ((N : Int) == 0) = false := by simpa using hn
        have en2 : decide (N = 0) = false := by rw [decide_eq_false_iff_not]; omega
        have dd2 : decide (L.length < D) = false := by rw [decide_eq_false_iff_not]; omega
        by_cases h5 : 1048576 < (M : Int) + (N : Int)
        · have d5 : decide (1048576 < (M : Int) + (N : Int)) = true := by rw [decide_eq_true_eq]; exact h5
          have HS := Lib.hid (show stepT dict.size L ⟨0, N, D⟩ = (5, L) by
            have h6 : (L.length : Int) - dict.size + max (N : Int) 1 > 1048576 := by omega
            unfold stepT
            rw [if_neg (by simp [hm]), if_neg hd, if_pos h6])
          clear hd hM h5 m1 m2 m3 m4 hn
          go_wp2_with fail
          go_ret
          rw [HS.out]
          exact ⟨rfl, HT2.out, HK1.out⟩
        · have d5 : decide (1048576 < (M : Int) + (N : Int)) = false := by rw [decide_eq_false_iff_not]; omega
          have HS := Lib.hid (show stepT dict.size L ⟨0, N, D⟩ = (0, copyT D L N) by
            have h6 : ¬ (L.length : Int) - dict.size + max (N : Int) 1 > 1048576 := by omega
            unfold stepT
            rw [if_neg (by simp [hm]), if_neg hd, if_neg h6, if_neg hn]
            simp)
          clear hd hM h5 m1 m2 m3 m4 hn
          go_wp2_with fail
          clear e1 e2 d5 dd dd2 q0 qd en en2 hx q2 qo q1 enb
          go_loopg [37] N (fun f s37 wx => ∃ j : Nat, s37 = .int .i64 (j : Int) ∧ Hid (j + f = N) ∧ Hid (Txt wx n₀ BO BD dict (copyT D L j)) ∧ Hid (KeepB n₀ W2 wx))
          case atStart => exact ⟨0, rfl, Lib.hid (Nat.zero_add N), Lib.hid HT2.out, Lib.hid (KeepB.refl _ _)⟩
          case round =>
            obtain ⟨j, rfl, HJ, HTX, HKX⟩ := hrel
            cases gk with
            | zero =>
              obtain rfl : j = N := HJ.out
              go_wp2_with fail
              go_ret
              rw [HS.out]
              exact ⟨rfl, HTX.out, HK1.out.trans HKX.out⟩
            | succ f =>
              obtain ⟨X, hX⟩ : ∃ X, copyT D L j = X := ⟨_, rfl⟩
              have HJN := Lib.hid (show j < N by have := HJ.out; omega)
              have HXN := Lib.hid (show copyT D L (j + 1) = X ++ [X.getD (X.length - D) 0] by rw [copyT, hX])
              have HXL := Lib.hid (show X.length = L.length + j by rw [← hX, copyT_length])
              rw [hX] at HTX
              clear hX
              obtain ⟨Kx, hK0⟩ : ∃ Kx, X.length = Kx := ⟨_, rfl⟩
              have HKL := Lib.hid hK0
              obtain ⟨I, hI0⟩ : ∃ I, Kx - D = I := ⟨_, rfl⟩
              have hIK : I < Kx := by have := HND.out; have := HXL.out; omega
              obtain ⟨x, hx0⟩ : ∃ x, X.getD I 0 = x := ⟨_, rfl⟩
              have hxi : X[I]? = some x := by
                rw [← hx0, List.getD_eq_getElem?_getD, List.getElem?_eq_getElem (by rw [hK0]; exact hIK)]; rfl
              have HX256 := Lib.hid (HTX.out.lt x (List.mem_of_getElem? hxi))
              have HSX := Lib.hid (show copyT D L (j + 1) = X ++ [x] by rw [HXN.out, hK0, hI0, hx0])
              obtain ⟨vx, hvx, hrx⟩ := HTX.out.own
              obtain ⟨g1, cap1, rfl, _, _⟩ := hrx.form
              rw [numsV_length, hK0] at hvx hrx
              have HVX := Lib.hid hvx
              have HRX := Lib.hid hrx
              have HI := Lib.hid (show I < X.length by rw [hK0]; exact hIK)
              have h3X := HKX.out.cells _ _ _ _ H3.out (by decide) (by decide)
              obtain ⟨t0, t1, t2⟩ := tok_cells h3X
              have q1 := hvx.cell
              have q3 : wr.cell? ⟨g1, I, none⟩ = some (.int .u8 (x : Nat)) := hrx.cell (numsV_get hxi)
              have dj : decide (j < N) = true := by rw [decide_eq_true_eq]; exact HJN.out
              have dj2 : decide ((j : Int) < (N : Int)) = true := by rw [decide_eq_true_eq]; have := HJN.out; omega
              have e3 : wrap64 ((Kx : Int) - (D : Int)) = (I : Int) := by have := HND.out; have := HXL.out; have := HK.out; have := HM.out; have := HJN.out; unfold wrap64; omega
              have e4 : wrap64 ((j : Int) + 1) = ((j + 1 : Nat) : Int) := by have := HND.out; have := HJN.out; unfold wrap64; omega
              have n1 : (0 : Int) ≤ (I : Int) := by omega
              have n2 : (I : Int) < (Kx : Int) := by omega
              have HLa := Lib.hid (show (numsV .u8 X).length + 1 ≤ 140737488355328 by rw [numsV_length]; have := HK.out; have := HXL.out; have := HND.out; have := HJN.out; omega)
              have hb1 : Below wr.heap.size wr (wr.drew.alloc (.cells #[.int .u8 (x : Nat)] 5)) := (Below.refl _ wr).drew.alloc (Nat.le_refl _) _
              have HBa := Lib.hid (show n₀ ≤ (wr.drew.alloc (.cells #[.int .u8 (x : Nat)] 5)).heap.size by have := HTX.out.size; exact Nat.le_trans this hb1.size)
              have HCa := Lib.hid (show (wr.drew.alloc (.cells #[.int .u8 (x : Nat)] 5)).cell? ⟨wr.heap.size, 0, none⟩ = some (.int .u8 (x : Nat)) from cell_box (heap_alloc_last wr.drew _))
              have HRa := Lib.hid (hrx.below hb1)
              have HG0 := Lib.hid ((hb1.cell (p := ⟨BO, 0, none⟩) (World.block_lt_of_cell? _ _ q1)).trans q1)
              have HG1 := Lib.hid ((hb1.cell (p := ⟨B3, 2, none⟩) (World.block_lt_of_cell? _ _ t2)).trans t2)
              have HG2 := Lib.hid ((hb1.cell (p := ⟨g1, I, none⟩) (World.block_lt_of_cell? _ _ q3)).trans q3)
              have HB3a := Lib.hid (show B3 < (wr.drew.alloc (.cells #[.int .u8 (x : Nat)] 5)).heap.size from Nat.lt_of_lt_of_le (World.block_lt_of_cell? _ _ t2) hb1.size)
              have HB3b := Lib.hid (show some B3 ≠ (Value.slice (some ⟨g1, 0, none⟩) Kx cap1).ownBlock by
                obtain ⟨g', cap', cur, fz, hv', _, hg', _⟩ := hrx
                cases hv'
                intro e
                obtain rfl : B3 = g1 := by simpa [Value.ownBlock] using e
                rw [h3X] at hg'; cases hg')
              have hHeld : wr.drew.cell? ⟨BO, 0, none⟩ = some (.slice (some ⟨g1, 0, none⟩) Kx cap1) ∧ wr.drew.cell? ⟨B3, 2, none⟩ = some (.int .i64 (D : Nat)) ∧ wr.drew.cell? ⟨g1, I, none⟩ = some (.int .u8 (x : Nat)) := ⟨q1, t2, q3⟩
              have HH := Lib.hid hHeld
              have HTD := Lib.hid (show Txt wr.drew n₀ BO BD dict X from HTX.out.grown (Below.refl _ wr).drew)
              have HVD := Lib.hid (show Boxed wr.drew BO 34 (.slice (some ⟨g1, 0, none⟩) Kx cap1) from hvx)
              have HRD := Lib.hid (show BRow wr.drew n₀ 5 (.slice (some ⟨g1, 0, none⟩) Kx cap1) (numsV .u8 X) from hrx)
              clear hvx hrx hb1 hIK hxi hx0 h3X hI0 hK0 HXN hHeld
              go_wp2_with fail
              have hHeld := HH.out
              refine wp_region_Z (fun w' => w'.cell? ⟨BO, 0, none⟩ = some (.slice (some ⟨g1, 0, none⟩) Kx cap1) ∧ w'.cell? ⟨B3, 2, none⟩ = some (.int .i64 (D : Nat)) ∧ w'.cell? ⟨g1, I, none⟩ = some (.int .u8 (x : Nat))) 11 [.take 0, .take 1, .take 2, .take 3, .take 4, .take 5, .take 6, .take 7, .take 8, .go 9, .go 10, .last 11] [10, 0, 1, 2, 3, 4, 5, 6, 7, 8, 9] (by kernel_rfl) (by kernel_rfl) (fun _ _ _ _ _ h => h) hHeld ?_
              refine T_light (a' := ?_) 39 rfl rfl rfl (of_decide_eq_true rfl) rfl hHeld (fun wq hSq K Q hK => ?_) ?_
              rotate_left
              · ((obtain ⟨r1, r2, r3⟩ := hSq; go_step); exact hK)
              refine T_light (a' := ?_) 40 rfl rfl rfl (of_decide_eq_true rfl) rfl hHeld (fun wq hSq K Q hK => ?_) ?_
              rotate_left
              · ((obtain ⟨r1, r2, r3⟩ := hSq; go_step); exact hK)
              refine T_light (a' := ?_) 41 rfl rfl rfl (of_decide_eq_true rfl) rfl hHeld (fun wq hSq K Q hK => ?_) ?_
              rotate_left
              · ((obtain ⟨r1, r2, r3⟩ := hSq; go_step); exact hK)
              refine T_light (a' := ?_) 42 rfl rfl rfl (of_decide_eq_true rfl) rfl hHeld (fun wq hSq K Q hK => ?_) ?_
              rotate_left
              · (go_step; exact hK)
              refine T_light (a' := ?_) 43 rfl rfl rfl (of_decide_eq_true rfl) rfl hHeld (fun wq hSq K Q hK => ?_) ?_
              rotate_left
              · (go_step; exact hK)
              refine T_light (a' := ?_) 44 rfl rfl rfl (of_decide_eq_true rfl) rfl hHeld (fun wq hSq K Q hK => ?_) ?_
              rotate_left
              · ((obtain ⟨r1, r2, r3⟩ := hSq; go_step); exact hK)
              refine T_light (a' := ?_) 45 rfl rfl rfl (of_decide_eq_true rfl) rfl hHeld (fun wq hSq K Q hK => ?_) ?_
              rotate_left
              · (go_step; exact hK)
              refine T_light (a' := ?_) 46 rfl rfl rfl (of_decide_eq_true rfl) rfl hHeld (fun wq hSq K Q hK => ?_) ?_
              rotate_left
              · (go_step; exact hK)
              refine T_light (a' := ?_) 47 rfl rfl rfl (of_decide_eq_true rfl) rfl hHeld (fun wq hSq K Q hK => ?_) ?_
              rotate_left
              · ((obtain ⟨r1, r2, r3⟩ := hSq; go_step); exact hK)
              refine T_go rfl rfl (fun K hK => ?_)
              go_step
              have hHeld : (wr.drew.alloc (.cells #[.int .u8 (x : Nat)] 5)).cell? ⟨BO, 0, none⟩ = some (.slice (some ⟨g1, 0, none⟩) Kx cap1) ∧ (wr.drew.alloc (.cells #[.int .u8 (x : Nat)] 5)).cell? ⟨B3, 2, none⟩ = some (.int .i64 (D : Nat)) ∧ (wr.drew.alloc (.cells #[.int .u8 (x : Nat)] 5)).cell? ⟨g1, I, none⟩ = some (.int .u8 (x : Nat)) :=
                ⟨HG0.out, HG1.out, HG2.out⟩
              refine hK _ _ hHeld ?_
              clear hK K
              refine T_go rfl rfl (fun K hK => ?_)
              refine wp_append_b _ _ 34 rfl n₀ 5 i5 (.int .u8 0) Try.underlying34 hi5 hz0 hz1 hz2 rfl _ (numsV .u8 X) rfl HRa.out ⟨wr.heap.size, 0, none⟩ 1 (.int .u8 (x : Nat)) rfl HCa.out rfl HLa.out HBa.out ?_
              intro v1 w1 hown1 hgrow1 hfix1
              obtain ⟨g2, cap2, rfl⟩ := hown1.form1
              obtain ⟨hb1, hx1, hk1⟩ := HTD.out.push HB.out HVD.out HRD.out hgrow1 HX256.out hown1
              have hHeld : w1.cell? ⟨BO, 0, none⟩ = some (.slice (some ⟨g1, 0, none⟩) Kx cap1) ∧ w1.cell? ⟨B3, 2, none⟩ = some (.int .i64 (D : Nat)) ∧ w1.cell? ⟨g1, I, none⟩ = some (.int .u8 (x : Nat)) := by
                refine ⟨hb1.cell, ?_, (hfix1 _ _ _ _ rfl (by rw [numsV_length]; exact HI.out)).trans HG2.out⟩
                exact (World.cell?_of_block (a := ⟨B3, 2, none⟩) (hgrow1.block B3 HB3a.out HB3b.out)).trans HG1.out
              have hf1 := hb1.frozen
              have HX1 := Lib.hid hx1
              have HK1' := Lib.hid hk1
              clear hb1 hx1 hk1 hown1 hgrow1 hfix1
              refine hK _ _ hHeld ?_
              clear hK K
              refine T_last rfl rfl (fun K hK => ?_)
              (obtain ⟨r1, r2, r3⟩ := hHeld; go_step)
              refine hK _ _ ?_
              clear hK K
              refine T_done ?_

              go_wp2_with fail
              go_roundg f
              case measure => exact Nat.lt_succ_self f
              case rel => exact ⟨j + 1, by rw [e4], Lib.hid (by have := HJ.out; omega), Lib.hid (by rw [HSX.out]; exact HX1.out), Lib.hid (HKX.out.trans ((KeepB.of_below ((Below.refl _ wr).drew) HTX.out.size).trans HK1'.out))⟩
end Go.Proofs.Ytipcdbfohgeipaa

