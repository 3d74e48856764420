/-
  Chain: what 'Put' comes to (a contract, by hand).
-/
import Derived.Test.YtolkmjclldjkkaaF3
set_option linter.unusedSimpArgs false
set_option linter.unusedVariables false
namespace Go.Proofs.Ytolkmjclldjkkaa
open Go.RowKit

/-- what putting a place tells, and the places behind it -/
def putI (n : Nat) (l : List Nat) (at_ : Int) : Int × List Nat :=
  if at_ < 0 ∨ (n : Int) ≤ at_ then (2, l) else if at_ ≤ lastI l then (9, l) else (0, at_.toNat :: l)
/-- what is kept: what lay below n, and all cells but a finder's -/
structure KeepP (n : Nat) (W W' : World) : Prop where
  below : Below n W W'
  cells : ∀ (k : Nat) (cs : Array Value) (t : TypeId) (z : Nat × Nat), W.heap[k]? = some (.cells cs t z) → t ≠ 64 → W'.heap[k]? = some (.cells cs t z)
theorem KeepP.refl (n : Nat) (W : World) : KeepP n W W := ⟨Below.refl _ _, fun _ _ _ _ h _ => h⟩
theorem KeepP.trans {n : Nat} {A B C : World} (h : KeepP n A B) (k : KeepP n B C) : KeepP n A C := ⟨h.below.trans k.below, fun i cs t z hi h1 => k.cells i cs t z (h.cells i cs t z hi h1) h1⟩
theorem KeepP.of_below {n : Nat} {A B : World} (h : Below A.heap.size A B) (hn : n ≤ A.heap.size) : KeepP n A B :=
  ⟨h.mono hn, fun k cs t z hk _ => (h.block k (Array.getElem?_eq_some_iff.1 hk).1).trans hk⟩
theorem last_lt {l : List Nat} {p : Nat} (hd : l.Pairwise (· > ·)) (h : lastI l < (p : Int)) : ∀ q ∈ l, q < p := by
  intro q hq
  cases l with
  | nil => cases hq
  | cons a r =>
    have ha : a < p := by simp only [lastI] at h; omega
    rcases List.mem_cons.1 hq with rfl | hq
    · exact ha
    · have := (List.pairwise_cons.1 hd).1 q hq
      omega
theorem cand_other {L : List Nat} {k : Nat × Nat × Nat} {l : List Nat} {p : Nat} (h : threeAt L p ≠ some k) : cand L k (p :: l) = cand L k l := by
  unfold cand
  rw [List.filter_cons_of_neg (by simpa using h)]
theorem cand_same {L : List Nat} {k : Nat × Nat × Nat} {l : List Nat} {p : Nat} (h : threeAt L p = some k) : cand L k (p :: l) = p :: cand L k l := by
  unfold cand
  rw [List.filter_cons_of_pos (by simpa using h)]
theorem by_none {L : List Nat} {l : List Nat} {p : Nat} {F : Value → Option Int} (hn : threeAt L p = none) (h : ByOk L l F) : ByOk L (p :: l) F := fun k => by
  rw [cand_other (by rw [hn]; simp)]; exact h k
theorem back_none {L : List Nat} {l : List Nat} {p : Nat} {G : Value → Option Int} (hn : threeAt L p = none) (h : BackOk L l G) : BackOk L (p :: l) G :=
  ⟨fun k pre q r e => by rw [cand_other (by rw [hn]; simp)] at e; exact h.1 k pre q r e, fun q hq => h.2 q (fun hm => hq (List.mem_cons_of_mem _ hm))⟩
/-- one value turned -/
noncomputable def upd (F : Value → Option Int) (v : Value) (x : Int) (u : Value) : Option Int := open Classical in if u = v then some x else F u
theorem upd_same (F : Value → Option Int) (v : Value) (x : Int) : upd F v x v = some x := by unfold upd; rw [if_pos rfl]
theorem upd_other (F : Value → Option Int) (v : Value) (x : Int) (u : Value) (h : u ≠ v) : upd F v x u = F u := by unfold upd; rw [if_neg h]
theorem by_some {L : List Nat} {l : List Nat} {p : Nat} {k : Nat × Nat × Nat} {F : Value → Option Int} (hk : threeAt L p = some k) (h : ByOk L l F) : ByOk L (p :: l) (upd F (kV k) (p : Nat)) := fun k' => by
  by_cases e : k' = k
  · subst e; rw [upd_same, cand_same hk]; rfl
  · rw [upd_other _ _ _ _ (fun he => e (kV_inj he)), cand_other (by rw [hk]; simpa using fun he => e he.symm)]; exact h k'
theorem back_new {L : List Nat} {l : List Nat} {p : Nat} {k : Nat × Nat × Nat} {G G' : Value → Option Int} (hk : threeAt L p = some k) (hp : ∀ q ∈ l, q < p) (h : BackOk L l G)
    (h1 : G' (.int .i64 (p : Nat)) = oI (cand L k l).head?) (h2 : ∀ q : Nat, q ≠ p → G' (.int .i64 (q : Nat)) = G (.int .i64 (q : Nat))) : BackOk L (p :: l) G' := by
  have hmem : ∀ k' q, q ∈ cand L k' l → q ≠ p := fun k' q hq e => by
    have := hp q (List.mem_filter.1 hq).1
    omega
  refine ⟨fun k' pre q r e => ?_, fun q hq => ?_⟩
  · by_cases ek : k' = k
    · subst ek
      rw [cand_same hk] at e
      cases pre with
      | nil =>
        simp only [List.nil_append, List.cons.injEq] at e
        obtain ⟨rfl, rfl⟩ := e
        exact h1
      | cons a pre =>
        simp only [List.cons_append, List.cons.injEq] at e
        rw [h2 q (hmem k' q (by rw [e.2]; simp))]
        exact h.1 k' pre q r e.2
    · rw [cand_other (by rw [hk]; simpa using fun he => ek he.symm)] at e
      rw [h2 q (hmem k' q (by rw [e]; simp))]
      exact h.1 k' pre q r e
  · rw [h2 q (fun e => hq (by rw [e]; simp))]
    exact h.2 q (fun hm => hq (List.mem_cons_of_mem _ hm))
theorem Fnd.step {w W' : World} {n₀ A : Nat} {s : ByteArray} {l : List Nat} (h : Fnd w n₀ A s l) {p M1 M2 : Nat} {F' G' : Value → Option Int} (hp : (∀ q ∈ l, q < p) ∧ p < s.size)
    (hA : W'.heap[A]? = some (.cells #[.string s, .map (some M1), .map (some M2), .int .i64 (p : Int)] 64 (0, 0))) (hM : M1 ≠ M2 ∧ n₀ ≤ M1 ∧ n₀ ≤ M2) (h1 : MapI W' 65 M1 (l.length + 1) F') (h2 : MapI W' 3 M2 (l.length + 1) G')
    (hb : ByOk (byteL s) (p :: l) F') (hg : BackOk (byteL s) (p :: l) G') : Fnd W' n₀ A s (p :: l) :=
  ⟨⟨M1, M2, F', G', hA, hM.1, hM.2.1, hM.2.2, h1, h2, hb, hg⟩, h.low, List.pairwise_cons.2 ⟨fun q hq => hp.1 q hq, h.desc⟩, fun q hq => by
    rcases List.mem_cons.1 hq with rfl | hq
    · exact hp.2
    · exact h.lt q hq, h.size⟩
theorem keep_turned {W W' : World} {n₀ M : Nat} (h : W.mapTurned W' M) (hn : n₀ ≤ M) : KeepP n₀ W W' := by
  have hg := h.grown
  obtain ⟨es, c, es', c', hb, _⟩ := h
  refine ⟨⟨hg.os, hg.tape, hg.output, hg.size, fun k hk => ?_⟩, fun k cs t z hk _ => ?_⟩
  · rcases Nat.lt_or_ge k W.heap.size with hl | hl
    · exact hg.block k hl (fun e => by cases e; omega)
    · have := (Array.getElem?_eq_some_iff.1 hb).1; omega
  · exact (hg.block k (Array.getElem?_eq_some_iff.1 hk).1 (fun e => by cases e; rw [hb] at hk; cases hk)).trans hk
theorem turned_other {W W' : World} {M k : Nat} {o : Obj} (h : W.mapTurned W' M) (hk : W.heap[k]? = some o) (hne : k ≠ M) : W'.heap[k]? = some o :=
  (h.grown.block k (Array.getElem?_eq_some_iff.1 hk).1 (fun e => hne (by cases e; rfl))).trans hk
set_option maxHeartbeats 2000000 in
theorem put_any (at_ : Int) (n₀ A : Nat) (s : ByteArray) (l : List Nat) (w : World) (h : Fnd w n₀ A s l) (hl : l.length < 1000000) (hn : n₀ ≤ w.heap.size) :
    Calls Try.prog 13 #[.pointer (some ⟨A, 0, none⟩), .int .i64 at_] w fun e w' => e = .returned (.int .i64 (putI s.size l at_).1) ∧ Fnd w' n₀ A s (putI s.size l at_).2 ∧ KeepP n₀ w w' := by
  obtain ⟨M1, M2, F, G, hA, hne, hl1, hl2, h1, h2, hb, hg⟩ := h.ex
  have H := Lib.hid h
  have HL := Lib.hid hl
  have HN := Lib.hid hn
  have HA := Lib.hid hA
  have HM := Lib.hid (And.intro hne (And.intro hl1 hl2))
  have H1 := Lib.hid h1
  have H2 := Lib.hid h2
  have HOK := Lib.hid (And.intro hb hg)
  have q0 : w.cell? ⟨A, 0, none⟩ = some (.string s) := cell_blk hA 0
  have q1 : w.cell? ⟨A, 1, none⟩ = some (.map (some M1)) := cell_blk hA 1
  have q3 : w.cell? ⟨A, 3, none⟩ = some (.int .i64 (lastI l)) := cell_blk hA 3
  have f3 : w.frozen? ⟨A, 3, none⟩ = false := by unfold World.frozen?; rw [hA]; rfl
  have qe := eq_map w M1
  clear h hl hn hA hne hl1 hl2 h1 h2 hb hg
  go_enter Try.func13, Try.ntmps13
  by_cases h0 : at_ < 0
  · have d0 : decide (at_ < 0) = true := by rw [decide_eq_true_eq]; exact h0
    have HR := Lib.hid (show putI s.size l at_ = (2, l) by unfold putI; rw [if_pos (.inl h0)])
    clear h0
    go_wp2_with fail
    go_ret
    rw [HR.out]
    exact ⟨rfl, H.out, KeepP.refl _ _⟩
  · have d0 : decide (at_ < 0) = false := by rw [decide_eq_false_iff_not]; exact h0
    by_cases hs : (s.size : Int) ≤ at_
    · have ds : decide ((s.size : Int) ≤ at_) = true := by rw [decide_eq_true_eq]; exact hs
      have HR := Lib.hid (show putI s.size l at_ = (2, l) by unfold putI; rw [if_pos (.inr hs)])
      clear h0 hs
      go_wp2_with fail
      go_ret
      rw [HR.out]
      exact ⟨rfl, H.out, KeepP.refl _ _⟩
    · have ds : decide ((s.size : Int) ≤ at_) = false := by rw [decide_eq_false_iff_not]; exact hs
      by_cases hla : at_ ≤ lastI l
      · have dl : decide (at_ ≤ lastI l) = true := by rw [decide_eq_true_eq]; exact hla
        have HR := Lib.hid (show putI s.size l at_ = (9, l) by unfold putI; rw [if_neg (by omega), if_pos hla])
        clear h0 hs hla
        go_wp2_with fail
        go_ret
        rw [HR.out]
        exact ⟨rfl, H.out, KeepP.refl _ _⟩
      · have dl : decide (at_ ≤ lastI l) = false := by rw [decide_eq_false_iff_not]; exact hla
        obtain ⟨p, rfl⟩ : ∃ p : Nat, at_ = (p : Int) := ⟨at_.toNat, by omega⟩
        have HR := Lib.hid (show putI s.size l (p : Int) = (0, p :: l) by unfold putI; rw [if_neg (by omega), if_neg hla, Int.toNat_natCast])
        have HP := Lib.hid (And.intro (last_lt H.out.desc (show lastI l < (p : Int) by omega)) (show p < s.size by omega))
        obtain ⟨W1, hW1⟩ : ∃ W1, w.setCell ⟨A, 3, none⟩ (.int .i64 (p : Int)) = W1 := ⟨_, rfl⟩
        have hA1 : W1.heap[A]? = some (.cells #[.string s, .map (some M1), .map (some M2), .int .i64 (p : Int)] 64 (0, 0)) := by
          rw [← hW1]; simp [World.setCell, Array.getElem?_modify, HA.out]
        have hM : ∀ k es c, w.heap[k]? = some (Obj.map es c) → W1.heap[k]? = some (Obj.map es c) := fun k es c hk => by
          rw [← hW1]
          exact (Below.heap_setCell w _ _ k (fun e => by rw [e, HA.out] at hk; cases hk)).trans hk
        have h11 : MapI W1 65 M1 l.length F := by obtain ⟨es, c, hm⟩ := H1.out.isMap; exact H1.out.same ((hM _ _ _ hm).trans hm.symm)
        have h21 : MapI W1 3 M2 l.length G := by obtain ⟨es, c, hm⟩ := H2.out.isMap; exact H2.out.same ((hM _ _ _ hm).trans hm.symm)
        have hk1 : KeepP n₀ w W1 := by
          rw [← hW1]
          exact ⟨(Below.refl _ _).setCell (p := ⟨A, 3, none⟩) H.out.low _, fun k cs t z hk ht => (Below.heap_setCell w _ _ k (fun e => by rw [e, HA.out] at hk; cases hk; exact ht rfl)).trans hk⟩
        have HK1 := Lib.hid hk1
        have HA1 := Lib.hid hA1
        have H11 := Lib.hid h11
        have H21 := Lib.hid h21
        have ds2 : decide (s.size ≤ p) = false := by rw [decide_eq_false_iff_not]; omega
        clear h0 hs hla hA1 hM h11 h21 hk1
        go_wp2_with fail
        refine (three_any (p : Int) A s W1 H.out.size (cell_blk HA1.out 0)).mono ?_
        rintro e W2 ⟨hb2, rfl⟩
        rw [if_pos (by omega), Int.toNat_natCast]
        have hA2 := (hb2.block A (Array.getElem?_eq_some_iff.1 HA1.out).1).trans HA1.out
        have HA2 := Lib.hid hA2
        have H12 := Lib.hid (H11.out.same (hb2.block M1 H11.out.lt))
        have H22 := Lib.hid (H21.out.same (hb2.block M2 H21.out.lt))
        have HK2 := Lib.hid (HK1.out.trans (KeepP.of_below hb2 (Nat.le_trans HN.out HK1.out.below.size)))
        clear hb2 hA2 q0 q1 q3 f3 qe hW1
        cases hth : threeAt (byteL s) p with
        | none =>
          simp only [kV]
          go_wp2_with fail
          go_ret
          rw [HR.out]
          have hbA : Below W2.heap.size W2 (W2.alloc (.cells #[.int .u8 0, .int .u8 0, .int .u8 0] 65)) := (Below.refl _ W2).alloc (Nat.le_refl _) _
          exact ⟨rfl, H.out.step HP.out ((hbA.block A (Array.getElem?_eq_some_iff.1 HA2.out).1).trans HA2.out) HM.out ((H12.out.same (hbA.block M1 H12.out.lt)).mono (Nat.le_succ _)) ((H22.out.same (hbA.block M2 H22.out.lt)).mono (Nat.le_succ _))
            (by_none hth HOK.out.1) (back_none hth HOK.out.2), HK2.out.trans (KeepP.of_below hbA (Nat.le_trans HN.out HK2.out.below.size))⟩
        | some k =>
          obtain ⟨B5, hB5⟩ : ∃ B5, W2.heap.size = B5 := ⟨_, rfl⟩
          obtain ⟨W3, hW3⟩ : ∃ W3, W2.alloc (.cells #[.int .u8 (k.1 : Nat), .int .u8 (k.2.1 : Nat), .int .u8 (k.2.2 : Nat)] 65) = W3 := ⟨_, rfl⟩
          have hbA : Below W2.heap.size W2 W3 := by rw [← hW3]; exact (Below.refl _ W2).alloc (Nat.le_refl _) _
          have h5 : W3.heap[B5]? = some (.cells #[.int .u8 (k.1 : Nat), .int .u8 (k.2.1 : Nat), .int .u8 (k.2.2 : Nat)] 65 (0, 0)) := by rw [← hW3, ← hB5]; exact heap_alloc_last W2 _
          have hA3 := (hbA.block A (Array.getElem?_eq_some_iff.1 HA2.out).1).trans HA2.out
          have H13 := Lib.hid (H12.out.same (hbA.block M1 H12.out.lt))
          have H23 := Lib.hid (H22.out.same (hbA.block M2 H22.out.lt))
          have HK3 := Lib.hid (HK2.out.trans (KeepP.of_below hbA (Nat.le_trans HN.out HK2.out.below.size)))
          have hkb : k.1 < 256 ∧ k.2.1 < 256 ∧ k.2.2 < 256 := by
            unfold threeAt at hth
            split at hth
            · cases hth
              have hx : ∀ i, (byteL s).getD i 0 < 256 := fun i => by
                rcases Nat.lt_or_ge i (byteL s).length with hi | hi
                · rw [List.getD_eq_getElem?_getD, List.getElem?_eq_getElem hi]; exact byteL_lt s _ (List.getElem_mem hi)
                · rw [List.getD_eq_getElem?_getD, List.getElem?_eq_none hi]; decide
              exact ⟨hx _, hx _, hx _⟩
            · cases hth
          obtain ⟨kl, hkl⟩ := key65 hkb.1 hkb.2.1 hkb.2.2
          have hwp : (Lit.int .i64 (p : Int)).wf = true := by
            have := HP.out.2
            have := H.out.size
            simp [Lit.wf, IntKind.min, IntKind.max, IntKind.signed, IntKind.bits]
            omega
          have hlen : l.length < maxLen := by have := HL.out; unfold maxLen; omega
          have HLK : ∀ W', MapI W' 65 M1 l.length F → (Instr.lookup 61 (.map (some M1)) (.agg #[.int .u8 (k.1 : Nat), .int .u8 (k.2.1 : Nat), .int .u8 (k.2.2 : Nat)]) true).run Try.prog W' = .ok (.tuple #[.int .i64 ((F (kV k)).getD 0), .bool (F (kV k)).isSome]) W' :=
            fun W' h => h.look law65 Try.underlying61 hkl
          rw [HOK.out.1 k] at HLK
          have hHeld0 : W3.drew.cell? ⟨A, 1, none⟩ = some (.map (some M1)) ∧ W3.drew.cell? ⟨B5, 0, none⟩ = some (.int .u8 (k.1 : Nat)) ∧ W3.drew.cell? ⟨B5, 1, none⟩ = some (.int .u8 (k.2.1 : Nat)) ∧ W3.drew.cell? ⟨B5, 2, none⟩ = some (.int .u8 (k.2.2 : Nat)) ∧ MapI W3.drew 65 M1 l.length F :=
            ⟨cell_blk hA3 1, cell_blk h5 0, cell_blk h5 1, cell_blk h5 2, H13.out.same rfl⟩
          have HH := Lib.hid hHeld0
          have H5 := Lib.hid h5
          have HA3 := Lib.hid hA3
          have HB5 := Lib.hid (show B5 ≠ A ∧ B5 ≠ M1 ∧ B5 ≠ M2 by
            refine ⟨fun e => ?_, fun e => ?_, fun e => ?_⟩
            · rw [e, hA3] at h5; cases h5
            · obtain ⟨es, c, hm⟩ := H13.out.isMap
              rw [e, hm] at h5; cases h5
            · obtain ⟨es, c, hm⟩ := H23.out.isMap
              rw [e, hm] at h5; cases h5)
          have HLKH := Lib.hid HLK
          have HWP := Lib.hid (And.intro hwp hlen)
          have HKL := Lib.hid hkl
          have qB := hB5
          clear hbA hA3 h5 hkb HLK hHeld0 hwp hlen hkl
          simp only [kV]
          cases hc : (cand (byteL s) k l).head? with
          | none =>
            rw [hc] at HLKH
            have HLKH := Lib.hid (show ∀ W', MapI W' 65 M1 l.length F → (Instr.lookup 61 (.map (some M1)) (.agg #[.int .u8 (k.1 : Nat), .int .u8 (k.2.1 : Nat), .int .u8 (k.2.2 : Nat)]) true).run Try.prog W' = .ok (.tuple #[.int .i64 0, .bool false]) W' from HLKH.out)
            have HG5 := Lib.hid (back_new (G' := G) hth HP.out.1 HOK.out.2 (by rw [hc, HOK.out.2.2 p (fun hm => by have := HP.out.1 p hm; omega)]; rfl) (fun q _ => rfl))
            clear hc
            go_wp2_with fail
            have hHeld := HH.out
            refine wp_region_T (fun w' => w'.cell? ⟨A, 1, none⟩ = some (.map (some M1)) ∧ w'.cell? ⟨B5, 0, none⟩ = some (.int .u8 (k.1 : Nat)) ∧ w'.cell? ⟨B5, 1, none⟩ = some (.int .u8 (k.2.1 : Nat)) ∧ w'.cell? ⟨B5, 2, none⟩ = some (.int .u8 (k.2.2 : Nat)) ∧ MapI w' 65 M1 l.length F) [.take 0, .take 1, .take 2, .take 3, .take 4, .take 5, .take 6, .take 7, .take 8, .take 9, .take 10] (by kernel_rfl) (by kernel_rfl) (fun _ _ _ _ _ h => h) hHeld ?_
            refine T_light (a' := ?_) 48 rfl rfl rfl (of_decide_eq_true rfl) rfl hHeld (fun wq hSq K Q hK => ?_) ?_
            rotate_left
            · (go_step; exact hK)
            refine T_light (a' := ?_) 49 rfl rfl rfl (of_decide_eq_true rfl) rfl hHeld (fun wq hSq K Q hK => ?_) ?_
            rotate_left
            · (go_step; exact hK)
            refine T_light (a' := ?_) 50 rfl rfl rfl (of_decide_eq_true rfl) rfl hHeld (fun wq hSq K Q hK => ?_) ?_
            rotate_left
            · (go_step; exact hK)
            refine T_light (a' := ?_) 51 rfl rfl rfl (of_decide_eq_true rfl) rfl hHeld (fun wq hSq K Q hK => ?_) ?_
            rotate_left
            · ((have r1 := hSq.1; go_step); exact hK)
            refine T_light (a' := ?_) 52 rfl rfl rfl (of_decide_eq_true rfl) rfl hHeld (fun wq hSq K Q hK => ?_) ?_
            rotate_left
            · ((obtain ⟨_, r2, r3, r4, _⟩ := hSq; go_step); exact hK)
            refine T_light (a' := ?_) 53 rfl rfl rfl (of_decide_eq_true rfl) rfl hHeld (fun wq hSq K Q hK => ?_) ?_
            rotate_left
            · ((have r5 := HLKH.out wq hSq.2.2.2.2; go_step); exact hK)
            refine T_light (a' := ?_) 47 rfl rfl rfl (of_decide_eq_true rfl) rfl hHeld (fun wq hSq K Q hK => ?_) ?_
            rotate_left
            · (go_step; exact hK)
            refine T_light (a' := ?_) 54 rfl rfl rfl (of_decide_eq_true rfl) rfl hHeld (fun wq hSq K Q hK => ?_) ?_
            rotate_left
            · (go_step; exact hK)
            refine T_light (a' := ?_) 55 rfl rfl rfl (of_decide_eq_true rfl) rfl hHeld (fun wq hSq K Q hK => ?_) ?_
            rotate_left
            · (go_step; exact hK)
            refine T_light (a' := ?_) 7 rfl rfl rfl (of_decide_eq_true rfl) rfl hHeld (fun wq hSq K Q hK => ?_) ?_
            rotate_left
            · (go_step; exact hK)
            refine T_light (a' := ?_) 8 rfl rfl rfl (of_decide_eq_true rfl) rfl hHeld (fun wq hSq K Q hK => ?_) ?_
            rotate_left
            · (go_step; exact hK)
            refine T_done ?_
            go_wp2_with fail
            obtain ⟨W5, hW5⟩ : ∃ W5, W3.drew = W5 := ⟨_, rfl⟩
            have HA5 := Lib.hid (show W5.heap[A]? = some (.cells #[.string s, .map (some M1), .map (some M2), .int .i64 (p : Int)] 64 (0, 0)) by rw [← hW5]; exact HA3.out)
            have H55 := Lib.hid (show W5.heap[B5]? = some (.cells #[.int .u8 (k.1 : Nat), .int .u8 (k.2.1 : Nat), .int .u8 (k.2.2 : Nat)] 65 (0, 0)) by rw [← hW5]; exact H5.out)
            have HM15 := Lib.hid (show MapI W5.drew 65 M1 l.length F by rw [← hW5]; exact H13.out.same rfl)
            have H25 := Lib.hid (show MapI W5 3 M2 (l.length + 1) G by rw [← hW5]; exact (H23.out.same rfl).mono (Nat.le_succ _))
            have HK5 := Lib.hid (show KeepP n₀ w W5.drew by rw [← hW5]; exact HK3.out.trans (KeepP.of_below ((Below.refl _ W3).drew.drew) (Nat.le_trans HN.out HK3.out.below.size)))
            rw [hW5]
            clear hHeld hW5
            obtain ⟨W6, hup6, h16, ht6⟩ := HM15.out.store law65 Try.underlying61 HWP.out.2 HKL.out (x := (p : Int)) HWP.out.1 (upd F (kV k) (p : Nat)) (upd_same _ _ _) (upd_other _ _ _)
            have hup6' : (Instr.mapUpdate 61 (.map (some M1)) (.agg #[.int .u8 (k.1 : Nat), .int .u8 (k.2.1 : Nat), .int .u8 (k.2.2 : Nat)]) (.int .i64 (p : Int))).run Try.prog W5.drew = .ok () W6 := hup6
            have H16 := Lib.hid h16
            have HT6 := Lib.hid ht6
            clear h16 ht6 hup6
            have hHeld : W5.drew.cell? ⟨A, 1, none⟩ = some (.map (some M1)) ∧ W5.drew.cell? ⟨B5, 0, none⟩ = some (.int .u8 (k.1 : Nat)) ∧ W5.drew.cell? ⟨B5, 1, none⟩ = some (.int .u8 (k.2.1 : Nat)) ∧ W5.drew.cell? ⟨B5, 2, none⟩ = some (.int .u8 (k.2.2 : Nat)) :=
              ⟨cell_blk HA5.out 1, cell_blk H55.out 0, cell_blk H55.out 1, cell_blk H55.out 2⟩
            refine wp_region_Z (fun w' => w'.cell? ⟨A, 1, none⟩ = some (.map (some M1)) ∧ w'.cell? ⟨B5, 0, none⟩ = some (.int .u8 (k.1 : Nat)) ∧ w'.cell? ⟨B5, 1, none⟩ = some (.int .u8 (k.2.1 : Nat)) ∧ w'.cell? ⟨B5, 2, none⟩ = some (.int .u8 (k.2.2 : Nat))) 6 [.take 0, .take 1, .take 2, .take 3, .take 4, .take 5, .last 6] [3, 4, 5, 0, 1, 2] (by kernel_rfl) (by kernel_rfl) (fun _ _ _ _ _ h => h) hHeld ?_
            refine T_light (a' := ?_) 63 rfl rfl rfl (of_decide_eq_true rfl) rfl hHeld (fun wq hSq K Q hK => ?_) ?_
            rotate_left
            · (go_step; exact hK)
            refine T_light (a' := ?_) 64 rfl rfl rfl (of_decide_eq_true rfl) rfl hHeld (fun wq hSq K Q hK => ?_) ?_
            rotate_left
            · (go_step; exact hK)
            refine T_light (a' := ?_) 65 rfl rfl rfl (of_decide_eq_true rfl) rfl hHeld (fun wq hSq K Q hK => ?_) ?_
            rotate_left
            · (go_step; exact hK)
            refine T_light (a' := ?_) 66 rfl rfl rfl (of_decide_eq_true rfl) rfl hHeld (fun wq hSq K Q hK => ?_) ?_
            rotate_left
            · ((have r1 := hSq.1; go_step); exact hK)
            refine T_light (a' := ?_) 67 rfl rfl rfl (of_decide_eq_true rfl) rfl hHeld (fun wq hSq K Q hK => ?_) ?_
            rotate_left
            · ((obtain ⟨_, r2, r3, r4⟩ := hSq; go_step); exact hK)
            refine T_light (a' := ?_) 68 rfl rfl rfl (of_decide_eq_true rfl) rfl hHeld (fun wq hSq K Q hK => ?_) ?_
            rotate_left
            · (go_step; exact hK)
            refine T_last rfl rfl (fun K hK => ?_)
            go_step
            refine hK _ _ ?_
            clear hK K
            refine T_done ?_
            go_wp2_with fail
            go_ret
            rw [HR.out]
            obtain ⟨es, c, hm2⟩ := H25.out.isMap
            exact ⟨rfl, H.out.step HP.out (turned_other HT6.out (show W5.drew.heap[A]? = _ from HA5.out) (fun e => by obtain ⟨es, c, hm⟩ := HM15.out.isMap; rw [← e, show W5.drew.heap[A]? = _ from HA5.out] at hm; cases hm)) HM.out H16.out
              (H25.out.same ((turned_other HT6.out (show W5.drew.heap[M2]? = _ from hm2) (fun e => HM.out.1 e.symm)).trans hm2.symm)) (by_some hth HOK.out.1) HG5.out, HK5.out.trans (keep_turned HT6.out HM.out.2.1)⟩
          | some q =>
            rw [hc] at HLKH
            have HLKH := Lib.hid (show ∀ W', MapI W' 65 M1 l.length F → (Instr.lookup 61 (.map (some M1)) (.agg #[.int .u8 (k.1 : Nat), .int .u8 (k.2.1 : Nat), .int .u8 (k.2.2 : Nat)]) true).run Try.prog W' = .ok (.tuple #[.int .i64 (q : Int), .bool true]) W' from HLKH.out)
            have hql : q ∈ l := (List.mem_filter.1 (show q ∈ cand (byteL s) k l from List.mem_of_mem_head? hc)).1
            have hwq : (Lit.int .i64 (q : Int)).wf = true := by
              have := H.out.lt q hql
              have := H.out.size
              simp [Lit.wf, IntKind.min, IntKind.max, IntKind.signed, IntKind.bits]
              omega
            obtain ⟨W5, hup5, h25, ht5⟩ := (H23.out.same (show W3.drew.heap[M2]? = W3.heap[M2]? from rfl)).store law3 Try.underlying62 HWP.out.2 (key3 HWP.out.1) hwq (upd G (.int .i64 (p : Int)) (q : Nat)) (upd_same _ _ _) (upd_other _ _ _)
            have HG5 := Lib.hid (back_new (G' := upd G (.int .i64 (p : Int)) (q : Nat)) hth HP.out.1 HOK.out.2 (by rw [hc, upd_same]; rfl) (fun x hx => upd_other _ _ _ _ (fun e => hx (by injection e with _ h2; omega))))
            have HA5 := Lib.hid (turned_other ht5 (show W3.drew.heap[A]? = _ from HA3.out) (fun e => by obtain ⟨es, c, hm⟩ := H23.out.isMap; rw [← e, HA3.out] at hm; cases hm))
            have H55 := Lib.hid (turned_other ht5 (show W3.drew.heap[B5]? = _ from H5.out) HB5.out.2.2)
            have HM15 := Lib.hid (show MapI W5.drew 65 M1 l.length F by
              obtain ⟨es, c, hm⟩ := H13.out.isMap
              exact H13.out.same ((turned_other ht5 (show W3.drew.heap[M1]? = _ from hm) HM.out.1).trans hm.symm))
            have HK5 := Lib.hid (show KeepP n₀ w W5.drew from (HK3.out.trans ((KeepP.of_below ((Below.refl _ W3).drew) (Nat.le_trans HN.out HK3.out.below.size)).trans (keep_turned ht5 HM.out.2.2))).trans (KeepP.of_below ((Below.refl _ W5).drew) (Nat.le_trans HN.out (Nat.le_trans HK3.out.below.size (Nat.le_trans (Nat.le_refl _) ht5.grown.size)))))
            have H25 := Lib.hid h25
            have q2 : W3.drew.cell? ⟨A, 2, none⟩ = some (.map (some M2)) := cell_blk HA3.out 2
            clear hc hql hwq h25 ht5
            go_wp2_with fail
            have hHeld := HH.out
            refine wp_region_T (fun w' => w'.cell? ⟨A, 1, none⟩ = some (.map (some M1)) ∧ w'.cell? ⟨B5, 0, none⟩ = some (.int .u8 (k.1 : Nat)) ∧ w'.cell? ⟨B5, 1, none⟩ = some (.int .u8 (k.2.1 : Nat)) ∧ w'.cell? ⟨B5, 2, none⟩ = some (.int .u8 (k.2.2 : Nat)) ∧ MapI w' 65 M1 l.length F) [.take 0, .take 1, .take 2, .take 3, .take 4, .take 5, .take 6, .take 7, .take 8, .take 9, .take 10] (by kernel_rfl) (by kernel_rfl) (fun _ _ _ _ _ h => h) hHeld ?_
            refine T_light (a' := ?_) 48 rfl rfl rfl (of_decide_eq_true rfl) rfl hHeld (fun wq hSq K Q hK => ?_) ?_
            rotate_left
            · (go_step; exact hK)
            refine T_light (a' := ?_) 49 rfl rfl rfl (of_decide_eq_true rfl) rfl hHeld (fun wq hSq K Q hK => ?_) ?_
            rotate_left
            · (go_step; exact hK)
            refine T_light (a' := ?_) 50 rfl rfl rfl (of_decide_eq_true rfl) rfl hHeld (fun wq hSq K Q hK => ?_) ?_
            rotate_left
            · (go_step; exact hK)
            refine T_light (a' := ?_) 51 rfl rfl rfl (of_decide_eq_true rfl) rfl hHeld (fun wq hSq K Q hK => ?_) ?_
            rotate_left
            · ((have r1 := hSq.1; go_step); exact hK)
            refine T_light (a' := ?_) 52 rfl rfl rfl (of_decide_eq_true rfl) rfl hHeld (fun wq hSq K Q hK => ?_) ?_
            rotate_left
            · ((obtain ⟨_, r2, r3, r4, _⟩ := hSq; go_step); exact hK)
            refine T_light (a' := ?_) 53 rfl rfl rfl (of_decide_eq_true rfl) rfl hHeld (fun wq hSq K Q hK => ?_) ?_
            rotate_left
            · ((have r5 := HLKH.out wq hSq.2.2.2.2; go_step); exact hK)
            refine T_light (a' := ?_) 47 rfl rfl rfl (of_decide_eq_true rfl) rfl hHeld (fun wq hSq K Q hK => ?_) ?_
            rotate_left
            · (go_step; exact hK)
            refine T_light (a' := ?_) 54 rfl rfl rfl (of_decide_eq_true rfl) rfl hHeld (fun wq hSq K Q hK => ?_) ?_
            rotate_left
            · (go_step; exact hK)
            refine T_light (a' := ?_) 55 rfl rfl rfl (of_decide_eq_true rfl) rfl hHeld (fun wq hSq K Q hK => ?_) ?_
            rotate_left
            · (go_step; exact hK)
            refine T_light (a' := ?_) 7 rfl rfl rfl (of_decide_eq_true rfl) rfl hHeld (fun wq hSq K Q hK => ?_) ?_
            rotate_left
            · (go_step; exact hK)
            refine T_light (a' := ?_) 8 rfl rfl rfl (of_decide_eq_true rfl) rfl hHeld (fun wq hSq K Q hK => ?_) ?_
            rotate_left
            · (go_step; exact hK)
            refine T_done ?_
            go_wp2_with fail
            clear hHeld q2 hup5
            obtain ⟨W6, hup6, h16, ht6⟩ := HM15.out.store law65 Try.underlying61 HWP.out.2 HKL.out (x := (p : Int)) HWP.out.1 (upd F (kV k) (p : Nat)) (upd_same _ _ _) (upd_other _ _ _)
            have hup6' : (Instr.mapUpdate 61 (.map (some M1)) (.agg #[.int .u8 (k.1 : Nat), .int .u8 (k.2.1 : Nat), .int .u8 (k.2.2 : Nat)]) (.int .i64 (p : Int))).run Try.prog W5.drew = .ok () W6 := hup6
            have H16 := Lib.hid h16
            have HT6 := Lib.hid ht6
            clear h16 ht6 hup6
            have hHeld : W5.drew.cell? ⟨A, 1, none⟩ = some (.map (some M1)) ∧ W5.drew.cell? ⟨B5, 0, none⟩ = some (.int .u8 (k.1 : Nat)) ∧ W5.drew.cell? ⟨B5, 1, none⟩ = some (.int .u8 (k.2.1 : Nat)) ∧ W5.drew.cell? ⟨B5, 2, none⟩ = some (.int .u8 (k.2.2 : Nat)) :=
              ⟨cell_blk HA5.out 1, cell_blk H55.out 0, cell_blk H55.out 1, cell_blk H55.out 2⟩
            refine wp_region_Z (fun w' => w'.cell? ⟨A, 1, none⟩ = some (.map (some M1)) ∧ w'.cell? ⟨B5, 0, none⟩ = some (.int .u8 (k.1 : Nat)) ∧ w'.cell? ⟨B5, 1, none⟩ = some (.int .u8 (k.2.1 : Nat)) ∧ w'.cell? ⟨B5, 2, none⟩ = some (.int .u8 (k.2.2 : Nat))) 6 [.take 0, .take 1, .take 2, .take 3, .take 4, .take 5, .last 6] [3, 4, 5, 0, 1, 2] (by kernel_rfl) (by kernel_rfl) (fun _ _ _ _ _ h => h) hHeld ?_
            refine T_light (a' := ?_) 63 rfl rfl rfl (of_decide_eq_true rfl) rfl hHeld (fun wq hSq K Q hK => ?_) ?_
            rotate_left
            · (go_step; exact hK)
            refine T_light (a' := ?_) 64 rfl rfl rfl (of_decide_eq_true rfl) rfl hHeld (fun wq hSq K Q hK => ?_) ?_
            rotate_left
            · (go_step; exact hK)
            refine T_light (a' := ?_) 65 rfl rfl rfl (of_decide_eq_true rfl) rfl hHeld (fun wq hSq K Q hK => ?_) ?_
            rotate_left
            · (go_step; exact hK)
            refine T_light (a' := ?_) 66 rfl rfl rfl (of_decide_eq_true rfl) rfl hHeld (fun wq hSq K Q hK => ?_) ?_
            rotate_left
            · ((have r1 := hSq.1; go_step); exact hK)
            refine T_light (a' := ?_) 67 rfl rfl rfl (of_decide_eq_true rfl) rfl hHeld (fun wq hSq K Q hK => ?_) ?_
            rotate_left
            · ((obtain ⟨_, r2, r3, r4⟩ := hSq; go_step); exact hK)
            refine T_light (a' := ?_) 68 rfl rfl rfl (of_decide_eq_true rfl) rfl hHeld (fun wq hSq K Q hK => ?_) ?_
            rotate_left
            · (go_step; exact hK)
            refine T_last rfl rfl (fun K hK => ?_)
            go_step
            refine hK _ _ ?_
            clear hK K
            refine T_done ?_
            go_wp2_with fail
            go_ret
            rw [HR.out]
            obtain ⟨es, c, hm2⟩ := H25.out.isMap
            exact ⟨rfl, H.out.step HP.out (turned_other HT6.out (show W5.drew.heap[A]? = _ from HA5.out) (fun e => by obtain ⟨es, c, hm⟩ := HM15.out.isMap; rw [← e, show W5.drew.heap[A]? = _ from HA5.out] at hm; cases hm)) HM.out H16.out
              (H25.out.same ((turned_other HT6.out (show W5.drew.heap[M2]? = _ from hm2) (fun e => HM.out.1 e.symm)).trans hm2.symm)) (by_some hth HOK.out.1) HG5.out, HK5.out.trans (keep_turned HT6.out HM.out.2.1)⟩
end Go.Proofs.Ytolkmjclldjkkaa
