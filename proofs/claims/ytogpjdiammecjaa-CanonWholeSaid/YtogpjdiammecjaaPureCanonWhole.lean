/-
  CanonWhole: for every lengths and every row of bits, the law answers true.
-/
import Derived.Test.YtogpjdiammecjaaPCx18
import Derived.Test.YtogpjdiammecjaaMathB
import Derived.Laws.BitsAllLaws
set_option linter.unusedSimpArgs false
set_option linter.unusedVariables false
namespace Go.Proofs.Ytogpjdiammecjaa.Pure
open Go.RowKit Go.Proofs.Ytogpjdiammecjaa.PC Go.Proofs.YtogpjdiammecjaaW.PrintWords Go.Proofs.YtogpjdiammecjaaW.PrintLast

theorem codeAt_lt (l : List Int) (i : Nat) (hi : i < l.length) (hg : ∀ x ∈ l, 0 ≤ x ∧ x ≤ 15) (hw : wtK l 16 ≤ 32768) (h0 : rd l (i : Int) ≠ 0) :
    1 ≤ (codeAt l i).2 ∧ (codeAt l i).2 ≤ 15 ∧ (codeAt l i).1 < 2 ^ (codeAt l i).2 := by
  have hx := hg _ (rd_mem' l i hi)
  obtain ⟨n, hn⟩ : ∃ n : Nat, rd l (i : Int) = (n : Int) := ⟨(rd l (i : Int)).toNat, by omega⟩
  have hc : codeAt l i = (startN l n + (l.take i).count (n : Int), n) := by
    unfold codeAt
    rw [hn, if_neg (by omega)]
    simp
  rw [hc]
  have hs := start_le l hw n (by omega) (by omega)
  have h1 : (l.take (i + 1)).count (n : Int) = (l.take i).count (n : Int) + 1 := by rw [take_snoc_int l i hi, hn, List.count_append]; simp
  have h2 : (l.take (i + 1)).count (n : Int) ≤ l.count (n : Int) := (List.take_sublist (i + 1) l).count_le _
  exact ⟨by show 1 ≤ n; omega, by show n ≤ 15; omega, by show startN l n + (l.take i).count (n : Int) < 2 ^ n; omega⟩
theorem hits_le (l : List Int) (R : Nat) : ∀ i, 0 ≤ hits l R i ∧ hits l R i ≤ i := by
  intro i
  induction i with
  | zero => exact ⟨Int.le_refl _, Int.le_refl _⟩
  | succ i ih =>
    simp only [hits]
    split <;> omega
theorem hits_wrap (l : List Int) (R i : Nat) (h : i ≤ 400) : wrap64 (hits l R i + 1) = hits l R i + 1 := by
  have := hits_le l R i
  exact w64_small (by omega) (by omega)
theorem nat_wrap (i : Nat) (h : i ≤ 400) : wrap64 ((i : Int) + 1) = ((i + 1 : Nat) : Int) := by rw [w64_small (by omega) (by omega)]; omega
theorem whole_l0 (l : List Int) (R : Nat) (hR : R < 32768) (hL : l.length ≤ 400) (hg : ∀ x ∈ l, 0 ≤ x ∧ x ≤ 15) (hw : wtK l 16 ≤ 32768) :
    ∀ (d i k : Nat), i + d = l.length → platenlaw05_CanonWhole.l0 (k + 2 * d + 30) l (codesS l) (hits l R i) (hits l 32767 i) (i : Int) (R : Int) 15 32767 15 =
      platenlaw05_CanonWhole.l0 (k + 30) l (codesS l) (hits l R l.length) (hits l 32767 l.length) (l.length : Int) (R : Int) 15 32767 15 := by
  intro d
  induction d with
  | zero =>
    intro i k hi
    obtain rfl : i = l.length := by omega
    rfl
  | succ d ih =>
    intro i k hi
    rw [← ih (i + 1) k (by omega)]
    have hlt : i < l.length := by omega
    have ec := codesS_rd l i hlt
    obtain ⟨K, hK⟩ : ∃ K, k + 2 * d + 30 = K + 20 := ⟨k + 2 * d + 10, by omega⟩
    rw [show k + 2 * (d + 1) + 30 = k + 2 * d + 30 + 1 + 1 by omega, hK]
    obtain ⟨M, hM⟩ : ∃ M, M = K + 20 + 1 := ⟨_, rfl⟩
    rw [← hM]
    have e1 := nat_wrap i (by omega)
    have e2 := hits_wrap l R i (by omega)
    have e3 := hits_wrap l 32767 i (by omega)
    by_cases h0 : rd l (i : Int) = 0
    · have hz : codeAt l i = (0, 0) := by unfold codeAt; rw [if_pos h0]
      have hh : ∀ S, hit l S i = false := fun S => by unfold hit; rw [h0]; simp
      have hs : ∀ S, hits l S (i + 1) = hits l S i := fun S => by simp only [hits]; rw [hh]; simp
      rw [hs, hs]
      conv => lhs; simp only [platenlaw05_CanonWhole.l0]
      rw [if_pos (by rw [codesS_length]; omega), if_pos (by omega), ec, hz]
      dsimp only
      rw [if_pos (show ((0 : Nat) : Int) = 0 by omega), hM]
      obtain ⟨M2, hM2⟩ : ∃ M2, M2 = K + 20 := ⟨_, rfl⟩
      rw [← hM2]
      conv => lhs; simp only [platenlaw05_CanonWhole.j1]
      rw [if_pos trivial, e1]
    · obtain ⟨c1, c2, c3⟩ := codeAt_lt l i hlt hg hw h0
      have bR := begins_some (codeAt l i).1 R (codeAt l i).2 (K + 3) c1 c2 c3 hR
      have bE := begins_some (codeAt l i).1 32767 (codeAt l i).2 (K + 3) c1 c2 c3 (by omega)
      have hh : ∀ S, hit l S i = decide (S / 2 ^ (15 - (codeAt l i).2) = (codeAt l i).1) := fun S => by unfold hit; simp [h0]
      have hs : ∀ S, hits l S (i + 1) = hits l S i + if hit l S i = true then 1 else 0 := fun S => rfl
      rw [← hh] at bR bE
      rw [hs, hs]
      conv => lhs; simp only [platenlaw05_CanonWhole.l0]
      rw [if_pos (by rw [codesS_length]; omega), if_pos (by omega), ec, if_neg (show ¬ (((codeAt l i).2 : Int) = 0) by omega), show decide (((codeAt l i).2 : Int) > 15) = false by rw [decide_eq_false_iff_not]; omega, hM]
      obtain ⟨M2, hM2⟩ : ∃ M2, M2 = K + 20 := ⟨_, rfl⟩
      rw [← hM2]
      conv => lhs; simp only [platenlaw05_CanonWhole.j1]
      rw [if_neg (by simp), if_pos (by omega), if_pos (by rw [codesS_length]; omega), ec]
      rw [show K + 3 + 17 = M2 by omega] at bR bE
      show ((platenref05_Begins.f M2 ((codeAt l i).1 : Int) ((codeAt l i).2 : Int) (R : Int) 15).bind _) = _
      rw [bR]
      simp only [Option.bind_some]
      rw [show ((32767 : Nat) : Int) = 32767 from rfl] at bE
      cases hit l R i with
      | true =>
        rw [if_pos rfl]
        show ((platenref05_Begins.f M2 ((codeAt l i).1 : Int) ((codeAt l i).2 : Int) 32767 15).bind _) = _
        rw [bE]
        simp only [Option.bind_some]
        cases hit l 32767 i with
        | true => rw [if_pos rfl, e1, e2, e3]; rfl
        | false => rw [if_neg (by simp), e1, e2]; simp
      | false =>
        rw [if_neg (by simp)]
        show ((platenref05_Begins.f M2 ((codeAt l i).1 : Int) ((codeAt l i).2 : Int) 32767 15).bind _) = _
        rw [bE]
        simp only [Option.bind_some]
        cases hit l 32767 i with
        | true => rw [if_pos rfl, e1, e3]; simp
        | false => rw [if_neg (by simp), e1]; simp
theorem wsum_zero (l : List Int) (hg : ∀ x ∈ l, 0 ≤ x ∧ x ≤ 15) (h : asum l = 0) : wsum l = 0 := by
  induction l with
  | nil => rfl
  | cons x l ih =>
    have hx := hg x List.mem_cons_self
    simp only [asum, wsum, List.map_cons, List.sum_cons] at h ⊢
    have h1 : aOf x = 0 := by omega
    have h2 : wOf x = 0 := by
      unfold aOf at h1
      unfold wOf
      by_cases c : 0 < x ∧ x < 16
      · rw [if_pos c] at h1; omega
      · rw [if_neg c]
    have := ih (fun y hy => hg y (List.mem_cons_of_mem _ hy)) (show asum l = 0 by unfold asum; omega)
    unfold wsum at this
    omega
theorem CanonWhole : platenlaw05_CanonWhole.Pure := by
  intro l0 a1 _ _ h0 h1
  have g1 := wf_u16 h1
  refine ⟨2 * l0.length + 60, ?_⟩
  have al : platenlaw05_alive.f (2 * l0.length + 60) = some true := alive_some (2 * l0.length + 40)
  unfold platenlaw05_CanonWhole.f platenlaw05_Long.f
  simp only [Option.bind_some]
  by_cases c1 : (l0.length : Int) > 400
  · rw [decide_eq_true c1, if_pos rfl, al]; rfl
  rw [decide_eq_false c1, if_neg (by simp)]
  unfold canon_Codes.f
  rw [if_pos (okL_of h0)]
  by_cases c5 : kindI l0 = 5
  · rw [if_pos c5]
    simp only [Option.bind_some]
    rw [if_neg (by omega), al]; rfl
  rw [if_neg c5]
  by_cases c4 : kindI l0 = 4
  · rw [if_pos c4]
    simp only [Option.bind_some]
    rw [if_neg (by omega), al]; rfl
  rw [if_neg c4]
  simp only [Option.bind_some, if_true]
  obtain ⟨hgd, hw⟩ := kind_of_ok l0 c5 c4
  have hg : ∀ x ∈ l0, 0 ≤ x ∧ x ≤ 15 := fun x hx => ⟨(wf_u8 (h0 x hx)).1, ((good_iff l0).1 hgd).2 x hx⟩
  obtain ⟨R, hR, hR2⟩ : ∃ R : Nat, Go.bits .and .u32 ((a1) % 4294967296) 32767 = (R : Int) ∧ R < 32768 := by
    obtain ⟨m, rfl⟩ : ∃ m : Nat, a1 = (m : Int) := ⟨a1.toNat, by omega⟩
    refine ⟨m &&& 32767, ?_, Nat.lt_of_le_of_lt Nat.and_le_right (by omega)⟩
    rw [show ((m : Nat) : Int) % 4294967296 = ((m : Nat) : Int) by omega]
    exact u32_and_nat m 32767 (by omega) (by omega)
  rw [hR]
  have := whole_l0 l0 R hR2 (by omega) hg hw l0.length 0 30 (by omega)
  rw [show 30 + 2 * l0.length + 30 = 2 * l0.length + 60 by omega] at this
  show platenlaw05_CanonWhole.l0 (2 * l0.length + 60) l0 (codesS l0) (hits l0 R 0) (hits l0 32767 0) ((0 : Nat) : Int) (R : Int) 15 32767 15 = some true
  rw [this, hits_all l0 R hg, hits_all l0 32767 hg]
  simp only [platenlaw05_CanonWhole.l0]
  rw [if_neg (by rw [codesS_length]; omega)]
  unfold canon_Kind.f
  rw [if_pos (okL_of h0)]
  simp only [Option.bind_some]
  have al2 : platenlaw05_alive.f 59 = some true := alive_some 39
  rw [al2]
  simp only [Option.bind_some]
  rw [(wt_sum l0).1] at hw
  by_cases k2 : kindI l0 = 2
  · rw [if_pos k2]
    have hws : wsum l0 = 32768 := by
      rw [kind_eq l0 hgd] at k2
      by_cases e : wsum l0 = 32768
      · exact e
      · rw [if_neg e] at k2
        exfalso
        revert k2
        repeat (first | (split; · decide) | decide)
    rw [if_pos (show (if R < wsum l0 then (1 : Int) else 0) = 1 by rw [if_pos (by omega)]), if_pos (show (if 32767 < wsum l0 then (1 : Int) else 0) = 1 by rw [if_pos (by omega)])]
  · rw [if_neg k2]
    by_cases k0 : kindI l0 = 0
    · rw [if_pos k0]
      have hws : wsum l0 = 0 := wsum_zero l0 hg (by
        rw [kind_eq l0 hgd] at k0
        by_cases e : asum l0 = 0
        · exact e
        · rw [if_neg e] at k0
          exfalso
          revert k0
          repeat (first | (split; · decide) | decide))
      rw [if_pos (show (if R < wsum l0 then (1 : Int) else 0) = 0 by rw [if_neg (by omega)])]
    · rw [if_neg k0]
      have hws : wsum l0 < 32768 := by
        by_cases e : wsum l0 = 32768
        · exfalso
          apply k2
          rw [kind_eq l0 hgd] at k0 ⊢
          by_cases ea : asum l0 = 0
          · rw [if_pos ea] at k0; exact absurd rfl k0
          · rw [if_neg ea, if_neg (by omega), if_pos e]
        · omega
      rw [if_pos (show (if R < wsum l0 then (1 : Int) else 0) ≤ 1 by split <;> omega), if_pos (show (if 32767 < wsum l0 then (1 : Int) else 0) = 0 by rw [if_neg (by omega)])]
end Go.Proofs.Ytogpjdiammecjaa.Pure
