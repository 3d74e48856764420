/-
  Runs: what the document's Pack answers.
-/
import Derived.Test.YtkoohabljjbliaaMathD
set_option linter.unusedSimpArgs false
set_option linter.unusedVariables false
namespace Go.Proofs.Ytkoohabljjbliaa.Pure
open Go.RowKit Go.Proofs.Ytkoohabljjbliaa.PC Go.Proofs.YtkoohabljjbliaaW.PrintWords Go.Proofs.YtkoohabljjbliaaW.PrintLast Go.Proofs.YtkoohabljjbliaaW.PrintMore

theorem mn_nat (n m : Nat) : mn (n : Int) (m : Int) = ((min n m : Nat) : Int) := by
  unfold mn; split <;> omega
theorem one_ge (n : Nat) (h : 11 ≤ n) : oneL 0 n = (18, ((min n 138 - 11 : Nat) : Int)) :: oneL 0 (n - min n 138) := by
  rw [oneL_zero, oneL_zero, reps_ge 18 (by omega) (by omega) h]
  rfl
theorem one_mid (n : Nat) (h : 3 ≤ n) (h2 : n < 11) : oneL 0 n = [(17, ((n - 3 : Nat) : Int))] := by
  rw [oneL_zero, reps_lt 18 h2]
  dsimp only
  rw [reps_ge 17 (by omega) (by omega) h, show min n 10 = n by omega, Nat.sub_self, reps_lt 17 (by omega)]
  rfl
theorem one_low (n : Nat) (h : n < 3) : oneL 0 n = List.replicate n (0, 0) := by
  rw [oneL_zero, reps_lt 18 (by omega)]
  dsimp only
  rw [reps_lt 17 h]
  rfl
theorem pred_w (m : Nat) (h : m ≤ 1000000) : wrap64 (((m + 1 : Nat) : Int) - 1) = (m : Int) := by unfold wrap64; omega
theorem rz_l1 : ∀ (m : Nat) (out : List S33), out.length + m ≤ 1000000 → Ev (fun k => platenref12_zeros.l1 k out (m : Int)) (out ++ (List.replicate m ((0, 0) : Int × Int)).map mkS) := by
  intro m
  induction m with
  | zero => intro out _; refine ev_now fun k => ?_; simp only [platenref12_zeros.l1]; rw [if_neg (by omega)]; simp
  | succ m ih =>
    intro out ho
    have h := ih (out ++ [(⟨0, 0⟩ : S33)]) (by rw [List.length_append]; simp; omega)
    rw [List.append_assoc] at h
    refine Ev.step (fun k => ?_) h
    simp only [platenref12_zeros.l1]
    rw [if_pos (by omega), if_pos (by omega), pred_w m (by omega)]
theorem rz_j1 (m : Nat) (out : List S33) (h : out.length + m ≤ 1000000) : Ev (fun k => platenref12_zeros.j1 k out (m : Int)) (out ++ (List.replicate m ((0, 0) : Int × Int)).map mkS) :=
  Ev.step (fun k => by simp only [platenref12_zeros.j1]) (rz_l1 m out h)
theorem rz_l0 : ∀ (b n : Nat) (out : List S33), n ≤ b → out.length + n ≤ 1000000 → Ev (fun k => platenref12_zeros.l0 k out (n : Int)) (out ++ (oneL 0 n).map mkS) := by
  intro b
  induction b with
  | zero =>
    intro n out hn ho
    obtain rfl : n = 0 := by omega
    rw [one_low 0 (by omega)]
    refine Ev.step (fun k => ?_) (rz_j1 0 out ho)
    simp only [platenref12_zeros.l0]
    rw [if_neg (by omega), if_neg (by omega)]
  | succ b ih =>
    intro n out hn ho
    by_cases h11 : 11 ≤ n
    · obtain ⟨m, hm⟩ : ∃ m, min n 138 = m := ⟨_, rfl⟩
      have hmn : mn (n : Int) 138 = (m : Int) := by rw [← hm]; exact mn_nat n 138
      have e1 : wrap64 ((m : Int) - 11) % 256 = ((m - 11 : Nat) : Int) := by unfold wrap64; omega
      have e2 : wrap64 ((n : Int) - (m : Int)) = ((n - m : Nat) : Int) := by unfold wrap64; omega
      have h := ih (n - m) (out ++ [(⟨18, ((m - 11 : Nat) : Int)⟩ : S33)]) (by omega) (by rw [List.length_append]; simp; omega)
      rw [one_ge n h11, hm]
      rw [List.append_assoc] at h
      refine Ev.step (fun k => ?_) h
      simp only [platenref12_zeros.l0]
      rw [if_pos (by omega), if_pos (by omega), hmn, e1, e2]
    · by_cases h3 : 3 ≤ n
      · have e1 : wrap64 ((n : Int) - 3) % 256 = ((n - 3 : Nat) : Int) := by unfold wrap64; omega
        have h := rz_j1 0 (out ++ [(⟨17, ((n - 3 : Nat) : Int)⟩ : S33)]) (by rw [List.length_append]; simp; omega)
        rw [one_mid n h3 (by omega)]
        rw [List.replicate_zero, List.map_nil, List.append_nil] at h
        refine Ev.step (fun k => ?_) h
        simp only [platenref12_zeros.l0]
        rw [if_neg (by omega), if_pos (by omega), if_pos (by omega), e1]
        rfl
      · rw [one_low n (by omega)]
        refine Ev.step (fun k => ?_) (rz_j1 n out ho)
        simp only [platenref12_zeros.l0]
        rw [if_neg (by omega), if_neg (by omega)]
theorem ev_zeros (n : Nat) (out : List S33) (h : out.length + n ≤ 1000000) : Ev (fun k => platenref12_zeros.f k out (n : Int)) (out ++ (oneL 0 n).map mkS) :=
  Ev.congr (fun k => rfl) (rz_l0 n n out (Nat.le_refl _) h)
theorem ro_l1 (v : Int) : ∀ (m : Nat) (out : List S33), out.length + m ≤ 1000000 → Ev (fun k => platenref12_others.l1 k out v (m : Int)) (out ++ (List.replicate m ((v, 0) : Int × Int)).map mkS) := by
  intro m
  induction m with
  | zero => intro out _; refine ev_now fun k => ?_; simp only [platenref12_others.l1]; rw [if_neg (by omega)]; simp
  | succ m ih =>
    intro out ho
    have h := ih (out ++ [(⟨v, 0⟩ : S33)]) (by rw [List.length_append]; simp; omega)
    rw [List.append_assoc] at h
    refine Ev.step (fun k => ?_) h
    simp only [platenref12_others.l1]
    rw [if_pos (by omega), if_pos (by omega), pred_w m (by omega)]
theorem ro_l0 (v : Int) : ∀ (b n : Nat) (out : List S33), n ≤ b → out.length + n ≤ 1000000 → Ev (fun k => platenref12_others.l0 k out v (n : Int)) (out ++ ((reps 16 3 6 n).1 ++ List.replicate (reps 16 3 6 n).2 (v, 0)).map mkS) := by
  intro b
  induction b with
  | zero =>
    intro n out hn ho
    obtain rfl : n = 0 := by omega
    rw [reps_lt 16 (by omega)]
    refine Ev.step (fun k => ?_) (ro_l1 v 0 out ho)
    simp only [platenref12_others.l0]
    rw [if_neg (by omega)]
  | succ b ih =>
    intro n out hn ho
    by_cases h3 : 3 ≤ n
    · obtain ⟨m, hm⟩ : ∃ m, min n 6 = m := ⟨_, rfl⟩
      have hmn : mn (n : Int) 6 = (m : Int) := by rw [← hm]; exact mn_nat n 6
      have e1 : wrap64 ((m : Int) - 3) % 256 = ((m - 3 : Nat) : Int) := by unfold wrap64; omega
      have e2 : wrap64 ((n : Int) - (m : Int)) = ((n - m : Nat) : Int) := by unfold wrap64; omega
      have h := ih (n - m) (out ++ [(⟨16, ((m - 3 : Nat) : Int)⟩ : S33)]) (by omega) (by rw [List.length_append]; simp; omega)
      rw [reps_ge 16 (by omega) (by omega) h3, hm]
      rw [List.append_assoc] at h
      refine Ev.step (fun k => ?_) h
      simp only [platenref12_others.l0]
      rw [if_pos (by omega), if_pos (by omega), hmn, e1, e2]
    · rw [reps_lt 16 (by omega)]
      refine Ev.step (fun k => ?_) (ro_l1 v n out ho)
      simp only [platenref12_others.l0]
      rw [if_neg (by omega)]
theorem ev_others (v : Int) (hv : ¬ v = 0) (n : Nat) (hn : 1 ≤ n) (out : List S33) (h : out.length + n ≤ 1000000) : Ev (fun k => platenref12_others.f k out v (n : Int)) (out ++ (oneL v n).map mkS) := by
  obtain ⟨m, rfl⟩ : ∃ m, n = m + 1 := ⟨n - 1, by omega⟩
  have h1 := ro_l0 v m m (out ++ [(⟨v, 0⟩ : S33)]) (Nat.le_refl _) (by rw [List.length_append]; simp; omega)
  rw [List.append_assoc] at h1
  rw [oneL_other hv]
  refine Ev.congr (fun k => ?_) h1
  unfold platenref12_others.f
  rw [if_pos (by omega), pred_w m (by omega)]

theorem rd_drop (l : List Int) (i j : Nat) : rd l ((i + j : Nat) : Int) = (l.drop i).getD j 0 := by
  simp only [rd, Int.toNat_natCast, List.getD_eq_getElem?_getD, List.getElem?_drop]
theorem rp_l2 (l : List Int) (hl : l.length ≤ 2000) (acc : List S33) (i : Nat) (v : Int) (r : List Int) (hr : l.drop i = v :: r) (res : List S33 × Int)
    (h : Ev (fun k => platenref12_Pack.j3 k l acc ((i + headN (v :: r) : Nat) : Int) v (headN (v :: r) : Nat)) res) :
    ∀ (d j : Nat), j + d = headN (v :: r) → Ev (fun k => platenref12_Pack.l2 k l acc ((i + j : Nat) : Int) v (j : Int)) res := by
  have hle := headN_le (v :: r)
  have hlen : (v :: r).length = l.length - i := by rw [← hr, List.length_drop]
  have hpos := headN_pos v r
  intro d
  induction d with
  | zero =>
    intro j hj
    obtain rfl : j = headN (v :: r) := by omega
    refine Ev.step (fun k => ?_) h
    simp only [platenref12_Pack.l2]
    by_cases he : ((i + headN (v :: r) : Nat) : Int) < (l.length : Int)
    · have hne : ¬ rd l ((i + headN (v :: r) : Nat) : Int) = v := by
        rw [rd_drop, hr]
        exact head_end v r (by omega)
      rw [if_pos he, if_pos (by omega), if_neg hne]
    · rw [if_neg he]
  | succ d ih =>
    intro j hj
    have h1 := ih (j + 1) (by omega)
    have he : rd l ((i + j : Nat) : Int) = v := by rw [rd_drop, hr]; exact head_get v r j (by omega)
    refine Ev.step (fun k => ?_) h1
    simp only [platenref12_Pack.l2]
    rw [if_pos (by omega), if_pos (by omega), if_pos he, nat_w _ (by omega), nat_w j (by omega)]
    rfl
theorem rp_l1 (l : List Int) (hl : l.length ≤ 2000) : ∀ (b i : Nat) (acc : List S33), l.length - i ≤ b → i ≤ l.length → acc.length ≤ i → Ev (fun k => platenref12_Pack.l1 k l acc (i : Int)) (acc ++ toldS (l.drop i), 0) := by
  intro b
  induction b with
  | zero =>
    intro i acc hb hi ha
    rw [List.drop_of_length_le (by omega)]
    refine ev_now fun k => ?_
    simp only [platenref12_Pack.l1]
    rw [if_neg (by omega)]
    simp [toldS, toldL]
  | succ b ih =>
    intro i acc hb hi ha
    by_cases hil : i < l.length
    · obtain ⟨v, r, hr⟩ : ∃ v r, l.drop i = v :: r := by
        rw [List.drop_eq_getElem_cons hil]; exact ⟨_, _, rfl⟩
      have hle := headN_le (v :: r)
      have hlen : (v :: r).length = l.length - i := by rw [← hr, List.length_drop]
      have hpos := headN_pos v r
      have hv : rd l (i : Int) = v := by have := rd_drop l i 0; rw [Nat.add_zero, hr] at this; rw [this]; rfl
      obtain ⟨h, hh⟩ : ∃ h, headN (v :: r) = h := ⟨_, rfl⟩
      have hs : toldS (l.drop i) = (oneL v h).map mkS ++ toldS (l.drop (i + h)) := by
        rw [hr]
        unfold toldS
        rw [told_step, List.map_append, hh, ← hr, List.drop_drop]
      have hone : ((oneL v h).map mkS).length ≤ h := by rw [List.length_map]; exact oneL_len v h (by omega)
      have h1 := ih (i + h) (acc ++ (oneL v h).map mkS) (by omega) (by omega) (by rw [List.length_append]; omega)
      rw [List.append_assoc, ← hs] at h1
      have hj3 : Ev (fun k => platenref12_Pack.j3 k l acc ((i + headN (v :: r) : Nat) : Int) v (headN (v :: r) : Nat)) (acc ++ toldS (l.drop i), 0) := by
        rw [hh]
        by_cases h0 : v = 0
        · have hz := ev_zeros h acc (by omega)
          rw [← h0] at hz
          refine Ev.step (f := fun k => (platenref12_zeros.f k acc (h : Int)).bind fun t147 => (platenref12_Pack.l1 k l t147 ((i + h : Nat) : Int))) (fun k => ?_) (Ev.bind hz h1)
          simp only [platenref12_Pack.j3]
          rw [if_pos h0]
        · have hz := ev_others v h0 h (by omega) acc (by omega)
          refine Ev.step (f := fun k => (platenref12_others.f k acc v (h : Int)).bind fun t147 => (platenref12_Pack.l1 k l t147 ((i + h : Nat) : Int))) (fun k => ?_) (Ev.bind hz h1)
          simp only [platenref12_Pack.j3]
          rw [if_neg h0]
      have hl2 := rp_l2 l hl acc i v r hr _ hj3 (headN (v :: r)) 0 (by omega)
      refine Ev.step (fun k => ?_) hl2
      simp only [platenref12_Pack.l1]
      rw [if_pos (by omega), if_pos (by omega), hv]
      rfl
    · rw [List.drop_of_length_le (by omega)]
      refine ev_now fun k => ?_
      simp only [platenref12_Pack.l1]
      rw [if_neg (by omega)]
      simp [toldS, toldL]
theorem rp_l0 (l : List Int) (hl : l.length ≤ 2000) : ∀ (d i : Nat), i + d = l.length → (∀ x ∈ l.take i, x ≤ 15) →
    Ev (fun k => platenref12_Pack.l0 k l (i : Int)) (if l.all (fun x => decide (x ≤ 15)) = true then (toldS l, 0) else ([], 2)) := by
  intro d
  induction d with
  | zero =>
    intro i hi ht
    have hall : l.all (fun x => decide (x ≤ 15)) = true := by rw [List.take_of_length_le (by omega)] at ht; simpa using ht
    rw [if_pos hall]
    have h1 := rp_l1 l hl l.length 0 [] (by omega) (by omega) (by simp)
    rw [List.drop_zero, List.nil_append] at h1
    refine Ev.step (fun k => ?_) h1
    simp only [platenref12_Pack.l0]
    rw [if_neg (by omega)]
    rfl
  | succ d ih =>
    intro i hi ht
    have hil : i < l.length := by omega
    by_cases hx : rd l (i : Int) > 15
    · have hall : ¬ l.all (fun x => decide (x ≤ 15)) = true := by
        intro h
        have hm : rd l (i : Int) ∈ l := by simp [rd, hil]
        have := List.all_eq_true.1 h _ hm
        simp at this
        omega
      rw [if_neg hall]
      refine ev_now fun k => ?_
      simp only [platenref12_Pack.l0]
      rw [if_pos (by omega), if_pos (by omega), if_pos hx]
    · have h1 := ih (i + 1) (by omega) (take_more hil ht (by have : rd l (i : Int) = l.getD i 0 := by simp [rd]
                                                             omega))
      refine Ev.step (fun k => ?_) h1
      simp only [platenref12_Pack.l0]
      rw [if_pos (by omega), if_pos (by omega), if_neg hx, nat_w i (by omega)]
theorem ev_rpack (l : List Int) (hl : l.length ≤ 2000) : Ev (fun k => platenref12_Pack.f k l) (if l.all (fun x => decide (x ≤ 15)) = true then (toldS l, 0) else ([], 2)) :=
  Ev.congr (fun k => rfl) (rp_l0 l hl l.length 0 (by omega) (by simp))
end Go.Proofs.Ytkoohabljjbliaa.Pure
