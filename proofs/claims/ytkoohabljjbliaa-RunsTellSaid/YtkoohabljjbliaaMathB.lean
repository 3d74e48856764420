/-
  Runs: what runs that were told are.
-/
import Derived.Test.YtkoohabljjbliaaMath
import Derived.Test.YtkoohabljjbliaaPCx4
set_option linter.unusedSimpArgs false
set_option linter.unusedVariables false
namespace Go.Proofs.Ytkoohabljjbliaa.Pure
open Go.RowKit Go.Proofs.Ytkoohabljjbliaa.PC Go.Proofs.YtkoohabljjbliaaW.PrintWords Go.Proofs.YtkoohabljjbliaaW.PrintLast

abbrev mkS (p : Int × Int) : S33 := ⟨p.1, p.2⟩
theorem unp_lit (n v : Int) (out : List Int) (rest : List S33) (h0 : 0 ≤ v) (h15 : v ≤ 15) (hn : (out.length : Int) + 1 ≤ n) : unp n out (⟨v, 0⟩ :: rest) = unp n (out ++ [v]) rest := by
  have ht : timesI v 0 = (1, true) := by unfold timesI; rw [if_neg (by omega), if_pos (by omega), if_neg (by omega)]
  rw [unp, ht, if_pos rfl, if_neg (by intro h; rcases h with ⟨h, _⟩ | h <;> simp at h <;> omega)]
  have hv : valU out v = v := by unfold valU; rw [if_neg (by omega), if_neg (by omega)]
  simp only [hv]
  rfl
theorem unp_lits (n v : Int) (rest : List S33) (h0 : 0 ≤ v) (h15 : v ≤ 15) : ∀ (m : Nat) (out : List Int), (out.length : Int) + m ≤ n → unp n out ((List.replicate m ((v, 0) : Int × Int)).map mkS ++ rest) = unp n (out ++ List.replicate m v) rest := by
  intro m
  induction m with
  | zero => intro out _; simp
  | succ m ih =>
    intro out hn
    rw [List.replicate_succ, List.map_cons, List.cons_append, unp_lit n v out _ h0 h15 (by omega), ih _ (by rw [List.length_append]; simp; omega), List.append_assoc, List.replicate_succ]
    rfl
/-- what stands last -/
def lastIs (out : List Int) (v : Int) : Prop := ∃ o, out = o ++ [v]
theorem rd_last {out : List Int} {v : Int} (h : lastIs out v) : rd out ((out.length : Int) - 1) = v := by
  obtain ⟨o, rfl⟩ := h
  have : ((((o ++ [v]).length : Nat) : Int) - 1).toNat = o.length := by simp
  unfold rd
  rw [this]
  simp
theorem lastIs_rep {out : List Int} {v : Int} (m : Nat) (h : lastIs out v) : lastIs (out ++ List.replicate m v) v := by
  cases m with
  | zero => simpa using h
  | succ m => exact ⟨out ++ List.replicate m v, by rw [List.replicate_succ', List.append_assoc]⟩
theorem unp_reps (n : Int) (s least most : Nat) (v : Int) (rest : List S33) (h0 : 0 < least) (h1 : least ≤ most)
    (ht : ∀ x : Nat, x ≤ most - least → timesI (s : Int) (x : Int) = (((least + x : Nat) : Int), true)) (hv : ((s : Int) > 16 ∧ v = 0) ∨ s = 16) :
    ∀ (b c : Nat) (out : List Int), c ≤ b → (s = 16 → lastIs out v) → (out.length : Int) + c ≤ n →
      unp n out ((reps s least most c).1.map mkS ++ rest) = unp n (out ++ List.replicate (c - (reps s least most c).2) v) rest := by
  intro b
  induction b with
  | zero => intro c out hc _ _; rw [reps_lt s (by omega)]; simp
  | succ b ih =>
    intro c out hc hl hn
    by_cases hlt : c < least
    · rw [reps_lt s hlt]; simp
    · rw [reps_ge s h0 h1 (by omega)]
      obtain ⟨m, hm⟩ : ∃ m, min c most = m := ⟨_, rfl⟩
      have hm1 : least ≤ m := by omega
      have hm2 : m ≤ most := by omega
      have hm3 : m ≤ c := by omega
      rw [hm]
      have hle := reps_le s (n := c - m) h0 h1
      simp only [List.map_cons, List.cons_append]
      rw [unp, ht (m - least) (by omega), if_pos rfl]
      have hcond : ¬ ((((mkS ((s : Int), ((m - least : Nat) : Int))).f0 = 16) ∧ out = []) ∨ (out.length : Int) + ((least + (m - least) : Nat) : Int) > n) := by
        intro h
        rcases h with ⟨h, ho⟩ | h
        · have hs : s = 16 := by have : (s : Int) = 16 := h; omega
          obtain ⟨o, e⟩ := hl hs
          rw [ho] at e; simp at e
        · omega
      rw [if_neg hcond]
      have hval : valU out (s : Int) = v := by
        unfold valU
        rcases hv with ⟨h, rfl⟩ | rfl
        · rw [if_neg (by omega), if_pos h]
        · rw [if_pos (by decide)]; exact rd_last (hl rfl)
      have hnat : (((least + (m - least) : Nat) : Int)).toNat = m := by omega
      show unp n (out ++ List.replicate (((least + (m - least) : Nat) : Int)).toNat (valU out (s : Int))) _ = _
      rw [hnat, hval, ih (c - m) _ (by omega) (fun h => lastIs_rep m (hl h)) (by rw [List.length_append, List.length_replicate]; omega), List.append_assoc, List.replicate_append_replicate]
      congr 3
      omega
theorem t16 (x : Nat) (h : x ≤ 6 - 3) : timesI ((16 : Nat) : Int) (x : Int) = (((3 + x : Nat) : Int), true) := by
  unfold timesI; rw [if_neg (by omega), if_neg (by omega), if_pos (by omega), if_neg (by omega)]; simp
theorem t17 (x : Nat) (h : x ≤ 10 - 3) : timesI ((17 : Nat) : Int) (x : Int) = (((3 + x : Nat) : Int), true) := by
  unfold timesI; rw [if_neg (by omega), if_neg (by omega), if_neg (by omega), if_pos (by omega), if_neg (by omega)]; simp
theorem t18 (x : Nat) (h : x ≤ 138 - 11) : timesI ((18 : Nat) : Int) (x : Int) = (((11 + x : Nat) : Int), true) := by
  unfold timesI; rw [if_neg (by omega), if_neg (by omega), if_neg (by omega), if_neg (by omega), if_neg (by omega)]; simp
theorem unp_one (n v : Int) (rest : List S33) (h0 : 0 ≤ v) (h15 : v ≤ 15) (c : Nat) (hc : 1 ≤ c) (out : List Int) (hn : (out.length : Int) + c ≤ n) :
    unp n out ((oneL v c).map mkS ++ rest) = unp n (out ++ List.replicate c v) rest := by
  by_cases hv : v = 0
  · subst hv
    rw [oneL_zero]
    obtain ⟨n2, hn2⟩ : ∃ n2, (reps 18 11 138 c).2 = n2 := ⟨_, rfl⟩
    obtain ⟨n3, hn3⟩ : ∃ n3, (reps 17 3 10 n2).2 = n3 := ⟨_, rfl⟩
    have l2 := reps_le 18 (least := 11) (most := 138) (n := c) (by omega) (by omega)
    have l3 := reps_le 17 (least := 3) (most := 10) (n := n2) (by omega) (by omega)
    rw [hn2] at l2 ⊢
    rw [hn3] at l3 ⊢
    rw [List.map_append, List.map_append, List.append_assoc, List.append_assoc,
      unp_reps n 18 11 138 0 _ (by omega) (by omega) t18 (.inl ⟨by decide, rfl⟩) c c out (Nat.le_refl _) (fun h => by cases h) hn, hn2,
      unp_reps n 17 3 10 0 _ (by omega) (by omega) t17 (.inl ⟨by decide, rfl⟩) n2 n2 _ (Nat.le_refl _) (fun h => by cases h) (by rw [List.length_append, List.length_replicate]; omega), hn3,
      unp_lits n 0 _ (by omega) (by omega) n3 _ (by rw [List.length_append, List.length_append, List.length_replicate, List.length_replicate]; omega)]
    rw [List.append_assoc, List.append_assoc, List.replicate_append_replicate, List.replicate_append_replicate]
    congr 3
    omega
  · rw [oneL_other hv]
    obtain ⟨n2, hn2⟩ : ∃ n2, (reps 16 3 6 (c - 1)).2 = n2 := ⟨_, rfl⟩
    have l2 := reps_le 16 (least := 3) (most := 6) (n := c - 1) (by omega) (by omega)
    rw [hn2] at l2 ⊢
    rw [List.map_cons, List.map_append, List.cons_append, List.append_assoc]
    show unp n out (⟨v, 0⟩ :: _) = _
    rw [unp_lit n v out _ h0 h15 (by omega),
      unp_reps n 16 3 6 v _ (by omega) (by omega) t16 (.inr rfl) (c - 1) (c - 1) _ (Nat.le_refl _) (fun _ => ⟨out, rfl⟩) (by rw [List.length_append]; simp; omega), hn2,
      unp_lits n v _ h0 h15 n2 _ (by rw [List.length_append, List.length_append, List.length_replicate]; simp; omega)]
    rw [List.append_assoc, List.append_assoc, List.replicate_append_replicate, show [v] = List.replicate 1 v from rfl, List.replicate_append_replicate]
    congr 3
    omega
theorem takeWhile_rep (v : Int) : ∀ r : List Int, r.takeWhile (· == v) = List.replicate (r.takeWhile (· == v)).length v := by
  intro r
  induction r with
  | nil => rfl
  | cons x r ih =>
    rw [List.takeWhile_cons]
    by_cases hx : x = v
    · subst hx
      simp only [beq_self_eq_true, if_true, List.length_cons, List.replicate_succ]
      rw [← ih]
    · rw [if_neg (by simpa using hx)]; rfl
theorem head_split (v : Int) (r : List Int) : v :: r = List.replicate (headN (v :: r)) v ++ (v :: r).drop (headN (v :: r)) := by
  have h1 : headN (v :: r) = (r.takeWhile (· == v)).length + 1 := by simp only [headN]; omega
  rw [h1, List.replicate_succ, List.drop_succ_cons, List.cons_append, ← takeWhile_rep]
  congr 1
  have := List.takeWhile_append_dropWhile (p := (· == v)) (l := r)
  conv => lhs; rw [← this]
  congr 1
  have h2 : r.drop (r.takeWhile (· == v)).length = ((r.takeWhile (· == v)) ++ (r.dropWhile (· == v))).drop (r.takeWhile (· == v)).length := by rw [this]
  rw [h2, List.drop_left]
theorem unp_told (n : Int) (rest : List S33) : ∀ (b : Nat) (l : List Int), l.length ≤ b → (∀ x ∈ l, 0 ≤ x ∧ x ≤ 15) → ∀ out : List Int, (out.length : Int) + l.length ≤ n → unp n out (toldS l ++ rest) = unp n (out ++ l) rest := by
  intro b
  induction b with
  | zero => intro l hl hb out hn; obtain rfl : l = [] := List.length_eq_zero_iff.1 (by omega); simp [toldS, toldL]
  | succ b ih =>
    intro l hl hb out hn
    cases l with
    | nil => simp [toldS, toldL]
    | cons v r =>
      have hp := headN_pos v r
      have hle := headN_le (v :: r)
      have hs := head_split v r
      unfold toldS at ih ⊢
      rw [told_step, List.map_append, List.append_assoc]
      have h1 := unp_one n v ((toldL ((v :: r).drop (headN (v :: r)))).map mkS ++ rest) (hb v (by simp)).1 (hb v (by simp)).2 (headN (v :: r)) hp out (by omega)
      have h2 := ih ((v :: r).drop (headN (v :: r))) (by rw [List.length_drop]; omega) (fun x hx => hb x (List.mem_of_mem_drop hx)) (out ++ List.replicate (headN (v :: r)) v) (by rw [List.length_append, List.length_replicate, List.length_drop]; omega)
      refine h1.trans (h2.trans ?_)
      rw [List.append_assoc, ← hs]
theorem told_len (l : List Int) : ∀ b, l.length ≤ b → (toldL l).length ≤ l.length := by
  intro b
  induction b generalizing l with
  | zero => intro hl; obtain rfl : l = [] := List.length_eq_zero_iff.1 (by omega); simp [toldL]
  | succ b ih =>
    intro hl
    cases l with
    | nil => simp [toldL]
    | cons v r =>
      have hp := headN_pos v r
      have hle := headN_le (v :: r)
      rw [told_step, List.length_append]
      have h1 := oneL_len v (headN (v :: r)) hp
      have h2 := ih ((v :: r).drop (headN (v :: r))) (by rw [List.length_drop]; omega)
      rw [List.length_drop] at h2
      omega
end Go.Proofs.Ytkoohabljjbliaa.Pure
