/-
  CanonTells: for every lengths and counts, the law answers true.
-/
import Derived.Test.YtogpjdiammecjaaPCx14
import Derived.Test.YtogpjdiammecjaaMathA
set_option linter.unusedSimpArgs false
set_option linter.unusedVariables false
namespace Go.Proofs.Ytogpjdiammecjaa.Pure
open Go.RowKit Go.Proofs.Ytogpjdiammecjaa.PC Go.Proofs.YtogpjdiammecjaaW.PrintWords Go.Proofs.YtogpjdiammecjaaW.PrintLast

theorem ev_alive : Ev (fun k => platenlaw05_alive.f k) true := Ev.of (fun k => platenlaw05_alive.mono k) (alive_some 0)
theorem ev_now {α : Type} {g : Nat → Option α} {r : α} (h : ∀ k, g (k + 1) = some r) : Ev g r := Ev.step h (Ev.now r)
theorem nat_w (i : Nat) (h : i ≤ 1000000) : wrap64 ((i : Int) + 1) = ((i + 1 : Nat) : Int) := by unfold wrap64; omega
theorem nat_w0 (i : Nat) (h : i ≤ 1000000000) : wrap64 (i : Int) = (i : Int) := by unfold wrap64; omega
theorem nat_w2 (i : Nat) (h : i ≤ 1000000000) : wrap64 (2 * (i : Int)) = ((2 * i : Nat) : Int) := by unfold wrap64; omega
theorem nat_wa (i j : Nat) (h : i ≤ 1000000000) (h2 : j ≤ 1000000000) : wrap64 ((i : Int) + (j : Int)) = ((i + j : Nat) : Int) := by unfold wrap64; omega

/-! the reference's Kind -/
theorem rk_l1 (l : List Int) (r : Int) (x3 x4 : Nat) (x5 : Int) (i : Nat) (h3 : x3 ≤ 100000000) : ∀ (m x7 x8 : Nat), x8 + m = 15 → x7 * 2 ^ m ≤ 32768 →
    Ev (fun k => platenref05_Kind.l0 k l ((x3 + x7 * 2 ^ m : Nat) : Int) (x4 : Int) x5 (wrap64 ((i : Int) + 1))) r → Ev (fun k => platenref05_Kind.l1 k l (x3 : Int) (x4 : Int) x5 (i : Int) (x7 : Int) (x8 : Int)) r := by
  intro m
  induction m with
  | zero =>
    intro x7 x8 h8 hb h
    refine Ev.step (fun k => ?_) h
    simp only [platenref05_Kind.l1]
    rw [if_neg (by omega), nat_wa _ _ (by omega) (by simpa using (by omega : x7 ≤ 1000000000))]
    simp
  | succ m ih =>
    intro x7 x8 h8 hb h
    have e : x7 * 2 ^ (m + 1) = 2 * x7 * 2 ^ m := by rw [Nat.pow_succ, Nat.mul_comm 2 x7, Nat.mul_assoc, Nat.mul_comm 2]
    rw [e] at h hb
    have h7 : x7 ≤ 32768 := by
      have : 2 * x7 * 1 ≤ 2 * x7 * 2 ^ m := Nat.mul_le_mul_left _ (Nat.pow_pos (by omega))
      omega
    refine Ev.step (fun k => ?_) (ih (2 * x7) (x8 + 1) (by omega) hb h)
    simp only [platenref05_Kind.l1]
    rw [if_pos (by omega), nat_w2 _ (by omega), nat_w _ (by omega)]
theorem sum_take (f : Int → Nat) (l : List Int) (i : Nat) (h : i < l.length) : ((l.take (i + 1)).map f).sum = ((l.take i).map f).sum + f (rd l (i : Int)) := by
  rw [take_snoc_int l i h, List.map_append, List.sum_append]; simp
theorem wsum_le (l : List Int) : wsum l ≤ l.length * 32768 := by
  induction l with
  | nil => exact Nat.le_refl _
  | cons x l ih =>
    have : wOf x ≤ 32768 := by
      unfold wOf
      split
      · have : (2 : Nat) ^ (15 - x.toNat) ≤ 2 ^ 15 := Nat.pow_le_pow_right (by omega) (by omega)
        exact this
      · omega
    unfold wsum at ih ⊢
    simp only [List.map_cons, List.sum_cons, List.length_cons]
    omega
theorem asum_le (l : List Int) : asum l ≤ l.length := by
  induction l with
  | nil => exact Nat.le_refl _
  | cons x l ih =>
    have : aOf x ≤ 1 := by unfold aOf; split <;> omega
    unfold asum at ih ⊢
    simp only [List.map_cons, List.sum_cons, List.length_cons]
    omega
theorem rk_l0 (l : List Int) (hl : l.length ≤ 320) (hb : ∀ x ∈ l, 0 ≤ x ∧ x < 256) : ∀ (d i : Nat) (x5 : Int), i + d = l.length → (∀ x ∈ l.take i, x ≤ 15) → (asum (l.take i) = 0 → (l.take i).count 1 = 0) → (asum (l.take i) = 1 → ((l.take i).count 1 = 1 ↔ x5 = 1)) →
    Ev (fun k => platenref05_Kind.l0 k l (wsum (l.take i) : Int) (asum (l.take i) : Int) x5 (i : Int)) (kindI l) := by
  intro d
  induction d with
  | zero =>
    intro i x5 hi hx h0 h1
    have ht : l.take i = l := List.take_of_length_le (by omega)
    rw [ht] at hx h0 h1 ⊢
    have hg : good l = true := (good_iff l).2 ⟨hl, hx⟩
    refine ev_now fun k => ?_
    simp only [platenref05_Kind.l0]
    rw [if_neg (by omega), kind_eq l hg]
    by_cases c0 : asum l = 0
    · rw [if_pos (by omega), if_pos c0]
    rw [if_neg (by omega), if_neg c0]
    by_cases c1 : 32768 < wsum l
    · rw [if_pos (by omega), if_pos c1]
    rw [if_neg (by omega), if_neg c1]
    by_cases c2 : wsum l = 32768
    · rw [if_pos (by omega), if_pos c2]
    rw [if_neg (by omega), if_neg c2]
    by_cases c3 : asum l = 1
    · rw [if_pos (by omega)]
      by_cases c4 : x5 = 1
      · rw [if_pos c4, if_pos ⟨c3, (h1 c3).2 c4⟩]
      · rw [if_neg c4, if_neg (fun h => c4 ((h1 c3).1 h.2))]
    · rw [if_neg (by omega), if_neg (fun h => c3 h.1)]
  | succ d ih =>
    intro i x5 hi hx h0 h1
    have hlt : i < l.length := by omega
    obtain ⟨b0, b1⟩ := hb _ (rd_mem' l i hlt)
    have wb := wsum_le (l.take i)
    have ab := asum_le (l.take i)
    rw [List.length_take] at wb ab
    have sw := sum_take wOf l i hlt
    have sa := sum_take aOf l i hlt
    have sc : (l.take (i + 1)).count 1 = (l.take i).count 1 + if rd l (i : Int) = 1 then 1 else 0 := by
      rw [take_snoc_int l i hlt, List.count_append, List.count_singleton]
      congr 1
      by_cases e : rd l (i : Int) = 1
      · rw [if_pos e, if_pos (by simpa using e)]
      · rw [if_neg e, if_neg (by simpa using e)]
    change wsum (l.take (i + 1)) = wsum (l.take i) + _ at sw
    change asum (l.take (i + 1)) = asum (l.take i) + _ at sa
    by_cases c15 : rd l (i : Int) > 15
    · have hg : good l = false := by
        cases hg : good l with
        | false => rfl
        | true => exact absurd (((good_iff l).1 hg).2 _ (rd_mem' l i hlt)) (by omega)
      rw [kind_bad5 l hg]
      refine ev_now fun k => ?_
      simp only [platenref05_Kind.l0]
      rw [if_pos (by omega), if_pos (by omega), if_pos c15]
    · have hx' : ∀ x ∈ l.take (i + 1), x ≤ 15 := by
        rw [take_snoc_int l i hlt]
        intro x hx2
        rcases List.mem_append.1 hx2 with h | h
        · exact hx x h
        · rw [List.mem_singleton.1 h]; omega
      by_cases c0 : rd l (i : Int) = 0
      · rw [c0, show wOf 0 = 0 from rfl, Nat.add_zero] at sw
        rw [c0, show aOf 0 = 0 from rfl, Nat.add_zero] at sa
        rw [c0, if_neg (by omega), Nat.add_zero] at sc
        have := ih (i + 1) x5 (by omega) hx' (by rw [sa, sc]; exact h0) (by rw [sa, sc]; exact h1)
        rw [sw, sa] at this
        refine Ev.step (fun k => ?_) this
        simp only [platenref05_Kind.l0]
        rw [if_pos (by omega), if_pos (by omega), if_neg c15, if_pos c0, nat_w i (by omega)]
        rfl
      · obtain ⟨n, hn⟩ : ∃ n : Nat, rd l (i : Int) = (n : Int) := ⟨(rd l (i : Int)).toNat, by omega⟩
        have hw : wOf (rd l (i : Int)) = 1 * 2 ^ (15 - n) := by unfold wOf; rw [if_pos (by omega), hn, Nat.one_mul]; simp
        have ha : aOf (rd l (i : Int)) = 1 := by unfold aOf; rw [if_pos (by omega)]
        rw [hw] at sw
        rw [ha] at sa
        have hp : 1 * 2 ^ (15 - n) ≤ 32768 := by
          have : (2 : Nat) ^ (15 - n) ≤ 2 ^ 15 := Nat.pow_le_pow_right (by omega) (by omega)
          rw [Nat.one_mul]
          exact this
        have := ih (i + 1) (rd l (i : Int)) (by omega) hx' (by omega) (by
          intro h
          have ha0 : asum (l.take i) = 0 := by omega
          rw [sc, h0 ha0]
          by_cases e : rd l (i : Int) = 1
          · rw [if_pos e]; simp [e]
          · rw [if_neg e]; simp [e])
        rw [sw, sa, ← nat_w i (by omega)] at this
        have h2 := rk_l1 l (kindI l) (wsum (l.take i)) (asum (l.take i) + 1) (rd l (i : Int)) i (by omega) (15 - n) 1 n (by omega) hp this
        refine Ev.step (fun k => ?_) h2
        simp only [platenref05_Kind.l0]
        rw [if_pos (by omega), if_pos (by omega), if_neg c15, if_neg c0, nat_w _ (by omega), hn, nat_w0 n (by omega)]
        rfl
theorem rk_all (l : List Int) (hb : ∀ x ∈ l, 0 ≤ x ∧ x < 256) : Ev (fun k => platenref05_Kind.f k l) (kindI l) := by
  by_cases h : (l.length : Int) > 320
  · have hg : good l = false := by
      cases hg : good l with
      | false => rfl
      | true => exact absurd ((good_iff l).1 hg).1 (by omega)
    rw [kind_bad5 l hg]
    exact Ev.congr (fun k => by unfold platenref05_Kind.f; rw [if_pos h]) (Ev.now 5)
  · have := rk_l0 l (by omega) hb l.length 0 0 (by omega) (by simp) (fun _ => by simp) (fun h => by simp [asum] at h)
    exact Ev.congr (fun k => by unfold platenref05_Kind.f; rw [if_neg h]; rfl) this

/-! the reference's Codes -/
def wp (l : List Int) (n i : Nat) : Nat := wtK l n + (l.take i).count (n : Int) * 2 ^ (15 - n)
def outK (l : List Int) (n i : Nat) : List S31 := (List.range l.length).map fun (j : Nat) => if rd l (j : Int) ≠ 0 ∧ (rd l (j : Int) < n ∨ rd l (j : Int) = n ∧ j < i) then (⟨((codeAt l j).1 : Int), ((codeAt l j).2 : Int)⟩ : S31) else z31
theorem outK_length (l : List Int) (n i : Nat) : (outK l n i).length = l.length := by simp [outK]
theorem outK_get (l : List Int) (n i j : Nat) (h : j < l.length) : (outK l n i)[j]? = some (if rd l (j : Int) ≠ 0 ∧ (rd l (j : Int) < n ∨ rd l (j : Int) = n ∧ j < i) then (⟨((codeAt l j).1 : Int), ((codeAt l j).2 : Int)⟩ : S31) else z31) := by simp [outK, h]
theorem outK_skip (l : List Int) (n i : Nat) (h : rd l (i : Int) ≠ n) : outK l n (i + 1) = outK l n i := by
  simp only [outK]
  apply List.map_congr_left
  intro j _
  by_cases e : j = i
  · subst e
    by_cases c : rd l (j : Int) ≠ 0 ∧ (rd l (j : Int) < n ∨ rd l (j : Int) = n ∧ j < j)
    · rw [if_pos c, if_pos ⟨c.1, by omega⟩]
    · rw [if_neg c, if_neg (by omega)]
  · by_cases c : rd l (j : Int) ≠ 0 ∧ (rd l (j : Int) < n ∨ rd l (j : Int) = n ∧ j < i)
    · rw [if_pos c, if_pos ⟨c.1, by omega⟩]
    · rw [if_neg c, if_neg (by omega)]
theorem outK_set (l : List Int) (n i : Nat) (hi : i < l.length) (h : rd l (i : Int) = n) (h0 : 0 < n) : (outK l n i).set i (⟨((codeAt l i).1 : Int), ((codeAt l i).2 : Int)⟩ : S31) = outK l n (i + 1) := by
  apply List.ext_getElem?
  intro j
  by_cases hj : j < l.length
  · rw [List.getElem?_set, outK_length, outK_get _ _ _ _ hj, outK_get _ _ _ _ hj]
    by_cases e : i = j
    · subst e
      rw [if_pos rfl, if_pos hj, if_pos ⟨by omega, by omega⟩]
    · rw [if_neg e]
      by_cases c : rd l (j : Int) ≠ 0 ∧ (rd l (j : Int) < n ∨ rd l (j : Int) = n ∧ j < i)
      · rw [if_pos c, if_pos ⟨c.1, by omega⟩]
      · rw [if_neg c, if_neg (by omega)]
  · rw [List.getElem?_eq_none (by rw [List.length_set, outK_length]; omega), List.getElem?_eq_none (by rw [outK_length]; omega)]
theorem outK_next (l : List Int) (n : Nat) : outK l (n + 1) 0 = outK l n l.length := by
  simp only [outK]
  apply List.map_congr_left
  intro j hj
  have hj : j < l.length := by simpa using hj
  by_cases c : rd l (j : Int) ≠ 0 ∧ (rd l (j : Int) < n ∨ rd l (j : Int) = n ∧ j < l.length)
  · rw [if_pos c, if_pos ⟨c.1, by omega⟩]
  · rw [if_neg c, if_neg (by omega)]
theorem outK_end (l : List Int) (hg : ∀ x ∈ l, 0 ≤ x ∧ x ≤ 15) : outK l 16 0 = codesS l := by
  apply List.ext_getElem?
  intro j
  by_cases hj : j < l.length
  · rw [outK_get _ _ _ _ hj, codesS_get l j hj]
    have := hg _ (rd_mem' l j hj)
    by_cases c : rd l (j : Int) = 0
    · rw [if_neg (by omega)]
      have : codeAt l j = (0, 0) := by unfold codeAt; rw [if_pos c]
      rw [this]; rfl
    · rw [if_pos ⟨c, by omega⟩]
  · rw [List.getElem?_eq_none (by rw [outK_length]; omega), List.getElem?_eq_none (by rw [codesS_length]; omega)]
theorem outK_begin (l : List Int) (hg : ∀ x ∈ l, 0 ≤ x ∧ x ≤ 15) : outK l 1 0 = List.replicate l.length z31 := by
  apply List.ext_getElem?
  intro j
  by_cases hj : j < l.length
  · have := hg _ (rd_mem' l j hj)
    rw [outK_get _ _ _ _ hj, if_neg (by omega), List.getElem?_replicate, if_pos hj]
  · rw [List.getElem?_eq_none (by rw [outK_length]; omega), List.getElem?_eq_none (by simp; omega)]
theorem wp_skip (l : List Int) (n i : Nat) (hi : i < l.length) (h : rd l (i : Int) ≠ n) : wp l n (i + 1) = wp l n i := by
  unfold wp
  rw [take_snoc_int l i hi, List.count_append, List.count_singleton, if_neg (by simpa using h)]
  rfl
theorem wp_hit (l : List Int) (n i : Nat) (hi : i < l.length) (h : rd l (i : Int) = n) : wp l n (i + 1) = wp l n i + 2 ^ (15 - n) := by
  unfold wp
  rw [take_snoc_int l i hi, List.count_append, List.count_singleton, if_pos (by simpa using h), Nat.add_mul]
  omega
theorem wp_next (l : List Int) (n : Nat) (h : 0 < n) : wp l (n + 1) 0 = wp l n l.length := by
  unfold wp
  rw [List.take_of_length_le (Nat.le_refl _), wtK_succ l n h]
  simp
/-- what is known of the last code, behind so many symbols -/
def St (l : List Int) (n i next size : Nat) (first : Bool) : Prop :=
  (first = true ∧ next = 0 ∧ size = 0 ∧ wp l n i = 0) ∨ (first = false ∧ 1 ≤ size ∧ size ≤ n ∧ (next + 1) * 2 ^ (15 - size) = wp l n i)
theorem rc_l2 (l : List Int) (r : List S31 × Int) (out : List S31) (n i : Nat) (h15 : n ≤ 15) (hi : i < l.length) (ho : out.length = l.length) (hl : l.length ≤ 400) : ∀ (m v size : Nat), size + m = n → v * 2 ^ m ≤ 32768 →
    Ev (fun k => platenref05_Codes.l1 k l (out.set i (⟨((v * 2 ^ m : Nat) : Int), rd l (i : Int)⟩ : S31)) ((v * 2 ^ m : Nat) : Int) (n : Int) false (n : Int) ((i + 1 : Nat) : Int)) r →
    Ev (fun k => platenref05_Codes.l2 k l out (v : Int) (size : Int) (n : Int) (i : Int)) r := by
  intro m
  induction m with
  | zero =>
    intro v size hs hv h
    refine Ev.step (fun k => ?_) h
    simp only [platenref05_Codes.l2]
    rw [if_neg (by omega), if_pos (by omega), if_pos (by omega), if_pos (by omega), nat_w i (by omega), Int.toNat_natCast, show size = n by omega]
    simp
  | succ m ih =>
    intro v size hs hv h
    have e : v * 2 ^ (m + 1) = 2 * v * 2 ^ m := by rw [Nat.pow_succ, Nat.mul_comm 2 v, Nat.mul_assoc, Nat.mul_comm 2]
    rw [e] at h hv
    have h7 : v ≤ 32768 := by
      have : 2 * v * 1 ≤ 2 * v * 2 ^ m := Nat.mul_le_mul_left _ (Nat.pow_pos (by omega))
      omega
    refine Ev.step (fun k => ?_) (ih (2 * v) (size + 1) (by omega) hv h)
    simp only [platenref05_Codes.l2]
    rw [if_pos (by omega), nat_w size (by omega), show (2 * (v : Int)) % 4294967296 = ((2 * v : Nat) : Int) by omega]
theorem rc_l1 (l : List Int) (hg : ∀ x ∈ l, 0 ≤ x ∧ x ≤ 15) (hl : l.length ≤ 400) (hw : wtK l 16 ≤ 32768) (n : Nat) (h0 : 1 ≤ n) (h15 : n ≤ 15) (r : List S31 × Int)
    (hend : ∀ next size first, St l (n + 1) 0 next size first → Ev (fun k => platenref05_Codes.l0 k l (outK l (n + 1) 0) (next : Int) (size : Int) first ((n + 1 : Nat) : Int)) r) :
    ∀ (d i next size : Nat) (first : Bool), i + d = l.length → St l n i next size first → Ev (fun k => platenref05_Codes.l1 k l (outK l n i) (next : Int) (size : Int) first (n : Int) (i : Int)) r := by
  intro d
  induction d with
  | zero =>
    intro i next size first hi hs
    obtain rfl : i = l.length := by omega
    have hs2 : St l (n + 1) 0 next size first := by
      unfold St at hs ⊢
      rw [wp_next l n h0]
      rcases hs with ⟨a, b, c, d⟩ | ⟨a, b, c, d⟩
      · exact .inl ⟨a, b, c, d⟩
      · exact .inr ⟨a, b, by omega, d⟩
    refine Ev.step (fun k => ?_) (hend next size first hs2)
    simp only [platenref05_Codes.l1]
    rw [if_neg (by omega), nat_w n (by omega), outK_next]
  | succ d ih =>
    intro i next size first hi hs
    have hlt : i < l.length := by omega
    have hx := hg _ (rd_mem' l i hlt)
    have ew : wrap64 (rd l (i : Int)) = rd l (i : Int) := by unfold wrap64; omega
    by_cases he : rd l (i : Int) = n
    · have hc : codeAt l i = (startN l n + (l.take i).count (n : Int), n) := by
        unfold codeAt
        rw [he, if_neg (by omega)]
        simp
      have hpos : 0 < 2 ^ (15 - n) := Nat.pow_pos (by omega)
      have hwp : (codeAt l i).1 * 2 ^ (15 - n) = wp l n i := by
        rw [hc]
        show (startN l n + (l.take i).count (n : Int)) * 2 ^ (15 - n) = _
        rw [Nat.add_mul, start_weight l n h0 h15]
        rfl
      have hclt : (codeAt l i).1 < 2 ^ n := by
        have hs := start_le l hw n h0 h15
        have h1 : (l.take (i + 1)).count (n : Int) = (l.take i).count (n : Int) + 1 := by rw [take_snoc_int l i hlt, he, List.count_append]; simp
        have h2 : (l.take (i + 1)).count (n : Int) ≤ l.count (n : Int) := (List.take_sublist (i + 1) l).count_le _
        rw [hc]
        show startN l n + (l.take i).count (n : Int) < 2 ^ n
        omega
      have hp15 : (2 : Nat) ^ n ≤ 2 ^ 15 := Nat.pow_le_pow_right (by omega) h15
      have hp15 : (2 : Nat) ^ n ≤ 32768 := hp15
      have hnext : St l n (i + 1) (codeAt l i).1 n false := .inr ⟨rfl, h0, Nat.le_refl _, by rw [Nat.add_mul, hwp, Nat.one_mul, wp_hit l n i hlt he]⟩
      have hrec := ih (i + 1) (codeAt l i).1 n false (by omega) hnext
      rw [← outK_set l n i hlt he (by omega)] at hrec
      have e2 : ((codeAt l i).2 : Int) = rd l (i : Int) := by rw [hc, he]
      rw [e2] at hrec
      have go : ∀ v, v * 2 ^ (n - size) = (codeAt l i).1 → size ≤ n → Ev (fun k => platenref05_Codes.j2 k l (outK l n i) (v : Int) (size : Int) (n : Int) (i : Int)) r := by
        intro v hv hsn
        refine Ev.step (fun k => by simp only [platenref05_Codes.j2]) (rc_l2 l r (outK l n i) n i h15 hlt (outK_length l n i) hl (n - size) v size (by omega) (by omega) ?_)
        rw [hv]
        exact hrec
      rcases hs with ⟨rfl, rfl, rfl, hz⟩ | ⟨rfl, h1, h2, h3⟩
      · have hc0 : (codeAt l i).1 = 0 := by
          rw [hz] at hwp
          rcases Nat.mul_eq_zero.1 hwp with h | h
          · exact h
          · omega
        refine Ev.step (fun k => ?_) (go 0 (by rw [hc0]; simp) (by omega))
        simp only [platenref05_Codes.l1]
        rw [if_pos (by omega), if_pos (by omega), ew, if_pos he, if_pos trivial]
      · have hv : (next + 1) * 2 ^ (n - size) = (codeAt l i).1 := by
          apply Nat.eq_of_mul_eq_mul_right hpos
          rw [hwp, ← h3, Nat.mul_assoc, ← Nat.pow_add]
          congr 2
          omega
        have hsm : next + 1 ≤ 32768 := by
          have : (next + 1) * 1 ≤ (next + 1) * 2 ^ (n - size) := Nat.mul_le_mul_left _ (Nat.pow_pos (by omega))
          omega
        refine Ev.step (fun k => ?_) (go (next + 1) hv h2)
        simp only [platenref05_Codes.l1]
        rw [if_pos (by omega), if_pos (by omega), ew, if_pos he, if_neg (by simp), show ((next : Int) + 1) % 4294967296 = ((next + 1 : Nat) : Int) by omega]
    · have hs2 : St l n (i + 1) next size first := by
        unfold St at hs ⊢
        rw [wp_skip l n i hlt he]
        exact hs
      have hrec := ih (i + 1) next size first (by omega) hs2
      rw [outK_skip l n i he] at hrec
      refine Ev.step (fun k => ?_) hrec
      simp only [platenref05_Codes.l1]
      rw [if_pos (by omega), if_pos (by omega), ew, if_neg he, nat_w i (by omega)]
theorem rc_l0 (l : List Int) (hg : ∀ x ∈ l, 0 ≤ x ∧ x ≤ 15) (hl : l.length ≤ 400) (hw : wtK l 16 ≤ 32768) : ∀ (d n next size : Nat) (first : Bool), n + d = 16 → 1 ≤ n → St l n 0 next size first →
    Ev (fun k => platenref05_Codes.l0 k l (outK l n 0) (next : Int) (size : Int) first (n : Int)) (codesS l, 0) := by
  intro d
  induction d with
  | zero =>
    intro n next size first hn h1 hs
    obtain rfl : n = 16 := by omega
    rw [outK_end l hg]
    refine ev_now fun k => ?_
    simp only [platenref05_Codes.l0]
    rw [if_neg (by omega)]
  | succ d ih =>
    intro n next size first hn h1 hs
    refine Ev.step (fun k => ?_) (rc_l1 l hg hl hw n h1 (by omega) (codesS l, 0) (fun next size first hs => ih (n + 1) next size first (by omega) (by omega) hs) l.length 0 next size first (by omega) hs)
    simp only [platenref05_Codes.l0]
    rw [if_pos (by omega)]
    rfl
theorem rc_all (l : List Int) (hb : ∀ x ∈ l, 0 ≤ x ∧ x < 256) (hl : l.length ≤ 400) (h5 : kindI l ≠ 5) (h4 : kindI l ≠ 4) : Ev (fun k => platenref05_Codes.f k l) (codesS l, 0) := by
  obtain ⟨hgd, hw⟩ := kind_of_ok l h5 h4
  have hg : ∀ x ∈ l, 0 ≤ x ∧ x ≤ 15 := fun x hx => ⟨(hb x hx).1, ((good_iff l).1 hgd).2 x hx⟩
  have h0 := rc_l0 l hg hl hw 15 1 0 0 true (by omega) (by omega) (.inl ⟨rfl, rfl, rfl, by unfold wp; simp [wtK]⟩)
  rw [outK_begin l hg] at h0
  refine Ev.congr (fun k => rfl) (Ev.bind (rk_all l hb) ?_)
  refine Ev.congr (fun k => ?_) h0
  show (if kindI l = 5 then _ else _) = _
  rw [if_neg h5, if_neg h4, if_pos (by omega), if_pos (by omega), Int.toNat_natCast]
  rfl

/-! the others -/
theorem ev_same (a b : List S31) (h : a = b) (hl : a.length ≤ 1000000) : Ev (fun k => platenref05_Same.f k a b) true := Ev.of (fun k => platenref05_Same.mono a b k) (same_some (a.length + 1) a b h (by omega) hl)
theorem ev_samelens (l : List Int) (hl : l.length ≤ 1000) : Ev (fun k => platenref05_SameLens.f k l l) true := by
  have key : ∀ (d i : Nat), i + d = l.length → Ev (fun k => platenref05_SameLens.l0 k l l (i : Int)) true := by
    intro d
    induction d with
    | zero =>
      intro i hi
      refine ev_now fun k => ?_
      simp only [platenref05_SameLens.l0]
      rw [if_neg (by omega)]
    | succ d ih =>
      intro i hi
      refine Ev.step (fun k => ?_) (ih (i + 1) (by omega))
      simp only [platenref05_SameLens.l0]
      rw [if_pos (by omega), if_pos (by omega), if_pos (by omega), if_pos trivial, nat_w i (by omega)]
  exact Ev.congr (fun k => by unfold platenref05_SameLens.f; rw [if_pos rfl]; rfl) (key l.length 0 (by omega))
def lnK (l : List Int) (i : Nat) : List Int := (List.range l.length).map fun (j : Nat) => if j < i then rd l (j : Int) else 0
theorem lnK_length (l : List Int) (i : Nat) : (lnK l i).length = l.length := by simp [lnK]
theorem lnK_get (l : List Int) (i j : Nat) (h : j < l.length) : (lnK l i)[j]? = some (if j < i then rd l (j : Int) else 0) := by simp [lnK, h]
theorem lnK_set (l : List Int) (i : Nat) (h : i < l.length) : (lnK l i).set i (rd l (i : Int)) = lnK l (i + 1) := by
  apply List.ext_getElem?
  intro j
  by_cases hj : j < l.length
  · rw [List.getElem?_set, lnK_length, lnK_get _ _ _ hj, lnK_get _ _ _ hj]
    by_cases e : i = j
    · subst e; rw [if_pos rfl, if_pos hj, if_pos (by omega)]
    · rw [if_neg e]
      by_cases h1 : j < i
      · rw [if_pos h1, if_pos (by omega)]
      · rw [if_neg h1, if_neg (by omega)]
  · rw [List.getElem?_eq_none (by rw [List.length_set, lnK_length]; omega), List.getElem?_eq_none (by rw [lnK_length]; omega)]
theorem lnK_all (l : List Int) : lnK l l.length = l := by
  apply List.ext_getElem?
  intro j
  by_cases hj : j < l.length
  · rw [lnK_get _ _ _ hj, if_pos hj, rd_get? l j hj]
  · rw [List.getElem?_eq_none (by rw [lnK_length]; omega), List.getElem?_eq_none (by omega)]
theorem code_len (l : List Int) (i : Nat) (h : 0 ≤ rd l (i : Int)) : ((codeAt l i).2 : Int) = rd l (i : Int) := by
  unfold codeAt
  by_cases e : rd l (i : Int) = 0
  · rw [if_pos e, e]; rfl
  · rw [if_neg e]
    exact Int.toNat_of_nonneg h
theorem ev_lens (l : List Int) (hb : ∀ x ∈ l, 0 ≤ x ∧ x < 256) (hl : l.length ≤ 1000) : Ev (fun k => canon_Lens.f k (codesS l)) l := by
  have key : ∀ (d i : Nat), i + d = l.length → Ev (fun k => canon_Lens.l0 k (lnK l i) (codesS l) (l.length : Int) (i : Int)) l := by
    intro d
    induction d with
    | zero =>
      intro i hi
      obtain rfl : i = l.length := by omega
      refine ev_now fun k => ?_
      simp only [canon_Lens.l0]
      rw [if_neg (by omega), lnK_all]
    | succ d ih =>
      intro i hi
      refine Ev.step (fun k => ?_) (ih (i + 1) (by omega))
      simp only [canon_Lens.l0]
      rw [if_pos (by omega), if_pos (by omega), if_pos (by rw [codesS_length]; omega), if_pos (by rw [lnK_length]; omega), codesS_rd l i (by omega), Int.toNat_natCast, nat_w i (by omega), ← lnK_set l i (by omega)]
      show canon_Lens.l0 k ((lnK l i).set i ((codeAt l i).2 : Int)) _ _ _ = _
      rw [code_len l i (hb _ (rd_mem' l i (by omega))).1]
  have hz : List.replicate l.length (0 : Int) = lnK l 0 := by
    simp only [lnK, Nat.not_lt_zero, if_false]
    rw [show (fun (_ : Nat) => (0 : Int)) = Function.const Nat 0 from rfl, List.map_const, List.length_range]
  refine Ev.congr (fun k => ?_) (key l.length 0 (by omega))
  unfold canon_Lens.f
  rw [codesS_length, if_pos (by omega), if_pos (by omega), Int.toNat_natCast, hz]
  rfl
theorem weighK_range (l c : List Int) (k : Nat) : wrap64 (weighK l c k) = weighK l c k := by
  cases k with
  | zero =>
    show wrap64 0 = 0
    decide +kernel
  | succ k =>
    simp only [weighK]
    generalize weighK l c k + wrap64 (rd l (k : Int) * if rd c (k : Int) < 0 then 0 else rd c (k : Int)) = x
    unfold wrap64
    omega
theorem ev_weigh (l c : List Int) (hb : ∀ x ∈ l, 0 ≤ x ∧ x < 256) (hl : l.length ≤ 1000) : Ev (fun k => platenref05_Weigh.f k l c) (weighK l c (min l.length c.length)) := by
  have key : ∀ (d i : Nat), i + d = min l.length c.length → Ev (fun k => platenref05_Weigh.l0 k l c (weighK l c i) (i : Int)) (weighK l c (min l.length c.length)) := by
    intro d
    induction d with
    | zero =>
      intro i hi
      have e : min l.length c.length = i := by omega
      rw [e]
      have hj : Ev (fun k => platenref05_Weigh.j1 k l c (weighK l c i) (i : Int) false) (weighK l c i) := ev_now fun k => by
        simp only [platenref05_Weigh.j1]
        rw [if_neg (by simp)]
      refine Ev.step (fun k => ?_) hj
      simp only [platenref05_Weigh.l0]
      by_cases c1 : (i : Int) < (l.length : Int)
      · rw [if_pos c1, show decide ((i : Int) < (c.length : Int)) = false by rw [decide_eq_false_iff_not]; omega]
      · rw [if_neg c1]
    | succ d ih =>
      intro i hi
      have hi0 : i < l.length := by omega
      have hx := hb _ (rd_mem' l i hi0)
      have ew : wrap64 (rd l (i : Int)) = rd l (i : Int) := by unfold wrap64; omega
      have hr := weighK_range l c i
      have hrec := ih (i + 1) (by omega)
      have hj : Ev (fun k => platenref05_Weigh.j1 k l c (weighK l c i) (i : Int) true) (weighK l c (min l.length c.length)) := by
        refine Ev.step (fun k => ?_) hrec
        simp only [platenref05_Weigh.j1, weighK]
        rw [if_pos trivial, if_pos (by omega), if_pos (by omega), nat_w i (by omega)]
        by_cases cp : rd c (i : Int) > 0
        · rw [if_pos cp, if_pos (by omega), ew, if_neg (by omega)]
        · rw [if_neg cp]
          have ez : (if rd c (i : Int) < 0 then 0 else rd c (i : Int)) = 0 := by
            by_cases h : rd c (i : Int) < 0
            · rw [if_pos h]
            · rw [if_neg h]; omega
          rw [ez, Int.mul_zero, show wrap64 0 = 0 by decide +kernel, Int.add_zero, hr]
      refine Ev.step (fun k => ?_) hj
      simp only [platenref05_Weigh.l0]
      rw [if_pos (by omega), show decide ((i : Int) < (c.length : Int)) = true by rw [decide_eq_true_eq]; omega]
  exact Ev.congr (fun k => rfl) (key (min l.length c.length) 0 (by omega))
theorem kf (l : List Int) (h : okL l = true) : canon_Kind.f l = some (kindI l) := by unfold canon_Kind.f; rw [if_pos h]
theorem wf (l c : List Int) (h : okL l = true) : canon_Weigh.f l c = some (weighK l c (min l.length c.length)) := by unfold canon_Weigh.f; rw [if_pos h]
theorem CanonTells : platenlaw05_CanonTells.Pure := by
  intro l c _ _ h0 _ _ h1
  have hb : ∀ x ∈ l, 0 ≤ x ∧ x < 256 := fun x hx => wf_u8 (h0 x hx)
  have hok := okL_of h0
  have jt : Ev (fun k => platenlaw05_CanonTells.j0 k l c true) true := by
    refine Ev.step (f := fun k => (platenlaw05_alive.f k).bind fun t => some t) (fun k => ?_) (Ev.bind ev_alive (Ev.now true))
    simp only [platenlaw05_CanonTells.j0]
    rw [if_pos trivial]
  by_cases c1 : (l.length : Int) > 400
  · refine (Ev.congr (fun k => ?_) jt).rounds
    unfold platenlaw05_CanonTells.f platenlaw05_Long.f
    rw [decide_eq_true c1]
    rfl
  by_cases c2 : (c.length : Int) > 400
  · refine (Ev.congr (fun k => ?_) jt).rounds
    unfold platenlaw05_CanonTells.f platenlaw05_Long.f
    rw [decide_eq_false c1, decide_eq_true c2]
    rfl
  have hl : l.length ≤ 400 := by omega
  have tail : Ev (fun k => (canon_Weigh.f l c).bind fun t190 => ((platenref05_Weigh.f k l c).bind fun t191 => (if t190 = t191 then ((platenlaw05_alive.f k).bind fun t192 => (some t192)) else (some false)))) true := by
    refine Ev.congr (fun k => by rw [wf l c hok]; rfl) (Ev.bind (ev_weigh l c hb (by omega)) ?_)
    refine Ev.congr (fun k => ?_) (Ev.bind ev_alive (Ev.now true))
    show (if _ = _ then _ else _) = _
    rw [if_pos rfl]
  refine (Ev.congr (f := fun k => platenlaw05_CanonTells.j0 k l c false) (fun k => ?_) ?_).rounds
  · unfold platenlaw05_CanonTells.f platenlaw05_Long.f
    rw [decide_eq_false c1, decide_eq_false c2]
    rfl
  · by_cases h5 : kindI l = 5
    · have hrc : Ev (fun k => platenref05_Codes.f k l) ([], 2) := by
        refine Ev.congr (fun k => rfl) (Ev.bind (rk_all l hb) (Ev.congr (fun k => ?_) (Ev.now ([], 2))))
        show (if kindI l = 5 then _ else _) = _
        rw [if_pos h5]
      have hcf : canon_Codes.f l = some ([], 2) := by unfold canon_Codes.f; rw [if_pos hok, if_pos h5]
      refine Ev.step (f := _) (fun k => by simp only [platenlaw05_CanonTells.j0]; rw [if_neg (by simp), hcf, kf l hok]; simp only [Option.bind_some]; rfl) (Ev.bind hrc (Ev.bind (rk_all l hb) ?_))
      refine Ev.congr (f := fun k => (platenref05_Same.f k [] []).bind fun t182 => _) (fun k => by rw [if_pos rfl]) (Ev.bind (ev_same [] [] rfl (by simp)) ?_)
      refine Ev.congr (fun k => ?_) tail
      rw [if_pos rfl, if_pos rfl, if_neg (by omega)]
    · by_cases h4 : kindI l = 4
      · have hrc : Ev (fun k => platenref05_Codes.f k l) ([], 7) := by
          refine Ev.congr (fun k => rfl) (Ev.bind (rk_all l hb) (Ev.congr (fun k => ?_) (Ev.now ([], 7))))
          show (if kindI l = 5 then _ else _) = _
          rw [if_neg h5, if_pos h4]
        have hcf : canon_Codes.f l = some ([], 7) := by unfold canon_Codes.f; rw [if_pos hok, if_neg h5, if_pos h4]
        refine Ev.step (f := _) (fun k => by simp only [platenlaw05_CanonTells.j0]; rw [if_neg (by simp), hcf, kf l hok]; simp only [Option.bind_some]; rfl) (Ev.bind hrc (Ev.bind (rk_all l hb) ?_))
        refine Ev.congr (f := fun k => (platenref05_Same.f k [] []).bind fun t182 => _) (fun k => by rw [if_pos rfl]) (Ev.bind (ev_same [] [] rfl (by simp)) ?_)
        refine Ev.congr (fun k => ?_) tail
        rw [if_pos rfl, if_pos rfl, if_neg (by omega)]
      · have hrc := rc_all l hb hl h5 h4
        have hcf : canon_Codes.f l = some (codesS l, 0) := by unfold canon_Codes.f; rw [if_pos hok, if_neg h5, if_neg h4]
        refine Ev.step (f := _) (fun k => by simp only [platenlaw05_CanonTells.j0]; rw [if_neg (by simp), hcf, kf l hok]; simp only [Option.bind_some]; rfl) (Ev.bind hrc (Ev.bind (rk_all l hb) ?_))
        refine Ev.congr (f := fun k => (platenref05_Same.f k (codesS l) (codesS l)).bind fun t182 => _) (fun k => by rw [if_pos rfl]) (Ev.bind (ev_same _ _ rfl (by rw [codesS_length]; omega)) ?_)
        refine Ev.congr (f := fun k => (canon_Lens.f k (codesS l)).bind fun t183 => ((platenref05_SameLens.f k t183 l).bind fun t186 => if t186 = true then ((canon_Weigh.f l c).bind fun t187 => ((platenref05_Weigh.f k l c).bind fun t188 => (if t187 = t188 then ((platenlaw05_alive.f k).bind fun t189 => (some t189)) else (some false)))) else (some false))) (fun k => by rw [if_pos rfl, if_pos rfl, if_pos trivial]) (Ev.bind (ev_lens l hb (by omega)) (Ev.bind (ev_samelens l (by omega)) ?_))
        refine Ev.congr (fun k => ?_) tail
        rw [if_pos rfl]
end Go.Proofs.Ytogpjdiammecjaa.Pure
