/-
  A region that draws its order, of which two operations that turn the world may come up together: walked as a tree.
-/
import Derived.Test.YtogpjdiammecjaaT
set_option linter.unusedSimpArgs false
set_option linter.unusedVariables false
namespace Go.Proofs.Ytogpjdiammecjaa

inductive Tr where
  | nil
  | take (i : Nat) (r : Tr)
  | go (i : Nat) (r : Tr)
  | two (i : Nat) (r : Tr) (j : Nat) (t : Tr)

def wpTr (P : Program) (ops : Array Oper) (Q : Exit → Act → World → Prop) (S : World → Prop) : Tr → Act → World → Prop
  | .nil, a, w => Q .normal a w
  | .take i r, a, w => ∃ o v, ops[i]? = some o ∧ YieldsIf P ops S o v a ∧ wpTr P ops Q S r (a.put o.dst v) w
  | .go i r, a, w => wpOp P ops Q i (fun a' w' => S w' ∧ wpTr P ops Q S r a' w') a w
  | .two i r j t, a, w => wpOp P ops Q i (fun a' w' => S w' ∧ wpTr P ops Q S r a' w') a w ∧ wpOp P ops Q j (fun a' w' => S w' ∧ wpTr P ops Q S t a' w') a w

def chkTr (ops : Array Oper) : Nat → Tr → Array Bool → Bool
  | 0, .nil, listed => (Region.ready .any ops listed).isEmpty
  | n + 1, .take i r, listed => Region.free .any ops listed i && (Region.ready .any ops listed).contains i && chkTr ops n r (listed.setIfInBounds i true)
  | n + 1, .go i r, listed => (Region.ready .any ops listed == [i]) && chkTr ops n r (listed.setIfInBounds i true)
  | n + 1, .two i r j t, listed => (Region.ready .any ops listed == [i, j]) && chkTr ops n r (listed.setIfInBounds i true) && chkTr ops n t (listed.setIfInBounds j true)
  | _, _, _ => false

section
variable {P : Program} {ops : Array Oper} {Q : Exit → Act → World → Prop} {S : World → Prop}

theorem wpTr_sound (hs : Region.noSelect ops = true) (hQ : ∀ c a (d : Tmp) v w, Q (.panic c) (a.put (some d) v) w → Q (.panic c) a w) :
    ∀ (n : Nat) (l : Tr) (listed : Array Bool) (a : Act) (w : World), chkTr ops n l listed = true → S w → wpTr P ops Q S l a w → wpAnyH P .any ops Q S n listed a w := by
  intro n
  induction n with
  | zero =>
    intro l listed a w hc hS h
    cases l with
    | nil =>
      simp only [chkTr, List.isEmpty_iff] at hc
      exact wpAnyH_done hc h _
    | _ => simp [chkTr] at hc
  | succ n ih =>
    intro l listed a w hc hS h
    cases l with
    | nil => simp [chkTr] at hc
    | take i r =>
      simp only [chkTr, Bool.and_eq_true] at hc
      obtain ⟨⟨h1, h2⟩, h3⟩ := hc
      obtain ⟨o, v, ho, hy, hr⟩ := h
      refine wpAnyH_take ho hs h1 h2 (fun c a' w' hq => ?_) hy hS (ih _ _ _ _ h3 hS hr)
      cases hd : o.dst with
      | none => rw [hd] at hq; exact hq
      | some d => rw [hd] at hq; exact hQ _ _ _ _ _ hq
    | go i r =>
      simp only [chkTr, Bool.and_eq_true, beq_iff_eq] at hc
      obtain ⟨h1, h3⟩ := hc
      refine wpAnyH_all h1 (by simp) fun j hj => ?_
      obtain rfl : j = i := by simpa using hj
      exact wpOp_mono (fun a' w' hh => ⟨hh.1, ih _ _ _ _ h3 hh.1 hh.2⟩) h
    | two i r j t =>
      simp only [chkTr, Bool.and_eq_true, beq_iff_eq] at hc
      obtain ⟨⟨h1, h3⟩, h4⟩ := hc
      refine wpAnyH_all h1 (by simp) fun k hk => ?_
      have hk' : k = i ∨ k = j := by simpa using hk
      rcases hk' with rfl | rfl
      · exact wpOp_mono (fun a' w' hh => ⟨hh.1, ih _ _ _ _ h3 hh.1 hh.2⟩) h.1
      · exact wpOp_mono (fun a' w' hh => ⟨hh.1, ih _ _ _ _ h4 hh.1 hh.2⟩) h.2
theorem wp_region_Tr {id : Nat} {a : Act} {w : World} (S : World → Prop) (l : Tr)
    (hc : (Region.noSelect ops && chkTr ops ops.size l (Array.replicate ops.size false)) = true) (hm : P.follows .mixedOrders = true)
    (hQ : ∀ c a (d : Tmp) v w, Q (.panic c) (a.put (some d) v) w → Q (.panic c) a w) (hS : S w.drew) (h : wpTr P ops Q S l a w.drew) : (Code.region id ops true).wp P Q a w := by
  simp only [Bool.and_eq_true] at hc
  refine wp_region_held (S := S) hm ?_
  exact wpTr_sound hc.1 hQ _ l _ _ _ hc.2 hS h
theorem R_light {o : Oper} {i : Nat} {r : Tr} {a a' : Act} {w : World} (d : Tmp) (ho : ops[i]? = some o) (hk : valOp o.op = true) (hdst : o.dst = some d) (hd : d < a.tmps.size)
    (hw : Region.wanted o (yielded ops a.tmps) = true) (hS : S w) (hl : Lit P S o a a') (h : wpTr P ops Q S r a' w) : wpTr P ops Q S (.take i r) a w := by
  have key : ∀ w', S w' → ∃ u, (execOp a.eval o).run P w' = .ok (.value u) w' ∧ a.put o.dst u = a' := by
    intro w' hS'
    have h1 := hl w' hS' (fun x y => x = a' ∧ y = w') (fun _ _ _ => False) ⟨rfl, rfl⟩
    unfold Oper.wp at h1
    cases hr : (execOp a.eval o).run P w' with
    | ok n w2 =>
      obtain ⟨u, rfl⟩ := valOp_value hk hr
      rw [hr] at h1
      simp only [Oper.upon] at h1
      obtain ⟨h2, rfl⟩ := h1
      exact ⟨u, rfl, h2⟩
    | halt x w2 =>
      rw [hr] at h1
      cases x <;> simp only [Oper.upon] at h1
  obtain ⟨u, _, hu⟩ := key w hS
  refine ⟨o, u, ho, Or.inl ⟨hw, fun w' hS' => ?_⟩, by rw [hu]; exact h⟩
  obtain ⟨u', hr, hu'⟩ := key w' hS'
  rw [hr]
  rw [hdst] at hu hu'
  rw [put_inj hd (hu'.trans hu.symm)]
theorem R_go {o : Oper} {i : Nat} {r : Tr} {a : Act} {w : World} (ho : ops[i]? = some o) (hw : Region.wanted o (yielded ops a.tmps) = true)
    (h : ∀ K : Act → World → Prop, (∀ a' w', S w' → wpTr P ops Q S r a' w' → K a' w') → o.wp P a w K Q) : wpTr P ops Q S (.go i r) a w := by
  unfold wpTr wpOp
  simp only [ho, hw, if_true]
  exact .inl (h _ fun a' w' h1 h2 => ⟨h1, h2⟩)
theorem R_two {o o' : Oper} {i j : Nat} {r t : Tr} {a : Act} {w : World} (ho : ops[i]? = some o) (ho' : ops[j]? = some o') (hw : Region.wanted o (yielded ops a.tmps) = true) (hw' : Region.wanted o' (yielded ops a.tmps) = true)
    (h : ∀ K : Act → World → Prop, (∀ a' w', S w' → wpTr P ops Q S r a' w' → K a' w') → o.wp P a w K Q)
    (h' : ∀ K : Act → World → Prop, (∀ a' w', S w' → wpTr P ops Q S t a' w' → K a' w') → o'.wp P a w K Q) : wpTr P ops Q S (.two i r j t) a w := by
  unfold wpTr wpOp
  simp only [ho, ho', hw, hw', if_true]
  exact ⟨.inl (h _ fun a' w' h1 h2 => ⟨h1, h2⟩), .inl (h' _ fun a' w' h1 h2 => ⟨h1, h2⟩)⟩
theorem T_pass2 {o : Oper} {i : Nat} {r : List Mv} {a a' : Act} {w : World} (d : Tmp) (ho : ops[i]? = some o) (hdst : o.dst = some d) (hw : Region.wanted o (yielded ops a.tmps) = false)
    (ha : ∀ K : Act → Prop, K a' → K (a.put (some d) undef)) (h : wpT P ops Q S r a' w) : wpT P ops Q S (.take i :: r) a w :=
  ⟨o, undef, ho, Or.inr ⟨hw, rfl⟩, by rw [hdst]; exact ha (fun x => wpT P ops Q S r x w) h⟩
theorem R_done {a : Act} {w : World} (h : Q .normal a w) : wpTr P ops Q S .nil a w := h
end
end Go.Proofs.Ytogpjdiammecjaa
