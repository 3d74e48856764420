/-
  A region that draws its order, walked once in a greedy order: what only reads is taken as soon as it may come up.
-/
import Derived.WalkKit
import Derived.OrdersHeld
import Derived.Deep.RegionHeld
set_option linter.unusedSimpArgs false
set_option linter.unusedVariables false
namespace Go.Proofs.Ytogpjdiammecjaa

/-- a move in a region that draws its order: an operation that only reads is taken as soon as it may come up ('take'); any other is carried out when it is the only one that may ('go') -/
inductive Mv where
  | take (i : Nat)
  | go (i : Nat)
  | last (i : Nat)

def wpT (P : Program) (ops : Array Oper) (Q : Exit → Act → World → Prop) (S : World → Prop) : List Mv → Act → World → Prop
  | [], a, w => Q .normal a w
  | .take i :: r, a, w => ∃ o v, ops[i]? = some o ∧ YieldsIf P ops S o v a ∧ wpT P ops Q S r (a.put o.dst v) w
  | .go i :: r, a, w => wpOp P ops Q i (fun a' w' => S w' ∧ wpT P ops Q S r a' w') a w
  | .last i :: r, a, w => wpOp P ops Q i (fun a' w' => wpT P ops Q S r a' w') a w

def chk (ops : Array Oper) : List Mv → Array Bool → Bool
  | [], listed => (Region.ready .any ops listed).isEmpty
  | .take i :: r, listed => Region.free .any ops listed i && (Region.ready .any ops listed).contains i && chk ops r (listed.setIfInBounds i true)
  | .go i :: r, listed => (Region.ready .any ops listed == [i]) && chk ops r (listed.setIfInBounds i true)
  | .last _ :: _, _ => false

/-- 'chk' where operation 'z' comes up when all others have -/
def chkZ (z : Nat) (ops : Array Oper) : List Mv → Array Bool → Bool
  | [], listed => (Region.ready .any ops listed).isEmpty
  | .take i :: r, listed => Region.free .any ops listed i && (Region.ready .any ops listed).contains i && chkZ z ops r (listed.setIfInBounds i true)
  | .go i :: r, listed => (Region.ready .any ops listed == [i]) && chkZ z ops r (listed.setIfInBounds i true)
  | .last i :: r, listed => i == z && (Region.ready .any ops listed == [i]) && r.isEmpty && chkZ z ops r (listed.setIfInBounds i true)

/-- does all of 'l' have to come up ahead of what 'seen' holds? -/
def ahead (ops : Array Oper) : List Nat → List Nat → Bool
  | [], _ => true
  | k :: l, seen => (seen.any fun j => match ops[j]? with | some o => o.after.any (fun e => e.on == k && Region.binds .any e) | none => false) && ahead ops l (k :: seen)

section
variable {P : Program} {ops : Array Oper} {Q : Exit → Act → World → Prop} {S : World → Prop}

theorem wpT_sound (hs : Region.noSelect ops = true) (hQ : ∀ c a (d : Tmp) v w, Q (.panic c) (a.put (some d) v) w → Q (.panic c) a w) :
    ∀ (l : List Mv) (listed : Array Bool) (a : Act) (w : World), chk ops l listed = true → S w → wpT P ops Q S l a w → wpAnyH P .any ops Q S l.length listed a w := by
  intro l
  induction l with
  | nil =>
    intro listed a w hc hS h
    simp only [chk, List.isEmpty_iff] at hc
    exact wpAnyH_done hc h _
  | cons m r ih =>
    intro listed a w hc hS h
    cases m with
    | take i =>
      simp only [chk, Bool.and_eq_true] at hc
      obtain ⟨⟨h1, h2⟩, h3⟩ := hc
      obtain ⟨o, v, ho, hy, hr⟩ := h
      refine wpAnyH_take ho hs h1 h2 (fun c a' w' hq => ?_) hy hS (ih _ _ _ h3 hS hr)
      cases hd : o.dst with
      | none => rw [hd] at hq; exact hq
      | some d => rw [hd] at hq; exact hQ _ _ _ _ _ hq
    | go i =>
      simp only [chk, Bool.and_eq_true, beq_iff_eq] at hc
      obtain ⟨h1, h3⟩ := hc
      refine wpAnyH_all h1 (by simp) fun j hj => ?_
      obtain rfl : j = i := by simpa using hj
      exact wpOp_mono (fun a' w' hh => ⟨hh.1, ih _ _ _ h3 hh.1 hh.2⟩) h
    | last i => simp [chk] at hc

theorem wp_region_T {id : Nat} {a : Act} {w : World} (S : World → Prop) (l : List Mv)
    (hc : (Region.noSelect ops && chk ops l (Array.replicate ops.size false) && l.length == ops.size) = true) (hm : P.follows .mixedOrders = true)
    (hQ : ∀ c a (d : Tmp) v w, Q (.panic c) (a.put (some d) v) w → Q (.panic c) a w) (hS : S w.drew) (h : wpT P ops Q S l a w.drew) : (Code.region id ops true).wp P Q a w := by
  simp only [Bool.and_eq_true, beq_iff_eq] at hc
  obtain ⟨⟨h1, h2⟩, h3⟩ := hc
  refine wp_region_held (S := S) hm ?_
  rw [← h3]
  rw [← h3] at h2
  exact wpT_sound h1 hQ l _ _ _ (by rw [h3] at h2 ⊢; exact h2) hS h

/-- 'wpAnyH', where S is not asked behind operation 'z', which comes up when all others have -/
def wpF (P : Program) (ops : Array Oper) (Q : Exit → Act → World → Prop) (S : World → Prop) (z : Nat) : Nat → Array Bool → Act → World → Prop
  | 0, listed, a, w => Region.ready .any ops listed = [] ∧ Q .normal a w
  | n + 1, listed, a, w =>
    (Region.ready .any ops listed = [] → Q .normal a w) ∧
    ∀ j ∈ Region.ready .any ops listed, (j = z → ∀ k, k < ops.size → k ≠ z → listed[k]? = some true) → wpOp P ops Q j (fun a' w' => (j = z ∨ S w') ∧ wpF P ops Q S z n (listed.setIfInBounds j true) a' w') a w

theorem wpF_first {z i : Nat} {oi : Oper} {v : Value} (hi : ops[i]? = some oi) (hsel : ∀ (j : Nat) (o : Oper) cs b, ops[j]? = some o → o.op ≠ .select cs b)
    (hQ : ∀ c a w, Q (.panic c) (a.put oi.dst v) w → Q (.panic c) a w) :
    ∀ (n : Nat) (listed : Array Bool) (a : Act) (w : World),
      (∀ j oj, ops[j]? = some oj → j ≠ i → listed.getD j true = false → (∀ e ∈ oj.after, Region.binds .any e = true → e.on ≠ i) → oi.apart ops oj = true) →
      i ∈ Region.ready .any ops listed → i ≠ z → YieldsIf P ops S oi v a → S w →
      wpF P ops Q S z n (listed.setIfInBounds i true) (a.put oi.dst v) w → wpF P ops Q S z (n + 1) listed a w := by
  intro n
  induction n with
  | zero =>
    intro listed a w _ hr hiz hy hS H
    refine ⟨fun h => (by rw [h] at hr; cases hr), fun j hj _ => ?_⟩
    by_cases hji : j = i
    · subst hji; exact hy.wpOp hi hS ⟨.inr hS, H⟩
    · have := ready_mono hj hji
      rw [H.1] at this
      cases this
  | succ n ih =>
    intro listed a w hfree hr hiz hy hS H
    refine ⟨fun h => (by rw [h] at hr; cases hr), fun j hj hz => ?_⟩
    by_cases hji : j = i
    · subst hji; exact hy.wpOp hi hS ⟨.inr hS, H⟩
    · have hiu := (mem_ready.1 hr).1
      have hil : i < ops.size := (Array.getElem?_eq_some_iff.1 hi).1
      have hjz : j ≠ z := fun e => by
        have h2 := hz e i hil hiz
        simp [Array.getD_eq_getD_getElem?, h2] at hiu
      have h1 := H.2 j (ready_mono hj hji) (fun e => absurd e hjz)
      obtain ⟨hjun, oj, hoj, hall⟩ := mem_ready.1 hj
      have hnot : ∀ e ∈ oj.after, Region.binds .any e = true → e.on ≠ i := fun e he hb heq => by
        have h1 := hall e he hb
        have h0 := hiu
        rw [heq] at h1
        rcases Nat.lt_or_ge i listed.size with h' | h'
        · simp [h'] at h0 h1; rw [h0] at h1; cases h1
        · simp [Array.getElem?_eq_none h'] at h1
      have h2 := wpOp_putIf hoj (hfree j oj hoj hji hjun hnot) (fun cs b => hsel i oi cs b hi) (fun cs b => hsel j oj cs b hoj) hQ hy h1
      have hfree' : ∀ k ok, ops[k]? = some ok → k ≠ i → (listed.setIfInBounds j true).getD k true = false →
          (∀ e ∈ ok.after, Region.binds .any e = true → e.on ≠ i) → oi.apart ops ok = true := fun k ok hk hki hun hno => by
        refine hfree k ok hk hki ?_ hno
        by_cases hjk : j = k
        · subst hjk; exact hjun
        · rw [getD_set_ne true hjk] at hun; exact hun
      refine wpOp_mono (fun a' w' h3 => ⟨h3.2.1, ih (listed.setIfInBounds j true) a' w' hfree' (ready_mono hr (Ne.symm hji)) hiz h3.1 (h3.2.1.resolve_left hjz) ?_⟩) h2
      rw [Array.setIfInBounds_comm _ _ hji]
      exact h3.2.2

/-- what has come up came up behind all it waits for -/
def Shutd (ops : Array Oper) (listed : Array Bool) : Prop := ∀ (j : Nat) (o : Oper), listed[j]? = some true → ops[j]? = some o → ∀ e ∈ o.after, Region.binds .any e = true → listed[e.on]? = some true
theorem set_true {l : Array Bool} {i k : Nat} (h : l[k]? = some true) : (l.setIfInBounds i true)[k]? = some true := by
  have hk := (Array.getElem?_eq_some_iff.1 h).1
  by_cases e : i = k
  · subst e; simp [hk]
  · rw [Array.getElem?_setIfInBounds_ne e]; exact h
theorem ready_edges {listed : Array Bool} {j : Nat} {o : Oper} (hj : j ∈ Region.ready .any ops listed) (ho : ops[j]? = some o) {e : Edge} (he : e ∈ o.after) (hb : Region.binds .any e = true) : listed[e.on]? = some true := by
  obtain ⟨_, o', ho', hall⟩ := mem_ready.1 hj
  rw [ho] at ho'
  cases ho'
  have h1 := hall e he hb
  rcases Nat.lt_or_ge e.on listed.size with h' | h'
  · simp [h'] at h1; simp [h', h1]
  · simp [Array.getElem?_eq_none h'] at h1
theorem Shutd.set {listed : Array Bool} (h : Shutd ops listed) {j : Nat} (hj : j ∈ Region.ready .any ops listed) : Shutd ops (listed.setIfInBounds j true) := by
  intro k o hk ho e he hb
  by_cases hjk : j = k
  · subst hjk
    exact set_true (ready_edges hj ho he hb)
  · rw [Array.getElem?_setIfInBounds_ne hjk] at hk
    exact set_true (h k o hk ho e he hb)
theorem ahead_listed {listed : Array Bool} (h : Shutd ops listed) : ∀ (l seen : List Nat), ahead ops l seen = true → (∀ j ∈ seen, listed[j]? = some true ∨ j ∈ Region.ready .any ops listed) → ∀ k ∈ l, listed[k]? = some true := by
  intro l
  induction l with
  | nil => intro _ _ _ k hk; cases hk
  | cons k l ih =>
    intro seen hc hs x hx
    simp only [ahead, Bool.and_eq_true, List.any_eq_true] at hc
    obtain ⟨⟨j, hj, hj2⟩, h3⟩ := hc
    have hk : listed[k]? = some true := by
      cases ho : ops[j]? with
      | none => rw [ho] at hj2; simp at hj2
      | some o =>
        rw [ho] at hj2
        simp only [Array.any_eq_true', Bool.and_eq_true, beq_iff_eq] at hj2
        obtain ⟨e, he, rfl, hb⟩ := hj2
        rcases hs j hj with h4 | h4
        · exact h j o h4 ho e he hb
        · exact ready_edges h4 ho he hb
    rcases List.mem_cons.1 hx with rfl | hx
    · exact hk
    · exact ih (k :: seen) h3 (fun j hj => by
        rcases List.mem_cons.1 hj with rfl | hj
        · exact .inl hk
        · exact hs j hj) x hx
theorem wpAny_of_F {z : Nat} {l : List Nat} (hl : ahead ops l [z] = true) (hall : ∀ k, k < ops.size → k ≠ z → k ∈ l) :
    ∀ (n : Nat) (listed : Array Bool) (a : Act) (w : World), Shutd ops listed → wpF P ops Q S z n listed a w → wpAny P .any ops Q n listed a w
  | 0, _, _, _, _, h => h
  | n + 1, listed, a, w, hc, h => ⟨h.1, fun i hi => wpOp_mono (fun a' w' h' => wpAny_of_F hl hall n _ a' w' (hc.set hi) h'.2)
      (h.2 i hi (fun e k hk hkz => ahead_listed hc l [z] hl (fun j hj => by rw [List.mem_singleton.1 hj]; rw [e] at hi; exact .inr hi) k (hall k hk hkz)))⟩

theorem wpZ_sound {z : Nat} (hs : Region.noSelect ops = true) (hQ : ∀ c a (d : Tmp) v w, Q (.panic c) (a.put (some d) v) w → Q (.panic c) a w) :
    ∀ (l : List Mv) (listed : Array Bool) (a : Act) (w : World), (∀ i, Mv.take i ∈ l → i ≠ z) → chkZ z ops l listed = true → S w ∨ (∀ i, Mv.take i ∉ l) → wpT P ops Q S l a w → wpF P ops Q S z l.length listed a w := by
  intro l
  induction l with
  | nil =>
    intro listed a w _ hc hS h
    simp only [chkZ, List.isEmpty_iff] at hc
    exact ⟨hc, h⟩
  | cons m r ih =>
    intro listed a w hz hc hS h
    have hz' : ∀ i, Mv.take i ∈ r → i ≠ z := fun i hi => hz i (List.mem_cons_of_mem _ hi)
    cases m with
    | take i =>
      simp only [chkZ, Bool.and_eq_true] at hc
      obtain ⟨⟨h1, h2⟩, h3⟩ := hc
      obtain ⟨o, v, ho, hy, hr⟩ := h
      have hS' : S w := hS.resolve_right (fun hn => hn i (List.mem_cons_self ..))
      refine wpF_first ho (Region.noSelect_spec hs) (fun c a' w' hq => ?_) _ _ _ _ (Region.free_spec ho h1) (by simpa using h2) (hz i (List.mem_cons_self ..)) hy hS' (ih _ _ _ hz' h3 (.inl hS') hr)
      cases hd : o.dst with
      | none => rw [hd] at hq; exact hq
      | some d => rw [hd] at hq; exact hQ _ _ _ _ _ hq
    | go i =>
      simp only [chkZ, Bool.and_eq_true, beq_iff_eq] at hc
      obtain ⟨h1, h3⟩ := hc
      refine ⟨fun h0 => (by rw [h1] at h0; cases h0), fun j hj _ => ?_⟩
      rw [h1] at hj
      obtain rfl : j = i := by simpa using hj
      exact wpOp_mono (fun a' w' hh => ⟨.inr hh.1, ih _ _ _ hz' h3 (.inl hh.1) hh.2⟩) h
    | last i =>
      simp only [chkZ, Bool.and_eq_true, beq_iff_eq] at hc
      obtain ⟨⟨⟨rfl, h1⟩, h2⟩, h3⟩ := hc
      refine ⟨fun h0 => (by rw [h1] at h0; cases h0), fun j hj hall => ?_⟩
      rw [h1] at hj
      obtain rfl : j = i := by simpa using hj
      refine wpOp_mono (fun a' w' hh => ⟨.inl rfl, ih _ _ _ hz' h3 (.inr ?_) hh⟩) h
      intro k hk
      rw [List.isEmpty_iff.1 h2] at hk
      cases hk

/-- as 'wp_region_T', where operation 'z' comes up last of all, and S is not asked behind it; 'ls': the others, each waited for by z or by one ahead of it in 'ls' -/
theorem wp_region_Z {id : Nat} {a : Act} {w : World} (S : World → Prop) (z : Nat) (l : List Mv) (ls : List Nat)
    (hc : (Region.noSelect ops && chkZ z ops l (Array.replicate ops.size false) && l.length == ops.size && ahead ops ls [z] && (List.range ops.size).all (fun k => k == z || ls.contains k) && l.all (fun m => match m with | .take i => i != z | _ => true)) = true) (hm : P.follows .mixedOrders = true)
    (hQ : ∀ c a (d : Tmp) v w, Q (.panic c) (a.put (some d) v) w → Q (.panic c) a w) (hS : S w.drew) (h : wpT P ops Q S l a w.drew) : (Code.region id ops true).wp P Q a w := by
  simp only [Bool.and_eq_true, beq_iff_eq, List.all_eq_true, Bool.or_eq_true, List.contains_iff_mem, List.mem_range] at hc
  obtain ⟨⟨⟨⟨⟨h1, h2⟩, h3⟩, h4⟩, h5⟩, h6⟩ := hc
  refine wp_region_any hm (wpAny_of_F (S := S) (z := z) h4 (fun k hk hkz => (h5 k hk).resolve_left hkz) _ _ _ _ ?_ ?_)
  · intro j o hj
    simp [Array.getElem?_replicate] at hj
  · rw [← h3]
    rw [← h3] at h2
    exact wpZ_sound h1 hQ l _ _ _ (fun i hi => by simpa using h6 _ hi) (by rw [h3] at h2 ⊢; exact h2) (.inl hS) h

/-- an operation that yields a value, whatever becomes of it -/
def valOp : Op → Bool
  | .move _ | .assign _ | .pick .. | .load .. | .binOp .. | .unOp .. | .convert .. | .fieldAddr .. | .field .. | .indexAddr .. | .index .. | .slice .. | .extract .. | .lookup .. | .build .. | .makeInterface .. | .typeAssert .. | .nilCheck _ => true
  | .call c => match c.callee with
    | .builtin .len | .builtin .cap | .builtin .min | .builtin .max => true
    | _ => false
  | _ => false

theorem run_value {m : Sem Value} {w w' : World} {n : Next} (h : (do pure (Next.value (← m)) : Sem Next).run P w = .ok n w') : ∃ v, n = .value v := by
  rw [Sem.run_bind] at h
  cases hm : m.run P w with
  | ok v w1 =>
    rw [hm] at h
    simp only [Result.andThen_ok, Sem.run_pure, Result.ok.injEq] at h
    exact ⟨v, h.1.symm⟩
  | halt x w1 =>
    rw [hm] at h
    cases h
theorem run_pick {m : Sem Bool} {x y : Value} {w w' : World} {n : Next} (h : (do pure (Next.value (if ← m then x else y)) : Sem Next).run P w = .ok n w') : ∃ v, n = .value v := by
  rw [Sem.run_bind] at h
  cases hm : m.run P w with
  | ok v w1 =>
    rw [hm] at h
    simp only [Result.andThen_ok, Sem.run_pure, Result.ok.injEq] at h
    exact ⟨_, h.1.symm⟩
  | halt x w1 =>
    rw [hm] at h
    cases h
theorem run_after {α : Type} {m : Sem α} {x : Value} {w w' : World} {n : Next} (h : (do let _ ← m; pure (Next.value x) : Sem Next).run P w = .ok n w') : ∃ v, n = .value v := by
  rw [Sem.run_bind] at h
  cases hm : m.run P w with
  | ok v w1 =>
    rw [hm] at h
    simp only [Result.andThen_ok, Sem.run_pure, Result.ok.injEq] at h
    exact ⟨_, h.1.symm⟩
  | halt x w1 =>
    rw [hm] at h
    cases h
theorem valOp_value {o : Oper} (hk : valOp o.op = true) {ρ : Operand → Value} {w w' : World} {n : Next} (h : (execOp ρ o).run P w = .ok n w') : ∃ v, n = .value v := by
  obtain ⟨dst, op, type, pos, after, guard⟩ := o
  cases op
  case move x => simp only [execOp, Sem.run_pure, Result.ok.injEq] at h; exact ⟨_, h.1.symm⟩
  case assign x => simp only [execOp, Sem.run_pure, Result.ok.injEq] at h; exact ⟨_, h.1.symm⟩
  case pick c x y => exact run_pick h
  case nilCheck x =>
    simp only [execOp] at h
    split at h
    · simp [runtimePanic] at h
    · simp [runtimePanic] at h
    · simp [runtimePanic] at h
    · split at h
      · simp [runtimePanic] at h
      · rw [Sem.run_bind] at h
        cases h1 : Sem.run P program w with
        | halt x w1 => rw [h1] at h; cases h
        | ok p w1 =>
          rw [h1] at h
          simp only [Result.andThen_ok] at h
          rw [Sem.run_bind] at h
          revert h
          generalize Sem.run P (nilAhead _ _ _ _) w1 = R
          intro h
          cases R with
          | halt x w2 => cases h
          | ok b w2 =>
            simp only [Result.andThen_ok] at h
            split at h
            · exact run_after h
            · exact ⟨_, (Result.ok.inj h).1.symm⟩
      · exact ⟨_, (Result.ok.inj h).1.symm⟩
    · exact ⟨_, (Result.ok.inj h).1.symm⟩
  case call c =>
    obtain ⟨callee, args, ats⟩ := c
    cases callee with
    | value f => simp [valOp] at hk
    | invoke r m => simp [valOp] at hk
    | builtin b =>
      cases b <;> first | (simp [valOp] at hk; done) | skip
      · rw [BigFrame.execOp_builtin, BigFrame.builtin_cap] at h; exact run_value h
      · rw [BigFrame.execOp_builtin, BigFrame.builtin_len] at h; exact run_value h
      · rw [BigFrame.execOp_builtin, BigFrame.builtin_max] at h; exact run_value h
      · rw [BigFrame.execOp_builtin, BigFrame.builtin_min] at h; exact run_value h
  all_goals first
    | (simp [valOp] at hk; done)
    | exact run_value h

/-- it is carried out, whatever follows, and leaves the frame 'a'' -/
def Lit (P : Program) (S : World → Prop) (o : Oper) (a a' : Act) : Prop := ∀ w', S w' → ∀ (K : Act → World → Prop) (Q : Exit → Act → World → Prop), K a' w' → o.wp P a w' K Q

theorem put_inj {a : Act} {d : Tmp} {u v : Value} (hd : d < a.tmps.size) (h : a.put (some d) u = a.put (some d) v) : u = v := by
  have h1 : (a.put (some d) u).tmps[d]? = (a.put (some d) v).tmps[d]? := by rw [h]
  simpa [Act.put, hd] using h1

theorem T_light {o : Oper} {i : Nat} {r : List Mv} {a a' : Act} {w : World} (d : Tmp) (ho : ops[i]? = some o) (hk : valOp o.op = true) (hdst : o.dst = some d) (hd : d < a.tmps.size)
    (hw : Region.wanted o (yielded ops a.tmps) = true) (hS : S w) (hl : Lit P S o a a') (h : wpT P ops Q S r a' w) : wpT P ops Q S (.take i :: r) a w := by
  have key : ∀ w', S w' → ∃ u, (execOp a.eval o).run P w' = .ok (.value u) w' ∧ a.put o.dst u = a' := by
    intro w' hS'
    have h1 := hl w' hS' (fun x y => x = a' ∧ y = w') (fun _ _ _ => False) ⟨rfl, rfl⟩
    unfold Oper.wp at h1
    cases hr : (execOp a.eval o).run P w' with
    | ok n w2 =>
      obtain ⟨u, rfl⟩ := valOp_value hk hr
      rw [hr] at h1
      simp only [Oper.upon] at h1
      obtain ⟨h2, rfl⟩ := h1
      exact ⟨u, rfl, h2⟩
    | halt x w2 =>
      rw [hr] at h1
      cases x <;> simp only [Oper.upon] at h1
  obtain ⟨u, _, hu⟩ := key w hS
  refine ⟨o, u, ho, Or.inl ⟨hw, fun w' hS' => ?_⟩, by rw [hu]; exact h⟩
  obtain ⟨u', hr, hu'⟩ := key w' hS'
  rw [hr]
  rw [hdst] at hu hu'
  rw [put_inj hd (hu'.trans hu.symm)]

/-- what a guard forbids is passed over -/
theorem T_pass {o : Oper} {i : Nat} {r : List Mv} {a : Act} {w : World} (ho : ops[i]? = some o) (hw : Region.wanted o (yielded ops a.tmps) = false)
    (h : wpT P ops Q S r (a.put o.dst undef) w) : wpT P ops Q S (.take i :: r) a w := ⟨o, undef, ho, Or.inr ⟨hw, rfl⟩, h⟩
theorem T_pass_go {o : Oper} {i : Nat} {r : List Mv} {a : Act} {w : World} (ho : ops[i]? = some o) (hw : Region.wanted o (yielded ops a.tmps) = false) (hS : S w)
    (h : wpT P ops Q S r (a.put o.dst undef) w) : wpT P ops Q S (.go i :: r) a w := by
  unfold wpT wpOp
  simp only [ho, hw]
  exact ⟨hS, h⟩

theorem T_go {o : Oper} {i : Nat} {r : List Mv} {a : Act} {w : World} (ho : ops[i]? = some o) (hw : Region.wanted o (yielded ops a.tmps) = true)
    (h : ∀ K : Act → World → Prop, (∀ a' w', S w' → wpT P ops Q S r a' w' → K a' w') → o.wp P a w K Q) : wpT P ops Q S (.go i :: r) a w := by
  unfold wpT wpOp
  simp only [ho, hw, if_true]
  exact .inl (h _ fun a' w' h1 h2 => ⟨h1, h2⟩)

theorem T_last {o : Oper} {i : Nat} {r : List Mv} {a : Act} {w : World} (ho : ops[i]? = some o) (hw : Region.wanted o (yielded ops a.tmps) = true)
    (h : ∀ K : Act → World → Prop, (∀ a' w', wpT P ops Q S r a' w' → K a' w') → o.wp P a w K Q) : wpT P ops Q S (.last i :: r) a w := by
  unfold wpT wpOp
  simp only [ho, hw, if_true]
  exact .inl (h _ fun a' w' h1 => h1)

theorem enters {f : FuncId} {fn : Func} (hf : P.funcs[f]? = some fn) (hname : (fn.name == "runtime.NumGoroutine") = false) (hb : fn.body.isSome = true) (args : Array Value) (w : World) :
    (callFunc f args).run P w = .ok (.enter f args) w := by
  have h1 : fn.name ≠ "runtime.NumGoroutine" := by simpa using hname
  obtain ⟨c, hc⟩ := Option.isSome_iff_exists.1 hb
  simp [callFunc, hf, h1, hc]
/-- what a call needs to know of a function: it is one of the program's own, with a body -/
def Own (P : Program) (f : FuncId) : Prop := ∀ args w, (callFunc f args).run P w = .ok (.enter f args) w
theorem own_of {f : FuncId} {fn : Func} (hf : P.funcs[f]? = some fn) (hname : (fn.name == "runtime.NumGoroutine") = false) (hb : fn.body.isSome = true) : Own P f := fun args w => enters hf hname hb args w
theorem run_call {o : Oper} {a : Act} {w : World} {f : FuncId} (hf : Own P f) {as : List Operand} {ts : Array TypeId} (args : List Value)
    (hop : o.op = .call { callee := .value (.func f), args := as.toArray, argTypes := ts }) (hargs : as.map a.eval = args) : (execOp a.eval o).run P w = .ok (.enter f args.toArray) w := by
  have he := hf args.toArray w
  unfold execOp
  simp [hop, resolve, Deferred.ofValue, invoke, Act.eval, hargs, he]
theorem T_call {o : Oper} {i : Nat} {r : List Mv} {a : Act} {w : World} {f : FuncId} (hf : Own P f) {as : List Operand} {ts : Array TypeId} (N : Tmp) (args : List Value) (ho : ops[i]? = some o)
    (hN : o.dst = some N) (hop : o.op = .call { callee := .value (.func f), args := as.toArray, argTypes := ts }) (hargs : as.map a.eval = args) (hw : Region.wanted o (yielded ops a.tmps) = true)
    (h : Calls P f args.toArray w fun e w' => ∃ v, e = .returned v ∧ S w' ∧ wpT P ops Q S r (a.put (some N) v) w') : wpT P ops Q S (.go i :: r) a w := by
  refine T_go ho hw fun K hK => ?_
  unfold Oper.wp
  rw [run_call hf args hop hargs, Oper.upon_enter, hN]
  refine h.mono fun e w'' hh => ?_
  obtain ⟨v, rfl, h1, h2⟩ := hh
  exact hK _ _ h1 h2
/-- a call in a plain region: an arm of the walk -/
theorem L_call {rest : List Oper} {o : Oper} {a : Act} {w : World} {f : FuncId} (hf : Own P f) (N : Tmp) {as : List Operand} {ts : Array TypeId} (args : List Value) (hN : o.dst = some N) (hg : o.guard = none)
    (hop : o.op = .call { callee := .value (.func f), args := as.toArray, argTypes := ts }) (hargs : as.map a.eval = args)
    (h : Calls P f args.toArray w fun e w' => ∃ v, e = .returned v ∧ wpList P ops Q rest (a.put (some N) v) w') : wpList P ops Q (o :: rest) a w := by
  refine wpList_plain hg fun K hK => ?_
  unfold Oper.wp
  rw [run_call hf args hop hargs, Oper.upon_enter, hN]
  refine h.mono fun e w'' hh => ?_
  obtain ⟨v, rfl, h2⟩ := hh
  exact hK _ _ h2

theorem T_done {a : Act} {w : World} (h : Q .normal a w) : wpT P ops Q S [] a w := h

end
end Go.Proofs.Ytogpjdiammecjaa
