/-
  A region that draws its order, walked once in a greedy order: what only reads is taken as soon as it may come up.
-/
import Derived.WalkKit
import Derived.OrdersHeld
import Derived.Deep.RegionHeld
set_option linter.unusedSimpArgs false
set_option linter.unusedVariables false
namespace Go.Proofs.Ytaibfigofmakjaa

/-- a move in a region that draws its order: an operation that only reads is taken as soon as it may come up ('take'); any other is carried out when it is the only one that may ('go') -/
inductive Mv where
  | take (i : Nat)
  | go (i : Nat)

def wpT (P : Program) (ops : Array Oper) (Q : Exit → Act → World → Prop) (S : World → Prop) : List Mv → Act → World → Prop
  | [], a, w => Q .normal a w
  | .take i :: r, a, w => ∃ o v, ops[i]? = some o ∧ YieldsIf P ops S o v a ∧ wpT P ops Q S r (a.put o.dst v) w
  | .go i :: r, a, w => wpOp P ops Q i (fun a' w' => S w' ∧ wpT P ops Q S r a' w') a w

def chk (ops : Array Oper) : List Mv → Array Bool → Bool
  | [], listed => (Region.ready .any ops listed).isEmpty
  | .take i :: r, listed => Region.free .any ops listed i && (Region.ready .any ops listed).contains i && chk ops r (listed.setIfInBounds i true)
  | .go i :: r, listed => (Region.ready .any ops listed == [i]) && chk ops r (listed.setIfInBounds i true)

section
variable {P : Program} {ops : Array Oper} {Q : Exit → Act → World → Prop} {S : World → Prop}

theorem wpT_sound (hs : Region.noSelect ops = true) (hQ : ∀ c a (d : Tmp) v w, Q (.panic c) (a.put (some d) v) w → Q (.panic c) a w) :
    ∀ (l : List Mv) (listed : Array Bool) (a : Act) (w : World), chk ops l listed = true → S w → wpT P ops Q S l a w → wpAnyH P .any ops Q S l.length listed a w := by
  intro l
  induction l with
  | nil =>
    intro listed a w hc hS h
    simp only [chk, List.isEmpty_iff] at hc
    exact wpAnyH_done hc h _
  | cons m r ih =>
    intro listed a w hc hS h
    cases m with
    | take i =>
      simp only [chk, Bool.and_eq_true] at hc
      obtain ⟨⟨h1, h2⟩, h3⟩ := hc
      obtain ⟨o, v, ho, hy, hr⟩ := h
      refine wpAnyH_take ho hs h1 h2 (fun c a' w' hq => ?_) hy hS (ih _ _ _ h3 hS hr)
      cases hd : o.dst with
      | none => rw [hd] at hq; exact hq
      | some d => rw [hd] at hq; exact hQ _ _ _ _ _ hq
    | go i =>
      simp only [chk, Bool.and_eq_true, beq_iff_eq] at hc
      obtain ⟨h1, h3⟩ := hc
      refine wpAnyH_all h1 (by simp) fun j hj => ?_
      obtain rfl : j = i := by simpa using hj
      exact wpOp_mono (fun a' w' hh => ⟨hh.1, ih _ _ _ h3 hh.1 hh.2⟩) h

theorem wp_region_T {id : Nat} {a : Act} {w : World} (S : World → Prop) (l : List Mv)
    (hc : (Region.noSelect ops && chk ops l (Array.replicate ops.size false) && l.length == ops.size) = true) (hm : P.follows .mixedOrders = true)
    (hQ : ∀ c a (d : Tmp) v w, Q (.panic c) (a.put (some d) v) w → Q (.panic c) a w) (hS : S w.drew) (h : wpT P ops Q S l a w.drew) : (Code.region id ops true).wp P Q a w := by
  simp only [Bool.and_eq_true, beq_iff_eq] at hc
  obtain ⟨⟨h1, h2⟩, h3⟩ := hc
  refine wp_region_held (S := S) hm ?_
  rw [← h3]
  rw [← h3] at h2
  exact wpT_sound h1 hQ l _ _ _ (by rw [h3] at h2 ⊢; exact h2) hS h

/-- an operation that yields a value, whatever becomes of it -/
def valOp : Op → Bool
  | .move _ | .assign _ | .pick .. | .load .. | .binOp .. | .unOp .. | .convert .. | .fieldAddr .. | .field .. | .indexAddr .. | .index .. | .slice .. | .extract .. | .lookup .. | .build .. | .makeInterface .. | .typeAssert .. => true
  | .call c => match c.callee with
    | .builtin .len | .builtin .cap | .builtin .min | .builtin .max => true
    | _ => false
  | _ => false

theorem run_value {m : Sem Value} {w w' : World} {n : Next} (h : (do pure (Next.value (← m)) : Sem Next).run P w = .ok n w') : ∃ v, n = .value v := by
  rw [Sem.run_bind] at h
  cases hm : m.run P w with
  | ok v w1 =>
    rw [hm] at h
    simp only [Result.andThen_ok, Sem.run_pure, Result.ok.injEq] at h
    exact ⟨v, h.1.symm⟩
  | halt x w1 =>
    rw [hm] at h
    cases h
theorem run_pick {m : Sem Bool} {x y : Value} {w w' : World} {n : Next} (h : (do pure (Next.value (if ← m then x else y)) : Sem Next).run P w = .ok n w') : ∃ v, n = .value v := by
  rw [Sem.run_bind] at h
  cases hm : m.run P w with
  | ok v w1 =>
    rw [hm] at h
    simp only [Result.andThen_ok, Sem.run_pure, Result.ok.injEq] at h
    exact ⟨_, h.1.symm⟩
  | halt x w1 =>
    rw [hm] at h
    cases h
theorem valOp_value {o : Oper} (hk : valOp o.op = true) {ρ : Operand → Value} {w w' : World} {n : Next} (h : (execOp ρ o).run P w = .ok n w') : ∃ v, n = .value v := by
  obtain ⟨dst, op, type, pos, after, guard⟩ := o
  cases op
  case move x => simp only [execOp, Sem.run_pure, Result.ok.injEq] at h; exact ⟨_, h.1.symm⟩
  case assign x => simp only [execOp, Sem.run_pure, Result.ok.injEq] at h; exact ⟨_, h.1.symm⟩
  case pick c x y => exact run_pick h
  case call c =>
    obtain ⟨callee, args, ats⟩ := c
    cases callee with
    | value f => simp [valOp] at hk
    | invoke r m => simp [valOp] at hk
    | builtin b =>
      cases b <;> first | (simp [valOp] at hk; done) | skip
      · rw [BigFrame.execOp_builtin, BigFrame.builtin_cap] at h; exact run_value h
      · rw [BigFrame.execOp_builtin, BigFrame.builtin_len] at h; exact run_value h
      · rw [BigFrame.execOp_builtin, BigFrame.builtin_max] at h; exact run_value h
      · rw [BigFrame.execOp_builtin, BigFrame.builtin_min] at h; exact run_value h
  all_goals first
    | (simp [valOp] at hk; done)
    | exact run_value h

/-- it is carried out, whatever follows, and leaves the frame 'a'' -/
def Lit (P : Program) (S : World → Prop) (o : Oper) (a a' : Act) : Prop := ∀ w', S w' → ∀ (K : Act → World → Prop) (Q : Exit → Act → World → Prop), K a' w' → o.wp P a w' K Q

theorem put_inj {a : Act} {d : Tmp} {u v : Value} (hd : d < a.tmps.size) (h : a.put (some d) u = a.put (some d) v) : u = v := by
  have h1 : (a.put (some d) u).tmps[d]? = (a.put (some d) v).tmps[d]? := by rw [h]
  simpa [Act.put, hd] using h1

theorem T_light {o : Oper} {i : Nat} {r : List Mv} {a a' : Act} {w : World} (d : Tmp) (ho : ops[i]? = some o) (hk : valOp o.op = true) (hdst : o.dst = some d) (hd : d < a.tmps.size)
    (hw : Region.wanted o (yielded ops a.tmps) = true) (hS : S w) (hl : Lit P S o a a') (h : wpT P ops Q S r a' w) : wpT P ops Q S (.take i :: r) a w := by
  have key : ∀ w', S w' → ∃ u, (execOp a.eval o).run P w' = .ok (.value u) w' ∧ a.put o.dst u = a' := by
    intro w' hS'
    have h1 := hl w' hS' (fun x y => x = a' ∧ y = w') (fun _ _ _ => False) ⟨rfl, rfl⟩
    unfold Oper.wp at h1
    cases hr : (execOp a.eval o).run P w' with
    | ok n w2 =>
      obtain ⟨u, rfl⟩ := valOp_value hk hr
      rw [hr] at h1
      simp only [Oper.upon] at h1
      obtain ⟨h2, rfl⟩ := h1
      exact ⟨u, rfl, h2⟩
    | halt x w2 =>
      rw [hr] at h1
      cases x <;> simp only [Oper.upon] at h1
  obtain ⟨u, _, hu⟩ := key w hS
  refine ⟨o, u, ho, Or.inl ⟨hw, fun w' hS' => ?_⟩, by rw [hu]; exact h⟩
  obtain ⟨u', hr, hu'⟩ := key w' hS'
  rw [hr]
  rw [hdst] at hu hu'
  rw [put_inj hd (hu'.trans hu.symm)]

/-- what a guard forbids is passed over -/
theorem T_pass {o : Oper} {i : Nat} {r : List Mv} {a : Act} {w : World} (ho : ops[i]? = some o) (hw : Region.wanted o (yielded ops a.tmps) = false)
    (h : wpT P ops Q S r (a.put o.dst undef) w) : wpT P ops Q S (.take i :: r) a w := ⟨o, undef, ho, Or.inr ⟨hw, rfl⟩, h⟩
theorem T_pass_go {o : Oper} {i : Nat} {r : List Mv} {a : Act} {w : World} (ho : ops[i]? = some o) (hw : Region.wanted o (yielded ops a.tmps) = false) (hS : S w)
    (h : wpT P ops Q S r (a.put o.dst undef) w) : wpT P ops Q S (.go i :: r) a w := by
  unfold wpT wpOp
  simp only [ho, hw]
  exact ⟨hS, h⟩

theorem T_go {o : Oper} {i : Nat} {r : List Mv} {a : Act} {w : World} (ho : ops[i]? = some o) (hw : Region.wanted o (yielded ops a.tmps) = true)
    (h : ∀ K : Act → World → Prop, (∀ a' w', S w' → wpT P ops Q S r a' w' → K a' w') → o.wp P a w K Q) : wpT P ops Q S (.go i :: r) a w := by
  unfold wpT wpOp
  simp only [ho, hw, if_true]
  exact .inl (h _ fun a' w' h1 h2 => ⟨h1, h2⟩)

theorem enters {f : FuncId} {fn : Func} (hf : P.funcs[f]? = some fn) (hname : (fn.name == "runtime.NumGoroutine") = false) (hb : fn.body.isSome = true) (args : Array Value) (w : World) :
    (callFunc f args).run P w = .ok (.enter f args) w := by
  have h1 : fn.name ≠ "runtime.NumGoroutine" := by simpa using hname
  obtain ⟨c, hc⟩ := Option.isSome_iff_exists.1 hb
  simp [callFunc, hf, h1, hc]
/-- what a call needs to know of a function: it is one of the program's own, with a body -/
def Own (P : Program) (f : FuncId) : Prop := ∀ args w, (callFunc f args).run P w = .ok (.enter f args) w
theorem own_of {f : FuncId} {fn : Func} (hf : P.funcs[f]? = some fn) (hname : (fn.name == "runtime.NumGoroutine") = false) (hb : fn.body.isSome = true) : Own P f := fun args w => enters hf hname hb args w
theorem run_call {o : Oper} {a : Act} {w : World} {f : FuncId} (hf : Own P f) {as : List Operand} {ts : Array TypeId} (args : List Value)
    (hop : o.op = .call { callee := .value (.func f), args := as.toArray, argTypes := ts }) (hargs : as.map a.eval = args) : (execOp a.eval o).run P w = .ok (.enter f args.toArray) w := by
  have he := hf args.toArray w
  unfold execOp
  simp [hop, resolve, Deferred.ofValue, invoke, Act.eval, hargs, he]
theorem T_call {o : Oper} {i : Nat} {r : List Mv} {a : Act} {w : World} {f : FuncId} (hf : Own P f) {as : List Operand} {ts : Array TypeId} (N : Tmp) (args : List Value) (ho : ops[i]? = some o)
    (hN : o.dst = some N) (hop : o.op = .call { callee := .value (.func f), args := as.toArray, argTypes := ts }) (hargs : as.map a.eval = args) (hw : Region.wanted o (yielded ops a.tmps) = true)
    (h : Calls P f args.toArray w fun e w' => ∃ v, e = .returned v ∧ S w' ∧ wpT P ops Q S r (a.put (some N) v) w') : wpT P ops Q S (.go i :: r) a w := by
  refine T_go ho hw fun K hK => ?_
  unfold Oper.wp
  rw [run_call hf args hop hargs, Oper.upon_enter, hN]
  refine h.mono fun e w'' hh => ?_
  obtain ⟨v, rfl, h1, h2⟩ := hh
  exact hK _ _ h1 h2
/-- a call in a plain region: an arm of the walk -/
theorem L_call {rest : List Oper} {o : Oper} {a : Act} {w : World} {f : FuncId} (hf : Own P f) (N : Tmp) {as : List Operand} {ts : Array TypeId} (args : List Value) (hN : o.dst = some N) (hg : o.guard = none)
    (hop : o.op = .call { callee := .value (.func f), args := as.toArray, argTypes := ts }) (hargs : as.map a.eval = args)
    (h : Calls P f args.toArray w fun e w' => ∃ v, e = .returned v ∧ wpList P ops Q rest (a.put (some N) v) w') : wpList P ops Q (o :: rest) a w := by
  refine wpList_plain hg fun K hK => ?_
  unfold Oper.wp
  rw [run_call hf args hop hargs, Oper.upon_enter, hN]
  refine h.mono fun e w'' hh => ?_
  obtain ⟨v, rfl, h2⟩ := hh
  exact hK _ _ h2

theorem T_done {a : Act} {w : World} (h : Q .normal a w) : wpT P ops Q S [] a w := h

end
end Go.Proofs.Ytaibfigofmakjaa
