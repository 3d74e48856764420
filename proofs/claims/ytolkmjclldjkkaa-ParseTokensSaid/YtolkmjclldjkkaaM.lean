/-
  Chain: maps of whole numbers that the call has made, told by what a key leads to.
-/
import Derived.Test.YtolkmjclldjkkaaProg
import Derived.Maps.OwnSet
import Derived.DeepKeys4
import Derived.KernelRfl
import Derived.WalkKit
set_option linter.unusedSimpArgs false
set_option linter.unusedVariables false
namespace Go.Proofs.Ytolkmjclldjkkaa
open Go.RowKit Go.Maps

/-- block b of w is a map of at most n entries, whose keys lead to whole numbers as F tells -/
def MapI (w : World) (k : TypeId) (b n : Nat) (F : Value → Option Int) : Prop :=
  ∃ D : DataW Unit, w.ownsMap Try.prog k (plainElem Try.prog 3) b n D ∧ ∀ v kl, keyOf Try.prog k v = some kl → has D kl = (F v).isSome ∧ D.atKey kl (.lit (.int .i64 0)) = .lit (.int .i64 ((F v).getD 0))
theorem MapI.lt {w : World} {k : TypeId} {b n : Nat} {F : Value → Option Int} (h : MapI w k b n F) : b < w.heap.size := by
  obtain ⟨D, h1, _⟩ := h; exact h1.lt
theorem MapI.isMap {w : World} {k : TypeId} {b n : Nat} {F : Value → Option Int} (h : MapI w k b n F) : ∃ es clock, w.heap[b]? = some (.map es clock) := by
  obtain ⟨D, ⟨es, clock, hb, _⟩, _⟩ := h; exact ⟨es, clock, hb⟩
theorem MapI.same {w w' : World} {k : TypeId} {b n : Nat} {F : Value → Option Int} (h : MapI w k b n F) (hb : w'.heap[b]? = w.heap[b]?) : MapI w' k b n F := by
  obtain ⟨D, ⟨es, clock, h1, r⟩, h2⟩ := h; exact ⟨D, ⟨es, clock, hb.trans h1, r⟩, h2⟩
theorem MapI.mono {w : World} {k : TypeId} {b n n' : Nat} {F : Value → Option Int} (h : MapI w k b n F) (hn : n ≤ n') : MapI w k b n' F := by
  obtain ⟨D, h1, h2⟩ := h; exact ⟨D, h1.mono hn, h2⟩
theorem MapI.made (w : World) (k : TypeId) : MapI (w.alloc (.map #[] 0)) k w.heap.size 0 (fun _ => none) :=
  ⟨.map [], World.ownsMap_made w _ _ _, fun v kl h => by simp [has, DataW.atKey]⟩
theorem zero3 (w : World) : (zeroValue 3).run Try.prog w = .ok (.int .i64 0) w := by
  have hi : (Try.prog.info? 3).map (·.zero) = some (some (.int .i64 0)) := by kernel_rfl
  obtain ⟨i, h1, h2⟩ := Option.map_eq_some_iff.1 hi
  simp [zeroValue, typeInfo, h1, h2]
/-- 'v, ok := m[k]' -/
theorem MapI.look {w : World} {t k : TypeId} {b n : Nat} {F : Value → Option Int} (h : MapI w k b n F) (K : Keyed Try.prog k) (ht : Try.prog.underlying t = some (.map k 3)) {v : Value} {kl : Lit} (hk : keyOf Try.prog k v = some kl) :
    (Instr.lookup t (.map (some b)) v true).run Try.prog w = .ok (.tuple #[.int .i64 ((F v).getD 0), .bool (F v).isSome]) w := by
  obtain ⟨D, h1, h2⟩ := h
  obtain ⟨e1, e2⟩ := h2 v kl hk
  have hz : plainElem (H := Unit) Try.prog 3 (.int .i64 0) = some (.lit (.int .i64 0), []) := plainElem_int Try.underlying3 (by decide)
  obtain ⟨x, ps, hr, hx⟩ := h1.look_ok K ht (zero3 w) hz hk
  rw [e2] at hx
  obtain ⟨a, rfl, hz, _⟩ := plainElem_int_inv Try.underlying3 hx
  simp only [Prod.mk.injEq, DataW.lit.injEq, Lit.int.injEq, true_and] at hz
  rw [hr, e1, ← hz.1]
/-- 'm[k] = x' -/
theorem MapI.store {w : World} {t k : TypeId} {b n : Nat} {F : Value → Option Int} (h : MapI w k b n F) (K : Keyed Try.prog k) (ht : Try.prog.underlying t = some (.map k 3)) (hn : n < maxLen) {v : Value} {kl : Lit} (hk : keyOf Try.prog k v = some kl) {x : Int} (hx : (Lit.int .i64 x).wf = true)
    (F' : Value → Option Int) (hF : F' v = some x) (hF2 : ∀ u, u ≠ v → F' u = F u) :
    ∃ w', (Instr.mapUpdate t (.map (some b)) v (.int .i64 x)).run Try.prog w = .ok () w' ∧ MapI w' k b (n + 1) F' ∧ w.mapTurned w' b := by
  obtain ⟨D, h1, h2⟩ := h
  have hm := h1.isMap
  obtain ⟨w', hr, h3, h4⟩ := h1.store K ht hn hk (plainElem_int Try.underlying3 hx)
  refine ⟨w', hr, ⟨_, h3, fun u ul hu => ?_⟩, h4⟩
  by_cases e : u = v
  · subst e
    rw [hk] at hu; cases hu
    rw [hF]
    exact ⟨has_put_same hm (K.key hk) _, atKey_put_same hm (K.key hk) _ _⟩
  · have hne : ul ≠ kl := fun he => e (by subst he; exact K.inj hu hk)
    rw [hF2 u e, has_put_other hne, atKey_put_other hne]
    exact h2 u ul hu

/-- the key of three bytes -/
def kV (k : Nat × Nat × Nat) : Value := .agg #[.int .u8 (k.1 : Nat), .int .u8 (k.2.1 : Nat), .int .u8 (k.2.2 : Nat)]
theorem kV_inj {a b : Nat × Nat × Nat} (h : kV a = kV b) : a = b := by
  obtain ⟨x, y, z⟩ := a
  obtain ⟨u, v, w⟩ := b
  simp [kV] at h
  obtain ⟨h1, h2, h3⟩ := h
  simp only [Prod.mk.injEq]; omega
theorem law65 : Keyed Try.prog 65 := Keyed.of_law (deep_law_laid (by kernel_rfl) (m := 2) (by omega) (of_decide_eq_true (by kernel_rfl)) (by kernel_rfl) (by kernel_rfl))
theorem law3 : Keyed Try.prog 3 := int_keyed Try.underlying3
theorem key3 {p : Int} (h : (Lit.int .i64 p).wf = true) : keyOf Try.prog 3 (.int .i64 p) = some (.int .i64 p) := keyOf_int_mk Try.underlying3 h
theorem wf_u8 {n : Nat} (h : n < 256) : (Lit.int .u8 (n : Nat)).wf = true := by
  simp [Lit.wf, IntKind.min, IntKind.max, IntKind.signed, IntKind.bits]
  omega
theorem key65 {k : Nat × Nat × Nat} (h1 : k.1 < 256) (h2 : k.2.1 < 256) (h3 : k.2.2 < 256) : ∃ l, keyOf Try.prog 65 (kV k) = some l := by
  unfold keyOf
  have hu : Try.prog.underlying 65 = some (.array 3 5) := Try.underlying65
  rw [hu]
  have hkt : Try.prog.keyType 65 = true := by kernel_rfl
  have hc : Try.prog.cellsOf 65 = 3 := by kernel_rfl
  have hc5 : Try.prog.cellsOf 5 = 1 := by kernel_rfl
  have hu5 := Try.underlying5
  have hf : (kV k).formed Try.prog 65 = true := by
    simp [kV, Value.formed, hu, hu5, hc, hc5]
  have s5 : ∀ (d n : Nat), n < 256 → Try.prog.keyLits (d + 1) 5 [.int .u8 (n : Nat)] = some [.int .u8 (n : Nat)] := fun d n hn => by
    unfold Program.keyLits
    rw [hu5]
    simp only []
    rw [if_pos ⟨trivial, wf_u8 hn⟩]
  have hl : ∀ d, Try.prog.keyLits (d + 1 + 1) 65 [.int .u8 (k.1 : Nat), .int .u8 (k.2.1 : Nat), .int .u8 (k.2.2 : Nat)] = some [.int .u8 (k.1 : Nat), .int .u8 (k.2.1 : Nat), .int .u8 (k.2.2 : Nat)] := fun d => by
    unfold Program.keyLits
    rw [hu]
    simp only []
    rw [hc, hc5, if_pos (by rfl)]
    simp [List.range, List.range.loop, s5, h1, h2, h3]
  obtain ⟨m, hm⟩ : ∃ m, Try.prog.types.size = m + 1 := ⟨Try.prog.types.size - 1, by
    have h : decide (0 < Try.prog.types.size) = true := by kernel_rfl
    have := of_decide_eq_true h
    omega⟩
  refine ⟨.string (keyBytes [.int .u8 (k.1 : Nat), .int .u8 (k.2.1 : Nat), .int .u8 (k.2.2 : Nat)]), ?_⟩
  show (if (Try.prog.keyType 65 && Value.formed Try.prog 65 (kV k)) = true then Option.map (fun ls => Lit.string (keyBytes ls)) (Try.prog.keyLits (Try.prog.types.size + 1) 65 (kV k).cells.toList) else none) = _
  rw [hkt, hf, hm]
  have := hl m
  rw [if_pos (by rfl), show (kV k).cells.toList = [.int .u8 (k.1 : Nat), .int .u8 (k.2.1 : Nat), .int .u8 (k.2.2 : Nat)] from rfl, this]
  rfl
end Go.Proofs.Ytolkmjclldjkkaa
