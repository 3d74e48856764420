/-
  Arena: a list of calls that comes in: its data as cells.
-/
import Derived.Test.YtdfmfbbeokhaaaaC
import Derived.Deep.Slices
import Derived.Deep.Fields
import Derived.ChangeSame
import Derived.SizedLaws
import Derived.ProofKit
set_option linter.unusedSimpArgs false
set_option linter.unusedVariables false
namespace Go.Proofs.Ytdfmfbbeokhaaaa
open Go.RowKit Go.ChangeShapes Go.WideShapes Go.Deep

section
variable {H : Type} {enc : TypeId × Value → H} {P : Program} {w : World} {base : Nat} {spare : Nat → Bool} {held : Bool}
/-- a slice of structs of one-cell fields, opened -/
theorem open_slice_fields {t e : TypeId} {fs : Array Field} {fuel : Nat} {cs : List Value} {x : DataW H × List MemPlace} (ht : P.underlying t = some (.slice e)) (he : P.underlying e = some (.struct fs))
    (hone : oneCellFields P fs = true) (hC : P.cellsOf e = fs.size) (h : DataW.trod enc P w base spare held fuel t cs = some x) :
    (cs = [.slice none 0 0] ∧ x = (.nil, [])) ∨
    ∃ (a : Addr) (len cap m : Nat) (D : Nat → DataW H) (Pl : Nat → List MemPlace), cs = [.slice (some a) len cap] ∧ base ≤ a.block ∧ len ≤ cap ∧ cap ≤ maxLen ∧ m = (if spare a.block then cap else len) ∧
      x = (.slice ((List.range len).map D) ((List.range (m - len)).map fun j => D (len + j)), MemPlace.row a (m * fs.size) ++ (List.range m).flatMap Pl) ∧
      ∀ i, i < m → ∃ (ys : List (DataW H × List MemPlace)) (n : Nat), D i = .agg (ys.map (·.1)) ∧ Pl i = ys.flatMap (·.2) ∧ ys.length = fs.size ∧
        ∀ (j : Nat) (f : Field), fs[j]? = some f → ∃ (v : Value) (y : DataW H × List MemPlace), w.cell? (a.add (i * fs.size + j)) = some v ∧ ys[j]? = some y ∧ DataW.trod enc P w base spare held n f.type [v] = some y := by
  rcases open_slice ht h with h0 | ⟨a, len, cap, m, n, D, Pl, hcs, hb, hl, hm, hmm, hx, hi⟩
  · exact .inl h0
  · refine .inr ⟨a, len, cap, m, D, Pl, hcs, hb, hl, hm, hmm, by rw [hC] at hx; exact hx, fun i him => ?_⟩
    obtain ⟨cs', hc, ht'⟩ := hi i him
    rw [hC] at hc
    obtain ⟨ys, n', hn', hy, hlen, hyl, hf⟩ := DataW.trod_struct he ht'
    obtain ⟨_, hcl, hat⟩ := World.cells?_some hc
    simp only [Prod.mk.injEq] at hy
    refine ⟨ys, n', hy.1, hy.2, hyl, fun j f hj => ?_⟩
    obtain ⟨ho, hk⟩ := hone_of hone j f hj
    have hjl : j < fs.size := (Array.getElem?_eq_some_iff.1 hj).1
    have hcell := hat j hjl
    have hv : cs'[j]? = some (cs'[j]'(by omega)) := List.getElem?_eq_getElem (by omega)
    have h1 := hf j f hj
    rw [ho, hk] at h1
    have hone' : (cs'.drop j).take 1 = [cs'[j]'(by omega)] := by
      rw [List.drop_eq_getElem_cons (by omega)]
      rfl
    rw [hone'] at h1
    have hys : ys[j]? = some (ys[j]'(by omega)) := List.getElem?_eq_getElem (by omega)
    refine ⟨_, _, ?_, hys, h1.trans hys⟩
    rw [← Go.Deep.add_add, hcell, hv]
theorem weightsAll_mem {e : TypeId} {n : Nat} : ∀ {l : List (DataW H)} {d : DataW H}, d ∈ l → n ∈ d.weights P e → n ∈ DataW.weightsAll P e l
  | x :: l, d, hd, hn => by
    simp only [DataW.weightsAll, List.mem_append]
    rcases List.mem_cons.1 hd with rfl | hd
    · exact .inl hn
    · exact .inr (weightsAll_mem hd hn)
end

theorem add_off (a : Addr) (k j : Nat) (hj : 0 < j) : a.add (k + j) = ⟨(a.add k).block, (a.add k).off + j, none⟩ := by
  unfold Addr.add
  split
  · omega
  · split <;> simp_all <;> omega
theorem open_calls {H : Type} {enc : TypeId × Value → H} {W : World} {base : Nat} {spare : Nat → Bool} {held : Bool} {a : Option Addr} {len cap : Nat} {d : DataW H} {p : List MemPlace}
    (h : DataW.Trod enc Try.prog W base spare held 22 (.slice a len cap) d p) (hw : ∀ n ∈ d.weights Try.prog 22, n ≤ reachBytes) :
    ∃ cs : List Cl, cs.length = len ∧ CallsAt W a cs ∧ Short cs ∧ len ≤ 140737488351232 ∧ ∀ c ∈ cs, c.do_ < 256 ∧ (-9223372036854775808 ≤ c.at_ ∧ c.at_ < 9223372036854775808) ∧ (-9223372036854775808 ≤ c.n ∧ c.n < 9223372036854775808) := by
  obtain ⟨fuel, hf⟩ := h
  rcases open_slice_fields Try.underlying22 Try.underlying33 (by kernel_rfl) (by kernel_rfl) hf with ⟨hcs, hx⟩ | ⟨ad, len', cap', m, D, Pl, hcs, hb, hl, hm, hmm, hx, hi⟩
  · simp [Value.cells] at hcs
    obtain ⟨rfl, rfl, rfl⟩ := hcs
    exact ⟨[], rfl, .inl rfl, fun c hc => by simp at hc, by omega, fun c hc => by simp at hc⟩
  · simp [Value.cells] at hcs
    obtain ⟨rfl, rfl, rfl⟩ := hcs
    have hlm : len ≤ m := by rw [hmm]; split <;> omega
    obtain ⟨hd, _⟩ := Prod.mk.inj hx
    subst hd
    have key : ∀ i, ∃ c : Cl, i < len → (W.cell? (ad.add (i * 4)) = some (.int .u8 (c.do_ : Nat)) ∧ W.cell? ⟨(ad.add (i * 4)).block, (ad.add (i * 4)).off + 1, none⟩ = some (.int .i64 c.at_) ∧
        W.cell? ⟨(ad.add (i * 4)).block, (ad.add (i * 4)).off + 2, none⟩ = some (.int .i64 c.n) ∧ W.cell? ⟨(ad.add (i * 4)).block, (ad.add (i * 4)).off + 3, none⟩ = some (.string c.s)) ∧ c.s.size ≤ 140737488351232 ∧
        c.do_ < 256 ∧ (-9223372036854775808 ≤ c.at_ ∧ c.at_ < 9223372036854775808) ∧ (-9223372036854775808 ≤ c.n ∧ c.n < 9223372036854775808) := by
      intro i
      by_cases hil : i < len
      · obtain ⟨ys, n, hD, _, hyl, hfld⟩ := hi i (by omega)
        obtain ⟨v0, y0, hc0, hy0, ht0⟩ := hfld 0 _ rfl
        obtain ⟨v1, y1, hc1, hy1, ht1⟩ := hfld 1 _ rfl
        obtain ⟨v2, y2, hc2, hy2, ht2⟩ := hfld 2 _ rfl
        obtain ⟨v3, y3, hc3, hy3, ht3⟩ := hfld 3 _ rfl
        obtain ⟨z0, e0, -, w0⟩ := DataW.trod_int Try.underlying5 ht0
        obtain ⟨z1, e1, -, w1⟩ := DataW.trod_int Try.underlying3 ht1
        obtain ⟨z2, e2, -, w2⟩ := DataW.trod_int Try.underlying3 ht2
        obtain ⟨s, e3, f3, -⟩ := DataW.trod_string Try.underlying9 ht3
        simp only [List.cons.injEq, and_true] at e0 e1 e2 e3
        subst e0 e1 e2 e3
        simp [Lit.wf, IntKind.min, IntKind.max, IntKind.signed, IntKind.bits] at w0 w1 w2
        refine ⟨⟨z0.toNat, z1, z2, s⟩, fun _ => ⟨⟨?_, ?_, ?_, ?_⟩, ?_, ?_, ?_, ?_⟩⟩
        · show W.cell? (ad.add (i * 4)) = some (.int .u8 ((z0.toNat : Nat) : Int))
          rw [Int.toNat_of_nonneg w0.1]
          exact hc0
        · rw [← add_off _ _ _ (by omega)]; exact hc1
        · rw [← add_off _ _ _ (by omega)]; exact hc2
        · rw [← add_off _ _ _ (by omega)]; exact hc3
        · have hmem : s.data.toList.length ∈ (DataW.slice ((List.range len).map D) ((List.range (m - len)).map fun j => D (len + j))).weights Try.prog 22 := by
            simp only [DataW.weights, Try.underlying22, List.mem_cons, List.mem_append]
            refine .inr (.inl (weightsAll_mem (d := D i) (List.mem_map.2 ⟨i, List.mem_range.2 hil, rfl⟩) ?_))
            rw [hD]
            simp only [DataW.weights, Try.underlying33]
            refine DataW.weights_mem_each (j := 3) (t := 9) (d := .lit (.string s.data.toList)) rfl ?_ _ (by simp [DataW.weights])
            rw [List.getElem?_map, hy3, f3]
            rfl
          have := hw _ hmem
          rw [Array.length_toList] at this
          exact this
        · show z0.toNat < 256
          omega
        · exact ⟨w1.1, by show z1 < _; omega⟩
        · exact ⟨w2.1, by show z2 < _; omega⟩
      · exact ⟨⟨0, 0, 0, ByteArray.empty⟩, fun h => absurd h hil⟩
    obtain ⟨f, hfa⟩ := Classical.axiomOfChoice key
    refine ⟨(List.range len).map f, by simp, .inr ⟨ad, rfl, fun i c hc => ?_⟩, fun c hc => ?_, ?_, fun c hc => ?_⟩
    · simp only [List.getElem?_map, Option.map_eq_some_iff] at hc
      obtain ⟨q, hq, rfl⟩ := hc
      obtain ⟨hq1, hq2⟩ := List.getElem?_eq_some_iff.1 hq
      simp at hq1 hq2
      subst hq2
      exact (hfa i hq1).1
    · obtain ⟨q, hq, rfl⟩ := List.mem_map.1 hc
      exact (hfa q (List.mem_range.1 hq)).2.1
    · have hmem : (((List.range len).map D).length + ((List.range (m - len)).map fun j => D (len + j)).length) * Try.prog.bytesOf 33 ∈ (DataW.slice ((List.range len).map D) ((List.range (m - len)).map fun j => D (len + j))).weights Try.prog 22 := by
        simp only [DataW.weights, Try.underlying22]
        exact List.mem_cons_self
      have h1 := hw _ hmem
      rw [show Try.prog.bytesOf 33 = 40 by kernel_rfl] at h1
      simp at h1
      unfold reachBytes at h1
      omega
    · obtain ⟨q, hq, rfl⟩ := List.mem_map.1 hc
      exact (hfa q (List.mem_range.1 hq)).2.2
end Go.Proofs.Ytdfmfbbeokhaaaa
