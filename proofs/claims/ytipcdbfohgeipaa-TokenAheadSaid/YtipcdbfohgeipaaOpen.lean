/-
  Tokens that come in: their data as cells.
-/
import Derived.Test.YtipcdbfohgeipaaO
import Derived.Test.YtipcdbfohgeipaaPCx1
set_option linter.unusedSimpArgs false
set_option linter.unusedVariables false
namespace Go.Proofs.Ytipcdbfohgeipaa
open Go.RowKit Go.ChangeShapes Go.WideShapes Go.Deep Go.Proofs.Ytipcdbfohgeipaa.PC Go.Proofs.YtipcdbfohgeipaaW.PrintWords

theorem open_runs {H : Type} {enc : TypeId × Value → H} {W : World} {base : Nat} {spare : Nat → Bool} {held : Bool} {a : Option Addr} {len cap : Nat} {d : DataW H} {p : List MemPlace}
    (h : DataW.Trod enc Try.prog W base spare held 25 (.slice a len cap) d p) (hw : ∀ n ∈ d.weights Try.prog 25, n ≤ reachBytes) :
    ∃ l : List S24, l.length = len ∧ Kd.C k24 W a len l ∧ len ≤ cap ∧ len ≤ 140737488351232 ∧ PC.fit l = true := by
  obtain ⟨fuel, hf⟩ := h
  rcases open_slice_fields Try.underlying25 Try.underlying24 (by kernel_rfl) (by kernel_rfl) hf with ⟨hcs, hx⟩ | ⟨ad, len', cap', m, D, Pl, hcs, hb, hl, hm, hmm, hx, hi⟩
  · simp [Value.cells] at hcs
    obtain ⟨rfl, rfl, rfl⟩ := hcs
    exact ⟨[], rfl, ⟨rfl, by omega, fun h => absurd h (by omega)⟩, by omega, by omega, rfl⟩
  · simp [Value.cells] at hcs
    obtain ⟨rfl, rfl, rfl⟩ := hcs
    have hlm : len ≤ m := by rw [hmm]; split <;> omega
    obtain ⟨hd, _⟩ := Prod.mk.inj hx
    subst hd
    have key : ∀ i, ∃ c : S24, i < len → (W.cell? (ad.add (i * 3 + 0)) = some (.int .u8 c.f0) ∧ W.cell? (ad.add (i * 3 + 1)) = some (.int .i64 c.f1) ∧ W.cell? (ad.add (i * 3 + 2)) = some (.int .i64 c.f2)) ∧ (0 ≤ c.f0 ∧ c.f0 < 256) := by
      intro i
      by_cases hil : i < len
      · obtain ⟨ys, n, hD, _, hyl, hfld⟩ := hi i (by omega)
        obtain ⟨v0, y0, hc0, hy0, ht0⟩ := hfld 0 _ rfl
        obtain ⟨v1, y1, hc1, hy1, ht1⟩ := hfld 1 _ rfl
        obtain ⟨v2, y2, hc2, hy2, ht2⟩ := hfld 2 _ rfl
        obtain ⟨z0, e0, -, w0⟩ := DataW.trod_int Try.underlying5 ht0
        obtain ⟨z1, e1, -, w1⟩ := DataW.trod_int Try.underlying3 ht1
        obtain ⟨z2, e2, -, w2⟩ := DataW.trod_int Try.underlying3 ht2
        simp only [List.cons.injEq, and_true] at e0 e1 e2
        subst e0 e1 e2
        simp [Lit.wf, IntKind.min, IntKind.max, IntKind.signed, IntKind.bits] at w0
        exact ⟨⟨z0, z1, z2⟩, fun _ => ⟨⟨hc0, hc1, hc2⟩, w0.1, by show z0 < 256; omega⟩⟩
      · exact ⟨⟨0, 0, 0⟩, fun h => absurd h hil⟩
    obtain ⟨f, hfa⟩ := Classical.axiomOfChoice key
    have hreach : len ≤ 140737488351232 := by
      have hmem : (((List.range len).map D).length + ((List.range (m - len)).map fun j => D (len + j)).length) * Try.prog.bytesOf 24 ∈ (DataW.slice ((List.range len).map D) ((List.range (m - len)).map fun j => D (len + j))).weights Try.prog 25 := by
        simp only [DataW.weights, Try.underlying25]
        exact List.mem_cons_self
      have h1 := hw _ hmem
      rw [show Try.prog.bytesOf 24 = 24 by kernel_rfl] at h1
      simp at h1
      unfold reachBytes at h1
      omega
    refine ⟨(List.range len).map f, by simp, ⟨by simp, by omega, fun _ => ⟨ad, rfl, fun i c hc => ?_⟩⟩, hl, hreach, ?_⟩
    · simp only [List.getElem?_map, Option.map_eq_some_iff] at hc
      obtain ⟨q, hq, rfl⟩ := hc
      obtain ⟨hq1, hq2⟩ := List.getElem?_eq_some_iff.1 hq
      simp at hq1 hq2
      subst hq2
      refine ⟨[.int .u8 (f i).f0, .int .i64 (f i).f1, .int .i64 (f i).f2], rfl, k24_mk W (f i), fun j u hj => ?_⟩
      match j, hj with
      | 0, hj => simp at hj; subst hj; exact (hfa i hq1).1.1
      | 1, hj => simp at hj; subst hj; exact (hfa i hq1).1.2.1
      | 2, hj => simp at hj; subst hj; exact (hfa i hq1).1.2.2
    · unfold PC.fit
      rw [List.all_eq_true]
      intro c hc
      obtain ⟨q, hq, rfl⟩ := List.mem_map.1 hc
      have := (hfa q (List.mem_range.1 hq)).2
      simp [this]
end Go.Proofs.Ytipcdbfohgeipaa
