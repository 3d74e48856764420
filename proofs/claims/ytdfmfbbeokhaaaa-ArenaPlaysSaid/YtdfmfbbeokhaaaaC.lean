/-
  Arena: a list of calls in memory; what 'Heavy' comes to.
-/
import Derived.Test.YtdfmfbbeokhaaaaW4
set_option linter.unusedSimpArgs false
set_option linter.unusedVariables false
namespace Go.Proofs.Ytdfmfbbeokhaaaa
open Go.RowKit

/-- a call -/
structure Cl where
  do_ : Nat
  at_ : Int
  n : Int
  s : ByteArray
/-- they lie in memory, one behind the other -/
def CallsAt (w : World) (A : Option Addr) (cs : List Cl) : Prop :=
  cs = [] ∨ ∃ ad, A = some ad ∧ ∀ (i : Nat) (c : Cl), cs[i]? = some c → w.cell? (ad.add (i * 4)) = some (.int .u8 (c.do_ : Nat)) ∧ w.cell? ⟨(ad.add (i * 4)).block, (ad.add (i * 4)).off + 1, none⟩ = some (.int .i64 c.at_) ∧
    w.cell? ⟨(ad.add (i * 4)).block, (ad.add (i * 4)).off + 2, none⟩ = some (.int .i64 c.n) ∧ w.cell? ⟨(ad.add (i * 4)).block, (ad.add (i * 4)).off + 3, none⟩ = some (.string c.s)
theorem CallsAt.get {w : World} {A : Option Addr} {cs : List Cl} (h : CallsAt w A cs) {i : Nat} (hi : i < cs.length) : ∃ ad c, A = some ad ∧ cs[i]? = some c ∧ w.cell? (ad.add (i * 4)) = some (.int .u8 (c.do_ : Nat)) ∧ w.cell? ⟨(ad.add (i * 4)).block, (ad.add (i * 4)).off + 1, none⟩ = some (.int .i64 c.at_) ∧
    w.cell? ⟨(ad.add (i * 4)).block, (ad.add (i * 4)).off + 2, none⟩ = some (.int .i64 c.n) ∧ w.cell? ⟨(ad.add (i * 4)).block, (ad.add (i * 4)).off + 3, none⟩ = some (.string c.s) := by
  rcases h with rfl | ⟨ad, hA, h⟩
  · simp at hi
  · exact ⟨ad, cs[i], hA, List.getElem?_eq_getElem hi, h i _ (List.getElem?_eq_getElem hi)⟩
theorem CallsAt.below {w w' : World} {A : Option Addr} {cs : List Cl} (h : CallsAt w A cs) (hb : Below w.heap.size w w') : CallsAt w' A cs := by
  rcases h with rfl | ⟨ad, hA, h⟩
  · exact .inl rfl
  · refine .inr ⟨ad, hA, fun i c hc => ?_⟩
    obtain ⟨a, b, c', d⟩ := h i c hc
    exact ⟨(hb.cell (World.block_lt_of_cell? w _ a)).trans a, (hb.cell (World.block_lt_of_cell? w _ b)).trans b, (hb.cell (World.block_lt_of_cell? w _ c')).trans c', (hb.cell (World.block_lt_of_cell? w _ d)).trans d⟩
def sumS : List Cl → Nat
  | [] => 0
  | c :: r => c.s.size + sumS r
theorem sumS_take (cs : List Cl) : ∀ (k : Nat) (c : Cl), cs[k]? = some c → sumS (cs.take (k + 1)) = sumS (cs.take k) + c.s.size := by
  induction cs with
  | nil => intro k c h; simp at h
  | cons x cs ih =>
    intro k c h
    cases k with
    | zero => simp at h; subst h; simp [sumS]
    | succ k =>
      have := ih k c (by simpa using h)
      simp only [List.take_succ_cons, sumS] at this ⊢
      omega
theorem sumS_take_le (cs : List Cl) : ∀ k, sumS (cs.take k) ≤ sumS cs := by
  induction cs with
  | nil => intro k; simp [sumS]
  | cons x cs ih =>
    intro k
    cases k with
    | zero => simp [sumS]
    | succ k =>
      have := ih k
      simp only [List.take_succ_cons, sumS]
      omega
def heavyB (cs : List Cl) : Bool := decide (4096 < sumS cs) || decide (200 < cs.length)
/-- no text is longer than this -/
def Short (cs : List Cl) : Prop := ∀ c ∈ cs, c.s.size ≤ 140737488351232
set_option maxHeartbeats 1000000 in
theorem heavy_any (w : World) (A : Option Addr) (c : Nat) (cs : List Cl) (h : CallsAt w A cs) (hs : Short cs) (hl : cs.length ≤ 140737488351232) :
    Calls Try.prog 7 #[.slice A cs.length c] w fun e w' => e = .returned (.bool (heavyB cs)) ∧ w = w' := by
  have H := Lib.hid h
  have HS := Lib.hid hs
  have HL := Lib.hid hl
  clear h hs hl
  go_enter Try.func7, Try.ntmps7
  go_wp2_with fail
  go_loopg [3, 4] cs.length (fun g s3 s4 wx => ∃ k : Nat, k + g = cs.length ∧ s3 = .int .i64 (sumS (cs.take k) : Nat) ∧ s4 = .int .i64 k ∧ Hid (sumS (cs.take k) ≤ 4096) ∧ w = wx)
  case atStart => exact ⟨0, by omega, by simp [sumS], rfl, Lib.hid (by simp [sumS]), rfl⟩
  case round =>
    obtain ⟨k, hkg, rfl, rfl, hn, rfl⟩ := hrel
    cases gk with
    | zero =>
      have d1 : decide (k < cs.length) = false := by rw [decide_eq_false_iff_not]; omega
      have d2 : decide ((k : Int) < (cs.length : Int)) = false := by rw [decide_eq_false_iff_not]; omega
      have hts : cs.take k = cs := List.take_of_length_le (by omega)
      have hv : Hid (heavyB cs = decide ((200 : Int) < (cs.length : Int))) := Lib.hid (by
        have := hn.out
        rw [hts] at this
        unfold heavyB
        rw [show decide (4096 < sumS cs) = false by rw [decide_eq_false_iff_not]; omega, Bool.false_or, decide_eq_decide]
        omega)
      clear hkg hts hn
      go_wp2_with fail
      go_ret
      exact ⟨by rw [hv.out]; first | rfl | simp, rfl⟩
    | succ g =>
      have hk : k < cs.length := by omega
      have d1 : decide (k < cs.length) = true := by rw [decide_eq_true_eq]; omega
      have d2 : decide ((k : Int) < (cs.length : Int)) = true := by rw [decide_eq_true_eq]; omega
      obtain ⟨ad, x, rfl, hx, _, _, _, hc⟩ := H.out.get hk
      have hsz := HS.out x (List.mem_of_getElem? hx)
      have e1 := sumS_take cs k x hx
      have e2 := sumS_take_le cs (k + 1)
      have ew : wrap64 ((sumS (cs.take k) : Int) + (x.s.size : Int)) = ((sumS (cs.take (k + 1)) : Nat) : Int) := by
        have := hn.out
        rw [e1]; unfold wrap64; omega
      have ek : wrap64 ((k : Int) + 1) = (k : Int) + 1 := by have := HL.out; unfold wrap64; omega
      have hg := Lib.hid hkg
      by_cases hle : 4096 < sumS (cs.take (k + 1))
      · have d3 : decide ((4096 : Int) < (sumS (cs.take (k + 1)) : Int)) = true := by rw [decide_eq_true_eq]; omega
        have hv : Hid (heavyB cs = true) := Lib.hid (by
          unfold heavyB
          rw [show decide (4096 < sumS cs) = true by rw [decide_eq_true_eq]; omega]
          rfl)
        clear hkg e1 e2 hle hx hn hsz
        generalize sumS (cs.take (k + 1)) = m at *
        go_wp2_with fail
        go_ret
        exact ⟨by rw [hv.out]; rfl, rfl⟩
      · have d3 : decide ((4096 : Int) < (sumS (cs.take (k + 1)) : Int)) = false := by rw [decide_eq_false_iff_not]; omega
        have hle2 := Lib.hid (Nat.le_of_not_lt hle)
        clear hkg e1 e2 hle hx hn hsz
        go_wp2_with fail
        go_roundg g
        case measure => omega
        case rel => exact ⟨k + 1, by have := hg.out; omega, by first | rfl | rw [ew], by go_num, hle2, rfl⟩
end Go.Proofs.Ytdfmfbbeokhaaaa
