/-
  Canon: what 'Codes' comes to (a contract, by hand).
-/
import Derived.Test.YtogpjdiammecjaaHand
set_option linter.unusedSimpArgs false
set_option linter.unusedVariables false
namespace Go.Proofs.Ytogpjdiammecjaa
open Go.RowKit Go.Proofs.YtogpjdiammecjaaW.PrintWords

/-- the first code of a length -/
def startN (l : List Int) : Nat → Nat
  | 0 => 0
  | n + 1 => if n = 0 then 0 else (startN l n + l.count (n : Int)) * 2
theorem startN_succ (l : List Int) (n : Nat) (h : 0 < n) : startN l (n + 1) = (startN l n + l.count (n : Int)) * 2 := by simp only [startN]; rw [if_neg (by omega)]
theorem start_weight (l : List Int) : ∀ n, 1 ≤ n → n ≤ 15 → startN l n * 2 ^ (15 - n) = wtK l n := by
  intro n
  induction n with
  | zero => intro h; omega
  | succ n ih =>
    intro _ h2
    by_cases h0 : n = 0
    · subst h0; simp [startN, wtK]
    · rw [startN_succ l n (by omega), wtK_succ l n (by omega), ← ih (by omega) (by omega), ← Nat.add_mul, Nat.mul_assoc]
      congr 1
      rw [← Nat.pow_succ']
      congr 1
      omega
theorem wtK_mono (l : List Int) (a b : Nat) (h : a ≤ b) : wtK l a ≤ wtK l b := by
  induction b with
  | zero => obtain rfl : a = 0 := by omega
            exact Nat.le_refl _
  | succ b ih =>
    by_cases e : a = b + 1
    · subst e; exact Nat.le_refl _
    · have := ih (by omega)
      simp only [wtK]
      omega
theorem start_le (l : List Int) (hw : wtK l 16 ≤ 32768) (n : Nat) (h1 : 1 ≤ n) (h2 : n ≤ 15) : startN l n + l.count (n : Int) ≤ 2 ^ n := by
  have e1 := start_weight l n h1 h2
  have e2 := wtK_succ l n h1
  have e3 := wtK_mono l (n + 1) 16 (by omega)
  have e4 : (startN l n + l.count (n : Int)) * 2 ^ (15 - n) ≤ 2 ^ n * 2 ^ (15 - n) := by
    rw [Nat.add_mul, e1, ← e2, ← Nat.pow_add, show n + (15 - n) = 15 by omega]
    exact Nat.le_trans e3 hw
  exact Nat.le_of_mul_le_mul_right e4 (Nat.pow_pos (by omega))

/-- the table of next codes, when the first k lengths are told -/
def nextK (l : List Int) (k : Nat) : List Nat := (List.range 17).map fun j => if j ≤ k then startN l j else 0
theorem nextK_length (l : List Int) (k : Nat) : (nextK l k).length = 17 := by simp [nextK]
theorem nextK_get (l : List Int) (k j : Nat) (h : j < 17) : (nextK l k)[j]? = some (if j ≤ k then startN l j else 0) := by simp [nextK, h]
theorem nextK_set (l : List Int) (k : Nat) (h : k < 16) : (nextK l k).set (k + 1) (startN l (k + 1)) = nextK l (k + 1) := by
  apply List.ext_getElem?
  intro j
  by_cases hj : j < 17
  · rw [List.getElem?_set, nextK_length, nextK_get _ _ _ hj, nextK_get _ _ _ hj]
    by_cases e : k + 1 = j
    · subst e; simp [hj]
    · rw [if_neg e]
      by_cases h1 : j ≤ k
      · rw [if_pos h1, if_pos (by omega)]
      · rw [if_neg h1, if_neg (by omega)]
  · rw [List.getElem?_eq_none (by rw [List.length_set, nextK_length]; omega), List.getElem?_eq_none (by rw [nextK_length]; omega)]
/-- the table when the first s symbols have their codes -/
def nxt (l : List Int) (s : Nat) : List Nat := (List.range 17).map fun (j : Nat) => if j = 0 then 0 else startN l j + (l.take s).count (j : Int)
theorem nxt_length (l : List Int) (s : Nat) : (nxt l s).length = 17 := by simp [nxt]
theorem nxt_get (l : List Int) (s j : Nat) (h : j < 17) (h0 : j ≠ 0) : (nxt l s)[j]? = some (startN l j + (l.take s).count (j : Int)) := by simp [nxt, h, h0]
theorem nxt_zero (l : List Int) : nextK l 16 = nxt l 0 := by
  apply List.ext_getElem?
  intro j
  by_cases hj : j < 17
  · rw [nextK_get _ _ _ hj, if_pos (by omega)]
    by_cases h0 : j = 0
    · subst h0; simp [nxt, startN]
    · rw [nxt_get _ _ _ hj h0]; simp
  · rw [List.getElem?_eq_none (by rw [nextK_length]; omega), List.getElem?_eq_none (by rw [nxt_length]; omega)]
theorem nxt_skip (l : List Int) (s : Nat) (h : s < l.length) (h0 : rd l (s : Int) = 0) : nxt l (s + 1) = nxt l s := by
  simp only [nxt]
  apply List.map_congr_left
  intro j hj
  by_cases e : j = 0
  · rw [if_pos e, if_pos e]
  · rw [if_neg e, if_neg e, take_snoc_int l s h, h0, List.count_append]
    simp [List.count_cons, show ¬ ((0 : Int) = (j : Int)) by omega]
theorem nxt_next (l : List Int) (s n : Nat) (h : s < l.length) (hn : rd l (s : Int) = (n : Int)) (h0 : 0 < n) (h17 : n < 17) : nxt l (s + 1) = (nxt l s).set n (startN l n + (l.take s).count (n : Int) + 1) := by
  apply List.ext_getElem?
  intro j
  by_cases hj : j < 17
  · rw [List.getElem?_set, nxt_length]
    by_cases e : n = j
    · subst e
      rw [nxt_get _ _ _ hj (by omega), take_snoc_int l s h, hn, List.count_append]
      simp [hj, Nat.add_assoc]
    · rw [if_neg e]
      by_cases e0 : j = 0
      · subst e0; simp [nxt]
      · rw [nxt_get _ _ _ hj e0, nxt_get _ _ _ hj e0, take_snoc_int l s h, hn, List.count_append]
        simp [List.count_cons, show ¬ ((n : Int) = (j : Int)) by omega]
  · rw [List.getElem?_eq_none (by rw [nxt_length]; omega), List.getElem?_eq_none (by rw [List.length_set, nxt_length]; omega)]
/-- a symbol's code, and how long it is -/
def codeAt (l : List Int) (i : Nat) : Nat × Nat := if rd l (i : Int) = 0 then (0, 0) else (startN l (rd l (i : Int)).toNat + (l.take i).count (rd l (i : Int)), (rd l (i : Int)).toNat)
def codesK (l : List Int) (s : Nat) : List (Nat × Nat) := (List.range l.length).map fun i => if i < s then codeAt l i else (0, 0)
theorem codesK_length (l : List Int) (s : Nat) : (codesK l s).length = l.length := by simp [codesK]
theorem codesK_get (l : List Int) (s i : Nat) (h : i < l.length) : (codesK l s)[i]? = some (if i < s then codeAt l i else (0, 0)) := by simp [codesK, h]
theorem codesK_set (l : List Int) (s : Nat) (h : s < l.length) : (codesK l s).set s (codeAt l s) = codesK l (s + 1) := by
  apply List.ext_getElem?
  intro j
  by_cases hj : j < l.length
  · rw [List.getElem?_set, codesK_length, codesK_get _ _ _ hj, codesK_get _ _ _ hj]
    by_cases e : s = j
    · subst e; simp [hj]
    · rw [if_neg e]
      by_cases h1 : j < s
      · rw [if_pos h1, if_pos (by omega)]
      · rw [if_neg h1, if_neg (by omega)]
  · rw [List.getElem?_eq_none (by rw [List.length_set, codesK_length]; omega), List.getElem?_eq_none (by rw [codesK_length]; omega)]
theorem codesK_skip (l : List Int) (s : Nat) (h : s < l.length) (h0 : rd l (s : Int) = 0) : codesK l (s + 1) = codesK l s := by
  rw [← codesK_set l s h]
  apply List.ext_getElem?
  intro j
  rw [List.getElem?_set, codesK_length]
  by_cases e : s = j
  · subst e
    rw [if_pos rfl, if_pos h, codesK_get _ _ _ h, if_neg (Nat.lt_irrefl s)]
    simp [codeAt, h0]
  · rw [if_neg e]

/-- codes as cells, two each -/
def cellsC : List (Nat × Nat) → List Value
  | [] => []
  | p :: r => .int .u32 (p.1 : Nat) :: .int .u8 (p.2 : Nat) :: cellsC r
theorem cellsC_length (P : List (Nat × Nat)) : (cellsC P).length = P.length * 2 := by
  induction P with
  | nil => rfl
  | cons p r ih => simp [cellsC, ih]; omega
theorem cellsC_get0 : ∀ (P : List (Nat × Nat)) (i : Nat) (p : Nat × Nat), P[i]? = some p → (cellsC P)[2 * i]? = some (.int .u32 (p.1 : Nat))
  | q :: r, 0, p, h => by simp at h; subst h; rfl
  | q :: r, i + 1, p, h => by
    have := cellsC_get0 r i p (by simpa using h)
    rw [show 2 * (i + 1) = 2 * i + 1 + 1 by omega]
    simpa [cellsC] using this
theorem cellsC_get1 : ∀ (P : List (Nat × Nat)) (i : Nat) (p : Nat × Nat), P[i]? = some p → (cellsC P)[2 * i + 1]? = some (.int .u8 (p.2 : Nat))
  | q :: r, 0, p, h => by simp at h; subst h; rfl
  | q :: r, i + 1, p, h => by
    have := cellsC_get1 r i p (by simpa using h)
    rw [show 2 * (i + 1) + 1 = 2 * i + 1 + 1 + 1 by omega]
    simpa [cellsC] using this
theorem cellsC_set : ∀ (P : List (Nat × Nat)) (i a b : Nat), ((cellsC P).set (2 * i) (.int .u32 (a : Nat))).set (2 * i + 1) (.int .u8 (b : Nat)) = cellsC (P.set i (a, b))
  | [], i, a, b => by simp [cellsC]
  | q :: r, 0, a, b => by simp [cellsC]
  | q :: r, i + 1, a, b => by
    have := cellsC_set r i a b
    rw [show 2 * (i + 1) = 2 * i + 1 + 1 by omega]
    simp only [cellsC, List.set_cons_succ, this]
theorem made_cells (n : Nat) : madeCells #[.int .u32 0, .int .u8 0] (n * 2) = (cellsC (List.replicate n (0, 0))).toArray := by
  apply Array.ext_getElem?
  intro j
  by_cases hj : j < n * 2
  · have hr : (List.replicate n ((0 : Nat), (0 : Nat)))[j / 2]? = some (0, 0) := by rw [List.getElem?_replicate, if_pos (by omega)]
    have g0 := cellsC_get0 _ _ _ hr
    have g1 := cellsC_get1 _ _ _ hr
    rcases Nat.mod_two_eq_zero_or_one j with h | h
    · rw [show 2 * (j / 2) = j by omega] at g0
      simp [madeCells, hj, h, g0]
    · rw [show 2 * (j / 2) + 1 = j by omega] at g1
      simp [madeCells, hj, h, g1]
  · rw [Array.getElem?_eq_none (by rw [size_madeCells]; omega), Array.getElem?_eq_none (by simp [cellsC_length]; omega)]
theorem codesK_zero (l : List Int) : codesK l 0 = List.replicate l.length (0, 0) := by
  simp only [codesK, Nat.not_lt_zero, if_false]
  rw [show (fun (_ : Nat) => ((0 : Nat), (0 : Nat))) = Function.const Nat (0, 0) from rfl, List.map_const, List.length_range]

theorem alloc_row (w : World) (o : Obj) {k : Nat} {x : Obj} (h : w.heap[k]? = some x) : (w.alloc o).heap[k]? = some x := (Below.heap_alloc w o k (Array.getElem?_eq_some_iff.1 h).1).trans h

def CodesPost (l : List Int) (w : World) (e : Ending) (w' : World) : Prop :=
  ∃ B, w.heap.size ≤ B ∧ e = .returned (.tuple #[.slice (some ⟨B, 0, none⟩) l.length l.length, .int .i64 0]) ∧ w'.heap[B]? = some (.cells (cellsC (codesK l l.length)).toArray 31 (0, 0)) ∧ Below w.heap.size w w'

theorem codes_bad (l : List Int) (A : Option Addr) (c : Nat) (w : World) (hr : ReadsInt w .u8 A l.length l) (hb : ∀ x ∈ l, 0 ≤ x ∧ x < 256) (hg : kindI l = 5) :
    Calls Try.prog 9 #[.slice A l.length c] w fun e w' => e = .returned (.tuple #[.slice none 0 0, .int .i64 2]) ∧ Below w.heap.size w w' := by
  have ht := kind_any l A c w hr hb
  rw [hg] at ht
  clear hr hb hg
  go_enter Try.func9, Try.ntmps9
  go_wp2_with fail
  refine ht.mono ?_
  rintro e w1 ⟨rfl, hb1⟩
  have HB := Lib.hid hb1
  clear ht hb1
  go_wp2_with fail
  go_ret2
  exact ⟨rfl, HB.out⟩
theorem codes_over (l : List Int) (A : Option Addr) (c : Nat) (w : World) (hr : ReadsInt w .u8 A l.length l) (hb : ∀ x ∈ l, 0 ≤ x ∧ x < 256) (hg : kindI l = 4) :
    Calls Try.prog 9 #[.slice A l.length c] w fun e w' => e = .returned (.tuple #[.slice none 0 0, .int .i64 7]) ∧ Below w.heap.size w w' := by
  have ht := kind_any l A c w hr hb
  rw [hg] at ht
  clear hr hb hg
  go_enter Try.func9, Try.ntmps9
  go_wp2_with fail
  refine ht.mono ?_
  rintro e w1 ⟨rfl, hb1⟩
  have HB := Lib.hid hb1
  clear ht hb1
  go_wp2_with fail
  go_ret2
  exact ⟨rfl, HB.out⟩

abbrev blk32 (w : World) (B : Nat) (L : List Nat) : Prop := w.heap[B]? = some (.cells (numsV .u32 L).toArray 51 (0, 0))
theorem kind_of_ok (l : List Int) (h5 : kindI l ≠ 5) (h4 : kindI l ≠ 4) : good l = true ∧ wtK l 16 ≤ 32768 := by
  unfold kindI at h5 h4
  cases hg : good l with
  | false => rw [hg] at h5; simp at h5
  | true =>
    refine ⟨rfl, ?_⟩
    rw [hg] at h4
    simp only [if_true] at h4
    by_cases h0 : allK l 16 = 0
    · have : ∀ k, k ≤ 16 → wtK l k ≤ 32768 * allK l 16 := by
        intro k
        induction k with
        | zero => intro _; exact Nat.zero_le _
        | succ k ih =>
          intro hk
          have i1 := ih (by omega)
          have hm : ∀ a b, a ≤ b → allK l a ≤ allK l b := fun a b hab => by
            induction b with
            | zero => obtain rfl : a = 0 := by omega
                      exact Nat.le_refl _
            | succ b ihb =>
              by_cases e : a = b + 1
              · subst e; exact Nat.le_refl _
              · have := ihb (by omega)
                simp only [allK]
                omega
          have h2 := hm (k + 1) 16 hk
          rw [h0] at h2 i1 ⊢
          by_cases e : k = 0
          · subst e; simp [wtK]
          · rw [allK_succ l k (by omega)] at h2
            rw [wtK_succ l k (by omega), show l.count (k : Int) = 0 by omega]
            omega
      have := this 16 (by omega)
      rw [h0] at this
      omega
    · rw [if_neg h0] at h4
      by_cases h1 : 32768 < wtK l 16
      · rw [if_pos h1] at h4; exact absurd rfl h4
      · omega
set_option maxHeartbeats 2000000 in
theorem codes_ok (l : List Int) (A : Option Addr) (c : Nat) (w : World) (hr : ReadsInt w .u8 A l.length l) (hb : ∀ x ∈ l, 0 ≤ x ∧ x < 256) (h5 : kindI l ≠ 5) (h4 : kindI l ≠ 4) :
    Calls Try.prog 9 #[.slice A l.length c] w (CodesPost l w) := by
  have hk := kind_any l A c w hr hb
  have HKI := Lib.hid (kind_of_ok l h5 h4)
  have b5 : (kindI l == 5) = false := by rw [beq_eq_false_iff_ne]; exact h5
  have b4 : (kindI l == 4) = false := by rw [beq_eq_false_iff_ne]; exact h4
  have HR := Lib.hid hr
  have HB := Lib.hid hb
  clear hr hb h5 h4
  go_enter Try.func9, Try.ntmps9
  go_wp2_with fail
  refine hk.mono ?_
  rintro e w1 ⟨rfl, hb1⟩
  have ht := tally_any l A c w1 (HR.out.below hb1) HB.out
  have HB1 := Lib.hid hb1
  clear hk hb1
  go_wp2_with fail
  refine ht.mono ?_
  rintro e w2 ⟨T, hT, _, hT2, rfl, hb2⟩
  obtain rfl := hT2 HKI.out.1
  rw [HKI.out.1]
  have HB2 := Lib.hid (HB1.out.trans (hb2.mono HB1.out.size))
  clear ht hT2 hb2 HB1
  have hsz : (numsV .i64 (cnts l)).toArray.size = 16 := by simp [numsV_length, hT]
  have h1 := all_one (cnts l)
  have hi := info48 (cnts l) hT
  generalize hV : (numsV .i64 (cnts l)).toArray = V at *
  go_upto_block 0 with (first
    | (refine wpList_store_row rfl 48 (.tmp 4) (.tmp 20) rfl w2.heap.size V rfl rfl 48 _ (heap_alloc_last w2 _) hi (by rw [hsz]; rfl) h1 ?_))
  rw [World.setRow_alloc_new]
  obtain ⟨w3, hw3⟩ : ∃ w3, w3 = (w2.alloc (.cells V 48)).alloc (.cells #[.int .u32 0, .int .u32 0, .int .u32 0, .int .u32 0, .int .u32 0, .int .u32 0, .int .u32 0, .int .u32 0, .int .u32 0, .int .u32 0, .int .u32 0, .int .u32 0, .int .u32 0, .int .u32 0, .int .u32 0, .int .u32 0, .int .u32 0] 51) := ⟨_, rfl⟩
  have hT3 : Hid (blk w3 w2.heap.size (cnts l) 48) := Lib.hid (by rw [hw3]; unfold blk; rw [hV]; exact heap_alloc2_old w2 _ _)
  have hN3 : Hid (blk32 w3 (w2.heap.size + 1) (nextK l 1)) := Lib.hid (by rw [hw3]; unfold blk32; rw [show nextK l 1 = List.replicate 17 0 from rfl]; exact heap_alloc2_new w2 _ _)
  have hb3 : Hid (Below w.heap.size w w3) := Lib.hid (by rw [hw3]; exact (HB2.out.alloc HB2.out.size _).alloc (by have := HB2.out.size; simp; omega) _)
  have hBT : Hid (w.heap.size ≤ w2.heap.size) := Lib.hid HB2.out.size
  rw [← hw3]
  clear hw3 hi h1 hsz hV HB2
  generalize hBN : w2.heap.size + 1 = BN at *
  generalize w2.heap.size = BT at *
  have hNT : Hid (BT ≠ BN) := Lib.hid (by omega)
  have hBN2 : Hid (w.heap.size ≤ BN) := Lib.hid (by have := hBT.out; omega)
  clear hBN
  go_loopg [7] 15 (fun g s7 wx => ∃ k : Nat, 1 ≤ k ∧ k + g = 16 ∧ s7 = .int .i64 k ∧ Hid (blk32 wx BN (nextK l k)) ∧ Hid (blk wx BT (cnts l) 48) ∧ Hid (Below w.heap.size w wx))
  case atStart => exact ⟨1, by omega, by omega, rfl, hN3, hT3, hb3⟩
  case round =>
    obtain ⟨k, hk1, hkg, rfl, hN, hT2, hb⟩ := hrel
    cases gk with
    | zero =>
      obtain rfl : k = 16 := by omega
      have dk2 : decide (((16 : Nat) : Int) ≤ 15) = false := by decide
      have hl : l.length ≤ 320 := ((good_iff l).1 HKI.out.1).1
      have hN0 : Hid (blk32 wr BN (nxt l 0)) := Lib.hid (by have := hN.out; rw [nxt_zero] at this; exact this)
      clear hN hT2 hkg hk1
      have i31 : (Try.prog.info? 31).map (fun i => (i.zero, i.size, i.bytes)) = some (some (.agg #[.int .u32 0, .int .u8 0]), 2, 8) := by kernel_rfl
      obtain ⟨i0, hi0, hz0, hz1, hz2⟩ := info_parts i31
      have hmk := run_make (P := Try.prog) (w := wr) 24 31 i0 _ Try.underlying24 hi0 hz0 .i64 .i64 (l.length : Int) (l.length : Int) (by omega) (Int.le_refl _) (by rw [hz2]; omega) (by omega)
      rw [hz1, Int.toNat_natCast, show (Value.agg #[.int .u32 0, .int .u8 0]).cells = #[.int .u32 0, .int .u8 0] from rfl, made_cells, ← codesK_zero] at hmk
      clear i31 hi0 hz0 hz1 hz2 hl
      go_wp2_with fail
      obtain ⟨w4, hw4⟩ : ∃ w4, w4 = wr.alloc (.cells (cellsC (codesK l 0)).toArray 31) := ⟨_, rfl⟩
      have hN4 : Hid (blk32 w4 BN (nxt l 0)) := Lib.hid (by rw [hw4]; exact alloc_row wr _ hN0.out)
      have hC4 : Hid (w4.heap[wr.heap.size]? = some (.cells (cellsC (codesK l 0)).toArray 31 (0, 0))) := Lib.hid (by rw [hw4]; exact heap_alloc_last wr _)
      have hb4 : Hid (Below w.heap.size w w4) := Lib.hid (by rw [hw4]; exact hb.out.alloc hb.out.size _)
      have hNC : Hid (BN ≠ wr.heap.size) := Lib.hid (by have := (Array.getElem?_eq_some_iff.1 hN0.out).1; omega)
      have hBC : Hid (w.heap.size ≤ wr.heap.size) := Lib.hid hb.out.size
      rw [← hw4]
      clear hw4 hN0 hb hmk
      generalize wr.heap.size = BC at *
      go_loopg [43] l.length (fun g s43 wx => ∃ s : Nat, s + g = l.length ∧ s43 = .int .i64 s ∧ Hid (blk32 wx BN (nxt l s)) ∧ Hid (wx.heap[BC]? = some (.cells (cellsC (codesK l s)).toArray 31 (0, 0))) ∧ Hid (Below w.heap.size w wx))
      case atStart => exact ⟨0, by omega, rfl, hN4, hC4, hb4⟩
      case round =>
        obtain ⟨s, hsg, rfl, hN, hC, hb⟩ := hrel
        clear hN4 hC4 hb4
        cases gk with
        | zero =>
          have ds : decide (s < l.length) = false := by rw [decide_eq_false_iff_not]; omega
          have ds2 : decide ((s : Int) < (l.length : Int)) = false := by rw [decide_eq_false_iff_not]; omega
          have hC2 : Hid (wr.heap[BC]? = some (.cells (cellsC (codesK l l.length)).toArray 31 (0, 0))) := by
            obtain rfl : s = l.length := by omega
            exact hC
          clear hsg
          go_wp2_with fail
          go_ret2
          exact ⟨BC, hBC.out, rfl, hC2.out, hb.out⟩
        | succ g =>
          have hk : s < l.length := by omega
          have ds : decide (s < l.length) = true := by rw [decide_eq_true_eq]; omega
          have ds2 : decide ((s : Int) < (l.length : Int)) = true := by rw [decide_eq_true_eq]; omega
          have hl : l.length ≤ 320 := ((good_iff l).1 HKI.out.1).1
          have e2 : wrap64 ((s : Int) + 1) = (s : Int) + 1 := by unfold wrap64; omega
          obtain ⟨ad, e, hc0⟩ := ReadsInt.at_ HR.out (s : Int) (by omega) (by omega)
          cases e
          rw [Int.toNat_natCast] at hc0
          have hc := (hb.out.cell (World.block_lt_of_cell? w _ hc0)).trans hc0
          have hmem : rd l (s : Int) ∈ l := by simp [rd, hk]
          obtain ⟨h0, h1⟩ := HB.out _ hmem
          have h15 := ((good_iff l).1 HKI.out.1).2 _ hmem
          obtain ⟨n, hn⟩ : ∃ n : Nat, rd l (s : Int) = (n : Int) := ⟨(rd l (s : Int)).toNat, by omega⟩
          have hg := Lib.hid hsg
          by_cases hn0 : n = 0
          · subst hn0
            have hN2 : Hid (blk32 wr BN (nxt l (s + 1))) := Lib.hid (by rw [nxt_skip l s hk hn]; exact hN.out)
            have hC2 : Hid (wr.heap[BC]? = some (.cells (cellsC (codesK l (s + 1))).toArray 31 (0, 0))) := Lib.hid (by rw [codesK_skip l s hk hn]; exact hC.out)
            rw [hn] at hc
            clear hN hC hsg hmem h0 h1 h15 hn hc0 hl
            go_wp2_with fail
            go_roundg g
            case measure => omega
            case rel => exact ⟨s + 1, by have := hg.out; omega, by go_num, hN2, hC2, hb⟩
          · rw [hn] at hc h15
            have hlt : n < 16 := by omega
            have d0 : decide (0 < n) = true := by rw [decide_eq_true_eq]; omega
            have d0' : decide ((0 : Int) < (n : Int)) = true := by rw [decide_eq_true_eq]; omega
            have hst := start_le l HKI.out.2 n (by omega) (by omega)
            have hct : (l.take s).count (n : Int) ≤ l.count (n : Int) := (List.take_sublist s l).count_le _
            have hpw : (2 : Nat) ^ n ≤ 2 ^ 15 := Nat.pow_le_pow_right (by omega) (by omega)
            rw [show (2 : Nat) ^ 15 = 32768 from rfl] at hpw
            have hg0 := nxt_get l s n (by omega) hn0
            have hnn := nxt_next l s n hk hn (by omega) (by omega)
            have hat : codeAt l s = (startN l n + (l.take s).count (n : Int), n) := by
              unfold codeAt
              rw [hn, if_neg (by omega)]
              simp
            have hcs := codesK_set l s hk
            rw [hat] at hcs
            have hb16 : startN l n + (l.take s).count (n : Int) ≤ 32768 := by omega
            generalize startN l n + (l.take s).count (n : Int) = b at *
            have hcN : wr.cell? ⟨BN, n, none⟩ = some (.int .u32 (b : Nat)) := by
              rw [cell_of_row _ _ _ _ _ _ hN.out]
              simp [numsV, hg0]
            have hfN : wr.frozen? ⟨BN, n, none⟩ = false := frozen_of_row _ _ _ _ _ hN.out
            have hsz : (cellsC (codesK l s)).length = l.length * 2 := by rw [cellsC_length, codesK_length]
            have hcC0 : ∃ v, wr.cell? ⟨BC, s * 2, none⟩ = some v := ⟨_, by rw [cell_of_row _ _ _ _ _ _ hC.out]; exact Array.getElem?_eq_getElem (by simp [hsz]; omega)⟩
            have hcC1 : ∃ v, wr.cell? ⟨BC, s * 2 + 1, none⟩ = some v := ⟨_, by rw [cell_of_row _ _ _ _ _ _ hC.out]; exact Array.getElem?_eq_getElem (by simp [hsz]; omega)⟩
            obtain ⟨v0, hcC0⟩ := hcC0
            obtain ⟨v1, hcC1⟩ := hcC1
            have hfC0 : wr.frozen? ⟨BC, s * 2, none⟩ = false := frozen_of_row _ _ _ _ _ hC.out
            have hfC1 : wr.frozen? ⟨BC, s * 2 + 1, none⟩ = false := frozen_of_row _ _ _ _ _ hC.out
            have ne1 : (⟨BN, n, none⟩ : Addr) ≠ ⟨BC, s * 2, none⟩ := fun e => hNC.out (by injection e)
            have ne2 : (⟨BN, n, none⟩ : Addr) ≠ ⟨BC, s * 2 + 1, none⟩ := fun e => hNC.out (by injection e)
            have n1 : (0 : Int) ≤ (n : Int) := by omega
            have n2 : (n : Int) < 17 := by omega
            have hC6 : (((wr.setCell ⟨BC, s * 2, none⟩ (.int .u32 (b : Nat))).setCell ⟨BC, s * 2 + 1, none⟩ (.int .u8 (n : Nat)))).heap[BC]? = some (.cells (cellsC (codesK l (s + 1))).toArray 31 (0, 0)) := by
              have q1 := heap_setCell_same wr BC (s * 2) _ 31 (.int .u32 (b : Nat)) hC.out
              rw [heap_setCell_same _ BC (s * 2 + 1) _ 31 (.int .u8 (n : Nat)) q1, ← hcs, ← cellsC_set, Nat.mul_comm 2 s]
              simp
            have hN6 : (((wr.setCell ⟨BC, s * 2, none⟩ (.int .u32 (b : Nat))).setCell ⟨BC, s * 2 + 1, none⟩ (.int .u8 (n : Nat)))).heap[BN]? = some (.cells (numsV .u32 (nxt l s)).toArray 51 (0, 0)) :=
              ((heap_setCell_other _ _ _ _ hNC.out).trans (heap_setCell_other _ _ _ _ hNC.out)).trans hN.out
            have hcN6 : (((wr.setCell ⟨BC, s * 2, none⟩ (.int .u32 (b : Nat))).setCell ⟨BC, s * 2 + 1, none⟩ (.int .u8 (n : Nat)))).cell? ⟨BN, n, none⟩ = some (.int .u32 (b : Nat)) := by
              rw [cell_of_row _ _ _ _ _ _ hN6]
              simp [numsV, hg0]
            have hfN6 := frozen_of_row _ _ n _ _ hN6
            have hb6 := (hb.out.setCell (p := ⟨BC, s * 2, none⟩) hBC.out (.int .u32 (b : Nat))).setCell (p := ⟨BC, s * 2 + 1, none⟩) hBC.out (.int .u8 (n : Nat))
            have hN7 : Hid (blk32 ((((wr.setCell ⟨BC, s * 2, none⟩ (.int .u32 (b : Nat))).setCell ⟨BC, s * 2 + 1, none⟩ (.int .u8 (n : Nat)))).setCell ⟨BN, n, none⟩ (.int .u32 ((b : Int) + 1))) BN (nxt l (s + 1))) := Lib.hid (by
              have := heap_setCell_same _ BN n _ 51 (.int .u32 ((b : Int) + 1)) hN6
              unfold blk32
              rw [this, hnn, ← numsV_set]
              simp)
            have hC7 : Hid (((((wr.setCell ⟨BC, s * 2, none⟩ (.int .u32 (b : Nat))).setCell ⟨BC, s * 2 + 1, none⟩ (.int .u8 (n : Nat)))).setCell ⟨BN, n, none⟩ (.int .u32 ((b : Int) + 1))).heap[BC]? = some (.cells (cellsC (codesK l (s + 1))).toArray 31 (0, 0))) :=
              Lib.hid ((heap_setCell_other _ _ _ _ (fun e => hNC.out e.symm)).trans hC6)
            have hb7 : Hid (Below w.heap.size w ((((wr.setCell ⟨BC, s * 2, none⟩ (.int .u32 (b : Nat))).setCell ⟨BC, s * 2 + 1, none⟩ (.int .u8 (n : Nat)))).setCell ⟨BN, n, none⟩ (.int .u32 ((b : Int) + 1)))) := Lib.hid (hb6.setCell hBN2.out _)
            clear hsg hmem h0 h1 h15 hc0 hl hst hct hpw hg0 hC6 hN6 hb6 hnn hcs hat hN hC hb hsz
            go_wp2_with fail
            go_roundg g
            case measure => omega
            case rel => exact ⟨s + 1, by have := hg.out; omega, by go_num, hN7, hC7, hb7⟩
    | succ g =>
      have hk : k ≤ 15 := by omega
      have dk2 : decide ((k : Int) ≤ 15) = true := by rw [decide_eq_true_eq]; omega
      have hst := start_le l HKI.out.2 k hk1 hk
      have hpw : (2 : Nat) ^ k ≤ 2 ^ 15 := Nat.pow_le_pow_right (by omega) hk
      rw [show (2 : Nat) ^ 15 = 32768 from rfl] at hpw
      have hcnt := cnts_get l k (by omega)
      have hcT : wr.cell? ⟨BT, k, none⟩ = some (.int .i64 (l.count (k : Int) : Nat)) := by
        rw [cell_of_row _ _ _ _ _ _ hT2.out]
        simp [numsV, hcnt]
      have hcN : wr.cell? ⟨BN, k, none⟩ = some (.int .u32 (startN l k : Nat)) := by
        rw [cell_of_row _ _ _ _ _ _ hN.out]
        simp [numsV, nextK_get l k k (by omega)]
      have hfN : wr.frozen? ⟨BN, k + 1, none⟩ = false := frozen_of_row _ _ _ _ _ hN.out
      have hcN1 : ∃ v, wr.cell? ⟨BN, k + 1, none⟩ = some v := ⟨_, by
        rw [cell_of_row _ _ _ _ _ _ hN.out]
        simp [numsV, nextK_get l k (k + 1) (by omega)]
        rfl⟩
      obtain ⟨vN, hcN1⟩ := hcN1
      have es := startN_succ l k hk1
      have hset := nextK_set l k (by omega)
      have ev : ((startN l k : Int) + (l.count (k : Int) : Int)) * 2 = ((startN l (k + 1) : Nat) : Int) := by rw [es]; simp
      have hN' : Hid (blk32 ((wr.setCell ⟨BN, k + 1, none⟩ (.int .u32 (((startN l k : Int) + (l.count (k : Int) : Int)) * 2))).drew) BN (nextK l (k + 1))) := Lib.hid (by
        have := heap_setCell_same wr BN (k + 1) _ 51 (.int .u32 (startN l (k + 1) : Nat)) hN.out
        unfold blk32
        rw [ev, heap_drew, this, ← hset, ← numsV_set]
        simp)
      have hT' : Hid (blk ((wr.setCell ⟨BN, k + 1, none⟩ (.int .u32 (((startN l k : Int) + (l.count (k : Int) : Int)) * 2))).drew) BT (cnts l) 48) := Lib.hid ((heap_setCell_other _ _ _ _ hNT.out).trans hT2.out)
      have hb' : Hid (Below w.heap.size w ((wr.setCell ⟨BN, k + 1, none⟩ (.int .u32 (((startN l k : Int) + (l.count (k : Int) : Int)) * 2))).drew)) := Lib.hid (below_drew1 (hb.out.setCell hBN2.out _))
      clear ev
      clear hset hcnt hN hT2 hb
      have hg := Lib.hid hkg
      have e1 : wrap64 ((k : Int) + 1) = (k : Int) + 1 := by unfold wrap64; omega
      have n1 : (0 : Int) ≤ (k : Int) := by omega
      have n2 : (k : Int) < 16 := by omega
      have n3 : (k : Int) < 17 := by omega
      have n4 : (k : Int) + 1 < 17 := by omega
      generalize ha : startN l k = a at *
      generalize l.count (k : Int) = m at *
      clear hkg es ha
      go_wp2_with fail
      have hHeld : wr.drew.cell? ⟨BN, k, none⟩ = some (.int .u32 (a : Nat)) ∧ wr.drew.cell? ⟨BT, k, none⟩ = some (.int .i64 (m : Nat)) := ⟨hcN, hcT⟩
      refine wp_region_Z (fun w' => w'.cell? ⟨BN, k, none⟩ = some (.int .u32 (a : Nat)) ∧ w'.cell? ⟨BT, k, none⟩ = some (.int .i64 (m : Nat))) 12 [.take 0, .take 1, .take 2, .take 3, .take 4, .take 5, .take 6, .take 7, .take 8, .take 9, .take 10, .take 11, .last 12] [11, 10, 0, 1, 2, 3, 4, 5, 6, 7, 8, 9] (by kernel_rfl) (by kernel_rfl) (fun _ _ _ _ _ h => h) hHeld ?_
      refine T_light (a' := ?_) 26 rfl rfl rfl (of_decide_eq_true rfl) rfl hHeld (fun wq hSq K Q hK => ?_) ?_
      rotate_left
      · (go_step; exact hK)
      refine T_light (a' := ?_) 27 rfl rfl rfl (of_decide_eq_true rfl) rfl hHeld (fun wq hSq K Q hK => ?_) ?_
      rotate_left
      · (go_step; exact hK)
      refine T_light (a' := ?_) 28 rfl rfl rfl (of_decide_eq_true rfl) rfl hHeld (fun wq hSq K Q hK => ?_) ?_
      rotate_left
      · (go_step; exact hK)
      refine T_light (a' := ?_) 29 rfl rfl rfl (of_decide_eq_true rfl) rfl hHeld (fun wq hSq K Q hK => ?_) ?_
      rotate_left
      · (go_step; exact hK)
      refine T_light (a' := ?_) 30 rfl rfl rfl (of_decide_eq_true rfl) rfl hHeld (fun wq hSq K Q hK => ?_) ?_
      rotate_left
      · ((obtain ⟨q1, q2⟩ := hSq; go_step); exact hK)
      refine T_light (a' := ?_) 31 rfl rfl rfl (of_decide_eq_true rfl) rfl hHeld (fun wq hSq K Q hK => ?_) ?_
      rotate_left
      · (go_step; exact hK)
      refine T_light (a' := ?_) 32 rfl rfl rfl (of_decide_eq_true rfl) rfl hHeld (fun wq hSq K Q hK => ?_) ?_
      rotate_left
      · (go_step; exact hK)
      refine T_light (a' := ?_) 33 rfl rfl rfl (of_decide_eq_true rfl) rfl hHeld (fun wq hSq K Q hK => ?_) ?_
      rotate_left
      · ((obtain ⟨q1, q2⟩ := hSq; go_step); exact hK)
      refine T_light (a' := ?_) 34 rfl rfl rfl (of_decide_eq_true rfl) rfl hHeld (fun wq hSq K Q hK => ?_) ?_
      rotate_left
      · (go_step; exact hK)
      refine T_light (a' := ?_) 35 rfl rfl rfl (of_decide_eq_true rfl) rfl hHeld (fun wq hSq K Q hK => ?_) ?_
      rotate_left
      · (go_step; exact hK)
      refine T_light (a' := ?_) 36 rfl rfl rfl (of_decide_eq_true rfl) rfl hHeld (fun wq hSq K Q hK => ?_) ?_
      rotate_left
      · (go_step; exact hK)
      refine T_light (a' := ?_) 37 rfl rfl rfl (of_decide_eq_true rfl) rfl hHeld (fun wq hSq K Q hK => ?_) ?_
      rotate_left
      · (go_step; exact hK)
      refine T_last rfl rfl (fun K hK => ?_)
      go_step
      refine hK _ _ ?_
      clear hK K
      refine T_done ?_
      go_wp2_with fail
      go_roundg g
      case measure => omega
      case rel => exact ⟨k + 1, by omega, by have := hg.out; omega, by go_num, hN', hT', hb'⟩
end Go.Proofs.Ytogpjdiammecjaa
