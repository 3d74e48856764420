/-
  What ArenaApart comes to (a walk).
-/
import Derived.Test.YtdfmfbbeokhaaaaW4
set_option linter.unusedSimpArgs false
set_option linter.unusedVariables false
namespace Go.Proofs.Ytdfmfbbeokhaaaa
open Go.RowKit

set_option maxRecDepth 100000 in
theorem apart_big (s : ByteArray) (t : ByteArray) (hs : s.size ≤ 140737488351232) (ht : t.size ≤ 140737488351232) (hb : 512 < s.size + t.size) (one two cut : Nat) (w : World) :
    Calls Try.prog 6 #[.string s, .string t, .int .u8 (one : Nat), .int .u8 (two : Nat), .int .u8 (cut : Nat)] w fun e w' => e = .returned (.bool true) ∧ Below w.heap.size w w' := by
  have h1 : decide ((512 : Int) < (s.size : Int) + (t.size : Int)) = true := by rw [decide_eq_true_eq]; omega
  have h2 : wrap64 ((s.size : Int) + (t.size : Int)) = (s.size : Int) + (t.size : Int) := by unfold wrap64; omega
  clear hs ht hb
  go_enter Try.func6, Try.ntmps6
  go_wp2_with fail
  refine (alive_ok w).mono ?_
  rintro e w1 ⟨rfl, hb⟩
  go_wp2_with fail
  go_ret
  exact ⟨rfl, hb⟩
/-- a new arena of 2048 bytes: which bytes, is told apart -/
def New2048 (Z : List Nat) (w : World) (e : Ending) (w' : World) : Prop :=
  ∃ A B, e = .returned (.tuple #[.pointer (some ⟨A, 0, none⟩), .int .i64 0]) ∧ Ar w' A B Z 0 0 0 ∧ Below w.heap.size w w' ∧ w.heap.size ≤ A ∧ w.heap.size ≤ B
set_option maxRecDepth 100000 in
theorem new2048 : ∃ Z : List Nat, Z.length = 2048 ∧ (∀ x ∈ Z, x < 256) ∧ ∀ w, Calls Try.prog 9 #[.int .i64 2048] w (New2048 Z w) := ⟨List.replicate 2048 0, List.length_replicate, fun x hx => by rw [List.eq_of_mem_replicate hx]; decide, fun w => new_ok 2048 w (by omega)⟩

theorem put_get (L : List Nat) (at_ : Nat) (M : List Nat) (h : at_ + M.length ≤ L.length) (j : Nat) : (put L at_ M)[j]? = if at_ ≤ j ∧ j < at_ + M.length then M[j - at_]? else L[j]? := by
  unfold put
  have hl : (L.take at_).length = at_ := by simp; omega
  by_cases h1 : j < at_
  · rw [if_neg (by omega), List.getElem?_append_left (by omega), List.getElem?_take_of_lt h1]
  · rw [List.getElem?_append_right (by omega), hl]
    by_cases h2 : j - at_ < M.length
    · rw [if_pos (by omega), List.getElem?_append_left h2]
    · rw [if_neg (by omega), List.getElem?_append_right (by omega), List.getElem?_drop]
      congr 1
      omega
theorem write_small {w : World} {A B : Nat} {L : List Nat} {r wr by_ : Nat} (h : Ar w A B L r wr by_) (at_ : Nat) (s : ByteArray) (hL : L.length = 2048) (hs : at_ + s.size ≤ 2048) (hwr : wr ≤ 9) (hby : by_ ≤ 4096) :
    Calls Try.prog 12 #[.pointer (some ⟨A, 0, none⟩), .int .i64 (at_ : Nat), .string s] w fun e w' => e = .returned (.int .i64 0) ∧ Ar w' A B (put L at_ (byteL s)) r (wr + 1) (by_ + s.size) ∧ Beside [A, B] w w' :=
  write_ok h at_ s (by omega) (by omega) (by omega) (by omega) (by omega)
theorem read_small {w : World} {A B : Nat} {L : List Nat} {r wr by_ : Nat} (h : Ar w A B L r wr by_) (hL : L.length = 2048) (hr : r ≤ 9) :
    Calls Try.prog 14 #[.pointer (some ⟨A, 0, none⟩), .int .i64 0, .int .i64 2048] w fun e w' => e = .returned (.tuple #[.string (textOf L), .int .i64 0]) ∧ Ar w' A B L (r + 1) wr by_ ∧ Beside [A] w w' := by
  have := read_ok h 0 2048 (by omega) (by omega) (by omega)
  have hs : sub_ L 0 2048 = L := by simp only [sub_, List.drop_zero]; rw [List.take_of_length_le (by omega)]
  rw [hs] at this
  exact this
theorem apart_math (Z : List Nat) (hZ : Z.length = 2048) (s t : ByteArray) (one two k : Nat) (hb : ¬ 512 < s.size + t.size) (h1 : one < 256) (h2 : two < 256) (hks : k ≤ s.size) :
    (put Z one (byteL s)).length = 2048 ∧ (put (put Z one (byteL s)) (one + s.size + two) (byteL t)).length = 2048 ∧ (put Z (one + s.size + two) (byteL t)).length = 2048 ∧
    (put (put Z (one + s.size + two) (byteL t)) (one + k) (byteL (s.extract k s.size))).length = 2048 ∧
    put (put (put Z (one + s.size + two) (byteL t)) (one + k) (byteL (s.extract k s.size))) one (byteL (s.extract 0 k)) = put (put Z one (byteL s)) (one + s.size + two) (byteL t) ∧
    one + s.size ≤ 2048 ∧ one + s.size + two + t.size ≤ 2048 ∧ one + k + (s.extract k s.size).size ≤ 2048 ∧ one + (s.extract 0 k).size ≤ 2048 ∧
    0 + s.size ≤ 4096 ∧ 0 + t.size ≤ 4096 ∧ 0 + t.size + (s.extract k s.size).size ≤ 4096 := by
  have e1 : (s.extract k s.size).size = s.size - k := by simp [ByteArray.size_extract]
  have e2 : (s.extract 0 k).size = k := by simp [ByteArray.size_extract]; omega
  have l1 : (put Z one (byteL s)).length = 2048 := by rw [put_length _ _ _ (by rw [byteL_length]; omega), hZ]
  have l2 : (put (put Z one (byteL s)) (one + s.size + two) (byteL t)).length = 2048 := by rw [put_length _ _ _ (by rw [byteL_length, l1]; omega), l1]
  have l3 : (put Z (one + s.size + two) (byteL t)).length = 2048 := by rw [put_length _ _ _ (by rw [byteL_length]; omega), hZ]
  have l4 : (put (put Z (one + s.size + two) (byteL t)) (one + k) (byteL (s.extract k s.size))).length = 2048 := by rw [put_length _ _ _ (by rw [byteL_length, l3, e1]; omega), l3]
  refine ⟨l1, l2, l3, l4, ?_, by omega, by omega, by omega, by omega, by omega, by omega, by omega⟩
  apply List.ext_getElem?
  intro j
  have b1 : ∀ i, i < s.size - k → (byteL (s.extract k s.size))[i]? = (byteL s)[k + i]? := by
    intro i hi
    simp only [byteL, List.getElem?_map]
    congr 1
    simp only [Array.getElem?_toList]
    have : (s.extract k s.size).data = s.data.extract k s.size := ByteArray.data_extract
    rw [this, Array.getElem?_extract]
    have hsz : s.data.size = s.size := rfl
    rw [if_pos (by omega)]
  have b2 : ∀ i, i < k → (byteL (s.extract 0 k))[i]? = (byteL s)[i]? := by
    intro i hi
    simp only [byteL, List.getElem?_map]
    congr 1
    simp only [Array.getElem?_toList]
    have : (s.extract 0 k).data = s.data.extract 0 k := ByteArray.data_extract
    rw [this, Array.getElem?_extract]
    have hsz : s.data.size = s.size := rfl
    rw [if_pos (by omega)]
    simp
  rw [put_get _ _ _ (by rw [byteL_length, l4, e2]; omega), put_get _ _ _ (by rw [byteL_length, l3, e1]; omega), put_get _ _ _ (by rw [byteL_length, hZ]; omega), put_get _ _ _ (by rw [byteL_length, l1]; omega), put_get _ _ _ (by rw [byteL_length, hZ]; omega)]
  simp only [byteL_length, e1, e2]
  by_cases c1 : one ≤ j ∧ j < one + k
  · rw [if_pos c1, if_neg (by omega), if_pos (by omega), b2 _ (by omega)]
  · rw [if_neg c1]
    by_cases c2 : one + k ≤ j ∧ j < one + k + (s.size - k)
    · rw [if_pos c2, if_neg (by omega), if_pos (by omega), b1 _ (by omega)]
      congr 1
      omega
    · rw [if_neg c2]
      by_cases c3 : one + s.size + two ≤ j ∧ j < one + s.size + two + t.size
      · rw [if_pos c3, if_pos c3]
      · rw [if_neg c3, if_neg c3, if_neg (by omega)]
theorem text_extract (L : List Nat) (hb : ∀ x ∈ L, x < 256) (a : Nat) (s : ByteArray) (ha : a + s.size ≤ L.length) (h : ∀ j, j < s.size → L[a + j]? = (byteL s)[j]?) : (textOf L).extract a (a + s.size) = s := by
  apply byteL_inj
  apply List.ext_getElem?
  intro j
  have hsz : (textOf L).data.size = L.length := textOf_size L
  have hd : ((textOf L).extract a (a + s.size)).data = (textOf L).data.extract a (a + s.size) := ByteArray.data_extract
  have e : (byteL ((textOf L).extract a (a + s.size)))[j]? = if j < s.size then (byteL (textOf L))[a + j]? else none := by
    simp only [byteL, List.getElem?_map, Array.getElem?_toList, hd, Array.getElem?_extract]
    by_cases c : j < s.size
    · rw [if_pos c, if_pos (by omega)]
    · rw [if_neg c, if_neg (by omega)]; rfl
  rw [e, byteL_textOf L hb]
  by_cases c : j < s.size
  · rw [if_pos c, h j c]
  · rw [if_neg c, List.getElem?_eq_none (by rw [byteL_length]; omega)]
theorem apart_text (Z : List Nat) (hZ : Z.length = 2048) (hZb : ∀ x ∈ Z, x < 256) (s t : ByteArray) (one two : Nat) (hb : ¬ 512 < s.size + t.size) (h1 : one < 256) (h2 : two < 256) :
    ∃ T, textOf (put (put Z one (byteL s)) (one + s.size + two) (byteL t)) = T ∧ T.size = 2048 ∧ T.extract one (one + s.size) = s ∧ T.extract (one + s.size + two) (one + s.size + two + t.size) = t := by
  have l1 : (put Z one (byteL s)).length = 2048 := by rw [put_length _ _ _ (by rw [byteL_length]; omega), hZ]
  have l2 : (put (put Z one (byteL s)) (one + s.size + two) (byteL t)).length = 2048 := by rw [put_length _ _ _ (by rw [byteL_length, l1]; omega), l1]
  have lb := put_lt (at_ := one + s.size + two) (put_lt (at_ := one) hZb (byteL_lt s)) (byteL_lt t)
  refine ⟨_, rfl, by rw [textOf_size, l2], text_extract _ lb _ _ (by omega) fun j hj => ?_, text_extract _ lb _ _ (by omega) fun j hj => ?_⟩
  · rw [put_get _ _ _ (by rw [byteL_length, l1]; omega), put_get _ _ _ (by rw [byteL_length, hZ]; omega)]
    simp only [byteL_length]
    rw [if_neg (by omega), if_pos (by omega)]
    congr 1
    omega
  · rw [put_get _ _ _ (by rw [byteL_length, l1]; omega)]
    simp only [byteL_length]
    rw [if_pos (by omega)]
    congr 1
    omega
theorem cut_run (T : ByteArray) (a n : Nat) (s : ByteArray) (h : a + n ≤ T.size) (hs : T.extract a (a + n) = s) (w : World) :
    (Instr.sliceAt 9 (.string T) (some (.int .i64 (a : Nat))) (some (.int .i64 ((a : Int) + (n : Int)))) none).run Try.prog w = .ok (.string s) w := by
  rw [run_sliceAt_string w _ _ _ _ _ Try.underlying9, run_slice_string_if w _ _ _ _ _ _ Try.underlying9, if_pos (by omega), if_pos (by omega)]
  have e1 : ((a : Int)).toNat = a := by omega
  have e2 : ((a : Int) + (n : Int)).toNat = a + n := by omega
  rw [e1, e2, hs]
theorem dis {A B C D n : Nat} (hA : A < n) (hB : B < n) (hC : n ≤ C) (hD : n ≤ D) : C ∉ [A, B] ∧ D ∉ [A, B] ∧ A ∉ [C, D] ∧ B ∉ [C, D] ∧ A ∉ [C] ∧ B ∉ [C] ∧ C ∉ [A] ∧ D ∉ [A] := by
  simp only [List.mem_cons, List.not_mem_nil, or_false]
  omega
theorem ends {A B C D : Nat} {w w1 w2 w3 w4 w5 w6 w7 w8 w9 w10 w11 : World} (hb1 : Below w.heap.size w w1) (hb2 : Below w1.heap.size w1 w2) (hAg : w.heap.size ≤ A) (hBg : w.heap.size ≤ B) (hCg : w1.heap.size ≤ C) (hDg : w1.heap.size ≤ D)
    (x3 : Beside [A, B] w2 w3) (x4 : Beside [A, B] w3 w4) (y5 : Beside [C, D] w4 w5) (y6 : Beside [C, D] w5 w6) (y7 : Beside [C] w6 w7) (y8 : Beside [C, D] w7 w8) (x9 : Beside [A] w8 w9) (y10 : Beside [C] w9 w10) (hb11 : Below w10.heap.size w10 w11) : Below w.heap.size w w11 := by
  have m := hb1.size
  have b2 := bt hb1 hb2
  have e : Beside [A, B, C, D] w2 w10 := ((((((((x3.mono (by simp)).trans (x4.mono (by simp))).trans (y5.mono (by simp))).trans (y6.mono (by simp))).trans (y7.mono (by simp))).trans (y8.mono (by simp))).trans (x9.mono (by simp))).trans (y10.mono (by simp)))
  exact bt (Beside.to_below b2 e (by intro k hk; simp only [List.mem_cons, List.not_mem_nil, or_false] at hk; omega)) hb11
theorem apart_facts (s t one two cut k : Nat) (hb : ¬ 512 < s + t) (h1 : one < 256) (h2 : two < 256) (h3 : cut < 256) (hks : k ≤ s) :
    decide ((512 : Int) < (s : Int) + (t : Int)) = false ∧ wrap64 ((s : Int) + (t : Int)) = (s : Int) + (t : Int) ∧ wrap64 (one : Int) = (one : Int) ∧ wrap64 (two : Int) = (two : Int) ∧ wrap64 (cut : Int) = (cut : Int) ∧
    wrap64 ((one : Int) + (s : Int)) = (one : Int) + (s : Int) ∧ wrap64 ((one : Int) + (s : Int) + (two : Int)) = (one : Int) + (s : Int) + (two : Int) ∧ wrap64 ((one : Int) + (s : Int) + (two : Int) + (t : Int)) = (one : Int) + (s : Int) + (two : Int) + (t : Int) ∧ wrap64 ((s : Int) + 1) = (s : Int) + 1 ∧ wrap64 ((one : Int) + (k : Int)) = (one : Int) + (k : Int) ∧
    (((s : Int) + 1 = 0) = False) ∧ (((s : Int) + 1 == 0) = false) := by
  refine ⟨?_, ?_, ?_, ?_, ?_, ?_, ?_, ?_, ?_, ?_, ?_, ?_⟩
  · rw [decide_eq_false_iff_not]; omega
  all_goals first | (unfold wrap64; omega) | (rw [eq_iff_iff]; constructor <;> intro h <;> omega) | (simp; omega)
set_option maxRecDepth 100000 in
set_option maxHeartbeats 1000000 in
theorem apart_small (s : ByteArray) (t : ByteArray) (hb : ¬ 512 < s.size + t.size) (one two cut : Nat) (h1 : one < 256) (h2 : two < 256) (h3 : cut < 256) (k : Nat) (hk : (cut : Int).tmod ((s.size : Int) + 1) = (k : Nat)) (hks : k ≤ s.size) (w : World) :
    Calls Try.prog 6 #[.string s, .string t, .int .u8 (one : Nat), .int .u8 (two : Nat), .int .u8 (cut : Nat)] w fun e w' => e = .returned (.bool true) ∧ Below w.heap.size w w' := by
  obtain ⟨Z, hZ, hZb, hnew⟩ := new2048
  have Hnew := Lib.hid hnew
  obtain ⟨l1, l2, l3, l4, heq, n1, n2, n3, n4, n5, n6, n7⟩ := apart_math Z hZ s t one two k hb h1 h2 hks
  obtain ⟨T, hT, hT1, hT2, hT3⟩ := apart_text Z hZ hZb s t one two hb h1 h2
  have cr1 := cut_run T one s.size s (by omega) hT2
  have cr2 := cut_run T (one + s.size + two) t.size t (by omega) hT3
  simp only [Int.natCast_add] at cr2
  have hTn : ((T.size : Int) == 2048) = true := by rw [beq_iff_eq]; omega
  have Heq := Lib.hid heq
  clear hT1 hT2 hT3
  have HT := Lib.hid hT
  have L1 := Lib.hid l1
  have L2 := Lib.hid l2
  have L3 := Lib.hid l3
  have L4 := Lib.hid l4
  have N1 := Lib.hid n1
  have N2 := Lib.hid n2
  have N3 := Lib.hid n3
  have N4 := Lib.hid n4
  have N5 := Lib.hid n5
  have N6 := Lib.hid n6
  have N7 := Lib.hid n7
  have HZ := Lib.hid hZ
  clear heq hT l1 l2 l3 l4 n1 n2 n3 n4 n5 n6 n7 hZ
  obtain ⟨g1, g2, g3, g4, g5, g6, g7, g10, g8, g9, k0, k1⟩ := apart_facts s.size t.size one two cut k hb h1 h2 h3 hks
  clear hnew hb h1 h2 h3 hZb
  go_enter Try.func6, Try.ntmps6
  go_wp2_with fail
  refine (Hnew.out w).mono ?_
  rintro e w1 ⟨A, B, rfl, hA1, hb1, hAg, hBg⟩
  go_wp2_with fail
  refine (Hnew.out w1).mono ?_
  rintro e w2 ⟨C, D, rfl, hC2, hb2, hCg, hDg⟩
  have hA2 := hA1.below hb2
  obtain ⟨d1, d2, d3, d4, d5, d6, d7, d8⟩ := dis (row_lt hA1.head) (row_lt hA1.row) hCg hDg
  go_wp2_with fail
  refine (write_small hA2 one s HZ.out N1.out (by decide) (by decide)).mono ?_
  rintro e w3 ⟨rfl, hA3, hx3⟩
  have hC3 : Ar w3 C D Z 0 0 0 := hC2.beside hx3 d1 d2
  go_wp2_with fail
  refine (write_small hA3 (one + s.size + two) t L1.out N2.out (by decide) N5.out).mono ?_
  rintro e w4 ⟨rfl, hA4, hx4⟩
  have hC4 : Ar w4 C D Z 0 0 0 := hC3.beside hx4 d1 d2
  go_wp2_with fail
  refine (write_small hC4 (one + s.size + two) t HZ.out N2.out (by decide) (by decide)).mono ?_
  rintro e w5 ⟨rfl, hC5, hy5⟩
  have hA5 := hA4.beside hy5 d3 d4
  go_wp2_with fail
  refine (write_small hC5 (one + k) (s.extract k s.size) L3.out N3.out (by decide) N6.out).mono ?_
  rintro e w6 ⟨rfl, hC6, hy6⟩
  have hA6 := hA5.beside hy6 d3 d4
  go_wp2_with fail
  refine (read_small hC6 L4.out (by decide)).mono ?_
  rintro e w7 ⟨rfl, hC7, hy7⟩
  have hA7 := hA6.beside hy7 d5 d6
  go_wp2_with fail
  refine (write_small hC7 one (s.extract 0 k) L4.out N4.out (by decide) N7.out).mono ?_
  rintro e w8 ⟨rfl, hC8, hy8⟩
  rw [Heq.out] at hC8
  have hA8 := hA7.beside hy8 d3 d4
  go_wp2_with fail
  refine (read_small hA8 L2.out (by decide)).mono ?_
  rintro e w9 ⟨he, hA9, hx9⟩
  rw [HT.out] at he
  subst he
  have hC9 := hC8.beside hx9 d7 d8
  go_wp2_with fail
  refine (read_small hC9 L2.out (by decide)).mono ?_
  rintro e w10 ⟨he, hC10, hy10⟩
  rw [HT.out] at he
  subst he
  go_wp2_with fail
  refine (alive_ok w10).mono ?_
  rintro e w11 ⟨rfl, hb11⟩
  go_wp2_with fail
  go_ret
  exact ⟨rfl, ends hb1 hb2 hAg hBg hCg hDg hx3 hx4 hy5 hy6 hy7 hy8 hx9 hy10 hb11⟩
theorem apart_any (s : ByteArray) (hs : s.size ≤ 140737488351232) (t : ByteArray) (ht : t.size ≤ 140737488351232) (one : Nat) (h1 : one < 256) (two : Nat) (h2 : two < 256) (cut : Nat) (h3 : cut < 256) (w : World) :
    Calls Try.prog 6 #[.string s, .string t, .int .u8 (one : Nat), .int .u8 (two : Nat), .int .u8 (cut : Nat)] w fun e w' => e = .returned (.bool true) ∧ Below w.heap.size w w' := by
  by_cases hb : 512 < s.size + t.size
  · exact apart_big s t hs ht hb one two cut w
  · have hk : (cut : Int).tmod ((s.size : Int) + 1) = ((cut % (s.size + 1) : Nat) : Int) := rfl
    exact apart_small s t hb one two cut h1 h2 h3 _ hk (by have := Nat.mod_lt cut (show 0 < s.size + 1 by omega); omega) w
end Go.Proofs.Ytdfmfbbeokhaaaa
