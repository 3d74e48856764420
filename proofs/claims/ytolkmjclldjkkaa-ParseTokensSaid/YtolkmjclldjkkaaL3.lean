/-
  ChainFar: the walk, for every number more, or less.
-/
import Derived.Test.YtolkmjclldjkkaaL2
import Derived.Lib.BufferWrite
set_option linter.unusedSimpArgs false
set_option linter.unusedVariables false
namespace Go.Proofs.Ytolkmjclldjkkaa
open Go.RowKit

/-- the first j bytes are laid -/
def fillL (n j : Nat) : List Nat := (List.range n).map fun i => if i < j then i % 251 + 1 else 0
theorem fillL_length (n j : Nat) : (fillL n j).length = n := by simp [fillL]
theorem fillL_zero (n : Nat) : fillL n 0 = List.replicate n 0 := by
  apply List.ext_getElem?
  intro i
  by_cases h : i < n
  · simp [fillL, h]
  · simp [fillL, h]
theorem fillL_set (n j : Nat) (h : j < n) : (fillL n j).set j (j % 251 + 1) = fillL n (j + 1) := by
  apply List.ext_getElem?
  intro i
  by_cases hi : i < n
  · rw [List.getElem?_set, fillL_length]
    by_cases e : j = i
    · subst e; simp [fillL, h]
    · simp only [fillL, List.getElem?_map, List.getElem?_range hi, Option.map_some, if_neg e]
      congr 1
      by_cases h1 : i < j
      · rw [if_pos h1, if_pos (by omega)]
      · rw [if_neg h1, if_neg (by omega)]
  · rw [List.getElem?_eq_none (by rw [List.length_set, fillL_length]; omega), List.getElem?_eq_none (by rw [fillL_length]; omega)]
theorem fillL_lt (n j : Nat) : ∀ x ∈ fillL n j, x < 256 := by
  intro x hx
  obtain ⟨i, _, rfl⟩ := List.mem_map.1 hx
  split <;> omega
/-- the text -/
def farL (n : Nat) : List Nat := ([0, 255, 0] ++ (fillL (n + 3) (n + 3)).drop 3).take n ++ [0, 255, 0]
theorem farL_length (n : Nat) : (farL n).length = n + 3 := by
  simp [farL, fillL_length]
  omega
theorem farL_lt (n : Nat) : ∀ x ∈ farL n, x < 256 := by
  intro x hx
  rcases List.mem_append.1 hx with h | h
  · have h := List.mem_of_mem_take h
    rcases List.mem_append.1 h with h | h
    · simp at h; omega
    · exact fillL_lt _ _ x (List.mem_of_mem_drop h)
  · simp at h; omega
theorem farL_head (n i : Nat) (h : 3 ≤ n) (hi : i < 3) : (farL n).getD i 0 = [0, 255, 0].getD i 0 := by
  unfold farL
  rw [List.getD_eq_getElem?_getD, List.getElem?_append_left (by simp [fillL_length]; omega), List.getElem?_take_of_lt (by omega), List.getElem?_append_left (by simpa using hi), List.getD_eq_getElem?_getD]
theorem farL_tail (n i : Nat) (hi : i < 3) : (farL n).getD (n + i) 0 = [0, 255, 0].getD i 0 := by
  unfold farL
  have hl : (([0, 255, 0] ++ (fillL (n + 3) (n + 3)).drop 3).take n).length = n := by simp [fillL_length]; omega
  rw [List.getD_eq_getElem?_getD, List.getElem?_append_right (by omega), hl, Nat.add_sub_cancel_left, List.getD_eq_getElem?_getD]
theorem far_three0 (n : Nat) (h : 3 ≤ n) : threeAt (farL n) 0 = some (0, 255, 0) := by
  unfold threeAt
  rw [if_pos (by rw [farL_length]; omega), farL_head n 0 h (by decide), farL_head n (0 + 1) h (by decide), farL_head n (0 + 2) h (by decide)]
  rfl
theorem far_three (n : Nat) : threeAt (farL n) n = some (0, 255, 0) := by
  unfold threeAt
  rw [if_pos (by rw [farL_length]; omega), farL_tail n 1 (by decide), farL_tail n 2 (by decide)]
  have := farL_tail n 0 (by decide)
  rw [Nat.add_zero] at this
  rw [this]
  rfl
theorem longGo_stop (L : List Nat) (p a n f : Nat) (h : ¬ a + n < L.length) : longGo L p a n f = n := by
  cases f with
  | zero => rfl
  | succ f => unfold longGo; rw [if_neg (fun hh => h hh.1)]
theorem longGo_go (L : List Nat) (p a n f : Nat) (h : a + n < L.length) (e : L.getD (p + n) 0 = L.getD (a + n) 0) : longGo L p a n (f + 1) = longGo L p a (n + 1) f := by
  rw [longGo, if_pos ⟨h, e⟩]
theorem far_long (n : Nat) (h : 3 ≤ n) : longL (farL n) 0 n = 3 := by
  have hl := farL_length n
  have e : ∀ i, i < 3 → (farL n).getD (0 + i) 0 = (farL n).getD (n + i) 0 := fun i hi => by rw [Nat.zero_add, farL_head n i h hi, farL_tail n i hi]
  unfold longL
  rw [longGo_go _ _ _ _ _ (by omega) (e 0 (by decide)), longGo_go _ _ _ _ _ (by omega) (e (0 + 1) (by decide)), longGo_go _ _ _ _ _ (by omega) (e (0 + 1 + 1) (by decide))]
  exact longGo_stop _ _ _ _ _ (by omega)
theorem far_find (n : Nat) (h : 3 ≤ n) : findL (farL n) [0] (n : Int) 5 9 2 = if n ≤ 32768 then (3, n) else (0, 0) := by
  have hc : cand (farL n) (0, 255, 0) [0] = [0] := by
    unfold cand
    rw [List.filter_cons_of_pos (by rw [far_three0 n h]; simp)]; rfl
  unfold findL placesL
  rw [if_neg (by omega), Int.toNat_natCast, far_three n]
  simp only [hc]
  by_cases hn : n ≤ 32768
  · rw [if_pos hn]
    have : decide ((n : Int) - ((0 : Nat) : Int) ≤ 32768) = true := by rw [decide_eq_true_eq]; omega
    rw [List.takeWhile_cons, this, if_pos rfl]
    simp [eachGo, findStep, far_long n h]
  · rw [if_neg hn]
    have : decide ((n : Int) - ((0 : Nat) : Int) ≤ 32768) = false := by rw [decide_eq_false_iff_not]; omega
    rw [List.takeWhile_cons, this]
    simp [eachGo]
theorem fill_step {W : World} {B n j : Nat} (h : W.heap[B]? = some (.cells (numsV .u8 (fillL n j)).toArray 5 (0, 0))) (hj : j < n) : (W.setCell ⟨B, j, none⟩ (.int .u8 ((j : Int) % 251 + 1))).heap[B]? = some (.cells (numsV .u8 (fillL n (j + 1))).toArray 5 (0, 0)) := by
  rw [← fillL_set n j hj, ← numsV_set]
  have e : ((j % 251 + 1 : Nat) : Int) = (j : Int) % 251 + 1 := by omega
  rw [e]
  simp [World.setCell, Array.getElem?_modify, h]
theorem far_copy (w : World) (B o dLen dCap : Nat) (L : List Nat) (ty : TypeId) (hB : w.heap[B]? = some (.cells (numsV .u8 L).toArray 5 (0, 0))) (hd : 3 ≤ dLen) (hl : o + 3 ≤ L.length) :
    ∃ wC, (Builtin.copy_ #[35, 9] ty #[.slice (some ⟨B, o, none⟩) dLen dCap, .string ⟨#[0, 255, 0]⟩]).run Try.prog w = .ok (goInt 3) wC ∧ wC.heap[B]? = some (.cells (numsV .u8 (L.take o ++ [0, 255, 0] ++ L.drop (o + 3))).toArray 5 (0, 0)) ∧ ∀ n, n ≤ B → Below n w wC := by
  have h1 : (Try.prog.info? 5).map (·.size) = some 1 := by kernel_rfl
  have hr := Lib.run_copy_row_string (P := Try.prog) w 35 9 ty 5 B o dLen dCap ⟨#[0, 255, 0]⟩ (numsV .u8 L).toArray 5 Try.underlying35 h1 hB (by show 3 ≤ dLen; omega) (by show o + 3 ≤ _; simp [numsV_length]; omega)
  refine ⟨_, hr, ?_, fun n hn => ?_⟩
  · rw [setRow_heap _ _ _ _ _ _ hB]
    congr 2
    simp [numsV, Lib.byteCells]
    rfl
  · exact ⟨rfl, rfl, rfl, by rw [setRow_size]; exact Nat.le_refl _, fun k hk => setRow_other _ _ _ _ (by omega)⟩
theorem far_eq (n : Nat) : ((fillL (n + 3) (n + 3)).take 0 ++ [0, 255, 0] ++ (fillL (n + 3) (n + 3)).drop (0 + 3)).take n ++ [0, 255, 0] ++ ((fillL (n + 3) (n + 3)).take 0 ++ [0, 255, 0] ++ (fillL (n + 3) (n + 3)).drop (0 + 3)).drop (n + 3) = farL n := by
  have hl : ((fillL (n + 3) (n + 3)).take 0 ++ [0, 255, 0] ++ (fillL (n + 3) (n + 3)).drop (0 + 3)).length = n + 3 := by simp [fillL_length]
  have hd : ((fillL (n + 3) (n + 3)).take 0 ++ [0, 255, 0] ++ (fillL (n + 3) (n + 3)).drop (0 + 3)).drop (n + 3) = [] := List.drop_eq_nil_of_le (Nat.le_of_eq hl)
  rw [hd, List.append_nil, List.take_zero, List.nil_append, Nat.zero_add]
  rfl
theorem far_cut (B n : Nat) (W : World) : (Instr.slice 35 (.slice (some ⟨B, 0, none⟩) (n + 3) (n + 3)) (some (.int .i64 (n : Int))) none none).run Try.prog W = .ok (.slice (some ⟨B, n, none⟩) 3 3) W := by
  have hi : (Try.prog.info? 5).map (·.size) = some 1 := by kernel_rfl
  obtain ⟨i5, h5, h5s⟩ := Option.map_eq_some_iff.1 hi
  have hel : Try.prog.elem 35 = 5 := by kernel_rfl
  have hu : Try.prog.underlying 35 = some (.slice (Try.prog.elem 35)) := by rw [hel]; exact Try.underlying35
  rw [run_slice_l W 35 (some ⟨B, 0, none⟩) (n + 3) (n + 3) hu .i64 (n : Int) (Int.natCast_nonneg _) (by omega), hel]
  simp [sizeOf, typeInfo, h5, h5s, sliced, Result.andThen, Addr.add_lit]
set_option maxHeartbeats 2000000 in
theorem far_all (more : Int) (h1 : -128 ≤ more) (h2 : more < 128) (w : World) :
    Calls Try.prog 4 #[.int .i8 more] w fun e w' => e = .returned (.bool true) ∧ Below w.heap.size w w' := by
  obtain ⟨n, hn⟩ : ∃ n : Nat, 32768 + more = (n : Int) := ⟨(32768 + more).toNat, by omega⟩
  have HN := Lib.hid (show 32640 ≤ n ∧ n ≤ 32895 by omega)
  have HM := Lib.hid (And.intro hn (And.intro h1 h2))
  have ea : wrap64 more = more := by unfold wrap64; omega
  have e0 : wrap64 (32768 + more) = (n : Int) := by unfold wrap64; omega
  have e1 : wrap64 ((n : Int) + 3) = ((n + 3 : Nat) : Int) := by unfold wrap64; omega
  have hmk := make_row (P := Try.prog) 35 5 (.int .u8 0) 1 Try.underlying35 (by kernel_rfl) rfl (n + 3) (by omega) (by omega) w
  clear hn h1 h2
  obtain ⟨B, hB⟩ : ∃ B, w.heap.size = B := ⟨_, rfl⟩
  obtain ⟨w1, hw1⟩ : ∃ w1, w.alloc (.cells (List.replicate (n + 3) (.int .u8 0)).toArray 5) = w1 := ⟨_, rfl⟩
  have hr1 : w1.heap[B]? = some (.cells (numsV .u8 (fillL (n + 3) 0)).toArray 5 (0, 0)) := by
    rw [← hw1, ← hB, fillL_zero, numsV, List.map_replicate]; exact heap_alloc_last w _
  have hb1 : Below w.heap.size w w1 := by rw [← hw1]; exact (Below.refl _ w).alloc (Nat.le_refl _) _
  rw [hB, hw1, show ((n + 3 : Nat) : Int) = (n : Int) + 3 by omega] at hmk
  have HR1 := Lib.hid hr1
  have HB1 := Lib.hid (And.intro hb1 hB)
  clear hr1 hb1 hw1 hB
  go_enter Try.func4, Try.ntmps4
  go_wp2_with fail
  go_loopg [5] (n + 3) (fun f s5 wx => ∃ j : Nat, s5 = .int .i64 (j : Int) ∧ Hid (j + f = n + 3) ∧ Hid (wx.heap[B]? = some (.cells (numsV .u8 (fillL (n + 3) j)).toArray 5 (0, 0))) ∧ Hid (Below w.heap.size w wx))
  case atStart => exact ⟨0, rfl, Lib.hid (Nat.zero_add _), HR1, Lib.hid HB1.out.1⟩
  case round =>
    obtain ⟨j, rfl, HJ, HR, HB⟩ := hrel
    cases gk with
    | succ f =>
      have HJ3 := Lib.hid (show j < n + 3 by have := HJ.out; omega)
      have dk : decide (j < n + 3) = true := by rw [decide_eq_true_eq]; exact HJ3.out
      have dk2 : decide ((j : Int) < (n : Int) + 3) = true := by rw [decide_eq_true_eq]; have := HJ3.out; omega
      have e2 : wrap64 ((j : Int) + 1) = ((j + 1 : Nat) : Int) := by have := HJ3.out; have := HN.out; unfold wrap64; omega
      have n1 : (0 : Int) ≤ (j : Int) := by omega
      have n2 : (j : Int) < (n : Int) + 3 := by have := HJ3.out; omega
      have c0 : ∃ v, wr.cell? ⟨B, j, none⟩ = some v := ⟨_, by rw [cell_blk HR.out]; exact Array.getElem?_eq_getElem (by simp [numsV_length, fillL_length]; exact HJ3.out)⟩
      obtain ⟨v0, c0⟩ := c0
      have f0 : wr.frozen? ⟨B, j, none⟩ = false := by unfold World.frozen?; rw [HR.out]; rfl
      go_wp2_with fail
      go_roundg f
      case measure => exact Nat.lt_succ_self f
      case rel => exact ⟨j + 1, by rw [e2], Lib.hid (by have := HJ.out; omega), Lib.hid (fill_step HR.out HJ3.out), Lib.hid (HB.out.setCell (p := ⟨B, j, none⟩) (by rw [HB1.out.2]; exact Nat.le_refl _) _)⟩
    | zero =>
      obtain rfl : j = n + 3 := HJ.out
      obtain ⟨W2, hcp1, hr2, hb2⟩ := far_copy wr B 0 (n + 3) (n + 3) _ 3 HR.out (by omega) (by simp [numsV_length, fillL_length])
      obtain ⟨W3, hcp2, hr3, hb3⟩ := far_copy W2 B n 3 3 _ 3 hr2 (by omega) (by simp [numsV_length, fillL_length])
      have hcut := far_cut B n
      have hr4 : W3.heap[B]? = some (.cells (numsV .u8 (farL n)).toArray 5 (0, 0)) := by
        rw [hr3, far_eq]
      have hcv := string_of_row (P := Try.prog) 35 9 5 Try.underlying35 Try.underlying5 Try.underlying9 (w := W3) (B := B) (off := 0) (n + 3) (n + 3) (farL n) (farL_lt n) (farL_length n).symm (fun i m hi => by
        rw [Nat.zero_add, cell_blk hr4]
        simp [numsV, hi])
      have HB3 := Lib.hid (show Below w.heap.size w W3 from HB.out.trans ((hb2 _ (Nat.le_of_eq HB1.out.2)).trans (hb3 _ (Nat.le_of_eq HB1.out.2))))
      obtain ⟨t, ht⟩ : ∃ t, textOf (farL n) = t := ⟨_, rfl⟩
      rw [ht] at hcv
      have HT := Lib.hid (show byteL t = farL n by rw [← ht]; exact byteL_textOf _ (farL_lt n))
      have HTS := Lib.hid (show t.size = n + 3 by rw [← ht, textOf_size, farL_length])
      clear hr2 hb2 hr3 hb3 hr4 ht
      go_wp2_with fail
      refine (new_any t W3 (by rw [HTS.out]; have := HN.out; omega)).mono ?_
      rintro e w4 ⟨A, rfl, hf4, hb4⟩
      have HF4 := Lib.hid hf4
      have HB4 := Lib.hid (HB3.out.trans (hb4.mono HB3.out.size))
      have HW3 := Lib.hid (And.intro HB3.out.size hb4.size)
      clear hf4 hb4 hcv hcp1 hcp2 hcut hmk
      go_wp2_with fail
      refine (put_any 0 W3.heap.size A t [] w4 HF4.out (by decide) HW3.out.2).mono ?_
      rintro e w5 ⟨rfl, hf5, hk5⟩
      rw [show putI t.size [] 0 = (0, [0]) from by unfold putI; rw [if_neg (by rw [HTS.out]; omega), if_neg (by decide)]; rfl] at hf5 ⊢
      have HF5 := Lib.hid hf5
      have HB5 := Lib.hid (HB4.out.trans ⟨hk5.below.os, hk5.below.tape, hk5.below.output, hk5.below.size, fun k hk => hk5.below.block k (Nat.lt_of_lt_of_le hk HW3.out.1)⟩)
      clear hf5 hk5
      go_wp2_with fail
      refine (find_any (n : Int) 5 9 2 W3.heap.size A t [0] w5 HF5.out (fun p hp => by rw [List.mem_singleton.1 hp, HTS.out]; have := HN.out; omega) (by have := HN.out; omega) (by decide)).mono ?_
      rintro e w6 ⟨rfl, hf6, hb6⟩
      rw [HT.out, far_find n (by have := HN.out; omega)]
      have HB6 := Lib.hid (HB5.out.trans (hb6.mono HB5.out.size))
      clear hf6 hb6
      by_cases hmo : 0 < more
      · have dm : decide ((0 : Int) < more) = true := by rw [decide_eq_true_eq]; exact hmo
        rw [if_neg (by have := HM.out; omega)]
        have h7 : (w6.alloc (.cells #[.int .i64 0, .int .i64 0] 29)).heap[w6.heap.size]? = some (.cells #[.int .i64 0, .int .i64 0] 29 (0, 0)) := heap_alloc_last w6 _
        have HB7 := Lib.hid (show Below w.heap.size w (w6.alloc (.cells #[.int .i64 0, .int .i64 0] 29)) from HB6.out.alloc HB6.out.size _)
        have m0 : (w6.alloc (.cells #[.int .i64 0, .int .i64 0] 29)).cell? ⟨w6.heap.size, 0, none⟩ = some (.int .i64 0) := cell_blk h7 0
        have m1 : (w6.alloc (.cells #[.int .i64 0, .int .i64 0] 29)).cell? ⟨w6.heap.size, 1, none⟩ = some (.int .i64 0) := cell_blk h7 1
        have qe : (binOp .eql 29 (.agg #[.int .i64 0, .int .i64 0]) (.agg #[.int .i64 0, .int .i64 0])).run Try.prog (w6.alloc (.cells #[.int .i64 0, .int .i64 0] 29)) = .ok (.bool true) (w6.alloc (.cells #[.int .i64 0, .int .i64 0] 29)) := eq29 (w6.alloc (.cells #[.int .i64 0, .int .i64 0] 29)) 0 0 0 0
        clear hmo h7
        go_wp2_with fail
        refine (works_any (w6.alloc (.cells #[.int .i64 0, .int .i64 0] 29))).mono ?_
        rintro e w8 ⟨rfl, hb8⟩
        have HB8 := Lib.hid (HB7.out.trans (hb8.mono HB7.out.size))
        clear hb8
        go_wp2_with fail
        go_ret
        exact ⟨rfl, HB8.out⟩
      · have dm : decide ((0 : Int) < more) = false := by rw [decide_eq_false_iff_not]; exact hmo
        rw [if_pos (by have := HM.out; omega)]
        obtain ⟨w7, hw7⟩ : ∃ w7, w6.alloc (.cells #[.int .i64 3, .int .i64 (n : Int)] 29) = w7 := ⟨_, rfl⟩
        have h7 : w7.heap[w6.heap.size]? = some (.cells #[.int .i64 3, .int .i64 (n : Int)] 29 (0, 0)) := by rw [← hw7]; exact heap_alloc_last w6 _
        have HB7 := Lib.hid (show Below w.heap.size w w7 by rw [← hw7]; exact HB6.out.alloc HB6.out.size _)
        have m0 : w7.cell? ⟨w6.heap.size, 0, none⟩ = some (.int .i64 3) := cell_blk h7 0
        have m1 : w7.cell? ⟨w6.heap.size, 1, none⟩ = some (.int .i64 (n : Int)) := cell_blk h7 1
        have qe : (binOp .eql 29 (.agg #[.int .i64 3, .int .i64 (n : Int)]) (.agg #[.int .i64 3, .int .i64 (n : Int)])).run Try.prog w7 = .ok (.bool true) w7 := by rw [eq29]; simp
        clear hmo h7
        go_wp2_with fail
        refine (works_any w7).mono ?_
        rintro e w8 ⟨rfl, hb8⟩
        have HB8 := Lib.hid (HB7.out.trans (hb8.mono HB7.out.size))
        clear hb8
        go_wp2_with fail
        go_ret
        exact ⟨rfl, HB8.out⟩
end Go.Proofs.Ytolkmjclldjkkaa
