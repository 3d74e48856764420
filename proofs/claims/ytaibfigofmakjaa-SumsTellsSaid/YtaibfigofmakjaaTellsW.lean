/-
  What SumsTells comes to (a walk): true, whatever the text, the sums, the length and the cell of a table.
-/
import Derived.Test.YtaibfigofmakjaaW2
import Derived.Test.YtaibfigofmakjaaT
import Derived.Test.YtaibfigofmakjaaOwn
set_option linter.unusedSimpArgs false
set_option linter.unusedVariables false
namespace Go.Proofs.Ytaibfigofmakjaa
open Go.RowKit

theorem neq_tab (w : World) : (binOp .neq 25 (.agg (tab crcT)) (.agg (tab crcT))).run Try.prog w = .ok (.bool false) w := by kernel_rfl

set_option maxHeartbeats 1600000 in
theorem tells_any (s : ByteArray) (hs : s.size ≤ 140737488351232) (a : Nat) (ha : a < 4294967296) (b : Nat) (hbn : b < 4294967296) (n : Nat) (hn : n < 18446744073709551616) (at_ : Nat) (hat : at_ < 256) (cell : Nat) (hc : cell < 4294967296) (w : World) :
    Calls Try.prog 3 #[.string s, .int .u32 a, .int .u32 b, .int .u64 n, .int .u8 at_, .int .u32 cell] w fun e w' => e = .returned (.bool true) ∧ Below w.heap.size w w' := by
  have hB := Below.refl w.heap.size w
  by_cases hbig : 16384 < s.size
  · have ht : decide ((16384 : Int) < (s.size : Int)) = true := by rw [decide_eq_true_eq]; omega
    go_enter Try.func3, Try.ntmps3
    go_wp2_with (go_at_call 8; refine (alive_any _).mono ?_; rintro e w' ⟨rfl, hb⟩; replace hB := bt hB hb; clear hb)
    go_ret
    exact ⟨rfl, hB⟩
  · have ht : decide ((16384 : Int) < (s.size : Int)) = false := by rw [decide_eq_false_iff_not]; omega
    have hz := zero25
    go_enter Try.func3, Try.ntmps3
    go_wp2_with (first
      | (go_at_call 9; refine (refTable_any _).mono ?_; rintro e w1 ⟨rfl, hb1⟩; replace hB := bt hB hb1; clear hb1)
      | (with_reducible refine wpList_store_row rfl 25 _ _ rfl _ (tab crcT) rfl rfl 25 zeros (heap_alloc_new _ _) (size25 _) (zeros_size _) (tab_one _) ?_))
    simp only [Act.put]
    obtain ⟨wT, hwT⟩ : ∃ wT, wT = (w1.alloc (Obj.cells zeros 25)).setRow w1.heap.size (tab crcT) := ⟨_, rfl⟩
    obtain ⟨B, hBe⟩ : ∃ B, B = w1.heap.size := ⟨_, rfl⟩
    have hrow : wT.heap[B]? = some (.cells (tab crcT) 25 (0, 0)) := by
      rw [hwT, hBe]; exact setRow_heap _ _ zeros _ 25 (0, 0) (heap_alloc_new _ _)
    have hB2 : Below w.heap.size w wT := by rw [hwT]; exact below_row (hB.alloc hB.size _) hB.size _
    have hle : w.heap.size ≤ B := by rw [hBe]; exact hB.size
    rw [← hwT, ← hBe]
    clear hwT hBe hB hz
    have hne := neq_tab
    have hHeld : wT.drew.heap[B]? = some (.cells (tab crcT) 25 (0, 0)) ∧ Below w.heap.size w wT.drew := ⟨hrow, hB2.drew⟩
    clear hrow hB2
    refine wp_region_T (fun w' => w'.heap[B]? = some (.cells (tab crcT) 25 (0, 0)) ∧ Below w.heap.size w w') [.take 1, .go 0, .take 2] (by kernel_rfl) (by kernel_rfl) (fun _ _ _ _ _ h => h) hHeld ?_
    refine T_light (a' := ?_) 20 rfl rfl rfl (of_decide_eq_true rfl) rfl hHeld (fun wq hSq K Q hK => ?_) ?_
    rotate_left
    · (refine wp_load_row 25 _ rfl B rfl 25 (tab crcT) (0, 0) _ hSq.1 Try.underlying25 rfl (size25 _) ?_; exact hK)
    refine T_call own10 19 [] rfl rfl rfl rfl rfl ?_
    refine (table_any _).mono ?_; rintro e w2 ⟨rfl, hb⟩; have hHeld := keepR hHeld hb; clear hb
    refine ⟨_, rfl, hHeld, ?_⟩
    simp only [Act.put, List.setIfInBounds_toArray, List.set_cons_zero, List.set_cons_succ]
    refine T_light (a' := ?_) 21 rfl rfl rfl (of_decide_eq_true rfl) rfl hHeld (fun wq hSq K Q hK => ?_) ?_
    rotate_left
    · (go_step; exact hK)
    refine T_done ?_
    obtain ⟨hrow, hB⟩ := hHeld
    rename_i w3
    clear hne
    have hcell : w2.cell? ⟨B, at_, none⟩ = some (.int .u32 (crcT at_ : Nat)) := by rw [cell_of_row w2 B at_ _ _ _ hrow, tab_get _ _ hat]
    have hfree : w2.frozen? ⟨B, at_, none⟩ = false := frozen_of_row w2 B at_ _ _ hrow
    have Hrow := Lib.hid hrow
    clear hrow
    go_wp2_with fail
    obtain ⟨wU, hwU⟩ : ∃ wU, wU = w2.setCell ⟨B, at_, none⟩ (.int .u32 (cell : Nat)) := ⟨_, rfl⟩
    have hrow : wU.heap[B]? = some (.cells (tab (turned at_ cell)) 25 (0, 0)) := by
      rw [hwU, heap_setCell_same w2 B at_ _ _ _ Hrow.out, tab_set]; rfl
    have hB2 : Below w.heap.size w wU := by rw [hwU]; exact hB.setCell hle _
    rw [← hwU]
    clear hwU hB hcell hfree Hrow
    have hHeld : wU.drew.heap[B]? = some (.cells (tab (turned at_ cell)) 25 (0, 0)) ∧ Below w.heap.size w wU.drew := ⟨hrow, hB2.drew⟩
    clear hrow hB2
    have hlt := turned_lt hc (k := at_)
    refine wp_region_T (fun w' => w'.heap[B]? = some (.cells (tab (turned at_ cell)) 25 (0, 0)) ∧ Below w.heap.size w w') [.take 0, .take 2, .go 1, .go 3, .take 4, .take 5, .take 6, .take 7, .take 9, .take 10, .go 8, .go 11, .take 12, .take 13, .take 14, .take 15, .take 16, .take 17, .take 19, .take 20, .take 21, .go 18, .go 22, .take 23, .take 24, .take 25, .take 26, .take 28, .go 27, .go 29, .take 30, .take 31, .take 32, .take 33, .take 34, .take 35, .take 37, .take 38, .take 39, .go 36, .go 40, .take 41, .take 42, .take 43, .go 44, .take 45, .take 46] (by kernel_rfl) (by kernel_rfl) (fun _ _ _ _ _ h => h) hHeld ?_
    refine T_light (a' := ?_) 25 rfl rfl rfl (of_decide_eq_true rfl) rfl hHeld (fun wq hSq K Q hK => ?_) ?_
    rotate_left
    · (go_step; exact hK)
    refine T_light (a' := ?_) 27 rfl rfl rfl (of_decide_eq_true rfl) rfl hHeld (fun wq hSq K Q hK => ?_) ?_
    rotate_left
    · (go_step; exact hK)
    refine T_call own11 26 [.string s] rfl rfl rfl rfl rfl ?_
    refine (adler_any s _ hs).mono ?_; rintro e w2 ⟨rfl, hb⟩; have hHeld := keepR hHeld hb; clear hb
    refine ⟨_, rfl, hHeld, ?_⟩
    simp only [Act.put, List.setIfInBounds_toArray, List.set_cons_zero, List.set_cons_succ]
    refine T_call own12 28 [.int .u32 1, .string s] rfl rfl rfl rfl rfl ?_
    refine (refAdler_any 1 s _ hs (by decide)).mono ?_; rintro e w2 ⟨rfl, rfl⟩
    refine ⟨_, rfl, hHeld, ?_⟩
    simp only [Act.put, List.setIfInBounds_toArray, List.set_cons_zero, List.set_cons_succ]
    refine T_light (a' := ?_) 29 rfl rfl rfl (of_decide_eq_true rfl) rfl hHeld (fun wq hSq K Q hK => ?_) ?_
    rotate_left
    · (go_step; exact hK)
    refine T_light (a' := ?_) 30 rfl rfl rfl (of_decide_eq_true rfl) rfl hHeld (fun wq hSq K Q hK => ?_) ?_
    rotate_left
    · (go_step; exact hK)
    refine T_light (a' := ?_) 31 rfl rfl rfl (of_decide_eq_true rfl) rfl hHeld (fun wq hSq K Q hK => ?_) ?_
    rotate_left
    · (go_step; exact hK)
    refine T_light (a' := ?_) 32 rfl rfl rfl (of_decide_eq_true rfl) rfl hHeld (fun wq hSq K Q hK => ?_) ?_
    rotate_left
    · (go_step; exact hK)
    refine T_light (a' := ?_) 34 rfl rfl rfl (of_decide_eq_true rfl) rfl hHeld (fun wq hSq K Q hK => ?_) ?_
    rotate_left
    · (go_step; exact hK)
    refine T_light (a' := ?_) 35 rfl rfl rfl (of_decide_eq_true rfl) rfl hHeld (fun wq hSq K Q hK => ?_) ?_
    rotate_left
    · (go_step; exact hK)
    refine T_call own13 33 [.int .u32 a, .string s] rfl rfl rfl rfl rfl ?_
    refine (adlerMore_any a s _ hs ha).mono ?_; rintro e w2 ⟨rfl, hb⟩; have hHeld := keepR hHeld hb; clear hb
    refine ⟨_, rfl, hHeld, ?_⟩
    simp only [Act.put, List.setIfInBounds_toArray, List.set_cons_zero, List.set_cons_succ]
    refine T_call own12 36 [.int .u32 a, .string s] rfl rfl rfl rfl rfl ?_
    refine (refAdler_any a s _ hs ha).mono ?_; rintro e w2 ⟨rfl, rfl⟩
    refine ⟨_, rfl, hHeld, ?_⟩
    simp only [Act.put, List.setIfInBounds_toArray, List.set_cons_zero, List.set_cons_succ]
    refine T_light (a' := ?_) 37 rfl rfl rfl (of_decide_eq_true rfl) rfl hHeld (fun wq hSq K Q hK => ?_) ?_
    rotate_left
    · (go_step; exact hK)
    refine T_light (a' := ?_) 38 rfl rfl rfl (of_decide_eq_true rfl) rfl hHeld (fun wq hSq K Q hK => ?_) ?_
    rotate_left
    · (go_step; exact hK)
    refine T_light (a' := ?_) 39 rfl rfl rfl (of_decide_eq_true rfl) rfl hHeld (fun wq hSq K Q hK => ?_) ?_
    rotate_left
    · (go_step; exact hK)
    refine T_light (a' := ?_) 40 rfl rfl rfl (of_decide_eq_true rfl) rfl hHeld (fun wq hSq K Q hK => ?_) ?_
    rotate_left
    · (go_step; exact hK)
    refine T_light (a' := ?_) 41 rfl rfl rfl (of_decide_eq_true rfl) rfl hHeld (fun wq hSq K Q hK => ?_) ?_
    rotate_left
    · (go_step; exact hK)
    refine T_light (a' := ?_) 42 rfl rfl rfl (of_decide_eq_true rfl) rfl hHeld (fun wq hSq K Q hK => ?_) ?_
    rotate_left
    · (go_step; exact hK)
    refine T_light (a' := ?_) 44 rfl rfl rfl (of_decide_eq_true rfl) rfl hHeld (fun wq hSq K Q hK => ?_) ?_
    rotate_left
    · (go_step; exact hK)
    refine T_light (a' := ?_) 45 rfl rfl rfl (of_decide_eq_true rfl) rfl hHeld (fun wq hSq K Q hK => ?_) ?_
    rotate_left
    · (go_step; exact hK)
    refine T_light (a' := ?_) 46 rfl rfl rfl (of_decide_eq_true rfl) rfl hHeld (fun wq hSq K Q hK => ?_) ?_
    rotate_left
    · (go_step; exact hK)
    refine T_call own14 43 [.int .u32 a, .int .u32 b, .int .u64 n] rfl rfl rfl rfl rfl ?_
    refine (join_any a b n _ ha hbn hn).mono ?_; rintro e w2 ⟨rfl, rfl⟩
    refine ⟨_, rfl, hHeld, ?_⟩
    simp only [Act.put, List.setIfInBounds_toArray, List.set_cons_zero, List.set_cons_succ]
    refine T_call own15 47 [.int .u32 a, .int .u32 b, .int .u64 n] rfl rfl rfl rfl rfl ?_
    refine (refJoin_any a b n _ ha hbn hn).mono ?_; rintro e w2 ⟨rfl, rfl⟩
    refine ⟨_, rfl, hHeld, ?_⟩
    simp only [Act.put, List.setIfInBounds_toArray, List.set_cons_zero, List.set_cons_succ]
    refine T_light (a' := ?_) 48 rfl rfl rfl (of_decide_eq_true rfl) rfl hHeld (fun wq hSq K Q hK => ?_) ?_
    rotate_left
    · (go_step; exact hK)
    refine T_light (a' := ?_) 49 rfl rfl rfl (of_decide_eq_true rfl) rfl hHeld (fun wq hSq K Q hK => ?_) ?_
    rotate_left
    · (go_step; exact hK)
    refine T_light (a' := ?_) 50 rfl rfl rfl (of_decide_eq_true rfl) rfl hHeld (fun wq hSq K Q hK => ?_) ?_
    rotate_left
    · (go_step; exact hK)
    refine T_light (a' := ?_) 51 rfl rfl rfl (of_decide_eq_true rfl) rfl hHeld (fun wq hSq K Q hK => ?_) ?_
    rotate_left
    · (go_step; exact hK)
    refine T_light (a' := ?_) 53 rfl rfl rfl (of_decide_eq_true rfl) rfl hHeld (fun wq hSq K Q hK => ?_) ?_
    rotate_left
    · (go_step; exact hK)
    refine T_call own16 52 [.string s] rfl rfl rfl rfl rfl ?_
    refine (crc_any s _ hs).mono ?_; rintro e w2 ⟨rfl, hb⟩; have hHeld := keepR hHeld hb; clear hb
    refine ⟨_, rfl, hHeld, ?_⟩
    simp only [Act.put, List.setIfInBounds_toArray, List.set_cons_zero, List.set_cons_succ]
    refine T_call own17 54 [.string s] rfl rfl rfl rfl rfl ?_
    refine (refCRC_any s _ hs).mono ?_; rintro e w2 ⟨rfl, rfl⟩
    refine ⟨_, rfl, hHeld, ?_⟩
    simp only [Act.put, List.setIfInBounds_toArray, List.set_cons_zero, List.set_cons_succ]
    refine T_light (a' := ?_) 55 rfl rfl rfl (of_decide_eq_true rfl) rfl hHeld (fun wq hSq K Q hK => ?_) ?_
    rotate_left
    · (go_step; exact hK)
    refine T_light (a' := ?_) 56 rfl rfl rfl (of_decide_eq_true rfl) rfl hHeld (fun wq hSq K Q hK => ?_) ?_
    rotate_left
    · (go_step; exact hK)
    refine T_light (a' := ?_) 57 rfl rfl rfl (of_decide_eq_true rfl) rfl hHeld (fun wq hSq K Q hK => ?_) ?_
    rotate_left
    · (go_step; exact hK)
    refine T_light (a' := ?_) 58 rfl rfl rfl (of_decide_eq_true rfl) rfl hHeld (fun wq hSq K Q hK => ?_) ?_
    rotate_left
    · (refine wp_load_row 25 _ rfl B rfl 25 (tab (turned at_ cell)) (0, 0) _ hSq.1 Try.underlying25 rfl (size25 _) ?_; exact hK)
    refine T_light (a' := ?_) 59 rfl rfl rfl (of_decide_eq_true rfl) rfl hHeld (fun wq hSq K Q hK => ?_) ?_
    rotate_left
    · (go_step; exact hK)
    refine T_light (a' := ?_) 60 rfl rfl rfl (of_decide_eq_true rfl) rfl hHeld (fun wq hSq K Q hK => ?_) ?_
    rotate_left
    · (go_step; exact hK)
    refine T_light (a' := ?_) 62 rfl rfl rfl (of_decide_eq_true rfl) rfl hHeld (fun wq hSq K Q hK => ?_) ?_
    rotate_left
    · (refine wp_load_row 25 _ rfl B rfl 25 (tab (turned at_ cell)) (0, 0) _ hSq.1 Try.underlying25 rfl (size25 _) ?_; exact hK)
    refine T_light (a' := ?_) 63 rfl rfl rfl (of_decide_eq_true rfl) rfl hHeld (fun wq hSq K Q hK => ?_) ?_
    rotate_left
    · (go_step; exact hK)
    refine T_light (a' := ?_) 64 rfl rfl rfl (of_decide_eq_true rfl) rfl hHeld (fun wq hSq K Q hK => ?_) ?_
    rotate_left
    · (go_step; exact hK)
    refine T_call own18 61 [.agg (tab (turned at_ cell)), .int .u32 a, .string s] rfl rfl rfl rfl rfl ?_
    refine (crcMore_any (turned at_ cell) hlt a s _ hs ha).mono ?_; rintro e w2 ⟨rfl, hb⟩; have hHeld := keepR hHeld hb; clear hb
    refine ⟨_, rfl, hHeld, ?_⟩
    simp only [Act.put, List.setIfInBounds_toArray, List.set_cons_zero, List.set_cons_succ]
    refine T_call own19 65 [.agg (tab (turned at_ cell)), .int .u32 a, .string s] rfl rfl rfl rfl rfl ?_
    refine (refMore_any (turned at_ cell) hlt a s _ hs ha).mono ?_; rintro e w2 ⟨rfl, hb⟩; have hHeld := keepR hHeld hb; clear hb
    refine ⟨_, rfl, hHeld, ?_⟩
    simp only [Act.put, List.setIfInBounds_toArray, List.set_cons_zero, List.set_cons_succ]
    refine T_light (a' := ?_) 66 rfl rfl rfl (of_decide_eq_true rfl) rfl hHeld (fun wq hSq K Q hK => ?_) ?_
    rotate_left
    · (go_step; exact hK)
    refine T_light (a' := ?_) 67 rfl rfl rfl (of_decide_eq_true rfl) rfl hHeld (fun wq hSq K Q hK => ?_) ?_
    rotate_left
    · (go_step; exact hK)
    refine T_light (a' := ?_) 68 rfl rfl rfl (of_decide_eq_true rfl) rfl hHeld (fun wq hSq K Q hK => ?_) ?_
    rotate_left
    · (go_step; exact hK)
    refine T_call own8 69 [] rfl rfl rfl rfl rfl ?_
    refine (alive_any _).mono ?_; rintro e w2 ⟨rfl, hb⟩; have hHeld := keepR hHeld hb; clear hb
    refine ⟨_, rfl, hHeld, ?_⟩
    simp only [Act.put, List.setIfInBounds_toArray, List.set_cons_zero, List.set_cons_succ]
    refine T_light (a' := ?_) 70 rfl rfl rfl (of_decide_eq_true rfl) rfl hHeld (fun wq hSq K Q hK => ?_) ?_
    rotate_left
    · (go_step; exact hK)
    refine T_light (a' := ?_) 12 rfl rfl rfl (of_decide_eq_true rfl) rfl hHeld (fun wq hSq K Q hK => ?_) ?_
    rotate_left
    · (go_step; exact hK)
    refine T_done ?_
    go_wp2_with fail
    go_ret
    exact ⟨rfl, hHeld.2⟩
end Go.Proofs.Ytaibfigofmakjaa
