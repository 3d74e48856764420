/-
  What SumsGo comes to (a walk): true, whatever the three texts.
-/
import Derived.Test.YtaibfigofmakjaaOwn
set_option linter.unusedSimpArgs false
set_option linter.unusedVariables false
namespace Go.Proofs.Ytaibfigofmakjaa
open Go.RowKit

theorem joined_any (s t : ByteArray) (n : Nat) (hn : n = t.size) (hl : n < 18446744073709551616) (w : World) :
    Calls Try.prog 14 #[.int .u32 (adler 1 s : Nat), .int .u32 (adler 1 t : Nat), .int .u64 (n : Nat)] w fun e w' => e = .returned (.int .u32 (adler 1 (s ++ t) : Nat)) ∧ w = w' := by
  subst hn
  rw [← adler_join]
  exact join_any _ _ _ w (adler_lt _ _) (adler_lt _ _) hl
theorem cat_assoc (s t u : ByteArray) : s ++ t ++ u = s ++ (t ++ u) := by
  apply ByteArray.ext
  simp

set_option maxHeartbeats 3200000 in
theorem go_any (s : ByteArray) (hs : s.size ≤ 140737488351232) (t : ByteArray) (ht : t.size ≤ 140737488351232) (u : ByteArray) (hu : u.size ≤ 140737488351232) (w : World) :
    Calls Try.prog 4 #[.string s, .string t, .string u] w fun e w' => e = .returned (.bool true) ∧ Below w.heap.size w w' := by
  have hB := Below.refl w.heap.size w
  by_cases hbig : 16384 < s.size + t.size + u.size
  · have hlt : decide ((16384 : Int) < (s.size : Int) + (t.size : Int) + (u.size : Int)) = true := by rw [decide_eq_true_eq]; omega
    go_enter Try.func4, Try.ntmps4
    go_wp2_with (go_at_call 8; refine (alive_any _).mono ?_; rintro e w' ⟨rfl, hb⟩; replace hB := bt hB hb; clear hb)
    go_ret
    exact ⟨rfl, hB⟩
  · have hlt : decide ((16384 : Int) < (s.size : Int) + (t.size : Int) + (u.size : Int)) = false := by rw [decide_eq_false_iff_not]; omega
    have hz := zero25
    go_enter Try.func4, Try.ntmps4
    go_wp2_with (first
      | (go_at_call 11; refine (adler_any _ _ (by assumption)).mono ?_; rintro e w1 ⟨rfl, hb1⟩; replace hB := bt hB hb1; clear hb1)
      | (go_at_call 10; refine (table_any _).mono ?_; rintro e w1 ⟨rfl, hb1⟩; replace hB := bt hB hb1; clear hb1)
      | (go_at_call 14; refine (joined_any _ _ _ rfl (by omega) _).mono ?_; rintro e w1 ⟨rfl, rfl⟩)
      | (with_reducible refine wpList_store_row rfl 25 _ _ rfl _ (tab crcT) rfl rfl 25 zeros (heap_alloc_new _ _) (size25 _) (zeros_size _) (tab_one _) ?_; simp only [Act.put]))
    obtain ⟨wT, hwT⟩ : ∃ wT, wT = (w1.alloc (Obj.cells zeros 25)).setRow w1.heap.size (tab crcT) := ⟨_, rfl⟩
    obtain ⟨B, hBe⟩ : ∃ B, B = w1.heap.size := ⟨_, rfl⟩
    have hrow : wT.heap[B]? = some (.cells (tab crcT) 25 (0, 0)) := by
      rw [hwT, hBe]; exact setRow_heap _ _ zeros _ 25 (0, 0) (heap_alloc_new _ _)
    have hB2 : Below w.heap.size w wT := by rw [hwT]; exact below_row (hB.alloc hB.size _) hB.size _
    rw [← hwT, ← hBe]
    clear hwT hBe hB hz
    have hHeld : wT.drew.heap[B]? = some (.cells (tab crcT) 25 (0, 0)) ∧ Below w.heap.size w wT.drew := ⟨hrow, hB2.drew⟩
    clear hrow hB2
    have hst : (s ++ t).size ≤ 140737488351232 := by rw [ByteArray.size_append]; omega
    have hcc : ∀ w, (Op.stringOp .add s t).run Try.prog w = .ok (.string (s ++ t)) w := fun w => run_string_add_sum (P := Try.prog) w s t (by omega)
    have e1 : ((adler (adler 1 s) t : Nat) : Int) = (adler 1 (s ++ t) : Nat) := by rw [adler_append]
    have e3 : ((adler 1 (s ++ t ++ u) : Nat) : Int) = (adler 1 (s ++ (t ++ u)) : Nat) := by rw [cat_assoc]
    have e4 : ((crcMore crcT (crc s) t : Nat) : Int) = (crc (s ++ t) : Nat) := by unfold crc; rw [crcMore_append]
    have e5 : ((crcMore crcT 0 s : Nat) : Int) = (crc s : Nat) := rfl
    refine wp_region_T (fun w' => w'.heap[B]? = some (.cells (tab crcT) 25 (0, 0)) ∧ Below w.heap.size w w') [.take 0, .take 1, .take 3, .take 4, .take 5, .go 2, .go 6, .take 7, .take 8, .take 9, .take 10, .take 11, .take 12, .go 13, .take 14, .take 15, .take 16, .take 17, .take 18, .take 19, .take 20, .take 21, .take 23, .take 24, .take 25, .take 26, .take 27, .take 28, .take 29, .take 30, .go 22, .go 31, .take 32, .take 33, .take 34, .take 35, .take 36, .take 38, .take 40, .take 41, .take 42, .go 37, .go 39, .go 43, .take 44, .take 45, .take 46, .take 47, .take 48, .take 50, .go 49, .go 51, .take 52, .take 53, .take 54, .go 55, .take 56, .take 57] (by kernel_rfl) (by kernel_rfl) (fun _ _ _ _ _ h => h) hHeld ?_
    refine T_light (a' := ?_) 42 rfl rfl rfl (of_decide_eq_true rfl) rfl hHeld (fun wq hSq K Q hK => ?_) ?_
    rotate_left
    · (go_step; exact hK)
    refine T_light (a' := ?_) 43 rfl rfl rfl (of_decide_eq_true rfl) rfl hHeld (fun wq hSq K Q hK => ?_) ?_
    rotate_left
    · (go_step; exact hK)
    refine T_light (a' := ?_) 45 rfl rfl rfl (of_decide_eq_true rfl) rfl hHeld (fun wq hSq K Q hK => ?_) ?_
    rotate_left
    · (go_step; exact hK)
    refine T_light (a' := ?_) 46 rfl rfl rfl (of_decide_eq_true rfl) rfl hHeld (fun wq hSq K Q hK => ?_) ?_
    rotate_left
    · (go_step; exact hK)
    refine T_light (a' := ?_) 47 rfl rfl rfl (of_decide_eq_true rfl) rfl hHeld (fun wq hSq K Q hK => ?_) ?_
    rotate_left
    · (go_step; exact hK)
    refine T_call own13 44 [.int .u32 (adler 1 s : Nat), .string t] rfl rfl rfl rfl rfl ?_
    refine (adlerMore_any (adler 1 s) t _ ht (adler_lt _ _)).mono ?_; rintro e w2 ⟨rfl, hb⟩; have hHeld := keepR hHeld hb; clear hb
    refine ⟨_, rfl, hHeld, ?_⟩
    simp only [Act.put, List.setIfInBounds_toArray, List.set_cons_zero, List.set_cons_succ]
    refine T_call own11 48 [.string (s ++ t)] rfl rfl rfl rfl rfl ?_
    refine (adler_any (s ++ t) _ hst).mono ?_; rintro e w2 ⟨rfl, hb⟩; have hHeld := keepR hHeld hb; clear hb
    refine ⟨_, rfl, hHeld, ?_⟩
    simp only [Act.put, List.setIfInBounds_toArray, List.set_cons_zero, List.set_cons_succ]
    refine T_light (a' := ?_) 49 rfl rfl rfl (of_decide_eq_true rfl) rfl hHeld (fun wq hSq K Q hK => ?_) ?_
    rotate_left
    · (go_step; exact hK)
    refine T_light (a' := ?_) 50 rfl rfl rfl (of_decide_eq_true rfl) rfl hHeld (fun wq hSq K Q hK => ?_) ?_
    rotate_left
    · (go_step; exact hK)
    refine T_light (a' := ?_) 51 rfl rfl rfl (of_decide_eq_true rfl) rfl hHeld (fun wq hSq K Q hK => ?_) ?_
    rotate_left
    · (go_step; exact hK)
    refine T_light (a' := ?_) 52 rfl rfl rfl (of_decide_eq_true rfl) rfl hHeld (fun wq hSq K Q hK => ?_) ?_
    rotate_left
    · (go_step; exact hK)
    refine T_light (a' := ?_) 53 rfl rfl rfl (of_decide_eq_true rfl) rfl hHeld (fun wq hSq K Q hK => ?_) ?_
    rotate_left
    · (go_step; exact hK)
    refine T_light (a' := ?_) 54 rfl rfl rfl (of_decide_eq_true rfl) rfl hHeld (fun wq hSq K Q hK => ?_) ?_
    rotate_left
    · (go_step; exact hK)
    refine T_call own11 55 [.string (s ++ t)] rfl rfl rfl rfl rfl ?_
    refine (adler_any (s ++ t) _ hst).mono ?_; rintro e w2 ⟨rfl, hb⟩; have hHeld := keepR hHeld hb; clear hb
    refine ⟨_, rfl, hHeld, ?_⟩
    simp only [Act.put, List.setIfInBounds_toArray, List.set_cons_zero, List.set_cons_succ]
    refine T_light (a' := ?_) 56 rfl rfl rfl (of_decide_eq_true rfl) rfl hHeld (fun wq hSq K Q hK => ?_) ?_
    rotate_left
    · (go_step; exact hK)
    refine T_light (a' := ?_) 57 rfl rfl rfl (of_decide_eq_true rfl) rfl hHeld (fun wq hSq K Q hK => ?_) ?_
    rotate_left
    · (go_step; exact hK)
    refine T_light (a' := ?_) 58 rfl rfl rfl (of_decide_eq_true rfl) rfl hHeld (fun wq hSq K Q hK => ?_) ?_
    rotate_left
    · (go_step; exact hK)
    refine T_light (a' := ?_) 59 rfl rfl rfl (of_decide_eq_true rfl) rfl hHeld (fun wq hSq K Q hK => ?_) ?_
    rotate_left
    · (go_step; exact hK)
    refine T_light (a' := ?_) 60 rfl rfl rfl (of_decide_eq_true rfl) rfl hHeld (fun wq hSq K Q hK => ?_) ?_
    rotate_left
    · (go_step; exact hK)
    refine T_light (a' := ?_) 61 rfl rfl rfl (of_decide_eq_true rfl) rfl hHeld (fun wq hSq K Q hK => ?_) ?_
    rotate_left
    · (go_step; exact hK)
    refine T_light (a' := ?_) 62 rfl rfl rfl (of_decide_eq_true rfl) rfl hHeld (fun wq hSq K Q hK => ?_) ?_
    rotate_left
    · (go_step; exact hK)
    refine T_light (a' := ?_) 63 rfl rfl rfl (of_decide_eq_true rfl) rfl hHeld (fun wq hSq K Q hK => ?_) ?_
    rotate_left
    · (go_step; exact hK)
    refine T_light (a' := ?_) 65 rfl rfl rfl (of_decide_eq_true rfl) rfl hHeld (fun wq hSq K Q hK => ?_) ?_
    rotate_left
    · (go_step; exact hK)
    refine T_light (a' := ?_) 66 rfl rfl rfl (of_decide_eq_true rfl) rfl hHeld (fun wq hSq K Q hK => ?_) ?_
    rotate_left
    · (go_step; exact hK)
    refine T_light (a' := ?_) 67 rfl rfl rfl (of_decide_eq_true rfl) rfl hHeld (fun wq hSq K Q hK => ?_) ?_
    rotate_left
    · (go_step; exact hK)
    refine T_light (a' := ?_) 68 rfl rfl rfl (of_decide_eq_true rfl) rfl hHeld (fun wq hSq K Q hK => ?_) ?_
    rotate_left
    · (go_step; exact hK)
    refine T_light (a' := ?_) 69 rfl rfl rfl (of_decide_eq_true rfl) rfl hHeld (fun wq hSq K Q hK => ?_) ?_
    rotate_left
    · (go_step; exact hK)
    refine T_light (a' := ?_) 70 rfl rfl rfl (of_decide_eq_true rfl) rfl hHeld (fun wq hSq K Q hK => ?_) ?_
    rotate_left
    · (go_step; exact hK)
    refine T_light (a' := ?_) 71 rfl rfl rfl (of_decide_eq_true rfl) rfl hHeld (fun wq hSq K Q hK => ?_) ?_
    rotate_left
    · (go_step; exact hK)
    refine T_light (a' := ?_) 72 rfl rfl rfl (of_decide_eq_true rfl) rfl hHeld (fun wq hSq K Q hK => ?_) ?_
    rotate_left
    · (go_step; exact hK)
    refine T_call own14 64 [.int .u32 (adler 1 (s ++ t) : Nat), .int .u32 (adler 1 u : Nat), .int .u64 (u.size : Nat)] rfl rfl rfl rfl rfl ?_
    refine (joined_any (s ++ t) u u.size rfl (by omega) _).mono ?_; rintro e w2 ⟨rfl, rfl⟩
    refine ⟨_, rfl, hHeld, ?_⟩
    simp only [Act.put, List.setIfInBounds_toArray, List.set_cons_zero, List.set_cons_succ]
    refine T_call own14 73 [.int .u32 (adler 1 s : Nat), .int .u32 (adler 1 (t ++ u) : Nat), .int .u64 ((t.size + u.size : Nat) : Int)] rfl rfl rfl rfl rfl ?_
    refine (joined_any s (t ++ u) (t.size + u.size) (by rw [ByteArray.size_append]) (by omega) _).mono ?_; rintro e w2 ⟨rfl, rfl⟩
    refine ⟨_, rfl, hHeld, ?_⟩
    simp only [Act.put, List.setIfInBounds_toArray, List.set_cons_zero, List.set_cons_succ]
    refine T_light (a' := ?_) 74 rfl rfl rfl (of_decide_eq_true rfl) rfl hHeld (fun wq hSq K Q hK => ?_) ?_
    rotate_left
    · (go_step; exact hK)
    refine T_light (a' := ?_) 75 rfl rfl rfl (of_decide_eq_true rfl) rfl hHeld (fun wq hSq K Q hK => ?_) ?_
    rotate_left
    · (go_step; exact hK)
    refine T_light (a' := ?_) 76 rfl rfl rfl (of_decide_eq_true rfl) rfl hHeld (fun wq hSq K Q hK => ?_) ?_
    rotate_left
    · (go_step; exact hK)
    refine T_light (a' := ?_) 77 rfl rfl rfl (of_decide_eq_true rfl) rfl hHeld (fun wq hSq K Q hK => ?_) ?_
    rotate_left
    · (refine wp_load_row 25 _ rfl B rfl 25 (tab crcT) (0, 0) _ hSq.1 Try.underlying25 rfl (size25 _) ?_; exact hK)
    refine T_light (a' := ?_) 78 rfl rfl rfl (of_decide_eq_true rfl) rfl hHeld (fun wq hSq K Q hK => ?_) ?_
    rotate_left
    · (go_step; exact hK)
    refine T_light (a' := ?_) 80 rfl rfl rfl (of_decide_eq_true rfl) rfl hHeld (fun wq hSq K Q hK => ?_) ?_
    rotate_left
    · (go_step; exact hK)
    refine T_light (a' := ?_) 82 rfl rfl rfl (of_decide_eq_true rfl) rfl hHeld (fun wq hSq K Q hK => ?_) ?_
    rotate_left
    · (go_step; exact hK)
    refine T_light (a' := ?_) 83 rfl rfl rfl (of_decide_eq_true rfl) rfl hHeld (fun wq hSq K Q hK => ?_) ?_
    rotate_left
    · (go_step; exact hK)
    refine T_light (a' := ?_) 84 rfl rfl rfl (of_decide_eq_true rfl) rfl hHeld (fun wq hSq K Q hK => ?_) ?_
    rotate_left
    · (go_step; exact hK)
    refine T_call own16 79 [.string s] rfl rfl rfl rfl rfl ?_
    refine (crc_any s _ hs).mono ?_; rintro e w2 ⟨rfl, hb⟩; have hHeld := keepR hHeld hb; clear hb
    refine ⟨_, rfl, hHeld, ?_⟩
    simp only [Act.put, List.setIfInBounds_toArray, List.set_cons_zero, List.set_cons_succ]
    refine T_call own18 81 [.agg (tab crcT), .int .u32 (crc s : Nat), .string t] rfl rfl rfl rfl rfl ?_
    refine (crcMore_any crcT (fun _ => crcT_lt) (crc s) t _ ht (crc_lt s)).mono ?_; rintro e w2 ⟨rfl, hb⟩; have hHeld := keepR hHeld hb; clear hb
    refine ⟨_, rfl, hHeld, ?_⟩
    simp only [Act.put, List.setIfInBounds_toArray, List.set_cons_zero, List.set_cons_succ]
    refine T_call own16 85 [.string (s ++ t)] rfl rfl rfl rfl rfl ?_
    refine (crc_any (s ++ t) _ hst).mono ?_; rintro e w2 ⟨rfl, hb⟩; have hHeld := keepR hHeld hb; clear hb
    refine ⟨_, rfl, hHeld, ?_⟩
    simp only [Act.put, List.setIfInBounds_toArray, List.set_cons_zero, List.set_cons_succ]
    refine T_light (a' := ?_) 86 rfl rfl rfl (of_decide_eq_true rfl) rfl hHeld (fun wq hSq K Q hK => ?_) ?_
    rotate_left
    · (go_step; exact hK)
    refine T_light (a' := ?_) 87 rfl rfl rfl (of_decide_eq_true rfl) rfl hHeld (fun wq hSq K Q hK => ?_) ?_
    rotate_left
    · (go_step; exact hK)
    refine T_light (a' := ?_) 88 rfl rfl rfl (of_decide_eq_true rfl) rfl hHeld (fun wq hSq K Q hK => ?_) ?_
    rotate_left
    · (go_step; exact hK)
    refine T_light (a' := ?_) 89 rfl rfl rfl (of_decide_eq_true rfl) rfl hHeld (fun wq hSq K Q hK => ?_) ?_
    rotate_left
    · (refine wp_load_row 25 _ rfl B rfl 25 (tab crcT) (0, 0) _ hSq.1 Try.underlying25 rfl (size25 _) ?_; exact hK)
    refine T_light (a' := ?_) 90 rfl rfl rfl (of_decide_eq_true rfl) rfl hHeld (fun wq hSq K Q hK => ?_) ?_
    rotate_left
    · (go_step; exact hK)
    refine T_light (a' := ?_) 92 rfl rfl rfl (of_decide_eq_true rfl) rfl hHeld (fun wq hSq K Q hK => ?_) ?_
    rotate_left
    · (go_step; exact hK)
    refine T_call own18 91 [.agg (tab crcT), .int .u32 0, .string s] rfl rfl rfl rfl rfl ?_
    refine (crcMore_any crcT (fun _ => crcT_lt) 0 s _ hs (by decide)).mono ?_; rintro e w2 ⟨rfl, hb⟩; have hHeld := keepR hHeld hb; clear hb
    refine ⟨_, rfl, hHeld, ?_⟩
    simp only [Act.put, List.setIfInBounds_toArray, List.set_cons_zero, List.set_cons_succ]
    refine T_call own16 93 [.string s] rfl rfl rfl rfl rfl ?_
    refine (crc_any s _ hs).mono ?_; rintro e w2 ⟨rfl, hb⟩; have hHeld := keepR hHeld hb; clear hb
    refine ⟨_, rfl, hHeld, ?_⟩
    simp only [Act.put, List.setIfInBounds_toArray, List.set_cons_zero, List.set_cons_succ]
    refine T_light (a' := ?_) 94 rfl rfl rfl (of_decide_eq_true rfl) rfl hHeld (fun wq hSq K Q hK => ?_) ?_
    rotate_left
    · (go_step; exact hK)
    refine T_light (a' := ?_) 95 rfl rfl rfl (of_decide_eq_true rfl) rfl hHeld (fun wq hSq K Q hK => ?_) ?_
    rotate_left
    · (go_step; exact hK)
    refine T_light (a' := ?_) 96 rfl rfl rfl (of_decide_eq_true rfl) rfl hHeld (fun wq hSq K Q hK => ?_) ?_
    rotate_left
    · (go_step; exact hK)
    refine T_call own8 97 [] rfl rfl rfl rfl rfl ?_
    refine (alive_any _).mono ?_; rintro e w2 ⟨rfl, hb⟩; have hHeld := keepR hHeld hb; clear hb
    refine ⟨_, rfl, hHeld, ?_⟩
    simp only [Act.put, List.setIfInBounds_toArray, List.set_cons_zero, List.set_cons_succ]
    refine T_light (a' := ?_) 98 rfl rfl rfl (of_decide_eq_true rfl) rfl hHeld (fun wq hSq K Q hK => ?_) ?_
    rotate_left
    · (go_step; exact hK)
    refine T_light (a' := ?_) 6 rfl rfl rfl (of_decide_eq_true rfl) rfl hHeld (fun wq hSq K Q hK => ?_) ?_
    rotate_left
    · (go_step; exact hK)
    refine T_done ?_
    go_wp2_with fail
    go_ret
    exact ⟨rfl, hHeld.2⟩
end Go.Proofs.Ytaibfigofmakjaa
