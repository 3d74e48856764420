/-
  What SumsMore comes to (a walk): true, whatever the sum, the two texts, the place and the cell of a table.
-/
import Derived.Test.YtaibfigofmakjaaOwn
import Derived.Deep.RegionWith
set_option linter.unusedSimpArgs false
set_option linter.unusedVariables false
namespace Go.Proofs.Ytaibfigofmakjaa
open Go.RowKit

theorem fresh_row {w w1 : World} (hB : Below w.heap.size w w1) : ∃ wT B, wT = (w1.alloc (Obj.cells zeros 25)).setRow w1.heap.size (tab crcT) ∧ B = w1.heap.size ∧ wT.heap[B]? = some (.cells (tab crcT) 25 (0, 0)) ∧ Below w.heap.size w wT ∧ w.heap.size ≤ B :=
  ⟨_, _, rfl, rfl, setRow_heap _ _ zeros _ 25 (0, 0) (heap_alloc_new _ _), below_row (hB.alloc hB.size _) hB.size _, hB.size⟩
theorem cell_at {wT : World} {B i : Nat} {T : Nat → Nat} (hrow : wT.heap[B]? = some (.cells (tab T) 25 (0, 0))) (hi : i < 256) : wT.cell? ⟨B, i, none⟩ = some (.int .u32 (T i : Nat)) := by
  rw [cell_of_row wT B i _ _ _ hrow, tab_get _ _ hi]

theorem L_load_row {P : Program} {ops : Array Oper} {Q : Exit → Act → World → Prop} {rest : List Oper} {o : Oper} {a : Act} {w : World} (ty : TypeId) (x : Operand) (ho : o.op = .load ty x) (hw : Region.wanted o (yielded ops a.tmps) = true)
    (g : Nat) (hx : a.eval x = .pointer (some ⟨g, 0, none⟩)) (t : TypeId) (cs : Array Value) (fr : Nat × Nat) (d : TypeDesc) (hg : w.heap[g]? = some (.cells cs t fr))
    (hu : P.underlying ty = some d) (hd : (match d with | .struct _ | .array _ _ => true | _ => false) = true) (hi : (P.info? ty).map (·.size) = some cs.size)
    (h : wpList P ops Q rest (a.put o.dst (.agg cs)) w) : wpList P ops Q (o :: rest) a w :=
  BigFrame.wpList_want hw fun _ hK => wp_load_row ty x ho g hx t cs fr d hg hu hd hi (hK _ _ h)

theorem crcMore_nil (T : Nat → Nat) (a : Nat) : crcMore T a ⟨#[]⟩ = a := by
  show (a ^^^ mask32) ^^^ mask32 = a
  exact xor_self_cancel _ _
theorem adler_nil (a : Nat) : adler a ⟨#[]⟩ = a / 65536 % 65521 * 65536 + a % 65536 % 65521 := rfl

set_option maxHeartbeats 3200000 in
theorem more_any (a : Nat) (ha : a < 4294967296) (s : ByteArray) (hs : s.size ≤ 140737488351232) (t : ByteArray) (ht : t.size ≤ 140737488351232) (at_ : Nat) (hat : at_ < 256) (cell : Nat) (hc : cell < 4294967296) (w : World) :
    Calls Try.prog 7 #[.int .u32 a, .string s, .string t, .int .u8 at_, .int .u32 cell] w fun e w' => e = .returned (.bool true) ∧ Below w.heap.size w w' := by
  have hB := Below.refl w.heap.size w
  by_cases hbig : 16384 < s.size + t.size
  · have hlt : decide ((16384 : Int) < (s.size : Int) + (t.size : Int)) = true := by rw [decide_eq_true_eq]; omega
    go_enter Try.func7, Try.ntmps7
    go_wp2_with (go_at_call 8; refine (alive_any _).mono ?_; rintro e w' ⟨rfl, hb⟩; replace hB := bt hB hb; clear hb)
    go_ret
    exact ⟨rfl, hB⟩
  · have hlt : decide ((16384 : Int) < (s.size : Int) + (t.size : Int)) = false := by rw [decide_eq_false_iff_not]; omega
    have hz := zero25
    go_enter Try.func7, Try.ntmps7
    go_wp2_with (first
      | (go_at_call 10; refine (table_any _).mono ?_; rintro e w1 ⟨rfl, hb1⟩; replace hB := bt hB hb1; clear hb1)
      | (with_reducible refine wpList_store_row rfl 25 _ _ rfl _ (tab crcT) rfl rfl 25 zeros (heap_alloc_new _ _) (size25 _) (zeros_size _) (tab_one _) ?_; obtain ⟨wT, B, hwT, hBe, hrow, hB2, hle⟩ := fresh_row hB; rw [← hwT, ← hBe]; clear hwT hBe hB hz; have hcell := cell_at hrow hat; have hfree := frozen_of_row wT B at_ _ _ hrow; have Hrow := Lib.hid hrow; clear hrow; simp only [Act.put]))
    obtain ⟨wU, hwU⟩ : ∃ wU, wU = wT.setCell ⟨B, at_, none⟩ (.int .u32 (cell : Nat)) := ⟨_, rfl⟩
    have hrow : wU.heap[B]? = some (.cells (tab (turned at_ cell)) 25 (0, 0)) := by
      rw [hwU, heap_setCell_same wT B at_ _ _ _ Hrow.out, tab_set]; rfl
    have hB3 : Below w.heap.size w wU := by rw [hwU]; exact hB2.setCell hle _
    rw [← hwU]
    clear hwU hB2 hcell hfree Hrow
    have hHeld : wU.heap[B]? = some (.cells (tab (turned at_ cell)) 25 (0, 0)) ∧ Below w.heap.size w wU := ⟨hrow, hB3⟩
    clear hrow hB3
    have hl2 := turned_lt hc (k := at_)
    have hlt := hl2
    clear hl2
    refine (adlerMore_any a s _ hs ha).mono ?_
    rintro e w2 ⟨rfl, hb⟩; replace hHeld := keepR hHeld hb; clear hb
    go_wp2_with fail
    refine (adlerMore_any _ t _ ht (adler_lt _ _)).mono ?_
    rintro e w3 ⟨rfl, hb⟩; replace hHeld := keepR hHeld hb; clear hb
    go_wp2_with fail
    replace hHeld : w3.drew.heap[B]? = some (.cells (tab (turned at_ cell)) 25 (0, 0)) ∧ Below w.heap.size w w3.drew := ⟨hHeld.1, hHeld.2.drew⟩
    refine wp_region_T (fun w' => w'.heap[B]? = some (.cells (tab (turned at_ cell)) 25 (0, 0)) ∧ Below w.heap.size w w') [.take 0, .take 1, .take 2, .take 3, .take 5, .go 4, .go 6, .take 7] (by kernel_rfl) (by kernel_rfl) (fun _ _ _ _ _ h => h) hHeld ?_
    refine T_light (a' := ?_) 32 rfl rfl rfl (of_decide_eq_true rfl) rfl hHeld (fun wq hSq K Q hK => ?_) ?_
    rotate_left
    · (refine wp_load_row 25 _ rfl B rfl 25 (tab (turned at_ cell)) (0, 0) _ hSq.1 Try.underlying25 rfl (size25 _) ?_; exact hK)
    refine T_light (a' := ?_) 33 rfl rfl rfl (of_decide_eq_true rfl) rfl hHeld (fun wq hSq K Q hK => ?_) ?_
    rotate_left
    · (refine wp_load_row 25 _ rfl B rfl 25 (tab (turned at_ cell)) (0, 0) _ hSq.1 Try.underlying25 rfl (size25 _) ?_; exact hK)
    refine T_light (a' := ?_) 34 rfl rfl rfl (of_decide_eq_true rfl) rfl hHeld (fun wq hSq K Q hK => ?_) ?_
    rotate_left
    · (go_step; exact hK)
    refine T_light (a' := ?_) 35 rfl rfl rfl (of_decide_eq_true rfl) rfl hHeld (fun wq hSq K Q hK => ?_) ?_
    rotate_left
    · (go_step; exact hK)
    refine T_light (a' := ?_) 37 rfl rfl rfl (of_decide_eq_true rfl) rfl hHeld (fun wq hSq K Q hK => ?_) ?_
    rotate_left
    · (go_step; exact hK)
    refine T_call own18 36 [.agg (tab (turned at_ cell)), .int .u32 a, .string s] rfl rfl rfl rfl rfl ?_
    refine (crcMore_any (turned at_ cell) hlt a s _ hs ha).mono ?_; rintro e w2 ⟨rfl, hb⟩; have hHeld := keepR hHeld hb; clear hb
    refine ⟨_, rfl, hHeld, ?_⟩
    simp only [Act.put, List.setIfInBounds_toArray, List.set_cons_zero, List.set_cons_succ]
    refine T_call own18 38 [.agg (tab (turned at_ cell)), .int .u32 (crcMore (turned at_ cell) a s : Nat), .string t] rfl rfl rfl rfl rfl ?_
    refine (crcMore_any (turned at_ cell) hlt _ t _ ht (crcMore_lt hlt s ha)).mono ?_; rintro e w2 ⟨rfl, hb⟩; have hHeld := keepR hHeld hb; clear hb
    refine ⟨_, rfl, hHeld, ?_⟩
    simp only [Act.put, List.setIfInBounds_toArray, List.set_cons_zero, List.set_cons_succ]
    refine T_light (a' := ?_) 13 rfl rfl rfl (of_decide_eq_true rfl) rfl hHeld (fun wq hSq K Q hK => ?_) ?_
    rotate_left
    · (go_step; exact hK)
    refine T_done ?_
    have hst : (s ++ t).size ≤ 140737488351232 := by rw [ByteArray.size_append]; omega
    have hcc : ∀ w, (Op.stringOp .add s t).run Try.prog w = .ok (.string (s ++ t)) w := fun w => run_string_add_sum (P := Try.prog) w s t (by omega)
    have h16 := and16_u32 a ha
    have hor : bits .or .u32 ((a : Int) / 65536 % 65521 * 65536) ((a : Int) % 65536 % 65521) = (a : Int) / 65536 % 65521 * 65536 + (a : Int) % 65536 % 65521 := by
      have h := or16_u32 (a / 65536 % 65521) (a % 65536 % 65521) (by omega) (by omega)
      simpa using h
    have e1 : ((adler (adler a s) t : Nat) : Int) = (adler a (s ++ t) : Nat) := by rw [adler_append]
    have e4 : ((crcMore (turned at_ cell) (crcMore (turned at_ cell) a s) t : Nat) : Int) = (crcMore (turned at_ cell) a (s ++ t) : Nat) := by rw [crcMore_append]
    have e5 : ((crcMore (turned at_ cell) a ⟨#[]⟩ : Nat) : Int) = (a : Nat) := by rw [crcMore_nil]
    have e6 : ((adler a ⟨#[]⟩ : Nat) : Int) = (a : Int) / 65536 % 65521 * 65536 + (a : Int) % 65536 % 65521 := by rw [adler_nil]; simp
    go_wp2_with fail
    refine (adlerMore_any a (s ++ t) _ hst ha).mono ?_
    rintro e w4 ⟨rfl, hb⟩; replace hHeld := keepR hHeld hb; clear hb
    go_wp2_with ((refine L_load_row 25 (.tmp 11) (by rfl) (by rfl) B (by rfl) 25 (tab (turned at_ cell)) (0, 0) _ hHeld.1 Try.underlying25 rfl (size25 _) ?_; simp only [Act.put, List.setIfInBounds_toArray, List.set_cons_zero, List.set_cons_succ]))
    refine (crcMore_any _ hlt a (s ++ t) _ hst ha).mono ?_
    rintro e w5 ⟨rfl, hb⟩; replace hHeld := keepR hHeld hb; clear hb
    go_wp2_with ((refine L_load_row 25 (.tmp 11) (by rfl) (by rfl) B (by rfl) 25 (tab (turned at_ cell)) (0, 0) _ hHeld.1 Try.underlying25 rfl (size25 _) ?_; simp only [Act.put, List.setIfInBounds_toArray, List.set_cons_zero, List.set_cons_succ]))
    refine (crcMore_any _ hlt a ⟨#[]⟩ _ (by decide) ha).mono ?_
    rintro e w6 ⟨rfl, hb⟩; replace hHeld := keepR hHeld hb; clear hb
    go_wp2_with ((refine L_load_row 25 (.tmp 11) (by rfl) (by rfl) B (by rfl) 25 (tab (turned at_ cell)) (0, 0) _ hHeld.1 Try.underlying25 rfl (size25 _) ?_; simp only [Act.put, List.setIfInBounds_toArray, List.set_cons_zero, List.set_cons_succ]))
    refine (adlerMore_any a ⟨#[]⟩ _ (by decide) ha).mono ?_
    rintro e w7 ⟨rfl, hb⟩; replace hHeld := keepR hHeld hb; clear hb
    go_wp2_with ((refine L_load_row 25 (.tmp 11) (by rfl) (by rfl) B (by rfl) 25 (tab (turned at_ cell)) (0, 0) _ hHeld.1 Try.underlying25 rfl (size25 _) ?_; simp only [Act.put, List.setIfInBounds_toArray, List.set_cons_zero, List.set_cons_succ]))
    refine (alive_any _).mono ?_
    rintro e w8 ⟨rfl, hb⟩; replace hHeld := keepR hHeld hb; clear hb
    go_wp2_with ((refine L_load_row 25 (.tmp 11) (by rfl) (by rfl) B (by rfl) 25 (tab (turned at_ cell)) (0, 0) _ hHeld.1 Try.underlying25 rfl (size25 _) ?_; simp only [Act.put, List.setIfInBounds_toArray, List.set_cons_zero, List.set_cons_succ]))
    go_ret
    exact ⟨rfl, hHeld.2⟩
end Go.Proofs.Ytaibfigofmakjaa
