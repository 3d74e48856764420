/-
  Canon: what 'tally', 'Kind' and 'Codes' come to (contracts, by hand).
-/
import Derived.Test.YtogpjdiammecjaaProg
import Derived.Test.YtogpjdiammecjaaK
import Derived.Test.YtogpjdiammecjaaT
import Derived.Test.YtogpjdiammecjaaWWords
import Derived.Deep.LoopGhost
import Derived.Deep.WholeRow
import Derived.Laws.CopyOwn
import Derived.Laws.CopyOwn
import Derived.Laws.CopyOwn
import Derived.Laws.Rows
import Derived.WalkLawsBesides
import Derived.Outline
import Derived.KernelRfl
set_option linter.unusedSimpArgs false
set_option linter.unusedVariables false
namespace Go.Proofs.Ytogpjdiammecjaa
open Go.RowKit Go.Proofs.YtogpjdiammecjaaW.PrintWords

/-- may these be code lengths? -/
def good (l : List Int) : Bool := decide (l.length ≤ 320) && l.all (fun x => decide (x ≤ 15))
/-- how many there are of each length -/
def cnts (l : List Int) : List Nat := (List.range 16).map fun (n : Nat) => l.count (n : Int)

/-- a block of whole numbers -/
abbrev blk (w : World) (B : Nat) (L : List Nat) (t : Nat) : Prop := w.heap[B]? = some (.cells (numsV .i64 L).toArray t (0, 0))

def TallyPost (l : List Int) (w : World) (e : Ending) (w' : World) : Prop :=
  ∃ T : List Nat, T.length = 16 ∧ (∀ n ∈ T, n ≤ 320) ∧ (good l = true → T = cnts l) ∧ e = .returned (.tuple #[.agg (numsV .i64 T).toArray, .bool (good l)]) ∧ Below w.heap.size w w'







theorem cnts_length (l : List Int) : (cnts l).length = 16 := by simp [cnts]
theorem cnts_get (l : List Int) (n : Nat) (h : n < 16) : (cnts l)[n]? = some (l.count (n : Int)) := by simp [cnts, h]
theorem cnts_le (l : List Int) : ∀ n ∈ cnts l, n ≤ l.length := by
  intro n hn
  simp only [cnts, List.mem_map] at hn
  obtain ⟨m, _, rfl⟩ := hn
  exact List.count_le_length
theorem cnts_snoc (l : List Int) (n : Nat) (h : n < 16) : cnts (l ++ [(n : Int)]) = (cnts l).set n (l.count (n : Int) + 1) := by
  apply List.ext_getElem?
  intro j
  by_cases hj : j < 16
  · rw [cnts_get _ _ hj, List.getElem?_set, cnts_length]
    by_cases e : n = j
    · subst e
      simp [h, List.count_append]
    · rw [if_neg e, cnts_get _ _ hj, List.count_append]
      simp [List.count_cons, show ¬ ((n : Int) = (j : Int)) by omega]
  · rw [List.getElem?_eq_none (by rw [cnts_length]; omega), List.getElem?_eq_none (by rw [List.length_set, cnts_length]; omega)]
theorem cnts_nil : cnts [] = List.replicate 16 0 := by decide
theorem take_snoc_int (l : List Int) (k : Nat) (h : k < l.length) : l.take (k + 1) = l.take k ++ [rd l (k : Int)] := by
  rw [List.take_succ_eq_append_getElem h]
  simp [rd, h]
theorem good_iff (l : List Int) : good l = true ↔ l.length ≤ 320 ∧ ∀ x ∈ l, x ≤ 15 := by simp [good]

theorem tally_res (tmps : Array Value) (w : World) (B : Nat) (T : List Nat) (b : Bool) (h2 : tmps.getD 2 undef = .pointer (some ⟨B, 0, none⟩)) (h3 : tmps.getD 3 undef = .bool b) (hT : T.length = 16) (hg : blk w B T 48) :
    (results Try.f20 tmps).run Try.prog w = .ok (.tuple #[.agg (numsV .i64 T).toArray, .bool b]) w := by
  have hi : (Try.prog.info? 48).map (·.size) = some (numsV .i64 T).toArray.size := by
    have h1 : (Try.prog.info? 48).map (·.size) = some 16 := by kernel_rfl
    rw [h1]; simp [numsV_length, hT]
  have hl := run_loadVar_row (P := Try.prog) w B 48 48 (numsV .i64 T).toArray (0, 0) _ hg Try.underlying48 rfl hi
  have h2' : tmps[2]?.getD undef = .pointer (some ⟨B, 0, none⟩) := by simpa using h2
  have h3' : tmps[3]?.getD undef = .bool b := by simpa using h3
  simp [results, Try.results20, h2', h3', asAddr, hl]

theorem tally_long (l : List Int) (A : Option Addr) (c : Nat) (w : World) (hl : 320 < l.length) :
    Calls Try.prog 20 #[.slice A l.length c] w (TallyPost l w) := by
  have hg : good l = false := by unfold good; simp; omega
  have d1 : decide ((320 : Int) < (l.length : Int)) = true := by rw [decide_eq_true_eq]; omega
  have d2 : decide (320 < l.length) = true := by rw [decide_eq_true_eq]; omega
  have hP := Lib.hid hg
  clear hl hg
  go_enter Try.func20, Try.ntmps20
  go_wp2_with fail
  refine bodyPost_ret (tally_res _ _ w.heap.size (List.replicate 16 0) false rfl rfl rfl (heap_alloc_last w _)) rfl ?_
  exact ⟨List.replicate 16 0, rfl, fun n hn => by rw [List.eq_of_mem_replicate hn]; omega, fun h => absurd h (by rw [hP.out]; simp), by rw [hP.out], (Below.refl _ _).alloc (Nat.le_refl _) _⟩

theorem all_one (L : List Nat) : (numsV .i64 L).toArray.all (·.oneCell') = true := by
  rw [Array.all_eq_true_iff_forall_mem]
  intro x hx
  simp [numsV] at hx
  obtain ⟨y, _, rfl⟩ := hx
  rfl
theorem info48 (T : List Nat) (hT : T.length = 16) : (Try.prog.info? 48).map (·.size) = some (numsV .i64 T).toArray.size := by
  have h1 : (Try.prog.info? 48).map (·.size) = some 16 := by kernel_rfl
  rw [h1]; simp [numsV_length, hT]

set_option maxHeartbeats 1000000 in
theorem tally_ok (l : List Int) (A : Option Addr) (c : Nat) (w : World) (hr : ReadsInt w .u8 A l.length l) (hl : l.length ≤ 320) (hb : ∀ x ∈ l, 0 ≤ x ∧ x < 256) :
    Calls Try.prog 20 #[.slice A l.length c] w (TallyPost l w) := by
  have d1 : decide ((320 : Int) < (l.length : Int)) = false := by rw [decide_eq_false_iff_not]; omega
  have d2 : decide (320 < l.length) = false := by rw [decide_eq_false_iff_not]; omega
  have HL := Lib.hid hl
  have HR := Lib.hid hr
  have HB := Lib.hid hb
  clear hl hr hb
  go_enter Try.func20, Try.ntmps20
  go_wp2_with fail
  go_loopg [12] l.length (fun g s12 wx => ∃ k : Nat, k + g = l.length ∧ s12 = .int .i64 k ∧ Hid (blk wx w.heap.size (cnts (l.take k)) 48) ∧ Hid (∀ x ∈ l.take k, x ≤ 15) ∧ Hid (Below w.heap.size w wx))
  case atStart => exact ⟨0, by omega, rfl, Lib.hid (by show blk _ _ _ _; rw [List.take_zero, cnts_nil]; exact heap_alloc_last w _), Lib.hid (by simp), Lib.hid ((Below.refl _ _).alloc (Nat.le_refl _) _)⟩
  case round =>
    obtain ⟨k, hkg, rfl, hT, hx, hbx⟩ := hrel
    cases gk with
    | zero =>
      have hk : k = l.length := by omega
      have dk : decide (k < l.length) = false := by rw [decide_eq_false_iff_not]; omega
      have dk2 : decide ((k : Int) < (l.length : Int)) = false := by rw [decide_eq_false_iff_not]; omega
      have hts : l.take k = l := List.take_of_length_le (by omega)
      have hgood : Hid (good l = true) := Lib.hid ((good_iff l).2 ⟨HL.out, by have := hx.out; rw [hts] at this; exact this⟩)
      have hT2 : Hid (blk wr w.heap.size (cnts l) 48) := by have := hT.out; rw [hts] at this; exact Lib.hid this
      clear hkg hts hk hT
      go_wp2_with (first
        | (refine wpList_load_row rfl 48 (.tmp 2) rfl w.heap.size rfl 48 (numsV .i64 (cnts l)).toArray (0, 0) _ hT2.out Try.underlying48 rfl (info48 _ (cnts_length l)) ?_)
        | (refine wpList_store_row rfl 48 (.tmp 2) (.tmp 25) rfl w.heap.size (numsV .i64 (cnts l)).toArray rfl rfl 48 (numsV .i64 (cnts l)).toArray hT2.out (info48 _ (cnts_length l)) rfl (all_one _) ?_))
      refine bodyPost_ret (tally_res _ _ w.heap.size (cnts l) true rfl rfl (cnts_length l) (setRow_heap _ _ _ _ _ _ hT2.out)) rfl ?_
      exact ⟨cnts l, cnts_length l, fun n hn => Nat.le_trans (cnts_le l n hn) HL.out, fun _ => rfl, by rw [hgood.out], below_setRow hbx.out (Nat.le_refl _) _⟩
    | succ g =>
      have hk : k < l.length := by omega
      have dk : decide (k < l.length) = true := by rw [decide_eq_true_eq]; omega
      have dk2 : decide ((k : Int) < (l.length : Int)) = true := by rw [decide_eq_true_eq]; omega
      obtain ⟨ad, e, hc0⟩ := ReadsInt.at_ HR.out (k : Int) (by omega) (by omega)
      cases e
      rw [Int.toNat_natCast] at hc0
      have hc := (hbx.out.cell (World.block_lt_of_cell? w _ hc0)).trans hc0
      have hmem : rd l (k : Int) ∈ l := by simp [rd, hk]
      obtain ⟨h0, h1⟩ := HB.out _ hmem
      have hts := take_snoc_int l k hk
      obtain ⟨n, hn⟩ : ∃ n : Nat, rd l (k : Int) = (n : Int) := ⟨(rd l (k : Int)).toNat, by omega⟩
      rw [hn] at hc hts h0 h1
      have HT := Lib.hid hts
      have HK := Lib.hid hkg
      by_cases hle : n ≤ 15
      · have d3 : decide (15 < n) = false := by rw [decide_eq_false_iff_not]; omega
        have d4 : decide ((15 : Int) < (n : Int)) = false := by rw [decide_eq_false_iff_not]; omega
        have hsn := cnts_snoc (l.take k) n (by omega)
        have hcnt := cnts_get (l.take k) n (by omega)
        have hcl : (l.take k).count (n : Int) ≤ 320 := Nat.le_trans List.count_le_length (by have := HL.out; have := List.length_take_le k l; omega)
        generalize hm : (l.take k).count (n : Int) = m at hsn hcnt hcl
        have hcell : wr.cell? ⟨w.heap.size, n, none⟩ = some (.int .i64 (m : Nat)) := by
          rw [cell_of_row _ _ _ _ _ _ hT.out]
          simp [numsV, hcnt]
        have hfr : wr.frozen? ⟨w.heap.size, n, none⟩ = false := frozen_of_row _ _ _ _ _ hT.out
        have e1 : wrap64 ((m : Int) + 1) = (m : Int) + 1 := by unfold wrap64; omega
        have n1 : (0 : Int) ≤ (n : Int) := by omega
        have n2 : (n : Int) < 16 := by omega
        have hnew : Hid (blk (wr.setCell ⟨w.heap.size, n, none⟩ (.int .i64 ((m : Int) + 1))) w.heap.size (cnts (l.take (k + 1))) 48) := Lib.hid (by
          have := heap_setCell_same wr w.heap.size n _ 48 (.int .i64 ((m : Int) + 1)) hT.out
          unfold blk
          rw [this, HT.out, hsn, ← numsV_set]
          simp)
        have hx2 : Hid (∀ x ∈ l.take (k + 1), x ≤ 15) := Lib.hid (by
          rw [HT.out]
          intro x hx'
          rcases List.mem_append.1 hx' with h | h
          · exact hx.out x h
          · rw [List.mem_singleton.1 h]; omega)
        have hb2 : Hid (Below w.heap.size w (wr.setCell ⟨w.heap.size, n, none⟩ (.int .i64 ((m : Int) + 1)))) := Lib.hid (hbx.out.setCell (Nat.le_refl _) _)
        have e2 : wrap64 ((k : Int) + 1) = (k : Int) + 1 := by have := HL.out; unfold wrap64; omega
        clear hsn hcnt hm hts hkg hT hx hbx hmem h0 h1 hle hc0
        go_wp2_with fail
        go_roundg g
        case measure => omega
        case rel => exact ⟨k + 1, by have := HK.out; omega, by go_num, hnew, hx2, hb2⟩
      · have d3 : decide (15 < n) = true := by rw [decide_eq_true_eq]; omega
        have d4 : decide ((15 : Int) < (n : Int)) = true := by rw [decide_eq_true_eq]; omega
        have hbad : Hid (good l = false) := Lib.hid (by
          cases hg : good l with
          | false => rfl
          | true => exact absurd (((good_iff l).1 hg).2 _ hmem) (by rw [hn]; omega))
        clear hts hkg hx hmem h0 h1 hle hc0
        go_wp2_with (first
          | (refine wpList_load_row rfl 48 (.tmp 2) rfl w.heap.size rfl 48 (numsV .i64 (cnts (l.take k))).toArray (0, 0) _ hT.out Try.underlying48 rfl (info48 _ (cnts_length _)) ?_)
          | (refine wpList_store_row rfl 48 (.tmp 2) (.tmp 18) rfl w.heap.size (numsV .i64 (cnts (l.take k))).toArray rfl rfl 48 (numsV .i64 (cnts (l.take k))).toArray hT.out (info48 _ (cnts_length _)) rfl (all_one _) ?_))
        refine bodyPost_ret (tally_res _ _ w.heap.size (cnts (l.take k)) false rfl rfl (cnts_length _) (setRow_heap _ _ _ _ _ _ hT.out)) rfl ?_
        exact ⟨cnts (l.take k), cnts_length _, fun n hn => Nat.le_trans (cnts_le _ n hn) (Nat.le_trans (List.length_take_le _ _) (by have := HK.out; have := HL.out; omega)), fun h => absurd h (by rw [hbad.out]; simp), by rw [hbad.out], below_setRow hbx.out (Nat.le_refl _) _⟩

theorem tally_any (l : List Int) (A : Option Addr) (c : Nat) (w : World) (hr : ReadsInt w .u8 A l.length l) (hb : ∀ x ∈ l, 0 ≤ x ∧ x < 256) :
    Calls Try.prog 20 #[.slice A l.length c] w (TallyPost l w) := by
  by_cases h : 320 < l.length
  · exact tally_long l A c w h
  · exact tally_ok l A c w hr (by omega) hb

/-- the weights, and how many codes, of the lengths below k -/
def wtK (l : List Int) : Nat → Nat
  | 0 => 0
  | k + 1 => wtK l k + if k = 0 then 0 else l.count (k : Int) * 2 ^ (15 - k)
def allK (l : List Int) : Nat → Nat
  | 0 => 0
  | k + 1 => allK l k + if k = 0 then 0 else l.count (k : Int)
def kindI (l : List Int) : Int :=
  if good l = true then
    if allK l 16 = 0 then 0 else if 32768 < wtK l 16 then 4 else if wtK l 16 = 32768 then 2 else if allK l 16 = 1 ∧ l.count 1 = 1 then 1 else 3
  else 5

theorem kind_bad (l : List Int) (A : Option Addr) (c : Nat) (w : World) (hr : ReadsInt w .u8 A l.length l) (hb : ∀ x ∈ l, 0 ≤ x ∧ x < 256) (hg : good l = false) :
    Calls Try.prog 10 #[.slice A l.length c] w fun e w' => e = .returned (.int .u8 5) ∧ Below w.heap.size w w' := by
  have ht := tally_any l A c w hr hb
  have HG := Lib.hid hg
  clear hr hb hg
  go_enter Try.func10, Try.ntmps10
  go_wp2_with fail
  refine ht.mono ?_
  rintro e w1 ⟨T, hT, hT2, _, rfl, hb1⟩
  rw [HG.out]
  clear ht hT2
  have hsz : (numsV .i64 T).toArray.size = 16 := by simp [numsV_length, hT]
  have hz : (Array.replicate 16 (Value.int .i64 0)).size = (numsV .i64 T).toArray.size := by rw [hsz]; rfl
  have h1 := all_one T
  have hi := info48 T hT
  generalize (numsV .i64 T).toArray = V at *
  go_wp2_with (first
    | (refine wpList_store_row rfl 48 (.tmp 3) (.tmp 12) rfl w1.heap.size V rfl rfl 48 _ (heap_alloc_last w1 _) hi (by rw [hsz]; rfl) h1 ?_))
  go_ret
  exact ⟨rfl, below_setRow ((hb1.alloc hb1.size _)) (hb1.size) _⟩

theorem wtK_succ (l : List Int) (k : Nat) (hk : 0 < k) : wtK l (k + 1) = wtK l k + l.count (k : Int) * 2 ^ (15 - k) := by simp only [wtK]; rw [if_neg (by omega)]
theorem allK_succ (l : List Int) (k : Nat) (hk : 0 < k) : allK l (k + 1) = allK l k + l.count (k : Int) := by simp only [allK]; rw [if_neg (by omega)]
theorem kK_le (l : List Int) (hl : l.length ≤ 320) (k : Nat) : wtK l k ≤ k * 10485760 ∧ allK l k ≤ k * 320 := by
  induction k with
  | zero => exact ⟨Nat.zero_le _, Nat.zero_le _⟩
  | succ k ih =>
    have hc : l.count (k : Int) ≤ 320 := Nat.le_trans List.count_le_length hl
    have hp : (2 : Nat) ^ (15 - k) ≤ 2 ^ 15 := Nat.pow_le_pow_right (by omega) (by omega)
    have hm : l.count (k : Int) * 2 ^ (15 - k) ≤ 10485760 := Nat.mul_le_mul hc hp
    by_cases h0 : k = 0
    · subst h0
      exact ⟨Nat.zero_le _, Nat.zero_le _⟩
    · rw [wtK_succ l k (by omega), allK_succ l k (by omega)]
      clear hp
      generalize l.count (k : Int) * 2 ^ (15 - k) = p at *
      omega
set_option maxHeartbeats 1000000 in
theorem kind_good (l : List Int) (A : Option Addr) (c : Nat) (w : World) (hr : ReadsInt w .u8 A l.length l) (hb : ∀ x ∈ l, 0 ≤ x ∧ x < 256) (hg : good l = true) :
    Calls Try.prog 10 #[.slice A l.length c] w fun e w' => e = .returned (.int .u8 (kindI l)) ∧ Below w.heap.size w w' := by
  have ht := tally_any l A c w hr hb
  have HG := Lib.hid hg
  clear hr hb hg
  go_enter Try.func10, Try.ntmps10
  go_wp2_with fail
  refine ht.mono ?_
  rintro e w1 ⟨T, hT, _, hT2, rfl, hb1⟩
  obtain rfl := hT2 HG.out
  rw [HG.out]
  clear ht hT2
  have hsz : (numsV .i64 (cnts l)).toArray.size = 16 := by simp [numsV_length, hT]
  have h1 := all_one (cnts l)
  have hi := info48 (cnts l) hT
  generalize hV : (numsV .i64 (cnts l)).toArray = V at *
  go_upto_block 0 with (first
    | (refine wpList_store_row rfl 48 (.tmp 3) (.tmp 12) rfl w1.heap.size V rfl rfl 48 _ (heap_alloc_last w1 _) hi (by rw [hsz]; rfl) h1 ?_))
  rw [World.setRow_alloc_new]
  obtain ⟨w2, hw2⟩ : ∃ w2, w2 = w1.alloc (.cells V 48) := ⟨_, rfl⟩
  have hV2 : Hid (blk w2 w1.heap.size (cnts l) 48) := Lib.hid (by rw [hw2]; unfold blk; rw [hV]; exact heap_alloc_last w1 _)
  have hb2 : Hid (Below w.heap.size w w2) := Lib.hid (by rw [hw2]; exact hb1.alloc hb1.size _)
  rw [← hw2]
  clear hw2 hb1 h1 hi hsz hV
  generalize w1.heap.size = B at *
  go_wp2_with fail
  go_loopg [5, 6, 7] 15 (fun g s5 s6 s7 wx => ∃ k : Nat, 1 ≤ k ∧ k + g = 16 ∧ s5 = .int .i64 (wtK l k : Nat) ∧ s6 = .int .i64 (allK l k : Nat) ∧ s7 = .int .i64 k ∧ w2 = wx)
  case atStart => exact ⟨1, by omega, by omega, by simp [wtK], by simp [allK], rfl, rfl⟩
  case round =>
    obtain ⟨k, hk1, hkg, rfl, rfl, rfl, rfl⟩ := hrel
    cases gk with
    | zero =>
      obtain rfl : k = 16 := by omega
      have dk2 : decide (((16 : Nat) : Int) ≤ 15) = false := by decide
      have hl : l.length ≤ 320 := ((good_iff l).1 HG.out).1
      have hcnt := cnts_get l 1 (by omega)
      have hcell : w2.cell? ⟨B, 1, none⟩ = some (.int .i64 (l.count 1 : Nat)) := by
        rw [cell_of_row _ _ _ _ _ _ hV2.out]
        simp [numsV, hcnt]
      have hki : Hid (kindI l = if allK l 16 = 0 then 0 else if 32768 < wtK l 16 then 4 else if wtK l 16 = 32768 then 2 else if allK l 16 = 1 ∧ l.count 1 = 1 then 1 else 3) := Lib.hid (by unfold kindI; rw [if_pos HG.out])
      clear hcnt hl hkg hk1
      generalize l.count 1 = m at *
      generalize wtK l 16 = W at *
      generalize allK l 16 = C at *
      by_cases c0 : C = 0
      · subst c0
        go_wp2_with fail
        go_ret
        exact ⟨by rw [hki.out]; rfl, hb2.out⟩
      · have b0 : ((C : Int) == 0) = false := by rw [beq_eq_false_iff_ne]; omega
        by_cases c1 : 32768 < W
        · have b1 : decide ((32768 : Int) < (W : Int)) = true := by rw [decide_eq_true_eq]; omega
          have hk2 : Hid (kindI l = 4) := Lib.hid (by rw [hki.out, if_neg c0, if_pos c1])
          clear hki c1 c0
          go_wp2_with fail
          go_ret
          exact ⟨by rw [hk2.out]; rfl, hb2.out⟩
        · have b1 : decide ((32768 : Int) < (W : Int)) = false := by rw [decide_eq_false_iff_not]; omega
          by_cases c2 : W = 32768
          · have b2 : ((W : Int) == 32768) = true := by rw [beq_iff_eq]; omega
            have hk2 : Hid (kindI l = 2) := Lib.hid (by rw [hki.out, if_neg c0, if_neg c1, if_pos c2])
            clear hki c1 c0 c2
            go_wp2_with fail
            go_ret
            exact ⟨by rw [hk2.out]; rfl, hb2.out⟩
          · have b2 : ((W : Int) == 32768) = false := by rw [beq_eq_false_iff_ne]; omega
            by_cases c3 : C = 1
            · have b3 : ((C : Int) == 1) = true := by rw [beq_iff_eq]; omega
              by_cases c4 : m = 1
              · have b4 : ((m : Int) == 1) = true := by rw [beq_iff_eq]; omega
                have hk2 : Hid (kindI l = 1) := Lib.hid (by rw [hki.out, if_neg c0, if_neg c1, if_neg c2, if_pos ⟨c3, c4⟩])
                clear hki c1 c0 c2 c3 c4
                go_wp2_with fail
                go_ret
                exact ⟨by rw [hk2.out]; rfl, hb2.out⟩
              · have b4 : ((m : Int) == 1) = false := by rw [beq_eq_false_iff_ne]; omega
                have hk2 : Hid (kindI l = 3) := Lib.hid (by rw [hki.out, if_neg c0, if_neg c1, if_neg c2, if_neg (fun h => c4 h.2)])
                clear hki c1 c0 c2 c3 c4
                go_wp2_with fail
                go_ret
                exact ⟨by rw [hk2.out]; rfl, hb2.out⟩
            · have b3 : ((C : Int) == 1) = false := by rw [beq_eq_false_iff_ne]; omega
              have hk2 : Hid (kindI l = 3) := Lib.hid (by rw [hki.out, if_neg c0, if_neg c1, if_neg c2, if_neg (fun h => c3 h.1)])
              clear hki c1 c0 c2 c3
              go_wp2_with fail
              go_ret
              exact ⟨by rw [hk2.out]; rfl, hb2.out⟩
    | succ g =>
      have hk : k ≤ 15 := by omega
      have dk2 : decide ((k : Int) ≤ 15) = true := by rw [decide_eq_true_eq]; omega
      have hl : l.length ≤ 320 := ((good_iff l).1 HG.out).1
      obtain ⟨b1, b2⟩ := kK_le l hl k
      obtain ⟨b3, b4⟩ := kK_le l hl (k + 1)
      have hcnt := cnts_get l k (by omega)
      have hcell : w2.cell? ⟨B, k, none⟩ = some (.int .i64 (l.count (k : Int) : Nat)) := by
        rw [cell_of_row _ _ _ _ _ _ hV2.out]
        simp [numsV, hcnt]
      have hc320 : l.count (k : Int) ≤ 320 := Nat.le_trans List.count_le_length hl
      have es := Lib.hid (wtK_succ l k hk1)
      have ea := Lib.hid (allK_succ l k hk1)
      have n1 : (k : Int) < 16 := by omega
      have hg := Lib.hid hkg
      have hW : Hid (wrap64 ((wtK l k : Int) + wrap64 ((l.count (k : Int) : Int) * 2 ^ (15 - k))) = ((wtK l (k + 1) : Nat) : Int)) := Lib.hid (by
        have e := wtK_succ l k hk1
        have e2 : ((l.count (k : Int) : Int) * 2 ^ (15 - k)) = ((l.count (k : Int) * 2 ^ (15 - k) : Nat) : Int) := by simp
        rw [e2]
        generalize l.count (k : Int) * 2 ^ (15 - k) = p at *
        have h1 : wrap64 ((p : Nat) : Int) = p := by unfold wrap64; omega
        rw [h1, e]
        unfold wrap64
        omega)
      clear hcnt hl hkg b3 b4
      generalize l.count (k : Int) = m at *
      go_wp2_with fail
      go_roundg g
      case measure => omega
      case rel => exact ⟨k + 1, by omega, by have := hg.out; omega, by rw [hW.out], by rw [ea.out]; go_num, by go_num, rfl⟩
theorem kind_any (l : List Int) (A : Option Addr) (c : Nat) (w : World) (hr : ReadsInt w .u8 A l.length l) (hb : ∀ x ∈ l, 0 ≤ x ∧ x < 256) :
    Calls Try.prog 10 #[.slice A l.length c] w fun e w' => e = .returned (.int .u8 (kindI l)) ∧ Below w.heap.size w w' := by
  cases hg : good l with
  | true => exact kind_good l A c w hr hb hg
  | false =>
    have : kindI l = 5 := by unfold kindI; rw [hg]; simp
    rw [this]
    exact kind_bad l A c w hr hb hg
end Go.Proofs.Ytogpjdiammecjaa
