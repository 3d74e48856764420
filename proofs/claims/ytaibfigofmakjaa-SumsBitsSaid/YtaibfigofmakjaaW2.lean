/-
  Sums: the two tables, CRC, and the known answers (contracts).
-/
import Derived.Test.YtaibfigofmakjaaW1
set_option linter.unusedSimpArgs false
set_option linter.unusedVariables false
namespace Go.Proofs.Ytaibfigofmakjaa
open Go.RowKit

def zeros : Array Value := tab fun _ => 0
theorem zero25 (w : World) : (zeroValue 25).run Try.prog w = .ok (.agg zeros) w := by kernel_rfl
theorem size25 (T : Nat → Nat) : (Try.prog.info? 25).map (·.size) = some (tab T).size := by rw [tab_size]; kernel_rfl
theorem zeros_size (T : Nat → Nat) : zeros.size = (tab T).size := by unfold zeros; rw [tab_size, tab_size]
def part (k : Nat) : Nat → Nat := fun i => if i < k then crcT i else 0
theorem part_zero : tab (part 0) = zeros := tab_congr fun i _ => by simp [part]
theorem part_all : tab (part 256) = tab crcT := tab_congr fun i h => by simp [part, h]
theorem part_set (k : Nat) : (tab (part k)).setIfInBounds k (.int .u32 (crcT k : Nat)) = tab (part (k + 1)) := by
  rw [tab_set]
  refine tab_congr fun i _ => ?_
  unfold part
  by_cases h : i = k
  · subst h; simp
  · by_cases h2 : i < k
    · have h3 : i < k + 1 := by omega
      simp [h, h2, h3]
    · have h3 : ¬ i < k + 1 := by omega
      simp [h, h2, h3]

/-- what a table's loop knows -/
structure TabAt (w wr : World) (B k : Nat) : Prop where
  row : wr.heap[B]? = some (.cells (tab (part k)) 25 (0, 0))
  below : Below w.heap.size w wr
theorem TabAt.cell {w wr : World} {B k : Nat} (h : TabAt w wr B k) (i : Nat) (hi : i < 256) : wr.cell? ⟨B, i, none⟩ = some (.int .u32 (part k i : Nat)) := by
  rw [cell_of_row wr B i _ _ _ h.row, tab_get _ _ hi]
theorem TabAt.free {w wr : World} {B k : Nat} (h : TabAt w wr B k) (i : Nat) : wr.frozen? ⟨B, i, none⟩ = false := frozen_of_row wr B i _ _ h.row
theorem TabAt.step {w wr : World} {B k : Nat} (h : TabAt w wr B k) (hB : w.heap.size ≤ B) : TabAt w (wr.setCell ⟨B, k, none⟩ (.int .u32 (crcT k : Nat))) B (k + 1) :=
  ⟨by rw [heap_setCell_same wr B k _ _ _ h.row, part_set], h.below.setCell hB _⟩

theorem step_u32 (d : Nat) (hd : d < 4294967296) : bits .xor .u32 ((d : Int) / 2) (3988292384 * ((d : Int) % 2)) = ((step1 d : Nat) : Int) := by
  have hp : poly * (d % 2) < 4294967296 := by
    have : d % 2 = 0 ∨ d % 2 = 1 := by omega
    rcases this with h | h <;> rw [h] <;> decide
  have := xor_u32 (d / 2) (poly * (d % 2)) (by omega) hp
  simpa [step1, poly] using this
theorem tab_start (w : World) : TabAt w (w.alloc (.cells zeros 25)) w.heap.size 0 :=
  ⟨by rw [part_zero]; exact heap_alloc_new _ _, (Below.refl _ _).alloc (Nat.le_refl _) _⟩

set_option maxHeartbeats 800000 in
theorem table_any (w : World) :
    Calls Try.prog 10 #[] w fun e w' => e = .returned (.agg (tab crcT)) ∧ Below w.heap.size w w' := by
  have hz := zero25
  go_enter Try.func10, Try.ntmps10
  go_wp2
  go_loopg [2, 3] 256 (fun n a i w' => ∃ (k : Nat), k ≤ 256 ∧ n = 256 - k ∧ i = .int .i64 k ∧ TabAt w w' w.heap.size k)
  case atStart =>
    refine ⟨0, by omega, by omega, rfl, ?_⟩
    exact tab_start w
  case round =>
    clear hz
    obtain ⟨k, hk, rfl, rfl, hT⟩ := hrel
    by_cases hlt : k < 256
    · have ht : decide ((k : Int) < 256) = true := by rw [decide_eq_true_eq]; omega
      have HT := Lib.hid hT; clear hT
      go_wp2
      go_loopg [2, 8] 8 (fun n a i w' => ∃ (j d : Nat), j ≤ 8 ∧ n = 8 - j ∧ i = .int .i64 j ∧ d < 4294967296 ∧ a = .int .u32 d ∧ wr = w' ∧ Hid (steps (8 - j) d = crcT k))
      case atStart =>
        exact ⟨0, k, by omega, rfl, rfl, by omega, val_u32 (by omega), rfl, rfl⟩
      case round =>
        obtain ⟨j, d, hj, rfl, rfl, hd, rfl, rfl, hrun⟩ := hrel
        by_cases hlt8 : j < 8
        · obtain ⟨m, hm⟩ : ∃ m, 8 - j = m + 1 := ⟨8 - j - 1, by omega⟩
          have hrun' := hrun.out
          rw [hm] at hrun'
          have Hrun := Lib.hid hrun'
          have Hm := Lib.hid hm
          clear hrun hrun' hm
          have ha := and1_u32 d hd
          have ht8 : decide ((j : Int) < 8) = true := by rw [decide_eq_true_eq]; omega
          go_wp2
          go_roundg (8 - (j + 1))
          case measure => omega
          case rel =>
            refine ⟨j + 1, step1 d, by omega, rfl, by go_num, step1_lt hd, val_u32 (step_u32 d hd), rfl, ?_⟩
            have := Hm.out
            have e : 8 - (j + 1) = m := by omega
            rw [e]
            exact Hrun.out
        · obtain rfl : j = 8 := by omega
          have hrun' := hrun.out
          simp only [Nat.sub_self, steps] at hrun'
          have Hd := Lib.hid hrun'
          have hc := HT.out.cell k hlt
          have hf := HT.out.free k
          have ht8 : decide ((8 : Int) < 8) = false := by decide
          clear hrun hrun'
          go_wp2
          go_roundg (256 - (k + 1))
          case measure => omega
          case rel =>
            refine ⟨k + 1, by omega, rfl, by go_num, ?_⟩
            rw [Hd.out]
            exact HT.out.step (Nat.le_refl _)
    · obtain rfl : k = 256 := by omega
      have hrow := hT.row
      rw [part_all] at hrow
      have hb := below_row hT.below (Nat.le_refl _) (tab crcT)
      have hrow2 := setRow_heap wr w.heap.size _ (tab crcT) 25 (0, 0) hrow
      have Hb := Lib.hid hb
      have Hrow := Lib.hid hrow
      have Hrow2 := Lib.hid hrow2
      have ht : decide ((256 : Int) < 256) = false := by decide
      clear hrow hT hrow2 hb
      go_wp2_with (first
        | (with_reducible refine wpList_load_row rfl 25 _ rfl w.heap.size rfl 25 (tab crcT) (0, 0) _ Hrow.out Try.underlying25 rfl (size25 _) ?_)
        | (with_reducible refine wpList_store_row rfl 25 _ _ rfl w.heap.size (tab crcT) rfl rfl 25 (tab crcT) Hrow.out (size25 _) rfl (tab_one _) ?_))
      refine bodyPost_ret (results_cell_row rfl _ _ w.heap.size 25 (tab crcT) (0, 0) _ rfl Hrow2.out Try.underlying25 rfl (size25 _)) rfl ?_
      exact ⟨rfl, Hb.out⟩

theorem tab_start2 (w : World) : TabAt w ((w.alloc (.cells zeros 25)).alloc (.cells zeros 25)) (w.heap.size + 1) 0 :=
  ⟨by rw [part_zero]; exact heap_alloc2_new _ _ _, ((Below.refl _ _).alloc (Nat.le_refl _) _).alloc (by simp) _⟩

set_option maxHeartbeats 800000 in
theorem refTable_any (w : World) :
    Calls Try.prog 9 #[] w fun e w' => e = .returned (.agg (tab crcT)) ∧ Below w.heap.size w w' := by
  have hz := zero25
  go_enter Try.func9, Try.ntmps9
  go_wp2
  go_loopg [2] 256 (fun n i w' => ∃ (k : Nat), k ≤ 256 ∧ n = 256 - k ∧ i = .int .i64 k ∧ TabAt w w' (w.heap.size + 1) k ∧ w'.heap[w.heap.size]? = some (.cells zeros 25 (0, 0)))
  case atStart =>
    refine ⟨0, by omega, by omega, rfl, tab_start2 w, heap_alloc2_old w _ _⟩
  case round =>
    clear hz
    obtain ⟨k, hk, rfl, rfl, hT, h0⟩ := hrel
    by_cases hlt : k < 256
    · have ht : decide ((k : Int) < 256) = true := by rw [decide_eq_true_eq]; omega
      have HT := Lib.hid hT; clear hT
      have H0 := Lib.hid h0; clear h0
      have hc := HT.out.cell k hlt
      have hf := HT.out.free k
      go_wp2_with (go_at_call 20; refine (refStep_any _ _ (by omega)).mono ?_; rintro e w' ⟨rfl, rfl⟩)
      go_roundg (256 - (k + 1))
      case measure => omega
      case rel =>
        refine ⟨k + 1, by omega, rfl, by go_num, HT.out.step (by omega), ?_⟩
        rw [heap_setCell_other _ _ _ _ (by simp)]
        exact H0.out
    · obtain rfl : k = 256 := by omega
      have hrow := hT.row
      rw [part_all] at hrow
      have hb := below_row hT.below (Nat.le_refl _) (tab crcT)
      have hrow2 := setRow_heap wr w.heap.size _ (tab crcT) 25 (0, 0) h0
      have Hb := Lib.hid hb
      have Hrow := Lib.hid hrow
      have H0 := Lib.hid h0
      have Hrow2 := Lib.hid hrow2
      have ht : decide ((256 : Int) < 256) = false := by decide
      clear hrow hT hrow2 hb h0
      go_wp2_with (first
        | (with_reducible refine wpList_load_row rfl 25 _ rfl (w.heap.size + 1) rfl 25 (tab crcT) (0, 0) _ Hrow.out Try.underlying25 rfl (size25 _) ?_)
        | (with_reducible refine wpList_store_row rfl 25 _ _ rfl w.heap.size (tab crcT) rfl rfl 25 zeros H0.out (size25 _) (zeros_size _) (tab_one _) ?_))
      refine bodyPost_ret (results_cell_row rfl _ _ w.heap.size 25 (tab crcT) (0, 0) _ rfl Hrow2.out Try.underlying25 rfl (size25 _)) rfl ?_
      exact ⟨rfl, Hb.out⟩

theorem crc_any (s : ByteArray) (w : World) (hs : s.size ≤ 140737488351232) :
    Calls Try.prog 16 #[.string s] w fun e w' => e = .returned (.int .u32 (crc s : Nat)) ∧ Below w.heap.size w w' := by
  go_enter Try.func16, Try.ntmps16
  go_wp2_with (first
    | (go_at_call 10; refine (table_any _).mono ?_; rintro e w' ⟨rfl, hb⟩)
    | (go_at_call 18; refine (crcMore_any crcT (fun _ => crcT_lt) 0 s _ hs (by decide)).mono ?_; rintro e w'' ⟨rfl, hb2⟩))
  go_ret
  exact ⟨rfl, hb.trans (hb2.mono hb.size)⟩

/-! ### the answers that the document fixes -/
theorem known1 : adler 1 ⟨#[87, 105, 107, 105, 112, 101, 100, 105, 97]⟩ = 300286872 := by decide +kernel
theorem known2 : crc ⟨#[49, 50, 51, 52, 53, 54, 55, 56, 57]⟩ = 3421780262 := by decide +kernel
theorem known3 : join (adler 1 ⟨#[97]⟩) (adler 1 ⟨#[98]⟩) 1 = adler 1 ⟨#[97, 98]⟩ := by decide +kernel
theorem known4 : adler 1 ⟨#[]⟩ = 1 := by decide +kernel
theorem known5 : crc ⟨#[]⟩ = 0 := by decide +kernel
theorem known6 : crcT 1 = 1996959894 := by decide +kernel

theorem index_tab (w : World) : (Instr.index 25 (.agg (tab crcT)) (.int .i64 1)).run Try.prog w = .ok (.int .u32 1996959894) w := by
  have h1 : (Try.prog.info? 22).map (·.size) = some 1 := by kernel_rfl
  have h2 : (tab crcT)[1]? = some (.int .u32 1996959894) := by rw [tab_get crcT 1 (by decide), known6]; rfl
  have h4 : (isAgg 22).run Try.prog w = .ok false w := by kernel_rfl
  cases hq : Try.prog.info? 22 with
  | none => simp [hq] at h1
  | some i =>
    have hs : i.size = 1 := by simpa [hq] using h1
    simp [Instr.index, asIntOf, run_underlying Try.underlying25, sizeOf, typeInfo, hq, hs, Go.part, h2, h4]

set_option maxHeartbeats 1600000 in
theorem alive_any (w : World) :
    Calls Try.prog 8 #[] w fun e w' => e = .returned (.bool true) ∧ Below w.heap.size w w' := by
  have k1 : ((adler 1 ⟨#[87, 105, 107, 105, 112, 101, 100, 105, 97]⟩ : Nat) : Int) = 300286872 := by rw [known1]; rfl
  have k2 : ((crc ⟨#[49, 50, 51, 52, 53, 54, 55, 56, 57]⟩ : Nat) : Int) = 3421780262 := by rw [known2]; rfl
  have k3 : ((join (adler 1 ⟨#[97]⟩) (adler 1 ⟨#[98]⟩) 1 : Nat) : Int) = ((adler 1 ⟨#[97, 98]⟩ : Nat) : Int) := by rw [known3]
  have k4 : ((adler 1 ⟨#[]⟩ : Nat) : Int) = 1 := by rw [known4]; rfl
  have k5 : ((crc ⟨#[]⟩ : Nat) : Int) = 0 := by rw [known5]; rfl
  have k6 := index_tab
  have hB := Below.refl w.heap.size w
  go_enter Try.func8, Try.ntmps8
  go_wp2_with (first
    | (go_at_call 11; refine (adler_any _ _ (by decide)).mono ?_; rintro e w' ⟨rfl, hb⟩; replace hB := bt hB hb; clear hb)
    | (go_at_call 16; refine (crc_any _ _ (by decide)).mono ?_; rintro e w' ⟨rfl, hb⟩; replace hB := bt hB hb; clear hb)
    | (go_at_call 14; refine (join_any _ _ 1 _ (adler_lt _ _) (adler_lt _ _) (by decide)).mono ?_; rintro e w' ⟨rfl, rfl⟩)
    | (go_at_call 10; refine (table_any _).mono ?_; rintro e w' ⟨rfl, hb⟩; replace hB := bt hB hb; clear hb))
  go_ret
  exact ⟨rfl, hB⟩
end Go.Proofs.Ytaibfigofmakjaa
