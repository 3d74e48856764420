/-
  What SumsBits comes to (a walk): true, whatever the two places and the two texts.
-/
import Derived.Test.YtaibfigofmakjaaOwn
import Derived.Test.YtaibfigofmakjaaK
set_option linter.unusedSimpArgs false
set_option linter.unusedVariables false
namespace Go.Proofs.Ytaibfigofmakjaa
open Go.RowKit

theorem cell_at {wT : World} {B i : Nat} {T : Nat → Nat} (hrow : wT.heap[B]? = some (.cells (tab T) 25 (0, 0))) (hi : i < 256) : wT.cell? ⟨B, i, none⟩ = some (.int .u32 (T i : Nat)) := by
  rw [cell_of_row wT B i _ _ _ hrow, tab_get _ _ hi]
theorem fresh_row {w w1 : World} (hB : Below w.heap.size w w1) : ∃ wT B, wT = (w1.alloc (Obj.cells zeros 25)).setRow w1.heap.size (tab crcT) ∧ B = w1.heap.size ∧ wT.heap[B]? = some (.cells (tab crcT) 25 (0, 0)) ∧ Below w.heap.size w wT ∧ w.heap.size ≤ B :=
  ⟨_, _, rfl, rfl, setRow_heap _ _ zeros _ 25 (0, 0) (heap_alloc_new _ _), below_row (hB.alloc hB.size _) hB.size _, hB.size⟩

/-- the first j of n places hold the exclusive or -/
def xr (a b : List Nat) (n j : Nat) : List Nat := (List.range n).map fun i => if i < j then a.getD i 0 ^^^ b.getD i 0 else 0
theorem xr_length (a b : List Nat) (n j : Nat) : (xr a b n j).length = n := by simp [xr]
theorem xr_zero (a b : List Nat) (n : Nat) : xr a b n 0 = List.replicate n 0 := by
  apply List.ext_getElem?
  intro i
  by_cases h : i < n
  · simp [xr, h]
  · simp [xr, h]
theorem xr_set (a b : List Nat) (n j : Nat) (hj : j < n) : (xr a b n j).set j (a.getD j 0 ^^^ b.getD j 0) = xr a b n (j + 1) := by
  apply List.ext_getElem?
  intro i
  by_cases e : j = i
  · subst e
    simp [xr, hj]
  · rw [List.getElem?_set_ne e]
    by_cases h : i < n
    · simp only [xr, List.getElem?_map, List.getElem?_range h, Option.map_some]
      by_cases h2 : i < j
      · rw [if_pos h2, if_pos (by omega)]
      · rw [if_neg h2, if_neg (by omega)]
    · simp [xr, h]
theorem xorL_get : ∀ (a b : List Nat) (i : Nat), a.length = b.length → i < a.length → (xorL a b)[i]? = some (a.getD i 0 ^^^ b.getD i 0) := by
  intro a
  induction a with
  | nil => intro b i _ h; simp at h
  | cons x a ih =>
    intro b i hl h
    cases b with
    | nil => simp at hl
    | cons y b =>
      cases i with
      | zero => simp [xorL]
      | succ i =>
        simp only [xorL, List.getElem?_cons_succ]
        rw [ih b i (by simpa using hl) (by simpa using h)]
        simp [List.getD_eq_getElem?_getD]
theorem xr_end (a b : List Nat) (n : Nat) (ha : n ≤ a.length) (hb : n ≤ b.length) : xr a b n n = xorL (a.take n) (b.take n) := by
  have hla : (a.take n).length = n := by simp [ha]
  have hlb : (b.take n).length = n := by simp [hb]
  apply List.ext_getElem?
  intro i
  by_cases h : i < n
  · rw [xorL_get _ _ i (by rw [hla, hlb]) (by rw [hla]; exact h)]
    simp only [xr, List.getElem?_map, List.getElem?_range h, Option.map_some, if_pos h, List.getD_eq_getElem?_getD, List.getElem?_take_of_lt h]
  · have h1 : (xr a b n n).length ≤ i := by rw [xr_length]; omega
    have h2 : (xorL (a.take n) (b.take n)).length ≤ i := by rw [xorL_length _ _ (by rw [hla, hlb]), hla]; omega
    rw [List.getElem?_eq_none h1, List.getElem?_eq_none h2]
theorem xr_lt (a b : List Nat) (n j : Nat) (ha : ∀ x ∈ a, x < 256) (hb : ∀ x ∈ b, x < 256) : ∀ x ∈ xr a b n j, x < 256 := by
  intro x hx
  simp only [xr, List.mem_map, List.mem_range] at hx
  obtain ⟨i, _, rfl⟩ := hx
  have g : ∀ (l : List Nat) (i : Nat), (∀ x ∈ l, x < 256) → l.getD i 0 < 256 := by
    intro l i hl
    rw [List.getD_eq_getElem?_getD]
    cases h : l[i]? with
    | none => decide
    | some v => exact hl v (List.mem_of_getElem? h)
  split
  · exact Nat.xor_lt_two_pow (n := 8) (g a i ha) (g b i hb)
  · decide
theorem byteL_extract (s : ByteArray) (n : Nat) : byteL (s.extract 0 n) = (byteL s).take n := by
  simp [byteL, List.map_take]
theorem bits_law (s t : ByteArray) (n : Nat) (hs : n ≤ s.size) (ht : n ≤ t.size) :
    crc (textOf (xr (byteL s) (byteL t) n n)) = crc (s.extract 0 n) ^^^ crc (t.extract 0 n) ^^^ crc (textOf (List.replicate n 0)) := by
  rw [crc_slow, crc_slow, crc_slow, crc_slow, byteL_textOf _ (xr_lt _ _ _ _ (byteL_lt s) (byteL_lt t)), byteL_textOf _ (by intro x hx; rw [List.mem_replicate] at hx; omega), byteL_extract, byteL_extract,
    xr_end _ _ _ (by rw [byteL_length]; exact hs) (by rw [byteL_length]; exact ht)]
  exact slow_three _ _ n (by simp [byteL_length, hs]) (by simp [byteL_length, ht])

theorem keepB {w0 w w' : World} {B : Nat} {vs : List Value} (h : RowAt w B vs ∧ B < w.heap.size ∧ Below w0.heap.size w0 w) (hb : Below w.heap.size w w') :
    RowAt w' B vs ∧ B < w'.heap.size ∧ Below w0.heap.size w0 w' := by
  obtain ⟨h1, h2, h3⟩ := h
  exact ⟨h1.below hb h2, Nat.lt_of_lt_of_le h2 hb.size, bt h3 hb⟩

set_option maxRecDepth 100000 in
set_option maxHeartbeats 3200000 in
theorem bits_small (i : Nat) (hi : i < 256) (k : Nat) (hk : k < 256) (s : ByteArray) (hs : s.size ≤ 140737488351232) (t : ByteArray) (ht : t.size ≤ 140737488351232) (n : Nat) (hn1 : n ≤ s.size) (hn2 : n ≤ t.size) (hn : n ≤ 8192)
    (hmin : ∀ w, (Builtin.min_ #[3, 3] 3 #[.int .i64 (s.size : Nat), .int .i64 (t.size : Nat)]).run Try.prog w = .ok (.int .i64 (n : Nat)) w) (w : World) :
    Calls Try.prog 6 #[.int .u8 i, .int .u8 k, .string s, .string t] w fun e w' => e = .returned (.bool true) ∧ Below w.heap.size w w' := by
  have hB := Below.refl w.heap.size w
  have hlt : decide ((8192 : Int) < (n : Int)) = false := by rw [decide_eq_false_iff_not]; omega
  have hz := zero25
  go_enter Try.func6, Try.ntmps6
  go_wp2_with (first
      | (go_at_call 10; refine (table_any _).mono ?_; rintro e w1 ⟨rfl, hb1⟩; replace hB := bt hB hb1; clear hb1)
      | (with_reducible refine wpList_store_row rfl 25 _ _ rfl _ (tab crcT) rfl rfl 25 zeros (heap_alloc_new _ _) (size25 _) (zeros_size _) (tab_one _) ?_; obtain ⟨wT, B, hwT, hBe, hrow, hB2, hle⟩ := fresh_row hB; rw [← hwT, ← hBe]; clear hwT hBe hB hz; simp only [Act.put]))
  have hHeld : wT.drew.heap[B]? = some (.cells (tab crcT) 25 (0, 0)) ∧ Below w.heap.size w wT.drew := ⟨hrow, hB2.drew⟩
  clear hrow hB2
  have hik : i ^^^ k < 256 := Nat.xor_lt_two_pow (n := 8) hi hk
  have hikI : ((i ^^^ k : Nat) : Int) < 256 := by omega
  have hiI : (i : Int) < 256 := by omega
  have hkI : (k : Int) < 256 := by omega
  have hx := xor_u8 i k hi hk
  have hx2 : bits .xor .u32 ((crcT i : Nat) : Int) ((crcT k : Nat) : Int) = ((crcT (i ^^^ k) : Nat) : Int) := by
    rw [xor_u32 _ _ (crcT_lt hi) (crcT_lt hk), crcT_xor]
  have h0 : ((crcT 0 : Nat) : Int) = 0 := by rw [crcT_zero]; rfl
  refine wp_region_T (fun w' => w'.heap[B]? = some (.cells (tab crcT) 25 (0, 0)) ∧ Below w.heap.size w w') [.take 0, .take 1, .take 2, .take 3, .take 4, .take 5, .take 6, .take 7, .take 8, .take 9, .take 10, .take 11, .take 12, .take 13, .take 14, .take 15, .take 16, .take 17] (by kernel_rfl) (by kernel_rfl) (fun _ _ _ _ _ h => h) hHeld ?_
  refine T_light (a' := ?_) 23 rfl rfl rfl (of_decide_eq_true rfl) rfl hHeld (fun wq hSq K Q hK => ?_) ?_
  rotate_left
  · (go_step; exact hK)
  refine T_light (a' := ?_) 24 rfl rfl rfl (of_decide_eq_true rfl) rfl hHeld (fun wq hSq K Q hK => ?_) ?_
  rotate_left
  · (go_step; exact hK)
  refine T_light (a' := ?_) 25 rfl rfl rfl (of_decide_eq_true rfl) rfl hHeld (fun wq hSq K Q hK => ?_) ?_
  rotate_left
  · (go_step; exact hK)
  refine T_light (a' := ?_) 26 rfl rfl rfl (of_decide_eq_true rfl) rfl hHeld (fun wq hSq K Q hK => ?_) ?_
  rotate_left
  · (go_step; exact hK)
  refine T_light (a' := ?_) 27 rfl rfl rfl (of_decide_eq_true rfl) rfl hHeld (fun wq hSq K Q hK => ?_) ?_
  rotate_left
  · (have hcx := cell_at hSq.1 (hik); go_step; exact hK)
  refine T_light (a' := ?_) 28 rfl rfl rfl (of_decide_eq_true rfl) rfl hHeld (fun wq hSq K Q hK => ?_) ?_
  rotate_left
  · (go_step; exact hK)
  refine T_light (a' := ?_) 29 rfl rfl rfl (of_decide_eq_true rfl) rfl hHeld (fun wq hSq K Q hK => ?_) ?_
  rotate_left
  · (go_step; exact hK)
  refine T_light (a' := ?_) 30 rfl rfl rfl (of_decide_eq_true rfl) rfl hHeld (fun wq hSq K Q hK => ?_) ?_
  rotate_left
  · (have hcx := cell_at hSq.1 (hi); go_step; exact hK)
  refine T_light (a' := ?_) 31 rfl rfl rfl (of_decide_eq_true rfl) rfl hHeld (fun wq hSq K Q hK => ?_) ?_
  rotate_left
  · (go_step; exact hK)
  refine T_light (a' := ?_) 32 rfl rfl rfl (of_decide_eq_true rfl) rfl hHeld (fun wq hSq K Q hK => ?_) ?_
  rotate_left
  · (go_step; exact hK)
  refine T_light (a' := ?_) 33 rfl rfl rfl (of_decide_eq_true rfl) rfl hHeld (fun wq hSq K Q hK => ?_) ?_
  rotate_left
  · (have hcx := cell_at hSq.1 (hk); go_step; exact hK)
  refine T_light (a' := ?_) 34 rfl rfl rfl (of_decide_eq_true rfl) rfl hHeld (fun wq hSq K Q hK => ?_) ?_
  rotate_left
  · (go_step; exact hK)
  refine T_light (a' := ?_) 35 rfl rfl rfl (of_decide_eq_true rfl) rfl hHeld (fun wq hSq K Q hK => ?_) ?_
  rotate_left
  · (go_step; exact hK)
  refine T_light (a' := ?_) 36 rfl rfl rfl (of_decide_eq_true rfl) rfl hHeld (fun wq hSq K Q hK => ?_) ?_
  rotate_left
  · (go_step; exact hK)
  refine T_light (a' := ?_) 37 rfl rfl rfl (of_decide_eq_true rfl) rfl hHeld (fun wq hSq K Q hK => ?_) ?_
  rotate_left
  · (go_step; exact hK)
  refine T_light (a' := ?_) 38 rfl rfl rfl (of_decide_eq_true rfl) rfl hHeld (fun wq hSq K Q hK => ?_) ?_
  rotate_left
  · (have hcx := cell_at (i := 0) hSq.1 (by decide); go_step; exact hK)
  refine T_light (a' := ?_) 39 rfl rfl rfl (of_decide_eq_true rfl) rfl hHeld (fun wq hSq K Q hK => ?_) ?_
  rotate_left
  · (go_step; exact hK)
  refine T_light (a' := ?_) 40 rfl rfl rfl (of_decide_eq_true rfl) rfl hHeld (fun wq hSq K Q hK => ?_) ?_
  rotate_left
  · (go_step; exact hK)
  refine T_done ?_
  have HL := Lib.hid hHeld
  clear hHeld hx hx2 h0 hik hikI hiI hkI
  have hmk := make_row (P := Try.prog) 34 5 (.int .u8 0) 1 Try.underlying34 (by kernel_rfl) rfl n (by omega) (by omega) wT.drew
  obtain ⟨Bb, hBb⟩ : ∃ Bb, Bb = wT.heap.size := ⟨_, rfl⟩
  obtain ⟨wM, hwM⟩ : ∃ wM, wM = wT.drew.alloc (.cells (List.replicate n (Value.int .u8 0)).toArray 5) := ⟨_, rfl⟩
  have hbM : Below w.heap.size w wM := by rw [hwM]; exact HL.out.2.alloc HL.out.2.size _
  have hrM : RowAt wM Bb (numsV .u8 (xr (byteL s) (byteL t) n 0)) := by
    rw [hwM, hBb, xr_zero]
    have h := RowAt.new wT.drew (List.replicate n (Value.int .u8 0)) 5
    simpa [numsV] using h
  have hBlt : Bb < wM.heap.size := by rw [hwM, hBb]; simp
  have hle2 : w.heap.size ≤ Bb := by rw [hBb]; exact HL.out.2.size
  have HM := Lib.hid hbM
  have HR := Lib.hid hrM
  rw [← hwM, World.size_drew, ← hBb] at hmk
  clear hwM hbM hrM HL hBb
  go_wp2_with fail
  clear hmk
  go_loopg [12] n (fun m c w' => ∃ j : Nat, j ≤ n ∧ m = n - j ∧ c = .int .i64 j ∧ RowAt w' Bb (numsV .u8 (xr (byteL s) (byteL t) n j)) ∧ Bb < w'.heap.size ∧ Below w.heap.size w w')
  case atStart => exact ⟨0, Nat.zero_le _, rfl, rfl, HR.out, hBlt, HM.out⟩
  case round =>
    clear HM HR hBlt
    obtain ⟨j, hj, rfl, rfl, hrow, hBlt, hbel⟩ := hrel
    by_cases hjn : j < n
    · obtain ⟨x, hx, _, hxb, hxg⟩ := byte_at s j (by omega)
      obtain ⟨y, hy, _, hyb, hyg⟩ := byte_at t j (by omega)
      have hxor := xor_u8 x y hx hy
      have hl : j < (numsV .u8 (xr (byteL s) (byteL t) n j)).length := by rw [numsV_length, xr_length]; exact hjn
      have hcx : wr.drew.cell? ⟨Bb, j, none⟩ = some _ := hrow.drew.cell j _ (List.getElem?_eq_getElem hl)
      have hfx := hrow.drew.free j hl
      have hset := (hrow.set j (.int .u8 ((byteL s).getD j 0 ^^^ (byteL t).getD j 0 : Nat)) hl).drew
      rw [numsV_set, xr_set _ _ _ _ hjn, hxg, hyg] at hset
      have Hset := Lib.hid hset
      have Hlt := Lib.hid hBlt
      have hHeld : Below w.heap.size w wr.drew := hbel.drew
      have Hbel := Lib.hid hbel
      have hjs : j < s.size := by omega
      have hjt : j < t.size := by omega
      clear hset hbel hrow hBlt
      go_wp2_with fail
      refine wp_region_T (fun w' => Below w.heap.size w w') [.take 0, .take 1, .take 2, .take 3, .take 4, .take 5, .take 6, .take 7, .take 8, .take 9, .go 10] (by kernel_rfl) (by kernel_rfl) (fun _ _ _ _ _ h => h) hHeld ?_
      refine T_light (a' := ?_) 48 rfl rfl rfl (of_decide_eq_true rfl) rfl hHeld (fun wq hSq K Q hK => ?_) ?_
      rotate_left
      · (go_step; exact hK)
      refine T_light (a' := ?_) 49 rfl rfl rfl (of_decide_eq_true rfl) rfl hHeld (fun wq hSq K Q hK => ?_) ?_
      rotate_left
      · (go_step; exact hK)
      refine T_light (a' := ?_) 50 rfl rfl rfl (of_decide_eq_true rfl) rfl hHeld (fun wq hSq K Q hK => ?_) ?_
      rotate_left
      · (go_step; exact hK)
      refine T_light (a' := ?_) 51 rfl rfl rfl (of_decide_eq_true rfl) rfl hHeld (fun wq hSq K Q hK => ?_) ?_
      rotate_left
      · (go_step; exact hK)
      refine T_light (a' := ?_) 52 rfl rfl rfl (of_decide_eq_true rfl) rfl hHeld (fun wq hSq K Q hK => ?_) ?_
      rotate_left
      · (go_step; exact hK)
      refine T_light (a' := ?_) 53 rfl rfl rfl (of_decide_eq_true rfl) rfl hHeld (fun wq hSq K Q hK => ?_) ?_
      rotate_left
      · (go_step; exact hK)
      refine T_light (a' := ?_) 54 rfl rfl rfl (of_decide_eq_true rfl) rfl hHeld (fun wq hSq K Q hK => ?_) ?_
      rotate_left
      · (go_step; exact hK)
      refine T_light (a' := ?_) 55 rfl rfl rfl (of_decide_eq_true rfl) rfl hHeld (fun wq hSq K Q hK => ?_) ?_
      rotate_left
      · (go_step; exact hK)
      refine T_light (a' := ?_) 56 rfl rfl rfl (of_decide_eq_true rfl) rfl hHeld (fun wq hSq K Q hK => ?_) ?_
      rotate_left
      · (go_step; exact hK)
      refine T_light (a' := ?_) 57 rfl rfl rfl (of_decide_eq_true rfl) rfl hHeld (fun wq hSq K Q hK => ?_) ?_
      rotate_left
      · (go_step; exact hK)
      refine T_go rfl rfl (fun K hK => ?_)
      go_step; have hHeld : Below w.heap.size w (wr.setCell ⟨Bb, j, none⟩ (.int .u8 (x ^^^ y : Nat))).drew := (Hbel.out.setCell hle2 _).drew
      refine hK _ _ hHeld ?_
      clear hK K
      refine T_done ?_

      go_wp2_with fail
      go_roundg (n - (j + 1))
      case measure => omega
      case rel =>
        refine ⟨j + 1, by omega, rfl, by go_num, Hset.out, ?_, hHeld⟩
        have := Hlt.out
        simp
        omega
    · obtain rfl : j = n := by omega
      have hmk := make_row (P := Try.prog) 34 5 (.int .u8 0) 1 Try.underlying34 (by kernel_rfl) rfl j (by omega) (by omega) wr
      obtain ⟨wN, hwN⟩ : ∃ wN, wN = wr.alloc (.cells (List.replicate j (Value.int .u8 0)).toArray 5) := ⟨_, rfl⟩
      have hrN : RowAt wN wr.heap.size (numsV .u8 (List.replicate j 0)) := by
        rw [hwN]
        have h := RowAt.new wr (List.replicate j (Value.int .u8 0)) 5
        simpa [numsV] using h
      have hbN : Below w.heap.size w wN := by rw [hwN]; exact hbel.alloc hbel.size _
      have hr2 : RowAt wN Bb (numsV .u8 (xr (byteL s) (byteL t) j j)) := by rw [hwN]; exact hrow.alloc hBlt _
      have hB2 : Bb < wN.heap.size := by rw [hwN]; simp; omega
      have hc0 := string_of_row (P := Try.prog) 34 9 5 Try.underlying34 Try.underlying5 Try.underlying9 (off := 0) (w := wN) (B := wr.heap.size) j j (List.replicate j 0) (by intro x hx; rw [List.mem_replicate] at hx; omega) (by simp) (fun a m ha => by rw [Nat.zero_add]; exact hrN.cell a _ (numsV_get ha))
      have hcv : ∀ wq, RowAt wq Bb (numsV .u8 (xr (byteL s) (byteL t) j j)) → (convert 34 9 (.slice (some ⟨Bb, 0, none⟩) j j)).run Try.prog wq = .ok (.string (textOf (xr (byteL s) (byteL t) j j))) wq := fun wq h =>
        string_of_row (P := Try.prog) 34 9 5 Try.underlying34 Try.underlying5 Try.underlying9 (off := 0) (w := wq) (B := Bb) j j _ (xr_lt _ _ _ _ (byteL_lt s) (byteL_lt t)) (by rw [xr_length]) (fun a m ha => by rw [Nat.zero_add]; exact h.cell a _ (numsV_get ha))
      rw [← hwN] at hmk
      have hT1 : (textOf (xr (byteL s) (byteL t) j j)).size ≤ 140737488351232 := by rw [textOf_size, xr_length]; omega
      have hT2 : (s.extract 0 j).size ≤ 140737488351232 := by rw [← byteL_length, byteL_extract, List.length_take]; omega
      have hT3 : (t.extract 0 j).size ≤ 140737488351232 := by rw [← byteL_length, byteL_extract, List.length_take]; omega
      have hT4 : (textOf (List.replicate j 0)).size ≤ 140737488351232 := by rw [textOf_size, List.length_replicate]; omega
      have hHeld : RowAt wN.drew Bb (numsV .u8 (xr (byteL s) (byteL t) j j)) ∧ Bb < wN.drew.heap.size ∧ Below w.heap.size w wN.drew := ⟨hr2.drew, hB2, hbN.drew⟩
      have hlaw := bits_law s t j (by omega) (by omega)
      have hx1 : bits .xor .u32 ((crc (s.extract 0 j) : Nat) : Int) ((crc (t.extract 0 j) : Nat) : Int) = ((crc (s.extract 0 j) ^^^ crc (t.extract 0 j) : Nat) : Int) := xor_u32 _ _ (crc_lt _) (crc_lt _)
      have hx2 : bits .xor .u32 ((crc (s.extract 0 j) ^^^ crc (t.extract 0 j) : Nat) : Int) ((crc (textOf (List.replicate j 0)) : Nat) : Int) = ((crc (textOf (xr (byteL s) (byteL t) j j)) : Nat) : Int) := by
        rw [hlaw]; exact xor_u32 _ _ (Nat.xor_lt_two_pow (n := 32) (crc_lt _) (crc_lt _)) (crc_lt _)
      have Hcv := Lib.hid hcv
      clear hrow hBlt hbel hwN hrN hbN hr2 hB2 hlaw hcv
      have hjs : j ≤ s.size := by omega
      have hjt : j ≤ t.size := by omega
      go_wp2_with fail
      clear hmk hc0
      refine wp_region_T (fun w' => RowAt w' Bb (numsV .u8 (xr (byteL s) (byteL t) j j)) ∧ Bb < w'.heap.size ∧ Below w.heap.size w w') [.take 0, .take 1, .take 3, .take 4, .take 5, .take 7, .take 8, .take 9, .take 12, .go 2, .go 6, .go 10, .take 11, .go 13, .take 14, .take 15, .take 16, .go 17, .take 18, .take 19] (by kernel_rfl) (by kernel_rfl) (fun _ _ _ _ _ h => h) hHeld ?_
      refine T_light (a' := ?_) 61 rfl rfl rfl (of_decide_eq_true rfl) rfl hHeld (fun wq hSq K Q hK => ?_) ?_
      rotate_left
      · (go_step; exact hK)
      refine T_light (a' := ?_) 62 rfl rfl rfl (of_decide_eq_true rfl) rfl hHeld (fun wq hSq K Q hK => ?_) ?_
      rotate_left
      · (have hcx := Hcv.out wq hSq.1; go_step; exact hK)
      refine T_light (a' := ?_) 64 rfl rfl rfl (of_decide_eq_true rfl) rfl hHeld (fun wq hSq K Q hK => ?_) ?_
      rotate_left
      · (go_step; exact hK)
      refine T_light (a' := ?_) 65 rfl rfl rfl (of_decide_eq_true rfl) rfl hHeld (fun wq hSq K Q hK => ?_) ?_
      rotate_left
      · (go_step; exact hK)
      refine T_light (a' := ?_) 66 rfl rfl rfl (of_decide_eq_true rfl) rfl hHeld (fun wq hSq K Q hK => ?_) ?_
      rotate_left
      · (go_step; exact hK)
      refine T_light (a' := ?_) 68 rfl rfl rfl (of_decide_eq_true rfl) rfl hHeld (fun wq hSq K Q hK => ?_) ?_
      rotate_left
      · (go_step; exact hK)
      refine T_light (a' := ?_) 69 rfl rfl rfl (of_decide_eq_true rfl) rfl hHeld (fun wq hSq K Q hK => ?_) ?_
      rotate_left
      · (go_step; exact hK)
      refine T_light (a' := ?_) 70 rfl rfl rfl (of_decide_eq_true rfl) rfl hHeld (fun wq hSq K Q hK => ?_) ?_
      rotate_left
      · (go_step; exact hK)
      refine T_light (a' := ?_) 73 rfl rfl rfl (of_decide_eq_true rfl) rfl hHeld (fun wq hSq K Q hK => ?_) ?_
      rotate_left
      · (go_step; exact hK)
      refine T_call own16 63 [.string (textOf (xr (byteL s) (byteL t) j j))] rfl rfl rfl rfl rfl ?_
      refine (crc_any _ _ hT1).mono ?_; rintro e w2 ⟨rfl, hb⟩; have hHeld := keepB hHeld hb; clear hb
      refine ⟨_, rfl, hHeld, ?_⟩
      simp only [Act.put, List.setIfInBounds_toArray, List.set_cons_zero, List.set_cons_succ]
      refine T_call own16 67 [.string (s.extract 0 j)] rfl rfl rfl rfl rfl ?_
      refine (crc_any _ _ hT2).mono ?_; rintro e w2 ⟨rfl, hb⟩; have hHeld := keepB hHeld hb; clear hb
      refine ⟨_, rfl, hHeld, ?_⟩
      simp only [Act.put, List.setIfInBounds_toArray, List.set_cons_zero, List.set_cons_succ]
      refine T_call own16 71 [.string (t.extract 0 j)] rfl rfl rfl rfl rfl ?_
      refine (crc_any _ _ hT3).mono ?_; rintro e w2 ⟨rfl, hb⟩; have hHeld := keepB hHeld hb; clear hb
      refine ⟨_, rfl, hHeld, ?_⟩
      simp only [Act.put, List.setIfInBounds_toArray, List.set_cons_zero, List.set_cons_succ]
      refine T_light (a' := ?_) 72 rfl rfl rfl (of_decide_eq_true rfl) rfl hHeld (fun wq hSq K Q hK => ?_) ?_
      rotate_left
      · (go_step; exact hK)
      refine T_call own16 74 [.string (textOf (List.replicate j 0))] rfl rfl rfl rfl rfl ?_
      refine (crc_any _ _ hT4).mono ?_; rintro e w2 ⟨rfl, hb⟩; have hHeld := keepB hHeld hb; clear hb
      refine ⟨_, rfl, hHeld, ?_⟩
      simp only [Act.put, List.setIfInBounds_toArray, List.set_cons_zero, List.set_cons_succ]
      refine T_light (a' := ?_) 75 rfl rfl rfl (of_decide_eq_true rfl) rfl hHeld (fun wq hSq K Q hK => ?_) ?_
      rotate_left
      · (go_step; exact hK)
      refine T_light (a' := ?_) 76 rfl rfl rfl (of_decide_eq_true rfl) rfl hHeld (fun wq hSq K Q hK => ?_) ?_
      rotate_left
      · (go_step; exact hK)
      refine T_light (a' := ?_) 77 rfl rfl rfl (of_decide_eq_true rfl) rfl hHeld (fun wq hSq K Q hK => ?_) ?_
      rotate_left
      · (go_step; exact hK)
      refine T_call own8 78 [] rfl rfl rfl rfl rfl ?_
      refine (alive_any _).mono ?_; rintro e w2 ⟨rfl, hb⟩; have hHeld := keepB hHeld hb; clear hb
      refine ⟨_, rfl, hHeld, ?_⟩
      simp only [Act.put, List.setIfInBounds_toArray, List.set_cons_zero, List.set_cons_succ]
      refine T_light (a' := ?_) 79 rfl rfl rfl (of_decide_eq_true rfl) rfl hHeld (fun wq hSq K Q hK => ?_) ?_
      rotate_left
      · (go_step; exact hK)
      refine T_light (a' := ?_) 8 rfl rfl rfl (of_decide_eq_true rfl) rfl hHeld (fun wq hSq K Q hK => ?_) ?_
      rotate_left
      · (go_step; exact hK)
      refine T_done ?_

      go_wp2_with fail
      go_ret
      exact ⟨rfl, hHeld.2.2⟩
theorem run_min (P : Program) (ats : Array TypeId) (ty : TypeId) (k : IntKind) (x y n : Int) (h : n = if y < x then y else x) (w : World) :
    (Builtin.min_ ats ty #[.int k x, .int k y]).run P w = .ok (.int k n) w := by
  subst h
  simp [Builtin.min_, Builtin.min2, List.foldlM]

set_option maxHeartbeats 1600000 in
theorem bits_any (i : Nat) (hi : i < 256) (k : Nat) (hk : k < 256) (s : ByteArray) (hs : s.size ≤ 140737488351232) (t : ByteArray) (ht : t.size ≤ 140737488351232) (w : World) :
    Calls Try.prog 6 #[.int .u8 i, .int .u8 k, .string s, .string t] w fun e w' => e = .returned (.bool true) ∧ Below w.heap.size w w' := by
  obtain ⟨n, hn⟩ : ∃ n, n = min s.size t.size := ⟨_, rfl⟩
  have hmin := fun w => run_min Try.prog #[3, 3] 3 .i64 (s.size : Nat) (t.size : Nat) (n : Nat) (by rw [hn, Nat.min_def]; split <;> split <;> omega) w
  by_cases hb : n ≤ 8192
  · exact bits_small i hi k hk s hs t ht n (by omega) (by omega) hb hmin w
  · have hlt : decide ((8192 : Int) < (n : Int)) = true := by rw [decide_eq_true_eq]; omega
    clear hn
    have hB := Below.refl w.heap.size w
    go_enter Try.func6, Try.ntmps6
    go_wp2_with (go_at_call 8; refine (alive_any _).mono ?_; rintro e w' ⟨rfl, hb⟩; replace hB := bt hB hb; clear hb)
    go_ret
    exact ⟨rfl, hB⟩
end Go.Proofs.Ytaibfigofmakjaa
