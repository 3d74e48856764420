/-
  CanonApart: the walk, for every lengths.
-/
import Derived.Test.YtogpjdiammecjaaNc
import Derived.Test.YtogpjdiammecjaaMathA
set_option linter.unusedSimpArgs false
set_option linter.unusedVariables false
namespace Go.Proofs.Ytogpjdiammecjaa.Apart
open Go.RowKit Go.Proofs.YtogpjdiammecjaaW.PrintWords Go.Proofs.Ytogpjdiammecjaa.PC Go.Proofs.Ytogpjdiammecjaa.Pure

theorem alive_any (w : World) : Calls Try.prog 8 #[] w fun e w' => e = .returned (.bool true) ∧ Below w.heap.size w w' := PC.platenlaw05_alive.calls 20 true w (alive_some 0)
/-- lengths that lie in memory -/
structure LAt (W : World) (x : Addr) (l : List Int) : Prop where
  cell : ∀ i, i < l.length → W.cell? (x.add i) = some (.int .u8 (l.getD i 0))
  bytes : ∀ y ∈ l, 0 ≤ y ∧ y < 256
  small : l.length ≤ 400
theorem LAt.below {W W' : World} {x : Addr} {l : List Int} (h : LAt W x l) (hb : Below W.heap.size W W') : LAt W' x l :=
  ⟨fun i hi => (hb.cell (World.block_lt_of_cell? _ _ (h.cell i hi))).trans (h.cell i hi), h.bytes, h.small⟩
theorem LAt.reads {W : World} {x : Addr} {l : List Int} (h : LAt W x l) : ReadsInt W .u8 (some x) l.length l := ⟨rfl, by have := h.small; omega, fun _ => ⟨x, rfl, h.cell⟩⟩
theorem lens_of {W : World} {a : Option Addr} {len cap : Nat} {z : List Int} (hl : ¬ 60 < len) (h0 : ¬ len = 0) (w0 : (a = none ∧ len = 0 ∧ cap = 0 ∧ z = []) ∨ ∃ x, a = some x ∧ len ≤ cap ∧ cap ≤ maxLen ∧ z.length = cap ∧ (∀ i, i < z.length → W.cell? (x.add i) = some (.int .u8 (z.getD i 0))) ∧ ∀ n ∈ z, (Lit.int .u8 n).wf = true) :
    ∃ x l, a = some x ∧ l.length = len ∧ LAt W x l := by
  rcases w0 with ⟨_, h, _⟩ | ⟨x, rfl, h1, _, h3, h4, h5⟩
  · exact absurd h h0
  · refine ⟨x, z.take len, rfl, by rw [List.length_take]; omega, ⟨fun i hi => ?_, fun y hy => wf_u8 (h5 y (List.mem_of_mem_take hy)), by rw [List.length_take]; omega⟩⟩
    rw [List.length_take] at hi
    rw [h4 i (by omega)]
    congr 2
    rw [List.getD_eq_getElem?_getD, List.getD_eq_getElem?_getD, List.getElem?_take, if_pos (by omega)]
theorem nt_a1 {len : Nat} (h : 60 < len) : decide ((60 : Int) < (len : Int)) = true := by rw [decide_eq_true_eq]; omega
theorem nt_a2 {len : Nat} (h : ¬ 60 < len) : decide ((60 : Int) < (len : Int)) = false := by rw [decide_eq_false_iff_not]; omega
theorem nt_ne {i j : Nat} (h : ¬ i = j) : ((i : Int) == (j : Int)) = false ∧ decide (i = j) = false := ⟨by rw [beq_eq_false_iff_ne]; omega, by rw [decide_eq_false_iff_not]; exact h⟩
theorem lat_keep {W w : World} {x : Addr} {l : List Int} (h : LAt W x l) (hb : Below W.heap.size W w) : LAt w x l := h.below hb
theorem own8 : Own Try.prog 8 := own_of Try.func8 (by kernel_rfl) rfl
theorem own11 : Own Try.prog 11 := own_of Try.func11 (by kernel_rfl) rfl
theorem nil_reads (W : World) (a : Option Addr) : ReadsInt W .u8 a ([] : List Int).length [] := ⟨rfl, by simp, fun h => absurd h (by simp)⟩
/-- a symbol's code and its length, as numbers -/
theorem code_nat (l : List Int) (hg : good l = true) (hw : wtK l 16 ≤ 32768) (hb : ∀ y ∈ l, 0 ≤ y ∧ y < 256) {i : Nat} (hi : i < l.length) :
    ∃ p n : Nat, rd l (i : Int) = (n : Int) ∧ codeAt l i = (p, n) ∧ n ≤ 15 ∧ p < 2 ^ n ∧ p < 32768 := by
  have e : rd l (i : Int) = l[i] := by rw [rd_getD]; simp [hi]
  have h0 := hb l[i] (List.getElem_mem _)
  have h15 := ((good_iff l).1 hg).2 l[i] (List.getElem_mem _)
  obtain ⟨n, hn⟩ : ∃ n : Nat, rd l (i : Int) = (n : Int) := ⟨l[i].toNat, by rw [e]; omega⟩
  have hn15 : n ≤ 15 := by omega
  by_cases hz : n = 0
  · subst hz
    refine ⟨0, 0, hn, ?_, by omega, by simp, by decide⟩
    unfold codeAt
    rw [hn]
    rfl
  · have hf := code_fits l hw hi hn (by omega) hn15
    have hp : 2 ^ n ≤ 2 ^ 15 := Nat.pow_le_pow_right (by decide) hn15
    have e2 : (codeAt l i).2 = n := by rw [code_at l hn (by omega)]
    exact ⟨(codeAt l i).1, n, hn, by rw [← e2], hn15, hf, by omega⟩
theorem code_mem {w : World} {x : Addr} {l : List Int} {B : Nat} (HL : LAt w x l) (h : w.heap[B]? = some (.cells (cellsC (codesK l l.length)).toArray 31 (0, 0))) (hg : good l = true ∧ wtK l 16 ≤ 32768) {i : Nat} (hi : i < l.length) :
    ∃ p n : Nat, (rd l (i : Int) = (n : Int) ∧ codeAt l i = (p, n) ∧ n ≤ 15 ∧ p < 2 ^ n ∧ p < 32768) ∧ w.cell? (x.add i) = some (.int .u8 (n : Nat)) ∧ w.cell? ⟨B, i * 2, none⟩ = some (.int .u32 (p : Nat)) ∧ w.cell? ⟨B, i * 2 + 1, none⟩ = some (.int .u8 (n : Nat)) := by
  obtain ⟨p, n, h1, h2, h3, h4, h5⟩ := code_nat l hg.1 hg.2 HL.bytes hi
  obtain ⟨c1, c2⟩ := code_cells h hi
  have c0 := HL.cell i hi
  rw [← rd_getD, h1] at c0
  rw [h2] at c1 c2
  exact ⟨p, n, ⟨h1, h2, h3, h4, h5⟩, c0, c1, c2⟩
theorem nt_15 {n : Nat} (h : n ≤ 15) (h0 : ¬ n = 0) : decide ((15 : Int) < (n : Int)) = false ∧ decide (15 < n) = false ∧ decide ((0 : Int) < (n : Int)) = true ∧ decide (0 < n) = true := by
  refine ⟨?_, ?_, ?_, ?_⟩
  · rw [decide_eq_false_iff_not]; omega
  · rw [decide_eq_false_iff_not]; omega
  · rw [decide_eq_true_eq]; omega
  · rw [decide_eq_true_eq]; omega
theorem wrap15 {n : Nat} (h : n ≤ 15) : min (IntKind.u64.wrap (n : Int)).toNat 32 = n := by
  have : IntKind.u64.wrap (n : Int) = (n : Int) := by unfold IntKind.wrap; simp [IntKind.bits]; omega
  rw [this]; omega
theorem nt_sh {p n : Nat} (h : n ≤ 15) (hp : p < 2 ^ n) : ((p : Int) / 2 ^ min (IntKind.u64.wrap (n : Int)).toNat 32 != 0) = false := by
  rw [wrap15 h]
  have e : (p : Int) / 2 ^ n = ((p / 2 ^ n : Nat) : Int) := by push_cast; rfl
  rw [e, Nat.div_eq_of_lt hp]
  rfl
theorem nt_z {n : Nat} (h : ¬ n = 0) : ((n : Int) == 0) = false ∧ decide (n = 0) = false := ⟨by rw [beq_eq_false_iff_ne]; omega, by rw [decide_eq_false_iff_not]; exact h⟩
theorem pair_law (l : List Int) {i k n m p q len : Nat} (hl : l.length = len) (hi : i < len) (hk : k < len) (hki : ¬ k = i) (c : rd l (i : Int) = (n : Int) ∧ codeAt l i = (p, n) ∧ n ≤ 15 ∧ p < 2 ^ n ∧ p < 32768) (d : rd l (k : Int) = (m : Int) ∧ codeAt l k = (q, m) ∧ m ≤ 15 ∧ q < 2 ^ m ∧ q < 32768) (hn : ¬ n = 0) (hm : ¬ m = 0) :
    (n ≤ m → p ≠ q / 2 ^ (m - n)) ∧ (n < m → p < q / 2 ^ (m - n)) ∧ (n = m → (p < q ↔ i < k)) := by
  have h1 : n < m → p < q / 2 ^ (m - n) := fun h => by
    have := apart_less l (i := i) (k := k) (by omega) c.1 d.1 (by omega) h
    rw [c.2.1, d.2.1] at this
    exact this
  have h2 : n = m → (p < q ↔ i < k) ∧ p ≠ q := fun h => by
    subst h
    have := apart_rise l (i := i) (k := k) (by omega) (by omega) c.1 d.1 (by omega) (by omega)
    rw [c.2.1, d.2.1] at this
    exact this
  refine ⟨fun h => ?_, h1, fun h => (h2 h).1⟩
  rcases Nat.lt_or_eq_of_le h with h | h
  · have := h1 h; omega
  · have := (h2 h).2
    rw [h, Nat.sub_self, Nat.pow_zero, Nat.div_one]
    exact this
theorem nt_rise {i k p q : Nat} (h : p < q ↔ i < k) : ∃ b : Bool, decide ((i : Int) < (k : Int)) = b ∧ decide (i < k) = b ∧ decide ((p : Int) < (q : Int)) = b ∧ decide (p < q) = b := by
  refine ⟨decide (i < k), ?_, rfl, ?_, ?_⟩
  · exact decide_eq_decide.2 (by omega)
  · exact decide_eq_decide.2 (by omega)
  · exact decide_eq_decide.2 h
theorem keep6 {w w' : World} {a b c d e f : Addr} {p q r s t u : Value} (h : w.cell? a = some p ∧ w.cell? b = some q ∧ w.cell? c = some r ∧ w.cell? d = some s ∧ w.cell? e = some t ∧ w.cell? f = some u) (hb : Below w.heap.size w w') :
    w'.cell? a = some p ∧ w'.cell? b = some q ∧ w'.cell? c = some r ∧ w'.cell? d = some s ∧ w'.cell? e = some t ∧ w'.cell? f = some u :=
  ⟨(hb.cell (World.block_lt_of_cell? _ _ h.1)).trans h.1, (hb.cell (World.block_lt_of_cell? _ _ h.2.1)).trans h.2.1, (hb.cell (World.block_lt_of_cell? _ _ h.2.2.1)).trans h.2.2.1, (hb.cell (World.block_lt_of_cell? _ _ h.2.2.2.1)).trans h.2.2.2.1, (hb.cell (World.block_lt_of_cell? _ _ h.2.2.2.2.1)).trans h.2.2.2.2.1, (hb.cell (World.block_lt_of_cell? _ _ h.2.2.2.2.2)).trans h.2.2.2.2.2⟩
theorem nt_sub {p q n m : Nat} (hm : m ≤ 15) (h : n < m) (hp : p < q / 2 ^ (m - n)) : ∃ d : Nat, IntKind.u8.wrap ((m : Int) - (n : Int)) = (d : Int) ∧ decide ((q : Int) / 2 ^ min (IntKind.u64.wrap (d : Int)).toNat 32 ≤ (p : Int)) = false := by
  refine ⟨m - n, ?_, ?_⟩
  · unfold IntKind.wrap
    simp [IntKind.bits]
    omega
  · rw [wrap15 (show m - n ≤ 15 by omega), decide_eq_false_iff_not]
    have e : (q : Int) / 2 ^ (m - n) = ((q / 2 ^ (m - n) : Nat) : Int) := by push_cast; rfl
    rw [e]
    omega
theorem row_keep {W w : World} {B : Nat} {o : Obj} (h : W.heap[B]? = some o) (hb : Below W.heap.size W w) : w.heap[B]? = some o := (hb.block B (Array.getElem?_eq_some_iff.1 h).1).trans h
theorem nt_eq {i j : Nat} (h : i = j) : ((i : Int) == (j : Int)) = true ∧ decide (i = j) = true := by subst h; simp
theorem code_mem_at {W w : World} {x : Addr} {l : List Int} {B i p n len : Nat} (HL : LAt w x l) (h : W.heap[B]? = some (.cells (cellsC (codesK l l.length)).toArray 31 (0, 0))) (hb : Below W.heap.size W w) (hg : good l = true ∧ wtK l 16 ≤ 32768) (hl : l.length = len) (hi : i < len)
    (hc : rd l (i : Int) = (n : Int) ∧ codeAt l i = (p, n) ∧ n ≤ 15 ∧ p < 2 ^ n ∧ p < 32768) : w.cell? (x.add i) = some (.int .u8 (n : Nat)) ∧ w.cell? ⟨B, i * 2, none⟩ = some (.int .u32 (p : Nat)) ∧ w.cell? ⟨B, i * 2 + 1, none⟩ = some (.int .u8 (n : Nat)) := by
  obtain ⟨q, m, ⟨h1, h2, _⟩, h3⟩ := code_mem HL (row_keep h hb) hg (show i < l.length by omega)
  rw [hc.2.1] at h2
  cases h2
  exact h3
set_option maxRecDepth 100000 in
set_option maxHeartbeats 16000000 in
theorem apart_all (a : Option Addr) (len cap : Nat) (z : List Int) (W : World)
    (w0 : (a = none ∧ len = 0 ∧ cap = 0 ∧ z = []) ∨ ∃ x, a = some x ∧ len ≤ cap ∧ cap ≤ maxLen ∧ z.length = cap ∧ (∀ i, i < z.length → W.cell? (x.add i) = some (.int .u8 (z.getD i 0))) ∧ ∀ n ∈ z, (Lit.int .u8 n).wf = true) :
    Calls Try.prog 3 #[.slice a len cap] W fun e w' => e = .returned (.bool true) ∧ Below W.heap.size W w' := by
  by_cases h3 : 60 < len
  · have d1 := nt_a1 h3
    clear h3 w0
    go_enter Try.func3, Try.ntmps3
    go_wp2_with fail
    refine (alive_any _).mono ?_
    rintro e w9 ⟨rfl, hb9⟩
    have HB9 := Lib.hid hb9
    clear hb9
    go_wp2_with fail
    go_ret
    exact ⟨rfl, HB9.out⟩
  · have d1 := nt_a2 h3
    by_cases h0 : len = 0
    · subst h0
      clear h3 w0
      go_enter Try.func3, Try.ntmps3
      go_wp2_with fail
      have hc := codes_ok [] a cap W (nil_reads W a) (by simp) (by decide) (by decide)
      refine hc.mono ?_
      rintro e w2 ⟨B, hB, rfl, hrow, hb⟩
      have HB := Lib.hid hb
      clear hc hb hrow hB
      go_wp2_with fail
      go_loopg [5] 0 (fun f s5 wx => s5 = .int .i64 0 ∧ Hid (Below W.heap.size W wx))
      case atStart => exact ⟨rfl, HB⟩
      case round =>
        obtain ⟨rfl, HW⟩ := hrel
        go_wp2_with fail
        refine (alive_any _).mono ?_
        rintro e w9 ⟨rfl, hb9⟩
        have HB9 := Lib.hid (HW.out.trans (hb9.mono HW.out.size))
        clear hb9
        go_wp2_with fail
        go_ret
        exact ⟨rfl, HB9.out⟩
    · obtain ⟨x, l, rfl, hln, hat2⟩ := lens_of h3 h0 w0
      have HL := Lib.hid hat2
      have HLN := Lib.hid (And.intro hln (show len ≤ 60 by omega))
      clear h3 h0 w0 hln hat2
      go_enter Try.func3, Try.ntmps3
      go_wp2_with fail
      by_cases k5 : kindI l = 5
      · have hc := codes_bad l (some x) cap W HL.out.reads HL.out.bytes k5
        rw [HLN.out.1] at hc
        refine hc.mono ?_
        rintro e w2 ⟨rfl, hb⟩
        have HB := Lib.hid hb
        have K5 := Lib.hid k5
        clear hc hb k5
        go_wp2_with fail
        have hc := kind_any l (some x) cap w2 (lat_keep HL.out HB.out).reads HL.out.bytes
        rw [HLN.out.1, K5.out] at hc
        refine hc.mono ?_
        rintro e w3 ⟨rfl, hb⟩
        have HB3 := Lib.hid (HB.out.trans (hb.mono HB.out.size))
        clear hc hb
        go_wp2_with fail
        have hc := kind_any l (some x) cap w3 (lat_keep HL.out HB3.out).reads HL.out.bytes
        rw [HLN.out.1, K5.out] at hc
        refine hc.mono ?_
        rintro e w4 ⟨rfl, hb⟩
        have HB4 := Lib.hid (HB3.out.trans (hb.mono HB3.out.size))
        clear hc hb
        go_wp2_with fail
        refine (alive_any _).mono ?_
        rintro e w9 ⟨rfl, hb9⟩
        have HB9 := Lib.hid (HB4.out.trans (hb9.mono HB4.out.size))
        clear hb9
        go_wp2_with fail
        go_ret
        exact ⟨rfl, HB9.out⟩
      · by_cases k4 : kindI l = 4
        · have hc := codes_over l (some x) cap W HL.out.reads HL.out.bytes k4
          rw [HLN.out.1] at hc
          refine hc.mono ?_
          rintro e w2 ⟨rfl, hb⟩
          have HB := Lib.hid hb
          have K5 := Lib.hid k4
          clear hc hb k4 k5
          go_wp2_with fail
          have hc := kind_any l (some x) cap w2 (lat_keep HL.out HB.out).reads HL.out.bytes
          rw [HLN.out.1, K5.out] at hc
          refine hc.mono ?_
          rintro e w3 ⟨rfl, hb⟩
          have HB3 := Lib.hid (HB.out.trans (hb.mono HB.out.size))
          clear hc hb
          go_wp2_with fail
          refine (alive_any _).mono ?_
          rintro e w9 ⟨rfl, hb9⟩
          have HB9 := Lib.hid (HB3.out.trans (hb9.mono HB3.out.size))
          clear hb9
          go_wp2_with fail
          go_ret
          exact ⟨rfl, HB9.out⟩
        · have HK := Lib.hid (kind_of_ok l k5 k4)
          have hc := codes_ok l (some x) cap W HL.out.reads HL.out.bytes k5 k4
          rw [HLN.out.1] at hc
          refine hc.mono ?_
          rintro e w2 ⟨B, hB, rfl, hrow, hb⟩
          have HB2 := Lib.hid hb
          have HROW := Lib.hid hrow
          have HL2 := Lib.hid (HL.out.below hb)
          rw [HLN.out.1]
          clear hc hb hrow k4 k5 hB
          go_wp2_with fail
          go_loopg [5] len (fun f s5 wx => ∃ i : Nat, s5 = .int .i64 (i : Int) ∧ Hid (i + f = len) ∧ Hid (Below w2.heap.size w2 wx))
          case atStart => exact ⟨0, rfl, Lib.hid (Nat.zero_add _), Lib.hid (Below.refl _ _)⟩
          case round =>
            obtain ⟨i, rfl, HI, HW⟩ := hrel
            cases gk with
            | zero =>
              obtain rfl : i = len := HI.out
              obtain ⟨i1, i2⟩ := nt_ge (Nat.lt_irrefl i)
              go_wp2_with fail
              refine (alive_any _).mono ?_
              rintro e w9 ⟨rfl, hb9⟩
              have HB9 := Lib.hid (HW.out.trans (hb9.mono HW.out.size))
              clear hb9
              go_wp2_with fail
              go_ret
              exact ⟨rfl, HB2.out.trans (HB9.out.mono HB2.out.size)⟩
            | succ f =>
              have hi : i < len := nt_nl HI.out
              obtain ⟨i1, i2⟩ := nt_lt hi
              have n0 : (0 : Int) ≤ (i : Int) := Int.natCast_nonneg i
              have n1 : (i : Int) < (len : Int) := Int.ofNat_lt.2 hi
              have ei := nt_up hi (Nat.lt_of_le_of_lt HLN.out.2 (by decide))
              go_wp2_with fail
              have HWD := Lib.hid HW.out.drew
              obtain ⟨p, n, hcn, c0, c1, c2⟩ := code_mem (HL2.out.below HWD.out) (row_keep HROW.out HWD.out) HK.out (show i < l.length by rw [HLN.out.1]; exact hi)
              have HCN := Lib.hid hcn
              clear hcn
              by_cases hn0 : n = 0
              · obtain rfl := hn0
                obtain rfl : p = 0 := by have h := HCN.out.2.2.2.1; simp at h; exact h
                rw [Int.natCast_zero] at c0 c1 c2
                have hHeld : wr.drew.cell? (x.add i) = some (.int .u8 0) ∧ wr.drew.cell? ⟨B, i * 2, none⟩ = some (.int .u32 0) ∧ wr.drew.cell? ⟨B, i * 2 + 1, none⟩ = some (.int .u8 0) := ⟨c0, c1, c2⟩
                clear c0 c1 c2
                refine wp_region_T (fun w' => w'.cell? (x.add i) = some (.int .u8 0) ∧ w'.cell? ⟨B, i * 2, none⟩ = some (.int .u32 0) ∧ w'.cell? ⟨B, i * 2 + 1, none⟩ = some (.int .u8 0)) [.take 0, .take 1, .take 2, .take 3, .take 4, .take 5, .take 6, .take 7, .take 8, .take 9, .take 10, .take 11, .take 12, .take 13, .take 14, .take 15, .take 16, .take 17, .take 18, .take 19, .take 20, .take 21, .take 22, .take 23, .take 24, .take 25, .take 26, .take 27, .take 28, .take 29, .take 30, .take 31, .take 32, .take 33, .take 34, .take 35, .take 36, .take 37, .take 38, .take 39, .take 40, .take 41, .take 42, .take 43, .take 44, .take 45, .take 46, .take 47, .take 48, .take 49, .take 50, .take 51, .take 52] (by kernel_rfl) (by kernel_rfl) (fun _ _ _ _ _ h => h) hHeld ?_
                refine T_light (a' := ?_) 45 rfl rfl rfl (of_decide_eq_true rfl) rfl hHeld (fun wq hSq K Q hK => ?_) ?_
                rotate_left
                · (go_step; exact hK)
                refine T_light (a' := ?_) 46 rfl rfl rfl (of_decide_eq_true rfl) rfl hHeld (fun wq hSq K Q hK => ?_) ?_
                rotate_left
                · (go_step; exact hK)
                refine T_light (a' := ?_) 47 rfl rfl rfl (of_decide_eq_true rfl) rfl hHeld (fun wq hSq K Q hK => ?_) ?_
                rotate_left
                · (go_step; exact hK)
                refine T_light (a' := ?_) 48 rfl rfl rfl (of_decide_eq_true rfl) rfl hHeld (fun wq hSq K Q hK => ?_) ?_
                rotate_left
                · (go_step; exact hK)
                refine T_light (a' := ?_) 49 rfl rfl rfl (of_decide_eq_true rfl) rfl hHeld (fun wq hSq K Q hK => ?_) ?_
                rotate_left
                · ((obtain ⟨_, _, r1⟩ := hSq; go_step); exact hK)
                refine T_light (a' := ?_) 50 rfl rfl rfl (of_decide_eq_true rfl) rfl hHeld (fun wq hSq K Q hK => ?_) ?_
                rotate_left
                · (go_step; exact hK)
                refine T_light (a' := ?_) 51 rfl rfl rfl (of_decide_eq_true rfl) rfl hHeld (fun wq hSq K Q hK => ?_) ?_
                rotate_left
                · (go_step; exact hK)
                refine T_light (a' := ?_) 52 rfl rfl rfl (of_decide_eq_true rfl) rfl hHeld (fun wq hSq K Q hK => ?_) ?_
                rotate_left
                · (go_step; exact hK)
                refine T_light (a' := ?_) 53 rfl rfl rfl (of_decide_eq_true rfl) rfl hHeld (fun wq hSq K Q hK => ?_) ?_
                rotate_left
                · ((obtain ⟨r1, _, _⟩ := hSq; go_step); exact hK)
                refine T_light (a' := ?_) 54 rfl rfl rfl (of_decide_eq_true rfl) rfl hHeld (fun wq hSq K Q hK => ?_) ?_
                rotate_left
                · (go_step; exact hK)
                refine T_light (a' := ?_) 55 rfl rfl rfl (of_decide_eq_true rfl) rfl hHeld (fun wq hSq K Q hK => ?_) ?_
                rotate_left
                · (go_step; exact hK)
                refine T_light (a' := ?_) 56 rfl rfl rfl (of_decide_eq_true rfl) rfl hHeld (fun wq hSq K Q hK => ?_) ?_
                rotate_left
                · (go_step; exact hK)
                refine T_light (a' := ?_) 57 rfl rfl rfl (of_decide_eq_true rfl) rfl hHeld (fun wq hSq K Q hK => ?_) ?_
                rotate_left
                · (go_step; exact hK)
                refine T_light (a' := ?_) 58 rfl rfl rfl (of_decide_eq_true rfl) rfl hHeld (fun wq hSq K Q hK => ?_) ?_
                rotate_left
                · (go_step; exact hK)
                refine T_light (a' := ?_) 59 rfl rfl rfl (of_decide_eq_true rfl) rfl hHeld (fun wq hSq K Q hK => ?_) ?_
                rotate_left
                · ((obtain ⟨r1, _, _⟩ := hSq; go_step); exact hK)
                refine T_light (a' := ?_) 60 rfl rfl rfl (of_decide_eq_true rfl) rfl hHeld (fun wq hSq K Q hK => ?_) ?_
                rotate_left
                · (go_step; exact hK)
                refine T_light (a' := ?_) 61 rfl rfl rfl (of_decide_eq_true rfl) rfl hHeld (fun wq hSq K Q hK => ?_) ?_
                rotate_left
                · (go_step; exact hK)
                refine T_light (a' := ?_) 62 rfl rfl rfl (of_decide_eq_true rfl) rfl hHeld (fun wq hSq K Q hK => ?_) ?_
                rotate_left
                · (go_step; exact hK)
                refine T_light (a' := ?_) 63 rfl rfl rfl (of_decide_eq_true rfl) rfl hHeld (fun wq hSq K Q hK => ?_) ?_
                rotate_left
                · (go_step; exact hK)
                refine T_light (a' := ?_) 64 rfl rfl rfl (of_decide_eq_true rfl) rfl hHeld (fun wq hSq K Q hK => ?_) ?_
                rotate_left
                · (go_step; exact hK)
                refine T_light (a' := ?_) 65 rfl rfl rfl (of_decide_eq_true rfl) rfl hHeld (fun wq hSq K Q hK => ?_) ?_
                rotate_left
                · (go_step; exact hK)
                refine T_light (a' := ?_) 66 rfl rfl rfl (of_decide_eq_true rfl) rfl hHeld (fun wq hSq K Q hK => ?_) ?_
                rotate_left
                · ((obtain ⟨r1, _, _⟩ := hSq; go_step); exact hK)
                refine T_light (a' := ?_) 67 rfl rfl rfl (of_decide_eq_true rfl) rfl hHeld (fun wq hSq K Q hK => ?_) ?_
                rotate_left
                · (go_step; exact hK)
                refine T_light (a' := ?_) 68 rfl rfl rfl (of_decide_eq_true rfl) rfl hHeld (fun wq hSq K Q hK => ?_) ?_
                rotate_left
                · (go_step; exact hK)
                refine T_pass2 (a' := ?_) 69 rfl rfl (by kernel_rfl) (fun K hK => ?_) ?_
                rotate_left
                · (simp only [Act.put, List.setIfInBounds_toArray, List.set_cons_zero, List.set_cons_succ]; exact hK)
                refine T_pass2 (a' := ?_) 70 rfl rfl (by kernel_rfl) (fun K hK => ?_) ?_
                rotate_left
                · (simp only [Act.put, List.setIfInBounds_toArray, List.set_cons_zero, List.set_cons_succ]; exact hK)
                refine T_pass2 (a' := ?_) 71 rfl rfl (by kernel_rfl) (fun K hK => ?_) ?_
                rotate_left
                · (simp only [Act.put, List.setIfInBounds_toArray, List.set_cons_zero, List.set_cons_succ]; exact hK)
                refine T_pass2 (a' := ?_) 72 rfl rfl (by kernel_rfl) (fun K hK => ?_) ?_
                rotate_left
                · (simp only [Act.put, List.setIfInBounds_toArray, List.set_cons_zero, List.set_cons_succ]; exact hK)
                refine T_pass2 (a' := ?_) 73 rfl rfl (by kernel_rfl) (fun K hK => ?_) ?_
                rotate_left
                · (simp only [Act.put, List.setIfInBounds_toArray, List.set_cons_zero, List.set_cons_succ]; exact hK)
                refine T_pass2 (a' := ?_) 74 rfl rfl (by kernel_rfl) (fun K hK => ?_) ?_
                rotate_left
                · (simp only [Act.put, List.setIfInBounds_toArray, List.set_cons_zero, List.set_cons_succ]; exact hK)
                refine T_pass2 (a' := ?_) 75 rfl rfl (by kernel_rfl) (fun K hK => ?_) ?_
                rotate_left
                · (simp only [Act.put, List.setIfInBounds_toArray, List.set_cons_zero, List.set_cons_succ]; exact hK)
                refine T_pass2 (a' := ?_) 76 rfl rfl (by kernel_rfl) (fun K hK => ?_) ?_
                rotate_left
                · (simp only [Act.put, List.setIfInBounds_toArray, List.set_cons_zero, List.set_cons_succ]; exact hK)
                refine T_pass2 (a' := ?_) 77 rfl rfl (by kernel_rfl) (fun K hK => ?_) ?_
                rotate_left
                · (simp only [Act.put, List.setIfInBounds_toArray, List.set_cons_zero, List.set_cons_succ]; exact hK)
                refine T_pass2 (a' := ?_) 78 rfl rfl (by kernel_rfl) (fun K hK => ?_) ?_
                rotate_left
                · (simp only [Act.put, List.setIfInBounds_toArray, List.set_cons_zero, List.set_cons_succ]; exact hK)
                refine T_pass2 (a' := ?_) 79 rfl rfl (by kernel_rfl) (fun K hK => ?_) ?_
                rotate_left
                · (simp only [Act.put, List.setIfInBounds_toArray, List.set_cons_zero, List.set_cons_succ]; exact hK)
                refine T_pass2 (a' := ?_) 80 rfl rfl (by kernel_rfl) (fun K hK => ?_) ?_
                rotate_left
                · (simp only [Act.put, List.setIfInBounds_toArray, List.set_cons_zero, List.set_cons_succ]; exact hK)
                refine T_light (a' := ?_) 81 rfl rfl rfl (of_decide_eq_true rfl) rfl hHeld (fun wq hSq K Q hK => ?_) ?_
                rotate_left
                · (go_step; exact hK)
                refine T_light (a' := ?_) 82 rfl rfl rfl (of_decide_eq_true rfl) rfl hHeld (fun wq hSq K Q hK => ?_) ?_
                rotate_left
                · (go_step; exact hK)
                refine T_light (a' := ?_) 83 rfl rfl rfl (of_decide_eq_true rfl) rfl hHeld (fun wq hSq K Q hK => ?_) ?_
                rotate_left
                · (go_step; exact hK)
                refine T_light (a' := ?_) 84 rfl rfl rfl (of_decide_eq_true rfl) rfl hHeld (fun wq hSq K Q hK => ?_) ?_
                rotate_left
                · (go_step; exact hK)
                refine T_light (a' := ?_) 85 rfl rfl rfl (of_decide_eq_true rfl) rfl hHeld (fun wq hSq K Q hK => ?_) ?_
                rotate_left
                · (go_step; exact hK)
                refine T_light (a' := ?_) 86 rfl rfl rfl (of_decide_eq_true rfl) rfl hHeld (fun wq hSq K Q hK => ?_) ?_
                rotate_left
                · (go_step; exact hK)
                refine T_light (a' := ?_) 87 rfl rfl rfl (of_decide_eq_true rfl) rfl hHeld (fun wq hSq K Q hK => ?_) ?_
                rotate_left
                · ((obtain ⟨r1, _, _⟩ := hSq; go_step); exact hK)
                refine T_light (a' := ?_) 88 rfl rfl rfl (of_decide_eq_true rfl) rfl hHeld (fun wq hSq K Q hK => ?_) ?_
                rotate_left
                · (go_step; exact hK)
                refine T_light (a' := ?_) 89 rfl rfl rfl (of_decide_eq_true rfl) rfl hHeld (fun wq hSq K Q hK => ?_) ?_
                rotate_left
                · (go_step; exact hK)
                refine T_light (a' := ?_) 90 rfl rfl rfl (of_decide_eq_true rfl) rfl hHeld (fun wq hSq K Q hK => ?_) ?_
                rotate_left
                · (go_step; exact hK)
                refine T_light (a' := ?_) 91 rfl rfl rfl (of_decide_eq_true rfl) rfl hHeld (fun wq hSq K Q hK => ?_) ?_
                rotate_left
                · (go_step; exact hK)
                refine T_light (a' := ?_) 92 rfl rfl rfl (of_decide_eq_true rfl) rfl hHeld (fun wq hSq K Q hK => ?_) ?_
                rotate_left
                · (go_step; exact hK)
                refine T_light (a' := ?_) 93 rfl rfl rfl (of_decide_eq_true rfl) rfl hHeld (fun wq hSq K Q hK => ?_) ?_
                rotate_left
                · (go_step; exact hK)
                refine T_light (a' := ?_) 94 rfl rfl rfl (of_decide_eq_true rfl) rfl hHeld (fun wq hSq K Q hK => ?_) ?_
                rotate_left
                · ((obtain ⟨_, r1, _⟩ := hSq; go_step); exact hK)
                refine T_light (a' := ?_) 95 rfl rfl rfl (of_decide_eq_true rfl) rfl hHeld (fun wq hSq K Q hK => ?_) ?_
                rotate_left
                · (go_step; exact hK)
                refine T_light (a' := ?_) 96 rfl rfl rfl (of_decide_eq_true rfl) rfl hHeld (fun wq hSq K Q hK => ?_) ?_
                rotate_left
                · (go_step; exact hK)
                refine T_light (a' := ?_) 97 rfl rfl rfl (of_decide_eq_true rfl) rfl hHeld (fun wq hSq K Q hK => ?_) ?_
                rotate_left
                · (go_step; exact hK)
                refine T_done ?_
                clear hHeld
                go_wp2_with fail
                go_loopg [6] len (fun g s6 wx => ∃ k : Nat, s6 = .int .i64 (k : Int) ∧ Hid (k + g = len) ∧ Hid (Below w2.heap.size w2 wx))
                case atStart => exact ⟨0, rfl, Lib.hid (Nat.zero_add _), by first | exact HWD | exact Lib.hid HWD.out.drew⟩
                case round =>
                  obtain ⟨k, rfl, HI2, HW2⟩ := hrel
                  cases gk with
                  | zero =>
                    obtain rfl : k = len := HI2.out
                    obtain ⟨j1, j2⟩ := nt_ge (Nat.lt_irrefl k)
                    go_wp2_with fail
                    go_roundg f
                    case measure => exact Nat.lt_succ_self f
                    case rel => exact ⟨i + 1, by rw [ei], Lib.hid (nt_nx HI.out), by first | exact HW2 | exact Lib.hid HW2.out.drew⟩
                  | succ g =>
                    have hk : k < len := nt_nl HI2.out
                    obtain ⟨j1, j2⟩ := nt_lt hk
                    have n2 : (0 : Int) ≤ (k : Int) := Int.natCast_nonneg k
                    have n3 : (k : Int) < (len : Int) := Int.ofNat_lt.2 hk
                    have ek := nt_up hk (Nat.lt_of_le_of_lt HLN.out.2 (by decide))
                    by_cases hki : k = i
                    · obtain ⟨l1, l2⟩ := nt_eq hki
                      clear hki
                      go_wp2_with fail
                      go_roundg g
                      case measure => exact Nat.lt_succ_self g
                      case rel => exact ⟨k + 1, by rw [ek], Lib.hid (nt_nx HI2.out), by first | exact HW2 | exact Lib.hid HW2.out.drew⟩
                    · obtain ⟨l1, l2⟩ := nt_ne hki
                      clear hki
                      have c0 := (code_mem_at (HL2.out.below HW2.out) HROW.out HW2.out HK.out HLN.out.1 hi HCN.out).1
                      rw [Int.natCast_zero] at c0
                      go_wp2_with fail
                      go_roundg g
                      case measure => exact Nat.lt_succ_self g
                      case rel => exact ⟨k + 1, by rw [ek], Lib.hid (nt_nx HI2.out), by first | exact HW2 | exact Lib.hid HW2.out.drew⟩
              · obtain ⟨e15, e15', e00, e00'⟩ := nt_15 HCN.out.2.2.1 hn0
                have esh := nt_sh HCN.out.2.2.1 HCN.out.2.2.2.1
                obtain ⟨ez, ez'⟩ := nt_z hn0
                have hHeld : wr.drew.cell? (x.add i) = some (.int .u8 (n : Nat)) ∧ wr.drew.cell? ⟨B, i * 2, none⟩ = some (.int .u32 (p : Nat)) ∧ wr.drew.cell? ⟨B, i * 2 + 1, none⟩ = some (.int .u8 (n : Nat)) := ⟨c0, c1, c2⟩
                clear c0 c1 c2
                refine wp_region_T (fun w' => w'.cell? (x.add i) = some (.int .u8 (n : Nat)) ∧ w'.cell? ⟨B, i * 2, none⟩ = some (.int .u32 (p : Nat)) ∧ w'.cell? ⟨B, i * 2 + 1, none⟩ = some (.int .u8 (n : Nat))) [.take 0, .take 1, .take 2, .take 3, .take 4, .take 5, .take 6, .take 7, .take 8, .take 9, .take 10, .take 11, .take 12, .take 13, .take 14, .take 15, .take 16, .take 17, .take 18, .take 19, .take 20, .take 21, .take 22, .take 23, .take 24, .take 25, .take 26, .take 27, .take 28, .take 29, .take 30, .take 31, .take 32, .take 33, .take 34, .take 35, .take 36, .take 37, .take 38, .take 39, .take 40, .take 41, .take 42, .take 43, .take 44, .take 45, .take 46, .take 47, .take 48, .take 49, .take 50, .take 51, .take 52] (by kernel_rfl) (by kernel_rfl) (fun _ _ _ _ _ h => h) hHeld ?_
                refine T_light (a' := ?_) 45 rfl rfl rfl (of_decide_eq_true rfl) rfl hHeld (fun wq hSq K Q hK => ?_) ?_
                rotate_left
                · (go_step; exact hK)
                refine T_light (a' := ?_) 46 rfl rfl rfl (of_decide_eq_true rfl) rfl hHeld (fun wq hSq K Q hK => ?_) ?_
                rotate_left
                · (go_step; exact hK)
                refine T_light (a' := ?_) 47 rfl rfl rfl (of_decide_eq_true rfl) rfl hHeld (fun wq hSq K Q hK => ?_) ?_
                rotate_left
                · (go_step; exact hK)
                refine T_light (a' := ?_) 48 rfl rfl rfl (of_decide_eq_true rfl) rfl hHeld (fun wq hSq K Q hK => ?_) ?_
                rotate_left
                · (go_step; exact hK)
                refine T_light (a' := ?_) 49 rfl rfl rfl (of_decide_eq_true rfl) rfl hHeld (fun wq hSq K Q hK => ?_) ?_
                rotate_left
                · ((obtain ⟨_, _, r1⟩ := hSq; go_step); exact hK)
                refine T_light (a' := ?_) 50 rfl rfl rfl (of_decide_eq_true rfl) rfl hHeld (fun wq hSq K Q hK => ?_) ?_
                rotate_left
                · (go_step; exact hK)
                refine T_light (a' := ?_) 51 rfl rfl rfl (of_decide_eq_true rfl) rfl hHeld (fun wq hSq K Q hK => ?_) ?_
                rotate_left
                · (go_step; exact hK)
                refine T_light (a' := ?_) 52 rfl rfl rfl (of_decide_eq_true rfl) rfl hHeld (fun wq hSq K Q hK => ?_) ?_
                rotate_left
                · (go_step; exact hK)
                refine T_light (a' := ?_) 53 rfl rfl rfl (of_decide_eq_true rfl) rfl hHeld (fun wq hSq K Q hK => ?_) ?_
                rotate_left
                · ((obtain ⟨r1, _, _⟩ := hSq; go_step); exact hK)
                refine T_light (a' := ?_) 54 rfl rfl rfl (of_decide_eq_true rfl) rfl hHeld (fun wq hSq K Q hK => ?_) ?_
                rotate_left
                · (go_step; exact hK)
                refine T_light (a' := ?_) 55 rfl rfl rfl (of_decide_eq_true rfl) rfl hHeld (fun wq hSq K Q hK => ?_) ?_
                rotate_left
                · (go_step; exact hK)
                refine T_light (a' := ?_) 56 rfl rfl rfl (of_decide_eq_true rfl) rfl hHeld (fun wq hSq K Q hK => ?_) ?_
                rotate_left
                · (go_step; exact hK)
                refine T_light (a' := ?_) 57 rfl rfl rfl (of_decide_eq_true rfl) rfl hHeld (fun wq hSq K Q hK => ?_) ?_
                rotate_left
                · (go_step; exact hK)
                refine T_light (a' := ?_) 58 rfl rfl rfl (of_decide_eq_true rfl) rfl hHeld (fun wq hSq K Q hK => ?_) ?_
                rotate_left
                · (go_step; exact hK)
                refine T_light (a' := ?_) 59 rfl rfl rfl (of_decide_eq_true rfl) rfl hHeld (fun wq hSq K Q hK => ?_) ?_
                rotate_left
                · ((obtain ⟨r1, _, _⟩ := hSq; go_step); exact hK)
                refine T_light (a' := ?_) 60 rfl rfl rfl (of_decide_eq_true rfl) rfl hHeld (fun wq hSq K Q hK => ?_) ?_
                rotate_left
                · (go_step; exact hK)
                refine T_light (a' := ?_) 61 rfl rfl rfl (of_decide_eq_true rfl) rfl hHeld (fun wq hSq K Q hK => ?_) ?_
                rotate_left
                · (go_step; exact hK)
                refine T_light (a' := ?_) 62 rfl rfl rfl (of_decide_eq_true rfl) rfl hHeld (fun wq hSq K Q hK => ?_) ?_
                rotate_left
                · (go_step; exact hK)
                refine T_light (a' := ?_) 63 rfl rfl rfl (of_decide_eq_true rfl) rfl hHeld (fun wq hSq K Q hK => ?_) ?_
                rotate_left
                · (go_step; exact hK)
                refine T_light (a' := ?_) 64 rfl rfl rfl (of_decide_eq_true rfl) rfl hHeld (fun wq hSq K Q hK => ?_) ?_
                rotate_left
                · (go_step; exact hK)
                refine T_light (a' := ?_) 65 rfl rfl rfl (of_decide_eq_true rfl) rfl hHeld (fun wq hSq K Q hK => ?_) ?_
                rotate_left
                · (go_step; exact hK)
                refine T_light (a' := ?_) 66 rfl rfl rfl (of_decide_eq_true rfl) rfl hHeld (fun wq hSq K Q hK => ?_) ?_
                rotate_left
                · ((obtain ⟨r1, _, _⟩ := hSq; go_step); exact hK)
                refine T_light (a' := ?_) 67 rfl rfl rfl (of_decide_eq_true rfl) rfl hHeld (fun wq hSq K Q hK => ?_) ?_
                rotate_left
                · (go_step; exact hK)
                refine T_light (a' := ?_) 68 rfl rfl rfl (of_decide_eq_true rfl) rfl hHeld (fun wq hSq K Q hK => ?_) ?_
                rotate_left
                · (go_step; exact hK)
                refine T_light (a' := ?_) 69 rfl rfl rfl (of_decide_eq_true rfl) rfl hHeld (fun wq hSq K Q hK => ?_) ?_
                rotate_left
                · (go_step; exact hK)
                refine T_light (a' := ?_) 70 rfl rfl rfl (of_decide_eq_true rfl) rfl hHeld (fun wq hSq K Q hK => ?_) ?_
                rotate_left
                · (go_step; exact hK)
                refine T_light (a' := ?_) 71 rfl rfl rfl (of_decide_eq_true rfl) rfl hHeld (fun wq hSq K Q hK => ?_) ?_
                rotate_left
                · (go_step; exact hK)
                refine T_light (a' := ?_) 72 rfl rfl rfl (of_decide_eq_true rfl) rfl hHeld (fun wq hSq K Q hK => ?_) ?_
                rotate_left
                · (go_step; exact hK)
                refine T_light (a' := ?_) 73 rfl rfl rfl (of_decide_eq_true rfl) rfl hHeld (fun wq hSq K Q hK => ?_) ?_
                rotate_left
                · ((obtain ⟨_, r1, _⟩ := hSq; go_step); exact hK)
                refine T_light (a' := ?_) 74 rfl rfl rfl (of_decide_eq_true rfl) rfl hHeld (fun wq hSq K Q hK => ?_) ?_
                rotate_left
                · (go_step; exact hK)
                refine T_light (a' := ?_) 75 rfl rfl rfl (of_decide_eq_true rfl) rfl hHeld (fun wq hSq K Q hK => ?_) ?_
                rotate_left
                · (go_step; exact hK)
                refine T_light (a' := ?_) 76 rfl rfl rfl (of_decide_eq_true rfl) rfl hHeld (fun wq hSq K Q hK => ?_) ?_
                rotate_left
                · (go_step; exact hK)
                refine T_light (a' := ?_) 77 rfl rfl rfl (of_decide_eq_true rfl) rfl hHeld (fun wq hSq K Q hK => ?_) ?_
                rotate_left
                · ((obtain ⟨r1, _, _⟩ := hSq; go_step); exact hK)
                refine T_light (a' := ?_) 78 rfl rfl rfl (of_decide_eq_true rfl) rfl hHeld (fun wq hSq K Q hK => ?_) ?_
                rotate_left
                · (go_step; exact hK)
                refine T_light (a' := ?_) 79 rfl rfl rfl (of_decide_eq_true rfl) rfl hHeld (fun wq hSq K Q hK => ?_) ?_
                rotate_left
                · (go_step; exact hK)
                refine T_light (a' := ?_) 80 rfl rfl rfl (of_decide_eq_true rfl) rfl hHeld (fun wq hSq K Q hK => ?_) ?_
                rotate_left
                · (go_step; exact hK)
                refine T_light (a' := ?_) 81 rfl rfl rfl (of_decide_eq_true rfl) rfl hHeld (fun wq hSq K Q hK => ?_) ?_
                rotate_left
                · (go_step; exact hK)
                refine T_light (a' := ?_) 82 rfl rfl rfl (of_decide_eq_true rfl) rfl hHeld (fun wq hSq K Q hK => ?_) ?_
                rotate_left
                · (go_step; exact hK)
                refine T_light (a' := ?_) 83 rfl rfl rfl (of_decide_eq_true rfl) rfl hHeld (fun wq hSq K Q hK => ?_) ?_
                rotate_left
                · (go_step; exact hK)
                refine T_light (a' := ?_) 84 rfl rfl rfl (of_decide_eq_true rfl) rfl hHeld (fun wq hSq K Q hK => ?_) ?_
                rotate_left
                · (go_step; exact hK)
                refine T_light (a' := ?_) 85 rfl rfl rfl (of_decide_eq_true rfl) rfl hHeld (fun wq hSq K Q hK => ?_) ?_
                rotate_left
                · (go_step; exact hK)
                refine T_light (a' := ?_) 86 rfl rfl rfl (of_decide_eq_true rfl) rfl hHeld (fun wq hSq K Q hK => ?_) ?_
                rotate_left
                · (go_step; exact hK)
                refine T_light (a' := ?_) 87 rfl rfl rfl (of_decide_eq_true rfl) rfl hHeld (fun wq hSq K Q hK => ?_) ?_
                rotate_left
                · ((obtain ⟨r1, _, _⟩ := hSq; go_step); exact hK)
                refine T_light (a' := ?_) 88 rfl rfl rfl (of_decide_eq_true rfl) rfl hHeld (fun wq hSq K Q hK => ?_) ?_
                rotate_left
                · (go_step; exact hK)
                refine T_light (a' := ?_) 89 rfl rfl rfl (of_decide_eq_true rfl) rfl hHeld (fun wq hSq K Q hK => ?_) ?_
                rotate_left
                · (go_step; exact hK)
                refine T_pass2 (a' := ?_) 90 rfl rfl (by kernel_rfl) (fun K hK => ?_) ?_
                rotate_left
                · (simp only [Act.put, List.setIfInBounds_toArray, List.set_cons_zero, List.set_cons_succ]; exact hK)
                refine T_pass2 (a' := ?_) 91 rfl rfl (by kernel_rfl) (fun K hK => ?_) ?_
                rotate_left
                · (simp only [Act.put, List.setIfInBounds_toArray, List.set_cons_zero, List.set_cons_succ]; exact hK)
                refine T_pass2 (a' := ?_) 92 rfl rfl (by kernel_rfl) (fun K hK => ?_) ?_
                rotate_left
                · (simp only [Act.put, List.setIfInBounds_toArray, List.set_cons_zero, List.set_cons_succ]; exact hK)
                refine T_pass2 (a' := ?_) 93 rfl rfl (by kernel_rfl) (fun K hK => ?_) ?_
                rotate_left
                · (simp only [Act.put, List.setIfInBounds_toArray, List.set_cons_zero, List.set_cons_succ]; exact hK)
                refine T_pass2 (a' := ?_) 94 rfl rfl (by kernel_rfl) (fun K hK => ?_) ?_
                rotate_left
                · (simp only [Act.put, List.setIfInBounds_toArray, List.set_cons_zero, List.set_cons_succ]; exact hK)
                refine T_pass2 (a' := ?_) 95 rfl rfl (by kernel_rfl) (fun K hK => ?_) ?_
                rotate_left
                · (simp only [Act.put, List.setIfInBounds_toArray, List.set_cons_zero, List.set_cons_succ]; exact hK)
                refine T_light (a' := ?_) 96 rfl rfl rfl (of_decide_eq_true rfl) rfl hHeld (fun wq hSq K Q hK => ?_) ?_
                rotate_left
                · (go_step; exact hK)
                refine T_light (a' := ?_) 97 rfl rfl rfl (of_decide_eq_true rfl) rfl hHeld (fun wq hSq K Q hK => ?_) ?_
                rotate_left
                · (go_step; exact hK)
                refine T_done ?_
                clear hHeld
                go_wp2_with fail
                go_loopg [6] len (fun g s6 wx => ∃ k : Nat, s6 = .int .i64 (k : Int) ∧ Hid (k + g = len) ∧ Hid (Below w2.heap.size w2 wx))
                case atStart => exact ⟨0, rfl, Lib.hid (Nat.zero_add _), by first | exact HWD | exact Lib.hid HWD.out.drew⟩
                case round =>
                  obtain ⟨k, rfl, HI2, HW2⟩ := hrel
                  cases gk with
                  | zero =>
                    obtain rfl : k = len := HI2.out
                    obtain ⟨j1, j2⟩ := nt_ge (Nat.lt_irrefl k)
                    go_wp2_with fail
                    go_roundg f
                    case measure => exact Nat.lt_succ_self f
                    case rel => exact ⟨i + 1, by rw [ei], Lib.hid (nt_nx HI.out), by first | exact HW2 | exact Lib.hid HW2.out.drew⟩
                  | succ g =>
                    have hk : k < len := nt_nl HI2.out
                    obtain ⟨j1, j2⟩ := nt_lt hk
                    have n2 : (0 : Int) ≤ (k : Int) := Int.natCast_nonneg k
                    have n3 : (k : Int) < (len : Int) := Int.ofNat_lt.2 hk
                    have ek := nt_up hk (Nat.lt_of_le_of_lt HLN.out.2 (by decide))
                    by_cases hki : k = i
                    · obtain ⟨l1, l2⟩ := nt_eq hki
                      clear hki
                      go_wp2_with fail
                      go_roundg g
                      case measure => exact Nat.lt_succ_self g
                      case rel => exact ⟨k + 1, by rw [ek], Lib.hid (nt_nx HI2.out), by first | exact HW2 | exact Lib.hid HW2.out.drew⟩
                    · obtain ⟨l1, l2⟩ := nt_ne hki
                      have HKI := Lib.hid hki
                      clear hki
                      obtain ⟨c0, c1, c2⟩ := code_mem_at (HL2.out.below HW2.out) HROW.out HW2.out HK.out HLN.out.1 hi HCN.out
                      obtain ⟨q, m, hcm, b0, b1, b2⟩ := code_mem (HL2.out.below HW2.out) (row_keep HROW.out HW2.out) HK.out (show k < l.length by rw [HLN.out.1]; exact hk)
                      have HCM := Lib.hid hcm
                      clear hcm
                      by_cases hm0 : m = 0
                      · obtain rfl := hm0
                        rw [Int.natCast_zero] at b0
                        go_wp2_with fail
                        go_roundg g
                        case measure => exact Nat.lt_succ_self g
                        case rel => exact ⟨k + 1, by rw [ek], Lib.hid (nt_nx HI2.out), by first | exact HW2 | exact Lib.hid HW2.out.drew⟩
                      · obtain ⟨ey, ey'⟩ := nt_z hm0
                        go_wp2_with fail
                        have HP := Lib.hid (pair_law l HLN.out.1 hi hk HKI.out HCN.out HCM.out hn0 hm0)
                        have HCELL : Hid ((wr.drew.cell? (x.add i) = some (.int .u8 (n : Nat)) ∧ wr.drew.cell? (x.add k) = some (.int .u8 (m : Nat)) ∧ wr.drew.cell? ⟨B, i * 2, none⟩ = some (.int .u32 (p : Nat)) ∧ wr.drew.cell? ⟨B, i * 2 + 1, none⟩ = some (.int .u8 (n : Nat)) ∧ wr.drew.cell? ⟨B, k * 2, none⟩ = some (.int .u32 (q : Nat)) ∧ wr.drew.cell? ⟨B, k * 2 + 1, none⟩ = some (.int .u8 (m : Nat)))) := Lib.hid ⟨c0, b0, c1, c2, b1, b2⟩
                        have HW2D := Lib.hid HW2.out.drew
                        clear c0 b0 c1 c2 b1 b2
                        have hHeld : (wr.drew.cell? (x.add i) = some (.int .u8 (n : Nat)) ∧ wr.drew.cell? (x.add k) = some (.int .u8 (m : Nat)) ∧ wr.drew.cell? ⟨B, i * 2, none⟩ = some (.int .u32 (p : Nat)) ∧ wr.drew.cell? ⟨B, i * 2 + 1, none⟩ = some (.int .u8 (n : Nat)) ∧ wr.drew.cell? ⟨B, k * 2, none⟩ = some (.int .u32 (q : Nat)) ∧ wr.drew.cell? ⟨B, k * 2 + 1, none⟩ = some (.int .u8 (m : Nat))) := HCELL.out
                        rcases Nat.lt_trichotomy n m with hnm | hnm | hnm
                        · obtain ⟨f1, f2⟩ := nt_ne (Nat.ne_of_lt hnm)
                          obtain ⟨f3, f4⟩ := nt_lt hnm
                          obtain ⟨d, f5, f6⟩ := nt_sub HCM.out.2.2.1 hnm (HP.out.2.1 hnm)
                          clear hnm
                          refine wp_region_T (fun w' => w'.cell? (x.add i) = some (.int .u8 (n : Nat)) ∧ w'.cell? (x.add k) = some (.int .u8 (m : Nat)) ∧ w'.cell? ⟨B, i * 2, none⟩ = some (.int .u32 (p : Nat)) ∧ w'.cell? ⟨B, i * 2 + 1, none⟩ = some (.int .u8 (n : Nat)) ∧ w'.cell? ⟨B, k * 2, none⟩ = some (.int .u32 (q : Nat)) ∧ w'.cell? ⟨B, k * 2 + 1, none⟩ = some (.int .u8 (m : Nat))) [.take 0, .take 1, .take 2, .take 3, .take 4, .take 5, .take 6, .take 7, .go 8, .take 9, .take 10, .take 11, .take 12, .take 13, .take 14, .take 15, .take 16, .take 17, .take 18, .take 19, .take 20, .take 21, .take 22, .take 23, .take 24, .take 25, .take 26, .take 27, .take 28, .take 29, .take 30, .take 31, .take 32, .take 33, .take 34, .take 35, .take 36] (by kernel_rfl) (by kernel_rfl) (fun _ _ _ _ _ h => h) hHeld ?_
                          refine T_light (a' := ?_) 121 rfl rfl rfl (of_decide_eq_true rfl) rfl hHeld (fun wq hSq K Q hK => ?_) ?_
                          rotate_left
                          · (go_step; exact hK)
                          refine T_light (a' := ?_) 122 rfl rfl rfl (of_decide_eq_true rfl) rfl hHeld (fun wq hSq K Q hK => ?_) ?_
                          rotate_left
                          · (go_step; exact hK)
                          refine T_light (a' := ?_) 123 rfl rfl rfl (of_decide_eq_true rfl) rfl hHeld (fun wq hSq K Q hK => ?_) ?_
                          rotate_left
                          · (go_step; exact hK)
                          refine T_light (a' := ?_) 124 rfl rfl rfl (of_decide_eq_true rfl) rfl hHeld (fun wq hSq K Q hK => ?_) ?_
                          rotate_left
                          · ((obtain ⟨_, _, r1, r2, _, _⟩ := hSq; go_step); exact hK)
                          refine T_light (a' := ?_) 125 rfl rfl rfl (of_decide_eq_true rfl) rfl hHeld (fun wq hSq K Q hK => ?_) ?_
                          rotate_left
                          · (go_step; exact hK)
                          refine T_light (a' := ?_) 126 rfl rfl rfl (of_decide_eq_true rfl) rfl hHeld (fun wq hSq K Q hK => ?_) ?_
                          rotate_left
                          · (go_step; exact hK)
                          refine T_light (a' := ?_) 127 rfl rfl rfl (of_decide_eq_true rfl) rfl hHeld (fun wq hSq K Q hK => ?_) ?_
                          rotate_left
                          · (go_step; exact hK)
                          refine T_light (a' := ?_) 128 rfl rfl rfl (of_decide_eq_true rfl) rfl hHeld (fun wq hSq K Q hK => ?_) ?_
                          rotate_left
                          · ((obtain ⟨_, _, _, _, r1, r2⟩ := hSq; go_step); exact hK)
                          refine T_call own11 129 [.agg #[.int .u32 (p : Nat), .int .u8 (n : Nat)], .agg #[.int .u32 (q : Nat), .int .u8 (m : Nat)]] rfl rfl rfl rfl rfl ?_
                          refine (begins_no p n q m HCN.out.2.2.2.1 HCM.out.2.2.2.1 HCN.out.2.2.2.2 HCM.out.2.2.2.2 HCN.out.2.2.1 HCM.out.2.2.1 HP.out.1 _).mono ?_; rintro e w4 ⟨rfl, hb4⟩; have HB4 := Lib.hid (HW2D.out.trans (hb4.mono HW2D.out.size)); have hHeld := keep6 hHeld hb4; have HCELL4 := Lib.hid hHeld; clear hb4
                          refine ⟨_, rfl, hHeld, ?_⟩
                          simp only [Act.put, List.setIfInBounds_toArray, List.set_cons_zero, List.set_cons_succ]
                          refine T_light (a' := ?_) 130 rfl rfl rfl (of_decide_eq_true rfl) rfl hHeld (fun wq hSq K Q hK => ?_) ?_
                          rotate_left
                          · (go_step; exact hK)
                          refine T_light (a' := ?_) 131 rfl rfl rfl (of_decide_eq_true rfl) rfl hHeld (fun wq hSq K Q hK => ?_) ?_
                          rotate_left
                          · (go_step; exact hK)
                          refine T_light (a' := ?_) 132 rfl rfl rfl (of_decide_eq_true rfl) rfl hHeld (fun wq hSq K Q hK => ?_) ?_
                          rotate_left
                          · (go_step; exact hK)
                          refine T_light (a' := ?_) 133 rfl rfl rfl (of_decide_eq_true rfl) rfl hHeld (fun wq hSq K Q hK => ?_) ?_
                          rotate_left
                          · (go_step; exact hK)
                          refine T_light (a' := ?_) 134 rfl rfl rfl (of_decide_eq_true rfl) rfl hHeld (fun wq hSq K Q hK => ?_) ?_
                          rotate_left
                          · ((obtain ⟨r1, _, _, _, _, _⟩ := hSq; go_step); exact hK)
                          refine T_light (a' := ?_) 135 rfl rfl rfl (of_decide_eq_true rfl) rfl hHeld (fun wq hSq K Q hK => ?_) ?_
                          rotate_left
                          · (go_step; exact hK)
                          refine T_light (a' := ?_) 136 rfl rfl rfl (of_decide_eq_true rfl) rfl hHeld (fun wq hSq K Q hK => ?_) ?_
                          rotate_left
                          · (go_step; exact hK)
                          refine T_light (a' := ?_) 137 rfl rfl rfl (of_decide_eq_true rfl) rfl hHeld (fun wq hSq K Q hK => ?_) ?_
                          rotate_left
                          · (go_step; exact hK)
                          refine T_light (a' := ?_) 138 rfl rfl rfl (of_decide_eq_true rfl) rfl hHeld (fun wq hSq K Q hK => ?_) ?_
                          rotate_left
                          · ((obtain ⟨_, r1, _, _, _, _⟩ := hSq; go_step); exact hK)
                          refine T_light (a' := ?_) 139 rfl rfl rfl (of_decide_eq_true rfl) rfl hHeld (fun wq hSq K Q hK => ?_) ?_
                          rotate_left
                          · (go_step; exact hK)
                          refine T_light (a' := ?_) 140 rfl rfl rfl (of_decide_eq_true rfl) rfl hHeld (fun wq hSq K Q hK => ?_) ?_
                          rotate_left
                          · (go_step; exact hK)
                          refine T_pass2 (a' := ?_) 141 rfl rfl (by kernel_rfl) (fun K hK => ?_) ?_
                          rotate_left
                          · (simp only [Act.put, List.setIfInBounds_toArray, List.set_cons_zero, List.set_cons_succ]; exact hK)
                          refine T_pass2 (a' := ?_) 142 rfl rfl (by kernel_rfl) (fun K hK => ?_) ?_
                          rotate_left
                          · (simp only [Act.put, List.setIfInBounds_toArray, List.set_cons_zero, List.set_cons_succ]; exact hK)
                          refine T_pass2 (a' := ?_) 143 rfl rfl (by kernel_rfl) (fun K hK => ?_) ?_
                          rotate_left
                          · (simp only [Act.put, List.setIfInBounds_toArray, List.set_cons_zero, List.set_cons_succ]; exact hK)
                          refine T_pass2 (a' := ?_) 144 rfl rfl (by kernel_rfl) (fun K hK => ?_) ?_
                          rotate_left
                          · (simp only [Act.put, List.setIfInBounds_toArray, List.set_cons_zero, List.set_cons_succ]; exact hK)
                          refine T_pass2 (a' := ?_) 145 rfl rfl (by kernel_rfl) (fun K hK => ?_) ?_
                          rotate_left
                          · (simp only [Act.put, List.setIfInBounds_toArray, List.set_cons_zero, List.set_cons_succ]; exact hK)
                          refine T_pass2 (a' := ?_) 146 rfl rfl (by kernel_rfl) (fun K hK => ?_) ?_
                          rotate_left
                          · (simp only [Act.put, List.setIfInBounds_toArray, List.set_cons_zero, List.set_cons_succ]; exact hK)
                          refine T_pass2 (a' := ?_) 147 rfl rfl (by kernel_rfl) (fun K hK => ?_) ?_
                          rotate_left
                          · (simp only [Act.put, List.setIfInBounds_toArray, List.set_cons_zero, List.set_cons_succ]; exact hK)
                          refine T_pass2 (a' := ?_) 148 rfl rfl (by kernel_rfl) (fun K hK => ?_) ?_
                          rotate_left
                          · (simp only [Act.put, List.setIfInBounds_toArray, List.set_cons_zero, List.set_cons_succ]; exact hK)
                          refine T_pass2 (a' := ?_) 149 rfl rfl (by kernel_rfl) (fun K hK => ?_) ?_
                          rotate_left
                          · (simp only [Act.put, List.setIfInBounds_toArray, List.set_cons_zero, List.set_cons_succ]; exact hK)
                          refine T_pass2 (a' := ?_) 150 rfl rfl (by kernel_rfl) (fun K hK => ?_) ?_
                          rotate_left
                          · (simp only [Act.put, List.setIfInBounds_toArray, List.set_cons_zero, List.set_cons_succ]; exact hK)
                          refine T_pass2 (a' := ?_) 151 rfl rfl (by kernel_rfl) (fun K hK => ?_) ?_
                          rotate_left
                          · (simp only [Act.put, List.setIfInBounds_toArray, List.set_cons_zero, List.set_cons_succ]; exact hK)
                          refine T_pass2 (a' := ?_) 152 rfl rfl (by kernel_rfl) (fun K hK => ?_) ?_
                          rotate_left
                          · (simp only [Act.put, List.setIfInBounds_toArray, List.set_cons_zero, List.set_cons_succ]; exact hK)
                          refine T_pass2 (a' := ?_) 153 rfl rfl (by kernel_rfl) (fun K hK => ?_) ?_
                          rotate_left
                          · (simp only [Act.put, List.setIfInBounds_toArray, List.set_cons_zero, List.set_cons_succ]; exact hK)
                          refine T_pass2 (a' := ?_) 154 rfl rfl (by kernel_rfl) (fun K hK => ?_) ?_
                          rotate_left
                          · (simp only [Act.put, List.setIfInBounds_toArray, List.set_cons_zero, List.set_cons_succ]; exact hK)
                          refine T_pass2 (a' := ?_) 155 rfl rfl (by kernel_rfl) (fun K hK => ?_) ?_
                          rotate_left
                          · (simp only [Act.put, List.setIfInBounds_toArray, List.set_cons_zero, List.set_cons_succ]; exact hK)
                          refine T_light (a' := ?_) 156 rfl rfl rfl (of_decide_eq_true rfl) rfl hHeld (fun wq hSq K Q hK => ?_) ?_
                          rotate_left
                          · (go_step; exact hK)
                          refine T_light (a' := ?_) 157 rfl rfl rfl (of_decide_eq_true rfl) rfl hHeld (fun wq hSq K Q hK => ?_) ?_
                          rotate_left
                          · (go_step; exact hK)
                          refine T_done ?_
                          clear hHeld
                          go_wp2_with fail
                          have hHeld := (show (w4.drew.cell? (x.add i) = some (.int .u8 (n : Nat)) ∧ w4.drew.cell? (x.add k) = some (.int .u8 (m : Nat)) ∧ w4.drew.cell? ⟨B, i * 2, none⟩ = some (.int .u32 (p : Nat)) ∧ w4.drew.cell? ⟨B, i * 2 + 1, none⟩ = some (.int .u8 (n : Nat)) ∧ w4.drew.cell? ⟨B, k * 2, none⟩ = some (.int .u32 (q : Nat)) ∧ w4.drew.cell? ⟨B, k * 2 + 1, none⟩ = some (.int .u8 (m : Nat))) from HCELL4.out)
                          refine wp_region_T (fun w' => w'.cell? (x.add i) = some (.int .u8 (n : Nat)) ∧ w'.cell? (x.add k) = some (.int .u8 (m : Nat)) ∧ w'.cell? ⟨B, i * 2, none⟩ = some (.int .u32 (p : Nat)) ∧ w'.cell? ⟨B, i * 2 + 1, none⟩ = some (.int .u8 (n : Nat)) ∧ w'.cell? ⟨B, k * 2, none⟩ = some (.int .u32 (q : Nat)) ∧ w'.cell? ⟨B, k * 2 + 1, none⟩ = some (.int .u8 (m : Nat))) [.take 0, .take 1, .take 2, .take 3, .take 4, .take 5, .take 6, .take 7, .take 8, .take 9, .take 10, .take 11, .take 12, .take 13, .take 14, .take 15, .take 16, .take 17, .take 18, .take 19, .take 20, .take 21, .take 22, .take 23, .take 24, .take 25, .take 26, .take 27, .take 28, .take 29, .take 30, .take 31, .take 32] (by kernel_rfl) (by kernel_rfl) (fun _ _ _ _ _ h => h) hHeld ?_
                          refine T_light (a' := ?_) 158 rfl rfl rfl (of_decide_eq_true rfl) rfl hHeld (fun wq hSq K Q hK => ?_) ?_
                          rotate_left
                          · (go_step; exact hK)
                          refine T_light (a' := ?_) 159 rfl rfl rfl (of_decide_eq_true rfl) rfl hHeld (fun wq hSq K Q hK => ?_) ?_
                          rotate_left
                          · (go_step; exact hK)
                          refine T_light (a' := ?_) 160 rfl rfl rfl (of_decide_eq_true rfl) rfl hHeld (fun wq hSq K Q hK => ?_) ?_
                          rotate_left
                          · (go_step; exact hK)
                          refine T_light (a' := ?_) 161 rfl rfl rfl (of_decide_eq_true rfl) rfl hHeld (fun wq hSq K Q hK => ?_) ?_
                          rotate_left
                          · ((obtain ⟨r1, _, _, _, _, _⟩ := hSq; go_step); exact hK)
                          refine T_light (a' := ?_) 162 rfl rfl rfl (of_decide_eq_true rfl) rfl hHeld (fun wq hSq K Q hK => ?_) ?_
                          rotate_left
                          · (go_step; exact hK)
                          refine T_light (a' := ?_) 163 rfl rfl rfl (of_decide_eq_true rfl) rfl hHeld (fun wq hSq K Q hK => ?_) ?_
                          rotate_left
                          · (go_step; exact hK)
                          refine T_light (a' := ?_) 164 rfl rfl rfl (of_decide_eq_true rfl) rfl hHeld (fun wq hSq K Q hK => ?_) ?_
                          rotate_left
                          · (go_step; exact hK)
                          refine T_light (a' := ?_) 165 rfl rfl rfl (of_decide_eq_true rfl) rfl hHeld (fun wq hSq K Q hK => ?_) ?_
                          rotate_left
                          · ((obtain ⟨_, r1, _, _, _, _⟩ := hSq; go_step); exact hK)
                          refine T_light (a' := ?_) 166 rfl rfl rfl (of_decide_eq_true rfl) rfl hHeld (fun wq hSq K Q hK => ?_) ?_
                          rotate_left
                          · (go_step; exact hK)
                          refine T_light (a' := ?_) 167 rfl rfl rfl (of_decide_eq_true rfl) rfl hHeld (fun wq hSq K Q hK => ?_) ?_
                          rotate_left
                          · (go_step; exact hK)
                          refine T_light (a' := ?_) 168 rfl rfl rfl (of_decide_eq_true rfl) rfl hHeld (fun wq hSq K Q hK => ?_) ?_
                          rotate_left
                          · (go_step; exact hK)
                          refine T_light (a' := ?_) 169 rfl rfl rfl (of_decide_eq_true rfl) rfl hHeld (fun wq hSq K Q hK => ?_) ?_
                          rotate_left
                          · (go_step; exact hK)
                          refine T_light (a' := ?_) 170 rfl rfl rfl (of_decide_eq_true rfl) rfl hHeld (fun wq hSq K Q hK => ?_) ?_
                          rotate_left
                          · (go_step; exact hK)
                          refine T_light (a' := ?_) 171 rfl rfl rfl (of_decide_eq_true rfl) rfl hHeld (fun wq hSq K Q hK => ?_) ?_
                          rotate_left
                          · (go_step; exact hK)
                          refine T_light (a' := ?_) 172 rfl rfl rfl (of_decide_eq_true rfl) rfl hHeld (fun wq hSq K Q hK => ?_) ?_
                          rotate_left
                          · ((obtain ⟨_, _, r1, r2, _, _⟩ := hSq; go_step); exact hK)
                          refine T_light (a' := ?_) 173 rfl rfl rfl (of_decide_eq_true rfl) rfl hHeld (fun wq hSq K Q hK => ?_) ?_
                          rotate_left
                          · (go_step; exact hK)
                          refine T_light (a' := ?_) 174 rfl rfl rfl (of_decide_eq_true rfl) rfl hHeld (fun wq hSq K Q hK => ?_) ?_
                          rotate_left
                          · (go_step; exact hK)
                          refine T_light (a' := ?_) 175 rfl rfl rfl (of_decide_eq_true rfl) rfl hHeld (fun wq hSq K Q hK => ?_) ?_
                          rotate_left
                          · (go_step; exact hK)
                          refine T_light (a' := ?_) 176 rfl rfl rfl (of_decide_eq_true rfl) rfl hHeld (fun wq hSq K Q hK => ?_) ?_
                          rotate_left
                          · (go_step; exact hK)
                          refine T_light (a' := ?_) 177 rfl rfl rfl (of_decide_eq_true rfl) rfl hHeld (fun wq hSq K Q hK => ?_) ?_
                          rotate_left
                          · ((obtain ⟨_, _, _, _, r1, r2⟩ := hSq; go_step); exact hK)
                          refine T_light (a' := ?_) 178 rfl rfl rfl (of_decide_eq_true rfl) rfl hHeld (fun wq hSq K Q hK => ?_) ?_
                          rotate_left
                          · (go_step; exact hK)
                          refine T_light (a' := ?_) 179 rfl rfl rfl (of_decide_eq_true rfl) rfl hHeld (fun wq hSq K Q hK => ?_) ?_
                          rotate_left
                          · (go_step; exact hK)
                          refine T_light (a' := ?_) 180 rfl rfl rfl (of_decide_eq_true rfl) rfl hHeld (fun wq hSq K Q hK => ?_) ?_
                          rotate_left
                          · (go_step; exact hK)
                          refine T_light (a' := ?_) 181 rfl rfl rfl (of_decide_eq_true rfl) rfl hHeld (fun wq hSq K Q hK => ?_) ?_
                          rotate_left
                          · ((obtain ⟨_, r1, _, _, _, _⟩ := hSq; go_step); exact hK)
                          refine T_light (a' := ?_) 182 rfl rfl rfl (of_decide_eq_true rfl) rfl hHeld (fun wq hSq K Q hK => ?_) ?_
                          rotate_left
                          · (go_step; exact hK)
                          refine T_light (a' := ?_) 183 rfl rfl rfl (of_decide_eq_true rfl) rfl hHeld (fun wq hSq K Q hK => ?_) ?_
                          rotate_left
                          · (go_step; exact hK)
                          refine T_light (a' := ?_) 184 rfl rfl rfl (of_decide_eq_true rfl) rfl hHeld (fun wq hSq K Q hK => ?_) ?_
                          rotate_left
                          · (go_step; exact hK)
                          refine T_light (a' := ?_) 185 rfl rfl rfl (of_decide_eq_true rfl) rfl hHeld (fun wq hSq K Q hK => ?_) ?_
                          rotate_left
                          · ((obtain ⟨r1, _, _, _, _, _⟩ := hSq; go_step); exact hK)
                          refine T_light (a' := ?_) 186 rfl rfl rfl (of_decide_eq_true rfl) rfl hHeld (fun wq hSq K Q hK => ?_) ?_
                          rotate_left
                          · (go_step; exact hK)
                          refine T_light (a' := ?_) 187 rfl rfl rfl (of_decide_eq_true rfl) rfl hHeld (fun wq hSq K Q hK => ?_) ?_
                          rotate_left
                          · (go_step; exact hK)
                          refine T_light (a' := ?_) 188 rfl rfl rfl (of_decide_eq_true rfl) rfl hHeld (fun wq hSq K Q hK => ?_) ?_
                          rotate_left
                          · (go_step; exact hK)
                          refine T_light (a' := ?_) 189 rfl rfl rfl (of_decide_eq_true rfl) rfl hHeld (fun wq hSq K Q hK => ?_) ?_
                          rotate_left
                          · (go_step; exact hK)
                          refine T_light (a' := ?_) 190 rfl rfl rfl (of_decide_eq_true rfl) rfl hHeld (fun wq hSq K Q hK => ?_) ?_
                          rotate_left
                          · (go_step; exact hK)
                          refine T_done ?_
                          clear hHeld
                          go_wp2_with fail
                          go_roundg g
                          case measure => exact Nat.lt_succ_self g
                          case rel => exact ⟨k + 1, by rw [ek], Lib.hid (nt_nx HI2.out), by first | exact HB4 | exact Lib.hid HB4.out.drew | exact Lib.hid HB4.out.drew.drew⟩
                        · obtain ⟨f1, f2⟩ := nt_eq hnm
                          obtain ⟨f3, f4⟩ := nt_ge (show ¬ n < m by rw [hnm]; exact Nat.lt_irrefl _)
                          obtain ⟨bb, f5, f6, f7, f8⟩ := nt_rise (HP.out.2.2 hnm)
                          clear hnm
                          refine wp_region_T (fun w' => w'.cell? (x.add i) = some (.int .u8 (n : Nat)) ∧ w'.cell? (x.add k) = some (.int .u8 (m : Nat)) ∧ w'.cell? ⟨B, i * 2, none⟩ = some (.int .u32 (p : Nat)) ∧ w'.cell? ⟨B, i * 2 + 1, none⟩ = some (.int .u8 (n : Nat)) ∧ w'.cell? ⟨B, k * 2, none⟩ = some (.int .u32 (q : Nat)) ∧ w'.cell? ⟨B, k * 2 + 1, none⟩ = some (.int .u8 (m : Nat))) [.take 0, .take 1, .take 2, .take 3, .take 4, .take 5, .take 6, .take 7, .go 8, .take 9, .take 10, .take 11, .take 12, .take 13, .take 14, .take 15, .take 16, .take 17, .take 18, .take 19, .take 20, .take 21, .take 22, .take 23, .take 24, .take 25, .take 26, .take 27, .take 28, .take 29, .take 30, .take 31, .take 32, .take 33, .take 34, .take 35, .take 36] (by kernel_rfl) (by kernel_rfl) (fun _ _ _ _ _ h => h) hHeld ?_
                          refine T_light (a' := ?_) 121 rfl rfl rfl (of_decide_eq_true rfl) rfl hHeld (fun wq hSq K Q hK => ?_) ?_
                          rotate_left
                          · (go_step; exact hK)
                          refine T_light (a' := ?_) 122 rfl rfl rfl (of_decide_eq_true rfl) rfl hHeld (fun wq hSq K Q hK => ?_) ?_
                          rotate_left
                          · (go_step; exact hK)
                          refine T_light (a' := ?_) 123 rfl rfl rfl (of_decide_eq_true rfl) rfl hHeld (fun wq hSq K Q hK => ?_) ?_
                          rotate_left
                          · (go_step; exact hK)
                          refine T_light (a' := ?_) 124 rfl rfl rfl (of_decide_eq_true rfl) rfl hHeld (fun wq hSq K Q hK => ?_) ?_
                          rotate_left
                          · ((obtain ⟨_, _, r1, r2, _, _⟩ := hSq; go_step); exact hK)
                          refine T_light (a' := ?_) 125 rfl rfl rfl (of_decide_eq_true rfl) rfl hHeld (fun wq hSq K Q hK => ?_) ?_
                          rotate_left
                          · (go_step; exact hK)
                          refine T_light (a' := ?_) 126 rfl rfl rfl (of_decide_eq_true rfl) rfl hHeld (fun wq hSq K Q hK => ?_) ?_
                          rotate_left
                          · (go_step; exact hK)
                          refine T_light (a' := ?_) 127 rfl rfl rfl (of_decide_eq_true rfl) rfl hHeld (fun wq hSq K Q hK => ?_) ?_
                          rotate_left
                          · (go_step; exact hK)
                          refine T_light (a' := ?_) 128 rfl rfl rfl (of_decide_eq_true rfl) rfl hHeld (fun wq hSq K Q hK => ?_) ?_
                          rotate_left
                          · ((obtain ⟨_, _, _, _, r1, r2⟩ := hSq; go_step); exact hK)
                          refine T_call own11 129 [.agg #[.int .u32 (p : Nat), .int .u8 (n : Nat)], .agg #[.int .u32 (q : Nat), .int .u8 (m : Nat)]] rfl rfl rfl rfl rfl ?_
                          refine (begins_no p n q m HCN.out.2.2.2.1 HCM.out.2.2.2.1 HCN.out.2.2.2.2 HCM.out.2.2.2.2 HCN.out.2.2.1 HCM.out.2.2.1 HP.out.1 _).mono ?_; rintro e w4 ⟨rfl, hb4⟩; have HB4 := Lib.hid (HW2D.out.trans (hb4.mono HW2D.out.size)); have hHeld := keep6 hHeld hb4; have HCELL4 := Lib.hid hHeld; clear hb4
                          refine ⟨_, rfl, hHeld, ?_⟩
                          simp only [Act.put, List.setIfInBounds_toArray, List.set_cons_zero, List.set_cons_succ]
                          refine T_light (a' := ?_) 130 rfl rfl rfl (of_decide_eq_true rfl) rfl hHeld (fun wq hSq K Q hK => ?_) ?_
                          rotate_left
                          · (go_step; exact hK)
                          refine T_light (a' := ?_) 131 rfl rfl rfl (of_decide_eq_true rfl) rfl hHeld (fun wq hSq K Q hK => ?_) ?_
                          rotate_left
                          · (go_step; exact hK)
                          refine T_light (a' := ?_) 132 rfl rfl rfl (of_decide_eq_true rfl) rfl hHeld (fun wq hSq K Q hK => ?_) ?_
                          rotate_left
                          · (go_step; exact hK)
                          refine T_light (a' := ?_) 133 rfl rfl rfl (of_decide_eq_true rfl) rfl hHeld (fun wq hSq K Q hK => ?_) ?_
                          rotate_left
                          · (go_step; exact hK)
                          refine T_light (a' := ?_) 134 rfl rfl rfl (of_decide_eq_true rfl) rfl hHeld (fun wq hSq K Q hK => ?_) ?_
                          rotate_left
                          · ((obtain ⟨r1, _, _, _, _, _⟩ := hSq; go_step); exact hK)
                          refine T_light (a' := ?_) 135 rfl rfl rfl (of_decide_eq_true rfl) rfl hHeld (fun wq hSq K Q hK => ?_) ?_
                          rotate_left
                          · (go_step; exact hK)
                          refine T_light (a' := ?_) 136 rfl rfl rfl (of_decide_eq_true rfl) rfl hHeld (fun wq hSq K Q hK => ?_) ?_
                          rotate_left
                          · (go_step; exact hK)
                          refine T_light (a' := ?_) 137 rfl rfl rfl (of_decide_eq_true rfl) rfl hHeld (fun wq hSq K Q hK => ?_) ?_
                          rotate_left
                          · (go_step; exact hK)
                          refine T_light (a' := ?_) 138 rfl rfl rfl (of_decide_eq_true rfl) rfl hHeld (fun wq hSq K Q hK => ?_) ?_
                          rotate_left
                          · ((obtain ⟨_, r1, _, _, _, _⟩ := hSq; go_step); exact hK)
                          refine T_light (a' := ?_) 139 rfl rfl rfl (of_decide_eq_true rfl) rfl hHeld (fun wq hSq K Q hK => ?_) ?_
                          rotate_left
                          · (go_step; exact hK)
                          refine T_light (a' := ?_) 140 rfl rfl rfl (of_decide_eq_true rfl) rfl hHeld (fun wq hSq K Q hK => ?_) ?_
                          rotate_left
                          · (go_step; exact hK)
                          refine T_light (a' := ?_) 141 rfl rfl rfl (of_decide_eq_true rfl) rfl hHeld (fun wq hSq K Q hK => ?_) ?_
                          rotate_left
                          · (go_step; exact hK)
                          refine T_light (a' := ?_) 142 rfl rfl rfl (of_decide_eq_true rfl) rfl hHeld (fun wq hSq K Q hK => ?_) ?_
                          rotate_left
                          · (go_step; exact hK)
                          refine T_light (a' := ?_) 143 rfl rfl rfl (of_decide_eq_true rfl) rfl hHeld (fun wq hSq K Q hK => ?_) ?_
                          rotate_left
                          · (go_step; exact hK)
                          refine T_light (a' := ?_) 144 rfl rfl rfl (of_decide_eq_true rfl) rfl hHeld (fun wq hSq K Q hK => ?_) ?_
                          rotate_left
                          · (go_step; exact hK)
                          refine T_light (a' := ?_) 145 rfl rfl rfl (of_decide_eq_true rfl) rfl hHeld (fun wq hSq K Q hK => ?_) ?_
                          rotate_left
                          · ((obtain ⟨_, _, r1, r2, _, _⟩ := hSq; go_step); exact hK)
                          refine T_light (a' := ?_) 146 rfl rfl rfl (of_decide_eq_true rfl) rfl hHeld (fun wq hSq K Q hK => ?_) ?_
                          rotate_left
                          · (go_step; exact hK)
                          refine T_light (a' := ?_) 147 rfl rfl rfl (of_decide_eq_true rfl) rfl hHeld (fun wq hSq K Q hK => ?_) ?_
                          rotate_left
                          · (go_step; exact hK)
                          refine T_light (a' := ?_) 148 rfl rfl rfl (of_decide_eq_true rfl) rfl hHeld (fun wq hSq K Q hK => ?_) ?_
                          rotate_left
                          · (go_step; exact hK)
                          refine T_light (a' := ?_) 149 rfl rfl rfl (of_decide_eq_true rfl) rfl hHeld (fun wq hSq K Q hK => ?_) ?_
                          rotate_left
                          · (go_step; exact hK)
                          refine T_light (a' := ?_) 150 rfl rfl rfl (of_decide_eq_true rfl) rfl hHeld (fun wq hSq K Q hK => ?_) ?_
                          rotate_left
                          · ((obtain ⟨_, _, _, _, r1, r2⟩ := hSq; go_step); exact hK)
                          refine T_light (a' := ?_) 151 rfl rfl rfl (of_decide_eq_true rfl) rfl hHeld (fun wq hSq K Q hK => ?_) ?_
                          rotate_left
                          · (go_step; exact hK)
                          refine T_light (a' := ?_) 152 rfl rfl rfl (of_decide_eq_true rfl) rfl hHeld (fun wq hSq K Q hK => ?_) ?_
                          rotate_left
                          · (go_step; exact hK)
                          refine T_light (a' := ?_) 153 rfl rfl rfl (of_decide_eq_true rfl) rfl hHeld (fun wq hSq K Q hK => ?_) ?_
                          rotate_left
                          · (go_step; exact hK)
                          refine T_light (a' := ?_) 154 rfl rfl rfl (of_decide_eq_true rfl) rfl hHeld (fun wq hSq K Q hK => ?_) ?_
                          rotate_left
                          · (go_step; exact hK)
                          refine T_light (a' := ?_) 155 rfl rfl rfl (of_decide_eq_true rfl) rfl hHeld (fun wq hSq K Q hK => ?_) ?_
                          rotate_left
                          · (go_step; exact hK)
                          refine T_light (a' := ?_) 156 rfl rfl rfl (of_decide_eq_true rfl) rfl hHeld (fun wq hSq K Q hK => ?_) ?_
                          rotate_left
                          · (go_step; exact hK)
                          refine T_light (a' := ?_) 157 rfl rfl rfl (of_decide_eq_true rfl) rfl hHeld (fun wq hSq K Q hK => ?_) ?_
                          rotate_left
                          · (go_step; exact hK)
                          refine T_done ?_
                          clear hHeld
                          go_wp2_with fail
                          have hHeld := (show (w4.drew.cell? (x.add i) = some (.int .u8 (n : Nat)) ∧ w4.drew.cell? (x.add k) = some (.int .u8 (m : Nat)) ∧ w4.drew.cell? ⟨B, i * 2, none⟩ = some (.int .u32 (p : Nat)) ∧ w4.drew.cell? ⟨B, i * 2 + 1, none⟩ = some (.int .u8 (n : Nat)) ∧ w4.drew.cell? ⟨B, k * 2, none⟩ = some (.int .u32 (q : Nat)) ∧ w4.drew.cell? ⟨B, k * 2 + 1, none⟩ = some (.int .u8 (m : Nat))) from HCELL4.out)
                          refine wp_region_T (fun w' => w'.cell? (x.add i) = some (.int .u8 (n : Nat)) ∧ w'.cell? (x.add k) = some (.int .u8 (m : Nat)) ∧ w'.cell? ⟨B, i * 2, none⟩ = some (.int .u32 (p : Nat)) ∧ w'.cell? ⟨B, i * 2 + 1, none⟩ = some (.int .u8 (n : Nat)) ∧ w'.cell? ⟨B, k * 2, none⟩ = some (.int .u32 (q : Nat)) ∧ w'.cell? ⟨B, k * 2 + 1, none⟩ = some (.int .u8 (m : Nat))) [.take 0, .take 1, .take 2, .take 3, .take 4, .take 5, .take 6, .take 7, .take 8, .take 9, .take 10, .take 11, .take 12, .take 13, .take 14, .take 15, .take 16, .take 17, .take 18, .take 19, .take 20, .take 21, .take 22, .take 23, .take 24, .take 25, .take 26, .take 27, .take 28, .take 29, .take 30, .take 31, .take 32] (by kernel_rfl) (by kernel_rfl) (fun _ _ _ _ _ h => h) hHeld ?_
                          refine T_light (a' := ?_) 158 rfl rfl rfl (of_decide_eq_true rfl) rfl hHeld (fun wq hSq K Q hK => ?_) ?_
                          rotate_left
                          · (go_step; exact hK)
                          refine T_light (a' := ?_) 159 rfl rfl rfl (of_decide_eq_true rfl) rfl hHeld (fun wq hSq K Q hK => ?_) ?_
                          rotate_left
                          · (go_step; exact hK)
                          refine T_light (a' := ?_) 160 rfl rfl rfl (of_decide_eq_true rfl) rfl hHeld (fun wq hSq K Q hK => ?_) ?_
                          rotate_left
                          · (go_step; exact hK)
                          refine T_light (a' := ?_) 161 rfl rfl rfl (of_decide_eq_true rfl) rfl hHeld (fun wq hSq K Q hK => ?_) ?_
                          rotate_left
                          · ((obtain ⟨r1, _, _, _, _, _⟩ := hSq; go_step); exact hK)
                          refine T_light (a' := ?_) 162 rfl rfl rfl (of_decide_eq_true rfl) rfl hHeld (fun wq hSq K Q hK => ?_) ?_
                          rotate_left
                          · (go_step; exact hK)
                          refine T_light (a' := ?_) 163 rfl rfl rfl (of_decide_eq_true rfl) rfl hHeld (fun wq hSq K Q hK => ?_) ?_
                          rotate_left
                          · (go_step; exact hK)
                          refine T_light (a' := ?_) 164 rfl rfl rfl (of_decide_eq_true rfl) rfl hHeld (fun wq hSq K Q hK => ?_) ?_
                          rotate_left
                          · (go_step; exact hK)
                          refine T_light (a' := ?_) 165 rfl rfl rfl (of_decide_eq_true rfl) rfl hHeld (fun wq hSq K Q hK => ?_) ?_
                          rotate_left
                          · ((obtain ⟨_, r1, _, _, _, _⟩ := hSq; go_step); exact hK)
                          refine T_light (a' := ?_) 166 rfl rfl rfl (of_decide_eq_true rfl) rfl hHeld (fun wq hSq K Q hK => ?_) ?_
                          rotate_left
                          · (go_step; exact hK)
                          refine T_light (a' := ?_) 167 rfl rfl rfl (of_decide_eq_true rfl) rfl hHeld (fun wq hSq K Q hK => ?_) ?_
                          rotate_left
                          · (go_step; exact hK)
                          refine T_pass2 (a' := ?_) 168 rfl rfl (by kernel_rfl) (fun K hK => ?_) ?_
                          rotate_left
                          · (simp only [Act.put, List.setIfInBounds_toArray, List.set_cons_zero, List.set_cons_succ]; exact hK)
                          refine T_pass2 (a' := ?_) 169 rfl rfl (by kernel_rfl) (fun K hK => ?_) ?_
                          rotate_left
                          · (simp only [Act.put, List.setIfInBounds_toArray, List.set_cons_zero, List.set_cons_succ]; exact hK)
                          refine T_pass2 (a' := ?_) 170 rfl rfl (by kernel_rfl) (fun K hK => ?_) ?_
                          rotate_left
                          · (simp only [Act.put, List.setIfInBounds_toArray, List.set_cons_zero, List.set_cons_succ]; exact hK)
                          refine T_pass2 (a' := ?_) 171 rfl rfl (by kernel_rfl) (fun K hK => ?_) ?_
                          rotate_left
                          · (simp only [Act.put, List.setIfInBounds_toArray, List.set_cons_zero, List.set_cons_succ]; exact hK)
                          refine T_pass2 (a' := ?_) 172 rfl rfl (by kernel_rfl) (fun K hK => ?_) ?_
                          rotate_left
                          · (simp only [Act.put, List.setIfInBounds_toArray, List.set_cons_zero, List.set_cons_succ]; exact hK)
                          refine T_pass2 (a' := ?_) 173 rfl rfl (by kernel_rfl) (fun K hK => ?_) ?_
                          rotate_left
                          · (simp only [Act.put, List.setIfInBounds_toArray, List.set_cons_zero, List.set_cons_succ]; exact hK)
                          refine T_pass2 (a' := ?_) 174 rfl rfl (by kernel_rfl) (fun K hK => ?_) ?_
                          rotate_left
                          · (simp only [Act.put, List.setIfInBounds_toArray, List.set_cons_zero, List.set_cons_succ]; exact hK)
                          refine T_pass2 (a' := ?_) 175 rfl rfl (by kernel_rfl) (fun K hK => ?_) ?_
                          rotate_left
                          · (simp only [Act.put, List.setIfInBounds_toArray, List.set_cons_zero, List.set_cons_succ]; exact hK)
                          refine T_pass2 (a' := ?_) 176 rfl rfl (by kernel_rfl) (fun K hK => ?_) ?_
                          rotate_left
                          · (simp only [Act.put, List.setIfInBounds_toArray, List.set_cons_zero, List.set_cons_succ]; exact hK)
                          refine T_pass2 (a' := ?_) 177 rfl rfl (by kernel_rfl) (fun K hK => ?_) ?_
                          rotate_left
                          · (simp only [Act.put, List.setIfInBounds_toArray, List.set_cons_zero, List.set_cons_succ]; exact hK)
                          refine T_pass2 (a' := ?_) 178 rfl rfl (by kernel_rfl) (fun K hK => ?_) ?_
                          rotate_left
                          · (simp only [Act.put, List.setIfInBounds_toArray, List.set_cons_zero, List.set_cons_succ]; exact hK)
                          refine T_pass2 (a' := ?_) 179 rfl rfl (by kernel_rfl) (fun K hK => ?_) ?_
                          rotate_left
                          · (simp only [Act.put, List.setIfInBounds_toArray, List.set_cons_zero, List.set_cons_succ]; exact hK)
                          refine T_pass2 (a' := ?_) 180 rfl rfl (by kernel_rfl) (fun K hK => ?_) ?_
                          rotate_left
                          · (simp only [Act.put, List.setIfInBounds_toArray, List.set_cons_zero, List.set_cons_succ]; exact hK)
                          refine T_pass2 (a' := ?_) 181 rfl rfl (by kernel_rfl) (fun K hK => ?_) ?_
                          rotate_left
                          · (simp only [Act.put, List.setIfInBounds_toArray, List.set_cons_zero, List.set_cons_succ]; exact hK)
                          refine T_pass2 (a' := ?_) 182 rfl rfl (by kernel_rfl) (fun K hK => ?_) ?_
                          rotate_left
                          · (simp only [Act.put, List.setIfInBounds_toArray, List.set_cons_zero, List.set_cons_succ]; exact hK)
                          refine T_pass2 (a' := ?_) 183 rfl rfl (by kernel_rfl) (fun K hK => ?_) ?_
                          rotate_left
                          · (simp only [Act.put, List.setIfInBounds_toArray, List.set_cons_zero, List.set_cons_succ]; exact hK)
                          refine T_pass2 (a' := ?_) 184 rfl rfl (by kernel_rfl) (fun K hK => ?_) ?_
                          rotate_left
                          · (simp only [Act.put, List.setIfInBounds_toArray, List.set_cons_zero, List.set_cons_succ]; exact hK)
                          refine T_pass2 (a' := ?_) 185 rfl rfl (by kernel_rfl) (fun K hK => ?_) ?_
                          rotate_left
                          · (simp only [Act.put, List.setIfInBounds_toArray, List.set_cons_zero, List.set_cons_succ]; exact hK)
                          refine T_pass2 (a' := ?_) 186 rfl rfl (by kernel_rfl) (fun K hK => ?_) ?_
                          rotate_left
                          · (simp only [Act.put, List.setIfInBounds_toArray, List.set_cons_zero, List.set_cons_succ]; exact hK)
                          refine T_pass2 (a' := ?_) 187 rfl rfl (by kernel_rfl) (fun K hK => ?_) ?_
                          rotate_left
                          · (simp only [Act.put, List.setIfInBounds_toArray, List.set_cons_zero, List.set_cons_succ]; exact hK)
                          refine T_pass2 (a' := ?_) 188 rfl rfl (by kernel_rfl) (fun K hK => ?_) ?_
                          rotate_left
                          · (simp only [Act.put, List.setIfInBounds_toArray, List.set_cons_zero, List.set_cons_succ]; exact hK)
                          refine T_pass2 (a' := ?_) 189 rfl rfl (by kernel_rfl) (fun K hK => ?_) ?_
                          rotate_left
                          · (simp only [Act.put, List.setIfInBounds_toArray, List.set_cons_zero, List.set_cons_succ]; exact hK)
                          refine T_light (a' := ?_) 190 rfl rfl rfl (of_decide_eq_true rfl) rfl hHeld (fun wq hSq K Q hK => ?_) ?_
                          rotate_left
                          · (go_step; exact hK)
                          refine T_done ?_
                          clear hHeld
                          go_wp2_with fail
                          go_roundg g
                          case measure => exact Nat.lt_succ_self g
                          case rel => exact ⟨k + 1, by rw [ek], Lib.hid (nt_nx HI2.out), by first | exact HB4 | exact Lib.hid HB4.out.drew | exact Lib.hid HB4.out.drew.drew⟩
                        · obtain ⟨f1, f2⟩ := nt_ne (Nat.ne_of_gt hnm)
                          obtain ⟨f3, f4⟩ := nt_ge (Nat.lt_asymm hnm)
                          clear hnm
                          refine wp_region_T (fun w' => w'.cell? (x.add i) = some (.int .u8 (n : Nat)) ∧ w'.cell? (x.add k) = some (.int .u8 (m : Nat)) ∧ w'.cell? ⟨B, i * 2, none⟩ = some (.int .u32 (p : Nat)) ∧ w'.cell? ⟨B, i * 2 + 1, none⟩ = some (.int .u8 (n : Nat)) ∧ w'.cell? ⟨B, k * 2, none⟩ = some (.int .u32 (q : Nat)) ∧ w'.cell? ⟨B, k * 2 + 1, none⟩ = some (.int .u8 (m : Nat))) [.take 0, .take 1, .take 2, .take 3, .take 4, .take 5, .take 6, .take 7, .go 8, .take 9, .take 10, .take 11, .take 12, .take 13, .take 14, .take 15, .take 16, .take 17, .take 18, .take 19, .take 20, .take 21, .take 22, .take 23, .take 24, .take 25, .take 26, .take 27, .take 28, .take 29, .take 30, .take 31, .take 32, .take 33, .take 34, .take 35, .take 36] (by kernel_rfl) (by kernel_rfl) (fun _ _ _ _ _ h => h) hHeld ?_
                          refine T_light (a' := ?_) 121 rfl rfl rfl (of_decide_eq_true rfl) rfl hHeld (fun wq hSq K Q hK => ?_) ?_
                          rotate_left
                          · (go_step; exact hK)
                          refine T_light (a' := ?_) 122 rfl rfl rfl (of_decide_eq_true rfl) rfl hHeld (fun wq hSq K Q hK => ?_) ?_
                          rotate_left
                          · (go_step; exact hK)
                          refine T_light (a' := ?_) 123 rfl rfl rfl (of_decide_eq_true rfl) rfl hHeld (fun wq hSq K Q hK => ?_) ?_
                          rotate_left
                          · (go_step; exact hK)
                          refine T_light (a' := ?_) 124 rfl rfl rfl (of_decide_eq_true rfl) rfl hHeld (fun wq hSq K Q hK => ?_) ?_
                          rotate_left
                          · ((obtain ⟨_, _, r1, r2, _, _⟩ := hSq; go_step); exact hK)
                          refine T_light (a' := ?_) 125 rfl rfl rfl (of_decide_eq_true rfl) rfl hHeld (fun wq hSq K Q hK => ?_) ?_
                          rotate_left
                          · (go_step; exact hK)
                          refine T_light (a' := ?_) 126 rfl rfl rfl (of_decide_eq_true rfl) rfl hHeld (fun wq hSq K Q hK => ?_) ?_
                          rotate_left
                          · (go_step; exact hK)
                          refine T_light (a' := ?_) 127 rfl rfl rfl (of_decide_eq_true rfl) rfl hHeld (fun wq hSq K Q hK => ?_) ?_
                          rotate_left
                          · (go_step; exact hK)
                          refine T_light (a' := ?_) 128 rfl rfl rfl (of_decide_eq_true rfl) rfl hHeld (fun wq hSq K Q hK => ?_) ?_
                          rotate_left
                          · ((obtain ⟨_, _, _, _, r1, r2⟩ := hSq; go_step); exact hK)
                          refine T_call own11 129 [.agg #[.int .u32 (p : Nat), .int .u8 (n : Nat)], .agg #[.int .u32 (q : Nat), .int .u8 (m : Nat)]] rfl rfl rfl rfl rfl ?_
                          refine (begins_no p n q m HCN.out.2.2.2.1 HCM.out.2.2.2.1 HCN.out.2.2.2.2 HCM.out.2.2.2.2 HCN.out.2.2.1 HCM.out.2.2.1 HP.out.1 _).mono ?_; rintro e w4 ⟨rfl, hb4⟩; have HB4 := Lib.hid (HW2D.out.trans (hb4.mono HW2D.out.size)); have hHeld := keep6 hHeld hb4; have HCELL4 := Lib.hid hHeld; clear hb4
                          refine ⟨_, rfl, hHeld, ?_⟩
                          simp only [Act.put, List.setIfInBounds_toArray, List.set_cons_zero, List.set_cons_succ]
                          refine T_light (a' := ?_) 130 rfl rfl rfl (of_decide_eq_true rfl) rfl hHeld (fun wq hSq K Q hK => ?_) ?_
                          rotate_left
                          · (go_step; exact hK)
                          refine T_light (a' := ?_) 131 rfl rfl rfl (of_decide_eq_true rfl) rfl hHeld (fun wq hSq K Q hK => ?_) ?_
                          rotate_left
                          · (go_step; exact hK)
                          refine T_light (a' := ?_) 132 rfl rfl rfl (of_decide_eq_true rfl) rfl hHeld (fun wq hSq K Q hK => ?_) ?_
                          rotate_left
                          · (go_step; exact hK)
                          refine T_light (a' := ?_) 133 rfl rfl rfl (of_decide_eq_true rfl) rfl hHeld (fun wq hSq K Q hK => ?_) ?_
                          rotate_left
                          · (go_step; exact hK)
                          refine T_light (a' := ?_) 134 rfl rfl rfl (of_decide_eq_true rfl) rfl hHeld (fun wq hSq K Q hK => ?_) ?_
                          rotate_left
                          · ((obtain ⟨r1, _, _, _, _, _⟩ := hSq; go_step); exact hK)
                          refine T_light (a' := ?_) 135 rfl rfl rfl (of_decide_eq_true rfl) rfl hHeld (fun wq hSq K Q hK => ?_) ?_
                          rotate_left
                          · (go_step; exact hK)
                          refine T_light (a' := ?_) 136 rfl rfl rfl (of_decide_eq_true rfl) rfl hHeld (fun wq hSq K Q hK => ?_) ?_
                          rotate_left
                          · (go_step; exact hK)
                          refine T_light (a' := ?_) 137 rfl rfl rfl (of_decide_eq_true rfl) rfl hHeld (fun wq hSq K Q hK => ?_) ?_
                          rotate_left
                          · (go_step; exact hK)
                          refine T_light (a' := ?_) 138 rfl rfl rfl (of_decide_eq_true rfl) rfl hHeld (fun wq hSq K Q hK => ?_) ?_
                          rotate_left
                          · ((obtain ⟨_, r1, _, _, _, _⟩ := hSq; go_step); exact hK)
                          refine T_light (a' := ?_) 139 rfl rfl rfl (of_decide_eq_true rfl) rfl hHeld (fun wq hSq K Q hK => ?_) ?_
                          rotate_left
                          · (go_step; exact hK)
                          refine T_light (a' := ?_) 140 rfl rfl rfl (of_decide_eq_true rfl) rfl hHeld (fun wq hSq K Q hK => ?_) ?_
                          rotate_left
                          · (go_step; exact hK)
                          refine T_pass2 (a' := ?_) 141 rfl rfl (by kernel_rfl) (fun K hK => ?_) ?_
                          rotate_left
                          · (simp only [Act.put, List.setIfInBounds_toArray, List.set_cons_zero, List.set_cons_succ]; exact hK)
                          refine T_pass2 (a' := ?_) 142 rfl rfl (by kernel_rfl) (fun K hK => ?_) ?_
                          rotate_left
                          · (simp only [Act.put, List.setIfInBounds_toArray, List.set_cons_zero, List.set_cons_succ]; exact hK)
                          refine T_pass2 (a' := ?_) 143 rfl rfl (by kernel_rfl) (fun K hK => ?_) ?_
                          rotate_left
                          · (simp only [Act.put, List.setIfInBounds_toArray, List.set_cons_zero, List.set_cons_succ]; exact hK)
                          refine T_pass2 (a' := ?_) 144 rfl rfl (by kernel_rfl) (fun K hK => ?_) ?_
                          rotate_left
                          · (simp only [Act.put, List.setIfInBounds_toArray, List.set_cons_zero, List.set_cons_succ]; exact hK)
                          refine T_pass2 (a' := ?_) 145 rfl rfl (by kernel_rfl) (fun K hK => ?_) ?_
                          rotate_left
                          · (simp only [Act.put, List.setIfInBounds_toArray, List.set_cons_zero, List.set_cons_succ]; exact hK)
                          refine T_pass2 (a' := ?_) 146 rfl rfl (by kernel_rfl) (fun K hK => ?_) ?_
                          rotate_left
                          · (simp only [Act.put, List.setIfInBounds_toArray, List.set_cons_zero, List.set_cons_succ]; exact hK)
                          refine T_pass2 (a' := ?_) 147 rfl rfl (by kernel_rfl) (fun K hK => ?_) ?_
                          rotate_left
                          · (simp only [Act.put, List.setIfInBounds_toArray, List.set_cons_zero, List.set_cons_succ]; exact hK)
                          refine T_pass2 (a' := ?_) 148 rfl rfl (by kernel_rfl) (fun K hK => ?_) ?_
                          rotate_left
                          · (simp only [Act.put, List.setIfInBounds_toArray, List.set_cons_zero, List.set_cons_succ]; exact hK)
                          refine T_pass2 (a' := ?_) 149 rfl rfl (by kernel_rfl) (fun K hK => ?_) ?_
                          rotate_left
                          · (simp only [Act.put, List.setIfInBounds_toArray, List.set_cons_zero, List.set_cons_succ]; exact hK)
                          refine T_pass2 (a' := ?_) 150 rfl rfl (by kernel_rfl) (fun K hK => ?_) ?_
                          rotate_left
                          · (simp only [Act.put, List.setIfInBounds_toArray, List.set_cons_zero, List.set_cons_succ]; exact hK)
                          refine T_pass2 (a' := ?_) 151 rfl rfl (by kernel_rfl) (fun K hK => ?_) ?_
                          rotate_left
                          · (simp only [Act.put, List.setIfInBounds_toArray, List.set_cons_zero, List.set_cons_succ]; exact hK)
                          refine T_pass2 (a' := ?_) 152 rfl rfl (by kernel_rfl) (fun K hK => ?_) ?_
                          rotate_left
                          · (simp only [Act.put, List.setIfInBounds_toArray, List.set_cons_zero, List.set_cons_succ]; exact hK)
                          refine T_pass2 (a' := ?_) 153 rfl rfl (by kernel_rfl) (fun K hK => ?_) ?_
                          rotate_left
                          · (simp only [Act.put, List.setIfInBounds_toArray, List.set_cons_zero, List.set_cons_succ]; exact hK)
                          refine T_pass2 (a' := ?_) 154 rfl rfl (by kernel_rfl) (fun K hK => ?_) ?_
                          rotate_left
                          · (simp only [Act.put, List.setIfInBounds_toArray, List.set_cons_zero, List.set_cons_succ]; exact hK)
                          refine T_pass2 (a' := ?_) 155 rfl rfl (by kernel_rfl) (fun K hK => ?_) ?_
                          rotate_left
                          · (simp only [Act.put, List.setIfInBounds_toArray, List.set_cons_zero, List.set_cons_succ]; exact hK)
                          refine T_light (a' := ?_) 156 rfl rfl rfl (of_decide_eq_true rfl) rfl hHeld (fun wq hSq K Q hK => ?_) ?_
                          rotate_left
                          · (go_step; exact hK)
                          refine T_light (a' := ?_) 157 rfl rfl rfl (of_decide_eq_true rfl) rfl hHeld (fun wq hSq K Q hK => ?_) ?_
                          rotate_left
                          · (go_step; exact hK)
                          refine T_done ?_
                          clear hHeld
                          go_wp2_with fail
                          have hHeld := (show (w4.drew.cell? (x.add i) = some (.int .u8 (n : Nat)) ∧ w4.drew.cell? (x.add k) = some (.int .u8 (m : Nat)) ∧ w4.drew.cell? ⟨B, i * 2, none⟩ = some (.int .u32 (p : Nat)) ∧ w4.drew.cell? ⟨B, i * 2 + 1, none⟩ = some (.int .u8 (n : Nat)) ∧ w4.drew.cell? ⟨B, k * 2, none⟩ = some (.int .u32 (q : Nat)) ∧ w4.drew.cell? ⟨B, k * 2 + 1, none⟩ = some (.int .u8 (m : Nat))) from HCELL4.out)
                          refine wp_region_T (fun w' => w'.cell? (x.add i) = some (.int .u8 (n : Nat)) ∧ w'.cell? (x.add k) = some (.int .u8 (m : Nat)) ∧ w'.cell? ⟨B, i * 2, none⟩ = some (.int .u32 (p : Nat)) ∧ w'.cell? ⟨B, i * 2 + 1, none⟩ = some (.int .u8 (n : Nat)) ∧ w'.cell? ⟨B, k * 2, none⟩ = some (.int .u32 (q : Nat)) ∧ w'.cell? ⟨B, k * 2 + 1, none⟩ = some (.int .u8 (m : Nat))) [.take 0, .take 1, .take 2, .take 3, .take 4, .take 5, .take 6, .take 7, .take 8, .take 9, .take 10, .take 11, .take 12, .take 13, .take 14, .take 15, .take 16, .take 17, .take 18, .take 19, .take 20, .take 21, .take 22, .take 23, .take 24, .take 25, .take 26, .take 27, .take 28, .take 29, .take 30, .take 31, .take 32] (by kernel_rfl) (by kernel_rfl) (fun _ _ _ _ _ h => h) hHeld ?_
                          refine T_light (a' := ?_) 158 rfl rfl rfl (of_decide_eq_true rfl) rfl hHeld (fun wq hSq K Q hK => ?_) ?_
                          rotate_left
                          · (go_step; exact hK)
                          refine T_light (a' := ?_) 159 rfl rfl rfl (of_decide_eq_true rfl) rfl hHeld (fun wq hSq K Q hK => ?_) ?_
                          rotate_left
                          · (go_step; exact hK)
                          refine T_light (a' := ?_) 160 rfl rfl rfl (of_decide_eq_true rfl) rfl hHeld (fun wq hSq K Q hK => ?_) ?_
                          rotate_left
                          · (go_step; exact hK)
                          refine T_light (a' := ?_) 161 rfl rfl rfl (of_decide_eq_true rfl) rfl hHeld (fun wq hSq K Q hK => ?_) ?_
                          rotate_left
                          · ((obtain ⟨r1, _, _, _, _, _⟩ := hSq; go_step); exact hK)
                          refine T_light (a' := ?_) 162 rfl rfl rfl (of_decide_eq_true rfl) rfl hHeld (fun wq hSq K Q hK => ?_) ?_
                          rotate_left
                          · (go_step; exact hK)
                          refine T_light (a' := ?_) 163 rfl rfl rfl (of_decide_eq_true rfl) rfl hHeld (fun wq hSq K Q hK => ?_) ?_
                          rotate_left
                          · (go_step; exact hK)
                          refine T_light (a' := ?_) 164 rfl rfl rfl (of_decide_eq_true rfl) rfl hHeld (fun wq hSq K Q hK => ?_) ?_
                          rotate_left
                          · (go_step; exact hK)
                          refine T_light (a' := ?_) 165 rfl rfl rfl (of_decide_eq_true rfl) rfl hHeld (fun wq hSq K Q hK => ?_) ?_
                          rotate_left
                          · ((obtain ⟨_, r1, _, _, _, _⟩ := hSq; go_step); exact hK)
                          refine T_light (a' := ?_) 166 rfl rfl rfl (of_decide_eq_true rfl) rfl hHeld (fun wq hSq K Q hK => ?_) ?_
                          rotate_left
                          · (go_step; exact hK)
                          refine T_light (a' := ?_) 167 rfl rfl rfl (of_decide_eq_true rfl) rfl hHeld (fun wq hSq K Q hK => ?_) ?_
                          rotate_left
                          · (go_step; exact hK)
                          refine T_pass2 (a' := ?_) 168 rfl rfl (by kernel_rfl) (fun K hK => ?_) ?_
                          rotate_left
                          · (simp only [Act.put, List.setIfInBounds_toArray, List.set_cons_zero, List.set_cons_succ]; exact hK)
                          refine T_pass2 (a' := ?_) 169 rfl rfl (by kernel_rfl) (fun K hK => ?_) ?_
                          rotate_left
                          · (simp only [Act.put, List.setIfInBounds_toArray, List.set_cons_zero, List.set_cons_succ]; exact hK)
                          refine T_pass2 (a' := ?_) 170 rfl rfl (by kernel_rfl) (fun K hK => ?_) ?_
                          rotate_left
                          · (simp only [Act.put, List.setIfInBounds_toArray, List.set_cons_zero, List.set_cons_succ]; exact hK)
                          refine T_pass2 (a' := ?_) 171 rfl rfl (by kernel_rfl) (fun K hK => ?_) ?_
                          rotate_left
                          · (simp only [Act.put, List.setIfInBounds_toArray, List.set_cons_zero, List.set_cons_succ]; exact hK)
                          refine T_pass2 (a' := ?_) 172 rfl rfl (by kernel_rfl) (fun K hK => ?_) ?_
                          rotate_left
                          · (simp only [Act.put, List.setIfInBounds_toArray, List.set_cons_zero, List.set_cons_succ]; exact hK)
                          refine T_pass2 (a' := ?_) 173 rfl rfl (by kernel_rfl) (fun K hK => ?_) ?_
                          rotate_left
                          · (simp only [Act.put, List.setIfInBounds_toArray, List.set_cons_zero, List.set_cons_succ]; exact hK)
                          refine T_pass2 (a' := ?_) 174 rfl rfl (by kernel_rfl) (fun K hK => ?_) ?_
                          rotate_left
                          · (simp only [Act.put, List.setIfInBounds_toArray, List.set_cons_zero, List.set_cons_succ]; exact hK)
                          refine T_pass2 (a' := ?_) 175 rfl rfl (by kernel_rfl) (fun K hK => ?_) ?_
                          rotate_left
                          · (simp only [Act.put, List.setIfInBounds_toArray, List.set_cons_zero, List.set_cons_succ]; exact hK)
                          refine T_pass2 (a' := ?_) 176 rfl rfl (by kernel_rfl) (fun K hK => ?_) ?_
                          rotate_left
                          · (simp only [Act.put, List.setIfInBounds_toArray, List.set_cons_zero, List.set_cons_succ]; exact hK)
                          refine T_pass2 (a' := ?_) 177 rfl rfl (by kernel_rfl) (fun K hK => ?_) ?_
                          rotate_left
                          · (simp only [Act.put, List.setIfInBounds_toArray, List.set_cons_zero, List.set_cons_succ]; exact hK)
                          refine T_pass2 (a' := ?_) 178 rfl rfl (by kernel_rfl) (fun K hK => ?_) ?_
                          rotate_left
                          · (simp only [Act.put, List.setIfInBounds_toArray, List.set_cons_zero, List.set_cons_succ]; exact hK)
                          refine T_pass2 (a' := ?_) 179 rfl rfl (by kernel_rfl) (fun K hK => ?_) ?_
                          rotate_left
                          · (simp only [Act.put, List.setIfInBounds_toArray, List.set_cons_zero, List.set_cons_succ]; exact hK)
                          refine T_pass2 (a' := ?_) 180 rfl rfl (by kernel_rfl) (fun K hK => ?_) ?_
                          rotate_left
                          · (simp only [Act.put, List.setIfInBounds_toArray, List.set_cons_zero, List.set_cons_succ]; exact hK)
                          refine T_pass2 (a' := ?_) 181 rfl rfl (by kernel_rfl) (fun K hK => ?_) ?_
                          rotate_left
                          · (simp only [Act.put, List.setIfInBounds_toArray, List.set_cons_zero, List.set_cons_succ]; exact hK)
                          refine T_pass2 (a' := ?_) 182 rfl rfl (by kernel_rfl) (fun K hK => ?_) ?_
                          rotate_left
                          · (simp only [Act.put, List.setIfInBounds_toArray, List.set_cons_zero, List.set_cons_succ]; exact hK)
                          refine T_pass2 (a' := ?_) 183 rfl rfl (by kernel_rfl) (fun K hK => ?_) ?_
                          rotate_left
                          · (simp only [Act.put, List.setIfInBounds_toArray, List.set_cons_zero, List.set_cons_succ]; exact hK)
                          refine T_pass2 (a' := ?_) 184 rfl rfl (by kernel_rfl) (fun K hK => ?_) ?_
                          rotate_left
                          · (simp only [Act.put, List.setIfInBounds_toArray, List.set_cons_zero, List.set_cons_succ]; exact hK)
                          refine T_pass2 (a' := ?_) 185 rfl rfl (by kernel_rfl) (fun K hK => ?_) ?_
                          rotate_left
                          · (simp only [Act.put, List.setIfInBounds_toArray, List.set_cons_zero, List.set_cons_succ]; exact hK)
                          refine T_pass2 (a' := ?_) 186 rfl rfl (by kernel_rfl) (fun K hK => ?_) ?_
                          rotate_left
                          · (simp only [Act.put, List.setIfInBounds_toArray, List.set_cons_zero, List.set_cons_succ]; exact hK)
                          refine T_pass2 (a' := ?_) 187 rfl rfl (by kernel_rfl) (fun K hK => ?_) ?_
                          rotate_left
                          · (simp only [Act.put, List.setIfInBounds_toArray, List.set_cons_zero, List.set_cons_succ]; exact hK)
                          refine T_pass2 (a' := ?_) 188 rfl rfl (by kernel_rfl) (fun K hK => ?_) ?_
                          rotate_left
                          · (simp only [Act.put, List.setIfInBounds_toArray, List.set_cons_zero, List.set_cons_succ]; exact hK)
                          refine T_pass2 (a' := ?_) 189 rfl rfl (by kernel_rfl) (fun K hK => ?_) ?_
                          rotate_left
                          · (simp only [Act.put, List.setIfInBounds_toArray, List.set_cons_zero, List.set_cons_succ]; exact hK)
                          refine T_light (a' := ?_) 190 rfl rfl rfl (of_decide_eq_true rfl) rfl hHeld (fun wq hSq K Q hK => ?_) ?_
                          rotate_left
                          · (go_step; exact hK)
                          refine T_done ?_
                          clear hHeld
                          go_wp2_with fail
                          go_roundg g
                          case measure => exact Nat.lt_succ_self g
                          case rel => exact ⟨k + 1, by rw [ek], Lib.hid (nt_nx HI2.out), by first | exact HB4 | exact Lib.hid HB4.out.drew | exact Lib.hid HB4.out.drew.drew⟩
end Go.Proofs.Ytogpjdiammecjaa.Apart
