/-
  Parse: what the document's 'May' and 'Text' come to, of tokens that are a text (contracts, by hand).
-/
import Derived.Test.YtolkmjclldjkkaaPh
import Derived.Test.YtolkmjclldjkkaaMd
import Derived.Test.YtolkmjclldjkkaaBy
set_option linter.unusedSimpArgs false
set_option linter.unusedVariables false
namespace Go.Proofs.Ytolkmjclldjkkaa
open Go.RowKit

theorem mt_y1 {n d : Nat} (h : 3 ≤ n ∧ n ≤ 258 ∧ 1 ≤ d ∧ d ≤ 32768) : ((n : Int) == 0) = false ∧ decide (n = 0) = false ∧ decide ((3 : Int) ≤ (n : Int)) = true ∧ decide ((n : Int) ≤ 258) = true ∧ decide ((1 : Int) ≤ (d : Int)) = true ∧ decide ((d : Int) ≤ 32768) = true ∧ decide (3 ≤ n) = true ∧ decide (n ≤ 258) = true ∧ decide (1 ≤ d) = true := by
  refine ⟨?_, ?_, ?_, ?_, ?_, ?_, ?_, ?_, ?_⟩
  · rw [beq_eq_false_iff_ne]; omega
  · rw [decide_eq_false_iff_not]; omega
  all_goals (rw [decide_eq_true_eq]; omega)
theorem may_ok (t : Nat × Nat × Nat) (ht : okT t) (w : World) : Calls Try.prog 24 #[.agg #[.int .u8 (t.1 : Nat), .int .i64 (t.2.1 : Nat), .int .i64 (t.2.2 : Nat)]] w fun e w' => e = .returned (.bool true) ∧ Below w.heap.size w w' := by
  obtain ⟨a, n, d⟩ := t
  rcases ht with ⟨h1, h2⟩ | ⟨h0, h⟩
  · obtain rfl : n = 0 := h1
    obtain rfl : d = 0 := h2
    go_enter Try.func24, Try.ntmps24
    obtain ⟨q0, q1, q2⟩ := new3 w (.int .u8 (a : Nat)) (.int .i64 0) (.int .i64 0) 55
    go_wp2_with fail
    go_ret
    exact ⟨rfl, (Below.refl _ w).alloc (Nat.le_refl _) _⟩
  · obtain rfl : a = 0 := h0
    obtain ⟨e1, e2, e3, e4, e5, e6, e7, e8, e9⟩ := mt_y1 h
    clear h
    go_enter Try.func24, Try.ntmps24
    obtain ⟨q0, q1, q2⟩ := new3 w (.int .u8 0) (.int .i64 (n : Nat)) (.int .i64 (d : Nat)) 55
    go_wp2_with fail
    go_ret
    exact ⟨rfl, (Below.refl _ w).alloc (Nat.le_refl _) _⟩
theorem info5 : (Try.prog.info? 5).map (fun i => (i.zero, i.size, i.bytes)) = some (some (.int .u8 0), 1, 1) := by kernel_rfl
/-- what the rounds of 'Text' keep: the bytes so far, and what lay below -/
theorem BRow.form1 {w : World} {base : Nat} {e : TypeId} {v u : Value} {xs : List Value} (h : BRow w base e v (xs ++ [u])) : ∃ g cap, v = .slice (some ⟨g, 0, none⟩) (xs.length + 1) cap := by
  obtain ⟨g, cap, rfl, _⟩ := h.form
  exact ⟨g, cap, by simp⟩
theorem brow_more {w W w1 : World} {v : Value} {xs : List Value} {tmp : Obj} (hB : Below w.heap.size w W) (hr : BRow W w.heap.size 5 v xs) (hg : (W.alloc tmp).grownBy w1 v.ownBlock) :
    Below w.heap.size w w1 ∧ ∀ (k : Nat) (cs : Array Value) (t : TypeId) (z : Nat × Nat), W.heap[k]? = some (.cells cs t z) → t ≠ 5 → w1.heap[k]? = some (.cells cs t z) := by
  refine ⟨(hB.alloc hB.size tmp).grown hg (by have := hB.size; simp; omega) fun j ej => ?_, fun k cs t z hk ht => ?_⟩
  · exact (hr.lt j ej).1
  · have hlt := (Array.getElem?_eq_some_iff.1 hk).1
    refine (hg.block k (by simp; omega) fun e => ?_).trans ((Below.heap_alloc W tmp k hlt).trans hk)
    obtain ⟨g, cap, cur, fz, rfl, _, hgg, _⟩ := hr
    obtain rfl : k = g := by simpa [Value.ownBlock] using e
    rw [hk] at hgg; cases hgg; exact ht rfl
theorem cut35 (g n c m : Nat) (hm : m ≤ n) (hc : n ≤ c) :
    ∃ o : Nat, (∀ W : World, (Instr.slice 35 (.slice (some ⟨g, 0, none⟩) n c) (some (.int .i64 (m : Int))) none none).run Try.prog W = .ok (.slice (some ⟨g, o, none⟩) (n - m) (c - m)) W) ∧ (n = m ∨ o = m) := by
  have hi : (Try.prog.info? 5).map (·.size) = some 1 := by kernel_rfl
  obtain ⟨i5, h5, h5s⟩ := Option.map_eq_some_iff.1 hi
  refine ⟨if c = m then 0 else m, fun W => ?_, ?_⟩
  · have hel : Try.prog.elem 35 = 5 := by kernel_rfl
    have hu : Try.prog.underlying 35 = some (.slice (Try.prog.elem 35)) := by rw [hel]; exact Try.underlying35
    rw [run_slice_l W 35 (some ⟨g, 0, none⟩) n c hu .i64 (m : Int) (Int.natCast_nonneg _) (by omega), hel]
    by_cases e : c = m
    · simp [sizeOf, typeInfo, h5, h5s, sliced, Result.andThen, e]
    · simp [sizeOf, typeInfo, h5, h5s, sliced, Result.andThen, e, Addr.add_lit]
  · by_cases e : c = m
    · left; omega
    · right; rw [if_neg e]
theorem tok_cells {w : World} {B : Nat} {u v x : Value} {t : TypeId} (h : w.heap[B]? = some (.cells #[u, v, x] t (0, 0))) : w.cell? ⟨B, 0, none⟩ = some u ∧ w.cell? ⟨B, 1, none⟩ = some v ∧ w.cell? ⟨B, 2, none⟩ = some x := by
  refine ⟨?_, ?_, ?_⟩ <;> (unfold World.cell?; rw [h]; rfl)
theorem numsV_snoc (k : IntKind) (L : List Nat) (x : Nat) : numsV k (L ++ [x]) = numsV k L ++ [.int k (x : Nat)] := by simp [numsV]
theorem take_len {L : List Nat} {a : Nat} (h : a ≤ L.length) : (numsV .u8 (L.take a)).length = a := by rw [numsV_length, List.length_take]; omega
theorem mt_x1 {i n : Nat} (h : i < n) (h2 : n ≤ 100000) : wrap64 ((i : Int) + 1) = ((i + 1 : Nat) : Int) := by unfold wrap64; omega
theorem mt_x2 {a n S : Nat} (h : n ≤ a) (ha : a ≤ S) (hS : S ≤ 100000) : ∃ m : Nat, wrap64 ((a : Int) - (n : Int)) = (m : Int) ∧ m ≤ 100000 ∧ a = n + m := ⟨a - n, by unfold wrap64; omega, by omega, by omega⟩
theorem mt_x3 {m N : Nat} (h : m ≤ 100000) (hN : N ≤ 258) : wrap64 ((m : Int) + (N : Int)) = (m : Int) + (N : Int) ∧ decide ((1048576 : Int) < (m : Int) + (N : Int)) = false ∧ wrap64 ((m : Int) + 1) = (m : Int) + 1 ∧ decide ((1048576 : Int) < (m : Int) + 1) = false := by
  refine ⟨by unfold wrap64; omega, ?_, by unfold wrap64; omega, ?_⟩
  all_goals (rw [decide_eq_false_iff_not]; omega)
theorem mt_x4 {a : Nat} : decide ((a : Int) < 0) = false := by rw [decide_eq_false_iff_not]; omega
theorem mt_x6 {a S : Nat} (h : a ≤ S) (hS : S ≤ 100000) : a + 1 ≤ 140737488355328 := by omega
theorem mt_x7 {N D a : Nat} (h : 3 ≤ N) (h2 : N ≤ 258) (h3 : D ≤ a) : decide ((a : Int) < (D : Int)) = false ∧ decide (a < D) = false ∧ ((N : Int) == 0) = false ∧ decide (N = 0) = false ∧ ¬ ((N : Int) < 1) := by
  refine ⟨?_, ?_, ?_, ?_, by omega⟩
  · rw [decide_eq_false_iff_not]; omega
  · rw [decide_eq_false_iff_not]; omega
  · rw [beq_eq_false_iff_ne]; omega
  · rw [decide_eq_false_iff_not]; omega
theorem mt_x8 {j N a c S : Nat} (h : j < N) (h2 : N ≤ 258) (hc : a + j = c) (hf : a + N ≤ S) : wrap64 ((j : Int) + 1) = ((j + 1 : Nat) : Int) ∧ c < S := by unfold wrap64; omega
theorem mt_x9 {j a c D : Nat} (hc : a + j = c) (h : D ≤ a) : D ≤ c := by omega
theorem mt_xa {j a c D x : Nat} (hx : x + D = c) (hc : a + j = c) (h : D ≤ a) : a - D + j = x := by omega
theorem mt_x5 {c D S : Nat} (h : D ≤ c) (h1 : 1 ≤ D) (hc : c ≤ S) (hS : S ≤ 100000) : ∃ x : Nat, wrap64 ((c : Int) - (D : Int)) = (x : Int) ∧ x + D = c ∧ x < c ∧ (0 : Int) ≤ (x : Int) ∧ (x : Int) < (c : Int) := ⟨c - D, by unfold wrap64; omega, by omega, by omega, by omega, by omega⟩
set_option maxRecDepth 100000 in
set_option maxHeartbeats 8000000 in
theorem text_any (d : ByteArray) (L : List Nat) (ts : List (Nat × Nat × Nat)) (v : Value) (w : World) (hd : L.take d.size = byteL d) (hL : L.length ≤ 100000) (hdl : d.size ≤ L.length) (h256 : ∀ x ∈ L, x < 256) (hp : Path L d.size ts L.length) (ht : ToksAt w v ts) (htl : ts.length ≤ 100000) :
    Calls Try.prog 25 #[.string d, v] w fun e w' => e = .returned (.tuple #[.string (textOf (L.drop d.size)), .int .i64 0]) ∧ Below w.heap.size w w' := by
  obtain ⟨a0, c0, rfl, h1⟩ := ht
  have H1 := Lib.hid h1
  have HL := Lib.hid (And.intro hL (And.intro hdl (And.intro h256 htl)))
  have HP := Lib.hid hp
  obtain ⟨v0, w1, hcv, hb1, hr1⟩ := brow_of_string (P := Try.prog) w 9 35 5 d Try.underlying9 Try.underlying35 Try.underlying5
  rw [← hd] at hr1
  obtain ⟨g0, cap0, rfl, _, _⟩ := hr1.form
  have HR1 := Lib.hid hr1
  have HB1 := Lib.hid hb1
  obtain ⟨S, hS⟩ : ∃ S, textOf (L.drop d.size) = S := ⟨_, rfl⟩
  rw [hS]
  have HS := Lib.hid hS
  obtain ⟨n, hn⟩ : ∃ n, ts.length = n := ⟨_, rfl⟩
  rw [hn]
  have HN := Lib.hid hn
  obtain ⟨i5, hi5, hz0, hz1, hz2⟩ := info_parts info5
  clear h1 hL hdl h256 hp hb1 hr1 hS htl hn hd
  go_enter Try.func25, Try.ntmps25
  go_wp2_with fail
  clear hcv
  go_loopg [6, 7, 8, 9] n (fun f s6 s7 s8 s9 wx => ∃ (i a : Nat), s7 = .int .i64 (i : Int) ∧ Hid (i + f = n) ∧ Hid (Path L a (ts.drop i) L.length ∧ d.size ≤ a) ∧ Hid (BRow wx w.heap.size 5 s6 (numsV .u8 (L.take a))) ∧ Hid (Below w.heap.size w wx))
  case atStart => exact ⟨0, d.size, rfl, Lib.hid (Nat.zero_add _), Lib.hid ⟨HP.out, Nat.le_refl _⟩, HR1, HB1⟩
  case round =>
    obtain ⟨i, a, rfl, HI, HPA, HR, HB⟩ := hrel
    have haL := HPA.out.1.le
    obtain ⟨g, cap, rfl, hlc, hgb⟩ := HR.out.form
    rw [take_len haL] at HR hlc ⊢
    have HAL := Lib.hid haL
    have HLC := Lib.hid hlc
    clear haL hlc hgb
    cases gk with
    | zero =>
      obtain rfl : i = n := HI.out
      obtain ⟨i1, i2⟩ := pt_ge (Nat.lt_irrefl i)
      have haa : a = L.length := by
        have h := HPA.out.1
        rw [← HN.out, List.drop_length] at h
        exact h
      subst haa
      obtain ⟨o, hcut, ho⟩ := cut35 g L.length cap d.size HL.out.2.1 HLC.out
      have hcv : (convert 35 9 (.slice (some ⟨g, o, none⟩) (L.length - d.size) (cap - d.size))).run Try.prog wr = .ok (.string S) wr := by
        rw [← HS.out]
        exact string_of_row 35 9 5 Try.underlying35 Try.underlying5 Try.underlying9 (cap - d.size) (L.length - d.size) (L.drop d.size) (fun x hx => HL.out.2.2.1 x (List.mem_of_mem_drop hx)) (by simp) (fun i m hi => by
          have hi' := (List.getElem?_eq_some_iff.1 hi).1
          rw [List.length_drop] at hi'
          have : o = d.size := ho.resolve_left (by omega)
          subst this
          rw [List.getElem?_drop] at hi
          exact HR.out.cell (numsV_get (by rw [List.take_length]; exact hi)))
      clear ho
      go_wp2_with fail
      refine bodyPost_ret (results_tmp2 rfl _ _ _) rfl ⟨rfl, HB.out⟩
    | succ f =>
      have hi : i < n := pt_nl HI.out
      obtain ⟨i1, i2⟩ := pt_lt hi
      have ei := mt_x1 hi (by rw [← HN.out]; exact HL.out.2.2.2)
      have n0 : (0 : Int) ≤ (i : Int) := Int.natCast_nonneg i
      have n1 : (i : Int) < (n : Int) := Int.ofNat_lt.2 hi
      obtain ⟨t, ht⟩ : ∃ t, ts[i]? = some t := ⟨ts[i]'(by rw [HN.out]; exact hi), List.getElem?_eq_getElem _⟩
      obtain ⟨b, hab, hpb⟩ := HPA.out.1.drop ht
      obtain ⟨gt, rfl, p0, p1, p2⟩ := H1.out i t ht
      have q0 := (HB.out.cell (World.block_lt_of_cell? _ _ p0)).trans p0
      have q1 := (HB.out.cell (World.block_lt_of_cell? _ _ p1)).trans p1
      have q2 := (HB.out.cell (World.block_lt_of_cell? _ _ p2)).trans p2
      have HOK := Lib.hid hab.ok
      have HPB := Lib.hid hpb
      have HNX := Lib.hid hab.next
      obtain ⟨m, em, hm, ham⟩ := mt_x2 HPA.out.2 HAL.out HL.out.1
      have HM := Lib.hid (And.intro hm ham)
      clear hpb p0 p1 p2 hi ht hm ham
      obtain ⟨TB, hTB⟩ : ∃ TB, wr.heap.size = TB := ⟨_, rfl⟩
      rcases hab with ⟨rfl, rfl, halt⟩ | ⟨ov, mm, hM, rfl, rfl⟩
      · unfold litT at *
        have HLT := Lib.hid halt
        clear halt
        obtain ⟨x, hx⟩ : ∃ x, L.getD a 0 = x := ⟨_, rfl⟩
        rw [hx] at q0
        have HX := Lib.hid hx
        clear hx
        go_wp2_with fail
        refine (may_ok (x, 0, 0) (.inl ⟨rfl, rfl⟩) _).mono ?_
        rintro e w3 ⟨rfl, hb⟩
        have hbA : Below wr.heap.size wr (wr.alloc (.cells #[.int .u8 (x : Nat), .int .i64 0, .int .i64 0] 55)) := (Below.refl _ wr).alloc (Nat.le_refl _) _
        have hb3 : Below wr.heap.size wr w3 := hbA.trans (hb.mono hbA.size)
        have h3 : w3.heap[TB]? = some (.cells #[.int .u8 (x : Nat), .int .i64 0, .int .i64 0] 55 (0, 0)) := (hb.block TB (by rw [← hTB]; simp)).trans (by rw [← hTB]; exact heap_alloc_last wr _)
        have HR3 := Lib.hid (HR.out.below hb3)
        have HB3 := Lib.hid (HB.out.trans (hb3.mono HB.out.size))
        have H3 := Lib.hid h3
        obtain ⟨y0, y1, y2⟩ := tok_cells h3
        obtain ⟨e1, e2, e3, e4⟩ := mt_x3 (N := 0) HM.out.1 (by decide)
        have e5 := @mt_x4 a
        clear hb hbA hb3 h3 hTB q0 q1 q2 e1 e2 HR
        have HRa := Lib.hid (HR3.out.below ((Below.refl w3.heap.size w3).alloc (Nat.le_refl _) (.cells #[.int .u8 (x : Nat)] 5)))
        have HLa := Lib.hid (show (numsV .u8 (L.take a)).length + 1 ≤ 140737488355328 by rw [take_len HAL.out]; exact mt_x6 HAL.out HL.out.1)
        have HBa := Lib.hid (show w.heap.size ≤ (w3.alloc (.cells #[.int .u8 (x : Nat)] 5)).heap.size from Nat.le_trans HB3.out.size (by simp))
        have HCa := Lib.hid (show (w3.alloc (.cells #[.int .u8 (x : Nat)] 5)).cell? ⟨w3.heap.size, 0, none⟩ = some (.int .u8 (x : Nat)) from cell_blk (heap_alloc_last w3 _) 0)
        go_wp2_with (at_builtin; refine wpList_append_b rfl _ _ 35 rfl w.heap.size 5 i5 (.int .u8 0) Try.underlying35 hi5 hz0 hz1 hz2 rfl _ (numsV .u8 (L.take a)) rfl HRa.out ⟨w3.heap.size, 0, none⟩ 1 (.int .u8 (x : Nat)) rfl HCa.out rfl HLa.out HBa.out ?_; intro v4 w4 hown4 hgrow4; obtain ⟨g4, cap4, rfl⟩ := hown4.form1; obtain ⟨hb4, hk4⟩ := brow_more HB3.out HR3.out hgrow4; have h4 := hk4 _ _ _ _ H3.out (by decide); have HB4 := Lib.hid hb4; have HR4 := Lib.hid hown4; obtain ⟨y0, y1, y2⟩ := tok_cells h4; clear hown4 hgrow4 hb4 hk4 h4)
        have HR5 := Lib.hid (show BRow w4 w.heap.size 5 (.slice (some ⟨g4, 0, none⟩) ((numsV .u8 (L.take a)).length + 1) cap4) (numsV .u8 (L.take (a + 1))) by rw [← take_one HLT.out, numsV_snoc, HX.out]; exact HR4.out)
        clear HRa HLa HBa HCa HR4 HR3 H3 e3 e4 e5
        go_loopg [6, 9] 0 (fun f s6 s9 wx => s6 = .slice (some ⟨g4, 0, none⟩) ((numsV .u8 (L.take a)).length + 1) cap4 ∧ s9 = .int .i64 0 ∧ wx = w4)
        case atStart => exact ⟨rfl, rfl, rfl⟩
        case round =>
          obtain ⟨rfl, rfl, rfl⟩ := hrel
          go_wp2_with fail
          go_roundg f
          case measure => exact Nat.lt_succ_self f
          case rel => exact ⟨i + 1, a + 1, by rw [ei], Lib.hid (pt_nx HI.out), Lib.hid ⟨HPB.out, Nat.le_succ_of_le HPA.out.2⟩, HR5, HB4⟩
      · obtain ⟨N, D⟩ := mm
        have HMA := Lib.hid hM
        obtain ⟨f1, f2, f3, f4, f5⟩ := mt_x7 hM.three hM.top hM.back
        obtain ⟨e1, e2, e3, e4⟩ := mt_x3 HM.out.1 hM.top
        clear hM e3 e4
        go_wp2_with fail
        refine (may_ok (0, N, D) HOK.out _).mono ?_
        rintro e w3 ⟨rfl, hb⟩
        have hbA : Below wr.heap.size wr (wr.alloc (.cells #[.int .u8 0, .int .i64 (N : Nat), .int .i64 (D : Nat)] 55)) := (Below.refl _ wr).alloc (Nat.le_refl _) _
        have hb3 : Below wr.heap.size wr w3 := hbA.trans (hb.mono hbA.size)
        have h3 : w3.heap[TB]? = some (.cells #[.int .u8 0, .int .i64 (N : Nat), .int .i64 (D : Nat)] 55 (0, 0)) := (hb.block TB (by rw [← hTB]; simp)).trans (by rw [← hTB]; exact heap_alloc_last wr _)
        have HR3 := Lib.hid (HR.out.below hb3)
        have HB3 := Lib.hid (HB.out.trans (hb3.mono HB.out.size))
        have H3 := Lib.hid h3
        obtain ⟨y0, y1, y2⟩ := tok_cells h3
        clear hb hbA hb3 h3 hTB q0 q1 q2 HR
        go_wp2_with fail
        clear e1 e2 f1 f2 f3 f4 f5 y0 y1 y2 n0 n1 i1 i2 em
        go_loopg [6, 9] N (fun f s6 s9 wx => ∃ j : Nat, s9 = .int .i64 (j : Int) ∧ Hid (j + f = N) ∧ Hid (BRow wx w.heap.size 5 s6 (numsV .u8 (L.take (a + j)))) ∧ Hid (wx.heap[TB]? = some (.cells #[.int .u8 0, .int .i64 (N : Nat), .int .i64 (D : Nat)] 55 (0, 0))) ∧ Hid (Below w.heap.size w wx))
        case atStart => exact ⟨0, rfl, Lib.hid (Nat.zero_add _), HR3, H3, HB3⟩
        case round =>
          clear HR3 H3 HB3
          obtain ⟨j, rfl, HJ, HR3, H3, HB3⟩ := hrel
          obtain ⟨y0, y1, y2⟩ := tok_cells H3.out
          cases gk with
          | zero =>
            obtain rfl : j = N := HJ.out
            obtain ⟨k1, k2⟩ := pt_ge (Nat.lt_irrefl j)
            go_wp2_with fail
            go_roundg f
            case measure => exact Nat.lt_succ_self f
            case rel => exact ⟨i + 1, a + j, by rw [ei], Lib.hid (pt_nx HI.out), Lib.hid ⟨HPB.out, Nat.le_add_right_of_le HPA.out.2⟩, HR3, HB3⟩
          | succ f2 =>
            have hj : j < N := pt_nl HJ.out
            obtain ⟨k1, k2⟩ := pt_lt hj
            obtain ⟨c, hc⟩ : ∃ c, a + j = c := ⟨_, rfl⟩
            obtain ⟨ej, hcL⟩ := mt_x8 hj HMA.out.top hc HMA.out.fits
            obtain ⟨x, ex, hx, hxc, n2, n3⟩ := mt_x5 (mt_x9 hc HMA.out.back) HMA.out.near (Nat.le_of_lt hcL) HL.out.1
            have hsame := HMA.out.same j hj
            simp only [] at hsame
            rw [mt_xa hx hc HMA.out.back, hc] at hsame
            rw [hc] at HR3
            obtain ⟨g5, cap5, rfl, _, _⟩ := HR3.out.form
            rw [take_len (Nat.le_of_lt hcL)] at HR3 ⊢
            obtain ⟨y, hy⟩ : ∃ y, L.getD c 0 = y := ⟨_, rfl⟩
            have z0 : wr.cell? ⟨g5, x, none⟩ = some (.int .u8 (y : Nat)) := HR3.out.cell (numsV_get (by rw [take_get hxc (Nat.le_of_lt hcL), hsame, hy]))
            have HC := Lib.hid (And.intro hc (And.intro hcL hy))
            clear hc hcL hy hsame hj hx hxc
            have HRa := Lib.hid (HR3.out.below ((Below.refl wr.heap.size wr).alloc (Nat.le_refl _) (.cells #[.int .u8 (y : Nat)] 5)))
            have HLa := Lib.hid (show (numsV .u8 (L.take c)).length + 1 ≤ 140737488355328 by rw [take_len (Nat.le_of_lt HC.out.2.1)]; exact mt_x6 (Nat.le_of_lt HC.out.2.1) HL.out.1)
            have HBa := Lib.hid (show w.heap.size ≤ (wr.alloc (.cells #[.int .u8 (y : Nat)] 5)).heap.size from Nat.le_trans HB3.out.size (by simp))
            have HCa := Lib.hid (show (wr.alloc (.cells #[.int .u8 (y : Nat)] 5)).cell? ⟨wr.heap.size, 0, none⟩ = some (.int .u8 (y : Nat)) from cell_blk (heap_alloc_last wr _) 0)
            go_wp2_with (at_builtin; refine wpList_append_b rfl _ _ 35 rfl w.heap.size 5 i5 (.int .u8 0) Try.underlying35 hi5 hz0 hz1 hz2 rfl _ (numsV .u8 (L.take c)) rfl HRa.out ⟨wr.heap.size, 0, none⟩ 1 (.int .u8 (y : Nat)) rfl HCa.out rfl HLa.out HBa.out ?_; intro v4 w4 hown4 hgrow4; obtain ⟨g4, cap4, rfl⟩ := hown4.form1; obtain ⟨hb4, hk4⟩ := brow_more HB3.out HR3.out hgrow4; have H4 := Lib.hid (hk4 _ _ _ _ H3.out (by decide)); have HB4 := Lib.hid hb4; have HR4 := Lib.hid hown4; clear hown4 hgrow4 hb4 hk4)
            have HR5 := Lib.hid (show BRow w4 w.heap.size 5 (.slice (some ⟨g4, 0, none⟩) ((numsV .u8 (L.take c)).length + 1) cap4) (numsV .u8 (L.take (a + (j + 1)))) by rw [← Nat.add_assoc, HC.out.1, ← take_one HC.out.2.1, numsV_snoc, HC.out.2.2]; exact HR4.out)
            go_roundg f2
            case measure => exact Nat.lt_succ_self f2
            case rel => exact ⟨j + 1, by first | rw [ej] | rfl, Lib.hid (pt_nx HJ.out), HR5, H4, HB4⟩
end Go.Proofs.Ytolkmjclldjkkaa
