/-
  Parse: what the document's 'Tokens' comes to (a contract, by hand).
-/
import Derived.Test.YtolkmjclldjkkaaQd
set_option linter.unusedSimpArgs false
set_option linter.unusedVariables false
namespace Go.Proofs.Ytolkmjclldjkkaa
open Go.RowKit

theorem Rf.down {W : World} {n n₀ B G : Nat} {s : ByteArray} {k : Nat} (h : Rf W n B G s k) (hn : n₀ ≤ n) : Rf W n₀ B G s k := ⟨h.blk, h.row, ⟨Nat.le_trans hn h.low.1, Nat.le_trans hn h.low.2⟩, Nat.le_trans hn h.size⟩
/-- the document's parse under way: its tokens, its finder, its row -/
structure Rs (w W : World) (B G Q : Nat) (s : ByteArray) (r : Nat × Nat × Nat) (j : Nat) (v : Value) (ts : List (Nat × Nat × Nat)) : Prop where
  row : W.ownsRow w.heap.size 55 3 v ts.length (tksC ts)
  fnd : Rf W w.heap.size B G s j
  lev : W.heap[Q]? = some (.cells #[.int .i64 (r.1 : Nat), .int .i64 (r.2.1 : Nat), .int .i64 (r.2.2 : Nat)] 48 (0, 0))
  below : Below w.heap.size w W
theorem own_keepR {n m : Nat} {W W' : World} {v : Value} {xs : List Value} (h : W.ownsRow n 55 3 v m xs) (k : KeepR n W W') : W'.ownsRow n 55 3 v m xs := by
  refine ⟨h.1, ?_⟩
  rcases h.2 with h0 | ⟨g, cap, cur, e1, e2, e3, e4⟩
  · exact .inl h0
  · exact .inr ⟨g, cap, cur, e1, e2, k.cells _ _ _ _ e3 (by decide) (by decide), e4⟩
theorem own_other55 {W : World} {base n : Nat} {v : Value} {xs : List Value} (h : W.ownsRow base 55 3 v n xs) {R : Nat} {cs : Array Value} (hR : W.heap[R]? = some (.cells cs 29 (0, 0))) (j : Nat) (u : Value) : (W.setCell ⟨R, j, none⟩ u).ownsRow base 55 3 v n xs := by
  refine ⟨h.1, ?_⟩
  rcases h.2 with h0 | ⟨g, cap, cur, e1, e2, e3, e4⟩
  · exact .inl h0
  · refine .inr ⟨g, cap, cur, e1, e2, (Below.heap_setCell W ⟨R, j, none⟩ u g (fun e => ?_)).trans e3, e4⟩
    have e' : g = R := e
    subst e'
    rw [hR] at e3
    cases e3
theorem Rs.keep {w W W' : World} {B G Q : Nat} {s : ByteArray} {r : Nat × Nat × Nat} {j j' : Nat} {v : Value} {ts : List (Nat × Nat × Nat)} (h : Rs w W B G Q s r j v ts) (k : KeepR w.heap.size W W') (hf : Rf W' w.heap.size B G s j') : Rs w W' B G Q s r j' v ts :=
  ⟨own_keepR h.row k, hf, k.cells _ _ _ _ h.lev (by decide) (by decide), h.below.trans k.below⟩
theorem Rs.grown {w W W' : World} {B G Q : Nat} {s : ByteArray} {r : Nat × Nat × Nat} {j : Nat} {v : Value} {ts : List (Nat × Nat × Nat)} (h : Rs w W B G Q s r j v ts) (hb : Below W.heap.size W W') : Rs w W' B G Q s r j v ts :=
  h.keep (KeepR.of_below hb h.below.size) (h.fnd.below hb)
theorem Rs.set29 {w W : World} {B G Q : Nat} {s : ByteArray} {r : Nat × Nat × Nat} {j : Nat} {v : Value} {ts : List (Nat × Nat × Nat)} (h : Rs w W B G Q s r j v ts) {R : Nat} {cs : Array Value} (hR : W.heap[R]? = some (.cells cs 29 (0, 0))) (hl : w.heap.size ≤ R) (i : Nat) (u : Value) : Rs w (W.setCell ⟨R, i, none⟩ u) B G Q s r j v ts :=
  ⟨own_other55 h.row hR i u, h.fnd.set29 hR i u, (Below.heap_setCell W ⟨R, i, none⟩ u Q (fun e => by
    have e' : Q = R := e
    have h1 := h.lev
    rw [e', hR] at h1
    cases h1)).trans h.lev, h.below.setCell (p := ⟨R, i, none⟩) hl u⟩
theorem Rs.app {w W w1 : World} {B G Q : Nat} {s : ByteArray} {r : Nat × Nat × Nat} {j : Nat} {v v' : Value} {ts : List (Nat × Nat × Nat)} {t : Nat × Nat × Nat} {tmp : Obj} (h : Rs w W B G Q s r j v ts) (hown : w1.ownsRow w.heap.size 55 3 v' (ts.length + 1) (tksC ts ++ tkC t)) (hg : (W.alloc tmp).grownBy w1 v.ownBlock) :
    Rs w w1 B G Q s r j v' (ts ++ [t]) ∧ ∀ (k : Nat) (cs : Array Value) (t : TypeId) (z : Nat × Nat), W.heap[k]? = some (.cells cs t z) → t ≠ 55 → w1.heap[k]? = some (.cells cs t z) := by
  have key : ∀ (k : Nat) (cs : Array Value) (t : TypeId) (z : Nat × Nat), W.heap[k]? = some (.cells cs t z) → t ≠ 55 → w1.heap[k]? = some (.cells cs t z) := fun k cs t z hk ht => by
    have hlt := (Array.getElem?_eq_some_iff.1 hk).1
    refine (hg.block k (by simp; omega) fun e => ?_).trans ((Below.heap_alloc W tmp k hlt).trans hk)
    rcases h.row.2 with ⟨rfl, _⟩ | ⟨g, cap, cur, rfl, _, hg2, _⟩
    · simp [Value.ownBlock] at e
    · obtain rfl : k = g := by simpa [Value.ownBlock] using e
      rw [hk] at hg2; cases hg2; exact ht rfl
  have hb : Below w.heap.size w w1 := (h.below.alloc h.below.size tmp).grown hg (by have := h.below.size; simp; omega) fun j ej => (h.row.lt j ej).1
  exact ⟨⟨by rw [List.length_append, tksC_snoc]; exact hown, ⟨key _ _ _ _ h.fnd.blk (by decide), key _ _ _ _ h.fnd.row (by decide), h.fnd.low, hb.size⟩, key _ _ _ _ h.lev (by decide), hb⟩, key⟩
theorem own_app55 {w W w1 : World} {v v' : Value} {ts : List (Nat × Nat × Nat)} {t : Nat × Nat × Nat} {tmp : Obj} (hb : Below w.heap.size w W) (h : W.ownsRow w.heap.size 55 3 v ts.length (tksC ts)) (hown : w1.ownsRow w.heap.size 55 3 v' (ts.length + 1) (tksC ts ++ tkC t)) (hg : (W.alloc tmp).grownBy w1 v.ownBlock) :
    w1.ownsRow w.heap.size 55 3 v' (ts ++ [t]).length (tksC (ts ++ [t])) ∧ Below w.heap.size w w1 :=
  ⟨by rw [List.length_append, tksC_snoc]; exact hown, (hb.alloc hb.size tmp).grown hg (by have := hb.size; simp; omega) fun j ej => (h.lt j ej).1⟩
theorem get_append (L M : List Nat) (i : Nat) : (L ++ M).getD (L.length + i) 0 = M.getD i 0 := by
  rw [List.getD_eq_getElem?_getD, List.getElem?_append_right (by omega), Nat.add_sub_cancel_left, ← List.getD_eq_getElem?_getD]
theorem mt_e1 {n : Nat} (h : n ≤ 1024) : decide ((32768 : Int) < (n : Int)) = false ∧ n ≤ 32768 := ⟨by rw [decide_eq_false_iff_not]; omega, by omega⟩
theorem mt_e2 {a b T : Nat} (h : a + b ≤ T) (hT : T ≤ 100000) : a < 1000000 := by omega
theorem mt_e3 {a f n m : Nat} (h : n ≤ a + (f + 1)) (hm : a < m) : n ≤ m + f := by omega
theorem mt_e4 {d t : Nat} (hd : d ≤ 1024) (ht : t ≤ 60000) : d + t ≤ 9223372036854775807 ∧ d + t ≤ 100000 ∧ d ≤ d + t := by omega
set_option maxRecDepth 100000 in
set_option maxHeartbeats 16000000 in
theorem rtokens_any (dict text : ByteArray) (k : Nat) (w : World) (hd : dict.size ≤ 1024) (ht : text.size ≤ 60000) (hk : k < 10) :
    Calls Try.prog 20 #[.string dict, .string text, .int .i64 (k : Nat)] w fun e w' => ∃ v, e = .returned (.tuple #[v, .int .i64 0]) ∧
      w'.ownsRow w.heap.size 55 3 v (toksL (byteL (dict ++ text)) dict.size k).length (tksC (toksL (byteL (dict ++ text)) dict.size k)) ∧ Below w.heap.size w w' := by
  obtain ⟨S, hS⟩ : ∃ S, dict ++ text = S := ⟨_, rfl⟩
  rw [hS]
  obtain ⟨T, hT⟩ : ∃ T, toksL (byteL S) dict.size k = T := ⟨_, rfl⟩
  rw [hT]
  have hz : S.size = dict.size + text.size := by rw [← hS]; exact ByteArray.size_append
  obtain ⟨d1, _⟩ := mt_e1 hd
  obtain ⟨d4, d5⟩ := mt_t0 ht
  have hcc : ∀ w, (Op.stringOp .add dict text).run Try.prog w = .ok (.string S) w := fun w => by rw [← hS]; exact run_string_add_sum (P := Try.prog) w dict text (mt_e4 hd ht).1
  have HZ := Lib.hid (show S.size = dict.size + text.size ∧ dict.size ≤ S.size ∧ S.size ≤ 100000 from ⟨hz, by rw [hz]; exact (mt_e4 hd ht).2.2, by rw [hz]; exact (mt_e4 hd ht).2.1⟩)
  have HL := Lib.hid (byteL_length S)
  have HTX := Lib.hid (show ∀ i, (byteL S).getD (dict.size + i) 0 = (byteL text).getD i 0 by
    intro i
    rw [← hS, byteL_append, ← byteL_length dict, get_append])
  have HCT := Lib.hid (show T.length ≤ 100000 by rw [← hT]; have h1 := toks_count (byteL S) dict.size k; rw [byteL_length] at h1; have := (mt_e4 hd ht).2.1; omega)
  have HT := Lib.hid hT
  have HK := Lib.hid (And.intro hk (And.intro hd ht))
  obtain ⟨r, hr⟩ : ∃ r, rowL k = r := ⟨_, rfl⟩
  have HR := Lib.hid hr
  have HV := Lib.hid (show rlevelV (k : Int) = .tuple #[.agg #[.int .i64 (r.1 : Nat), .int .i64 (r.2.1 : Nat), .int .i64 (r.2.2 : Nat)], .bool true] by
    unfold rlevelV
    rw [if_pos (by omega), Int.toNat_natCast, hr]
    rfl)
  have HR1 := Lib.hid (show r.1 ≤ 100000 by rw [← hr]; exact mt_t4 hk)
  obtain ⟨i0, hi, hz0, hz1, hz2⟩ := info_parts info55
  clear hS hT hz hd ht hk hr
  go_enter Try.func20, Try.ntmps20
  go_wp2_with fail
  refine (rlevel_any (k : Int) w).mono ?_
  rintro e w1 ⟨rfl, hb⟩
  rw [HV.out]
  have HB1 := Lib.hid hb
  obtain ⟨Q, hQ⟩ : ∃ Q, w1.heap.size = Q := ⟨_, rfl⟩
  have HQ := Lib.hid hQ
  clear hb hQ
  by_cases hk0 : k = 0
  · obtain ⟨k1, k2⟩ := mt_o3 hk0
    have HK0 := Lib.hid hk0
    clear hk0
    go_wp2_with fail
    obtain ⟨w2, hw2⟩ : ∃ w2, w1.alloc (.cells #[.int .i64 (r.1 : Nat), .int .i64 (r.2.1 : Nat), .int .i64 (r.2.2 : Nat)] 48) = w2 := ⟨_, rfl⟩
    rw [hw2]
    have HB2 := Lib.hid (show Below w.heap.size w w2 by rw [← hw2]; exact HB1.out.alloc HB1.out.size _)
    clear hw2 k1 k2 d1 d4 d5 hcc
    go_loopg [10, 11] text.size (fun f s10 s11 wx => ∃ i : Nat, s11 = .int .i64 (i : Int) ∧ Hid (i + f = text.size) ∧ Hid (wx.ownsRow w.heap.size 55 3 s10 (litsL (byteL S) dict.size i).length (tksC (litsL (byteL S) dict.size i))) ∧ Hid (Below w.heap.size w wx))
    case atStart => exact ⟨0, rfl, Lib.hid (Nat.zero_add _), Lib.hid (World.ownsRow_nil _ _ _ _), HB2⟩
    case round =>
      obtain ⟨i, rfl, HI, HRO, HB⟩ := hrel
      cases gk with
      | zero =>
        obtain rfl : i = text.size := HI.out
        obtain ⟨i1, i2⟩ := pt_ge (Nat.lt_irrefl text.size)
        have HTT := Lib.hid (show litsL (byteL S) dict.size text.size = T by
          rw [← HT.out, HK0.out]
          unfold toksL
          rw [if_pos rfl, HL.out, HZ.out.1, Nat.add_sub_cancel_left])
        go_wp2_with fail
        refine bodyPost_ret (results_tmp2 rfl _ _ _) rfl ⟨_, rfl, by rw [← HTT.out]; exact HRO.out, HB.out⟩
      | succ f =>
        have hi2 : i < text.size := pt_nl HI.out
        obtain ⟨i1, i2⟩ := pt_lt hi2
        have ei := mt_t5 hi2 HK.out.2.2
        have n0 : (0 : Int) ≤ (i : Int) := Int.natCast_nonneg i
        have n1 : (i : Int) < (text.size : Int) := Int.ofNat_lt.2 hi2
        have hidx := byte_idx text i hi2
        have hx := HTX.out i
        obtain ⟨x, hxx⟩ : ∃ x, (byteL text).getD i 0 = x := ⟨_, rfl⟩
        have HLT := Lib.hid (show litT (byteL S) (dict.size + i) = (x, 0, 0) by unfold litT; rw [hx, hxx])
        have hidx2 : ∀ h', ((text[i]'h').toNat : Int) = (x : Int) := fun h' => by rw [← hxx]; exact byte_idx text i h'
        have HC := Lib.hid (mt_toks (show (litsL (byteL S) dict.size i).length < 1000000 by rw [litsL_length]; have := HK.out.2.2; omega))
        clear hidx hx hxx hi2
        go_wp2_with (at_builtin; refine wpList_append_own _ rfl _ _ 42 rfl w.heap.size 55 i0 (.agg #[.int .u8 0, .int .i64 0, .int .i64 0]) 3 24 Try.underlying42 hi hz0 hz1 hz2 rfl (by decide) _ _ _ rfl (HRO.out.alloc _) ⟨wr.heap.size, 0, none⟩ 1 1 (tkC (x, 0, 0)) rfl rfl (tok_new wr (x, 0, 0)) (one55 _) HC.out.1 HC.out.2 (Nat.le_trans HB.out.size (by simp)) ?_; intro v9 w9 hown9 hgrow9 _; obtain ⟨g9, cap9, rfl⟩ := ownsRow_succ hown9; obtain ⟨hr9, hb9⟩ := own_app55 HB.out HRO.out hown9 hgrow9; have HR9 := Lib.hid hr9; have HB9 := Lib.hid hb9; clear hown9 hgrow9 hr9 hb9)
        go_roundg f
        case measure => exact Nat.lt_succ_self f
        case rel => exact ⟨i + 1, by first | rw [ei] | rfl, Lib.hid (pt_nx HI.out), Lib.hid (by rw [litsL_succ, HLT.out]; exact HR9.out), HB9⟩
  · obtain ⟨k1, k2, _, _⟩ := mt_o4 hk0
    have HK0 := Lib.hid hk0
    clear hk0
    go_wp2_with fail
    obtain ⟨w2, hw2⟩ : ∃ w2, w1.alloc (.cells #[.int .i64 (r.1 : Nat), .int .i64 (r.2.1 : Nat), .int .i64 (r.2.2 : Nat)] 48) = w2 := ⟨_, rfl⟩
    rw [hw2]
    rw [HQ.out]
    have hlev : w2.heap[Q]? = some (.cells #[.int .i64 (r.1 : Nat), .int .i64 (r.2.1 : Nat), .int .i64 (r.2.2 : Nat)] 48 (0, 0)) := by rw [← hw2, ← HQ.out]; exact heap_alloc_last w1 _
    have hb2 : Below w.heap.size w w2 := by rw [← hw2]; exact HB1.out.alloc HB1.out.size _
    have HLEV := Lib.hid hlev
    have HB2 := Lib.hid hb2
    clear hw2 k1 k2 d1 d4 d5 hcc hlev hb2
    refine (rnew_any S w2 HZ.out.2.2).mono ?_
    rintro e w3 ⟨B, G, rfl, hf3, hb3⟩
    have HRS3 := Lib.hid (show Rs w w3 B G Q S r 0 (.slice none 0 0) [] from ⟨World.ownsRow_nil _ _ _ _, hf3.down HB2.out.size, (hb3.block Q (Array.getElem?_eq_some_iff.1 HLEV.out).1).trans HLEV.out, HB2.out.trans (hb3.mono HB2.out.size)⟩)
    clear hf3 hb3
    go_wp2_with fail
    go_loopg [10, 14, 15, 16] ((byteL S).length - dict.size) (fun f s10 s14 s15 s16 wx => ∃ (a j : Nat) (ts : List (Nat × Nat × Nat)), s14 = .int .i64 (a : Int) ∧ Hid (a ≤ (byteL S).length ∧ (byteL S).length ≤ a + f ∧ ts ++ parseL (byteL S) r.1 r.2.1 r.2.2 f a = T ∧ j ≤ a) ∧ Hid (Rs w wx B G Q S r j s10 ts))
    case atStart => exact ⟨dict.size, 0, [], rfl, Lib.hid ⟨by rw [HL.out]; exact HZ.out.2.1, by rw [HL.out, HZ.out.1]; omega, by
      rw [← HT.out]
      unfold toksL
      rw [if_neg HK0.out, HR.out]
      rfl, Nat.zero_le _⟩, HRS3⟩
    case round =>
      clear HRS3 HB2 HLEV HB1
      obtain ⟨a, j, ts, rfl, HA, HRS⟩ := hrel
      by_cases ha : a < S.size
      · obtain ⟨a1, a2⟩ := pt_lt ha
        have HAS := Lib.hid ha
        clear ha
        cases gk with
        | zero => exact absurd HA.out.2.1 (by rw [HL.out]; have := HAS.out; omega)
        | succ f =>
          have haL : a < (byteL S).length := by rw [HL.out]; exact HAS.out
          have h1 := HA.out.2.2.1
          rw [parseL, if_pos haL] at h1
          have h2 := toks_one (byteL S) r.1 r.2.1 r.2.2 a haL
          obtain ⟨R, hR⟩ : ∃ R, oneL (byteL S) r.1 r.2.1 r.2.2 ((byteL S).length - a) a (lookL (byteL S) r.1 r.2.1 a 2) = R := ⟨_, rfl⟩
          rw [hR] at h1 h2
          have HLEN := Lib.hid (show (ts ++ R.1).length ≤ 100000 by have h3 := HCT.out; rw [← h1, ← List.append_assoc, List.length_append] at h3; omega)
          have H1 := Lib.hid h1
          have H2 := Lib.hid h2
          have HRR := Lib.hid hR
          have HAL := Lib.hid haL
          have q0 : wr.cell? ⟨Q, 0, none⟩ = some (.int .i64 (r.1 : Nat)) := cell_blk HRS.out.lev 0
          have q1 : wr.cell? ⟨Q, 1, none⟩ = some (.int .i64 (r.2.1 : Nat)) := cell_blk HRS.out.lev 1
          have q2 : wr.cell? ⟨Q, 2, none⟩ = some (.int .i64 (r.2.2 : Nat)) := cell_blk HRS.out.lev 2
          clear h1 h2 hR haL
          go_wp2_with fail
          refine (rlook_any a 2 j w.heap.size B G r S wr HRS.out.fnd HA.out.2.2.2 HAS.out HZ.out.2.2 HR1.out).mono ?_
          rintro e w4 ⟨rfl, hf4, hk4⟩
          obtain ⟨m, hm⟩ : ∃ m, lookL (byteL S) r.1 r.2.1 a 2 = m := ⟨_, rfl⟩
          rw [hm]
          have HMM := Lib.hid (show m = (0, 0) ∨ ∃ o, MatchAt (byteL S) a o m by rw [← hm]; exact look_or _ _ _ _ _)
          have HONE := Lib.hid (show oneL (byteL S) r.1 r.2.1 r.2.2 ((byteL S).length - a) a m = R by rw [← hm]; exact HRR.out)
          obtain ⟨w5, hw5⟩ : ∃ w5, w4.alloc (.cells #[.int .i64 (m.1 : Nat), .int .i64 (m.2 : Nat)] 29) = w5 := ⟨_, rfl⟩
          obtain ⟨M, hM⟩ : ∃ M, w4.heap.size = M := ⟨_, rfl⟩
          have hb5 : Below w4.heap.size w4 w5 := by rw [← hw5]; exact (Below.refl _ w4).alloc (Nat.le_refl _) _
          have hm5 : w5.heap[M]? = some (.cells #[.int .i64 (m.1 : Nat), .int .i64 (m.2 : Nat)] 29 (0, 0)) := by rw [← hw5, ← hM]; exact heap_alloc_last w4 _
          have hrs4 := HRS.out.keep hk4 hf4
          have HRS5 := Lib.hid (hrs4.grown hb5)
          have HM5 := Lib.hid hm5
          have HML := Lib.hid (show w.heap.size ≤ M by rw [← hM]; exact hrs4.below.size)
          have c0 : w5.cell? ⟨M, 0, none⟩ = some (.int .i64 (m.1 : Nat)) := cell_blk hm5 0
          clear hf4 hk4 hm hb5 hm5 hrs4 q0 q1 q2
          have n0 : (0 : Int) ≤ (a : Int) := Int.natCast_nonneg a
          have n1 : (a : Int) < (S.size : Int) := Int.ofNat_lt.2 HAS.out
          have ex := mt_o1 HAS.out HZ.out.2.2
          have hidx : ∀ h', ((S[a]'h').toNat : Int) = (((byteL S).getD a 0 : Nat) : Int) := fun h' => byte_idx S a h'
          by_cases hm0 : m.1 = 0
          · obtain ⟨e0, e0'⟩ := mt_o3 hm0
            have HO := Lib.hid (show ([litT (byteL S) a], a + 1) = R by rw [← HONE.out, one_zero HAL.out hm0])
            have HC := Lib.hid (mt_toks (mt_e2 (a := ts.length) (b := R.1.length) (by rw [← List.length_append]; exact Nat.le_refl _) HLEN.out))
            clear hm0
            go_wp2_with (at_builtin; refine wpList_append_own _ rfl _ _ 42 rfl w.heap.size 55 i0 (.agg #[.int .u8 0, .int .i64 0, .int .i64 0]) 3 24 Try.underlying42 hi hz0 hz1 hz2 rfl (by decide) _ _ _ rfl (HRS5.out.row.alloc _) ⟨w5.heap.size, 0, none⟩ 1 1 (tkC (litT (byteL S) a)) rfl rfl (tok_new w5 (litT (byteL S) a)) (one55 _) HC.out.1 HC.out.2 (Nat.le_trans HRS5.out.below.size (by simp)) ?_; intro v9 w9 hown9 hgrow9 _; obtain ⟨g9, cap9, rfl⟩ := ownsRow_succ hown9; have HR9 := Lib.hid (HRS5.out.app hown9 hgrow9).1; clear hown9 hgrow9)
            go_roundg f
            case measure => exact Nat.lt_succ_self f
            case rel => exact ⟨a + 1, a, ts ++ [litT (byteL S) a], by first | rw [ex] | rfl, Lib.hid ⟨by have h := H2.out.2; rw [← HO.out] at h; exact h, mt_e3 HA.out.2.1 (Nat.lt_succ_self a), by
              have h := H1.out
              rw [← HO.out] at h
              rw [List.append_assoc]
              exact h, Nat.le_succ a⟩, HR9⟩
          · obtain ⟨e0, e0', _, _⟩ := mt_o4 hm0
            have HM0 := Lib.hid hm0
            clear hm0 hidx n0 n1 ex
            go_wp2_with fail
            clear hw5 hM c0
            go_loopg [10, 14, 16] ((byteL S).length - a) (fun f2 s10 s14 s16 wx => ∃ (x : Nat) (p : Nat × Nat) (ts' : List (Nat × Nat × Nat)), s14 = .int .i64 (x : Int) ∧ Hid (x < S.size ∧ (byteL S).length ≤ x + f2 ∧ ¬ p.1 = 0 ∧ (∃ o, MatchAt (byteL S) x o p) ∧ (ts' ++ (oneL (byteL S) r.1 r.2.1 r.2.2 ((byteL S).length - x) x p).1, (oneL (byteL S) r.1 r.2.1 r.2.2 ((byteL S).length - x) x p).2) = (ts ++ R.1, R.2)) ∧
              Hid (Rs w wx B G Q S r x s10 ts') ∧ Hid (wx.heap[M]? = some (.cells #[.int .i64 (p.1 : Nat), .int .i64 (p.2 : Nat)] 29 (0, 0))))
            case atStart => exact ⟨a, m, ts, rfl, Lib.hid ⟨HAS.out, by omega, HM0.out, by
              rcases HMM.out with h | h
              · exact absurd (by rw [h]) HM0.out
              · exact h, by rw [HONE.out]⟩, HRS5, HM5⟩
            case round =>
              clear HRS5 HM5
              obtain ⟨x, p, ts', rfl, HX, HRS5, HM5⟩ := hrel
              have c0 : wr.cell? ⟨M, 0, none⟩ = some (.int .i64 (p.1 : Nat)) := cell_blk HM5.out 0
              have c1 : wr.cell? ⟨M, 1, none⟩ = some (.int .i64 (p.2 : Nat)) := cell_blk HM5.out 1
              have q0 : wr.cell? ⟨Q, 0, none⟩ = some (.int .i64 (r.1 : Nat)) := cell_blk HRS5.out.lev 0
              have q1 : wr.cell? ⟨Q, 1, none⟩ = some (.int .i64 (r.2.1 : Nat)) := cell_blk HRS5.out.lev 1
              have q2 : wr.cell? ⟨Q, 2, none⟩ = some (.int .i64 (r.2.2 : Nat)) := cell_blk HRS5.out.lev 2
              have HXL := Lib.hid (show x < (byteL S).length by rw [HL.out]; exact HX.out.1)
              have HC := Lib.hid (mt_toks (show ts'.length < 1000000 by
                have h := congrArg (fun q : List (Nat × Nat × Nat) × Nat => q.1.length) HX.out.2.2.2.2
                simp only [List.length_append] at h
                have h2 := HLEN.out
                rw [List.length_append] at h2
                omega))
              have HTOP := Lib.hid (show p.1 ≤ 258 by obtain ⟨o, h⟩ := HX.out.2.2.2.1; exact h.top)
              have exm := mt_o2 HX.out.1 HZ.out.2.2 HTOP.out
              have ex := mt_o1 HX.out.1 HZ.out.2.2
              by_cases hz : p.1 < r.2.2
              · obtain ⟨z1, z2⟩ := mt_o6 hz
                have HZZ := Lib.hid hz
                clear hz
                by_cases hx : x + 1 < S.size
                · obtain ⟨x1, x2⟩ := mt_o6 hx
                  have x3 := mt_oc hx
                  have HX1 := Lib.hid hx
                  clear hx
                  go_wp2_with fail
                  refine (rlook_any (x + 1) p.1 x w.heap.size B G r S wr HRS5.out.fnd (Nat.le_succ x) HX1.out HZ.out.2.2 HR1.out).mono ?_
                  rintro e w4 ⟨rfl, hf4, hk4⟩
                  obtain ⟨N, hN⟩ : ∃ N, lookL (byteL S) r.1 r.2.1 (x + 1) p.1 = N := ⟨_, rfl⟩
                  rw [hN]
                  obtain ⟨w5, hw5⟩ : ∃ w5, w4.alloc (.cells #[.int .i64 (N.1 : Nat), .int .i64 (N.2 : Nat)] 29) = w5 := ⟨_, rfl⟩
                  obtain ⟨MN, hMN⟩ : ∃ MN, w4.heap.size = MN := ⟨_, rfl⟩
                  have hb5 : Below w4.heap.size w4 w5 := by rw [← hw5]; exact (Below.refl _ w4).alloc (Nat.le_refl _) _
                  have hn5 : w5.heap[MN]? = some (.cells #[.int .i64 (N.1 : Nat), .int .i64 (N.2 : Nat)] 29 (0, 0)) := by rw [← hw5, ← hMN]; exact heap_alloc_last w4 _
                  have hrs4 := HRS5.out.keep hk4 hf4
                  have hm4 := hk4.cells _ _ _ _ HM5.out (by decide) (by decide)
                  have hm5 := (hb5.block M (Array.getElem?_eq_some_iff.1 hm4).1).trans hm4
                  have HRS6 := Lib.hid (hrs4.grown hb5)
                  have HM6 := Lib.hid hm5
                  have HN6 := Lib.hid hn5
                  have HNN := Lib.hid hN
                  clear c0 c1 q0 q1 q2
                  have c0 : w5.cell? ⟨M, 0, none⟩ = some (.int .i64 (p.1 : Nat)) := cell_blk hm5 0
                  have c1 : w5.cell? ⟨M, 1, none⟩ = some (.int .i64 (p.2 : Nat)) := cell_blk hm5 1
                  have b0 : w5.cell? ⟨MN, 0, none⟩ = some (.int .i64 (N.1 : Nat)) := cell_blk hn5 0
                  have b1 : w5.cell? ⟨MN, 1, none⟩ = some (.int .i64 (N.2 : Nat)) := cell_blk hn5 1
                  clear hf4 hk4 hN hb5 hn5 hrs4 hm4 hm5
                  by_cases hn : N.1 = 0
                  · obtain ⟨e1, e1'⟩ := mt_o3 hn
                    have HO := Lib.hid (one_last (D := r.1) (N := r.2.1) (Z := r.2.2) HXL.out HX.out.2.2.1 (fun _ _ => by rw [HNN.out, hn]; exact Nat.lt_irrefl 0))
                    clear hn
                    go_wp2_with (at_builtin; refine wpList_append_own _ rfl _ _ 42 rfl w.heap.size 55 i0 (.agg #[.int .u8 0, .int .i64 0, .int .i64 0]) 3 24 Try.underlying42 hi hz0 hz1 hz2 rfl (by decide) _ _ _ rfl (HRS6.out.row.alloc _) ⟨w5.heap.size, 0, none⟩ 1 1 (tkC (0, p.1, p.2)) rfl rfl (tok_new w5 (0, p.1, p.2)) (one55 _) HC.out.1 HC.out.2 (Nat.le_trans HRS6.out.below.size (by simp)) ?_; intro v9 w9 hown9 hgrow9 _; obtain ⟨g9, cap9, rfl⟩ := ownsRow_succ hown9; obtain ⟨hr9, hk9⟩ := HRS6.out.app hown9 hgrow9; have HR9 := Lib.hid hr9; have hm9 := hk9 _ _ _ _ HM6.out (by decide); have m90 : w9.cell? ⟨M, 0, none⟩ = some (.int .i64 (p.1 : Nat)) := cell_blk hm9 0; clear hown9 hgrow9 hr9 hk9 hm9)
                    have HEQ := Lib.hid (show ts' ++ [(0, p.1, p.2)] = ts ++ R.1 ∧ x + p.1 = R.2 by
                      have h := HX.out.2.2.2.2
                      rw [HO.out] at h
                      injection h with h1 h2
                      exact ⟨h1, h2⟩)
                    go_roundg f
                    case measure => exact Nat.lt_succ_self f
                    case rel => exact ⟨x + p.1, x + 1, ts' ++ [(0, p.1, p.2)], by first | rw [exm] | rfl, Lib.hid ⟨by rw [HEQ.out.2]; exact H2.out.2, by rw [HEQ.out.2]; exact mt_e3 HA.out.2.1 H2.out.1, by rw [HEQ.out.1, HEQ.out.2, List.append_assoc]; exact H1.out, mt_oa HX.out.2.2.1⟩, HR9⟩
                  · obtain ⟨e1, e1', _, _⟩ := mt_o4 hn
                    have HO := Lib.hid (one_more (D := r.1) (N := r.2.1) (Z := r.2.2) (m := p) (by rw [HL.out]; exact HX1.out) HX.out.2.2.1 HZZ.out (by rw [HNN.out]; exact Nat.pos_of_ne_zero hn))
                    have HNZ := Lib.hid hn
                    have n0 : (0 : Int) ≤ (x : Int) := Int.natCast_nonneg x
                    have n1 : (x : Int) < (S.size : Int) := Int.ofNat_lt.2 HX.out.1
                    have hidx : ∀ h', ((S[x]'h').toNat : Int) = (((byteL S).getD x 0 : Nat) : Int) := fun h' => byte_idx S x h'
                    clear hn
                    go_wp2_with (at_builtin; refine wpList_append_own _ rfl _ _ 42 rfl w.heap.size 55 i0 (.agg #[.int .u8 0, .int .i64 0, .int .i64 0]) 3 24 Try.underlying42 hi hz0 hz1 hz2 rfl (by decide) _ _ _ rfl (HRS6.out.row.alloc _) ⟨w5.heap.size, 0, none⟩ 1 1 (tkC (litT (byteL S) x)) rfl rfl (tok_new w5 (litT (byteL S) x)) (one55 _) HC.out.1 HC.out.2 (Nat.le_trans HRS6.out.below.size (by simp)) ?_; intro v9 w9 hown9 hgrow9 _; obtain ⟨g9, cap9, rfl⟩ := ownsRow_succ hown9; obtain ⟨hr9, hk9⟩ := HRS6.out.app hown9 hgrow9; have HR9 := Lib.hid hr9; have hm9 := hk9 _ _ _ _ HM6.out (by decide); have hn9 := hk9 _ _ _ _ HN6.out (by decide); have HM9 := Lib.hid hm9; have m90 : w9.cell? ⟨M, 0, none⟩ = some (.int .i64 (p.1 : Nat)) := cell_blk hm9 0; have m91 : w9.cell? ⟨M, 1, none⟩ = some (.int .i64 (p.2 : Nat)) := cell_blk hm9 1; have f9 : ∀ j, w9.frozen? ⟨M, j, none⟩ = false := frozen_blk hm9; have n90 : w9.cell? ⟨MN, 0, none⟩ = some (.int .i64 (N.1 : Nat)) := cell_blk hn9 0; have n91 : w9.cell? ⟨MN, 1, none⟩ = some (.int .i64 (N.2 : Nat)) := cell_blk hn9 1; clear hown9 hgrow9 hr9 hk9 hm9 hn9)
                    have h1 : (w9.setCell ⟨M, 0, none⟩ (.int .i64 (N.1 : Nat))).heap[M]? = some (.cells #[.int .i64 (N.1 : Nat), .int .i64 (p.2 : Nat)] 29 (0, 0)) := by simp [World.setCell, Array.getElem?_modify, HM9.out]
                    cases gk with
                    | zero => exact absurd HX.out.2.1 (by have := HXL.out; omega)
                    | succ f3 =>
                      go_roundg f3
                      case measure => exact Nat.lt_succ_self f3
                      case rel => exact ⟨x + 1, N, ts' ++ [litT (byteL S) x], by first | rw [ex] | rfl, Lib.hid ⟨HX1.out, mt_e3 HX.out.2.1 (Nat.lt_succ_self x), HNZ.out, by
                        rcases look_or (byteL S) r.1 r.2.1 (x + 1) p.1 with h | h
                        · exact absurd (by rw [← HNN.out, h]) HNZ.out
                        · rw [← HNN.out]; exact h, by
                        have h := HX.out.2.2.2.2
                        rw [HO.out, HNN.out] at h
                        rw [List.append_assoc]
                        exact h⟩, Lib.hid ((HR9.out.set29 HM9.out HML.out _ _).set29 h1 HML.out _ _), Lib.hid (two_cells HM9.out)⟩
                · obtain ⟨x1, x2⟩ := mt_o7 hx
                  have x3 := mt_od hx
                  have HO := Lib.hid (one_last (D := r.1) (N := r.2.1) (Z := r.2.2) HXL.out HX.out.2.2.1 (fun _ h => absurd (by rw [HL.out] at h; exact h) hx))
                  have HRS6 := HRS5
                  have HM6 := HM5
                  clear hx
                  go_wp2_with (at_builtin; refine wpList_append_own _ rfl _ _ 42 rfl w.heap.size 55 i0 (.agg #[.int .u8 0, .int .i64 0, .int .i64 0]) 3 24 Try.underlying42 hi hz0 hz1 hz2 rfl (by decide) _ _ _ rfl (HRS6.out.row.alloc _) ⟨wr.heap.size, 0, none⟩ 1 1 (tkC (0, p.1, p.2)) rfl rfl (tok_new wr (0, p.1, p.2)) (one55 _) HC.out.1 HC.out.2 (Nat.le_trans HRS6.out.below.size (by simp)) ?_; intro v9 w9 hown9 hgrow9 _; obtain ⟨g9, cap9, rfl⟩ := ownsRow_succ hown9; obtain ⟨hr9, hk9⟩ := HRS6.out.app hown9 hgrow9; have HR9 := Lib.hid hr9; have hm9 := hk9 _ _ _ _ HM6.out (by decide); have m90 : w9.cell? ⟨M, 0, none⟩ = some (.int .i64 (p.1 : Nat)) := cell_blk hm9 0; clear hown9 hgrow9 hr9 hk9 hm9)
                  have HEQ := Lib.hid (show ts' ++ [(0, p.1, p.2)] = ts ++ R.1 ∧ x + p.1 = R.2 by
                    have h := HX.out.2.2.2.2
                    rw [HO.out] at h
                    injection h with h1 h2
                    exact ⟨h1, h2⟩)
                  go_roundg f
                  case measure => exact Nat.lt_succ_self f
                  case rel => exact ⟨x + p.1, x, ts' ++ [(0, p.1, p.2)], by first | rw [exm] | rfl, Lib.hid ⟨by rw [HEQ.out.2]; exact H2.out.2, by rw [HEQ.out.2]; exact mt_e3 HA.out.2.1 H2.out.1, by rw [HEQ.out.1, HEQ.out.2, List.append_assoc]; exact H1.out, Nat.le_add_right x _⟩, HR9⟩
              · obtain ⟨z1, z2⟩ := mt_o7 hz
                have HO := Lib.hid (one_last (D := r.1) (N := r.2.1) (Z := r.2.2) HXL.out HX.out.2.2.1 (fun h _ => absurd h hz))
                have HRS6 := HRS5
                have HM6 := HM5
                clear hz
                go_wp2_with (at_builtin; refine wpList_append_own _ rfl _ _ 42 rfl w.heap.size 55 i0 (.agg #[.int .u8 0, .int .i64 0, .int .i64 0]) 3 24 Try.underlying42 hi hz0 hz1 hz2 rfl (by decide) _ _ _ rfl (HRS6.out.row.alloc _) ⟨wr.heap.size, 0, none⟩ 1 1 (tkC (0, p.1, p.2)) rfl rfl (tok_new wr (0, p.1, p.2)) (one55 _) HC.out.1 HC.out.2 (Nat.le_trans HRS6.out.below.size (by simp)) ?_; intro v9 w9 hown9 hgrow9 _; obtain ⟨g9, cap9, rfl⟩ := ownsRow_succ hown9; obtain ⟨hr9, hk9⟩ := HRS6.out.app hown9 hgrow9; have HR9 := Lib.hid hr9; have hm9 := hk9 _ _ _ _ HM6.out (by decide); have m90 : w9.cell? ⟨M, 0, none⟩ = some (.int .i64 (p.1 : Nat)) := cell_blk hm9 0; clear hown9 hgrow9 hr9 hk9 hm9)
                have HEQ := Lib.hid (show ts' ++ [(0, p.1, p.2)] = ts ++ R.1 ∧ x + p.1 = R.2 by
                  have h := HX.out.2.2.2.2
                  rw [HO.out] at h
                  injection h with h1 h2
                  exact ⟨h1, h2⟩)
                go_roundg f
                case measure => exact Nat.lt_succ_self f
                case rel => exact ⟨x + p.1, x, ts' ++ [(0, p.1, p.2)], by first | rw [exm] | rfl, Lib.hid ⟨by rw [HEQ.out.2]; exact H2.out.2, by rw [HEQ.out.2]; exact mt_e3 HA.out.2.1 H2.out.1, by rw [HEQ.out.1, HEQ.out.2, List.append_assoc]; exact H1.out, Nat.le_add_right x _⟩, HR9⟩
      · obtain ⟨a1, a2⟩ := pt_ge ha
        have hts : ts = T := by
          have h1 := HA.out.2.2.1
          rw [parse_done (by rw [HL.out]; exact ha), List.append_nil] at h1
          exact h1
        have HROW := Lib.hid HRS.out.row
        have HBB := Lib.hid HRS.out.below
        rw [hts] at HROW
        clear ha hts
        go_wp2_with fail
        refine bodyPost_ret (results_tmp2 rfl _ _ _) rfl ⟨_, rfl, HROW.out, HBB.out⟩
end Go.Proofs.Ytolkmjclldjkkaa
