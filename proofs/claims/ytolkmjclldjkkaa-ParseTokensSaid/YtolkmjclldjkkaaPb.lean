/-
  Parse: the parser's memory; what 'lit' and 'look' come to (contracts, by hand).
-/
import Derived.Test.YtolkmjclldjkkaaPa
set_option linter.unusedSimpArgs false
set_option linter.unusedVariables false
namespace Go.Proofs.Ytolkmjclldjkkaa
open Go.RowKit

/-- a token's cells -/
def tkC (t : Nat × Nat × Nat) : List Value := [.int .u8 (t.1 : Nat), .int .i64 (t.2.1 : Nat), .int .i64 (t.2.2 : Nat)]
def tksC (l : List (Nat × Nat × Nat)) : List Value := l.flatMap tkC
theorem tksC_snoc (l : List (Nat × Nat × Nat)) (t : Nat × Nat × Nat) : tksC (l ++ [t]) = tksC l ++ tkC t := by simp [tksC]
theorem tksC_length (l : List (Nat × Nat × Nat)) : (tksC l).length = l.length * 3 := by
  induction l with
  | nil => rfl
  | cons t r ih => rw [show tksC (t :: r) = tkC t ++ tksC r from rfl, List.length_append, ih, List.length_cons]; simp [tkC]; omega
/-- a parser's cells: its row, its text, its finder, its tokens -/
def prsC (r : Nat × Nat × Nat) (s : ByteArray) (f v : Value) : Array Value := #[.int .i64 (r.1 : Nat), .int .i64 (r.2.1 : Nat), .int .i64 (r.2.2 : Nat), .string s, f, v]
/-- a parser at block B, with its tokens -/
structure Pb (W : World) (n₀ B : Nat) (r : Nat × Nat × Nat) (s : ByteArray) (f : Value) (ts : List (Nat × Nat × Nat)) : Prop where
  ex : ∃ v, W.heap[B]? = some (.cells (prsC r s f v) 78 (0, 0)) ∧ W.ownsRow n₀ 55 3 v ts.length (tksC ts)
  low : n₀ ≤ B
  size : n₀ ≤ W.heap.size
/-- what is kept: what lay below n, and all but a parser's cells and tokens -/
structure KeepQ (n : Nat) (W W' : World) : Prop where
  below : Below n W W'
  rest : ∀ (k : Nat) (o : Obj), W.heap[k]? = some o → (∀ cs z, o ≠ .cells cs 78 z ∧ o ≠ .cells cs 55 z) → W'.heap[k]? = some o
theorem KeepQ.fnd {n n₀ A : Nat} {W W' : World} {s : ByteArray} {l : List Nat} (k : KeepQ n W W') (h : Fnd W n₀ A s l) : Fnd W' n₀ A s l :=
  h.keep2 fun i o hi ho => k.rest i o hi fun cs z => by
    rcases ho with ⟨cs', rfl⟩ | ⟨es, c, rfl⟩
    · exact ⟨(fun e => by cases e), (fun e => by cases e)⟩
    · exact ⟨(fun e => by cases e), (fun e => by cases e)⟩
theorem KeepQ.blk {n : Nat} {W W' : World} (k : KeepQ n W W') {i : Nat} {cs : Array Value} {t : TypeId} {z : Nat × Nat} (h : W.heap[i]? = some (.cells cs t z)) (h1 : t ≠ 78) (h2 : t ≠ 55) : W'.heap[i]? = some (.cells cs t z) :=
  k.rest i _ h fun cs' z' => ⟨fun e => by cases e; exact h1 rfl, fun e => by cases e; exact h2 rfl⟩
theorem KeepQ.trans {n : Nat} {A B C : World} (h : KeepQ n A B) (k : KeepQ n B C) : KeepQ n A C := ⟨h.below.trans k.below, fun i o hi h1 => k.rest i o (h.rest i o hi h1) h1⟩
theorem KeepQ.of_below {n : Nat} {A B : World} (h : Below A.heap.size A B) (hn : n ≤ A.heap.size) : KeepQ n A B := ⟨h.mono hn, fun k o hk _ => (h.block k (Array.getElem?_eq_some_iff.1 hk).1).trans hk⟩
theorem KeepQ.drew0 (n : Nat) (A : World) (hn : n ≤ A.heap.size) : KeepQ n A A.drew := KeepQ.of_below (Below.refl _ A).drew hn
theorem cell_alloc {w : World} {o : Obj} {p : Addr} {v : Value} (h : w.cell? p = some v) : (w.alloc o).cell? p = some v :=
  (World.cell?_of_block (w := w) (Below.heap_alloc w o p.block (World.block_lt_of_cell? _ _ h))).trans h
theorem frozen_blk {w : World} {B : Nat} {cs : Array Value} {t : TypeId} (h : w.heap[B]? = some (.cells cs t (0, 0))) (j : Nat) : w.frozen? ⟨B, j, none⟩ = false := by simp [World.frozen?, h]
/-- what keeps the cells that are no finder's keeps a parser -/
theorem Pb.keep {W W' : World} {n₀ B : Nat} {r : Nat × Nat × Nat} {s : ByteArray} {f : Value} {ts : List (Nat × Nat × Nat)} (h : Pb W n₀ B r s f ts) (k : KeepP n₀ W W') : Pb W' n₀ B r s f ts := by
  obtain ⟨v, hb, hr1, hr2⟩ := h.ex
  refine ⟨⟨v, k.cells _ _ _ _ hb (by decide), hr1, ?_⟩, h.low, Nat.le_trans h.size k.below.size⟩
  rcases hr2 with h0 | ⟨g, cap, cur, e1, e2, e3, e4⟩
  · exact .inl h0
  · exact .inr ⟨g, cap, cur, e1, e2, k.cells _ _ _ _ e3 (by decide), e4⟩
theorem Pb.below {W W' : World} {n₀ B : Nat} {r : Nat × Nat × Nat} {s : ByteArray} {f : Value} {ts : List (Nat × Nat × Nat)} (h : Pb W n₀ B r s f ts) (hb : Below W.heap.size W W') : Pb W' n₀ B r s f ts :=
  h.keep (KeepP.of_below hb h.size)
theorem Pb.lt {W : World} {n₀ B : Nat} {r : Nat × Nat × Nat} {s : ByteArray} {f : Value} {ts : List (Nat × Nat × Nat)} (h : Pb W n₀ B r s f ts) : B < W.heap.size := by
  obtain ⟨v, hb, _⟩ := h.ex
  exact (Array.getElem?_eq_some_iff.1 hb).1
theorem info55 : (Try.prog.info? 55).map (fun i => (i.zero, i.size, i.bytes)) = some (some (.agg #[.int .u8 0, .int .i64 0, .int .i64 0]), 3, 24) := by kernel_rfl
/-- a token more -/
theorem pb_app {W w1 : World} {n₀ B : Nat} {r : Nat × Nat × Nat} {s : ByteArray} {f v v' : Value} {ts : List (Nat × Nat × Nat)} {t : Nat × Nat × Nat} {tmp : Obj} (hl : n₀ ≤ B) (hn : n₀ ≤ W.heap.size)
    (hb : W.heap[B]? = some (.cells (prsC r s f v) 78 (0, 0))) (hr : W.ownsRow n₀ 55 3 v ts.length (tksC ts)) (hown : w1.ownsRow n₀ 55 3 v' (ts.length + 1) (tksC ts ++ tkC t)) (hg : (W.alloc tmp).grownBy w1 v.ownBlock) :
    w1.heap[B]? = some (.cells (prsC r s f v) 78 (0, 0)) ∧ Pb (w1.setCell ⟨B, 5, none⟩ v') n₀ B r s f (ts ++ [t]) ∧ KeepQ n₀ W (w1.setCell ⟨B, 5, none⟩ v') := by
  have hlt := (Array.getElem?_eq_some_iff.1 hb).1
  have hne : some B ≠ v.ownBlock := fun e => by
    rcases hr.2 with ⟨rfl, _⟩ | ⟨g, cap, cur, rfl, _, hg2, _⟩
    · simp [Value.ownBlock] at e
    · obtain rfl : B = g := by simpa [Value.ownBlock] using e
      rw [hb] at hg2; cases hg2
  have h1 : w1.heap[B]? = some (.cells (prsC r s f v) 78 (0, 0)) := (hg.block B (by simp; omega) hne).trans ((Below.heap_alloc W tmp B hlt).trans hb)
  have hne' : v'.ownBlock ≠ some B := fun e => by
    rcases hown.2 with ⟨rfl, _⟩ | ⟨g, cap, cur, rfl, _, hg2, _⟩
    · simp [Value.ownBlock] at e
    · obtain rfl : g = B := by simpa [Value.ownBlock] using e
      rw [h1] at hg2; cases hg2
  have hgs : w1.grownBy (w1.setCell ⟨B, 5, none⟩ v') (some B) := ⟨rfl, rfl, rfl, by simp [World.setCell], fun k hk hk2 => Below.heap_setCell w1 ⟨B, 5, none⟩ v' k (fun e => hk2 (by rw [e]))⟩
  have hbel : Below n₀ W (w1.setCell ⟨B, 5, none⟩ v') := by
    refine (((Below.refl n₀ W).alloc hn tmp).grown hg (by simp; omega) fun j ej => ?_).setCell (p := ⟨B, 5, none⟩) hl v'
    rcases hr.2 with ⟨rfl, _⟩ | ⟨g, cap, cur, rfl, hb, _, _⟩
    · simp [Value.ownBlock] at ej
    · obtain rfl : g = j := by simpa [Value.ownBlock] using ej
      exact hb
  refine ⟨h1, ⟨⟨v', by simp [World.setCell, Array.getElem?_modify, h1, prsC], ?_⟩, hl, Nat.le_trans hn hbel.size⟩, hbel, fun k o hk ho => ?_⟩
  · rw [List.length_append, tksC_snoc]; exact hown.kept hgs (.inr hne')
  · have hk1 := (Array.getElem?_eq_some_iff.1 hk).1
    have n1 : k ≠ B := fun e => by subst e; rw [hb] at hk; cases hk; exact (ho _ _).1 rfl
    have n2 : some k ≠ v.ownBlock := fun e => by
      rcases hr.2 with ⟨rfl, _⟩ | ⟨g, cap, cur, rfl, _, hg2, _⟩
      · simp [Value.ownBlock] at e
      · obtain rfl : k = g := by simpa [Value.ownBlock] using e
        rw [hk] at hg2; cases hg2; exact (ho _ _).2 rfl
    exact (Below.heap_setCell w1 _ v' k n1).trans ((hg.block k (by simp; omega) n2).trans ((Below.heap_alloc W tmp k hk1).trans hk))
theorem tok_new (w : World) (t : Nat × Nat × Nat) : ∀ j u, (tkC t)[j]? = some u → (w.alloc (.cells #[.int .u8 (t.1 : Nat), .int .i64 (t.2.1 : Nat), .int .i64 (t.2.2 : Nat)] 55)).cell? ((⟨w.heap.size, 0, none⟩ : Addr).add j) = some u := by
  intro j u hj
  match j, hj with
  | 0, hj => exact (cell_blk (heap_alloc_last w _) 0).trans hj
  | 1, hj => exact (cell_blk (heap_alloc_last w _) 1).trans hj
  | 2, hj => exact (cell_blk (heap_alloc_last w _) 2).trans hj
theorem byte_idx (s : ByteArray) (i : Nat) (h : i < s.size) : ((s[i]'h).toNat : Int) = ((byteL s).getD i 0 : Nat) := by rw [idx_byte]
theorem mt_toks {n : Nat} (h : n < 1000000) : n + 1 ≤ maxLen ∧ (n + 1) * 24 ≤ 140737488355328 := by unfold maxLen; omega
theorem mt_c0 (i : Nat) : ((i : Int) < 0) = False := by simp only [eq_iff_iff, iff_false]; omega
theorem one55 (t : Nat × Nat × Nat) : ∀ u ∈ tkC t, u.oneCell' = true := by
  intro u hu
  simp only [tkC, List.mem_cons, List.not_mem_nil, or_false] at hu
  rcases hu with rfl | rfl | rfl <;> rfl
set_option maxHeartbeats 4000000 in
theorem lit_any (a n₀ B : Nat) (r : Nat × Nat × Nat) (s : ByteArray) (f : Value) (ts : List (Nat × Nat × Nat)) (w : World) (h : Pb w n₀ B r s f ts) (ha : a < s.size) (ht : ts.length < 1000000) :
    Calls Try.prog 32 #[.pointer (some ⟨B, 0, none⟩), .int .i64 (a : Nat)] w fun e w' => (∃ v, e = .returned v) ∧ Pb w' n₀ B r s f (ts ++ [litT (byteL s) a]) ∧ KeepQ n₀ w w' := by
  obtain ⟨v, hb, hr⟩ := h.ex
  have HB := Lib.hid hb
  have HR := Lib.hid hr
  have HN := Lib.hid (And.intro h.low h.size)
  have hidx := byte_idx s a ha
  have n0 : (0 : Int) ≤ (a : Int) := Int.natCast_nonneg a
  have n1 : (a : Int) < (s.size : Int) := Int.ofNat_lt.2 ha
  have HT := Lib.hid (mt_toks ht)
  obtain ⟨i0, hi, hz0, hz1, hz2⟩ := info_parts info55
  clear hb hr h ht
  go_enter Try.func32, Try.ntmps32
  have hHeld : w.drew.cell? ⟨B, 3, none⟩ = some (.string s) ∧ w.drew.cell? ⟨B, 5, none⟩ = some v := ⟨cell_blk HB.out 3, cell_blk HB.out 5⟩
  refine wp_region_Z (fun w' => w'.cell? ⟨B, 3, none⟩ = some (.string s) ∧ w'.cell? ⟨B, 5, none⟩ = some v) 16 [.take 0, .take 1, .take 2, .take 3, .take 4, .take 5, .take 6, .take 7, .take 8, .take 9, .take 10, .take 11, .go 12, .go 13, .take 14, .take 15, .last 16] [15, 13, 0, 1, 2, 3, 4, 5, 6, 7, 8, 9, 10, 11, 12, 14] (by kernel_rfl) (by kernel_rfl) (fun _ _ _ _ _ h => h) hHeld ?_
  refine T_light (a' := ?_) 4 rfl rfl rfl (of_decide_eq_true rfl) rfl hHeld (fun wq hSq K Q hK => ?_) ?_
  rotate_left
  · (go_step; exact hK)
  refine T_light (a' := ?_) 5 rfl rfl rfl (of_decide_eq_true rfl) rfl hHeld (fun wq hSq K Q hK => ?_) ?_
  rotate_left
  · (go_step; exact hK)
  refine T_light (a' := ?_) 6 rfl rfl rfl (of_decide_eq_true rfl) rfl hHeld (fun wq hSq K Q hK => ?_) ?_
  rotate_left
  · (go_step; exact hK)
  refine T_light (a' := ?_) 7 rfl rfl rfl (of_decide_eq_true rfl) rfl hHeld (fun wq hSq K Q hK => ?_) ?_
  rotate_left
  · (go_step; exact hK)
  refine T_light (a' := ?_) 8 rfl rfl rfl (of_decide_eq_true rfl) rfl hHeld (fun wq hSq K Q hK => ?_) ?_
  rotate_left
  · ((have r1 := hSq.2; go_step); exact hK)
  refine T_light (a' := ?_) 9 rfl rfl rfl (of_decide_eq_true rfl) rfl hHeld (fun wq hSq K Q hK => ?_) ?_
  rotate_left
  · (go_step; exact hK)
  refine T_light (a' := ?_) 10 rfl rfl rfl (of_decide_eq_true rfl) rfl hHeld (fun wq hSq K Q hK => ?_) ?_
  rotate_left
  · (go_step; exact hK)
  refine T_light (a' := ?_) 11 rfl rfl rfl (of_decide_eq_true rfl) rfl hHeld (fun wq hSq K Q hK => ?_) ?_
  rotate_left
  · (go_step; exact hK)
  refine T_light (a' := ?_) 12 rfl rfl rfl (of_decide_eq_true rfl) rfl hHeld (fun wq hSq K Q hK => ?_) ?_
  rotate_left
  · ((have r1 := hSq.1; go_step); exact hK)
  refine T_light (a' := ?_) 13 rfl rfl rfl (of_decide_eq_true rfl) rfl hHeld (fun wq hSq K Q hK => ?_) ?_
  rotate_left
  · (go_step; exact hK)
  refine T_light (a' := ?_) 14 rfl rfl rfl (of_decide_eq_true rfl) rfl hHeld (fun wq hSq K Q hK => ?_) ?_
  rotate_left
  · ((go_step); exact hK)
  refine T_light (a' := ?_) 15 rfl rfl rfl (of_decide_eq_true rfl) rfl hHeld (fun wq hSq K Q hK => ?_) ?_
  rotate_left
  · (go_step; exact hK)
  refine T_go rfl rfl (fun K hK => ?_)
  go_step
  refine hK _ _ ⟨cell_alloc hHeld.1, cell_alloc hHeld.2⟩ ?_
  clear hK K
  refine T_go rfl rfl (fun K hK => ?_)
  refine wp_append_own _ _ _ 42 rfl n₀ 55 i0 (.agg #[.int .u8 0, .int .i64 0, .int .i64 0]) 3 24 Try.underlying42 hi hz0 hz1 hz2 rfl (by decide) v ts.length (tksC ts) rfl (World.ownsRow.alloc (w := w.drew) HR.out _) ⟨(w.drew).heap.size, 0, none⟩ 1 1 (tkC (litT (byteL s) a)) rfl rfl (tok_new (w.drew) (litT (byteL s) a)) (one55 _) HT.out.1 HT.out.2 (Nat.le_trans HN.out.2 (by simp)) ?_
  intro v1 w1 hown1 hgrow1 _
  obtain ⟨g1, cap1, rfl⟩ := ownsRow_succ hown1
  obtain ⟨hb1, hp1, hk1⟩ := pb_app (W := w.drew) HN.out.1 HN.out.2 HB.out HR.out hown1 hgrow1
  have f1 := frozen_blk hb1 5
  have c5 : w1.cell? ⟨B, 5, none⟩ = some v := cell_blk hb1 5
  have HP1 := Lib.hid hp1
  have HK1 := Lib.hid hk1
  have hHeld : w1.cell? ⟨B, 3, none⟩ = some (.string s) ∧ w1.cell? ⟨B, 5, none⟩ = some v := ⟨cell_blk hb1 3, c5⟩
  clear hown1 hgrow1 hb1 hp1 hk1
  refine hK _ _ hHeld ?_
  clear hK K
  refine T_light (a' := ?_) 18 rfl rfl rfl (of_decide_eq_true rfl) rfl hHeld (fun wq hSq K Q hK => ?_) ?_
  rotate_left
  · (go_step; exact hK)
  refine T_light (a' := ?_) 19 rfl rfl rfl (of_decide_eq_true rfl) rfl hHeld (fun wq hSq K Q hK => ?_) ?_
  rotate_left
  · (go_step; exact hK)
  refine T_last rfl rfl (fun K hK => ?_)
  go_step
  refine hK _ _ ?_
  clear hK K
  refine T_done ?_
  refine bodyPost_end (results_none rfl _ _ _) rfl ⟨⟨_, rfl⟩, HP1.out, (KeepQ.drew0 n₀ w HN.out.2).trans HK1.out⟩
end Go.Proofs.Ytolkmjclldjkkaa
