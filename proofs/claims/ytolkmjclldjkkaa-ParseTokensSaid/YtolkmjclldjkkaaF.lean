/-
  Chain: what a finder is in memory, and what 'three', 'New' and 'Last' come to (contracts, by hand).
-/
import Derived.Test.YtolkmjclldjkkaaM
import Derived.Test.YtolkmjclldjkkaaK
import Derived.Test.YtolkmjclldjkkaaT
import Derived.Deep.LoopGhost
import Derived.Deep.WholeRow
import Derived.Laws.Rows
import Derived.WalkLawsBesides
import Derived.Outline
import Derived.Lib.Hide
import Derived.Lib.LazyBuf
set_option linter.unusedSimpArgs false
set_option linter.unusedVariables false
namespace Go.Proofs.Ytolkmjclldjkkaa
open Go.RowKit

/-- the three bytes at a place -/
def threeAt (L : List Nat) (p : Nat) : Option (Nat × Nat × Nat) := if p + 3 ≤ L.length then some (L.getD p 0, L.getD (p + 1) 0, L.getD (p + 2) 0) else none
/-- of places (the latest first), those of a key -/
def cand (L : List Nat) (k : Nat × Nat × Nat) (l : List Nat) : List Nat := l.filter fun p => threeAt L p == some k
/-- the last place that was put -/
def lastI (l : List Nat) : Int := match l with | [] => -1 | p :: _ => p
/-- a place, as a number -/
def oI (o : Option Nat) : Option Int := o.map Int.ofNat
/-- the first map: each key's latest place -/
def ByOk (L : List Nat) (l : List Nat) (F : Value → Option Int) : Prop := ∀ k, F (kV k) = oI (cand L k l).head?
/-- the second map: a place's next elder one of the same key -/
def BackOk (L : List Nat) (l : List Nat) (G : Value → Option Int) : Prop :=
  (∀ k pre p r, cand L k l = pre ++ p :: r → G (.int .i64 (p : Nat)) = oI r.head?) ∧ ∀ p : Nat, p ∉ l → G (.int .i64 (p : Nat)) = none
/-- a finder at block A: its text, the places that were put (the latest first) -/
structure Fnd (W : World) (n₀ A : Nat) (s : ByteArray) (l : List Nat) : Prop where
  ex : ∃ M1 M2 F G, W.heap[A]? = some (.cells #[.string s, .map (some M1), .map (some M2), .int .i64 (lastI l)] 64 (0, 0)) ∧ M1 ≠ M2 ∧ n₀ ≤ M1 ∧ n₀ ≤ M2 ∧ MapI W 65 M1 l.length F ∧ MapI W 3 M2 l.length G ∧ ByOk (byteL s) l F ∧ BackOk (byteL s) l G
  low : n₀ ≤ A
  desc : l.Pairwise (· > ·)
  lt : ∀ p ∈ l, p < s.size
  size : s.size ≤ 140737488351232
theorem Fnd.blk {W : World} {n₀ A : Nat} {s : ByteArray} {l : List Nat} (h : Fnd W n₀ A s l) : A < W.heap.size := by
  obtain ⟨M1, M2, F, G, hA, _⟩ := h.ex
  exact (Array.getElem?_eq_some_iff.1 hA).1
/-- what keeps the finder's blocks keeps the finder -/
theorem Fnd.keep {W W' : World} {n₀ A : Nat} {s : ByteArray} {l : List Nat} (h : Fnd W n₀ A s l) (hk : ∀ k o, W.heap[k]? = some o → (k = A ∨ ∃ es c, o = .map es c) → W'.heap[k]? = some o) : Fnd W' n₀ A s l := by
  obtain ⟨M1, M2, F, G, hA, hne, l1, l2, h1, h2, hb, hg⟩ := h.ex
  obtain ⟨e1, c1, m1⟩ := h1.isMap
  obtain ⟨e2, c2, m2⟩ := h2.isMap
  exact ⟨⟨M1, M2, F, G, hk _ _ hA (.inl rfl), hne, l1, l2, h1.same ((hk _ _ m1 (.inr ⟨_, _, rfl⟩)).trans m1.symm), h2.same ((hk _ _ m2 (.inr ⟨_, _, rfl⟩)).trans m2.symm), hb, hg⟩, h.low, h.desc, h.lt, h.size⟩
theorem Fnd.below {W W' : World} {n₀ A : Nat} {s : ByteArray} {l : List Nat} (h : Fnd W n₀ A s l) (hb : Below W.heap.size W W') : Fnd W' n₀ A s l :=
  h.keep fun k o hk _ => (hb.block k (Array.getElem?_eq_some_iff.1 hk).1).trans hk
theorem cell_blk {w : World} {B : Nat} {cs : Array Value} {t : TypeId} {fz : Nat × Nat} (h : w.heap[B]? = some (.cells cs t fz)) (j : Nat) : w.cell? ⟨B, j, none⟩ = cs[j]? := by
  unfold World.cell?; rw [h]; rfl
theorem new3 (w : World) (u v x : Value) (t : TypeId) : (w.alloc (.cells #[u, v, x] t)).cell? ⟨w.heap.size, 0, none⟩ = some u ∧ (w.alloc (.cells #[u, v, x] t)).cell? ⟨w.heap.size, 1, none⟩ = some v ∧ (w.alloc (.cells #[u, v, x] t)).cell? ⟨w.heap.size, 2, none⟩ = some x := by
  have h : (w.alloc (.cells #[u, v, x] t)).heap[w.heap.size]? = some (.cells #[u, v, x] t (0, 0)) := heap_alloc_last w _
  refine ⟨?_, ?_, ?_⟩ <;> (unfold World.cell?; rw [h]; rfl)
theorem info65 : (Try.prog.info? 65).map (fun i => (i.zero, i.size, i.bytes)) = some (some (.agg #[.int .u8 0, .int .u8 0, .int .u8 0]), 3, 3) := by kernel_rfl
theorem three_res (tmps : Array Value) (w : World) (B : Nat) (k : Nat × Nat × Nat) (b : Bool) (h4 : tmps.getD 4 undef = .pointer (some ⟨B, 0, none⟩)) (h5 : tmps.getD 5 undef = .bool b)
    (q0 : w.cell? ⟨B, 0, none⟩ = some (.int .u8 (k.1 : Nat))) (q1 : w.cell? ⟨B, 1, none⟩ = some (.int .u8 (k.2.1 : Nat))) (q2 : w.cell? ⟨B, 2, none⟩ = some (.int .u8 (k.2.2 : Nat))) :
    (results Try.f26 tmps).run Try.prog w = .ok (.tuple #[kV k, .bool b]) w := by
  have h4' : tmps[4]?.getD undef = .pointer (some ⟨B, 0, none⟩) := by simpa using h4
  have h5' : tmps[5]?.getD undef = .bool b := by simpa using h5
  obtain ⟨i, hi, hz0, hz1, hz2⟩ := info_parts info65
  rw [results_cell_tmp rfl]
  simp [asAddr, loadVar, run_load, h4', h5', q0, q1, q2, go_sem]
  rfl
theorem take3 (s : ByteArray) (p : Nat) (h : p + 3 ≤ s.size) : (((s.extract p s.size).data.toList.map fun x => Value.int .u8 (x.toNat : Int)).take 3) = [.int .u8 ((byteL s).getD p 0 : Nat), .int .u8 ((byteL s).getD (p + 1) 0 : Nat), .int .u8 ((byteL s).getD (p + 2) 0 : Nat)] := by
  have hl : (byteL s).length = s.size := byteL_length s
  have e : ((s.extract p s.size).data.toList.map fun x => Value.int .u8 (x.toNat : Int)) = ((byteL s).drop p).map fun n => Value.int .u8 (n : Nat) := by
    have h2 : (s.extract p s.size).data.toList = s.data.toList.drop p := by
      rw [ByteArray.data_extract, Array.toList_extract]
      rw [List.extract_eq_take_drop, List.take_of_length_le (by rw [List.length_drop, Array.length_toList]; exact Nat.le_refl _)]
    rw [h2, byteL, List.map_drop, List.map_drop, List.map_map]
    rfl
  rw [e, List.drop_eq_getElem_cons (by omega), List.drop_eq_getElem_cons (by omega), List.drop_eq_getElem_cons (by omega)]
  simp only [List.map_cons, List.take_succ_cons, List.take_zero, List.getD_eq_getElem?_getD]
  rw [List.getElem?_eq_getElem (by omega), List.getElem?_eq_getElem (by omega), List.getElem?_eq_getElem (by omega)]
  rfl
theorem copy3x (w : World) (B : Nat) (x : ByteArray) (u0 u1 u2 : Value) (hx : ((x.data.toList.map fun b => Value.int .u8 (b.toNat : Int)).take 3) = [u0, u1, u2]) (ho : ∀ u ∈ [u0, u1, u2], u.oneCell' = true) (hmin : Nat.min x.size 3 = 3) (v0 v1 v2 : Value) (hB : w.heap[B]? = some (.cells #[v0, v1, v2] 65 (0, 0))) (ty : TypeId) :
    (Builtin.copy_ #[35, 9] ty #[.slice (some ⟨B, 0, none⟩) 3 3, .string x]).run Try.prog w = .ok (goInt 3) (w.setCells B 0 [u0, u1, u2]) := by
  have hu : Try.prog.underlying 35 = some (.slice 5) := Try.underlying35
  have hi : (Try.prog.info? 5).map (·.size) = some 1 := by kernel_rfl
  obtain ⟨i5, h5, h5s⟩ := Option.map_eq_some_iff.1 hi
  have hst := run_storeCells_cells (P := Try.prog) B 0 [u0, u1, u2] 0 w (fun j hj => by
    rw [cell_blk hB]
    have : j < 3 := by simpa using hj
    match j, this with
    | 0, _ => rfl
    | 1, _ => rfl
    | 2, _ => rfl) (fun j hj => by unfold World.frozen?; rw [hB]; rfl) ho
  simp [Builtin.copy_, run_underlying hu, Builtin.lenOf, Builtin.firstCells, sizeOf, typeInfo, h5, h5s, hmin]
  rw [hx, hst]
  rfl
theorem copy3 (w : World) (B : Nat) (s : ByteArray) (p : Nat) (h : p + 3 ≤ s.size) (hB : w.heap[B]? = some (.cells #[.int .u8 0, .int .u8 0, .int .u8 0] 65 (0, 0))) (ty : TypeId) :
    ∃ wC, (Builtin.copy_ #[35, 9] ty #[.slice (some ⟨B, 0, none⟩) 3 3, .string (s.extract p s.size)]).run Try.prog w = .ok (goInt 3) wC ∧ (∀ n, n ≤ B → Below n w wC) ∧
      wC.heap[B]? = some (.cells #[.int .u8 ((byteL s).getD p 0 : Nat), .int .u8 ((byteL s).getD (p + 1) 0 : Nat), .int .u8 ((byteL s).getD (p + 2) 0 : Nat)] 65 (0, 0)) := by
  have hsz : (s.extract p s.size).size = s.size - p := by rw [ByteArray.size_extract]; omega
  have hmin : Nat.min (s.extract p s.size).size 3 = 3 := by rw [hsz]; exact Nat.min_eq_right (by omega)
  have ht := take3 s p h
  obtain ⟨x, hx⟩ : ∃ x, s.extract p s.size = x := ⟨_, rfl⟩
  rw [hx] at hmin ht ⊢
  refine ⟨_, copy3x w B x _ _ _ ht (by simp [Value.oneCell']) hmin _ _ _ hB ty, ?_, ?_⟩
  · intro n hn
    exact below_setCells hn _ _ _ (Below.refl _ _)
  · simp [World.setCells, World.setCell, Array.getElem?_modify, hB]
set_option maxHeartbeats 400000 in
theorem three_any (at_ : Int) (A : Nat) (s : ByteArray) (w : World) (hs : s.size ≤ 140737488351232) (hA : w.cell? ⟨A, 0, none⟩ = some (.string s)) :
    Calls Try.prog 26 #[.pointer (some ⟨A, 0, none⟩), .int .i64 at_] w fun e w' => Below w.heap.size w w' ∧
      e = .returned (.tuple (if 0 ≤ at_ then (match threeAt (byteL s) at_.toNat with | some k => #[kV k, .bool true] | none => #[kV (0, 0, 0), .bool false]) else #[kV (0, 0, 0), .bool false])) := by
  have HS := Lib.hid hs
  clear hs
  obtain ⟨q0, q1, q2⟩ := new3 w (.int .u8 0) (.int .u8 0) (.int .u8 0) 65
  have hbA : Below w.heap.size w (w.alloc (.cells #[.int .u8 0, .int .u8 0, .int .u8 0] 65)) := (Below.refl _ w).alloc (Nat.le_refl _) _
  have qA := (hbA.cell (p := ⟨A, 0, none⟩) (World.block_lt_of_cell? _ _ hA)).trans hA
  have HBA := Lib.hid hbA
  clear hbA
  go_enter Try.func26, Try.ntmps26
  by_cases h0 : at_ < 0
  · have d0 : decide (at_ < 0) = true := by rw [decide_eq_true_eq]; exact h0
    have hn : ¬ 0 ≤ at_ := by omega
    rw [if_neg hn]
    clear h0 hn
    go_wp2_with fail
    refine bodyPost_ret (three_res _ _ w.heap.size (0, 0, 0) false rfl rfl q0 q1 q2) rfl ⟨HBA.out, rfl⟩
  · have hp : 0 ≤ at_ := by omega
    rw [if_pos hp]
    obtain ⟨p, rfl⟩ : ∃ p : Nat, at_ = (p : Int) := ⟨at_.toNat, by omega⟩
    have e1 : wrap64 ((s.size : Int) - 3) = (s.size : Int) - 3 := by have := HS.out; unfold wrap64; omega
    have d0 : decide ((p : Int) < 0) = false := by rw [decide_eq_false_iff_not]; exact h0
    by_cases h3 : p + 3 ≤ s.size
    · have d3 : decide ((s.size : Int) - 3 < (p : Int)) = false := by rw [decide_eq_false_iff_not]; omega
      have hps : p ≤ s.size := by omega
      have n1 : (0 : Int) ≤ (p : Int) := by omega
      have n2 : (p : Int) ≤ (s.size : Int) := by omega
      obtain ⟨wC, hcp, hbC, hC⟩ := copy3 (w.alloc (.cells #[.int .u8 0, .int .u8 0, .int .u8 0] 65)).drew w.heap.size s p h3 (heap_alloc_last w _) 3
      have HC := Lib.hid hC
      have f0 : ∀ j, wC.frozen? ⟨w.heap.size, j, none⟩ = false := fun j => by unfold World.frozen?; rw [hC]; rfl
      have HBC := Lib.hid (HBA.out.drew.trans (hbC w.heap.size (Nat.le_refl _)))
      have HT := Lib.hid (show threeAt (byteL s) (p : Int).toNat = some ((byteL s).getD p 0, (byteL s).getD (p + 1) 0, (byteL s).getD (p + 2) 0) by unfold threeAt; rw [Int.toNat_natCast, if_pos (by rw [byteL_length]; exact h3)])
      rw [HT.out]
      obtain ⟨x, hx⟩ : ∃ x, (byteL s).getD p 0 = x := ⟨_, rfl⟩
      obtain ⟨y, hy⟩ : ∃ y, (byteL s).getD (p + 1) 0 = y := ⟨_, rfl⟩
      obtain ⟨z, hz⟩ : ∃ z, (byteL s).getD (p + 2) 0 = z := ⟨_, rfl⟩
      rw [hx, hy, hz] at hC HC ⊢
      have c0 : wC.cell? ⟨w.heap.size, 0, none⟩ = some (.int .u8 (x : Nat)) := cell_blk hC 0
      have c1 : wC.cell? ⟨w.heap.size, 1, none⟩ = some (.int .u8 (y : Nat)) := cell_blk hC 1
      have c2 : wC.cell? ⟨w.heap.size, 2, none⟩ = some (.int .u8 (z : Nat)) := cell_blk hC 2
      clear hbC hC hx hy hz HT
      have hHeld0 : (w.alloc (.cells #[.int .u8 0, .int .u8 0, .int .u8 0] 65)).drew.cell? ⟨A, 0, none⟩ = some (.string s) := qA
      have HH := Lib.hid hHeld0
      clear h0 hp h3 hHeld0
      go_wp2_with fail
      have hHeld := HH.out
      refine wp_region_Z (fun w' => w'.cell? ⟨A, 0, none⟩ = some (.string s)) 7 [.take 0, .take 1, .take 2, .take 3, .take 4, .take 5, .take 6, .last 7] [0, 6, 4, 5, 3, 2, 1] (by kernel_rfl) (by kernel_rfl) (fun _ _ _ _ _ h => h) hHeld ?_
      refine T_light (a' := ?_) 19 rfl rfl rfl (of_decide_eq_true rfl) rfl hHeld (fun wq hSq K Q hK => ?_) ?_
      rotate_left
      · (go_step; exact hK)
      refine T_light (a' := ?_) 20 rfl rfl rfl (of_decide_eq_true rfl) rfl hHeld (fun wq hSq K Q hK => ?_) ?_
      rotate_left
      · (go_step; exact hK)
      refine T_light (a' := ?_) 21 rfl rfl rfl (of_decide_eq_true rfl) rfl hHeld (fun wq hSq K Q hK => ?_) ?_
      rotate_left
      · (go_step; exact hK)
      refine T_light (a' := ?_) 22 rfl rfl rfl (of_decide_eq_true rfl) rfl hHeld (fun wq hSq K Q hK => ?_) ?_
      rotate_left
      · (go_step; exact hK)
      refine T_light (a' := ?_) 23 rfl rfl rfl (of_decide_eq_true rfl) rfl hHeld (fun wq hSq K Q hK => ?_) ?_
      rotate_left
      · ((have r1 := hSq; go_step); exact hK)
      refine T_light (a' := ?_) 24 rfl rfl rfl (of_decide_eq_true rfl) rfl hHeld (fun wq hSq K Q hK => ?_) ?_
      rotate_left
      · (go_step; exact hK)
      refine T_light (a' := ?_) 25 rfl rfl rfl (of_decide_eq_true rfl) rfl hHeld (fun wq hSq K Q hK => ?_) ?_
      rotate_left
      · (go_step; exact hK)
      refine T_last rfl rfl (fun K hK => ?_)
      go_step
      refine hK _ _ ?_
      clear hK K
      refine T_done ?_
      go_wp2_with fail
      have hE : (((wC.setCell ⟨w.heap.size, 0, none⟩ (.int .u8 (x : Nat))).setCell ⟨w.heap.size, 1, none⟩ (.int .u8 (y : Nat))).setCell ⟨w.heap.size, 2, none⟩ (.int .u8 (z : Nat))).heap[w.heap.size]? = some (.cells #[.int .u8 (x : Nat), .int .u8 (y : Nat), .int .u8 (z : Nat)] 65 (0, 0)) := by
        simp [World.setCell, Array.getElem?_modify, HC.out]
      refine bodyPost_ret (three_res _ _ w.heap.size (x, y, z) true rfl rfl (cell_blk hE 0) (cell_blk hE 1) (cell_blk hE 2)) rfl ⟨?_, rfl⟩
      exact ((HBC.out.setCell (p := ⟨w.heap.size, 0, none⟩) (Nat.le_refl _) _).setCell (p := ⟨w.heap.size, 1, none⟩) (Nat.le_refl _) _).setCell (p := ⟨w.heap.size, 2, none⟩) (Nat.le_refl _) _
    · have d3 : decide ((s.size : Int) - 3 < (p : Int)) = true := by rw [decide_eq_true_eq]; omega
      have HT := Lib.hid (show threeAt (byteL s) (p : Int).toNat = none by unfold threeAt; rw [if_neg (by rw [byteL_length, Int.toNat_natCast]; exact h3)])
      rw [HT.out]
      clear h0 hp h3
      go_wp2_with fail
      refine bodyPost_ret (three_res _ _ w.heap.size (0, 0, 0) false rfl rfl q0 q1 q2) rfl ⟨HBA.out, rfl⟩
end Go.Proofs.Ytolkmjclldjkkaa
