/-
  CanonNone: the walk, for every lengths, where one without a code is put, which two symbols.
-/
import Derived.Test.YtogpjdiammecjaaNa
import Derived.Test.YtogpjdiammecjaaMathA
set_option linter.unusedSimpArgs false
set_option linter.unusedVariables false
namespace Go.Proofs.Ytogpjdiammecjaa
open Go.RowKit Go.Proofs.YtogpjdiammecjaaW.PrintWords Go.Proofs.Ytogpjdiammecjaa.PC Go.Proofs.Ytogpjdiammecjaa.Pure

theorem alive_any (w : World) : Calls Try.prog 8 #[] w fun e w' => e = .returned (.bool true) ∧ Below w.heap.size w w' := PC.platenlaw05_alive.calls 20 true w (alive_some 0)
def u8V (l : List Int) : List Value := l.map fun x => .int .u8 x
theorem u8V_length (l : List Int) : (u8V l).length = l.length := by simp [u8V]
theorem u8V_append (l m : List Int) : u8V (l ++ m) = u8V l ++ u8V m := by simp [u8V]
theorem u8V_one (l : List Int) : ∀ u ∈ u8V l, u.oneCell' = true := by
  intro u hu
  simp only [u8V, List.mem_map] at hu
  obtain ⟨x, _, rfl⟩ := hu
  rfl
theorem info5N : (Try.prog.info? 5).map (fun i => (i.zero, i.size, i.bytes)) = some (some (.int .u8 0), 1, 1) := by kernel_rfl
theorem own_belowN {w W w1 : World} {v : Value} {n : Nat} {xs : List Value} {tmp : World} (hB : Below w.heap.size w W) (hr : W.ownsRow w.heap.size 5 1 v n xs) (hg : W.grownBy w1 v.ownBlock) : Below w.heap.size w w1 :=
  hB.grown hg hB.size fun j ej => (hr.lt j ej).1
/-- lengths that lie in memory -/
structure LAt (W : World) (x : Addr) (l : List Int) : Prop where
  cell : ∀ i, i < l.length → W.cell? (x.add i) = some (.int .u8 (l.getD i 0))
  bytes : ∀ y ∈ l, 0 ≤ y ∧ y < 256
  small : l.length ≤ 400
theorem LAt.below {W W' : World} {x : Addr} {l : List Int} (h : LAt W x l) (hb : Below W.heap.size W W') : LAt W' x l :=
  ⟨fun i hi => (hb.cell (World.block_lt_of_cell? _ _ (h.cell i hi))).trans (h.cell i hi), h.bytes, h.small⟩
theorem LAt.reads {W : World} {x : Addr} {l : List Int} (h : LAt W x l) : ReadsInt W .u8 (some x) l.length l := ⟨rfl, by have := h.small; omega, fun _ => ⟨x, rfl, h.cell⟩⟩
theorem lens_of {W : World} {a : Option Addr} {len cap : Nat} {z : List Int} (hl : ¬ 300 < len) (h0 : ¬ len = 0) (w0 : (a = none ∧ len = 0 ∧ cap = 0 ∧ z = []) ∨ ∃ x, a = some x ∧ len ≤ cap ∧ cap ≤ maxLen ∧ z.length = cap ∧ (∀ i, i < z.length → W.cell? (x.add i) = some (.int .u8 (z.getD i 0))) ∧ ∀ n ∈ z, (Lit.int .u8 n).wf = true) :
    ∃ x l, a = some x ∧ l.length = len ∧ len ≤ cap ∧ LAt W x l := by
  rcases w0 with ⟨_, h, _⟩ | ⟨x, rfl, h1, _, h3, h4, h5⟩
  · exact absurd h h0
  · refine ⟨x, z.take len, rfl, by rw [List.length_take]; omega, h1, ⟨fun i hi => ?_, fun y hy => wf_u8 (h5 y (List.mem_of_mem_take hy)), by rw [List.length_take]; omega⟩⟩
    rw [List.length_take] at hi
    rw [h4 i (by omega)]
    congr 2
    rw [List.getD_eq_getElem?_getD, List.getD_eq_getElem?_getD, List.getElem?_take, if_pos (by omega)]
theorem nt_a1 {len : Nat} (h : 300 < len) : decide ((300 : Int) < (len : Int)) = true := by rw [decide_eq_true_eq]; omega
theorem nt_a2 {len : Nat} (h : ¬ 300 < len) : decide ((300 : Int) < (len : Int)) = false := by rw [decide_eq_false_iff_not]; omega
theorem nt_a3 {len : Nat} (h : len = 0) : ((len : Int) == 0) = true ∧ decide (len = 0) = true := by subst h; exact ⟨rfl, rfl⟩
theorem nt_a4 {len : Nat} (h : ¬ len = 0) : ((len : Int) == 0) = false ∧ decide (len = 0) = false := ⟨by rw [beq_eq_false_iff_ne]; omega, by rw [decide_eq_false_iff_not]; exact h⟩
theorem nt_k {a len : Nat} (h : a < 65536) (hl : len ≤ 300) : ∃ k : Nat, wrap64 (a : Int) = (a : Int) ∧ wrap64 ((len : Int) + 1) = (len : Int) + 1 ∧ (a : Int).tmod ((len : Int) + 1) = (k : Int) ∧ ¬ ((len : Int) + 1 = 0) ∧ k ≤ len := by
  refine ⟨a % (len + 1), by unfold wrap64; omega, by unfold wrap64; omega, ?_, by omega, Nat.le_of_lt_succ (Nat.mod_lt _ (Nat.succ_pos _))⟩
  rw [Int.tmod_eq_emod_of_nonneg (Int.natCast_nonneg a)]
  rfl
theorem nt_s0 {k len : Nat} (h : k ≤ len) (hl : len ≤ 300) : ([] : List Int).length + k ≤ 400 := by simp; omega
theorem nt_s1 {l : List Int} {k len : Nat} (h : k ≤ len) (hl : len ≤ 300) : (l.take k).length + 1 ≤ 400 := by rw [List.length_take]; omega
theorem nt_s2 {l : List Int} {k len : Nat} (h : k ≤ len) (hl : len ≤ 300) : (l.take k ++ [0]).length + (len - k) ≤ 400 := by rw [List.length_append, List.length_take, List.length_singleton]; omega
theorem lat_keep {W w : World} {x : Addr} {l : List Int} (h : LAt W x l) (hb : Below W.heap.size W w) : LAt w x l := h.below hb
theorem nt_z1 {l : List Int} {k len cap : Nat} (h : l.length = len ∧ len ≤ cap ∧ len ≤ 300) : (putZ l k).length ≤ 400 := by rw [putZ_length]; omega
theorem nt_z2 (l : List Int) (k : Nat) : 0 < (putZ l k).length := by rw [putZ_length]; omega
theorem nt_z3 {k len : Nat} (h : k ≤ len) : (k : Int) < (len : Int) + 1 := by omega
theorem nt_z5 {k len : Nat} (h : k ≤ len) : (k : Int) ≤ (len : Int) + 1 := by omega
theorem nt_ne {i j : Nat} (h : ¬ i = j) : ((i : Int) == (j : Int)) = false := by rw [beq_eq_false_iff_ne]; omega
theorem nt_code {p q : Nat × Nat} (h : p ≠ q) : decide (((p.1 : Nat) : Int) = ((q.1 : Nat) : Int) ∧ ((p.2 : Nat) : Int) = ((q.2 : Nat) : Int)) = false := by
  rw [decide_eq_false_iff_not]
  rintro ⟨h1, h2⟩
  exact h (Prod.ext (by omega) (by omega))
theorem nt_z4 {k len : Nat} (h : k ≤ len) (hl : len ≤ 300) : wrap64 ((k : Int) + 1) = (k : Int) + 1 := by unfold wrap64; omega
theorem putZ_bytes {l : List Int} {k : Nat} (h : ∀ y ∈ l, 0 ≤ y ∧ y < 256) : ∀ y ∈ putZ l k, 0 ≤ y ∧ y < 256 := by
  intro y hy
  unfold putZ at hy
  rcases List.mem_append.1 hy with h3 | h3
  · exact h y (List.mem_of_mem_take h3)
  · rcases List.mem_cons.1 h3 with rfl | h3
    · omega
    · exact h y (List.mem_of_mem_drop h3)
theorem own8 : Own Try.prog 8 := own_of Try.func8 (by kernel_rfl) rfl
theorem own14 : Own Try.prog 14 := own_of Try.func14 (by kernel_rfl) rfl
theorem nt_m {a len : Nat} (h : a < 65536) (hl : len ≤ 300) (h0 : ¬ len = 0) : ∃ k : Nat, wrap64 (a : Int) = (a : Int) ∧ (a : Int).tmod (len : Int) = (k : Int) ∧ ¬ ((len : Int) = 0) ∧ k < len := by
  refine ⟨a % len, by unfold wrap64; omega, ?_, by omega, Nat.mod_lt _ (by omega)⟩
  rw [Int.tmod_eq_emod_of_nonneg (Int.natCast_nonneg a)]
  rfl
theorem Addr.add_add_own (x : Addr) (k j : Nat) : (x.add k).add j = x.add (k + j) := by
  unfold Addr.add
  by_cases hk : k = 0 <;> by_cases hj : j = 0 <;> simp [hk, hj, Nat.add_assoc]
theorem cutA (x : Addr) (n c m : Nat) (hm : m ≤ n) (hc : n ≤ c) :
    ∃ y : Addr, (∀ W : World, (Instr.slice 22 (.slice (some x) n c) (some (.int .i64 (m : Int))) none none).run Try.prog W = .ok (.slice (some y) (n - m) (c - m)) W) ∧ (n = m ∨ y = x.add m) := by
  have hi : (Try.prog.info? 5).map (·.size) = some 1 := by kernel_rfl
  obtain ⟨i5, h5, h5s⟩ := Option.map_eq_some_iff.1 hi
  refine ⟨if c = m then x else x.add m, fun W => ?_, ?_⟩
  · have hel : Try.prog.elem 22 = 5 := by kernel_rfl
    have hu : Try.prog.underlying 22 = some (.slice (Try.prog.elem 22)) := by rw [hel]; exact Try.underlying22
    rw [run_slice_l W 22 (some x) n c hu .i64 (m : Int) (Int.natCast_nonneg _) (by omega), hel]
    by_cases e : c = m
    · simp [sizeOf, typeInfo, h5, h5s, sliced, Result.andThen, e]
    · simp [sizeOf, typeInfo, h5, h5s, sliced, Result.andThen, e]
  · by_cases e : c = m
    · left; omega
    · right; rw [if_neg e]
/-- an append onto lengths of the call's own -/
theorem app_stepN {W w : World} {o : Oper} {a : Act} {K : Act → World → Prop} {Q : Exit → Act → World → Prop} (s q : Operand) (ho : o.op = .call { callee := .builtin .append, args := #[s, q], argTypes := #[22, 22] })
    (v : Value) (xs news : List Int) (hs : a.eval s = v) (hown : w.ownsRow W.heap.size 5 1 v xs.length (u8V xs)) (hB : Below W.heap.size W w) (ad : Addr) (m c : Nat) (hx : a.eval q = .slice (some ad) m c) (hl : news.length = m)
    (hnews : ∀ j, j < m → w.cell? (ad.add j) = some (.int .u8 (news.getD j 0))) (hsz : xs.length + m ≤ 400)
    (h : ∀ v' w', w'.ownsRow W.heap.size 5 1 v' (xs ++ news).length (u8V (xs ++ news)) → Below W.heap.size W w' → (∀ k ob, some k ≠ v.ownBlock → w.heap[k]? = some ob → w'.heap[k]? = some ob) → K (a.put o.dst v') w') : o.wp Try.prog a w K Q := by
  obtain ⟨i0, hi, hz0, hz1, hz2⟩ := info_parts info5N
  refine wp_append_own w s q 22 ho W.heap.size 5 i0 (.int .u8 0) 1 1 Try.underlying22 hi hz0 hz1 hz2 rfl (by decide) v xs.length (u8V xs) hs hown ad m c (u8V news) hx (by rw [u8V_length, hl, Nat.mul_one]) (fun j u hj => ?_) (u8V_one _) (by unfold maxLen; omega) (by omega) hB.size ?_
  · obtain ⟨hj1, hj2⟩ := List.getElem?_eq_some_iff.1 hj
    rw [u8V_length] at hj1
    rw [hnews j (by omega), ← hj2]
    simp [u8V, List.getD_eq_getElem?_getD, hj1]
  · intro v' w' hown' hg _
    refine h v' w' ?_ (hB.grown hg hB.size fun j ej => (hown.lt j ej).1) (fun k ob hk hob => (hg.block k (Array.getElem?_eq_some_iff.1 hob).1 hk).trans hob)
    rw [List.length_append, u8V_append, hl]
    exact hown'
theorem own_new0 {W w : World} (hB : Below W.heap.size W w) : (w.alloc (.cells #[] 5)).ownsRow W.heap.size 5 1 (.slice (some ⟨w.heap.size, 0, none⟩) 0 0) ([] : List Int).length (u8V []) :=
  ⟨rfl, .inr ⟨w.heap.size, 0, #[], rfl, hB.size, heap_alloc_last w _, Nat.le_refl _, Nat.zero_le _, rfl, rfl⟩⟩
theorem own_allocN {W w : World} {v : Value} {xs : List Int} (h : w.ownsRow W.heap.size 5 1 v xs.length (u8V xs)) (o : Obj) : (w.alloc o).ownsRow W.heap.size 5 1 v xs.length (u8V xs) := h.alloc o
theorem one_cell {w : World} {hN : Nat} (h : w.heap[hN]? = some (.cells #[.int .u8 0] 5 (0, 0))) : ∀ j, j < 1 → w.cell? ((⟨hN, 0, none⟩ : Addr).add j) = some (.int .u8 (([0] : List Int).getD j 0)) := by
  intro j hj
  obtain rfl : j = 0 := by omega
  exact (show w.cell? ((⟨hN, 0, none⟩ : Addr).add 0) = w.cell? ⟨hN, 0, none⟩ by simp [Addr.add]).trans (cell_blkN h 0)
theorem take_cells {W : World} {x : Addr} {l : List Int} {k : Nat} (h : LAt W x l) (hk : k ≤ l.length) : ∀ j, j < k → W.cell? (x.add j) = some (.int .u8 ((l.take k).getD j 0)) := by
  intro j hj
  rw [h.cell j (by omega), List.getD_eq_getElem?_getD, List.getD_eq_getElem?_getD, List.getElem?_take, if_pos hj]
theorem drop_cells {W : World} {x y : Addr} {l : List Int} {k n : Nat} (h : LAt W x l) (hn : l.length = n) (hk : k ≤ n) (hy : n = k ∨ y = x.add k) : ∀ j, j < n - k → W.cell? (y.add j) = some (.int .u8 ((l.drop k).getD j 0)) := by
  intro j hj
  rcases hy with rfl | rfl
  · omega
  · rw [Addr.add_add_own, h.cell (k + j) (by omega), List.getD_eq_getElem?_getD, List.getD_eq_getElem?_getD, List.getElem?_drop]
theorem own_row {W w : World} {g c : Nat} {xs : List Int} {n : Nat} (h : w.ownsRow W.heap.size 5 1 (.slice (some ⟨g, 0, none⟩) n c) xs.length (u8V xs)) (hs : xs.length ≤ 400) : ReadsInt w .u8 (some ⟨g, 0, none⟩) xs.length xs := by
  refine ⟨rfl, by omega, fun _ => ⟨_, rfl, fun j hj => ?_⟩⟩
  refine h.cells (g := g) rfl j _ ?_
  simp [u8V, hj, List.getD_eq_getElem?_getD]
set_option maxRecDepth 100000 in
set_option maxHeartbeats 16000000 in
theorem none_all (a : Option Addr) (len cap : Nat) (z : List Int) (at_ : Nat) (hat : at_ < 65536) (one : Nat) (hon : one < 65536) (two : Nat) (htw : two < 65536) (W : World)
    (w0 : (a = none ∧ len = 0 ∧ cap = 0 ∧ z = []) ∨ ∃ x, a = some x ∧ len ≤ cap ∧ cap ≤ maxLen ∧ z.length = cap ∧ (∀ i, i < z.length → W.cell? (x.add i) = some (.int .u8 (z.getD i 0))) ∧ ∀ n ∈ z, (Lit.int .u8 n).wf = true) :
    Calls Try.prog 6 #[.slice a len cap, .int .u16 (at_ : Nat), .int .u16 (one : Nat), .int .u16 (two : Nat)] W fun e w' => e = .returned (.bool true) ∧ Below W.heap.size W w' := by
  by_cases h3 : 300 < len
  · have d1 := nt_a1 h3
    clear h3 w0 hat hon htw
    go_enter Try.func6, Try.ntmps6
    go_wp2_with fail
    refine (alive_any _).mono ?_
    rintro e w9 ⟨rfl, hb9⟩
    have HB9 := Lib.hid hb9
    clear hb9
    go_wp2_with fail
    go_ret
    exact ⟨rfl, HB9.out⟩
  · have d1 := nt_a2 h3
    by_cases h0 : len = 0
    · obtain ⟨d2, d2'⟩ := nt_a3 h0
      clear h3 h0 w0 hat hon htw
      go_enter Try.func6, Try.ntmps6
      go_wp2_with fail
      refine (alive_any _).mono ?_
      rintro e w9 ⟨rfl, hb9⟩
      have HB9 := Lib.hid hb9
      clear hb9
      go_wp2_with fail
      go_ret
      exact ⟨rfl, HB9.out⟩
    · obtain ⟨d2, d2'⟩ := nt_a4 h0
      obtain ⟨x, l, rfl, hln, hcp, hat2⟩ := lens_of h3 h0 w0
      have HL := Lib.hid hat2
      have HLN := Lib.hid (And.intro hln (And.intro hcp (show len ≤ 300 by omega)))
      have H0 := Lib.hid h0
      have HU := Lib.hid (And.intro hat (And.intro hon htw))
      clear h3 h0 w0 hat hon htw hln hcp hat2
      go_enter Try.func6, Try.ntmps6
      go_wp2_with fail
      by_cases k5 : kindI l = 5
      · have hc := codes_bad l (some x) cap W HL.out.reads HL.out.bytes k5
        rw [HLN.out.1] at hc
        refine hc.mono ?_
        rintro e w2 ⟨rfl, hb⟩
        have HB := Lib.hid hb
        clear hc hb k5
        go_wp2_with fail
        refine (alive_any _).mono ?_
        rintro e w9 ⟨rfl, hb9⟩
        have HB9 := Lib.hid (HB.out.trans (hb9.mono HB.out.size))
        clear hb9
        go_wp2_with fail
        go_ret
        exact ⟨rfl, HB9.out⟩
      · by_cases k4 : kindI l = 4
        · have hc := codes_over l (some x) cap W HL.out.reads HL.out.bytes k4
          rw [HLN.out.1] at hc
          refine hc.mono ?_
          rintro e w2 ⟨rfl, hb⟩
          have HB := Lib.hid hb
          clear hc hb k4 k5
          go_wp2_with fail
          refine (alive_any _).mono ?_
          rintro e w9 ⟨rfl, hb9⟩
          have HB9 := Lib.hid (HB.out.trans (hb9.mono HB.out.size))
          clear hb9
          go_wp2_with fail
          go_ret
          exact ⟨rfl, HB9.out⟩
        · have HK := Lib.hid (kind_of_ok l k5 k4)
          have hc := codes_ok l (some x) cap W HL.out.reads HL.out.bytes k5 k4
          have HKK := Lib.hid (And.intro k5 k4)
          rw [HLN.out.1] at hc
          refine hc.mono ?_
          rintro e w2 ⟨B, hB, rfl, hrow, hb⟩
          have HB2 := Lib.hid hb
          have HROW := Lib.hid hrow
          have HL2 := Lib.hid (HL.out.below hb)
          rw [HLN.out.1]
          clear hc hb hrow k4 k5 hB
          obtain ⟨k, ek1, ek2, ek3, ek4, hk⟩ := nt_k HU.out.1 HLN.out.2.2
          have HKL := Lib.hid hk
          have hkc : k ≤ cap := Nat.le_trans hk HLN.out.2.1
          have hkc2 : (k : Int) ≤ (cap : Int) := Int.ofNat_le.2 hkc
          have nk0 : (0 : Int) ≤ (k : Int) := Int.natCast_nonneg k
          obtain ⟨y, hcut, hy⟩ := cutA x len cap k hk HLN.out.2.1
          have HY := Lib.hid hy
          clear hk hy
          go_wp2_with fail
          have HBD := Lib.hid (Below.refl w2.drew.heap.size w2.drew)
          have HLD := Lib.hid (show LAt w2.drew x l from ⟨HL2.out.cell, HL2.out.bytes, HL2.out.small⟩)
          refine wp_region_Tr (fun _ => True) (.take 1 (.take 2 (.take 3 (.take 7 (.take 8 (.take 9 (.two 0 (.two 4 (.go 5 (.go 6 (.go 10 (.take 11 .nil)))) 5 (.go 4 (.go 6 (.go 10 (.take 11 .nil))))) 5 (.go 0 (.go 4 (.go 6 (.go 10 (.take 11 .nil)))))))))))) (by kernel_rfl) (by kernel_rfl) (fun _ _ _ _ _ h => h) trivial ?_
          refine R_light (a' := ?_) 52 rfl rfl rfl (of_decide_eq_true rfl) rfl trivial (fun wq hSq K Q hK => ?_) ?_
          rotate_left
          · (go_step; exact hK)
          refine R_light (a' := ?_) 53 rfl rfl rfl (of_decide_eq_true rfl) rfl trivial (fun wq hSq K Q hK => ?_) ?_
          rotate_left
          · (go_step; exact hK)
          refine R_light (a' := ?_) 54 rfl rfl rfl (of_decide_eq_true rfl) rfl trivial (fun wq hSq K Q hK => ?_) ?_
          rotate_left
          · (go_step; exact hK)
          refine R_light (a' := ?_) 58 rfl rfl rfl (of_decide_eq_true rfl) rfl trivial (fun wq hSq K Q hK => ?_) ?_
          rotate_left
          · (go_step; exact hK)
          refine R_light (a' := ?_) 59 rfl rfl rfl (of_decide_eq_true rfl) rfl trivial (fun wq hSq K Q hK => ?_) ?_
          rotate_left
          · (go_step; exact hK)
          refine R_light (a' := ?_) 60 rfl rfl rfl (of_decide_eq_true rfl) rfl trivial (fun wq hSq K Q hK => ?_) ?_
          rotate_left
          · (go_step; exact hK)
          clear hcut
          refine R_two rfl rfl rfl rfl (fun K hK => ?_) (fun K hK => ?_)
          · go_step
            refine hK _ _ trivial ?_
            clear hK K
            have HBW0 := Lib.hid (HBD.out.alloc HBD.out.size (.cells #[] 5))
            have HOWN0 := Lib.hid (own_new0 HBD.out)
            have HLW0 := Lib.hid (lat_keep HLD.out HBW0.out)
            refine R_two rfl rfl rfl rfl (fun K hK => ?_) (fun K hK => ?_)
            · skip
              refine app_stepN (W := w2.drew) _ _ rfl (.slice (some ⟨w2.heap.size, 0, none⟩) 0 0) [] (l.take k) rfl HOWN0.out HBW0.out x k cap rfl (by rw [List.length_take, HLN.out.1]; exact Nat.min_eq_left HKL.out) (take_cells HLW0.out (by rw [HLN.out.1]; exact HKL.out)) (nt_s0 HKL.out HLN.out.2.2) ?_
              intro v4 w4 hown4 hb4 hk4
              refine hK _ _ trivial ?_
              clear hK K
              refine R_go rfl rfl (fun K hK => ?_)
              go_step
              refine hK _ _ trivial ?_
              clear hK K
              have HOWN := Lib.hid (own_allocN (W := w2.drew) (xs := l.take k) hown4 (.cells #[.int .u8 0] 5))
              have HBW := Lib.hid (hb4.alloc hb4.size (.cells #[.int .u8 0] 5))
              have HONE := Lib.hid (heap_alloc_last w4 (.cells #[.int .u8 0] 5))
              clear hown4 hb4 hk4 HOWN0 HBW0 HLW0
              refine R_go rfl rfl (fun K hK => ?_)
              refine app_stepN (W := w2.drew) _ _ rfl _ (l.take k) [0] rfl HOWN.out HBW.out _ 1 1 rfl rfl (one_cell HONE.out) (nt_s1 HKL.out HLN.out.2.2) ?_
              intro v6 w6 hown6 hb6 hk6
              have HOWN6 := Lib.hid hown6
              have HBW6 := Lib.hid hb6
              have HLW6 := Lib.hid (lat_keep HLD.out hb6)
              clear hown6 hb6 hk6
              refine hK _ _ trivial ?_
              clear hK K
              refine R_go rfl rfl (fun K hK => ?_)
              refine app_stepN (W := w2.drew) _ _ rfl _ (l.take k ++ [0]) (l.drop k) rfl HOWN6.out HBW6.out _ (len - k) (cap - k) rfl (by rw [List.length_drop, HLN.out.1]) (drop_cells HLW6.out HLN.out.1 HKL.out HY.out) (nt_s2 HKL.out HLN.out.2.2) ?_
              intro v10 w10 hown10 hb10 hk10
              have HOWN10 := Lib.hid (show w10.ownsRow w2.drew.heap.size 5 1 v10 (putZ l k).length (u8V (putZ l k)) by
                have h := hown10
                rw [List.append_assoc] at h
                exact h)
              have HBW10 := Lib.hid hb10
              clear hown10 hb10 hk10
              refine hK _ _ trivial ?_
              clear hK K
              refine R_light (a' := ?_) 12 rfl rfl rfl (of_decide_eq_true rfl) rfl trivial (fun wq hSq K Q hK => ?_) ?_
              rotate_left
              · (go_step; exact hK)
              refine R_done ?_
              obtain ⟨gM, cM, rfl⟩ : ∃ g c, v10 = .slice (some ⟨g, 0, none⟩) (putZ l k).length c := by
                rcases HOWN10.out.2 with ⟨_, h⟩ | ⟨g, cap, cur, h, _⟩
                · rw [putZ_length] at h; omega
                · exact ⟨g, cap, h⟩
              have HLM := Lib.hid (show LAt w10 ⟨gM, 0, none⟩ (putZ l k) from ⟨(own_row HOWN10.out (nt_z1 HLN.out)).2.2 (nt_z2 l k) |> fun ⟨ad, e, hc⟩ => by cases e; exact hc, putZ_bytes HL.out.bytes, nt_z1 HLN.out⟩)
              have hpl : (putZ l k).length = len + 1 := by rw [putZ_length, HLN.out.1]
              rw [hpl]
              have HPL := Lib.hid hpl
              have HKP := Lib.hid (kind_putZ l k HK.out.1 (by rw [HLN.out.1]; exact HLN.out.2.2))
              clear HOWN HBW HONE HOWN6 HBW6 HLW6 HOWN10 hpl
              go_wp2_with fail
              have hc := codes_ok (putZ l k) (some ⟨gM, 0, none⟩) cM w10 HLM.out.reads HLM.out.bytes (by rw [HKP.out]; exact HKK.out.1) (by rw [HKP.out]; exact HKK.out.2)
              rw [HPL.out] at hc
              refine hc.mono ?_
              rintro e w11 ⟨B2, hB2, rfl, hrow2, hb⟩
              rw [HPL.out]
              have HB11 := Lib.hid (HBW10.out.trans (hb.mono HBW10.out.size))
              have HROW2 := Lib.hid hrow2
              have HLM11 := Lib.hid (HLM.out.below hb)
              obtain ⟨z0, z1⟩ := code_cells hrow2 (i := k) (by rw [HPL.out]; exact Nat.lt_succ_of_le HKL.out)
              rw [code_putZ_eq l (by rw [HLN.out.1]; exact HKL.out)] at z0 z1
              have hqn : ∀ w, (binOp .neq 31 (.agg #[.int .u32 0, .int .u8 0]) (.agg #[.int .u32 0, .int .u8 0])).run Try.prog w = .ok (.bool false) w := fun w => by rw [neq31]; simp
              have hk1 : (k : Int) < (len : Int) + 1 := nt_z3 HKL.out
              have ek5 := nt_z4 HKL.out HLN.out.2.2
              clear hc hb hB2 hrow2 ek1 ek2 ek3 ek4
              go_wp2_with fail
              have hkm := kind_any (putZ l k) (some ⟨gM, 0, none⟩) cM w11 HLM11.out.reads HLM11.out.bytes
              rw [HPL.out, HKP.out] at hkm
              refine hkm.mono ?_
              rintro e w12 ⟨rfl, hb⟩
              have HB12 := Lib.hid (HB11.out.trans (hb.mono HB11.out.size))
              have HROW12 := Lib.hid ((hb.block B2 (Array.getElem?_eq_some_iff.1 HROW2.out).1).trans HROW2.out)
              clear hkm hb z0 z1 hqn
              go_wp2_with fail
              have hkm := kind_any l (some x) cap w12 (lat_keep HLD.out HB12.out).reads HL.out.bytes
              rw [HLN.out.1] at hkm
              refine hkm.mono ?_
              rintro e w13 ⟨rfl, hb⟩
              have HB13 := Lib.hid (HB12.out.trans (hb.mono HB12.out.size))
              have HROWM := Lib.hid ((hb.block B2 (Array.getElem?_eq_some_iff.1 HROW12.out).1).trans HROW12.out)
              have HROWL := Lib.hid (show w13.heap[B]? = some (.cells (cellsC (codesK l l.length)).toArray 31 (0, 0)) from (HB13.out.block B (show B < w2.drew.heap.size from (Array.getElem?_eq_some_iff.1 HROW.out).1)).trans HROW.out)
              clear hkm hb
              go_wp2_with fail
              obtain ⟨oM, hcM, hoM⟩ := cutB B2 (len + 1) (len + 1) (k + 1) (Nat.succ_le_succ HKL.out) (Nat.le_refl _)
              obtain ⟨oL, hcL, hoL⟩ := cutB B len len k HKL.out (Nat.le_refl _)
              have eM : ((k + 1 : Nat) : Int) = (k : Int) + 1 := by omega
              rw [eM, Nat.add_sub_add_right] at hcM
              have hkl : k ≤ len := HKL.out
              have hkl1 : k ≤ len + 1 := Nat.le_succ_of_le hkl
              have hkl2 : (k : Int) ≤ (len : Int) + 1 := nt_z5 hkl
              have hkl3 : (k : Int) ≤ (len : Int) := Int.ofNat_le.2 hkl
              have HCT := Lib.hid (show CAt w13.drew (.slice (some ⟨B2, 0, none⟩) k (len + 1)) ((codesK l l.length).take k) ∧ CAt w13.drew (.slice (some ⟨B, 0, none⟩) k len) ((codesK l l.length).take k) from ⟨by
                have h := cat_takeN (w := w13.drew) (c := len + 1) HROWM.out (k := k) (by rw [HPL.out]; exact hkl1)
                rw [codes_take l (by rw [HLN.out.1]; exact hkl)] at h
                exact h, cat_takeN (w := w13.drew) (c := len) HROWL.out (by rw [HLN.out.1]; exact hkl)⟩)
              have HCD := Lib.hid (show CAt w13.drew (.slice (some ⟨B2, oM, none⟩) (len - k) (len - k)) ((codesK l l.length).drop k) ∧ CAt w13.drew (.slice (some ⟨B, oL, none⟩) (len - k) (len - k)) ((codesK l l.length).drop k) from ⟨by
                have h := cat_dropN (w := w13.drew) (o := oM) (c := len - k) HROWM.out (k := k + 1) (by rw [HPL.out]; exact Nat.succ_le_succ hkl) (by rw [HPL.out]; exact hoM)
                rw [codes_drop l (by rw [HLN.out.1]; exact hkl), HPL.out, Nat.add_sub_add_right] at h
                exact h, by
                have h := cat_dropN (w := w13.drew) (o := oL) (c := len - k) HROWL.out (k := k) (by rw [HLN.out.1]; exact hkl) (by rw [HLN.out.1]; exact hoL)
                rw [HLN.out.1] at h
                rw [HLN.out.1]
                exact h⟩)
              have HCL := Lib.hid (show (codesK l l.length).length < 1000000 by rw [codesK_length, HLN.out.1]; have := HLN.out.2.2; omega)
              clear eM hoM hoL
              have hHeld : True := trivial
              refine wp_region_T (fun _ => True) [.take 0, .take 1, .take 2, .take 3, .take 4, .take 5, .go 6, .take 7, .take 8, .take 9, .take 10, .take 11, .take 12, .take 13, .take 14, .take 15, .go 16, .take 17, .take 18] (by kernel_rfl) (by kernel_rfl) (fun _ _ _ _ _ h => h) hHeld ?_
              refine T_light (a' := ?_) 91 rfl rfl rfl (of_decide_eq_true rfl) rfl hHeld (fun wq hSq K Q hK => ?_) ?_
              rotate_left
              · (go_step; exact hK)
              refine T_light (a' := ?_) 92 rfl rfl rfl (of_decide_eq_true rfl) rfl hHeld (fun wq hSq K Q hK => ?_) ?_
              rotate_left
              · (go_step; exact hK)
              refine T_light (a' := ?_) 93 rfl rfl rfl (of_decide_eq_true rfl) rfl hHeld (fun wq hSq K Q hK => ?_) ?_
              rotate_left
              · (go_step; exact hK)
              refine T_light (a' := ?_) 94 rfl rfl rfl (of_decide_eq_true rfl) rfl hHeld (fun wq hSq K Q hK => ?_) ?_
              rotate_left
              · (go_step; exact hK)
              refine T_light (a' := ?_) 95 rfl rfl rfl (of_decide_eq_true rfl) rfl hHeld (fun wq hSq K Q hK => ?_) ?_
              rotate_left
              · (go_step; exact hK)
              refine T_light (a' := ?_) 96 rfl rfl rfl (of_decide_eq_true rfl) rfl hHeld (fun wq hSq K Q hK => ?_) ?_
              rotate_left
              · (go_step; exact hK)
              refine T_call own14 97 [.slice (some ⟨B2, 0, none⟩) k (len + 1), .slice (some ⟨B, 0, none⟩) k len] rfl rfl rfl rfl rfl ?_
              refine (same31_any ((codesK l l.length).take k) _ _ _ HCT.out.1 HCT.out.2 (Nat.lt_of_le_of_lt (by rw [List.length_take]; exact Nat.min_le_right _ _) HCL.out)).mono ?_; rintro e w14 ⟨rfl, hb14⟩; have HB14 := Lib.hid (HB13.out.drew.trans (hb14.mono HB13.out.drew.size)); have HCD2 := Lib.hid (And.intro (HCD.out.1.below hb14) (HCD.out.2.below hb14)); have HRL14 := Lib.hid ((hb14.block B (Array.getElem?_eq_some_iff.1 HROWL.out).1).trans HROWL.out); clear hb14
              refine ⟨_, rfl, hHeld, ?_⟩
              simp only [Act.put, List.setIfInBounds_toArray, List.set_cons_zero, List.set_cons_succ]
              refine T_light (a' := ?_) 98 rfl rfl rfl (of_decide_eq_true rfl) rfl hHeld (fun wq hSq K Q hK => ?_) ?_
              rotate_left
              · (go_step; exact hK)
              refine T_light (a' := ?_) 99 rfl rfl rfl (of_decide_eq_true rfl) rfl hHeld (fun wq hSq K Q hK => ?_) ?_
              rotate_left
              · (go_step; exact hK)
              refine T_light (a' := ?_) 100 rfl rfl rfl (of_decide_eq_true rfl) rfl hHeld (fun wq hSq K Q hK => ?_) ?_
              rotate_left
              · (go_step; exact hK)
              refine T_light (a' := ?_) 101 rfl rfl rfl (of_decide_eq_true rfl) rfl hHeld (fun wq hSq K Q hK => ?_) ?_
              rotate_left
              · (go_step; exact hK)
              refine T_light (a' := ?_) 102 rfl rfl rfl (of_decide_eq_true rfl) rfl hHeld (fun wq hSq K Q hK => ?_) ?_
              rotate_left
              · (go_step; exact hK)
              refine T_light (a' := ?_) 103 rfl rfl rfl (of_decide_eq_true rfl) rfl hHeld (fun wq hSq K Q hK => ?_) ?_
              rotate_left
              · (go_step; exact hK)
              refine T_light (a' := ?_) 104 rfl rfl rfl (of_decide_eq_true rfl) rfl hHeld (fun wq hSq K Q hK => ?_) ?_
              rotate_left
              · (go_step; exact hK)
              refine T_light (a' := ?_) 105 rfl rfl rfl (of_decide_eq_true rfl) rfl hHeld (fun wq hSq K Q hK => ?_) ?_
              rotate_left
              · (go_step; exact hK)
              refine T_light (a' := ?_) 106 rfl rfl rfl (of_decide_eq_true rfl) rfl hHeld (fun wq hSq K Q hK => ?_) ?_
              rotate_left
              · (go_step; exact hK)
              refine T_call own14 107 [.slice (some ⟨B2, oM, none⟩) (len - k) (len - k), .slice (some ⟨B, oL, none⟩) (len - k) (len - k)] rfl rfl rfl rfl rfl ?_
              refine (same31_any ((codesK l l.length).drop k) _ _ _ HCD2.out.1 HCD2.out.2 (Nat.lt_of_le_of_lt (by rw [List.length_drop]; exact Nat.sub_le _ _) HCL.out)).mono ?_; rintro e w15 ⟨rfl, hb15⟩; have HB15 := Lib.hid (HB14.out.trans (hb15.mono HB14.out.size)); have HRL15 := Lib.hid ((hb15.block B (Array.getElem?_eq_some_iff.1 HRL14.out).1).trans HRL14.out); clear hb15
              refine ⟨_, rfl, hHeld, ?_⟩
              simp only [Act.put, List.setIfInBounds_toArray, List.set_cons_zero, List.set_cons_succ]
              refine T_light (a' := ?_) 108 rfl rfl rfl (of_decide_eq_true rfl) rfl hHeld (fun wq hSq K Q hK => ?_) ?_
              rotate_left
              · (go_step; exact hK)
              refine T_light (a' := ?_) 109 rfl rfl rfl (of_decide_eq_true rfl) rfl hHeld (fun wq hSq K Q hK => ?_) ?_
              rotate_left
              · (go_step; exact hK)
              refine T_done ?_
              clear hcM hcL hHeld hk1 ek5 hkl hkl1 hkl2 hkl3 hkc hkc2 nk0
              go_wp2_with fail
              obtain ⟨i, ei1, ei2, ei3, hi⟩ := nt_m HU.out.2.1 HLN.out.2.2 H0.out
              obtain ⟨j, ej1, ej2, ej3, hj⟩ := nt_m HU.out.2.2 HLN.out.2.2 H0.out
              have HIJ := Lib.hid (And.intro hi hj)
              have hHeld : True := trivial
              have hl0 : ¬ len = 0 := H0.out
              clear hi hj
              refine wp_region_T (fun _ => True) [.take 0, .take 1, .take 2, .take 3, .take 4, .take 5, .take 6, .take 7, .take 8, .take 9, .take 10, .take 11] (by kernel_rfl) (by kernel_rfl) (fun _ _ _ _ _ h => h) hHeld ?_
              refine T_light (a' := ?_) 110 rfl rfl rfl (of_decide_eq_true rfl) rfl hHeld (fun wq hSq K Q hK => ?_) ?_
              rotate_left
              · (go_step; exact hK)
              refine T_light (a' := ?_) 111 rfl rfl rfl (of_decide_eq_true rfl) rfl hHeld (fun wq hSq K Q hK => ?_) ?_
              rotate_left
              · (go_step; exact hK)
              refine T_light (a' := ?_) 112 rfl rfl rfl (of_decide_eq_true rfl) rfl hHeld (fun wq hSq K Q hK => ?_) ?_
              rotate_left
              · (go_step; exact hK)
              refine T_light (a' := ?_) 113 rfl rfl rfl (of_decide_eq_true rfl) rfl hHeld (fun wq hSq K Q hK => ?_) ?_
              rotate_left
              · (go_step; exact hK)
              refine T_light (a' := ?_) 114 rfl rfl rfl (of_decide_eq_true rfl) rfl hHeld (fun wq hSq K Q hK => ?_) ?_
              rotate_left
              · (go_step; exact hK)
              refine T_light (a' := ?_) 115 rfl rfl rfl (of_decide_eq_true rfl) rfl hHeld (fun wq hSq K Q hK => ?_) ?_
              rotate_left
              · (go_step; exact hK)
              refine T_light (a' := ?_) 116 rfl rfl rfl (of_decide_eq_true rfl) rfl hHeld (fun wq hSq K Q hK => ?_) ?_
              rotate_left
              · (go_step; exact hK)
              refine T_light (a' := ?_) 117 rfl rfl rfl (of_decide_eq_true rfl) rfl hHeld (fun wq hSq K Q hK => ?_) ?_
              rotate_left
              · (go_step; exact hK)
              refine T_light (a' := ?_) 118 rfl rfl rfl (of_decide_eq_true rfl) rfl hHeld (fun wq hSq K Q hK => ?_) ?_
              rotate_left
              · (go_step; exact hK)
              refine T_light (a' := ?_) 119 rfl rfl rfl (of_decide_eq_true rfl) rfl hHeld (fun wq hSq K Q hK => ?_) ?_
              rotate_left
              · (go_step; exact hK)
              refine T_light (a' := ?_) 15 rfl rfl rfl (of_decide_eq_true rfl) rfl hHeld (fun wq hSq K Q hK => ?_) ?_
              rotate_left
              · (go_step; exact hK)
              refine T_light (a' := ?_) 16 rfl rfl rfl (of_decide_eq_true rfl) rfl hHeld (fun wq hSq K Q hK => ?_) ?_
              rotate_left
              · (go_step; exact hK)
              refine T_done ?_
              clear hHeld hl0 ei1 ei2 ei3 ej1 ej2 ej3
              go_wp2_with fail
              have HB15D := Lib.hid (show Below w2.drew.heap.size w2.drew w15.drew.drew from HB15.out.drew.drew)
              have HCB := Lib.hid (code_cells (w := w15.drew.drew) (l := l) HRL15.out (i := i) (by rw [HLN.out.1]; exact HIJ.out.1))
              have HCJ := Lib.hid (code_cells (w := w15.drew.drew) (l := l) HRL15.out (i := j) (by rw [HLN.out.1]; exact HIJ.out.2))
              have hci : w15.drew.drew.cell? (x.add i) = some (.int .u8 (rd l (i : Int))) := by
                rw [rd_getD]
                exact (lat_keep HLD.out HB15D.out).cell i (by rw [HLN.out.1]; exact HIJ.out.1)
              have ni0 : (0 : Int) ≤ (i : Int) := Int.natCast_nonneg i
              have ni1 : (i : Int) < (len : Int) := Int.ofNat_lt.2 HIJ.out.1
              have nj0 : (0 : Int) ≤ (j : Int) := Int.natCast_nonneg j
              have nj1 : (j : Int) < (len : Int) := Int.ofNat_lt.2 HIJ.out.2
              by_cases hij : i = j
              · subst hij
                have eij : ((i : Int) == (i : Int)) = true := by simp
                have HCI := Lib.hid hci
                clear hci
                have hHeld : w15.drew.drew.cell? (x.add i) = some (.int .u8 (rd l (i : Int))) := HCI.out
                refine wp_region_T (fun w' => w'.cell? (x.add i) = some (.int .u8 (rd l (i : Int)))) [.take 0, .take 1, .take 2, .take 3, .take 4, .take 5, .take 6, .take 7, .take 8, .take 9, .take 10, .take 11, .take 12, .take 13, .take 14, .take 15, .take 16, .take 17, .take 18, .take 19, .take 20, .take 21, .go 22, .take 23, .take 24] (by kernel_rfl) (by kernel_rfl) (fun _ _ _ _ _ h => h) hHeld ?_
                refine T_light (a' := ?_) 120 rfl rfl rfl (of_decide_eq_true rfl) rfl hHeld (fun wq hSq K Q hK => ?_) ?_
                rotate_left
                · (go_step; exact hK)
                refine T_light (a' := ?_) 121 rfl rfl rfl (of_decide_eq_true rfl) rfl hHeld (fun wq hSq K Q hK => ?_) ?_
                rotate_left
                · (go_step; exact hK)
                refine T_light (a' := ?_) 122 rfl rfl rfl (of_decide_eq_true rfl) rfl hHeld (fun wq hSq K Q hK => ?_) ?_
                rotate_left
                · (go_step; exact hK)
                refine T_light (a' := ?_) 123 rfl rfl rfl (of_decide_eq_true rfl) rfl hHeld (fun wq hSq K Q hK => ?_) ?_
                rotate_left
                · (go_step; exact hK)
                refine T_pass2 (a' := ?_) 124 rfl rfl (by kernel_rfl) (fun K hK => ?_) ?_
                rotate_left
                · (simp only [Act.put, List.setIfInBounds_toArray, List.set_cons_zero, List.set_cons_succ]; exact hK)
                refine T_pass2 (a' := ?_) 125 rfl rfl (by kernel_rfl) (fun K hK => ?_) ?_
                rotate_left
                · (simp only [Act.put, List.setIfInBounds_toArray, List.set_cons_zero, List.set_cons_succ]; exact hK)
                refine T_pass2 (a' := ?_) 126 rfl rfl (by kernel_rfl) (fun K hK => ?_) ?_
                rotate_left
                · (simp only [Act.put, List.setIfInBounds_toArray, List.set_cons_zero, List.set_cons_succ]; exact hK)
                refine T_pass2 (a' := ?_) 127 rfl rfl (by kernel_rfl) (fun K hK => ?_) ?_
                rotate_left
                · (simp only [Act.put, List.setIfInBounds_toArray, List.set_cons_zero, List.set_cons_succ]; exact hK)
                refine T_pass2 (a' := ?_) 128 rfl rfl (by kernel_rfl) (fun K hK => ?_) ?_
                rotate_left
                · (simp only [Act.put, List.setIfInBounds_toArray, List.set_cons_zero, List.set_cons_succ]; exact hK)
                refine T_light (a' := ?_) 129 rfl rfl rfl (of_decide_eq_true rfl) rfl hHeld (fun wq hSq K Q hK => ?_) ?_
                rotate_left
                · (go_step; exact hK)
                refine T_light (a' := ?_) 130 rfl rfl rfl (of_decide_eq_true rfl) rfl hHeld (fun wq hSq K Q hK => ?_) ?_
                rotate_left
                · (go_step; exact hK)
                refine T_pass2 (a' := ?_) 131 rfl rfl (by kernel_rfl) (fun K hK => ?_) ?_
                rotate_left
                · (simp only [Act.put, List.setIfInBounds_toArray, List.set_cons_zero, List.set_cons_succ]; exact hK)
                refine T_pass2 (a' := ?_) 132 rfl rfl (by kernel_rfl) (fun K hK => ?_) ?_
                rotate_left
                · (simp only [Act.put, List.setIfInBounds_toArray, List.set_cons_zero, List.set_cons_succ]; exact hK)
                refine T_pass2 (a' := ?_) 133 rfl rfl (by kernel_rfl) (fun K hK => ?_) ?_
                rotate_left
                · (simp only [Act.put, List.setIfInBounds_toArray, List.set_cons_zero, List.set_cons_succ]; exact hK)
                refine T_pass2 (a' := ?_) 134 rfl rfl (by kernel_rfl) (fun K hK => ?_) ?_
                rotate_left
                · (simp only [Act.put, List.setIfInBounds_toArray, List.set_cons_zero, List.set_cons_succ]; exact hK)
                refine T_pass2 (a' := ?_) 135 rfl rfl (by kernel_rfl) (fun K hK => ?_) ?_
                rotate_left
                · (simp only [Act.put, List.setIfInBounds_toArray, List.set_cons_zero, List.set_cons_succ]; exact hK)
                refine T_pass2 (a' := ?_) 136 rfl rfl (by kernel_rfl) (fun K hK => ?_) ?_
                rotate_left
                · (simp only [Act.put, List.setIfInBounds_toArray, List.set_cons_zero, List.set_cons_succ]; exact hK)
                refine T_pass2 (a' := ?_) 137 rfl rfl (by kernel_rfl) (fun K hK => ?_) ?_
                rotate_left
                · (simp only [Act.put, List.setIfInBounds_toArray, List.set_cons_zero, List.set_cons_succ]; exact hK)
                refine T_pass2 (a' := ?_) 138 rfl rfl (by kernel_rfl) (fun K hK => ?_) ?_
                rotate_left
                · (simp only [Act.put, List.setIfInBounds_toArray, List.set_cons_zero, List.set_cons_succ]; exact hK)
                refine T_pass2 (a' := ?_) 139 rfl rfl (by kernel_rfl) (fun K hK => ?_) ?_
                rotate_left
                · (simp only [Act.put, List.setIfInBounds_toArray, List.set_cons_zero, List.set_cons_succ]; exact hK)
                refine T_light (a' := ?_) 140 rfl rfl rfl (of_decide_eq_true rfl) rfl hHeld (fun wq hSq K Q hK => ?_) ?_
                rotate_left
                · (go_step; exact hK)
                refine T_light (a' := ?_) 141 rfl rfl rfl (of_decide_eq_true rfl) rfl hHeld (fun wq hSq K Q hK => ?_) ?_
                rotate_left
                · (go_step; exact hK)
                refine T_call own8 142 [] rfl rfl rfl rfl rfl ?_
                refine (alive_any _).mono ?_; rintro e w9 ⟨rfl, hb9⟩; have HB9 := Lib.hid (HB15D.out.trans (hb9.mono HB15D.out.size)); have hHeld := show w9.cell? (x.add i) = some (.int .u8 (rd l (i : Int))) from (hb9.cell (World.block_lt_of_cell? _ _ hHeld)).trans hHeld; clear hb9
                refine ⟨_, rfl, hHeld, ?_⟩
                simp only [Act.put, List.setIfInBounds_toArray, List.set_cons_zero, List.set_cons_succ]
                refine T_light (a' := ?_) 143 rfl rfl rfl (of_decide_eq_true rfl) rfl hHeld (fun wq hSq K Q hK => ?_) ?_
                rotate_left
                · (go_step; exact hK)
                refine T_light (a' := ?_) 8 rfl rfl rfl (of_decide_eq_true rfl) rfl hHeld (fun wq hSq K Q hK => ?_) ?_
                rotate_left
                · (go_step; exact hK)
                refine T_done ?_
                clear hHeld
                go_wp2_with fail
                go_ret
                exact ⟨rfl, HB2.out.drew.trans (HB9.out.mono HB2.out.drew.size)⟩
              · have eij := nt_ne hij
                have eij2 : decide (i = j) = false := decide_eq_false hij
                by_cases hz : rd l (i : Int) = 0
                · rw [hz] at hci
                  have HCI := Lib.hid hci
                  clear hci hz hij
                  have hHeld : w15.drew.drew.cell? (x.add i) = some (.int .u8 0) := HCI.out
                  refine wp_region_T (fun w' => w'.cell? (x.add i) = some (.int .u8 0)) [.take 0, .take 1, .take 2, .take 3, .take 4, .take 5, .take 6, .take 7, .take 8, .take 9, .take 10, .take 11, .take 12, .take 13, .take 14, .take 15, .take 16, .take 17, .take 18, .take 19, .take 20, .take 21, .go 22, .take 23, .take 24] (by kernel_rfl) (by kernel_rfl) (fun _ _ _ _ _ h => h) hHeld ?_
                  refine T_light (a' := ?_) 120 rfl rfl rfl (of_decide_eq_true rfl) rfl hHeld (fun wq hSq K Q hK => ?_) ?_
                  rotate_left
                  · (go_step; exact hK)
                  refine T_light (a' := ?_) 121 rfl rfl rfl (of_decide_eq_true rfl) rfl hHeld (fun wq hSq K Q hK => ?_) ?_
                  rotate_left
                  · (go_step; exact hK)
                  refine T_light (a' := ?_) 122 rfl rfl rfl (of_decide_eq_true rfl) rfl hHeld (fun wq hSq K Q hK => ?_) ?_
                  rotate_left
                  · (go_step; exact hK)
                  refine T_light (a' := ?_) 123 rfl rfl rfl (of_decide_eq_true rfl) rfl hHeld (fun wq hSq K Q hK => ?_) ?_
                  rotate_left
                  · (go_step; exact hK)
                  refine T_light (a' := ?_) 124 rfl rfl rfl (of_decide_eq_true rfl) rfl hHeld (fun wq hSq K Q hK => ?_) ?_
                  rotate_left
                  · (go_step; exact hK)
                  refine T_light (a' := ?_) 125 rfl rfl rfl (of_decide_eq_true rfl) rfl hHeld (fun wq hSq K Q hK => ?_) ?_
                  rotate_left
                  · (go_step; exact hK)
                  refine T_light (a' := ?_) 126 rfl rfl rfl (of_decide_eq_true rfl) rfl hHeld (fun wq hSq K Q hK => ?_) ?_
                  rotate_left
                  · (go_step; exact hK)
                  refine T_light (a' := ?_) 127 rfl rfl rfl (of_decide_eq_true rfl) rfl hHeld (fun wq hSq K Q hK => ?_) ?_
                  rotate_left
                  · ((have r1 := hSq; go_step); exact hK)
                  refine T_light (a' := ?_) 128 rfl rfl rfl (of_decide_eq_true rfl) rfl hHeld (fun wq hSq K Q hK => ?_) ?_
                  rotate_left
                  · (go_step; exact hK)
                  refine T_light (a' := ?_) 129 rfl rfl rfl (of_decide_eq_true rfl) rfl hHeld (fun wq hSq K Q hK => ?_) ?_
                  rotate_left
                  · (go_step; exact hK)
                  refine T_light (a' := ?_) 130 rfl rfl rfl (of_decide_eq_true rfl) rfl hHeld (fun wq hSq K Q hK => ?_) ?_
                  rotate_left
                  · (go_step; exact hK)
                  refine T_pass2 (a' := ?_) 131 rfl rfl (by kernel_rfl) (fun K hK => ?_) ?_
                  rotate_left
                  · (simp only [Act.put, List.setIfInBounds_toArray, List.set_cons_zero, List.set_cons_succ]; exact hK)
                  refine T_pass2 (a' := ?_) 132 rfl rfl (by kernel_rfl) (fun K hK => ?_) ?_
                  rotate_left
                  · (simp only [Act.put, List.setIfInBounds_toArray, List.set_cons_zero, List.set_cons_succ]; exact hK)
                  refine T_pass2 (a' := ?_) 133 rfl rfl (by kernel_rfl) (fun K hK => ?_) ?_
                  rotate_left
                  · (simp only [Act.put, List.setIfInBounds_toArray, List.set_cons_zero, List.set_cons_succ]; exact hK)
                  refine T_pass2 (a' := ?_) 134 rfl rfl (by kernel_rfl) (fun K hK => ?_) ?_
                  rotate_left
                  · (simp only [Act.put, List.setIfInBounds_toArray, List.set_cons_zero, List.set_cons_succ]; exact hK)
                  refine T_pass2 (a' := ?_) 135 rfl rfl (by kernel_rfl) (fun K hK => ?_) ?_
                  rotate_left
                  · (simp only [Act.put, List.setIfInBounds_toArray, List.set_cons_zero, List.set_cons_succ]; exact hK)
                  refine T_pass2 (a' := ?_) 136 rfl rfl (by kernel_rfl) (fun K hK => ?_) ?_
                  rotate_left
                  · (simp only [Act.put, List.setIfInBounds_toArray, List.set_cons_zero, List.set_cons_succ]; exact hK)
                  refine T_pass2 (a' := ?_) 137 rfl rfl (by kernel_rfl) (fun K hK => ?_) ?_
                  rotate_left
                  · (simp only [Act.put, List.setIfInBounds_toArray, List.set_cons_zero, List.set_cons_succ]; exact hK)
                  refine T_pass2 (a' := ?_) 138 rfl rfl (by kernel_rfl) (fun K hK => ?_) ?_
                  rotate_left
                  · (simp only [Act.put, List.setIfInBounds_toArray, List.set_cons_zero, List.set_cons_succ]; exact hK)
                  refine T_pass2 (a' := ?_) 139 rfl rfl (by kernel_rfl) (fun K hK => ?_) ?_
                  rotate_left
                  · (simp only [Act.put, List.setIfInBounds_toArray, List.set_cons_zero, List.set_cons_succ]; exact hK)
                  refine T_light (a' := ?_) 140 rfl rfl rfl (of_decide_eq_true rfl) rfl hHeld (fun wq hSq K Q hK => ?_) ?_
                  rotate_left
                  · (go_step; exact hK)
                  refine T_light (a' := ?_) 141 rfl rfl rfl (of_decide_eq_true rfl) rfl hHeld (fun wq hSq K Q hK => ?_) ?_
                  rotate_left
                  · (go_step; exact hK)
                  refine T_call own8 142 [] rfl rfl rfl rfl rfl ?_
                  refine (alive_any _).mono ?_; rintro e w9 ⟨rfl, hb9⟩; have HB9 := Lib.hid (HB15D.out.trans (hb9.mono HB15D.out.size)); have hHeld := show w9.cell? (x.add i) = some (.int .u8 0) from (hb9.cell (World.block_lt_of_cell? _ _ hHeld)).trans hHeld; clear hb9
                  refine ⟨_, rfl, hHeld, ?_⟩
                  simp only [Act.put, List.setIfInBounds_toArray, List.set_cons_zero, List.set_cons_succ]
                  refine T_light (a' := ?_) 143 rfl rfl rfl (of_decide_eq_true rfl) rfl hHeld (fun wq hSq K Q hK => ?_) ?_
                  rotate_left
                  · (go_step; exact hK)
                  refine T_light (a' := ?_) 8 rfl rfl rfl (of_decide_eq_true rfl) rfl hHeld (fun wq hSq K Q hK => ?_) ?_
                  rotate_left
                  · (go_step; exact hK)
                  refine T_done ?_
                  clear hHeld
                  go_wp2_with fail
                  go_ret
                  exact ⟨rfl, HB2.out.drew.trans (HB9.out.mono HB2.out.drew.size)⟩
                · have ez : (rd l (i : Int) == 0) = false := by rw [beq_eq_false_iff_ne]; exact hz
                  have ez2 : decide (rd l (i : Int) = 0) = false := decide_eq_false hz
                  have hne := code_ne l (fun y hy => (HL.out.bytes y hy).1) hij (by rw [HLN.out.1]; exact HIJ.out.1) (by rw [HLN.out.1]; exact HIJ.out.2) hz
                  have qn : ∀ w, (binOp .neq 31 (.agg #[.int .u32 ((codeAt l i).1 : Nat), .int .u8 ((codeAt l i).2 : Nat)]) (.agg #[.int .u32 ((codeAt l j).1 : Nat), .int .u8 ((codeAt l j).2 : Nat)])).run Try.prog w = .ok (.bool true) w := fun w => by rw [neq31, nt_code hne]; rfl
                  have HCI := Lib.hid hci
                  clear hci hz hij hne
                  have hHeld : w15.drew.drew.cell? (x.add i) = some (.int .u8 (rd l (i : Int))) ∧ w15.drew.drew.cell? ⟨B, i * 2, none⟩ = some (.int .u32 ((codeAt l i).1 : Nat)) ∧ w15.drew.drew.cell? ⟨B, i * 2 + 1, none⟩ = some (.int .u8 ((codeAt l i).2 : Nat)) ∧ w15.drew.drew.cell? ⟨B, j * 2, none⟩ = some (.int .u32 ((codeAt l j).1 : Nat)) ∧ w15.drew.drew.cell? ⟨B, j * 2 + 1, none⟩ = some (.int .u8 ((codeAt l j).2 : Nat)) := ⟨HCI.out, HCB.out.1, HCB.out.2, HCJ.out.1, HCJ.out.2⟩
                  refine wp_region_T (fun w' => w'.cell? (x.add i) = some (.int .u8 (rd l (i : Int))) ∧ w'.cell? ⟨B, i * 2, none⟩ = some (.int .u32 ((codeAt l i).1 : Nat)) ∧ w'.cell? ⟨B, i * 2 + 1, none⟩ = some (.int .u8 ((codeAt l i).2 : Nat)) ∧ w'.cell? ⟨B, j * 2, none⟩ = some (.int .u32 ((codeAt l j).1 : Nat)) ∧ w'.cell? ⟨B, j * 2 + 1, none⟩ = some (.int .u8 ((codeAt l j).2 : Nat))) [.take 0, .take 1, .take 2, .take 3, .take 4, .take 5, .take 6, .take 7, .take 8, .take 9, .take 10, .take 11, .take 12, .take 13, .take 14, .take 15, .take 16, .take 17, .take 18, .take 19, .take 20, .take 21, .go 22, .take 23, .take 24] (by kernel_rfl) (by kernel_rfl) (fun _ _ _ _ _ h => h) hHeld ?_
                  refine T_light (a' := ?_) 120 rfl rfl rfl (of_decide_eq_true rfl) rfl hHeld (fun wq hSq K Q hK => ?_) ?_
                  rotate_left
                  · (go_step; exact hK)
                  refine T_light (a' := ?_) 121 rfl rfl rfl (of_decide_eq_true rfl) rfl hHeld (fun wq hSq K Q hK => ?_) ?_
                  rotate_left
                  · (go_step; exact hK)
                  refine T_light (a' := ?_) 122 rfl rfl rfl (of_decide_eq_true rfl) rfl hHeld (fun wq hSq K Q hK => ?_) ?_
                  rotate_left
                  · (go_step; exact hK)
                  refine T_light (a' := ?_) 123 rfl rfl rfl (of_decide_eq_true rfl) rfl hHeld (fun wq hSq K Q hK => ?_) ?_
                  rotate_left
                  · (go_step; exact hK)
                  refine T_light (a' := ?_) 124 rfl rfl rfl (of_decide_eq_true rfl) rfl hHeld (fun wq hSq K Q hK => ?_) ?_
                  rotate_left
                  · (go_step; exact hK)
                  refine T_light (a' := ?_) 125 rfl rfl rfl (of_decide_eq_true rfl) rfl hHeld (fun wq hSq K Q hK => ?_) ?_
                  rotate_left
                  · (go_step; exact hK)
                  refine T_light (a' := ?_) 126 rfl rfl rfl (of_decide_eq_true rfl) rfl hHeld (fun wq hSq K Q hK => ?_) ?_
                  rotate_left
                  · (go_step; exact hK)
                  refine T_light (a' := ?_) 127 rfl rfl rfl (of_decide_eq_true rfl) rfl hHeld (fun wq hSq K Q hK => ?_) ?_
                  rotate_left
                  · ((have r1 := hSq.1; go_step); exact hK)
                  refine T_light (a' := ?_) 128 rfl rfl rfl (of_decide_eq_true rfl) rfl hHeld (fun wq hSq K Q hK => ?_) ?_
                  rotate_left
                  · (go_step; exact hK)
                  refine T_light (a' := ?_) 129 rfl rfl rfl (of_decide_eq_true rfl) rfl hHeld (fun wq hSq K Q hK => ?_) ?_
                  rotate_left
                  · (go_step; exact hK)
                  refine T_light (a' := ?_) 130 rfl rfl rfl (of_decide_eq_true rfl) rfl hHeld (fun wq hSq K Q hK => ?_) ?_
                  rotate_left
                  · (go_step; exact hK)
                  refine T_light (a' := ?_) 131 rfl rfl rfl (of_decide_eq_true rfl) rfl hHeld (fun wq hSq K Q hK => ?_) ?_
                  rotate_left
                  · (go_step; exact hK)
                  refine T_light (a' := ?_) 132 rfl rfl rfl (of_decide_eq_true rfl) rfl hHeld (fun wq hSq K Q hK => ?_) ?_
                  rotate_left
                  · (go_step; exact hK)
                  refine T_light (a' := ?_) 133 rfl rfl rfl (of_decide_eq_true rfl) rfl hHeld (fun wq hSq K Q hK => ?_) ?_
                  rotate_left
                  · (go_step; exact hK)
                  refine T_light (a' := ?_) 134 rfl rfl rfl (of_decide_eq_true rfl) rfl hHeld (fun wq hSq K Q hK => ?_) ?_
                  rotate_left
                  · ((obtain ⟨_, r1, r2, _, _⟩ := hSq; go_step); exact hK)
                  refine T_light (a' := ?_) 135 rfl rfl rfl (of_decide_eq_true rfl) rfl hHeld (fun wq hSq K Q hK => ?_) ?_
                  rotate_left
                  · (go_step; exact hK)
                  refine T_light (a' := ?_) 136 rfl rfl rfl (of_decide_eq_true rfl) rfl hHeld (fun wq hSq K Q hK => ?_) ?_
                  rotate_left
                  · (go_step; exact hK)
                  refine T_light (a' := ?_) 137 rfl rfl rfl (of_decide_eq_true rfl) rfl hHeld (fun wq hSq K Q hK => ?_) ?_
                  rotate_left
                  · (go_step; exact hK)
                  refine T_light (a' := ?_) 138 rfl rfl rfl (of_decide_eq_true rfl) rfl hHeld (fun wq hSq K Q hK => ?_) ?_
                  rotate_left
                  · ((obtain ⟨_, _, _, r1, r2⟩ := hSq; go_step); exact hK)
                  refine T_light (a' := ?_) 139 rfl rfl rfl (of_decide_eq_true rfl) rfl hHeld (fun wq hSq K Q hK => ?_) ?_
                  rotate_left
                  · (go_step; exact hK)
                  refine T_light (a' := ?_) 140 rfl rfl rfl (of_decide_eq_true rfl) rfl hHeld (fun wq hSq K Q hK => ?_) ?_
                  rotate_left
                  · (go_step; exact hK)
                  refine T_light (a' := ?_) 141 rfl rfl rfl (of_decide_eq_true rfl) rfl hHeld (fun wq hSq K Q hK => ?_) ?_
                  rotate_left
                  · (go_step; exact hK)
                  refine T_call own8 142 [] rfl rfl rfl rfl rfl ?_
                  refine (alive_any _).mono ?_; rintro e w9 ⟨rfl, hb9⟩; have HB9 := Lib.hid (HB15D.out.trans (hb9.mono HB15D.out.size)); have hHeld := show w9.cell? (x.add i) = some (.int .u8 (rd l (i : Int))) ∧ w9.cell? ⟨B, i * 2, none⟩ = some (.int .u32 ((codeAt l i).1 : Nat)) ∧ w9.cell? ⟨B, i * 2 + 1, none⟩ = some (.int .u8 ((codeAt l i).2 : Nat)) ∧ w9.cell? ⟨B, j * 2, none⟩ = some (.int .u32 ((codeAt l j).1 : Nat)) ∧ w9.cell? ⟨B, j * 2 + 1, none⟩ = some (.int .u8 ((codeAt l j).2 : Nat)) from ⟨(hb9.cell (World.block_lt_of_cell? _ _ hHeld.1)).trans hHeld.1, (hb9.cell (World.block_lt_of_cell? _ _ hHeld.2.1)).trans hHeld.2.1, (hb9.cell (World.block_lt_of_cell? _ _ hHeld.2.2.1)).trans hHeld.2.2.1, (hb9.cell (World.block_lt_of_cell? _ _ hHeld.2.2.2.1)).trans hHeld.2.2.2.1, (hb9.cell (World.block_lt_of_cell? _ _ hHeld.2.2.2.2)).trans hHeld.2.2.2.2⟩; clear hb9
                  refine ⟨_, rfl, hHeld, ?_⟩
                  simp only [Act.put, List.setIfInBounds_toArray, List.set_cons_zero, List.set_cons_succ]
                  refine T_light (a' := ?_) 143 rfl rfl rfl (of_decide_eq_true rfl) rfl hHeld (fun wq hSq K Q hK => ?_) ?_
                  rotate_left
                  · (go_step; exact hK)
                  refine T_light (a' := ?_) 8 rfl rfl rfl (of_decide_eq_true rfl) rfl hHeld (fun wq hSq K Q hK => ?_) ?_
                  rotate_left
                  · (go_step; exact hK)
                  refine T_done ?_
                  clear hHeld
                  go_wp2_with fail
                  go_ret
                  exact ⟨rfl, HB2.out.drew.trans (HB9.out.mono HB2.out.drew.size)⟩
            · go_step
              refine hK _ _ trivial ?_
              clear hK K
              have HOWN1 := Lib.hid (own_allocN (W := w2.drew) (xs := []) HOWN0.out (.cells #[.int .u8 0] 5))
              have HBW1 := Lib.hid (HBW0.out.alloc HBW0.out.size (.cells #[.int .u8 0] 5))
              have HONE1 := Lib.hid (show ((w2.drew.alloc (.cells #[] 5)).alloc (.cells #[.int .u8 0] 5)).heap[w2.heap.size + 1]? = some (.cells #[.int .u8 0] 5 (0, 0)) by
                have h := heap_alloc_last (w2.drew.alloc (.cells #[] 5)) (.cells #[.int .u8 0] 5)
                have e : (w2.drew.alloc (.cells #[] 5)).heap.size = w2.heap.size + 1 := by simp
                rw [e] at h
                exact h)
              clear HOWN0 HBW0 HLW0
              have HOWN0 := HOWN1
              have HBW0 := HBW1
              have HLW0 := Lib.hid (lat_keep HLD.out HBW1.out)
              refine R_go rfl rfl (fun K hK => ?_)
              refine app_stepN (W := w2.drew) _ _ rfl (.slice (some ⟨w2.heap.size, 0, none⟩) 0 0) [] (l.take k) rfl HOWN0.out HBW0.out x k cap rfl (by rw [List.length_take, HLN.out.1]; exact Nat.min_eq_left HKL.out) (take_cells HLW0.out (by rw [HLN.out.1]; exact HKL.out)) (nt_s0 HKL.out HLN.out.2.2) ?_
              intro v4 w4 hown4 hb4 hk4
              refine hK _ _ trivial ?_
              clear hK K
              have HOWN := Lib.hid (show w4.ownsRow w2.drew.heap.size 5 1 v4 (l.take k).length (u8V (l.take k)) from hown4)
              have HBW := Lib.hid hb4
              have HONE := Lib.hid (hk4 _ _ (by simp [Value.ownBlock]) HONE1.out)
              clear hown4 hb4 hk4 HOWN0 HBW0 HLW0 HOWN1 HBW1 HONE1
              refine R_go rfl rfl (fun K hK => ?_)
              refine app_stepN (W := w2.drew) _ _ rfl _ (l.take k) [0] rfl HOWN.out HBW.out _ 1 1 rfl rfl (one_cell HONE.out) (nt_s1 HKL.out HLN.out.2.2) ?_
              intro v6 w6 hown6 hb6 hk6
              have HOWN6 := Lib.hid hown6
              have HBW6 := Lib.hid hb6
              have HLW6 := Lib.hid (lat_keep HLD.out hb6)
              clear hown6 hb6 hk6
              refine hK _ _ trivial ?_
              clear hK K
              refine R_go rfl rfl (fun K hK => ?_)
              refine app_stepN (W := w2.drew) _ _ rfl _ (l.take k ++ [0]) (l.drop k) rfl HOWN6.out HBW6.out _ (len - k) (cap - k) rfl (by rw [List.length_drop, HLN.out.1]) (drop_cells HLW6.out HLN.out.1 HKL.out HY.out) (nt_s2 HKL.out HLN.out.2.2) ?_
              intro v10 w10 hown10 hb10 hk10
              have HOWN10 := Lib.hid (show w10.ownsRow w2.drew.heap.size 5 1 v10 (putZ l k).length (u8V (putZ l k)) by
                have h := hown10
                rw [List.append_assoc] at h
                exact h)
              have HBW10 := Lib.hid hb10
              clear hown10 hb10 hk10
              refine hK _ _ trivial ?_
              clear hK K
              refine R_light (a' := ?_) 12 rfl rfl rfl (of_decide_eq_true rfl) rfl trivial (fun wq hSq K Q hK => ?_) ?_
              rotate_left
              · (go_step; exact hK)
              refine R_done ?_
              obtain ⟨gM, cM, rfl⟩ : ∃ g c, v10 = .slice (some ⟨g, 0, none⟩) (putZ l k).length c := by
                rcases HOWN10.out.2 with ⟨_, h⟩ | ⟨g, cap, cur, h, _⟩
                · rw [putZ_length] at h; omega
                · exact ⟨g, cap, h⟩
              have HLM := Lib.hid (show LAt w10 ⟨gM, 0, none⟩ (putZ l k) from ⟨(own_row HOWN10.out (nt_z1 HLN.out)).2.2 (nt_z2 l k) |> fun ⟨ad, e, hc⟩ => by cases e; exact hc, putZ_bytes HL.out.bytes, nt_z1 HLN.out⟩)
              have hpl : (putZ l k).length = len + 1 := by rw [putZ_length, HLN.out.1]
              rw [hpl]
              have HPL := Lib.hid hpl
              have HKP := Lib.hid (kind_putZ l k HK.out.1 (by rw [HLN.out.1]; exact HLN.out.2.2))
              clear HOWN HBW HONE HOWN6 HBW6 HLW6 HOWN10 hpl
              go_wp2_with fail
              have hc := codes_ok (putZ l k) (some ⟨gM, 0, none⟩) cM w10 HLM.out.reads HLM.out.bytes (by rw [HKP.out]; exact HKK.out.1) (by rw [HKP.out]; exact HKK.out.2)
              rw [HPL.out] at hc
              refine hc.mono ?_
              rintro e w11 ⟨B2, hB2, rfl, hrow2, hb⟩
              rw [HPL.out]
              have HB11 := Lib.hid (HBW10.out.trans (hb.mono HBW10.out.size))
              have HROW2 := Lib.hid hrow2
              have HLM11 := Lib.hid (HLM.out.below hb)
              obtain ⟨z0, z1⟩ := code_cells hrow2 (i := k) (by rw [HPL.out]; exact Nat.lt_succ_of_le HKL.out)
              rw [code_putZ_eq l (by rw [HLN.out.1]; exact HKL.out)] at z0 z1
              have hqn : ∀ w, (binOp .neq 31 (.agg #[.int .u32 0, .int .u8 0]) (.agg #[.int .u32 0, .int .u8 0])).run Try.prog w = .ok (.bool false) w := fun w => by rw [neq31]; simp
              have hk1 : (k : Int) < (len : Int) + 1 := nt_z3 HKL.out
              have ek5 := nt_z4 HKL.out HLN.out.2.2
              clear hc hb hB2 hrow2 ek1 ek2 ek3 ek4
              go_wp2_with fail
              have hkm := kind_any (putZ l k) (some ⟨gM, 0, none⟩) cM w11 HLM11.out.reads HLM11.out.bytes
              rw [HPL.out, HKP.out] at hkm
              refine hkm.mono ?_
              rintro e w12 ⟨rfl, hb⟩
              have HB12 := Lib.hid (HB11.out.trans (hb.mono HB11.out.size))
              have HROW12 := Lib.hid ((hb.block B2 (Array.getElem?_eq_some_iff.1 HROW2.out).1).trans HROW2.out)
              clear hkm hb z0 z1 hqn
              go_wp2_with fail
              have hkm := kind_any l (some x) cap w12 (lat_keep HLD.out HB12.out).reads HL.out.bytes
              rw [HLN.out.1] at hkm
              refine hkm.mono ?_
              rintro e w13 ⟨rfl, hb⟩
              have HB13 := Lib.hid (HB12.out.trans (hb.mono HB12.out.size))
              have HROWM := Lib.hid ((hb.block B2 (Array.getElem?_eq_some_iff.1 HROW12.out).1).trans HROW12.out)
              have HROWL := Lib.hid (show w13.heap[B]? = some (.cells (cellsC (codesK l l.length)).toArray 31 (0, 0)) from (HB13.out.block B (show B < w2.drew.heap.size from (Array.getElem?_eq_some_iff.1 HROW.out).1)).trans HROW.out)
              clear hkm hb
              go_wp2_with fail
              obtain ⟨oM, hcM, hoM⟩ := cutB B2 (len + 1) (len + 1) (k + 1) (Nat.succ_le_succ HKL.out) (Nat.le_refl _)
              obtain ⟨oL, hcL, hoL⟩ := cutB B len len k HKL.out (Nat.le_refl _)
              have eM : ((k + 1 : Nat) : Int) = (k : Int) + 1 := by omega
              rw [eM, Nat.add_sub_add_right] at hcM
              have hkl : k ≤ len := HKL.out
              have hkl1 : k ≤ len + 1 := Nat.le_succ_of_le hkl
              have hkl2 : (k : Int) ≤ (len : Int) + 1 := nt_z5 hkl
              have hkl3 : (k : Int) ≤ (len : Int) := Int.ofNat_le.2 hkl
              have HCT := Lib.hid (show CAt w13.drew (.slice (some ⟨B2, 0, none⟩) k (len + 1)) ((codesK l l.length).take k) ∧ CAt w13.drew (.slice (some ⟨B, 0, none⟩) k len) ((codesK l l.length).take k) from ⟨by
                have h := cat_takeN (w := w13.drew) (c := len + 1) HROWM.out (k := k) (by rw [HPL.out]; exact hkl1)
                rw [codes_take l (by rw [HLN.out.1]; exact hkl)] at h
                exact h, cat_takeN (w := w13.drew) (c := len) HROWL.out (by rw [HLN.out.1]; exact hkl)⟩)
              have HCD := Lib.hid (show CAt w13.drew (.slice (some ⟨B2, oM, none⟩) (len - k) (len - k)) ((codesK l l.length).drop k) ∧ CAt w13.drew (.slice (some ⟨B, oL, none⟩) (len - k) (len - k)) ((codesK l l.length).drop k) from ⟨by
                have h := cat_dropN (w := w13.drew) (o := oM) (c := len - k) HROWM.out (k := k + 1) (by rw [HPL.out]; exact Nat.succ_le_succ hkl) (by rw [HPL.out]; exact hoM)
                rw [codes_drop l (by rw [HLN.out.1]; exact hkl), HPL.out, Nat.add_sub_add_right] at h
                exact h, by
                have h := cat_dropN (w := w13.drew) (o := oL) (c := len - k) HROWL.out (k := k) (by rw [HLN.out.1]; exact hkl) (by rw [HLN.out.1]; exact hoL)
                rw [HLN.out.1] at h
                rw [HLN.out.1]
                exact h⟩)
              have HCL := Lib.hid (show (codesK l l.length).length < 1000000 by rw [codesK_length, HLN.out.1]; have := HLN.out.2.2; omega)
              clear eM hoM hoL
              have hHeld : True := trivial
              refine wp_region_T (fun _ => True) [.take 0, .take 1, .take 2, .take 3, .take 4, .take 5, .go 6, .take 7, .take 8, .take 9, .take 10, .take 11, .take 12, .take 13, .take 14, .take 15, .go 16, .take 17, .take 18] (by kernel_rfl) (by kernel_rfl) (fun _ _ _ _ _ h => h) hHeld ?_
              refine T_light (a' := ?_) 91 rfl rfl rfl (of_decide_eq_true rfl) rfl hHeld (fun wq hSq K Q hK => ?_) ?_
              rotate_left
              · (go_step; exact hK)
              refine T_light (a' := ?_) 92 rfl rfl rfl (of_decide_eq_true rfl) rfl hHeld (fun wq hSq K Q hK => ?_) ?_
              rotate_left
              · (go_step; exact hK)
              refine T_light (a' := ?_) 93 rfl rfl rfl (of_decide_eq_true rfl) rfl hHeld (fun wq hSq K Q hK => ?_) ?_
              rotate_left
              · (go_step; exact hK)
              refine T_light (a' := ?_) 94 rfl rfl rfl (of_decide_eq_true rfl) rfl hHeld (fun wq hSq K Q hK => ?_) ?_
              rotate_left
              · (go_step; exact hK)
              refine T_light (a' := ?_) 95 rfl rfl rfl (of_decide_eq_true rfl) rfl hHeld (fun wq hSq K Q hK => ?_) ?_
              rotate_left
              · (go_step; exact hK)
              refine T_light (a' := ?_) 96 rfl rfl rfl (of_decide_eq_true rfl) rfl hHeld (fun wq hSq K Q hK => ?_) ?_
              rotate_left
              · (go_step; exact hK)
              refine T_call own14 97 [.slice (some ⟨B2, 0, none⟩) k (len + 1), .slice (some ⟨B, 0, none⟩) k len] rfl rfl rfl rfl rfl ?_
              refine (same31_any ((codesK l l.length).take k) _ _ _ HCT.out.1 HCT.out.2 (Nat.lt_of_le_of_lt (by rw [List.length_take]; exact Nat.min_le_right _ _) HCL.out)).mono ?_; rintro e w14 ⟨rfl, hb14⟩; have HB14 := Lib.hid (HB13.out.drew.trans (hb14.mono HB13.out.drew.size)); have HCD2 := Lib.hid (And.intro (HCD.out.1.below hb14) (HCD.out.2.below hb14)); have HRL14 := Lib.hid ((hb14.block B (Array.getElem?_eq_some_iff.1 HROWL.out).1).trans HROWL.out); clear hb14
              refine ⟨_, rfl, hHeld, ?_⟩
              simp only [Act.put, List.setIfInBounds_toArray, List.set_cons_zero, List.set_cons_succ]
              refine T_light (a' := ?_) 98 rfl rfl rfl (of_decide_eq_true rfl) rfl hHeld (fun wq hSq K Q hK => ?_) ?_
              rotate_left
              · (go_step; exact hK)
              refine T_light (a' := ?_) 99 rfl rfl rfl (of_decide_eq_true rfl) rfl hHeld (fun wq hSq K Q hK => ?_) ?_
              rotate_left
              · (go_step; exact hK)
              refine T_light (a' := ?_) 100 rfl rfl rfl (of_decide_eq_true rfl) rfl hHeld (fun wq hSq K Q hK => ?_) ?_
              rotate_left
              · (go_step; exact hK)
              refine T_light (a' := ?_) 101 rfl rfl rfl (of_decide_eq_true rfl) rfl hHeld (fun wq hSq K Q hK => ?_) ?_
              rotate_left
              · (go_step; exact hK)
              refine T_light (a' := ?_) 102 rfl rfl rfl (of_decide_eq_true rfl) rfl hHeld (fun wq hSq K Q hK => ?_) ?_
              rotate_left
              · (go_step; exact hK)
              refine T_light (a' := ?_) 103 rfl rfl rfl (of_decide_eq_true rfl) rfl hHeld (fun wq hSq K Q hK => ?_) ?_
              rotate_left
              · (go_step; exact hK)
              refine T_light (a' := ?_) 104 rfl rfl rfl (of_decide_eq_true rfl) rfl hHeld (fun wq hSq K Q hK => ?_) ?_
              rotate_left
              · (go_step; exact hK)
              refine T_light (a' := ?_) 105 rfl rfl rfl (of_decide_eq_true rfl) rfl hHeld (fun wq hSq K Q hK => ?_) ?_
              rotate_left
              · (go_step; exact hK)
              refine T_light (a' := ?_) 106 rfl rfl rfl (of_decide_eq_true rfl) rfl hHeld (fun wq hSq K Q hK => ?_) ?_
              rotate_left
              · (go_step; exact hK)
              refine T_call own14 107 [.slice (some ⟨B2, oM, none⟩) (len - k) (len - k), .slice (some ⟨B, oL, none⟩) (len - k) (len - k)] rfl rfl rfl rfl rfl ?_
              refine (same31_any ((codesK l l.length).drop k) _ _ _ HCD2.out.1 HCD2.out.2 (Nat.lt_of_le_of_lt (by rw [List.length_drop]; exact Nat.sub_le _ _) HCL.out)).mono ?_; rintro e w15 ⟨rfl, hb15⟩; have HB15 := Lib.hid (HB14.out.trans (hb15.mono HB14.out.size)); have HRL15 := Lib.hid ((hb15.block B (Array.getElem?_eq_some_iff.1 HRL14.out).1).trans HRL14.out); clear hb15
              refine ⟨_, rfl, hHeld, ?_⟩
              simp only [Act.put, List.setIfInBounds_toArray, List.set_cons_zero, List.set_cons_succ]
              refine T_light (a' := ?_) 108 rfl rfl rfl (of_decide_eq_true rfl) rfl hHeld (fun wq hSq K Q hK => ?_) ?_
              rotate_left
              · (go_step; exact hK)
              refine T_light (a' := ?_) 109 rfl rfl rfl (of_decide_eq_true rfl) rfl hHeld (fun wq hSq K Q hK => ?_) ?_
              rotate_left
              · (go_step; exact hK)
              refine T_done ?_
              clear hcM hcL hHeld hk1 ek5 hkl hkl1 hkl2 hkl3 hkc hkc2 nk0
              go_wp2_with fail
              obtain ⟨i, ei1, ei2, ei3, hi⟩ := nt_m HU.out.2.1 HLN.out.2.2 H0.out
              obtain ⟨j, ej1, ej2, ej3, hj⟩ := nt_m HU.out.2.2 HLN.out.2.2 H0.out
              have HIJ := Lib.hid (And.intro hi hj)
              have hHeld : True := trivial
              have hl0 : ¬ len = 0 := H0.out
              clear hi hj
              refine wp_region_T (fun _ => True) [.take 0, .take 1, .take 2, .take 3, .take 4, .take 5, .take 6, .take 7, .take 8, .take 9, .take 10, .take 11] (by kernel_rfl) (by kernel_rfl) (fun _ _ _ _ _ h => h) hHeld ?_
              refine T_light (a' := ?_) 110 rfl rfl rfl (of_decide_eq_true rfl) rfl hHeld (fun wq hSq K Q hK => ?_) ?_
              rotate_left
              · (go_step; exact hK)
              refine T_light (a' := ?_) 111 rfl rfl rfl (of_decide_eq_true rfl) rfl hHeld (fun wq hSq K Q hK => ?_) ?_
              rotate_left
              · (go_step; exact hK)
              refine T_light (a' := ?_) 112 rfl rfl rfl (of_decide_eq_true rfl) rfl hHeld (fun wq hSq K Q hK => ?_) ?_
              rotate_left
              · (go_step; exact hK)
              refine T_light (a' := ?_) 113 rfl rfl rfl (of_decide_eq_true rfl) rfl hHeld (fun wq hSq K Q hK => ?_) ?_
              rotate_left
              · (go_step; exact hK)
              refine T_light (a' := ?_) 114 rfl rfl rfl (of_decide_eq_true rfl) rfl hHeld (fun wq hSq K Q hK => ?_) ?_
              rotate_left
              · (go_step; exact hK)
              refine T_light (a' := ?_) 115 rfl rfl rfl (of_decide_eq_true rfl) rfl hHeld (fun wq hSq K Q hK => ?_) ?_
              rotate_left
              · (go_step; exact hK)
              refine T_light (a' := ?_) 116 rfl rfl rfl (of_decide_eq_true rfl) rfl hHeld (fun wq hSq K Q hK => ?_) ?_
              rotate_left
              · (go_step; exact hK)
              refine T_light (a' := ?_) 117 rfl rfl rfl (of_decide_eq_true rfl) rfl hHeld (fun wq hSq K Q hK => ?_) ?_
              rotate_left
              · (go_step; exact hK)
              refine T_light (a' := ?_) 118 rfl rfl rfl (of_decide_eq_true rfl) rfl hHeld (fun wq hSq K Q hK => ?_) ?_
              rotate_left
              · (go_step; exact hK)
              refine T_light (a' := ?_) 119 rfl rfl rfl (of_decide_eq_true rfl) rfl hHeld (fun wq hSq K Q hK => ?_) ?_
              rotate_left
              · (go_step; exact hK)
              refine T_light (a' := ?_) 15 rfl rfl rfl (of_decide_eq_true rfl) rfl hHeld (fun wq hSq K Q hK => ?_) ?_
              rotate_left
              · (go_step; exact hK)
              refine T_light (a' := ?_) 16 rfl rfl rfl (of_decide_eq_true rfl) rfl hHeld (fun wq hSq K Q hK => ?_) ?_
              rotate_left
              · (go_step; exact hK)
              refine T_done ?_
              clear hHeld hl0 ei1 ei2 ei3 ej1 ej2 ej3
              go_wp2_with fail
              have HB15D := Lib.hid (show Below w2.drew.heap.size w2.drew w15.drew.drew from HB15.out.drew.drew)
              have HCB := Lib.hid (code_cells (w := w15.drew.drew) (l := l) HRL15.out (i := i) (by rw [HLN.out.1]; exact HIJ.out.1))
              have HCJ := Lib.hid (code_cells (w := w15.drew.drew) (l := l) HRL15.out (i := j) (by rw [HLN.out.1]; exact HIJ.out.2))
              have hci : w15.drew.drew.cell? (x.add i) = some (.int .u8 (rd l (i : Int))) := by
                rw [rd_getD]
                exact (lat_keep HLD.out HB15D.out).cell i (by rw [HLN.out.1]; exact HIJ.out.1)
              have ni0 : (0 : Int) ≤ (i : Int) := Int.natCast_nonneg i
              have ni1 : (i : Int) < (len : Int) := Int.ofNat_lt.2 HIJ.out.1
              have nj0 : (0 : Int) ≤ (j : Int) := Int.natCast_nonneg j
              have nj1 : (j : Int) < (len : Int) := Int.ofNat_lt.2 HIJ.out.2
              by_cases hij : i = j
              · subst hij
                have eij : ((i : Int) == (i : Int)) = true := by simp
                have HCI := Lib.hid hci
                clear hci
                have hHeld : w15.drew.drew.cell? (x.add i) = some (.int .u8 (rd l (i : Int))) := HCI.out
                refine wp_region_T (fun w' => w'.cell? (x.add i) = some (.int .u8 (rd l (i : Int)))) [.take 0, .take 1, .take 2, .take 3, .take 4, .take 5, .take 6, .take 7, .take 8, .take 9, .take 10, .take 11, .take 12, .take 13, .take 14, .take 15, .take 16, .take 17, .take 18, .take 19, .take 20, .take 21, .go 22, .take 23, .take 24] (by kernel_rfl) (by kernel_rfl) (fun _ _ _ _ _ h => h) hHeld ?_
                refine T_light (a' := ?_) 120 rfl rfl rfl (of_decide_eq_true rfl) rfl hHeld (fun wq hSq K Q hK => ?_) ?_
                rotate_left
                · (go_step; exact hK)
                refine T_light (a' := ?_) 121 rfl rfl rfl (of_decide_eq_true rfl) rfl hHeld (fun wq hSq K Q hK => ?_) ?_
                rotate_left
                · (go_step; exact hK)
                refine T_light (a' := ?_) 122 rfl rfl rfl (of_decide_eq_true rfl) rfl hHeld (fun wq hSq K Q hK => ?_) ?_
                rotate_left
                · (go_step; exact hK)
                refine T_light (a' := ?_) 123 rfl rfl rfl (of_decide_eq_true rfl) rfl hHeld (fun wq hSq K Q hK => ?_) ?_
                rotate_left
                · (go_step; exact hK)
                refine T_pass2 (a' := ?_) 124 rfl rfl (by kernel_rfl) (fun K hK => ?_) ?_
                rotate_left
                · (simp only [Act.put, List.setIfInBounds_toArray, List.set_cons_zero, List.set_cons_succ]; exact hK)
                refine T_pass2 (a' := ?_) 125 rfl rfl (by kernel_rfl) (fun K hK => ?_) ?_
                rotate_left
                · (simp only [Act.put, List.setIfInBounds_toArray, List.set_cons_zero, List.set_cons_succ]; exact hK)
                refine T_pass2 (a' := ?_) 126 rfl rfl (by kernel_rfl) (fun K hK => ?_) ?_
                rotate_left
                · (simp only [Act.put, List.setIfInBounds_toArray, List.set_cons_zero, List.set_cons_succ]; exact hK)
                refine T_pass2 (a' := ?_) 127 rfl rfl (by kernel_rfl) (fun K hK => ?_) ?_
                rotate_left
                · (simp only [Act.put, List.setIfInBounds_toArray, List.set_cons_zero, List.set_cons_succ]; exact hK)
                refine T_pass2 (a' := ?_) 128 rfl rfl (by kernel_rfl) (fun K hK => ?_) ?_
                rotate_left
                · (simp only [Act.put, List.setIfInBounds_toArray, List.set_cons_zero, List.set_cons_succ]; exact hK)
                refine T_light (a' := ?_) 129 rfl rfl rfl (of_decide_eq_true rfl) rfl hHeld (fun wq hSq K Q hK => ?_) ?_
                rotate_left
                · (go_step; exact hK)
                refine T_light (a' := ?_) 130 rfl rfl rfl (of_decide_eq_true rfl) rfl hHeld (fun wq hSq K Q hK => ?_) ?_
                rotate_left
                · (go_step; exact hK)
                refine T_pass2 (a' := ?_) 131 rfl rfl (by kernel_rfl) (fun K hK => ?_) ?_
                rotate_left
                · (simp only [Act.put, List.setIfInBounds_toArray, List.set_cons_zero, List.set_cons_succ]; exact hK)
                refine T_pass2 (a' := ?_) 132 rfl rfl (by kernel_rfl) (fun K hK => ?_) ?_
                rotate_left
                · (simp only [Act.put, List.setIfInBounds_toArray, List.set_cons_zero, List.set_cons_succ]; exact hK)
                refine T_pass2 (a' := ?_) 133 rfl rfl (by kernel_rfl) (fun K hK => ?_) ?_
                rotate_left
                · (simp only [Act.put, List.setIfInBounds_toArray, List.set_cons_zero, List.set_cons_succ]; exact hK)
                refine T_pass2 (a' := ?_) 134 rfl rfl (by kernel_rfl) (fun K hK => ?_) ?_
                rotate_left
                · (simp only [Act.put, List.setIfInBounds_toArray, List.set_cons_zero, List.set_cons_succ]; exact hK)
                refine T_pass2 (a' := ?_) 135 rfl rfl (by kernel_rfl) (fun K hK => ?_) ?_
                rotate_left
                · (simp only [Act.put, List.setIfInBounds_toArray, List.set_cons_zero, List.set_cons_succ]; exact hK)
                refine T_pass2 (a' := ?_) 136 rfl rfl (by kernel_rfl) (fun K hK => ?_) ?_
                rotate_left
                · (simp only [Act.put, List.setIfInBounds_toArray, List.set_cons_zero, List.set_cons_succ]; exact hK)
                refine T_pass2 (a' := ?_) 137 rfl rfl (by kernel_rfl) (fun K hK => ?_) ?_
                rotate_left
                · (simp only [Act.put, List.setIfInBounds_toArray, List.set_cons_zero, List.set_cons_succ]; exact hK)
                refine T_pass2 (a' := ?_) 138 rfl rfl (by kernel_rfl) (fun K hK => ?_) ?_
                rotate_left
                · (simp only [Act.put, List.setIfInBounds_toArray, List.set_cons_zero, List.set_cons_succ]; exact hK)
                refine T_pass2 (a' := ?_) 139 rfl rfl (by kernel_rfl) (fun K hK => ?_) ?_
                rotate_left
                · (simp only [Act.put, List.setIfInBounds_toArray, List.set_cons_zero, List.set_cons_succ]; exact hK)
                refine T_light (a' := ?_) 140 rfl rfl rfl (of_decide_eq_true rfl) rfl hHeld (fun wq hSq K Q hK => ?_) ?_
                rotate_left
                · (go_step; exact hK)
                refine T_light (a' := ?_) 141 rfl rfl rfl (of_decide_eq_true rfl) rfl hHeld (fun wq hSq K Q hK => ?_) ?_
                rotate_left
                · (go_step; exact hK)
                refine T_call own8 142 [] rfl rfl rfl rfl rfl ?_
                refine (alive_any _).mono ?_; rintro e w9 ⟨rfl, hb9⟩; have HB9 := Lib.hid (HB15D.out.trans (hb9.mono HB15D.out.size)); have hHeld := show w9.cell? (x.add i) = some (.int .u8 (rd l (i : Int))) from (hb9.cell (World.block_lt_of_cell? _ _ hHeld)).trans hHeld; clear hb9
                refine ⟨_, rfl, hHeld, ?_⟩
                simp only [Act.put, List.setIfInBounds_toArray, List.set_cons_zero, List.set_cons_succ]
                refine T_light (a' := ?_) 143 rfl rfl rfl (of_decide_eq_true rfl) rfl hHeld (fun wq hSq K Q hK => ?_) ?_
                rotate_left
                · (go_step; exact hK)
                refine T_light (a' := ?_) 8 rfl rfl rfl (of_decide_eq_true rfl) rfl hHeld (fun wq hSq K Q hK => ?_) ?_
                rotate_left
                · (go_step; exact hK)
                refine T_done ?_
                clear hHeld
                go_wp2_with fail
                go_ret
                exact ⟨rfl, HB2.out.drew.trans (HB9.out.mono HB2.out.drew.size)⟩
              · have eij := nt_ne hij
                have eij2 : decide (i = j) = false := decide_eq_false hij
                by_cases hz : rd l (i : Int) = 0
                · rw [hz] at hci
                  have HCI := Lib.hid hci
                  clear hci hz hij
                  have hHeld : w15.drew.drew.cell? (x.add i) = some (.int .u8 0) := HCI.out
                  refine wp_region_T (fun w' => w'.cell? (x.add i) = some (.int .u8 0)) [.take 0, .take 1, .take 2, .take 3, .take 4, .take 5, .take 6, .take 7, .take 8, .take 9, .take 10, .take 11, .take 12, .take 13, .take 14, .take 15, .take 16, .take 17, .take 18, .take 19, .take 20, .take 21, .go 22, .take 23, .take 24] (by kernel_rfl) (by kernel_rfl) (fun _ _ _ _ _ h => h) hHeld ?_
                  refine T_light (a' := ?_) 120 rfl rfl rfl (of_decide_eq_true rfl) rfl hHeld (fun wq hSq K Q hK => ?_) ?_
                  rotate_left
                  · (go_step; exact hK)
                  refine T_light (a' := ?_) 121 rfl rfl rfl (of_decide_eq_true rfl) rfl hHeld (fun wq hSq K Q hK => ?_) ?_
                  rotate_left
                  · (go_step; exact hK)
                  refine T_light (a' := ?_) 122 rfl rfl rfl (of_decide_eq_true rfl) rfl hHeld (fun wq hSq K Q hK => ?_) ?_
                  rotate_left
                  · (go_step; exact hK)
                  refine T_light (a' := ?_) 123 rfl rfl rfl (of_decide_eq_true rfl) rfl hHeld (fun wq hSq K Q hK => ?_) ?_
                  rotate_left
                  · (go_step; exact hK)
                  refine T_light (a' := ?_) 124 rfl rfl rfl (of_decide_eq_true rfl) rfl hHeld (fun wq hSq K Q hK => ?_) ?_
                  rotate_left
                  · (go_step; exact hK)
                  refine T_light (a' := ?_) 125 rfl rfl rfl (of_decide_eq_true rfl) rfl hHeld (fun wq hSq K Q hK => ?_) ?_
                  rotate_left
                  · (go_step; exact hK)
                  refine T_light (a' := ?_) 126 rfl rfl rfl (of_decide_eq_true rfl) rfl hHeld (fun wq hSq K Q hK => ?_) ?_
                  rotate_left
                  · (go_step; exact hK)
                  refine T_light (a' := ?_) 127 rfl rfl rfl (of_decide_eq_true rfl) rfl hHeld (fun wq hSq K Q hK => ?_) ?_
                  rotate_left
                  · ((have r1 := hSq; go_step); exact hK)
                  refine T_light (a' := ?_) 128 rfl rfl rfl (of_decide_eq_true rfl) rfl hHeld (fun wq hSq K Q hK => ?_) ?_
                  rotate_left
                  · (go_step; exact hK)
                  refine T_light (a' := ?_) 129 rfl rfl rfl (of_decide_eq_true rfl) rfl hHeld (fun wq hSq K Q hK => ?_) ?_
                  rotate_left
                  · (go_step; exact hK)
                  refine T_light (a' := ?_) 130 rfl rfl rfl (of_decide_eq_true rfl) rfl hHeld (fun wq hSq K Q hK => ?_) ?_
                  rotate_left
                  · (go_step; exact hK)
                  refine T_pass2 (a' := ?_) 131 rfl rfl (by kernel_rfl) (fun K hK => ?_) ?_
                  rotate_left
                  · (simp only [Act.put, List.setIfInBounds_toArray, List.set_cons_zero, List.set_cons_succ]; exact hK)
                  refine T_pass2 (a' := ?_) 132 rfl rfl (by kernel_rfl) (fun K hK => ?_) ?_
                  rotate_left
                  · (simp only [Act.put, List.setIfInBounds_toArray, List.set_cons_zero, List.set_cons_succ]; exact hK)
                  refine T_pass2 (a' := ?_) 133 rfl rfl (by kernel_rfl) (fun K hK => ?_) ?_
                  rotate_left
                  · (simp only [Act.put, List.setIfInBounds_toArray, List.set_cons_zero, List.set_cons_succ]; exact hK)
                  refine T_pass2 (a' := ?_) 134 rfl rfl (by kernel_rfl) (fun K hK => ?_) ?_
                  rotate_left
                  · (simp only [Act.put, List.setIfInBounds_toArray, List.set_cons_zero, List.set_cons_succ]; exact hK)
                  refine T_pass2 (a' := ?_) 135 rfl rfl (by kernel_rfl) (fun K hK => ?_) ?_
                  rotate_left
                  · (simp only [Act.put, List.setIfInBounds_toArray, List.set_cons_zero, List.set_cons_succ]; exact hK)
                  refine T_pass2 (a' := ?_) 136 rfl rfl (by kernel_rfl) (fun K hK => ?_) ?_
                  rotate_left
                  · (simp only [Act.put, List.setIfInBounds_toArray, List.set_cons_zero, List.set_cons_succ]; exact hK)
                  refine T_pass2 (a' := ?_) 137 rfl rfl (by kernel_rfl) (fun K hK => ?_) ?_
                  rotate_left
                  · (simp only [Act.put, List.setIfInBounds_toArray, List.set_cons_zero, List.set_cons_succ]; exact hK)
                  refine T_pass2 (a' := ?_) 138 rfl rfl (by kernel_rfl) (fun K hK => ?_) ?_
                  rotate_left
                  · (simp only [Act.put, List.setIfInBounds_toArray, List.set_cons_zero, List.set_cons_succ]; exact hK)
                  refine T_pass2 (a' := ?_) 139 rfl rfl (by kernel_rfl) (fun K hK => ?_) ?_
                  rotate_left
                  · (simp only [Act.put, List.setIfInBounds_toArray, List.set_cons_zero, List.set_cons_succ]; exact hK)
                  refine T_light (a' := ?_) 140 rfl rfl rfl (of_decide_eq_true rfl) rfl hHeld (fun wq hSq K Q hK => ?_) ?_
                  rotate_left
                  · (go_step; exact hK)
                  refine T_light (a' := ?_) 141 rfl rfl rfl (of_decide_eq_true rfl) rfl hHeld (fun wq hSq K Q hK => ?_) ?_
                  rotate_left
                  · (go_step; exact hK)
                  refine T_call own8 142 [] rfl rfl rfl rfl rfl ?_
                  refine (alive_any _).mono ?_; rintro e w9 ⟨rfl, hb9⟩; have HB9 := Lib.hid (HB15D.out.trans (hb9.mono HB15D.out.size)); have hHeld := show w9.cell? (x.add i) = some (.int .u8 0) from (hb9.cell (World.block_lt_of_cell? _ _ hHeld)).trans hHeld; clear hb9
                  refine ⟨_, rfl, hHeld, ?_⟩
                  simp only [Act.put, List.setIfInBounds_toArray, List.set_cons_zero, List.set_cons_succ]
                  refine T_light (a' := ?_) 143 rfl rfl rfl (of_decide_eq_true rfl) rfl hHeld (fun wq hSq K Q hK => ?_) ?_
                  rotate_left
                  · (go_step; exact hK)
                  refine T_light (a' := ?_) 8 rfl rfl rfl (of_decide_eq_true rfl) rfl hHeld (fun wq hSq K Q hK => ?_) ?_
                  rotate_left
                  · (go_step; exact hK)
                  refine T_done ?_
                  clear hHeld
                  go_wp2_with fail
                  go_ret
                  exact ⟨rfl, HB2.out.drew.trans (HB9.out.mono HB2.out.drew.size)⟩
                · have ez : (rd l (i : Int) == 0) = false := by rw [beq_eq_false_iff_ne]; exact hz
                  have ez2 : decide (rd l (i : Int) = 0) = false := decide_eq_false hz
                  have hne := code_ne l (fun y hy => (HL.out.bytes y hy).1) hij (by rw [HLN.out.1]; exact HIJ.out.1) (by rw [HLN.out.1]; exact HIJ.out.2) hz
                  have qn : ∀ w, (binOp .neq 31 (.agg #[.int .u32 ((codeAt l i).1 : Nat), .int .u8 ((codeAt l i).2 : Nat)]) (.agg #[.int .u32 ((codeAt l j).1 : Nat), .int .u8 ((codeAt l j).2 : Nat)])).run Try.prog w = .ok (.bool true) w := fun w => by rw [neq31, nt_code hne]; rfl
                  have HCI := Lib.hid hci
                  clear hci hz hij hne
                  have hHeld : w15.drew.drew.cell? (x.add i) = some (.int .u8 (rd l (i : Int))) ∧ w15.drew.drew.cell? ⟨B, i * 2, none⟩ = some (.int .u32 ((codeAt l i).1 : Nat)) ∧ w15.drew.drew.cell? ⟨B, i * 2 + 1, none⟩ = some (.int .u8 ((codeAt l i).2 : Nat)) ∧ w15.drew.drew.cell? ⟨B, j * 2, none⟩ = some (.int .u32 ((codeAt l j).1 : Nat)) ∧ w15.drew.drew.cell? ⟨B, j * 2 + 1, none⟩ = some (.int .u8 ((codeAt l j).2 : Nat)) := ⟨HCI.out, HCB.out.1, HCB.out.2, HCJ.out.1, HCJ.out.2⟩
                  refine wp_region_T (fun w' => w'.cell? (x.add i) = some (.int .u8 (rd l (i : Int))) ∧ w'.cell? ⟨B, i * 2, none⟩ = some (.int .u32 ((codeAt l i).1 : Nat)) ∧ w'.cell? ⟨B, i * 2 + 1, none⟩ = some (.int .u8 ((codeAt l i).2 : Nat)) ∧ w'.cell? ⟨B, j * 2, none⟩ = some (.int .u32 ((codeAt l j).1 : Nat)) ∧ w'.cell? ⟨B, j * 2 + 1, none⟩ = some (.int .u8 ((codeAt l j).2 : Nat))) [.take 0, .take 1, .take 2, .take 3, .take 4, .take 5, .take 6, .take 7, .take 8, .take 9, .take 10, .take 11, .take 12, .take 13, .take 14, .take 15, .take 16, .take 17, .take 18, .take 19, .take 20, .take 21, .go 22, .take 23, .take 24] (by kernel_rfl) (by kernel_rfl) (fun _ _ _ _ _ h => h) hHeld ?_
                  refine T_light (a' := ?_) 120 rfl rfl rfl (of_decide_eq_true rfl) rfl hHeld (fun wq hSq K Q hK => ?_) ?_
                  rotate_left
                  · (go_step; exact hK)
                  refine T_light (a' := ?_) 121 rfl rfl rfl (of_decide_eq_true rfl) rfl hHeld (fun wq hSq K Q hK => ?_) ?_
                  rotate_left
                  · (go_step; exact hK)
                  refine T_light (a' := ?_) 122 rfl rfl rfl (of_decide_eq_true rfl) rfl hHeld (fun wq hSq K Q hK => ?_) ?_
                  rotate_left
                  · (go_step; exact hK)
                  refine T_light (a' := ?_) 123 rfl rfl rfl (of_decide_eq_true rfl) rfl hHeld (fun wq hSq K Q hK => ?_) ?_
                  rotate_left
                  · (go_step; exact hK)
                  refine T_light (a' := ?_) 124 rfl rfl rfl (of_decide_eq_true rfl) rfl hHeld (fun wq hSq K Q hK => ?_) ?_
                  rotate_left
                  · (go_step; exact hK)
                  refine T_light (a' := ?_) 125 rfl rfl rfl (of_decide_eq_true rfl) rfl hHeld (fun wq hSq K Q hK => ?_) ?_
                  rotate_left
                  · (go_step; exact hK)
                  refine T_light (a' := ?_) 126 rfl rfl rfl (of_decide_eq_true rfl) rfl hHeld (fun wq hSq K Q hK => ?_) ?_
                  rotate_left
                  · (go_step; exact hK)
                  refine T_light (a' := ?_) 127 rfl rfl rfl (of_decide_eq_true rfl) rfl hHeld (fun wq hSq K Q hK => ?_) ?_
                  rotate_left
                  · ((have r1 := hSq.1; go_step); exact hK)
                  refine T_light (a' := ?_) 128 rfl rfl rfl (of_decide_eq_true rfl) rfl hHeld (fun wq hSq K Q hK => ?_) ?_
                  rotate_left
                  · (go_step; exact hK)
                  refine T_light (a' := ?_) 129 rfl rfl rfl (of_decide_eq_true rfl) rfl hHeld (fun wq hSq K Q hK => ?_) ?_
                  rotate_left
                  · (go_step; exact hK)
                  refine T_light (a' := ?_) 130 rfl rfl rfl (of_decide_eq_true rfl) rfl hHeld (fun wq hSq K Q hK => ?_) ?_
                  rotate_left
                  · (go_step; exact hK)
                  refine T_light (a' := ?_) 131 rfl rfl rfl (of_decide_eq_true rfl) rfl hHeld (fun wq hSq K Q hK => ?_) ?_
                  rotate_left
                  · (go_step; exact hK)
                  refine T_light (a' := ?_) 132 rfl rfl rfl (of_decide_eq_true rfl) rfl hHeld (fun wq hSq K Q hK => ?_) ?_
                  rotate_left
                  · (go_step; exact hK)
                  refine T_light (a' := ?_) 133 rfl rfl rfl (of_decide_eq_true rfl) rfl hHeld (fun wq hSq K Q hK => ?_) ?_
                  rotate_left
                  · (go_step; exact hK)
                  refine T_light (a' := ?_) 134 rfl rfl rfl (of_decide_eq_true rfl) rfl hHeld (fun wq hSq K Q hK => ?_) ?_
                  rotate_left
                  · ((obtain ⟨_, r1, r2, _, _⟩ := hSq; go_step); exact hK)
                  refine T_light (a' := ?_) 135 rfl rfl rfl (of_decide_eq_true rfl) rfl hHeld (fun wq hSq K Q hK => ?_) ?_
                  rotate_left
                  · (go_step; exact hK)
                  refine T_light (a' := ?_) 136 rfl rfl rfl (of_decide_eq_true rfl) rfl hHeld (fun wq hSq K Q hK => ?_) ?_
                  rotate_left
                  · (go_step; exact hK)
                  refine T_light (a' := ?_) 137 rfl rfl rfl (of_decide_eq_true rfl) rfl hHeld (fun wq hSq K Q hK => ?_) ?_
                  rotate_left
                  · (go_step; exact hK)
                  refine T_light (a' := ?_) 138 rfl rfl rfl (of_decide_eq_true rfl) rfl hHeld (fun wq hSq K Q hK => ?_) ?_
                  rotate_left
                  · ((obtain ⟨_, _, _, r1, r2⟩ := hSq; go_step); exact hK)
                  refine T_light (a' := ?_) 139 rfl rfl rfl (of_decide_eq_true rfl) rfl hHeld (fun wq hSq K Q hK => ?_) ?_
                  rotate_left
                  · (go_step; exact hK)
                  refine T_light (a' := ?_) 140 rfl rfl rfl (of_decide_eq_true rfl) rfl hHeld (fun wq hSq K Q hK => ?_) ?_
                  rotate_left
                  · (go_step; exact hK)
                  refine T_light (a' := ?_) 141 rfl rfl rfl (of_decide_eq_true rfl) rfl hHeld (fun wq hSq K Q hK => ?_) ?_
                  rotate_left
                  · (go_step; exact hK)
                  refine T_call own8 142 [] rfl rfl rfl rfl rfl ?_
                  refine (alive_any _).mono ?_; rintro e w9 ⟨rfl, hb9⟩; have HB9 := Lib.hid (HB15D.out.trans (hb9.mono HB15D.out.size)); have hHeld := show w9.cell? (x.add i) = some (.int .u8 (rd l (i : Int))) ∧ w9.cell? ⟨B, i * 2, none⟩ = some (.int .u32 ((codeAt l i).1 : Nat)) ∧ w9.cell? ⟨B, i * 2 + 1, none⟩ = some (.int .u8 ((codeAt l i).2 : Nat)) ∧ w9.cell? ⟨B, j * 2, none⟩ = some (.int .u32 ((codeAt l j).1 : Nat)) ∧ w9.cell? ⟨B, j * 2 + 1, none⟩ = some (.int .u8 ((codeAt l j).2 : Nat)) from ⟨(hb9.cell (World.block_lt_of_cell? _ _ hHeld.1)).trans hHeld.1, (hb9.cell (World.block_lt_of_cell? _ _ hHeld.2.1)).trans hHeld.2.1, (hb9.cell (World.block_lt_of_cell? _ _ hHeld.2.2.1)).trans hHeld.2.2.1, (hb9.cell (World.block_lt_of_cell? _ _ hHeld.2.2.2.1)).trans hHeld.2.2.2.1, (hb9.cell (World.block_lt_of_cell? _ _ hHeld.2.2.2.2)).trans hHeld.2.2.2.2⟩; clear hb9
                  refine ⟨_, rfl, hHeld, ?_⟩
                  simp only [Act.put, List.setIfInBounds_toArray, List.set_cons_zero, List.set_cons_succ]
                  refine T_light (a' := ?_) 143 rfl rfl rfl (of_decide_eq_true rfl) rfl hHeld (fun wq hSq K Q hK => ?_) ?_
                  rotate_left
                  · (go_step; exact hK)
                  refine T_light (a' := ?_) 8 rfl rfl rfl (of_decide_eq_true rfl) rfl hHeld (fun wq hSq K Q hK => ?_) ?_
                  rotate_left
                  · (go_step; exact hK)
                  refine T_done ?_
                  clear hHeld
                  go_wp2_with fail
                  go_ret
                  exact ⟨rfl, HB2.out.drew.trans (HB9.out.mono HB2.out.drew.size)⟩
          · go_step
            refine hK _ _ trivial ?_
            clear hK K
            have HBW1 := Lib.hid (HBD.out.alloc HBD.out.size (.cells #[.int .u8 0] 5))
            have HONE1 := Lib.hid (show (w2.drew.alloc (.cells #[.int .u8 0] 5)).heap[w2.heap.size]? = some (.cells #[.int .u8 0] 5 (0, 0)) from heap_alloc_last w2.drew (.cells #[.int .u8 0] 5))
            refine R_go rfl rfl (fun K hK => ?_)
            go_step
            refine hK _ _ trivial ?_
            clear hK K
            have HBW0 := Lib.hid (HBW1.out.alloc HBW1.out.size (.cells #[] 5))
            have HOWN0 := Lib.hid (show ((w2.drew.alloc (.cells #[.int .u8 0] 5)).alloc (.cells #[] 5)).ownsRow w2.drew.heap.size 5 1 (.slice (some ⟨w2.heap.size + 1, 0, none⟩) 0 0) ([] : List Int).length (u8V []) by
              have h := own_new0 HBW1.out
              have e : (w2.drew.alloc (.cells #[.int .u8 0] 5)).heap.size = w2.heap.size + 1 := by simp
              rw [e] at h
              exact h)
            have HLW0 := Lib.hid (lat_keep HLD.out HBW0.out)
            have HONE0 := Lib.hid (alloc_row (w2.drew.alloc (.cells #[.int .u8 0] 5)) (.cells #[] 5) HONE1.out)
            refine R_go rfl rfl (fun K hK => ?_)
            refine app_stepN (W := w2.drew) _ _ rfl (.slice (some ⟨w2.heap.size + 1, 0, none⟩) 0 0) [] (l.take k) rfl HOWN0.out HBW0.out x k cap rfl (by rw [List.length_take, HLN.out.1]; exact Nat.min_eq_left HKL.out) (take_cells HLW0.out (by rw [HLN.out.1]; exact HKL.out)) (nt_s0 HKL.out HLN.out.2.2) ?_
            intro v4 w4 hown4 hb4 hk4
            refine hK _ _ trivial ?_
            clear hK K
            have HOWN := Lib.hid (show w4.ownsRow w2.drew.heap.size 5 1 v4 (l.take k).length (u8V (l.take k)) from hown4)
            have HBW := Lib.hid hb4
            have HONE := Lib.hid (hk4 _ _ (by simp [Value.ownBlock]) HONE0.out)
            clear hown4 hb4 hk4 HOWN0 HBW0 HLW0 HBW1 HONE1 HONE0
            refine R_go rfl rfl (fun K hK => ?_)
            refine app_stepN (W := w2.drew) _ _ rfl _ (l.take k) [0] rfl HOWN.out HBW.out _ 1 1 rfl rfl (one_cell HONE.out) (nt_s1 HKL.out HLN.out.2.2) ?_
            intro v6 w6 hown6 hb6 hk6
            have HOWN6 := Lib.hid hown6
            have HBW6 := Lib.hid hb6
            have HLW6 := Lib.hid (lat_keep HLD.out hb6)
            clear hown6 hb6 hk6
            refine hK _ _ trivial ?_
            clear hK K
            refine R_go rfl rfl (fun K hK => ?_)
            refine app_stepN (W := w2.drew) _ _ rfl _ (l.take k ++ [0]) (l.drop k) rfl HOWN6.out HBW6.out _ (len - k) (cap - k) rfl (by rw [List.length_drop, HLN.out.1]) (drop_cells HLW6.out HLN.out.1 HKL.out HY.out) (nt_s2 HKL.out HLN.out.2.2) ?_
            intro v10 w10 hown10 hb10 hk10
            have HOWN10 := Lib.hid (show w10.ownsRow w2.drew.heap.size 5 1 v10 (putZ l k).length (u8V (putZ l k)) by
              have h := hown10
              rw [List.append_assoc] at h
              exact h)
            have HBW10 := Lib.hid hb10
            clear hown10 hb10 hk10
            refine hK _ _ trivial ?_
            clear hK K
            refine R_light (a' := ?_) 12 rfl rfl rfl (of_decide_eq_true rfl) rfl trivial (fun wq hSq K Q hK => ?_) ?_
            rotate_left
            · (go_step; exact hK)
            refine R_done ?_
            obtain ⟨gM, cM, rfl⟩ : ∃ g c, v10 = .slice (some ⟨g, 0, none⟩) (putZ l k).length c := by
              rcases HOWN10.out.2 with ⟨_, h⟩ | ⟨g, cap, cur, h, _⟩
              · rw [putZ_length] at h; omega
              · exact ⟨g, cap, h⟩
            have HLM := Lib.hid (show LAt w10 ⟨gM, 0, none⟩ (putZ l k) from ⟨(own_row HOWN10.out (nt_z1 HLN.out)).2.2 (nt_z2 l k) |> fun ⟨ad, e, hc⟩ => by cases e; exact hc, putZ_bytes HL.out.bytes, nt_z1 HLN.out⟩)
            have hpl : (putZ l k).length = len + 1 := by rw [putZ_length, HLN.out.1]
            rw [hpl]
            have HPL := Lib.hid hpl
            have HKP := Lib.hid (kind_putZ l k HK.out.1 (by rw [HLN.out.1]; exact HLN.out.2.2))
            clear HOWN HBW HONE HOWN6 HBW6 HLW6 HOWN10 hpl
            go_wp2_with fail
            have hc := codes_ok (putZ l k) (some ⟨gM, 0, none⟩) cM w10 HLM.out.reads HLM.out.bytes (by rw [HKP.out]; exact HKK.out.1) (by rw [HKP.out]; exact HKK.out.2)
            rw [HPL.out] at hc
            refine hc.mono ?_
            rintro e w11 ⟨B2, hB2, rfl, hrow2, hb⟩
            rw [HPL.out]
            have HB11 := Lib.hid (HBW10.out.trans (hb.mono HBW10.out.size))
            have HROW2 := Lib.hid hrow2
            have HLM11 := Lib.hid (HLM.out.below hb)
            obtain ⟨z0, z1⟩ := code_cells hrow2 (i := k) (by rw [HPL.out]; exact Nat.lt_succ_of_le HKL.out)
            rw [code_putZ_eq l (by rw [HLN.out.1]; exact HKL.out)] at z0 z1
            have hqn : ∀ w, (binOp .neq 31 (.agg #[.int .u32 0, .int .u8 0]) (.agg #[.int .u32 0, .int .u8 0])).run Try.prog w = .ok (.bool false) w := fun w => by rw [neq31]; simp
            have hk1 : (k : Int) < (len : Int) + 1 := nt_z3 HKL.out
            have ek5 := nt_z4 HKL.out HLN.out.2.2
            clear hc hb hB2 hrow2 ek1 ek2 ek3 ek4
            go_wp2_with fail
            have hkm := kind_any (putZ l k) (some ⟨gM, 0, none⟩) cM w11 HLM11.out.reads HLM11.out.bytes
            rw [HPL.out, HKP.out] at hkm
            refine hkm.mono ?_
            rintro e w12 ⟨rfl, hb⟩
            have HB12 := Lib.hid (HB11.out.trans (hb.mono HB11.out.size))
            have HROW12 := Lib.hid ((hb.block B2 (Array.getElem?_eq_some_iff.1 HROW2.out).1).trans HROW2.out)
            clear hkm hb z0 z1 hqn
            go_wp2_with fail
            have hkm := kind_any l (some x) cap w12 (lat_keep HLD.out HB12.out).reads HL.out.bytes
            rw [HLN.out.1] at hkm
            refine hkm.mono ?_
            rintro e w13 ⟨rfl, hb⟩
            have HB13 := Lib.hid (HB12.out.trans (hb.mono HB12.out.size))
            have HROWM := Lib.hid ((hb.block B2 (Array.getElem?_eq_some_iff.1 HROW12.out).1).trans HROW12.out)
            have HROWL := Lib.hid (show w13.heap[B]? = some (.cells (cellsC (codesK l l.length)).toArray 31 (0, 0)) from (HB13.out.block B (show B < w2.drew.heap.size from (Array.getElem?_eq_some_iff.1 HROW.out).1)).trans HROW.out)
            clear hkm hb
            go_wp2_with fail
            obtain ⟨oM, hcM, hoM⟩ := cutB B2 (len + 1) (len + 1) (k + 1) (Nat.succ_le_succ HKL.out) (Nat.le_refl _)
            obtain ⟨oL, hcL, hoL⟩ := cutB B len len k HKL.out (Nat.le_refl _)
            have eM : ((k + 1 : Nat) : Int) = (k : Int) + 1 := by omega
            rw [eM, Nat.add_sub_add_right] at hcM
            have hkl : k ≤ len := HKL.out
            have hkl1 : k ≤ len + 1 := Nat.le_succ_of_le hkl
            have hkl2 : (k : Int) ≤ (len : Int) + 1 := nt_z5 hkl
            have hkl3 : (k : Int) ≤ (len : Int) := Int.ofNat_le.2 hkl
            have HCT := Lib.hid (show CAt w13.drew (.slice (some ⟨B2, 0, none⟩) k (len + 1)) ((codesK l l.length).take k) ∧ CAt w13.drew (.slice (some ⟨B, 0, none⟩) k len) ((codesK l l.length).take k) from ⟨by
              have h := cat_takeN (w := w13.drew) (c := len + 1) HROWM.out (k := k) (by rw [HPL.out]; exact hkl1)
              rw [codes_take l (by rw [HLN.out.1]; exact hkl)] at h
              exact h, cat_takeN (w := w13.drew) (c := len) HROWL.out (by rw [HLN.out.1]; exact hkl)⟩)
            have HCD := Lib.hid (show CAt w13.drew (.slice (some ⟨B2, oM, none⟩) (len - k) (len - k)) ((codesK l l.length).drop k) ∧ CAt w13.drew (.slice (some ⟨B, oL, none⟩) (len - k) (len - k)) ((codesK l l.length).drop k) from ⟨by
              have h := cat_dropN (w := w13.drew) (o := oM) (c := len - k) HROWM.out (k := k + 1) (by rw [HPL.out]; exact Nat.succ_le_succ hkl) (by rw [HPL.out]; exact hoM)
              rw [codes_drop l (by rw [HLN.out.1]; exact hkl), HPL.out, Nat.add_sub_add_right] at h
              exact h, by
              have h := cat_dropN (w := w13.drew) (o := oL) (c := len - k) HROWL.out (k := k) (by rw [HLN.out.1]; exact hkl) (by rw [HLN.out.1]; exact hoL)
              rw [HLN.out.1] at h
              rw [HLN.out.1]
              exact h⟩)
            have HCL := Lib.hid (show (codesK l l.length).length < 1000000 by rw [codesK_length, HLN.out.1]; have := HLN.out.2.2; omega)
            clear eM hoM hoL
            have hHeld : True := trivial
            refine wp_region_T (fun _ => True) [.take 0, .take 1, .take 2, .take 3, .take 4, .take 5, .go 6, .take 7, .take 8, .take 9, .take 10, .take 11, .take 12, .take 13, .take 14, .take 15, .go 16, .take 17, .take 18] (by kernel_rfl) (by kernel_rfl) (fun _ _ _ _ _ h => h) hHeld ?_
            refine T_light (a' := ?_) 91 rfl rfl rfl (of_decide_eq_true rfl) rfl hHeld (fun wq hSq K Q hK => ?_) ?_
            rotate_left
            · (go_step; exact hK)
            refine T_light (a' := ?_) 92 rfl rfl rfl (of_decide_eq_true rfl) rfl hHeld (fun wq hSq K Q hK => ?_) ?_
            rotate_left
            · (go_step; exact hK)
            refine T_light (a' := ?_) 93 rfl rfl rfl (of_decide_eq_true rfl) rfl hHeld (fun wq hSq K Q hK => ?_) ?_
            rotate_left
            · (go_step; exact hK)
            refine T_light (a' := ?_) 94 rfl rfl rfl (of_decide_eq_true rfl) rfl hHeld (fun wq hSq K Q hK => ?_) ?_
            rotate_left
            · (go_step; exact hK)
            refine T_light (a' := ?_) 95 rfl rfl rfl (of_decide_eq_true rfl) rfl hHeld (fun wq hSq K Q hK => ?_) ?_
            rotate_left
            · (go_step; exact hK)
            refine T_light (a' := ?_) 96 rfl rfl rfl (of_decide_eq_true rfl) rfl hHeld (fun wq hSq K Q hK => ?_) ?_
            rotate_left
            · (go_step; exact hK)
            refine T_call own14 97 [.slice (some ⟨B2, 0, none⟩) k (len + 1), .slice (some ⟨B, 0, none⟩) k len] rfl rfl rfl rfl rfl ?_
            refine (same31_any ((codesK l l.length).take k) _ _ _ HCT.out.1 HCT.out.2 (Nat.lt_of_le_of_lt (by rw [List.length_take]; exact Nat.min_le_right _ _) HCL.out)).mono ?_; rintro e w14 ⟨rfl, hb14⟩; have HB14 := Lib.hid (HB13.out.drew.trans (hb14.mono HB13.out.drew.size)); have HCD2 := Lib.hid (And.intro (HCD.out.1.below hb14) (HCD.out.2.below hb14)); have HRL14 := Lib.hid ((hb14.block B (Array.getElem?_eq_some_iff.1 HROWL.out).1).trans HROWL.out); clear hb14
            refine ⟨_, rfl, hHeld, ?_⟩
            simp only [Act.put, List.setIfInBounds_toArray, List.set_cons_zero, List.set_cons_succ]
            refine T_light (a' := ?_) 98 rfl rfl rfl (of_decide_eq_true rfl) rfl hHeld (fun wq hSq K Q hK => ?_) ?_
            rotate_left
            · (go_step; exact hK)
            refine T_light (a' := ?_) 99 rfl rfl rfl (of_decide_eq_true rfl) rfl hHeld (fun wq hSq K Q hK => ?_) ?_
            rotate_left
            · (go_step; exact hK)
            refine T_light (a' := ?_) 100 rfl rfl rfl (of_decide_eq_true rfl) rfl hHeld (fun wq hSq K Q hK => ?_) ?_
            rotate_left
            · (go_step; exact hK)
            refine T_light (a' := ?_) 101 rfl rfl rfl (of_decide_eq_true rfl) rfl hHeld (fun wq hSq K Q hK => ?_) ?_
            rotate_left
            · (go_step; exact hK)
            refine T_light (a' := ?_) 102 rfl rfl rfl (of_decide_eq_true rfl) rfl hHeld (fun wq hSq K Q hK => ?_) ?_
            rotate_left
            · (go_step; exact hK)
            refine T_light (a' := ?_) 103 rfl rfl rfl (of_decide_eq_true rfl) rfl hHeld (fun wq hSq K Q hK => ?_) ?_
            rotate_left
            · (go_step; exact hK)
            refine T_light (a' := ?_) 104 rfl rfl rfl (of_decide_eq_true rfl) rfl hHeld (fun wq hSq K Q hK => ?_) ?_
            rotate_left
            · (go_step; exact hK)
            refine T_light (a' := ?_) 105 rfl rfl rfl (of_decide_eq_true rfl) rfl hHeld (fun wq hSq K Q hK => ?_) ?_
            rotate_left
            · (go_step; exact hK)
            refine T_light (a' := ?_) 106 rfl rfl rfl (of_decide_eq_true rfl) rfl hHeld (fun wq hSq K Q hK => ?_) ?_
            rotate_left
            · (go_step; exact hK)
            refine T_call own14 107 [.slice (some ⟨B2, oM, none⟩) (len - k) (len - k), .slice (some ⟨B, oL, none⟩) (len - k) (len - k)] rfl rfl rfl rfl rfl ?_
            refine (same31_any ((codesK l l.length).drop k) _ _ _ HCD2.out.1 HCD2.out.2 (Nat.lt_of_le_of_lt (by rw [List.length_drop]; exact Nat.sub_le _ _) HCL.out)).mono ?_; rintro e w15 ⟨rfl, hb15⟩; have HB15 := Lib.hid (HB14.out.trans (hb15.mono HB14.out.size)); have HRL15 := Lib.hid ((hb15.block B (Array.getElem?_eq_some_iff.1 HRL14.out).1).trans HRL14.out); clear hb15
            refine ⟨_, rfl, hHeld, ?_⟩
            simp only [Act.put, List.setIfInBounds_toArray, List.set_cons_zero, List.set_cons_succ]
            refine T_light (a' := ?_) 108 rfl rfl rfl (of_decide_eq_true rfl) rfl hHeld (fun wq hSq K Q hK => ?_) ?_
            rotate_left
            · (go_step; exact hK)
            refine T_light (a' := ?_) 109 rfl rfl rfl (of_decide_eq_true rfl) rfl hHeld (fun wq hSq K Q hK => ?_) ?_
            rotate_left
            · (go_step; exact hK)
            refine T_done ?_
            clear hcM hcL hHeld hk1 ek5 hkl hkl1 hkl2 hkl3 hkc hkc2 nk0
            go_wp2_with fail
            obtain ⟨i, ei1, ei2, ei3, hi⟩ := nt_m HU.out.2.1 HLN.out.2.2 H0.out
            obtain ⟨j, ej1, ej2, ej3, hj⟩ := nt_m HU.out.2.2 HLN.out.2.2 H0.out
            have HIJ := Lib.hid (And.intro hi hj)
            have hHeld : True := trivial
            have hl0 : ¬ len = 0 := H0.out
            clear hi hj
            refine wp_region_T (fun _ => True) [.take 0, .take 1, .take 2, .take 3, .take 4, .take 5, .take 6, .take 7, .take 8, .take 9, .take 10, .take 11] (by kernel_rfl) (by kernel_rfl) (fun _ _ _ _ _ h => h) hHeld ?_
            refine T_light (a' := ?_) 110 rfl rfl rfl (of_decide_eq_true rfl) rfl hHeld (fun wq hSq K Q hK => ?_) ?_
            rotate_left
            · (go_step; exact hK)
            refine T_light (a' := ?_) 111 rfl rfl rfl (of_decide_eq_true rfl) rfl hHeld (fun wq hSq K Q hK => ?_) ?_
            rotate_left
            · (go_step; exact hK)
            refine T_light (a' := ?_) 112 rfl rfl rfl (of_decide_eq_true rfl) rfl hHeld (fun wq hSq K Q hK => ?_) ?_
            rotate_left
            · (go_step; exact hK)
            refine T_light (a' := ?_) 113 rfl rfl rfl (of_decide_eq_true rfl) rfl hHeld (fun wq hSq K Q hK => ?_) ?_
            rotate_left
            · (go_step; exact hK)
            refine T_light (a' := ?_) 114 rfl rfl rfl (of_decide_eq_true rfl) rfl hHeld (fun wq hSq K Q hK => ?_) ?_
            rotate_left
            · (go_step; exact hK)
            refine T_light (a' := ?_) 115 rfl rfl rfl (of_decide_eq_true rfl) rfl hHeld (fun wq hSq K Q hK => ?_) ?_
            rotate_left
            · (go_step; exact hK)
            refine T_light (a' := ?_) 116 rfl rfl rfl (of_decide_eq_true rfl) rfl hHeld (fun wq hSq K Q hK => ?_) ?_
            rotate_left
            · (go_step; exact hK)
            refine T_light (a' := ?_) 117 rfl rfl rfl (of_decide_eq_true rfl) rfl hHeld (fun wq hSq K Q hK => ?_) ?_
            rotate_left
            · (go_step; exact hK)
            refine T_light (a' := ?_) 118 rfl rfl rfl (of_decide_eq_true rfl) rfl hHeld (fun wq hSq K Q hK => ?_) ?_
            rotate_left
            · (go_step; exact hK)
            refine T_light (a' := ?_) 119 rfl rfl rfl (of_decide_eq_true rfl) rfl hHeld (fun wq hSq K Q hK => ?_) ?_
            rotate_left
            · (go_step; exact hK)
            refine T_light (a' := ?_) 15 rfl rfl rfl (of_decide_eq_true rfl) rfl hHeld (fun wq hSq K Q hK => ?_) ?_
            rotate_left
            · (go_step; exact hK)
            refine T_light (a' := ?_) 16 rfl rfl rfl (of_decide_eq_true rfl) rfl hHeld (fun wq hSq K Q hK => ?_) ?_
            rotate_left
            · (go_step; exact hK)
            refine T_done ?_
            clear hHeld hl0 ei1 ei2 ei3 ej1 ej2 ej3
            go_wp2_with fail
            have HB15D := Lib.hid (show Below w2.drew.heap.size w2.drew w15.drew.drew from HB15.out.drew.drew)
            have HCB := Lib.hid (code_cells (w := w15.drew.drew) (l := l) HRL15.out (i := i) (by rw [HLN.out.1]; exact HIJ.out.1))
            have HCJ := Lib.hid (code_cells (w := w15.drew.drew) (l := l) HRL15.out (i := j) (by rw [HLN.out.1]; exact HIJ.out.2))
            have hci : w15.drew.drew.cell? (x.add i) = some (.int .u8 (rd l (i : Int))) := by
              rw [rd_getD]
              exact (lat_keep HLD.out HB15D.out).cell i (by rw [HLN.out.1]; exact HIJ.out.1)
            have ni0 : (0 : Int) ≤ (i : Int) := Int.natCast_nonneg i
            have ni1 : (i : Int) < (len : Int) := Int.ofNat_lt.2 HIJ.out.1
            have nj0 : (0 : Int) ≤ (j : Int) := Int.natCast_nonneg j
            have nj1 : (j : Int) < (len : Int) := Int.ofNat_lt.2 HIJ.out.2
            by_cases hij : i = j
            · subst hij
              have eij : ((i : Int) == (i : Int)) = true := by simp
              have HCI := Lib.hid hci
              clear hci
              have hHeld : w15.drew.drew.cell? (x.add i) = some (.int .u8 (rd l (i : Int))) := HCI.out
              refine wp_region_T (fun w' => w'.cell? (x.add i) = some (.int .u8 (rd l (i : Int)))) [.take 0, .take 1, .take 2, .take 3, .take 4, .take 5, .take 6, .take 7, .take 8, .take 9, .take 10, .take 11, .take 12, .take 13, .take 14, .take 15, .take 16, .take 17, .take 18, .take 19, .take 20, .take 21, .go 22, .take 23, .take 24] (by kernel_rfl) (by kernel_rfl) (fun _ _ _ _ _ h => h) hHeld ?_
              refine T_light (a' := ?_) 120 rfl rfl rfl (of_decide_eq_true rfl) rfl hHeld (fun wq hSq K Q hK => ?_) ?_
              rotate_left
              · (go_step; exact hK)
              refine T_light (a' := ?_) 121 rfl rfl rfl (of_decide_eq_true rfl) rfl hHeld (fun wq hSq K Q hK => ?_) ?_
              rotate_left
              · (go_step; exact hK)
              refine T_light (a' := ?_) 122 rfl rfl rfl (of_decide_eq_true rfl) rfl hHeld (fun wq hSq K Q hK => ?_) ?_
              rotate_left
              · (go_step; exact hK)
              refine T_light (a' := ?_) 123 rfl rfl rfl (of_decide_eq_true rfl) rfl hHeld (fun wq hSq K Q hK => ?_) ?_
              rotate_left
              · (go_step; exact hK)
              refine T_pass2 (a' := ?_) 124 rfl rfl (by kernel_rfl) (fun K hK => ?_) ?_
              rotate_left
              · (simp only [Act.put, List.setIfInBounds_toArray, List.set_cons_zero, List.set_cons_succ]; exact hK)
              refine T_pass2 (a' := ?_) 125 rfl rfl (by kernel_rfl) (fun K hK => ?_) ?_
              rotate_left
              · (simp only [Act.put, List.setIfInBounds_toArray, List.set_cons_zero, List.set_cons_succ]; exact hK)
              refine T_pass2 (a' := ?_) 126 rfl rfl (by kernel_rfl) (fun K hK => ?_) ?_
              rotate_left
              · (simp only [Act.put, List.setIfInBounds_toArray, List.set_cons_zero, List.set_cons_succ]; exact hK)
              refine T_pass2 (a' := ?_) 127 rfl rfl (by kernel_rfl) (fun K hK => ?_) ?_
              rotate_left
              · (simp only [Act.put, List.setIfInBounds_toArray, List.set_cons_zero, List.set_cons_succ]; exact hK)
              refine T_pass2 (a' := ?_) 128 rfl rfl (by kernel_rfl) (fun K hK => ?_) ?_
              rotate_left
              · (simp only [Act.put, List.setIfInBounds_toArray, List.set_cons_zero, List.set_cons_succ]; exact hK)
              refine T_light (a' := ?_) 129 rfl rfl rfl (of_decide_eq_true rfl) rfl hHeld (fun wq hSq K Q hK => ?_) ?_
              rotate_left
              · (go_step; exact hK)
              refine T_light (a' := ?_) 130 rfl rfl rfl (of_decide_eq_true rfl) rfl hHeld (fun wq hSq K Q hK => ?_) ?_
              rotate_left
              · (go_step; exact hK)
              refine T_pass2 (a' := ?_) 131 rfl rfl (by kernel_rfl) (fun K hK => ?_) ?_
              rotate_left
              · (simp only [Act.put, List.setIfInBounds_toArray, List.set_cons_zero, List.set_cons_succ]; exact hK)
              refine T_pass2 (a' := ?_) 132 rfl rfl (by kernel_rfl) (fun K hK => ?_) ?_
              rotate_left
              · (simp only [Act.put, List.setIfInBounds_toArray, List.set_cons_zero, List.set_cons_succ]; exact hK)
              refine T_pass2 (a' := ?_) 133 rfl rfl (by kernel_rfl) (fun K hK => ?_) ?_
              rotate_left
              · (simp only [Act.put, List.setIfInBounds_toArray, List.set_cons_zero, List.set_cons_succ]; exact hK)
              refine T_pass2 (a' := ?_) 134 rfl rfl (by kernel_rfl) (fun K hK => ?_) ?_
              rotate_left
              · (simp only [Act.put, List.setIfInBounds_toArray, List.set_cons_zero, List.set_cons_succ]; exact hK)
              refine T_pass2 (a' := ?_) 135 rfl rfl (by kernel_rfl) (fun K hK => ?_) ?_
              rotate_left
              · (simp only [Act.put, List.setIfInBounds_toArray, List.set_cons_zero, List.set_cons_succ]; exact hK)
              refine T_pass2 (a' := ?_) 136 rfl rfl (by kernel_rfl) (fun K hK => ?_) ?_
              rotate_left
              · (simp only [Act.put, List.setIfInBounds_toArray, List.set_cons_zero, List.set_cons_succ]; exact hK)
              refine T_pass2 (a' := ?_) 137 rfl rfl (by kernel_rfl) (fun K hK => ?_) ?_
              rotate_left
              · (simp only [Act.put, List.setIfInBounds_toArray, List.set_cons_zero, List.set_cons_succ]; exact hK)
              refine T_pass2 (a' := ?_) 138 rfl rfl (by kernel_rfl) (fun K hK => ?_) ?_
              rotate_left
              · (simp only [Act.put, List.setIfInBounds_toArray, List.set_cons_zero, List.set_cons_succ]; exact hK)
              refine T_pass2 (a' := ?_) 139 rfl rfl (by kernel_rfl) (fun K hK => ?_) ?_
              rotate_left
              · (simp only [Act.put, List.setIfInBounds_toArray, List.set_cons_zero, List.set_cons_succ]; exact hK)
              refine T_light (a' := ?_) 140 rfl rfl rfl (of_decide_eq_true rfl) rfl hHeld (fun wq hSq K Q hK => ?_) ?_
              rotate_left
              · (go_step; exact hK)
              refine T_light (a' := ?_) 141 rfl rfl rfl (of_decide_eq_true rfl) rfl hHeld (fun wq hSq K Q hK => ?_) ?_
              rotate_left
              · (go_step; exact hK)
              refine T_call own8 142 [] rfl rfl rfl rfl rfl ?_
              refine (alive_any _).mono ?_; rintro e w9 ⟨rfl, hb9⟩; have HB9 := Lib.hid (HB15D.out.trans (hb9.mono HB15D.out.size)); have hHeld := show w9.cell? (x.add i) = some (.int .u8 (rd l (i : Int))) from (hb9.cell (World.block_lt_of_cell? _ _ hHeld)).trans hHeld; clear hb9
              refine ⟨_, rfl, hHeld, ?_⟩
              simp only [Act.put, List.setIfInBounds_toArray, List.set_cons_zero, List.set_cons_succ]
              refine T_light (a' := ?_) 143 rfl rfl rfl (of_decide_eq_true rfl) rfl hHeld (fun wq hSq K Q hK => ?_) ?_
              rotate_left
              · (go_step; exact hK)
              refine T_light (a' := ?_) 8 rfl rfl rfl (of_decide_eq_true rfl) rfl hHeld (fun wq hSq K Q hK => ?_) ?_
              rotate_left
              · (go_step; exact hK)
              refine T_done ?_
              clear hHeld
              go_wp2_with fail
              go_ret
              exact ⟨rfl, HB2.out.drew.trans (HB9.out.mono HB2.out.drew.size)⟩
            · have eij := nt_ne hij
              have eij2 : decide (i = j) = false := decide_eq_false hij
              by_cases hz : rd l (i : Int) = 0
              · rw [hz] at hci
                have HCI := Lib.hid hci
                clear hci hz hij
                have hHeld : w15.drew.drew.cell? (x.add i) = some (.int .u8 0) := HCI.out
                refine wp_region_T (fun w' => w'.cell? (x.add i) = some (.int .u8 0)) [.take 0, .take 1, .take 2, .take 3, .take 4, .take 5, .take 6, .take 7, .take 8, .take 9, .take 10, .take 11, .take 12, .take 13, .take 14, .take 15, .take 16, .take 17, .take 18, .take 19, .take 20, .take 21, .go 22, .take 23, .take 24] (by kernel_rfl) (by kernel_rfl) (fun _ _ _ _ _ h => h) hHeld ?_
                refine T_light (a' := ?_) 120 rfl rfl rfl (of_decide_eq_true rfl) rfl hHeld (fun wq hSq K Q hK => ?_) ?_
                rotate_left
                · (go_step; exact hK)
                refine T_light (a' := ?_) 121 rfl rfl rfl (of_decide_eq_true rfl) rfl hHeld (fun wq hSq K Q hK => ?_) ?_
                rotate_left
                · (go_step; exact hK)
                refine T_light (a' := ?_) 122 rfl rfl rfl (of_decide_eq_true rfl) rfl hHeld (fun wq hSq K Q hK => ?_) ?_
                rotate_left
                · (go_step; exact hK)
                refine T_light (a' := ?_) 123 rfl rfl rfl (of_decide_eq_true rfl) rfl hHeld (fun wq hSq K Q hK => ?_) ?_
                rotate_left
                · (go_step; exact hK)
                refine T_light (a' := ?_) 124 rfl rfl rfl (of_decide_eq_true rfl) rfl hHeld (fun wq hSq K Q hK => ?_) ?_
                rotate_left
                · (go_step; exact hK)
                refine T_light (a' := ?_) 125 rfl rfl rfl (of_decide_eq_true rfl) rfl hHeld (fun wq hSq K Q hK => ?_) ?_
                rotate_left
                · (go_step; exact hK)
                refine T_light (a' := ?_) 126 rfl rfl rfl (of_decide_eq_true rfl) rfl hHeld (fun wq hSq K Q hK => ?_) ?_
                rotate_left
                · (go_step; exact hK)
                refine T_light (a' := ?_) 127 rfl rfl rfl (of_decide_eq_true rfl) rfl hHeld (fun wq hSq K Q hK => ?_) ?_
                rotate_left
                · ((have r1 := hSq; go_step); exact hK)
                refine T_light (a' := ?_) 128 rfl rfl rfl (of_decide_eq_true rfl) rfl hHeld (fun wq hSq K Q hK => ?_) ?_
                rotate_left
                · (go_step; exact hK)
                refine T_light (a' := ?_) 129 rfl rfl rfl (of_decide_eq_true rfl) rfl hHeld (fun wq hSq K Q hK => ?_) ?_
                rotate_left
                · (go_step; exact hK)
                refine T_light (a' := ?_) 130 rfl rfl rfl (of_decide_eq_true rfl) rfl hHeld (fun wq hSq K Q hK => ?_) ?_
                rotate_left
                · (go_step; exact hK)
                refine T_pass2 (a' := ?_) 131 rfl rfl (by kernel_rfl) (fun K hK => ?_) ?_
                rotate_left
                · (simp only [Act.put, List.setIfInBounds_toArray, List.set_cons_zero, List.set_cons_succ]; exact hK)
                refine T_pass2 (a' := ?_) 132 rfl rfl (by kernel_rfl) (fun K hK => ?_) ?_
                rotate_left
                · (simp only [Act.put, List.setIfInBounds_toArray, List.set_cons_zero, List.set_cons_succ]; exact hK)
                refine T_pass2 (a' := ?_) 133 rfl rfl (by kernel_rfl) (fun K hK => ?_) ?_
                rotate_left
                · (simp only [Act.put, List.setIfInBounds_toArray, List.set_cons_zero, List.set_cons_succ]; exact hK)
                refine T_pass2 (a' := ?_) 134 rfl rfl (by kernel_rfl) (fun K hK => ?_) ?_
                rotate_left
                · (simp only [Act.put, List.setIfInBounds_toArray, List.set_cons_zero, List.set_cons_succ]; exact hK)
                refine T_pass2 (a' := ?_) 135 rfl rfl (by kernel_rfl) (fun K hK => ?_) ?_
                rotate_left
                · (simp only [Act.put, List.setIfInBounds_toArray, List.set_cons_zero, List.set_cons_succ]; exact hK)
                refine T_pass2 (a' := ?_) 136 rfl rfl (by kernel_rfl) (fun K hK => ?_) ?_
                rotate_left
                · (simp only [Act.put, List.setIfInBounds_toArray, List.set_cons_zero, List.set_cons_succ]; exact hK)
                refine T_pass2 (a' := ?_) 137 rfl rfl (by kernel_rfl) (fun K hK => ?_) ?_
                rotate_left
                · (simp only [Act.put, List.setIfInBounds_toArray, List.set_cons_zero, List.set_cons_succ]; exact hK)
                refine T_pass2 (a' := ?_) 138 rfl rfl (by kernel_rfl) (fun K hK => ?_) ?_
                rotate_left
                · (simp only [Act.put, List.setIfInBounds_toArray, List.set_cons_zero, List.set_cons_succ]; exact hK)
                refine T_pass2 (a' := ?_) 139 rfl rfl (by kernel_rfl) (fun K hK => ?_) ?_
                rotate_left
                · (simp only [Act.put, List.setIfInBounds_toArray, List.set_cons_zero, List.set_cons_succ]; exact hK)
                refine T_light (a' := ?_) 140 rfl rfl rfl (of_decide_eq_true rfl) rfl hHeld (fun wq hSq K Q hK => ?_) ?_
                rotate_left
                · (go_step; exact hK)
                refine T_light (a' := ?_) 141 rfl rfl rfl (of_decide_eq_true rfl) rfl hHeld (fun wq hSq K Q hK => ?_) ?_
                rotate_left
                · (go_step; exact hK)
                refine T_call own8 142 [] rfl rfl rfl rfl rfl ?_
                refine (alive_any _).mono ?_; rintro e w9 ⟨rfl, hb9⟩; have HB9 := Lib.hid (HB15D.out.trans (hb9.mono HB15D.out.size)); have hHeld := show w9.cell? (x.add i) = some (.int .u8 0) from (hb9.cell (World.block_lt_of_cell? _ _ hHeld)).trans hHeld; clear hb9
                refine ⟨_, rfl, hHeld, ?_⟩
                simp only [Act.put, List.setIfInBounds_toArray, List.set_cons_zero, List.set_cons_succ]
                refine T_light (a' := ?_) 143 rfl rfl rfl (of_decide_eq_true rfl) rfl hHeld (fun wq hSq K Q hK => ?_) ?_
                rotate_left
                · (go_step; exact hK)
                refine T_light (a' := ?_) 8 rfl rfl rfl (of_decide_eq_true rfl) rfl hHeld (fun wq hSq K Q hK => ?_) ?_
                rotate_left
                · (go_step; exact hK)
                refine T_done ?_
                clear hHeld
                go_wp2_with fail
                go_ret
                exact ⟨rfl, HB2.out.drew.trans (HB9.out.mono HB2.out.drew.size)⟩
              · have ez : (rd l (i : Int) == 0) = false := by rw [beq_eq_false_iff_ne]; exact hz
                have ez2 : decide (rd l (i : Int) = 0) = false := decide_eq_false hz
                have hne := code_ne l (fun y hy => (HL.out.bytes y hy).1) hij (by rw [HLN.out.1]; exact HIJ.out.1) (by rw [HLN.out.1]; exact HIJ.out.2) hz
                have qn : ∀ w, (binOp .neq 31 (.agg #[.int .u32 ((codeAt l i).1 : Nat), .int .u8 ((codeAt l i).2 : Nat)]) (.agg #[.int .u32 ((codeAt l j).1 : Nat), .int .u8 ((codeAt l j).2 : Nat)])).run Try.prog w = .ok (.bool true) w := fun w => by rw [neq31, nt_code hne]; rfl
                have HCI := Lib.hid hci
                clear hci hz hij hne
                have hHeld : w15.drew.drew.cell? (x.add i) = some (.int .u8 (rd l (i : Int))) ∧ w15.drew.drew.cell? ⟨B, i * 2, none⟩ = some (.int .u32 ((codeAt l i).1 : Nat)) ∧ w15.drew.drew.cell? ⟨B, i * 2 + 1, none⟩ = some (.int .u8 ((codeAt l i).2 : Nat)) ∧ w15.drew.drew.cell? ⟨B, j * 2, none⟩ = some (.int .u32 ((codeAt l j).1 : Nat)) ∧ w15.drew.drew.cell? ⟨B, j * 2 + 1, none⟩ = some (.int .u8 ((codeAt l j).2 : Nat)) := ⟨HCI.out, HCB.out.1, HCB.out.2, HCJ.out.1, HCJ.out.2⟩
                refine wp_region_T (fun w' => w'.cell? (x.add i) = some (.int .u8 (rd l (i : Int))) ∧ w'.cell? ⟨B, i * 2, none⟩ = some (.int .u32 ((codeAt l i).1 : Nat)) ∧ w'.cell? ⟨B, i * 2 + 1, none⟩ = some (.int .u8 ((codeAt l i).2 : Nat)) ∧ w'.cell? ⟨B, j * 2, none⟩ = some (.int .u32 ((codeAt l j).1 : Nat)) ∧ w'.cell? ⟨B, j * 2 + 1, none⟩ = some (.int .u8 ((codeAt l j).2 : Nat))) [.take 0, .take 1, .take 2, .take 3, .take 4, .take 5, .take 6, .take 7, .take 8, .take 9, .take 10, .take 11, .take 12, .take 13, .take 14, .take 15, .take 16, .take 17, .take 18, .take 19, .take 20, .take 21, .go 22, .take 23, .take 24] (by kernel_rfl) (by kernel_rfl) (fun _ _ _ _ _ h => h) hHeld ?_
                refine T_light (a' := ?_) 120 rfl rfl rfl (of_decide_eq_true rfl) rfl hHeld (fun wq hSq K Q hK => ?_) ?_
                rotate_left
                · (go_step; exact hK)
                refine T_light (a' := ?_) 121 rfl rfl rfl (of_decide_eq_true rfl) rfl hHeld (fun wq hSq K Q hK => ?_) ?_
                rotate_left
                · (go_step; exact hK)
                refine T_light (a' := ?_) 122 rfl rfl rfl (of_decide_eq_true rfl) rfl hHeld (fun wq hSq K Q hK => ?_) ?_
                rotate_left
                · (go_step; exact hK)
                refine T_light (a' := ?_) 123 rfl rfl rfl (of_decide_eq_true rfl) rfl hHeld (fun wq hSq K Q hK => ?_) ?_
                rotate_left
                · (go_step; exact hK)
                refine T_light (a' := ?_) 124 rfl rfl rfl (of_decide_eq_true rfl) rfl hHeld (fun wq hSq K Q hK => ?_) ?_
                rotate_left
                · (go_step; exact hK)
                refine T_light (a' := ?_) 125 rfl rfl rfl (of_decide_eq_true rfl) rfl hHeld (fun wq hSq K Q hK => ?_) ?_
                rotate_left
                · (go_step; exact hK)
                refine T_light (a' := ?_) 126 rfl rfl rfl (of_decide_eq_true rfl) rfl hHeld (fun wq hSq K Q hK => ?_) ?_
                rotate_left
                · (go_step; exact hK)
                refine T_light (a' := ?_) 127 rfl rfl rfl (of_decide_eq_true rfl) rfl hHeld (fun wq hSq K Q hK => ?_) ?_
                rotate_left
                · ((have r1 := hSq.1; go_step); exact hK)
                refine T_light (a' := ?_) 128 rfl rfl rfl (of_decide_eq_true rfl) rfl hHeld (fun wq hSq K Q hK => ?_) ?_
                rotate_left
                · (go_step; exact hK)
                refine T_light (a' := ?_) 129 rfl rfl rfl (of_decide_eq_true rfl) rfl hHeld (fun wq hSq K Q hK => ?_) ?_
                rotate_left
                · (go_step; exact hK)
                refine T_light (a' := ?_) 130 rfl rfl rfl (of_decide_eq_true rfl) rfl hHeld (fun wq hSq K Q hK => ?_) ?_
                rotate_left
                · (go_step; exact hK)
                refine T_light (a' := ?_) 131 rfl rfl rfl (of_decide_eq_true rfl) rfl hHeld (fun wq hSq K Q hK => ?_) ?_
                rotate_left
                · (go_step; exact hK)
                refine T_light (a' := ?_) 132 rfl rfl rfl (of_decide_eq_true rfl) rfl hHeld (fun wq hSq K Q hK => ?_) ?_
                rotate_left
                · (go_step; exact hK)
                refine T_light (a' := ?_) 133 rfl rfl rfl (of_decide_eq_true rfl) rfl hHeld (fun wq hSq K Q hK => ?_) ?_
                rotate_left
                · (go_step; exact hK)
                refine T_light (a' := ?_) 134 rfl rfl rfl (of_decide_eq_true rfl) rfl hHeld (fun wq hSq K Q hK => ?_) ?_
                rotate_left
                · ((obtain ⟨_, r1, r2, _, _⟩ := hSq; go_step); exact hK)
                refine T_light (a' := ?_) 135 rfl rfl rfl (of_decide_eq_true rfl) rfl hHeld (fun wq hSq K Q hK => ?_) ?_
                rotate_left
                · (go_step; exact hK)
                refine T_light (a' := ?_) 136 rfl rfl rfl (of_decide_eq_true rfl) rfl hHeld (fun wq hSq K Q hK => ?_) ?_
                rotate_left
                · (go_step; exact hK)
                refine T_light (a' := ?_) 137 rfl rfl rfl (of_decide_eq_true rfl) rfl hHeld (fun wq hSq K Q hK => ?_) ?_
                rotate_left
                · (go_step; exact hK)
                refine T_light (a' := ?_) 138 rfl rfl rfl (of_decide_eq_true rfl) rfl hHeld (fun wq hSq K Q hK => ?_) ?_
                rotate_left
                · ((obtain ⟨_, _, _, r1, r2⟩ := hSq; go_step); exact hK)
                refine T_light (a' := ?_) 139 rfl rfl rfl (of_decide_eq_true rfl) rfl hHeld (fun wq hSq K Q hK => ?_) ?_
                rotate_left
                · (go_step; exact hK)
                refine T_light (a' := ?_) 140 rfl rfl rfl (of_decide_eq_true rfl) rfl hHeld (fun wq hSq K Q hK => ?_) ?_
                rotate_left
                · (go_step; exact hK)
                refine T_light (a' := ?_) 141 rfl rfl rfl (of_decide_eq_true rfl) rfl hHeld (fun wq hSq K Q hK => ?_) ?_
                rotate_left
                · (go_step; exact hK)
                refine T_call own8 142 [] rfl rfl rfl rfl rfl ?_
                refine (alive_any _).mono ?_; rintro e w9 ⟨rfl, hb9⟩; have HB9 := Lib.hid (HB15D.out.trans (hb9.mono HB15D.out.size)); have hHeld := show w9.cell? (x.add i) = some (.int .u8 (rd l (i : Int))) ∧ w9.cell? ⟨B, i * 2, none⟩ = some (.int .u32 ((codeAt l i).1 : Nat)) ∧ w9.cell? ⟨B, i * 2 + 1, none⟩ = some (.int .u8 ((codeAt l i).2 : Nat)) ∧ w9.cell? ⟨B, j * 2, none⟩ = some (.int .u32 ((codeAt l j).1 : Nat)) ∧ w9.cell? ⟨B, j * 2 + 1, none⟩ = some (.int .u8 ((codeAt l j).2 : Nat)) from ⟨(hb9.cell (World.block_lt_of_cell? _ _ hHeld.1)).trans hHeld.1, (hb9.cell (World.block_lt_of_cell? _ _ hHeld.2.1)).trans hHeld.2.1, (hb9.cell (World.block_lt_of_cell? _ _ hHeld.2.2.1)).trans hHeld.2.2.1, (hb9.cell (World.block_lt_of_cell? _ _ hHeld.2.2.2.1)).trans hHeld.2.2.2.1, (hb9.cell (World.block_lt_of_cell? _ _ hHeld.2.2.2.2)).trans hHeld.2.2.2.2⟩; clear hb9
                refine ⟨_, rfl, hHeld, ?_⟩
                simp only [Act.put, List.setIfInBounds_toArray, List.set_cons_zero, List.set_cons_succ]
                refine T_light (a' := ?_) 143 rfl rfl rfl (of_decide_eq_true rfl) rfl hHeld (fun wq hSq K Q hK => ?_) ?_
                rotate_left
                · (go_step; exact hK)
                refine T_light (a' := ?_) 8 rfl rfl rfl (of_decide_eq_true rfl) rfl hHeld (fun wq hSq K Q hK => ?_) ?_
                rotate_left
                · (go_step; exact hK)
                refine T_done ?_
                clear hHeld
                go_wp2_with fail
                go_ret
                exact ⟨rfl, HB2.out.drew.trans (HB9.out.mono HB2.out.drew.size)⟩
end Go.Proofs.Ytogpjdiammecjaa
