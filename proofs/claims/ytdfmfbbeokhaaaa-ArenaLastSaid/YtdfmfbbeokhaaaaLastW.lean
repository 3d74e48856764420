/-
  What ArenaLast comes to (a walk).
-/
import Derived.Test.YtdfmfbbeokhaaaaC
import Derived.Deep.WholeRow
set_option linter.unusedSimpArgs false
set_option linter.unusedVariables false
namespace Go.Proofs.Ytdfmfbbeokhaaaa
open Go.RowKit

theorem last_heavy (n at_ : Nat) (A : Option Addr) (c : Nat) (cs : List Cl) (w : World) (h : CallsAt w A cs) (hs : Short cs) (hl : cs.length ≤ 140737488351232) (hh : heavyB cs = true) :
    Calls Try.prog 4 #[.int .u8 (n : Nat), .slice A cs.length c, .int .u8 (at_ : Nat)] w fun e w' => e = .returned (.bool true) ∧ Below w.heap.size w w' := by
  have H7 := heavy_any w A c cs h hs hl
  rw [hh] at H7
  clear h hs hl hh
  go_enter Try.func4, Try.ntmps4
  go_wp2_with fail
  refine H7.mono ?_
  rintro e w1 ⟨rfl, rfl⟩
  clear H7
  go_wp2_with fail
  refine (alive_ok _).mono ?_
  rintro e w2 ⟨rfl, hb⟩
  go_wp2_with fail
  go_ret
  exact ⟨rfl, hb⟩
theorem put_at (L : List Nat) (a : Nat) (M : List Nat) (h : a + M.length ≤ L.length) (j : Nat) : (put L a M)[j]? = if a ≤ j ∧ j < a + M.length then M[j - a]? else L[j]? := by
  unfold put
  have hl : (L.take a).length = a := by simp; omega
  by_cases h1 : j < a
  · rw [if_neg (by omega), List.getElem?_append_left (by omega), List.getElem?_take_of_lt h1]
  · rw [List.getElem?_append_right (by omega), hl]
    by_cases h2 : j - a < M.length
    · rw [if_pos (by omega), List.getElem?_append_left h2]
    · rw [if_neg (by omega), List.getElem?_append_right (by omega), List.getElem?_drop]
      congr 1
      omega
/-- between two calls: the arena, and what byte k is -/
def LastR (w0 : World) (A B size k i x : Nat) (w : World) : Prop :=
  ∃ L r wr by_, Ar w A B L r wr by_ ∧ L.length = size ∧ L[k]? = some x ∧ r ≤ i ∧ wr ≤ i ∧ by_ ≤ 256 * i ∧ Below w0.heap.size w0 w
theorem one_text (w : World) (x : Nat) (hx : x < 256) : (convert 45 9 (.slice (some ⟨w.heap.size, 0, none⟩) 1 1)).run Try.prog (w.alloc (.cells #[.int .u8 (x : Nat)] 5)) = .ok (.string (textOf [x])) (w.alloc (.cells #[.int .u8 (x : Nat)] 5)) :=
  string_of_row 45 9 5 Try.underlying45 Try.underlying5 Try.underlying9 1 1 [x] (by simpa using hx) rfl (fun j m hj => by
    cases j with
    | zero =>
      simp at hj
      subst hj
      rw [cell_of_row _ _ _ _ _ _ (heap_alloc_last w _)]
      rfl
    | succ j => simp at hj)
/-- the rest of a round, behind the write -/
theorem sub_one (L : List Nat) (k x : Nat) (h : L[k]? = some x) : sub_ L k 1 = [x] := by
  have hk := (List.getElem?_eq_some_iff.1 h).1
  have he := (List.getElem?_eq_some_iff.1 h).2
  rw [sub_, List.drop_eq_getElem_cons hk]
  simp [he]

theorem str_at (s : ByteArray) (j x : Nat) (h : (byteL s)[j]? = some x) (W : World) : (Instr.index 9 (.string s) (.int .i64 (j : Nat))).run Try.prog W = .ok (.int .u8 (x : Nat)) W := by
  have hj : j < s.size := by have := (List.getElem?_eq_some_iff.1 h).1; rw [byteL_length] at this; exact this
  have hj2 : j < s.data.size := hj
  have hx : (s[j]'hj).toNat = x := by
    simp only [byteL, List.getElem?_map, Array.getElem?_toList, Array.getElem?_eq_getElem hj2, Option.map_some, Option.some.injEq] at h
    exact h
  rw [run_index_string W 9 s .i64 (j : Int) Try.underlying9]
  simp [hj, hx]
/-- behind the write: the arena, what byte k is, and the call's own block -/
def After (w0 : World) (A B size k i x blk : Nat) (vs : Array Value) (w : World) : Prop :=
  ∃ L r wr by_, Ar w A B L r wr by_ ∧ L.length = size ∧ L[k]? = some x ∧ r ≤ i ∧ wr ≤ i + 1 ∧ by_ ≤ 256 * (i + 1) ∧ Below w0.heap.size w0 w ∧ w.heap[blk]? = some (.cells vs 33 (0, 0))
theorem last_write_no {w0 wr_ : World} {A B size k i x : Nat} (h : LastR w0 A B size k i x wr_) (hsz : size ≤ 256) (vs : Array Value) (at_ : Int) (s : ByteArray) (hno : ¬ (0 ≤ at_ ∧ at_ + s.size ≤ (size : Int))) :
    Calls Try.prog 12 #[.pointer (some ⟨A, 0, none⟩), .int .i64 at_, .string s] (wr_.alloc (.cells vs 33)) fun e w' => e = .returned (.int .i64 2) ∧ After w0 A B size k i x wr_.heap.size vs w' := by
  obtain ⟨L, r, wr, by_, hA, hL, hx, h1, h2, h3, hb⟩ := h
  refine (write_err (hA.alloc _) (by omega) at_ s (by rw [hL]; exact hno)).mono ?_
  rintro e w' ⟨rfl, hbw⟩
  exact ⟨rfl, L, r, wr, by_, (hA.alloc _).below hbw, hL, hx, h1, by omega, by omega, (hb.alloc hb.size _).trans (hbw.mono (by have := hb.size; simp; omega)), (hbw.block _ (by simp)).trans (heap_alloc_last wr_ _)⟩
theorem last_write_yes {w0 wr_ : World} {A B size k i x x' : Nat} (h : LastR w0 A B size k i x wr_) (hA0 : w0.heap.size ≤ A) (hB0 : w0.heap.size ≤ B) (hsz : size ≤ 256) (hi : i ≤ 200) (vs : Array Value) (m : Nat) (s : ByteArray) (hyes : m + s.size ≤ size)
    (hx' : (if m ≤ k ∧ k < m + s.size then (byteL s)[k - m]? else some x) = some x') :
    Calls Try.prog 12 #[.pointer (some ⟨A, 0, none⟩), .int .i64 (m : Nat), .string s] (wr_.alloc (.cells vs 33)) fun e w' => e = .returned (.int .i64 0) ∧ After w0 A B size k i x' wr_.heap.size vs w' := by
  obtain ⟨L, r, wr, by_, hA, hL, hx, h1, h2, h3, hb⟩ := h
  have hlA := row_lt hA.head
  have hlB := row_lt hA.row
  refine (write_ok (hA.alloc _) m s (by rw [hL]; exact hyes) (by omega) (by omega) (by omega) (by omega)).mono ?_
  rintro e w' ⟨rfl, hA', hbw⟩
  refine ⟨rfl, put L m (byteL s), r, wr + 1, by_ + s.size, hA', ?_, ?_, h1, by omega, by omega, ?_, ?_⟩
  · rw [put_length _ _ _ (by rw [byteL_length, hL]; exact hyes), hL]
  · rw [put_at _ _ _ (by rw [byteL_length, hL]; exact hyes), byteL_length, ← hx', hx]
  · exact Beside.to_below (hb.alloc hb.size _) hbw (by
      intro q hq
      simp at hq
      rcases hq with rfl | rfl <;> assumption)
  · exact (hbw.block _ (by simp) (by simp; omega)).trans (heap_alloc_last wr_ _)
theorem last_read {w0 w : World} {A B size k i x blk : Nat} {vs : Array Value} (h : After w0 A B size k i x blk vs w) (hA0 : w0.heap.size ≤ A) (hsz : size ≤ 256) (hk : k < size) (hi : i ≤ 200) :
    Calls Try.prog 14 #[.pointer (some ⟨A, 0, none⟩), .int .i64 (k : Nat), .int .i64 1] w fun e w' => e = .returned (.tuple #[.string (textOf [x]), .int .i64 0]) ∧ LastR w0 A B size k (i + 1) x w' ∧ x < 256 := by
  obtain ⟨L, r, wr, by_, hA, hL, hx, h1, h2, h3, hb, _⟩ := h
  have := read_ok hA k 1 (by omega) (by omega) (by omega)
  rw [sub_one L k x hx] at this
  refine this.mono ?_
  rintro e w' ⟨rfl, hA', hbw⟩
  exact ⟨rfl, ⟨L, r + 1, wr, by_, hA', hL, hx, by omega, by omega, by omega, Beside.to_below hb hbw (by intro q hq; simp at hq; subst hq; exact hA0)⟩, hA.bytes x (List.mem_of_getElem? hx)⟩
theorem w_succ (i : Nat) (h : i ≤ 200) : wrap64 ((i : Int) + 1) = (i : Int) + 1 := by unfold wrap64; omega
theorem w_sub (a b : Int) (h0 : 0 ≤ b) (h1 : 0 ≤ a) (h2 : a ≤ 256) (h3 : b ≤ 256) : wrap64 (a - b) = a - b := by unfold wrap64; omega
theorem no_fit {a s z : Int} (h : ¬ (0 ≤ a ∧ a + s ≤ z)) (h0 : 0 ≤ a) : ¬ s ≤ z - a := by omega
theorem eq_step {i g n : Nat} (h : i + (g + 1) = n) : i + 1 + g = n := by omega
theorem fit_nat {m s z : Nat} (h : (m : Int) + (s : Int) ≤ (z : Int)) : m + s ≤ z := by omega
theorem fit_int {m s z : Nat} (h : m + s ≤ z) : (s : Int) ≤ (z : Int) - (m : Int) := by omega
theorem in_rng {m k s : Nat} (h : m ≤ k) (h2 : k - m < s) : k < m + s := by omega
theorem out_rng {m k s : Nat} (h : m ≤ k) (h2 : k < m + s) : k - m < s := by omega
theorem LastR.grow {w0 w : World} {A B size k i x : Nat} (h : LastR w0 A B size k i x w) (o : Obj) : LastR w0 A B size k i x (w.alloc o) := by
  obtain ⟨L, r, wr, by_, hA, hL, hx, h1, h2, h3, hb⟩ := h
  exact ⟨L, r, wr, by_, hA.alloc _, hL, hx, h1, h2, h3, hb.alloc hb.size _⟩

set_option maxHeartbeats 4000000 in
set_option maxRecDepth 100000 in
theorem last_light (n at_ : Nat) (A : Option Addr) (c : Nat) (cs : List Cl) (w : World) (h : CallsAt w A cs) (hs : Short cs) (hl : cs.length ≤ 140737488351232) (hh : heavyB cs = false) (hn : n < 256) (hat : at_ < 256) :
    Calls Try.prog 4 #[.int .u8 (n : Nat), .slice A cs.length c, .int .u8 (at_ : Nat)] w fun e w' => e = .returned (.bool true) ∧ Below w.heap.size w w' := by
  have H7 := heavy_any w A c cs h hs hl
  rw [hh] at H7
  have H := Lib.hid h
  have HS := Lib.hid hs
  have HL : Hid (cs.length ≤ 200) := Lib.hid (by
    unfold heavyB at hh
    simp at hh
    omega)
  have HN := Lib.hid hn
  have HAT := Lib.hid hat
  have e1 : wrap64 (n : Int) = (n : Int) := by unfold wrap64; omega
  obtain ⟨sz, hsz⟩ : ∃ sz : Nat, sz = n + 1 := ⟨_, rfl⟩
  obtain ⟨kk, hkk⟩ : ∃ kk : Nat, kk = at_ % sz := ⟨_, rfl⟩
  have hk : kk < sz := by rw [hkk]; exact Nat.mod_lt _ (by omega)
  have e2 : wrap64 ((1 : Int) + (n : Int)) = (sz : Int) := by unfold wrap64; omega
  have e3 : wrap64 (at_ : Int) = (at_ : Int) := by unfold wrap64; omega
  have e4 : ¬ (sz : Int) = 0 := by omega
  have e4' : ((sz : Int) == 0) = false := by rw [beq_eq_false_iff_ne]; omega
  have e5 : Int.tmod (at_ : Int) (sz : Int) = (kk : Int) := by
    rw [Int.tmod_eq_emod_of_nonneg (by omega), hkk]; simp
  have HK := Lib.hid hk
  have HSZ : Hid (sz ≤ 256) := Lib.hid (by omega)
  have H9 := fun w1 => new_ok sz w1 (by omega)
  clear h hs hl hh hn hat hk hkk hsz
  go_enter Try.func4, Try.ntmps4
  go_wp2_with fail
  refine H7.mono ?_
  rintro e w1 ⟨rfl, rfl⟩
  clear H7
  go_wp2_with fail
  refine (H9 _).mono ?_
  rintro e w1 ⟨BA, BB, rfl, hA, hb, hA0, hB0⟩
  clear H9
  have HA := Lib.hid hA
  have HB := Lib.hid hb
  have HA0 := Lib.hid hA0
  have HB0 := Lib.hid hB0
  clear hA hb hA0 hB0
  go_wp2_with fail
  (try simp only [e1, e2, e3, e5])
  go_loopg [11, 12] cs.length (fun g s11 s12 wx => ∃ (i x : Nat), i + g = cs.length ∧ s12 = .int .i64 i ∧ s11 = .int .u8 (x : Nat) ∧ Hid (LastR w BA BB sz kk i x wx))
  case atStart => exact ⟨0, 0, by omega, rfl, rfl, Lib.hid ⟨_, 0, 0, 0, HA.out, by simp, by rw [List.getElem?_replicate, if_pos HK.out], by omega, by omega, by omega, HB.out⟩⟩
  case round =>
    obtain ⟨i, x, hig, rfl, rfl, hR⟩ := hrel
    clear HA
    cases gk with
    | zero =>
      have d1 : decide (i < cs.length) = false := by rw [decide_eq_false_iff_not]; omega
      have d2 : decide ((i : Int) < (cs.length : Int)) = false := by rw [decide_eq_false_iff_not]; omega
      clear hig
      go_wp2_with fail
      refine (alive_ok _).mono ?_
      rintro e w2 ⟨rfl, hb2⟩
      go_wp2_with fail
      go_ret
      obtain ⟨L, r, wr_, by_, _, _, _, _, _, _, hb3⟩ := hR.out
      exact ⟨rfl, hb3.trans (hb2.mono hb3.size)⟩
    | succ g =>
      have hi : i < cs.length := by omega
      have d1 : decide (i < cs.length) = true := by rw [decide_eq_true_eq]; omega
      have d2 : decide ((i : Int) < (cs.length : Int)) = true := by rw [decide_eq_true_eq]; omega
      have hbw : Below w.heap.size w wr := by obtain ⟨_, _, _, _, _, _, _, _, _, _, hb⟩ := hR.out; exact hb
      obtain ⟨ad, x0, rfl, hx0, q0, q1, q2, q3⟩ := (H.out.below hbw).get hi
      have HSX := Lib.hid (HS.out x0 (List.mem_of_getElem? hx0))
      have HI : Hid (i ≤ 200) := Lib.hid (Nat.le_trans (Nat.le_of_lt hi) HL.out)
      have e6 := w_succ i HI.out
      have hg := Lib.hid hig
      obtain ⟨dd, aa, nn, ss⟩ := x0
      simp only at q0 q1 q2 q3 HSX
      clear hx0 hbw hig
      obtain ⟨vs, hvs⟩ : ∃ vs : Array Value, vs = #[.int .u8 (dd : Nat), .int .i64 aa, .int .i64 nn, .string ss] := ⟨_, rfl⟩
      by_cases hf : 0 ≤ aa ∧ aa + ss.size ≤ (sz : Int)
      · obtain ⟨m, rfl⟩ : ∃ m : Nat, aa = (m : Int) := ⟨aa.toNat, (Int.toNat_of_nonneg hf.1).symm⟩
        have hms : m + ss.size ≤ sz := fit_nat hf.2
        have b1 : decide ((0 : Int) ≤ (m : Int)) = true := by rw [decide_eq_true_eq]; exact hf.1
        have b2 : decide ((m : Int) ≤ (sz : Int)) = true := by rw [decide_eq_true_eq]; exact Int.ofNat_le.2 (Nat.le_trans (Nat.le_add_right _ _) hms)
        have b2' : decide (m ≤ sz) = true := by rw [decide_eq_true_eq]; exact Nat.le_trans (Nat.le_add_right _ _) hms
        have b3 : decide ((ss.size : Int) ≤ (sz : Int) - (m : Int)) = true := by rw [decide_eq_true_eq]; exact fit_int hms
        have ew := w_sub (sz : Int) (m : Int) (Int.natCast_nonneg _) (Int.natCast_nonneg _) (Int.ofNat_le.2 HSZ.out) (Int.ofNat_le.2 (Nat.le_trans (Nat.le_trans (Nat.le_add_right _ _) hms) HSZ.out))
        have ew2 := w_sub (kk : Int) (m : Int) (Int.natCast_nonneg _) (Int.natCast_nonneg _) (Int.ofNat_le.2 (Nat.le_trans (Nat.le_of_lt HK.out) HSZ.out)) (Int.ofNat_le.2 (Nat.le_trans (Nat.le_trans (Nat.le_add_right _ _) hms) HSZ.out))
        by_cases r1 : m ≤ kk
        · have c1 : decide ((m : Int) ≤ (kk : Int)) = true := by rw [decide_eq_true_eq]; exact Int.ofNat_le.2 r1
          have c1' : decide (m ≤ kk) = true := by rw [decide_eq_true_eq]; exact r1
          have es : (kk : Int) - (m : Int) = ((kk - m : Nat) : Int) := (Int.ofNat_sub r1).symm
          replace ew2 := ew2.trans es
          by_cases r2 : kk - m < ss.size
          · have c2 : decide (((kk - m : Nat) : Int) < (ss.size : Int)) = true := by rw [decide_eq_true_eq]; exact Int.ofNat_lt.2 r2
            have c2' : decide (kk - m < ss.size) = true := by rw [decide_eq_true_eq]; exact r2
            obtain ⟨x', hx'⟩ : ∃ x', (byteL ss)[kk - m]? = some x' := ⟨_, List.getElem?_eq_getElem (by rw [byteL_length]; exact r2)⟩
            have hix := str_at ss (kk - m) x' hx'
            have hW := last_write_yes (x' := x') hR.out HA0.out HB0.out HSZ.out HI.out vs m ss hms (by rw [if_pos ⟨r1, in_rng r1 r2⟩]; exact hx')
            clear hR
            rw [hvs] at hW
            try clear hf hms r1 r2 es
            try clear r2
            try clear hf hms r1
            go_wp2_with fail
            refine hW.mono ?_
            rintro e w2 ⟨rfl, hAf⟩
            clear hW
            have hrow : w2.heap[wr.heap.size]? = some (.cells #[.int .u8 (dd : Nat), .int .i64 (m : Nat), .int .i64 nn, .string ss] 33 (0, 0)) := by
              obtain ⟨_, _, _, _, _, _, _, _, _, _, _, hr⟩ := hAf
              exact hr
            have k1 : w2.cell? ⟨wr.heap.size, 1, none⟩ = some (.int .i64 (m : Nat)) := by rw [cell_of_row _ _ _ _ _ _ hrow]; rfl
            have k3 : w2.cell? ⟨wr.heap.size, 3, none⟩ = some (.string ss) := by rw [cell_of_row _ _ _ _ _ _ hrow]; rfl
            have HAf := Lib.hid hAf
            clear hrow hAf q0 q1 q2 q3 hvs
            have hrd := Lib.hid (last_read HAf.out HA0.out HSZ.out HK.out HI.out)
            go_wp2_with fail
            refine hrd.out.mono ?_
            rintro e w3 ⟨rfl, hR3, hx3⟩
            have hcv := one_text w3 x' hx3
            have HR3 := Lib.hid (hR3.grow (.cells #[.int .u8 (x' : Nat)] 5))
            clear hR3 hx3 hrd HAf
            go_wp2_with fail
            (try simp only [e6])
            go_roundg g
            case measure => omega
            case rel => exact ⟨i + 1, x', eq_step hg.out, by first | go_num | (rw [e6]; go_num), rfl, HR3⟩
          · have c2 : decide (((kk - m : Nat) : Int) < (ss.size : Int)) = false := by rw [decide_eq_false_iff_not]; exact fun h => r2 (Int.ofNat_lt.1 h)
            have c2' : decide (kk - m < ss.size) = false := by rw [decide_eq_false_iff_not]; exact r2
            have hW := last_write_yes (x' := x) hR.out HA0.out HB0.out HSZ.out HI.out vs m ss hms (by rw [if_neg (fun h => r2 (out_rng r1 h.2))])
            clear hR
            rw [hvs] at hW
            try clear hf hms r1 r2 es
            try clear r2
            try clear hf hms r1
            go_wp2_with fail
            refine hW.mono ?_
            rintro e w2 ⟨rfl, hAf⟩
            clear hW
            have hrow : w2.heap[wr.heap.size]? = some (.cells #[.int .u8 (dd : Nat), .int .i64 (m : Nat), .int .i64 nn, .string ss] 33 (0, 0)) := by
              obtain ⟨_, _, _, _, _, _, _, _, _, _, _, hr⟩ := hAf
              exact hr
            have k1 : w2.cell? ⟨wr.heap.size, 1, none⟩ = some (.int .i64 (m : Nat)) := by rw [cell_of_row _ _ _ _ _ _ hrow]; rfl
            have k3 : w2.cell? ⟨wr.heap.size, 3, none⟩ = some (.string ss) := by rw [cell_of_row _ _ _ _ _ _ hrow]; rfl
            have HAf := Lib.hid hAf
            clear hrow hAf q0 q1 q2 q3 hvs
            have hrd := Lib.hid (last_read HAf.out HA0.out HSZ.out HK.out HI.out)
            go_wp2_with fail
            refine hrd.out.mono ?_
            rintro e w3 ⟨rfl, hR3, hx3⟩
            have hcv := one_text w3 x hx3
            have HR3 := Lib.hid (hR3.grow (.cells #[.int .u8 (x : Nat)] 5))
            clear hR3 hx3 hrd HAf
            go_wp2_with fail
            (try simp only [e6])
            go_roundg g
            case measure => omega
            case rel => exact ⟨i + 1, x, eq_step hg.out, by first | go_num | (rw [e6]; go_num), rfl, HR3⟩
        · have c1 : decide ((m : Int) ≤ (kk : Int)) = false := by rw [decide_eq_false_iff_not]; exact fun h => r1 (Int.ofNat_le.1 h)
          have c1' : decide (m ≤ kk) = false := by rw [decide_eq_false_iff_not]; exact r1
          have hW := last_write_yes (x' := x) hR.out HA0.out HB0.out HSZ.out HI.out vs m ss hms (by rw [if_neg (fun h => r1 h.1)])
          clear hR
          rw [hvs] at hW
          try clear hf hms r1 r2 es
          try clear r2
          try clear hf hms r1
          go_wp2_with fail
          refine hW.mono ?_
          rintro e w2 ⟨rfl, hAf⟩
          clear hW
          have hrow : w2.heap[wr.heap.size]? = some (.cells #[.int .u8 (dd : Nat), .int .i64 (m : Nat), .int .i64 nn, .string ss] 33 (0, 0)) := by
            obtain ⟨_, _, _, _, _, _, _, _, _, _, _, hr⟩ := hAf
            exact hr
          have k1 : w2.cell? ⟨wr.heap.size, 1, none⟩ = some (.int .i64 (m : Nat)) := by rw [cell_of_row _ _ _ _ _ _ hrow]; rfl
          have k3 : w2.cell? ⟨wr.heap.size, 3, none⟩ = some (.string ss) := by rw [cell_of_row _ _ _ _ _ _ hrow]; rfl
          have HAf := Lib.hid hAf
          clear hrow hAf q0 q1 q2 q3 hvs
          have hrd := Lib.hid (last_read HAf.out HA0.out HSZ.out HK.out HI.out)
          go_wp2_with fail
          refine hrd.out.mono ?_
          rintro e w3 ⟨rfl, hR3, hx3⟩
          have hcv := one_text w3 x hx3
          have HR3 := Lib.hid (hR3.grow (.cells #[.int .u8 (x : Nat)] 5))
          clear hR3 hx3 hrd HAf
          go_wp2_with fail
          (try simp only [e6])
          go_roundg g
          case measure => omega
          case rel => exact ⟨i + 1, x, eq_step hg.out, by first | go_num | (rw [e6]; go_num), rfl, HR3⟩
      · have hW := last_write_no hR.out HSZ.out vs aa ss hf
        clear hR
        rw [hvs] at hW
        go_wp2_with fail
        refine hW.mono ?_
        rintro e w2 ⟨rfl, hAf⟩
        clear hW
        have hrow : w2.heap[wr.heap.size]? = some (.cells #[.int .u8 (dd : Nat), .int .i64 aa, .int .i64 nn, .string ss] 33 (0, 0)) := by
          obtain ⟨_, _, _, _, _, _, _, _, _, _, _, hr⟩ := hAf
          rw [← hvs]; rw [hvs]; exact hr
        have k1 : w2.cell? ⟨wr.heap.size, 1, none⟩ = some (.int .i64 aa) := by rw [cell_of_row _ _ _ _ _ _ hrow]; rfl
        have k3 : w2.cell? ⟨wr.heap.size, 3, none⟩ = some (.string ss) := by rw [cell_of_row _ _ _ _ _ _ hrow]; rfl
        have HAf := Lib.hid hAf
        clear hrow hAf q0 q1 q2 q3 hvs
        have hrd := Lib.hid (last_read HAf.out HA0.out HSZ.out HK.out HI.out)
        by_cases f1 : 0 ≤ aa
        · have b1 : decide (0 ≤ aa) = true := by rw [decide_eq_true_eq]; exact f1
          by_cases f2 : aa ≤ (sz : Int)
          · have b2 : decide (aa ≤ (sz : Int)) = true := by rw [decide_eq_true_eq]; exact f2
            have b3 : decide ((ss.size : Int) ≤ (sz : Int) - aa) = false := by rw [decide_eq_false_iff_not]; exact no_fit hf f1
            have ew := w_sub (sz : Int) aa f1 (Int.natCast_nonneg _) (Int.ofNat_le.2 HSZ.out) (Int.le_trans f2 (Int.ofNat_le.2 HSZ.out))
            clear hf f1 f2
            go_wp2_with fail
            refine hrd.out.mono ?_
            rintro e w3 ⟨rfl, hR3, hx3⟩
            have hcv := one_text w3 x hx3
            have HR3 := Lib.hid (hR3.grow (.cells #[.int .u8 (x : Nat)] 5))
            clear hR3 hx3 hrd HAf
            go_wp2_with fail
            (try simp only [e6])
            go_roundg g
            case measure => omega
            case rel => exact ⟨i + 1, x, eq_step hg.out, by first | go_num | (rw [e6]; go_num), rfl, HR3⟩
          · have b2 : decide (aa ≤ (sz : Int)) = false := by rw [decide_eq_false_iff_not]; exact f2
            clear hf f1 f2
            go_wp2_with fail
            refine hrd.out.mono ?_
            rintro e w3 ⟨rfl, hR3, hx3⟩
            have hcv := one_text w3 x hx3
            have HR3 := Lib.hid (hR3.grow (.cells #[.int .u8 (x : Nat)] 5))
            clear hR3 hx3 hrd HAf
            go_wp2_with fail
            (try simp only [e6])
            go_roundg g
            case measure => omega
            case rel => exact ⟨i + 1, x, eq_step hg.out, by first | go_num | (rw [e6]; go_num), rfl, HR3⟩
        · have b1 : decide (0 ≤ aa) = false := by rw [decide_eq_false_iff_not]; exact f1
          clear hf f1
          go_wp2_with fail
          refine hrd.out.mono ?_
          rintro e w3 ⟨rfl, hR3, hx3⟩
          have hcv := one_text w3 x hx3
          have HR3 := Lib.hid (hR3.grow (.cells #[.int .u8 (x : Nat)] 5))
          clear hR3 hx3 hrd HAf
          go_wp2_with fail
          (try simp only [e6])
          go_roundg g
          case measure => omega
          case rel => exact ⟨i + 1, x, eq_step hg.out, by first | go_num | (rw [e6]; go_num), rfl, HR3⟩
theorem last_all (n : Nat) (hn : n < 256) (A : Option Addr) (c : Nat) (cs : List Cl) (hs : Short cs) (hl : cs.length ≤ 140737488351232) (hf : ∀ c ∈ cs, c.do_ < 256 ∧ (-9223372036854775808 ≤ c.at_ ∧ c.at_ < 9223372036854775808) ∧ (-9223372036854775808 ≤ c.n ∧ c.n < 9223372036854775808)) (at_ : Nat) (hat : at_ < 256) (w : World) (h : CallsAt w A cs) :
    Calls Try.prog 4 #[.int .u8 (n : Nat), .slice A cs.length c, .int .u8 (at_ : Nat)] w fun e w' => e = .returned (.bool true) ∧ Below w.heap.size w w' := by
  cases hh : heavyB cs with
  | true => exact last_heavy n at_ A c cs w h hs hl hh
  | false => exact last_light n at_ A c cs w h hs hl hh hn hat
end Go.Proofs.Ytdfmfbbeokhaaaa
