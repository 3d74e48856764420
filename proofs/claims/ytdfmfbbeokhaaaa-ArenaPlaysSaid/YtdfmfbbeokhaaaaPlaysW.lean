/-
  What ArenaPlays comes to (a walk).
-/
import Derived.Test.YtdfmfbbeokhaaaaR
set_option linter.unusedSimpArgs false
set_option linter.unusedVariables false
namespace Go.Proofs.Ytdfmfbbeokhaaaa
open Go.RowKit

theorem bdrew {N : Nat} {a b : World} (h : Below N a b) : Below N a b.drew := ⟨h.os, h.tape, h.output, h.size, h.block⟩
theorem bdrewN {N : Nat} {a b : World} (h : Below N a b) (n : Nat) : Below N a (b.drewN n) := ⟨h.os, h.tape, h.output, h.size, h.block⟩
theorem own12 : Own Try.prog 12 := own_of Try.func12 (by kernel_rfl) rfl
theorem own13 : Own Try.prog 13 := own_of Try.func13 (by kernel_rfl) rfl
theorem own14 : Own Try.prog 14 := own_of Try.func14 (by kernel_rfl) rfl
theorem own15 : Own Try.prog 15 := own_of Try.func15 (by kernel_rfl) rfl
theorem w_succ' (i : Nat) (h : i ≤ 200) : wrap64 ((i : Int) + 1) = (i : Int) + 1 := by unfold wrap64; omega
theorem eq_step' {i g n : Nat} (h : i + (g + 1) = n) : i + 1 + g = n := by omega
/-- between two calls: both arenas are alike -/
def PlayR (w0 : World) (A B X n i : Nat) (w : World) : Prop :=
  ∃ L r q b, Ar w A B L r q b ∧ RefAt w X (textOf L) r q b ∧ L.length = n ∧ (r ≤ i ∧ q ≤ i ∧ b ≤ 4096 * i) ∧ Below w0.heap.size w0 w

theorem plays_alive (n : Int) (A : Option Addr) (c : Nat) (cs : List Cl) (w : World) (h : CallsAt w A cs) (hs : Short cs) (hl : cs.length ≤ 140737488351232) (hh : heavyB cs = true ∨ (4096 < n ∧ n ≤ 16777216)) :
    Calls Try.prog 3 #[.int .i64 n, .slice A cs.length c] w fun e w' => e = .returned (.bool true) ∧ Below w.heap.size w w' := by
  have H7 := heavy_any w A c cs h hs hl
  cases hv : heavyB cs with
  | true =>
    rw [hv] at H7
    clear h hs hl hh hv
    go_enter Try.func3, Try.ntmps3
    go_wp2_with fail
    refine H7.mono ?_
    rintro e w1 ⟨rfl, rfl⟩
    clear H7
    go_wp2_with fail
    refine (alive_ok _).mono ?_
    rintro e w2 ⟨rfl, hb⟩
    go_wp2_with fail
    go_ret
    exact ⟨rfl, hb⟩
  | false =>
    have hn := hh.resolve_left (by rw [hv]; simp)
    have d1 : decide ((4096 : Int) < n) = true := by rw [decide_eq_true_eq]; exact hn.1
    have d2 : decide (n ≤ 16777216) = true := by rw [decide_eq_true_eq]; exact hn.2
    rw [hv] at H7
    clear h hs hl hh hv hn
    go_enter Try.func3, Try.ntmps3
    go_wp2_with fail
    refine H7.mono ?_
    rintro e w1 ⟨rfl, rfl⟩
    clear H7
    go_wp2_with fail
    refine (alive_ok _).mono ?_
    rintro e w2 ⟨rfl, hb⟩
    go_wp2_with fail
    go_ret
    exact ⟨rfl, hb⟩
theorem plays_nil (n : Int) (A : Option Addr) (c : Nat) (cs : List Cl) (w : World) (h : CallsAt w A cs) (hs : Short cs) (hl : cs.length ≤ 140737488351232) (hv : heavyB cs = false) (hn : n < 0 ∨ 16777216 < n) :
    Calls Try.prog 3 #[.int .i64 n, .slice A cs.length c] w fun e w' => e = .returned (.bool true) ∧ Below w.heap.size w w' := by
  have H7 := heavy_any w A c cs h hs hl
  rw [hv] at H7
  have H9 : ∀ w1, Calls Try.prog 9 #[.int .i64 n] w1 fun e w' => e = .returned (.tuple #[.pointer none, .int .i64 2]) ∧ w1 = w' := fun w1 => by
    rcases hn with h | h
    · exact new_neg n w1 h
    · exact new_big n w1 h
  have H10 : ∀ w1, Calls Try.prog 10 #[.int .i64 n] w1 fun e w' => e = .returned (.pointer none) ∧ w1 = w' := fun w1 => by
    rcases hn with h | h
    · exact rnew_neg n w1 h
    · exact rnew_big n w1 h
  clear h hs hl hv
  by_cases h4 : 4096 < n
  · have d1 : decide ((4096 : Int) < n) = true := by rw [decide_eq_true_eq]; exact h4
    have d2 : decide (n ≤ 16777216) = false := by rw [decide_eq_false_iff_not]; omega
    clear hn h4
    go_enter Try.func3, Try.ntmps3
    go_wp2_with fail
    refine H7.mono ?_
    rintro e w1 ⟨rfl, rfl⟩
    clear H7
    go_wp2_with fail
    refine (H9 _).mono ?_
    rintro e w1 ⟨rfl, rfl⟩
    go_wp2_with fail
    refine (H10 _).mono ?_
    rintro e w1 ⟨rfl, rfl⟩
    clear H9 H10
    go_wp2_with fail
    refine (alive_ok _).mono ?_
    rintro e w2 ⟨rfl, hb⟩
    go_wp2_with fail
    go_ret
    exact ⟨rfl, hb⟩
  · have d1 : decide ((4096 : Int) < n) = false := by rw [decide_eq_false_iff_not]; exact h4
    clear hn h4
    go_enter Try.func3, Try.ntmps3
    go_wp2_with fail
    refine H7.mono ?_
    rintro e w1 ⟨rfl, rfl⟩
    clear H7
    go_wp2_with fail
    refine (H9 _).mono ?_
    rintro e w1 ⟨rfl, rfl⟩
    go_wp2_with fail
    refine (H10 _).mono ?_
    rintro e w1 ⟨rfl, rfl⟩
    clear H9 H10
    go_wp2_with fail
    refine (alive_ok _).mono ?_
    rintro e w2 ⟨rfl, hb⟩
    go_wp2_with fail
    go_ret
    exact ⟨rfl, hb⟩
theorem put_text (L : List Nat) (hL : ∀ x ∈ L, x < 256) (m : Nat) (s : ByteArray) (h : m + s.size ≤ L.length) :
    (textOf L).extract 0 m ++ s ++ (textOf L).extract (m + s.size) (textOf L).size = textOf (put L m (byteL s)) := by
  apply byteL_inj
  rw [byteL_textOf _ (put_lt hL (byteL_lt s)), byteL_append, byteL_append]
  have ex : ∀ a b, b ≤ L.length → byteL ((textOf L).extract a b) = (L.drop a).take (b - a) := by
    intro a b hb
    apply List.ext_getElem?
    intro j
    have hsz : (textOf L).data.size = L.length := textOf_size L
    have hd : ((textOf L).extract a b).data = (textOf L).data.extract a b := ByteArray.data_extract
    have e2 := byteL_textOf L hL
    by_cases c : j < b - a
    · have e3 : (byteL (textOf L))[a + j]? = L[a + j]? := by rw [e2]
      rw [List.getElem?_take_of_lt c, List.getElem?_drop, ← e3]
      simp only [byteL, List.getElem?_map, Array.getElem?_toList, hd, Array.getElem?_extract]
      rw [if_pos (by omega)]
    · rw [List.getElem?_eq_none (by simp only [byteL_length, ByteArray.size_extract, textOf_size]; omega), List.getElem?_eq_none (by simp; omega)]
  rw [ex 0 m (by omega), textOf_size, ex (m + s.size) L.length (Nat.le_refl _)]
  simp only [put, byteL_length, List.drop_zero, Nat.sub_zero, List.append_assoc]
  congr 2
  rw [List.take_of_length_le (by simp)]
theorem sub_text (L : List Nat) (hL : ∀ x ∈ L, x < 256) (m k : Nat) (h : m + k ≤ L.length) : (textOf L).extract m (m + k) = textOf (sub_ L m k) := by
  apply byteL_inj
  rw [byteL_textOf _ (sub_lt hL)]
  apply List.ext_getElem?
  intro j
  have hsz : (textOf L).data.size = L.length := textOf_size L
  have hd : ((textOf L).extract m (m + k)).data = (textOf L).data.extract m (m + k) := ByteArray.data_extract
  have e2 := byteL_textOf L hL
  by_cases c : j < k
  · have e3 : (byteL (textOf L))[m + j]? = L[m + j]? := by rw [e2]
    rw [sub_, List.getElem?_take_of_lt c, List.getElem?_drop, ← e3]
    simp only [byteL, List.getElem?_map, Array.getElem?_toList, hd, Array.getElem?_extract]
    rw [if_pos (by omega)]
  · rw [List.getElem?_eq_none (by simp only [byteL_length, ByteArray.size_extract, textOf_size]; omega), List.getElem?_eq_none (by rw [sub_length _ _ _ h]; omega)]

set_option maxHeartbeats 16000000 in
set_option maxRecDepth 100000 in
theorem plays_main (n : Nat) (A : Option Addr) (c : Nat) (cs : List Cl) (w : World) (h : CallsAt w A cs) (hs : Short cs) (hl : cs.length ≤ 140737488351232) (hh : heavyB cs = false) (hd : ∀ c ∈ cs, c.do_ < 256) (hn : n ≤ 4096) :
    Calls Try.prog 3 #[.int .i64 n, .slice A cs.length c] w fun e w' => e = .returned (.bool true) ∧ Below w.heap.size w w' := by
  have H7 := heavy_any w A c cs h hs hl
  rw [hh] at H7
  have H := Lib.hid h
  have HD := Lib.hid hd
  have hh2 : ¬ 4096 < sumS cs ∧ ¬ 200 < cs.length := by unfold heavyB at hh; simpa using hh
  have HL : Hid (cs.length ≤ 200) := Lib.hid (by omega)
  have HSM : Hid (∀ c ∈ cs, c.s.size ≤ 4096) := Lib.hid (fun c hc => by
    obtain ⟨i, hi, rfl⟩ := List.mem_iff_getElem.1 hc
    have e1 := sumS_take cs i cs[i] (List.getElem?_eq_getElem hi)
    have e2 := sumS_take_le cs (i + 1)
    omega)
  have HN := Lib.hid hn
  have d1 : decide ((4096 : Int) < (n : Int)) = false := by rw [decide_eq_false_iff_not]; omega
  have H9 := fun w1 => new_ok n w1 (by omega)
  have H10 := fun w1 => rnew_ok n w1 (by omega)
  clear h hs hl hh hd hn hh2
  go_enter Try.func3, Try.ntmps3
  go_wp2_with fail
  refine H7.mono ?_
  rintro e w1 ⟨rfl, rfl⟩
  clear H7
  go_wp2_with fail
  refine (H9 _).mono ?_
  rintro e w1 ⟨BA, BB, rfl, hA, hb, hA0, hB0⟩
  have HA := Lib.hid hA
  have HB := Lib.hid hb
  have HA0 := Lib.hid hA0
  have HB0 := Lib.hid hB0
  clear H9 hA hb hA0 hB0
  go_wp2_with fail
  refine (H10 _).mono ?_
  rintro e w2 ⟨X, rfl, hX, hb2, hX0⟩
  have HX0 : Hid (w.heap.size ≤ X ∧ X ≠ BA ∧ X ≠ BB) := Lib.hid (by
    have h1 := row_lt HA.out.head
    have h2 := row_lt HA.out.row
    have h3 := HB.out.size
    omega)
  have HP : Hid (PlayR w BA BB X n 0 w2) := Lib.hid ⟨_, 0, 0, 0, HA.out.below hb2, hX, by simp, ⟨Nat.le_refl _, Nat.le_refl _, Nat.le_refl _⟩, HB.out.trans (hb2.mono HB.out.size)⟩
  have hlen := len_ok (HA.out.below hb2)
  rw [List.length_replicate] at hlen
  clear H10 hX hb2 hX0 HA HB
  go_wp2_with fail
  refine hlen.mono ?_
  rintro e w3 ⟨rfl, rfl⟩
  clear hlen
  go_wp2_with fail
  go_loopg [8] cs.length (fun g s8 wx => ∃ i : Nat, i + g = cs.length ∧ s8 = .int .i64 i ∧ Hid (PlayR w BA BB X n i wx))
  case atStart => exact ⟨0, by omega, rfl, HP⟩
  case round =>
    obtain ⟨i, hig, rfl, hR⟩ := hrel
    clear HP
    cases gk with
    | zero =>
      have d1 : decide (i < cs.length) = false := by rw [decide_eq_false_iff_not]; omega
      have d2 : decide ((i : Int) < (cs.length : Int)) = false := by rw [decide_eq_false_iff_not]; omega
      clear hig
      go_wp2_with fail
      refine (alive_ok _).mono ?_
      rintro e w2 ⟨rfl, hb2⟩
      go_wp2_with fail
      go_ret
      obtain ⟨_, _, _, _, _, _, _, _, hb3⟩ := hR.out
      exact ⟨rfl, hb3.trans (hb2.mono hb3.size)⟩
    | succ g =>
      have hi : i < cs.length := by omega
      have d1 : decide (i < cs.length) = true := by rw [decide_eq_true_eq]; omega
      have d2 : decide ((i : Int) < (cs.length : Int)) = true := by rw [decide_eq_true_eq]; omega
      obtain ⟨L, r, q, b, hA, hX, hLn, hbd, hb⟩ := hR.out
      obtain ⟨ad, x0, rfl, hx0, q0, q1, q2, q3⟩ := (H.out.below hb).get hi
      have hdd := HD.out x0 (List.mem_of_getElem? hx0)
      have hss := HSM.out x0 (List.mem_of_getElem? hx0)
      have HI : i ≤ 200 := Nat.le_trans (Nat.le_of_lt hi) HL.out
      have hbnd : r ≤ 200 ∧ q ≤ 200 ∧ b ≤ 819200 := by omega
      have hg := Lib.hid hig
      obtain ⟨dd, aa, nn, ss⟩ := x0
      simp only at q0 q1 q2 q3 hdd hss
      have hw0 : ∀ p : Addr, ∀ v, w.cell? p = some v → p.block < w.heap.size := fun p v h => World.block_lt_of_cell? w p h
      obtain ⟨hXw, hXA, hXB⟩ := HX0.out
      have hblk : (ad.add (i * 4)).block < w.heap.size := by
        rcases H.out with h | ⟨ad', e, h⟩
        · rw [h] at hi; simp at hi
        · cases e
          exact hw0 _ _ (h i _ (List.getElem?_eq_getElem hi)).1
      have n1 : (ad.add (i * 4)).block ∉ [BA, BB] := by have := HA0.out; have := HB0.out; simp; omega
      have n3 := n1
      have nX : X ∉ [BA, BB] := by simp; exact ⟨hXA, hXB⟩
      have m1 : (ad.add (i * 4)).block ∉ [X] := by simp; omega
      have m3 := m1
      have nA : BA ∉ [X] := by simp; exact fun h => hXA h.symm
      have nB : BB ∉ [X] := by simp; exact fun h => hXB h.symm
      have nY : ∀ k ∈ [BA, BB], w.heap.size ≤ k := by
        intro k hk
        simp at hk
        rcases hk with rfl | rfl
        · exact HA0.out
        · exact HB0.out
      have nZ : ∀ k ∈ [X], w.heap.size ≤ k := by
        intro k hk
        simp at hk
        subst hk
        exact hXw
      have HLN := Lib.hid hLn
      have hLb := hA.bytes
      have hts : (textOf L).size = n := by rw [textOf_size, hLn]
      have hn' := HN.out
      have em : Int.tmod (dd : Int) 6 = ((dd % 6 : Nat) : Int) := by rw [Int.tmod_eq_emod_of_nonneg (by omega)]; simp
      clear hR hx0 hig hw0 hblk hXw hXA hXB
      by_cases hw3 : dd % 6 < 3
      · have c1 : decide (dd % 6 < 3) = true := by rw [decide_eq_true_eq]; exact hw3
        have c2 : decide (((dd % 6 : Nat) : Int) < 3) = true := by rw [decide_eq_true_eq]; omega
        have c3 : decide ((dd : Int) % 6 < 3) = true := by rw [decide_eq_true_eq]; omega
        by_cases hf : 0 ≤ aa ∧ aa + ss.size ≤ (n : Int)
        · obtain ⟨m, rfl⟩ : ∃ m : Nat, aa = (m : Int) := ⟨aa.toNat, (Int.toNat_of_nonneg hf.1).symm⟩
          have hms : m + ss.size ≤ n := by omega
          have HF := Lib.hid hms
          have C1 : ∀ w1, Ar w1 BA BB L r q b → Calls Try.prog 12 #[.pointer (some ⟨BA, 0, none⟩), .int .i64 (m : Nat), .string ss] w1 fun e w' => e = .returned (.int .i64 0) ∧ Ar w' BA BB (put L m (byteL ss)) r (q + 1) (b + ss.size) ∧ Beside [BA, BB] w1 w' :=
            fun w1 h1 => write_ok h1 m ss (by omega) (by omega) (by omega) (by omega) (by omega)
          have C2 : ∀ w1, RefAt w1 X (textOf L) r q b → Calls Try.prog 13 #[.pointer (some ⟨X, 0, none⟩), .int .i64 (m : Nat), .string ss] w1 fun e w' => e = .returned (.int .i64 0) ∧ RefAt w' X (textOf (put L m (byteL ss))) r (q + 1) (b + ss.size) ∧ Beside [X] w1 w' :=
            fun w1 h1 => by
              have := rwrite_ok h1 (by omega) (by omega) (by omega) m ss (by omega)
              rw [put_text L hLb m ss (by omega)] at this
              exact this
          have HBD : Hid (r ≤ i + 1 ∧ q + 1 ≤ i + 1 ∧ b + ss.size ≤ 4096 * (i + 1)) := Lib.hid (by omega)
          have e6 := w_succ' i HI
          clear hf hms hbd hbnd hss hLn hts hn' hLb hw3 hdd HI
          go_wp2_with fail
          have hHeld : wr.drew.cell? ⟨(ad.add (i * 4)).block, (ad.add (i * 4)).off + 1, none⟩ = some (.int .i64 (m : Nat)) ∧ wr.drew.cell? ⟨(ad.add (i * 4)).block, (ad.add (i * 4)).off + 3, none⟩ = some (.string ss) := ⟨q1, q3⟩
          refine wp_region_T (fun w' => w'.cell? ⟨(ad.add (i * 4)).block, (ad.add (i * 4)).off + 1, none⟩ = some (.int .i64 (m : Nat)) ∧ w'.cell? ⟨(ad.add (i * 4)).block, (ad.add (i * 4)).off + 3, none⟩ = some (.string ss)) [.take 0, .take 1, .take 2, .take 3, .take 4, .take 5, .take 6, .take 7, .take 8, .take 9, .take 10, .take 12, .take 13, .take 14, .take 15, .take 16, .take 17, .take 18, .take 19, .take 20, .take 21, .take 22, .go 11, .go 23, .take 24] (by kernel_rfl) (by kernel_rfl) (fun _ _ _ _ _ h => h) hHeld ?_
          refine T_light (a' := ?_) 70 rfl rfl rfl (of_decide_eq_true rfl) rfl hHeld (fun wq hSq K Q hK => ?_) ?_
          rotate_left
          · (go_step; exact hK)
          refine T_light (a' := ?_) 71 rfl rfl rfl (of_decide_eq_true rfl) rfl hHeld (fun wq hSq K Q hK => ?_) ?_
          rotate_left
          · (go_step; exact hK)
          refine T_light (a' := ?_) 72 rfl rfl rfl (of_decide_eq_true rfl) rfl hHeld (fun wq hSq K Q hK => ?_) ?_
          rotate_left
          · (go_step; exact hK)
          refine T_light (a' := ?_) 73 rfl rfl rfl (of_decide_eq_true rfl) rfl hHeld (fun wq hSq K Q hK => ?_) ?_
          rotate_left
          · (go_step; exact hK)
          refine T_light (a' := ?_) 74 rfl rfl rfl (of_decide_eq_true rfl) rfl hHeld (fun wq hSq K Q hK => ?_) ?_
          rotate_left
          · (go_step; exact hK)
          refine T_light (a' := ?_) 75 rfl rfl rfl (of_decide_eq_true rfl) rfl hHeld (fun wq hSq K Q hK => ?_) ?_
          rotate_left
          · ((obtain ⟨s1, s2⟩ := hSq; go_step); exact hK)
          refine T_light (a' := ?_) 76 rfl rfl rfl (of_decide_eq_true rfl) rfl hHeld (fun wq hSq K Q hK => ?_) ?_
          rotate_left
          · (go_step; exact hK)
          refine T_light (a' := ?_) 77 rfl rfl rfl (of_decide_eq_true rfl) rfl hHeld (fun wq hSq K Q hK => ?_) ?_
          rotate_left
          · (go_step; exact hK)
          refine T_light (a' := ?_) 78 rfl rfl rfl (of_decide_eq_true rfl) rfl hHeld (fun wq hSq K Q hK => ?_) ?_
          rotate_left
          · (go_step; exact hK)
          refine T_light (a' := ?_) 79 rfl rfl rfl (of_decide_eq_true rfl) rfl hHeld (fun wq hSq K Q hK => ?_) ?_
          rotate_left
          · (go_step; exact hK)
          refine T_light (a' := ?_) 80 rfl rfl rfl (of_decide_eq_true rfl) rfl hHeld (fun wq hSq K Q hK => ?_) ?_
          rotate_left
          · ((obtain ⟨s1, s2⟩ := hSq; go_step); exact hK)
          refine T_light (a' := ?_) 82 rfl rfl rfl (of_decide_eq_true rfl) rfl hHeld (fun wq hSq K Q hK => ?_) ?_
          rotate_left
          · (go_step; exact hK)
          refine T_light (a' := ?_) 83 rfl rfl rfl (of_decide_eq_true rfl) rfl hHeld (fun wq hSq K Q hK => ?_) ?_
          rotate_left
          · (go_step; exact hK)
          refine T_light (a' := ?_) 84 rfl rfl rfl (of_decide_eq_true rfl) rfl hHeld (fun wq hSq K Q hK => ?_) ?_
          rotate_left
          · (go_step; exact hK)
          refine T_light (a' := ?_) 85 rfl rfl rfl (of_decide_eq_true rfl) rfl hHeld (fun wq hSq K Q hK => ?_) ?_
          rotate_left
          · (go_step; exact hK)
          refine T_light (a' := ?_) 86 rfl rfl rfl (of_decide_eq_true rfl) rfl hHeld (fun wq hSq K Q hK => ?_) ?_
          rotate_left
          · (go_step; exact hK)
          refine T_light (a' := ?_) 87 rfl rfl rfl (of_decide_eq_true rfl) rfl hHeld (fun wq hSq K Q hK => ?_) ?_
          rotate_left
          · ((obtain ⟨s1, s2⟩ := hSq; go_step); exact hK)
          refine T_light (a' := ?_) 88 rfl rfl rfl (of_decide_eq_true rfl) rfl hHeld (fun wq hSq K Q hK => ?_) ?_
          rotate_left
          · (go_step; exact hK)
          refine T_light (a' := ?_) 89 rfl rfl rfl (of_decide_eq_true rfl) rfl hHeld (fun wq hSq K Q hK => ?_) ?_
          rotate_left
          · (go_step; exact hK)
          refine T_light (a' := ?_) 90 rfl rfl rfl (of_decide_eq_true rfl) rfl hHeld (fun wq hSq K Q hK => ?_) ?_
          rotate_left
          · (go_step; exact hK)
          refine T_light (a' := ?_) 91 rfl rfl rfl (of_decide_eq_true rfl) rfl hHeld (fun wq hSq K Q hK => ?_) ?_
          rotate_left
          · (go_step; exact hK)
          refine T_light (a' := ?_) 92 rfl rfl rfl (of_decide_eq_true rfl) rfl hHeld (fun wq hSq K Q hK => ?_) ?_
          rotate_left
          · ((obtain ⟨s1, s2⟩ := hSq; go_step); exact hK)
          refine T_call own12 81 [.pointer (some ⟨BA, 0, none⟩), .int .i64 (m : Nat), .string ss] rfl rfl rfl rfl rfl ?_
          refine (C1 _ hA.drew).mono ?_
          rintro e w2 ⟨rfl, hA2, hB2⟩
          have hHeld : w2.cell? ⟨(ad.add (i * 4)).block, (ad.add (i * 4)).off + 1, none⟩ = some (.int .i64 (m : Nat)) ∧ w2.cell? ⟨(ad.add (i * 4)).block, (ad.add (i * 4)).off + 3, none⟩ = some (.string ss) := ⟨(hB2.cell (World.block_lt_of_cell? wr _ q1) n1).trans q1, (hB2.cell (World.block_lt_of_cell? wr _ q3) n3).trans q3⟩
          have hX2 : RefAt w2 X (textOf L) r q b := (hB2.block _ (row_lt hX) nX).trans hX
          refine ⟨_, rfl, hHeld, ?_⟩
          simp only [Act.put, List.setIfInBounds_toArray, List.set_cons_zero, List.set_cons_succ]
          refine T_call own13 93 [.pointer (some ⟨X, 0, none⟩), .int .i64 (m : Nat), .string ss] rfl rfl rfl rfl rfl ?_
          refine (C2 _ hX2).mono ?_
          rintro e w3 ⟨rfl, hX3, hB3⟩
          have hHeld : w3.cell? ⟨(ad.add (i * 4)).block, (ad.add (i * 4)).off + 1, none⟩ = some (.int .i64 (m : Nat)) ∧ w3.cell? ⟨(ad.add (i * 4)).block, (ad.add (i * 4)).off + 3, none⟩ = some (.string ss) := ⟨(hB3.cell (World.block_lt_of_cell? w2 _ hHeld.1) m1).trans hHeld.1, (hB3.cell (World.block_lt_of_cell? w2 _ hHeld.2) m3).trans hHeld.2⟩
          have hA3 := hA2.beside hB3 nA nB
          have hb3 : Below w.heap.size w w3 := Beside.to_below (Beside.to_below (bdrew hb) hB2 nY) hB3 nZ
          refine ⟨_, rfl, hHeld, ?_⟩
          simp only [Act.put, List.setIfInBounds_toArray, List.set_cons_zero, List.set_cons_succ]
          refine T_light (a' := ?_) 94 rfl rfl rfl (of_decide_eq_true rfl) rfl hHeld (fun wq hSq K Q hK => ?_) ?_
          rotate_left
          · (go_step; exact hK)
          refine T_done ?_
          clear q0 q1 q2 q3 n1 n3 nX m1 m3 hHeld hA hX hA2 hX2 hB2 hB3 hb C1 C2 nA nB nY nZ
          (try clear hH2 hX2')
          have HA3 := Lib.hid hA3
          have HX3 := Lib.hid hX3
          have HB3 := Lib.hid hb3
          clear hA3 hX3 hb3
          go_wp2_with fail
          refine (counts_ok HA3.out).mono ?_
          rintro e w4 ⟨rfl, nd, rfl⟩
          have k1 : (w3.drewN nd).cell? ⟨X, 1, none⟩ = some (.int .i64 ((r : Nat) : Int)) := (cell_of_row _ _ _ _ _ _ HX3.out).trans rfl
          have k2 : (w3.drewN nd).cell? ⟨X, 2, none⟩ = some (.int .i64 (((q + 1) : Nat) : Int)) := (cell_of_row _ _ _ _ _ _ HX3.out).trans rfl
          have k3 : (w3.drewN nd).cell? ⟨X, 3, none⟩ = some (.int .i64 (((b + ss.size) : Nat) : Int)) := (cell_of_row _ _ _ _ _ _ HX3.out).trans rfl
          obtain ⟨w4, hw4⟩ : ∃ w4, w4 = w3.drewN nd := ⟨_, rfl⟩
          have HP : Hid (PlayR w BA BB X n (i + 1) w4) := Lib.hid (by rw [hw4]; exact ⟨(put L m (byteL ss)), r, (q + 1), (b + ss.size), HA3.out.of_blocks rfl rfl, HX3.out, by rw [put_length _ _ _ (by rw [byteL_length, HLN.out]; exact HF.out)]; exact HLN.out, HBD.out, bdrewN HB3.out nd⟩)
          rw [← hw4] at k1 k2 k3 ⊢
          clear hw4 HA3 HX3 HB3
          go_wp2_with fail
          (try simp only [e6])
          go_roundg g
          case measure => omega
          case rel => exact ⟨i + 1, eq_step' hg.out, by first | go_num | (rw [e6]; go_num), HP⟩
        · have C1 : ∀ w1, Ar w1 BA BB L r q b → Calls Try.prog 12 #[.pointer (some ⟨BA, 0, none⟩), .int .i64 aa, .string ss] w1 fun e w' => e = .returned (.int .i64 2) ∧ Ar w' BA BB L r q b ∧ Beside [BA, BB] w1 w' :=
            fun w1 h1 => (write_err h1 (by omega) aa ss (by rw [hLn]; exact hf)).mono fun e w' ⟨he, hbw⟩ => ⟨he, h1.below hbw, Beside.below hbw⟩
          have C2 : ∀ w1, RefAt w1 X (textOf L) r q b → Calls Try.prog 13 #[.pointer (some ⟨X, 0, none⟩), .int .i64 aa, .string ss] w1 fun e w' => e = .returned (.int .i64 2) ∧ RefAt w' X (textOf L) r q b ∧ Beside [X] w1 w' :=
            fun w1 h1 => (rwrite_err h1 (by omega) aa ss (by rw [hts]; exact hf)).mono fun e w' ⟨he, hbw⟩ => by subst hbw; exact ⟨he, h1, Beside.refl _ _⟩
          have HBD : Hid (r ≤ i + 1 ∧ q ≤ i + 1 ∧ b ≤ 4096 * (i + 1)) := Lib.hid (by omega)
          have e6 := w_succ' i HI
          clear hf hbd hbnd hss hLn hts hn' hLb hw3 hdd HI
          go_wp2_with fail
          have hHeld : wr.drew.cell? ⟨(ad.add (i * 4)).block, (ad.add (i * 4)).off + 1, none⟩ = some (.int .i64 aa) ∧ wr.drew.cell? ⟨(ad.add (i * 4)).block, (ad.add (i * 4)).off + 3, none⟩ = some (.string ss) := ⟨q1, q3⟩
          refine wp_region_T (fun w' => w'.cell? ⟨(ad.add (i * 4)).block, (ad.add (i * 4)).off + 1, none⟩ = some (.int .i64 aa) ∧ w'.cell? ⟨(ad.add (i * 4)).block, (ad.add (i * 4)).off + 3, none⟩ = some (.string ss)) [.take 0, .take 1, .take 2, .take 3, .take 4, .take 5, .take 6, .take 7, .take 8, .take 9, .take 10, .take 12, .take 13, .take 14, .take 15, .take 16, .take 17, .take 18, .take 19, .take 20, .take 21, .take 22, .go 11, .go 23, .take 24] (by kernel_rfl) (by kernel_rfl) (fun _ _ _ _ _ h => h) hHeld ?_
          refine T_light (a' := ?_) 70 rfl rfl rfl (of_decide_eq_true rfl) rfl hHeld (fun wq hSq K Q hK => ?_) ?_
          rotate_left
          · (go_step; exact hK)
          refine T_light (a' := ?_) 71 rfl rfl rfl (of_decide_eq_true rfl) rfl hHeld (fun wq hSq K Q hK => ?_) ?_
          rotate_left
          · (go_step; exact hK)
          refine T_light (a' := ?_) 72 rfl rfl rfl (of_decide_eq_true rfl) rfl hHeld (fun wq hSq K Q hK => ?_) ?_
          rotate_left
          · (go_step; exact hK)
          refine T_light (a' := ?_) 73 rfl rfl rfl (of_decide_eq_true rfl) rfl hHeld (fun wq hSq K Q hK => ?_) ?_
          rotate_left
          · (go_step; exact hK)
          refine T_light (a' := ?_) 74 rfl rfl rfl (of_decide_eq_true rfl) rfl hHeld (fun wq hSq K Q hK => ?_) ?_
          rotate_left
          · (go_step; exact hK)
          refine T_light (a' := ?_) 75 rfl rfl rfl (of_decide_eq_true rfl) rfl hHeld (fun wq hSq K Q hK => ?_) ?_
          rotate_left
          · ((obtain ⟨s1, s2⟩ := hSq; go_step); exact hK)
          refine T_light (a' := ?_) 76 rfl rfl rfl (of_decide_eq_true rfl) rfl hHeld (fun wq hSq K Q hK => ?_) ?_
          rotate_left
          · (go_step; exact hK)
          refine T_light (a' := ?_) 77 rfl rfl rfl (of_decide_eq_true rfl) rfl hHeld (fun wq hSq K Q hK => ?_) ?_
          rotate_left
          · (go_step; exact hK)
          refine T_light (a' := ?_) 78 rfl rfl rfl (of_decide_eq_true rfl) rfl hHeld (fun wq hSq K Q hK => ?_) ?_
          rotate_left
          · (go_step; exact hK)
          refine T_light (a' := ?_) 79 rfl rfl rfl (of_decide_eq_true rfl) rfl hHeld (fun wq hSq K Q hK => ?_) ?_
          rotate_left
          · (go_step; exact hK)
          refine T_light (a' := ?_) 80 rfl rfl rfl (of_decide_eq_true rfl) rfl hHeld (fun wq hSq K Q hK => ?_) ?_
          rotate_left
          · ((obtain ⟨s1, s2⟩ := hSq; go_step); exact hK)
          refine T_light (a' := ?_) 82 rfl rfl rfl (of_decide_eq_true rfl) rfl hHeld (fun wq hSq K Q hK => ?_) ?_
          rotate_left
          · (go_step; exact hK)
          refine T_light (a' := ?_) 83 rfl rfl rfl (of_decide_eq_true rfl) rfl hHeld (fun wq hSq K Q hK => ?_) ?_
          rotate_left
          · (go_step; exact hK)
          refine T_light (a' := ?_) 84 rfl rfl rfl (of_decide_eq_true rfl) rfl hHeld (fun wq hSq K Q hK => ?_) ?_
          rotate_left
          · (go_step; exact hK)
          refine T_light (a' := ?_) 85 rfl rfl rfl (of_decide_eq_true rfl) rfl hHeld (fun wq hSq K Q hK => ?_) ?_
          rotate_left
          · (go_step; exact hK)
          refine T_light (a' := ?_) 86 rfl rfl rfl (of_decide_eq_true rfl) rfl hHeld (fun wq hSq K Q hK => ?_) ?_
          rotate_left
          · (go_step; exact hK)
          refine T_light (a' := ?_) 87 rfl rfl rfl (of_decide_eq_true rfl) rfl hHeld (fun wq hSq K Q hK => ?_) ?_
          rotate_left
          · ((obtain ⟨s1, s2⟩ := hSq; go_step); exact hK)
          refine T_light (a' := ?_) 88 rfl rfl rfl (of_decide_eq_true rfl) rfl hHeld (fun wq hSq K Q hK => ?_) ?_
          rotate_left
          · (go_step; exact hK)
          refine T_light (a' := ?_) 89 rfl rfl rfl (of_decide_eq_true rfl) rfl hHeld (fun wq hSq K Q hK => ?_) ?_
          rotate_left
          · (go_step; exact hK)
          refine T_light (a' := ?_) 90 rfl rfl rfl (of_decide_eq_true rfl) rfl hHeld (fun wq hSq K Q hK => ?_) ?_
          rotate_left
          · (go_step; exact hK)
          refine T_light (a' := ?_) 91 rfl rfl rfl (of_decide_eq_true rfl) rfl hHeld (fun wq hSq K Q hK => ?_) ?_
          rotate_left
          · (go_step; exact hK)
          refine T_light (a' := ?_) 92 rfl rfl rfl (of_decide_eq_true rfl) rfl hHeld (fun wq hSq K Q hK => ?_) ?_
          rotate_left
          · ((obtain ⟨s1, s2⟩ := hSq; go_step); exact hK)
          refine T_call own12 81 [.pointer (some ⟨BA, 0, none⟩), .int .i64 aa, .string ss] rfl rfl rfl rfl rfl ?_
          refine (C1 _ hA.drew).mono ?_
          rintro e w2 ⟨rfl, hA2, hB2⟩
          have hHeld : w2.cell? ⟨(ad.add (i * 4)).block, (ad.add (i * 4)).off + 1, none⟩ = some (.int .i64 aa) ∧ w2.cell? ⟨(ad.add (i * 4)).block, (ad.add (i * 4)).off + 3, none⟩ = some (.string ss) := ⟨(hB2.cell (World.block_lt_of_cell? wr _ q1) n1).trans q1, (hB2.cell (World.block_lt_of_cell? wr _ q3) n3).trans q3⟩
          have hX2 : RefAt w2 X (textOf L) r q b := (hB2.block _ (row_lt hX) nX).trans hX
          refine ⟨_, rfl, hHeld, ?_⟩
          simp only [Act.put, List.setIfInBounds_toArray, List.set_cons_zero, List.set_cons_succ]
          refine T_call own13 93 [.pointer (some ⟨X, 0, none⟩), .int .i64 aa, .string ss] rfl rfl rfl rfl rfl ?_
          refine (C2 _ hX2).mono ?_
          rintro e w3 ⟨rfl, hX3, hB3⟩
          have hHeld : w3.cell? ⟨(ad.add (i * 4)).block, (ad.add (i * 4)).off + 1, none⟩ = some (.int .i64 aa) ∧ w3.cell? ⟨(ad.add (i * 4)).block, (ad.add (i * 4)).off + 3, none⟩ = some (.string ss) := ⟨(hB3.cell (World.block_lt_of_cell? w2 _ hHeld.1) m1).trans hHeld.1, (hB3.cell (World.block_lt_of_cell? w2 _ hHeld.2) m3).trans hHeld.2⟩
          have hA3 := hA2.beside hB3 nA nB
          have hb3 : Below w.heap.size w w3 := Beside.to_below (Beside.to_below (bdrew hb) hB2 nY) hB3 nZ
          refine ⟨_, rfl, hHeld, ?_⟩
          simp only [Act.put, List.setIfInBounds_toArray, List.set_cons_zero, List.set_cons_succ]
          refine T_light (a' := ?_) 94 rfl rfl rfl (of_decide_eq_true rfl) rfl hHeld (fun wq hSq K Q hK => ?_) ?_
          rotate_left
          · (go_step; exact hK)
          refine T_done ?_
          clear q0 q1 q2 q3 n1 n3 nX m1 m3 hHeld hA hX hA2 hX2 hB2 hB3 hb C1 C2 nA nB nY nZ
          (try clear hH2 hX2')
          have HA3 := Lib.hid hA3
          have HX3 := Lib.hid hX3
          have HB3 := Lib.hid hb3
          clear hA3 hX3 hb3
          go_wp2_with fail
          refine (counts_ok HA3.out).mono ?_
          rintro e w4 ⟨rfl, nd, rfl⟩
          have k1 : (w3.drewN nd).cell? ⟨X, 1, none⟩ = some (.int .i64 ((r : Nat) : Int)) := (cell_of_row _ _ _ _ _ _ HX3.out).trans rfl
          have k2 : (w3.drewN nd).cell? ⟨X, 2, none⟩ = some (.int .i64 ((q : Nat) : Int)) := (cell_of_row _ _ _ _ _ _ HX3.out).trans rfl
          have k3 : (w3.drewN nd).cell? ⟨X, 3, none⟩ = some (.int .i64 ((b : Nat) : Int)) := (cell_of_row _ _ _ _ _ _ HX3.out).trans rfl
          obtain ⟨w4, hw4⟩ : ∃ w4, w4 = w3.drewN nd := ⟨_, rfl⟩
          have HP : Hid (PlayR w BA BB X n (i + 1) w4) := Lib.hid (by rw [hw4]; exact ⟨L, r, q, b, HA3.out.of_blocks rfl rfl, HX3.out, by exact HLN.out, HBD.out, bdrewN HB3.out nd⟩)
          rw [← hw4] at k1 k2 k3 ⊢
          clear hw4 HA3 HX3 HB3
          go_wp2_with fail
          (try simp only [e6])
          go_roundg g
          case measure => omega
          case rel => exact ⟨i + 1, eq_step' hg.out, by first | go_num | (rw [e6]; go_num), HP⟩
      · have c1 : decide (dd % 6 < 3) = false := by rw [decide_eq_false_iff_not]; exact hw3
        have c2 : decide (((dd % 6 : Nat) : Int) < 3) = false := by rw [decide_eq_false_iff_not]; omega
        have c3 : decide ((dd : Int) % 6 < 3) = false := by rw [decide_eq_false_iff_not]; omega
        by_cases hf : 0 ≤ aa ∧ 0 ≤ nn ∧ aa + nn ≤ (n : Int)
        · obtain ⟨m, rfl⟩ : ∃ m : Nat, aa = (m : Int) := ⟨aa.toNat, (Int.toNat_of_nonneg hf.1).symm⟩
          obtain ⟨k, rfl⟩ : ∃ k : Nat, nn = (k : Int) := ⟨nn.toNat, (Int.toNat_of_nonneg hf.2.1).symm⟩
          have hms : m + k ≤ n := by omega
          have C1 : ∀ w1, Ar w1 BA BB L r q b → Calls Try.prog 14 #[.pointer (some ⟨BA, 0, none⟩), .int .i64 (m : Nat), .int .i64 (k : Nat)] w1 fun e w' => e = .returned (.tuple #[.string (textOf (sub_ L m k)), .int .i64 0]) ∧ Ar w' BA BB L (r + 1) q b ∧ Beside [BA, BB] w1 w' :=
            fun w1 h1 => (read_ok h1 m k (by omega) (by omega) (by omega)).mono fun e w' ⟨he, h2, h3⟩ => ⟨he, h2, h3.mono (by simp)⟩
          have C2 : ∀ w1, RefAt w1 X (textOf L) r q b → Calls Try.prog 15 #[.pointer (some ⟨X, 0, none⟩), .int .i64 (m : Nat), .int .i64 (k : Nat)] w1 fun e w' => e = .returned (.tuple #[.string (textOf (sub_ L m k)), .int .i64 0]) ∧ RefAt w' X (textOf L) (r + 1) q b ∧ Beside [X] w1 w' :=
            fun w1 h1 => by
              have := rread_ok h1 (by omega) (by omega) m k (by omega)
              rw [sub_text L hLb m k (by omega)] at this
              exact this
          have HBD : Hid (r + 1 ≤ i + 1 ∧ q ≤ i + 1 ∧ b ≤ 4096 * (i + 1)) := Lib.hid (by omega)
          have e6 := w_succ' i HI
          clear hf hms hbd hbnd hss hLn hts hn' hLb hw3 hdd HI
          generalize textOf (sub_ L m k) = tx at C1 C2
          go_wp2_with fail
          have hHeld : wr.drew.cell? ⟨(ad.add (i * 4)).block, (ad.add (i * 4)).off + 1, none⟩ = some (.int .i64 (m : Nat)) ∧ wr.drew.cell? ⟨(ad.add (i * 4)).block, (ad.add (i * 4)).off + 2, none⟩ = some (.int .i64 (k : Nat)) := ⟨q1, q2⟩
          refine wp_region_T (fun w' => w'.cell? ⟨(ad.add (i * 4)).block, (ad.add (i * 4)).off + 1, none⟩ = some (.int .i64 (m : Nat)) ∧ w'.cell? ⟨(ad.add (i * 4)).block, (ad.add (i * 4)).off + 2, none⟩ = some (.int .i64 (k : Nat))) [.take 0, .take 1, .take 2, .take 3, .take 4, .take 5, .take 6, .take 7, .take 8, .take 9, .take 10, .go 11, .take 12, .take 13, .take 14, .take 15, .take 16] (by kernel_rfl) (by kernel_rfl) (fun _ _ _ _ _ h => h) hHeld ?_
          refine T_light (a' := ?_) 96 rfl rfl rfl (of_decide_eq_true rfl) rfl hHeld (fun wq hSq K Q hK => ?_) ?_
          rotate_left
          · (go_step; exact hK)
          refine T_light (a' := ?_) 97 rfl rfl rfl (of_decide_eq_true rfl) rfl hHeld (fun wq hSq K Q hK => ?_) ?_
          rotate_left
          · (go_step; exact hK)
          refine T_light (a' := ?_) 98 rfl rfl rfl (of_decide_eq_true rfl) rfl hHeld (fun wq hSq K Q hK => ?_) ?_
          rotate_left
          · (go_step; exact hK)
          refine T_light (a' := ?_) 99 rfl rfl rfl (of_decide_eq_true rfl) rfl hHeld (fun wq hSq K Q hK => ?_) ?_
          rotate_left
          · (go_step; exact hK)
          refine T_light (a' := ?_) 100 rfl rfl rfl (of_decide_eq_true rfl) rfl hHeld (fun wq hSq K Q hK => ?_) ?_
          rotate_left
          · (go_step; exact hK)
          refine T_light (a' := ?_) 101 rfl rfl rfl (of_decide_eq_true rfl) rfl hHeld (fun wq hSq K Q hK => ?_) ?_
          rotate_left
          · ((obtain ⟨s1, s2⟩ := hSq; go_step); exact hK)
          refine T_light (a' := ?_) 102 rfl rfl rfl (of_decide_eq_true rfl) rfl hHeld (fun wq hSq K Q hK => ?_) ?_
          rotate_left
          · (go_step; exact hK)
          refine T_light (a' := ?_) 103 rfl rfl rfl (of_decide_eq_true rfl) rfl hHeld (fun wq hSq K Q hK => ?_) ?_
          rotate_left
          · (go_step; exact hK)
          refine T_light (a' := ?_) 104 rfl rfl rfl (of_decide_eq_true rfl) rfl hHeld (fun wq hSq K Q hK => ?_) ?_
          rotate_left
          · (go_step; exact hK)
          refine T_light (a' := ?_) 105 rfl rfl rfl (of_decide_eq_true rfl) rfl hHeld (fun wq hSq K Q hK => ?_) ?_
          rotate_left
          · (go_step; exact hK)
          refine T_light (a' := ?_) 106 rfl rfl rfl (of_decide_eq_true rfl) rfl hHeld (fun wq hSq K Q hK => ?_) ?_
          rotate_left
          · ((obtain ⟨s1, s2⟩ := hSq; go_step); exact hK)
          refine T_call own14 107 [.pointer (some ⟨BA, 0, none⟩), .int .i64 (m : Nat), .int .i64 (k : Nat)] rfl rfl rfl rfl rfl ?_
          refine (C1 _ hA.drew).mono ?_
          rintro e w2 ⟨rfl, hA2, hB2⟩
          have hHeld : w2.cell? ⟨(ad.add (i * 4)).block, (ad.add (i * 4)).off + 1, none⟩ = some (.int .i64 (m : Nat)) ∧ w2.cell? ⟨(ad.add (i * 4)).block, (ad.add (i * 4)).off + 2, none⟩ = some (.int .i64 (k : Nat)) := ⟨(hB2.cell (World.block_lt_of_cell? wr _ q1) n1).trans q1, (hB2.cell (World.block_lt_of_cell? wr _ q2) n3).trans q2⟩
          have hX2 : RefAt w2 X (textOf L) r q b := (hB2.block _ (row_lt hX) nX).trans hX
          refine ⟨_, rfl, hHeld, ?_⟩
          simp only [Act.put, List.setIfInBounds_toArray, List.set_cons_zero, List.set_cons_succ]
          refine T_light (a' := ?_) 95 rfl rfl rfl (of_decide_eq_true rfl) rfl hHeld (fun wq hSq K Q hK => ?_) ?_
          rotate_left
          · (go_step; exact hK)
          refine T_light (a' := ?_) 108 rfl rfl rfl (of_decide_eq_true rfl) rfl hHeld (fun wq hSq K Q hK => ?_) ?_
          rotate_left
          · (go_step; exact hK)
          refine T_light (a' := ?_) 109 rfl rfl rfl (of_decide_eq_true rfl) rfl hHeld (fun wq hSq K Q hK => ?_) ?_
          rotate_left
          · (go_step; exact hK)
          refine T_light (a' := ?_) 9 rfl rfl rfl (of_decide_eq_true rfl) rfl hHeld (fun wq hSq K Q hK => ?_) ?_
          rotate_left
          · (go_step; exact hK)
          refine T_light (a' := ?_) 10 rfl rfl rfl (of_decide_eq_true rfl) rfl hHeld (fun wq hSq K Q hK => ?_) ?_
          rotate_left
          · (go_step; exact hK)
          refine T_done ?_
          go_wp2_with fail
          have hX2' : RefAt w2.drew X (textOf L) r q b := hX2
          have hH2 := hHeld
          clear hHeld
          have hHeld : w2.drew.cell? ⟨(ad.add (i * 4)).block, (ad.add (i * 4)).off + 1, none⟩ = some (.int .i64 (m : Nat)) ∧ w2.drew.cell? ⟨(ad.add (i * 4)).block, (ad.add (i * 4)).off + 2, none⟩ = some (.int .i64 (k : Nat)) := hH2
          refine wp_region_T (fun w' => w'.cell? ⟨(ad.add (i * 4)).block, (ad.add (i * 4)).off + 1, none⟩ = some (.int .i64 (m : Nat)) ∧ w'.cell? ⟨(ad.add (i * 4)).block, (ad.add (i * 4)).off + 2, none⟩ = some (.int .i64 (k : Nat))) [.take 0, .take 1, .take 2, .take 3, .take 4, .take 5, .take 6, .take 7, .take 8, .take 9, .take 10, .go 11, .take 12, .take 13, .take 14, .take 15, .take 16] (by kernel_rfl) (by kernel_rfl) (fun _ _ _ _ _ h => h) hHeld ?_
          refine T_light (a' := ?_) 111 rfl rfl rfl (of_decide_eq_true rfl) rfl hHeld (fun wq hSq K Q hK => ?_) ?_
          rotate_left
          · (go_step; exact hK)
          refine T_light (a' := ?_) 112 rfl rfl rfl (of_decide_eq_true rfl) rfl hHeld (fun wq hSq K Q hK => ?_) ?_
          rotate_left
          · (go_step; exact hK)
          refine T_light (a' := ?_) 113 rfl rfl rfl (of_decide_eq_true rfl) rfl hHeld (fun wq hSq K Q hK => ?_) ?_
          rotate_left
          · (go_step; exact hK)
          refine T_light (a' := ?_) 114 rfl rfl rfl (of_decide_eq_true rfl) rfl hHeld (fun wq hSq K Q hK => ?_) ?_
          rotate_left
          · (go_step; exact hK)
          refine T_light (a' := ?_) 115 rfl rfl rfl (of_decide_eq_true rfl) rfl hHeld (fun wq hSq K Q hK => ?_) ?_
          rotate_left
          · (go_step; exact hK)
          refine T_light (a' := ?_) 116 rfl rfl rfl (of_decide_eq_true rfl) rfl hHeld (fun wq hSq K Q hK => ?_) ?_
          rotate_left
          · ((obtain ⟨s1, s2⟩ := hSq; go_step); exact hK)
          refine T_light (a' := ?_) 117 rfl rfl rfl (of_decide_eq_true rfl) rfl hHeld (fun wq hSq K Q hK => ?_) ?_
          rotate_left
          · (go_step; exact hK)
          refine T_light (a' := ?_) 118 rfl rfl rfl (of_decide_eq_true rfl) rfl hHeld (fun wq hSq K Q hK => ?_) ?_
          rotate_left
          · (go_step; exact hK)
          refine T_light (a' := ?_) 119 rfl rfl rfl (of_decide_eq_true rfl) rfl hHeld (fun wq hSq K Q hK => ?_) ?_
          rotate_left
          · (go_step; exact hK)
          refine T_light (a' := ?_) 120 rfl rfl rfl (of_decide_eq_true rfl) rfl hHeld (fun wq hSq K Q hK => ?_) ?_
          rotate_left
          · (go_step; exact hK)
          refine T_light (a' := ?_) 121 rfl rfl rfl (of_decide_eq_true rfl) rfl hHeld (fun wq hSq K Q hK => ?_) ?_
          rotate_left
          · ((obtain ⟨s1, s2⟩ := hSq; go_step); exact hK)
          refine T_call own15 122 [.pointer (some ⟨X, 0, none⟩), .int .i64 (m : Nat), .int .i64 (k : Nat)] rfl rfl rfl rfl rfl ?_
          refine (C2 _ hX2').mono ?_
          rintro e w3 ⟨rfl, hX3, hB3⟩
          have hHeld : w3.cell? ⟨(ad.add (i * 4)).block, (ad.add (i * 4)).off + 1, none⟩ = some (.int .i64 (m : Nat)) ∧ w3.cell? ⟨(ad.add (i * 4)).block, (ad.add (i * 4)).off + 2, none⟩ = some (.int .i64 (k : Nat)) := ⟨(hB3.cell (World.block_lt_of_cell? w2 _ hHeld.1) m1).trans hHeld.1, (hB3.cell (World.block_lt_of_cell? w2 _ hHeld.2) m3).trans hHeld.2⟩
          have hA3 := hA2.drew.beside hB3 nA nB
          have hb3 : Below w.heap.size w w3 := Beside.to_below (bdrew (Beside.to_below (bdrew hb) hB2 nY)) hB3 nZ
          refine ⟨_, rfl, hHeld, ?_⟩
          simp only [Act.put, List.setIfInBounds_toArray, List.set_cons_zero, List.set_cons_succ]
          refine T_light (a' := ?_) 110 rfl rfl rfl (of_decide_eq_true rfl) rfl hHeld (fun wq hSq K Q hK => ?_) ?_
          rotate_left
          · (go_step; exact hK)
          refine T_light (a' := ?_) 123 rfl rfl rfl (of_decide_eq_true rfl) rfl hHeld (fun wq hSq K Q hK => ?_) ?_
          rotate_left
          · (go_step; exact hK)
          refine T_light (a' := ?_) 124 rfl rfl rfl (of_decide_eq_true rfl) rfl hHeld (fun wq hSq K Q hK => ?_) ?_
          rotate_left
          · (go_step; exact hK)
          refine T_light (a' := ?_) 11 rfl rfl rfl (of_decide_eq_true rfl) rfl hHeld (fun wq hSq K Q hK => ?_) ?_
          rotate_left
          · (go_step; exact hK)
          refine T_light (a' := ?_) 12 rfl rfl rfl (of_decide_eq_true rfl) rfl hHeld (fun wq hSq K Q hK => ?_) ?_
          rotate_left
          · (go_step; exact hK)
          refine T_done ?_
          clear q0 q1 q2 q3 n1 n3 nX m1 m3 hHeld hA hX hA2 hX2 hB2 hB3 hb C1 C2 nA nB nY nZ
          (try clear hH2 hX2')
          have HA3 := Lib.hid hA3
          have HX3 := Lib.hid hX3
          have HB3 := Lib.hid hb3
          clear hA3 hX3 hb3
          go_wp2_with fail
          refine (counts_ok HA3.out).mono ?_
          rintro e w4 ⟨rfl, nd, rfl⟩
          have k1 : (w3.drewN nd).cell? ⟨X, 1, none⟩ = some (.int .i64 (((r + 1) : Nat) : Int)) := (cell_of_row _ _ _ _ _ _ HX3.out).trans rfl
          have k2 : (w3.drewN nd).cell? ⟨X, 2, none⟩ = some (.int .i64 ((q : Nat) : Int)) := (cell_of_row _ _ _ _ _ _ HX3.out).trans rfl
          have k3 : (w3.drewN nd).cell? ⟨X, 3, none⟩ = some (.int .i64 ((b : Nat) : Int)) := (cell_of_row _ _ _ _ _ _ HX3.out).trans rfl
          obtain ⟨w4, hw4⟩ : ∃ w4, w4 = w3.drewN nd := ⟨_, rfl⟩
          have HP : Hid (PlayR w BA BB X n (i + 1) w4) := Lib.hid (by rw [hw4]; exact ⟨L, (r + 1), q, b, HA3.out.of_blocks rfl rfl, HX3.out, by exact HLN.out, HBD.out, bdrewN HB3.out nd⟩)
          rw [← hw4] at k1 k2 k3 ⊢
          clear hw4 HA3 HX3 HB3
          go_wp2_with fail
          (try simp only [e6])
          go_roundg g
          case measure => omega
          case rel => exact ⟨i + 1, eq_step' hg.out, by first | go_num | (rw [e6]; go_num), HP⟩
        · have C1 : ∀ w1, Ar w1 BA BB L r q b → Calls Try.prog 14 #[.pointer (some ⟨BA, 0, none⟩), .int .i64 aa, .int .i64 nn] w1 fun e w' => e = .returned (.tuple #[.string ⟨#[]⟩, .int .i64 2]) ∧ Ar w' BA BB L r q b ∧ Beside [BA, BB] w1 w' :=
            fun w1 h1 => (read_err h1 (by omega) aa nn (by rw [hLn]; exact hf)).mono fun e w' ⟨he, hbw⟩ => ⟨he, h1.below hbw, Beside.below hbw⟩
          have C2 : ∀ w1, RefAt w1 X (textOf L) r q b → Calls Try.prog 15 #[.pointer (some ⟨X, 0, none⟩), .int .i64 aa, .int .i64 nn] w1 fun e w' => e = .returned (.tuple #[.string ⟨#[]⟩, .int .i64 2]) ∧ RefAt w' X (textOf L) r q b ∧ Beside [X] w1 w' :=
            fun w1 h1 => (rread_err h1 (by omega) aa nn (by rw [hts]; exact hf)).mono fun e w' ⟨he, hbw⟩ => by subst hbw; exact ⟨he, h1, Beside.refl _ _⟩
          have HBD : Hid (r ≤ i + 1 ∧ q ≤ i + 1 ∧ b ≤ 4096 * (i + 1)) := Lib.hid (by omega)
          have e6 := w_succ' i HI
          clear hf hbd hbnd hss hLn hts hn' hLb hw3 hdd HI
          go_wp2_with fail
          have hHeld : wr.drew.cell? ⟨(ad.add (i * 4)).block, (ad.add (i * 4)).off + 1, none⟩ = some (.int .i64 aa) ∧ wr.drew.cell? ⟨(ad.add (i * 4)).block, (ad.add (i * 4)).off + 2, none⟩ = some (.int .i64 nn) := ⟨q1, q2⟩
          refine wp_region_T (fun w' => w'.cell? ⟨(ad.add (i * 4)).block, (ad.add (i * 4)).off + 1, none⟩ = some (.int .i64 aa) ∧ w'.cell? ⟨(ad.add (i * 4)).block, (ad.add (i * 4)).off + 2, none⟩ = some (.int .i64 nn)) [.take 0, .take 1, .take 2, .take 3, .take 4, .take 5, .take 6, .take 7, .take 8, .take 9, .take 10, .go 11, .take 12, .take 13, .take 14, .take 15, .take 16] (by kernel_rfl) (by kernel_rfl) (fun _ _ _ _ _ h => h) hHeld ?_
          refine T_light (a' := ?_) 96 rfl rfl rfl (of_decide_eq_true rfl) rfl hHeld (fun wq hSq K Q hK => ?_) ?_
          rotate_left
          · (go_step; exact hK)
          refine T_light (a' := ?_) 97 rfl rfl rfl (of_decide_eq_true rfl) rfl hHeld (fun wq hSq K Q hK => ?_) ?_
          rotate_left
          · (go_step; exact hK)
          refine T_light (a' := ?_) 98 rfl rfl rfl (of_decide_eq_true rfl) rfl hHeld (fun wq hSq K Q hK => ?_) ?_
          rotate_left
          · (go_step; exact hK)
          refine T_light (a' := ?_) 99 rfl rfl rfl (of_decide_eq_true rfl) rfl hHeld (fun wq hSq K Q hK => ?_) ?_
          rotate_left
          · (go_step; exact hK)
          refine T_light (a' := ?_) 100 rfl rfl rfl (of_decide_eq_true rfl) rfl hHeld (fun wq hSq K Q hK => ?_) ?_
          rotate_left
          · (go_step; exact hK)
          refine T_light (a' := ?_) 101 rfl rfl rfl (of_decide_eq_true rfl) rfl hHeld (fun wq hSq K Q hK => ?_) ?_
          rotate_left
          · ((obtain ⟨s1, s2⟩ := hSq; go_step); exact hK)
          refine T_light (a' := ?_) 102 rfl rfl rfl (of_decide_eq_true rfl) rfl hHeld (fun wq hSq K Q hK => ?_) ?_
          rotate_left
          · (go_step; exact hK)
          refine T_light (a' := ?_) 103 rfl rfl rfl (of_decide_eq_true rfl) rfl hHeld (fun wq hSq K Q hK => ?_) ?_
          rotate_left
          · (go_step; exact hK)
          refine T_light (a' := ?_) 104 rfl rfl rfl (of_decide_eq_true rfl) rfl hHeld (fun wq hSq K Q hK => ?_) ?_
          rotate_left
          · (go_step; exact hK)
          refine T_light (a' := ?_) 105 rfl rfl rfl (of_decide_eq_true rfl) rfl hHeld (fun wq hSq K Q hK => ?_) ?_
          rotate_left
          · (go_step; exact hK)
          refine T_light (a' := ?_) 106 rfl rfl rfl (of_decide_eq_true rfl) rfl hHeld (fun wq hSq K Q hK => ?_) ?_
          rotate_left
          · ((obtain ⟨s1, s2⟩ := hSq; go_step); exact hK)
          refine T_call own14 107 [.pointer (some ⟨BA, 0, none⟩), .int .i64 aa, .int .i64 nn] rfl rfl rfl rfl rfl ?_
          refine (C1 _ hA.drew).mono ?_
          rintro e w2 ⟨rfl, hA2, hB2⟩
          have hHeld : w2.cell? ⟨(ad.add (i * 4)).block, (ad.add (i * 4)).off + 1, none⟩ = some (.int .i64 aa) ∧ w2.cell? ⟨(ad.add (i * 4)).block, (ad.add (i * 4)).off + 2, none⟩ = some (.int .i64 nn) := ⟨(hB2.cell (World.block_lt_of_cell? wr _ q1) n1).trans q1, (hB2.cell (World.block_lt_of_cell? wr _ q2) n3).trans q2⟩
          have hX2 : RefAt w2 X (textOf L) r q b := (hB2.block _ (row_lt hX) nX).trans hX
          refine ⟨_, rfl, hHeld, ?_⟩
          simp only [Act.put, List.setIfInBounds_toArray, List.set_cons_zero, List.set_cons_succ]
          refine T_light (a' := ?_) 95 rfl rfl rfl (of_decide_eq_true rfl) rfl hHeld (fun wq hSq K Q hK => ?_) ?_
          rotate_left
          · (go_step; exact hK)
          refine T_light (a' := ?_) 108 rfl rfl rfl (of_decide_eq_true rfl) rfl hHeld (fun wq hSq K Q hK => ?_) ?_
          rotate_left
          · (go_step; exact hK)
          refine T_light (a' := ?_) 109 rfl rfl rfl (of_decide_eq_true rfl) rfl hHeld (fun wq hSq K Q hK => ?_) ?_
          rotate_left
          · (go_step; exact hK)
          refine T_light (a' := ?_) 9 rfl rfl rfl (of_decide_eq_true rfl) rfl hHeld (fun wq hSq K Q hK => ?_) ?_
          rotate_left
          · (go_step; exact hK)
          refine T_light (a' := ?_) 10 rfl rfl rfl (of_decide_eq_true rfl) rfl hHeld (fun wq hSq K Q hK => ?_) ?_
          rotate_left
          · (go_step; exact hK)
          refine T_done ?_
          go_wp2_with fail
          have hX2' : RefAt w2.drew X (textOf L) r q b := hX2
          have hH2 := hHeld
          clear hHeld
          have hHeld : w2.drew.cell? ⟨(ad.add (i * 4)).block, (ad.add (i * 4)).off + 1, none⟩ = some (.int .i64 aa) ∧ w2.drew.cell? ⟨(ad.add (i * 4)).block, (ad.add (i * 4)).off + 2, none⟩ = some (.int .i64 nn) := hH2
          refine wp_region_T (fun w' => w'.cell? ⟨(ad.add (i * 4)).block, (ad.add (i * 4)).off + 1, none⟩ = some (.int .i64 aa) ∧ w'.cell? ⟨(ad.add (i * 4)).block, (ad.add (i * 4)).off + 2, none⟩ = some (.int .i64 nn)) [.take 0, .take 1, .take 2, .take 3, .take 4, .take 5, .take 6, .take 7, .take 8, .take 9, .take 10, .go 11, .take 12, .take 13, .take 14, .take 15, .take 16] (by kernel_rfl) (by kernel_rfl) (fun _ _ _ _ _ h => h) hHeld ?_
          refine T_light (a' := ?_) 111 rfl rfl rfl (of_decide_eq_true rfl) rfl hHeld (fun wq hSq K Q hK => ?_) ?_
          rotate_left
          · (go_step; exact hK)
          refine T_light (a' := ?_) 112 rfl rfl rfl (of_decide_eq_true rfl) rfl hHeld (fun wq hSq K Q hK => ?_) ?_
          rotate_left
          · (go_step; exact hK)
          refine T_light (a' := ?_) 113 rfl rfl rfl (of_decide_eq_true rfl) rfl hHeld (fun wq hSq K Q hK => ?_) ?_
          rotate_left
          · (go_step; exact hK)
          refine T_light (a' := ?_) 114 rfl rfl rfl (of_decide_eq_true rfl) rfl hHeld (fun wq hSq K Q hK => ?_) ?_
          rotate_left
          · (go_step; exact hK)
          refine T_light (a' := ?_) 115 rfl rfl rfl (of_decide_eq_true rfl) rfl hHeld (fun wq hSq K Q hK => ?_) ?_
          rotate_left
          · (go_step; exact hK)
          refine T_light (a' := ?_) 116 rfl rfl rfl (of_decide_eq_true rfl) rfl hHeld (fun wq hSq K Q hK => ?_) ?_
          rotate_left
          · ((obtain ⟨s1, s2⟩ := hSq; go_step); exact hK)
          refine T_light (a' := ?_) 117 rfl rfl rfl (of_decide_eq_true rfl) rfl hHeld (fun wq hSq K Q hK => ?_) ?_
          rotate_left
          · (go_step; exact hK)
          refine T_light (a' := ?_) 118 rfl rfl rfl (of_decide_eq_true rfl) rfl hHeld (fun wq hSq K Q hK => ?_) ?_
          rotate_left
          · (go_step; exact hK)
          refine T_light (a' := ?_) 119 rfl rfl rfl (of_decide_eq_true rfl) rfl hHeld (fun wq hSq K Q hK => ?_) ?_
          rotate_left
          · (go_step; exact hK)
          refine T_light (a' := ?_) 120 rfl rfl rfl (of_decide_eq_true rfl) rfl hHeld (fun wq hSq K Q hK => ?_) ?_
          rotate_left
          · (go_step; exact hK)
          refine T_light (a' := ?_) 121 rfl rfl rfl (of_decide_eq_true rfl) rfl hHeld (fun wq hSq K Q hK => ?_) ?_
          rotate_left
          · ((obtain ⟨s1, s2⟩ := hSq; go_step); exact hK)
          refine T_call own15 122 [.pointer (some ⟨X, 0, none⟩), .int .i64 aa, .int .i64 nn] rfl rfl rfl rfl rfl ?_
          refine (C2 _ hX2').mono ?_
          rintro e w3 ⟨rfl, hX3, hB3⟩
          have hHeld : w3.cell? ⟨(ad.add (i * 4)).block, (ad.add (i * 4)).off + 1, none⟩ = some (.int .i64 aa) ∧ w3.cell? ⟨(ad.add (i * 4)).block, (ad.add (i * 4)).off + 2, none⟩ = some (.int .i64 nn) := ⟨(hB3.cell (World.block_lt_of_cell? w2 _ hHeld.1) m1).trans hHeld.1, (hB3.cell (World.block_lt_of_cell? w2 _ hHeld.2) m3).trans hHeld.2⟩
          have hA3 := hA2.drew.beside hB3 nA nB
          have hb3 : Below w.heap.size w w3 := Beside.to_below (bdrew (Beside.to_below (bdrew hb) hB2 nY)) hB3 nZ
          refine ⟨_, rfl, hHeld, ?_⟩
          simp only [Act.put, List.setIfInBounds_toArray, List.set_cons_zero, List.set_cons_succ]
          refine T_light (a' := ?_) 110 rfl rfl rfl (of_decide_eq_true rfl) rfl hHeld (fun wq hSq K Q hK => ?_) ?_
          rotate_left
          · (go_step; exact hK)
          refine T_light (a' := ?_) 123 rfl rfl rfl (of_decide_eq_true rfl) rfl hHeld (fun wq hSq K Q hK => ?_) ?_
          rotate_left
          · (go_step; exact hK)
          refine T_light (a' := ?_) 124 rfl rfl rfl (of_decide_eq_true rfl) rfl hHeld (fun wq hSq K Q hK => ?_) ?_
          rotate_left
          · (go_step; exact hK)
          refine T_light (a' := ?_) 11 rfl rfl rfl (of_decide_eq_true rfl) rfl hHeld (fun wq hSq K Q hK => ?_) ?_
          rotate_left
          · (go_step; exact hK)
          refine T_light (a' := ?_) 12 rfl rfl rfl (of_decide_eq_true rfl) rfl hHeld (fun wq hSq K Q hK => ?_) ?_
          rotate_left
          · (go_step; exact hK)
          refine T_done ?_
          clear q0 q1 q2 q3 n1 n3 nX m1 m3 hHeld hA hX hA2 hX2 hB2 hB3 hb C1 C2 nA nB nY nZ
          (try clear hH2 hX2')
          have HA3 := Lib.hid hA3
          have HX3 := Lib.hid hX3
          have HB3 := Lib.hid hb3
          clear hA3 hX3 hb3
          go_wp2_with fail
          refine (counts_ok HA3.out).mono ?_
          rintro e w4 ⟨rfl, nd, rfl⟩
          have k1 : (w3.drewN nd).cell? ⟨X, 1, none⟩ = some (.int .i64 ((r : Nat) : Int)) := (cell_of_row _ _ _ _ _ _ HX3.out).trans rfl
          have k2 : (w3.drewN nd).cell? ⟨X, 2, none⟩ = some (.int .i64 ((q : Nat) : Int)) := (cell_of_row _ _ _ _ _ _ HX3.out).trans rfl
          have k3 : (w3.drewN nd).cell? ⟨X, 3, none⟩ = some (.int .i64 ((b : Nat) : Int)) := (cell_of_row _ _ _ _ _ _ HX3.out).trans rfl
          obtain ⟨w4, hw4⟩ : ∃ w4, w4 = w3.drewN nd := ⟨_, rfl⟩
          have HP : Hid (PlayR w BA BB X n (i + 1) w4) := Lib.hid (by rw [hw4]; exact ⟨L, r, q, b, HA3.out.of_blocks rfl rfl, HX3.out, by exact HLN.out, HBD.out, bdrewN HB3.out nd⟩)
          rw [← hw4] at k1 k2 k3 ⊢
          clear hw4 HA3 HX3 HB3
          go_wp2_with fail
          (try simp only [e6])
          go_roundg g
          case measure => omega
          case rel => exact ⟨i + 1, eq_step' hg.out, by first | go_num | (rw [e6]; go_num), HP⟩
theorem plays_all (n : Int) (h0 : -9223372036854775808 ≤ n) (h1 : n < 9223372036854775808) (A : Option Addr) (c : Nat) (cs : List Cl) (hs : Short cs) (hl : cs.length ≤ 140737488351232) (hf : ∀ c ∈ cs, c.do_ < 256 ∧ (-9223372036854775808 ≤ c.at_ ∧ c.at_ < 9223372036854775808) ∧ (-9223372036854775808 ≤ c.n ∧ c.n < 9223372036854775808)) (w : World) (h : CallsAt w A cs) :
    Calls Try.prog 3 #[.int .i64 n, .slice A cs.length c] w fun e w' => e = .returned (.bool true) ∧ Below w.heap.size w w' := by
  cases hv : heavyB cs with
  | true => exact plays_alive n A c cs w h hs hl (.inl hv)
  | false =>
    by_cases hm : 4096 < n ∧ n ≤ 16777216
    · exact plays_alive n A c cs w h hs hl (.inr hm)
    · by_cases hn : n < 0 ∨ 16777216 < n
      · exact plays_nil n A c cs w h hs hl hv hn
      · obtain ⟨m, rfl⟩ : ∃ m : Nat, n = (m : Int) := ⟨n.toNat, by omega⟩
        exact plays_main m A c cs w h hs hl hv (fun c hc => (hf c hc).1) (by omega)
end Go.Proofs.Ytdfmfbbeokhaaaa
