/-
  Runs: what 'told' and its function come to (contracts, by hand).
-/
import Derived.Test.YtkoohabljjbliaaHand2
import Derived.Test.YtkoohabljjbliaaWWords
set_option linter.unusedSimpArgs false
set_option linter.unusedVariables false
namespace Go.Proofs.Ytkoohabljjbliaa
open Go.RowKit Go.Proofs.YtkoohabljjbliaaW.PrintWords
attribute [local go_sem] Oper.semAt_some

/-- how many stand at the head that are as the first one -/
def headN : List Int → Nat
  | [] => 0
  | v :: r => 1 + (r.takeWhile (· == v)).length
theorem headN_le (l : List Int) : headN l ≤ l.length := by
  cases l with
  | nil => simp [headN]
  | cons v r => simp only [headN, List.length_cons]; have := List.takeWhile_sublist (p := (· == v)) (l := r) |>.length_le; omega
/-- so many of a length -/
def oneL (v : Int) (n : Nat) : List (Int × Int) :=
  if v = 0 then (reps 18 11 138 n).1 ++ (reps 17 3 10 (reps 18 11 138 n).2).1 ++ List.replicate (reps 17 3 10 (reps 18 11 138 n).2).2 (0, 0)
  else (v, 0) :: ((reps 16 3 6 (n - 1)).1 ++ List.replicate (reps 16 3 6 (n - 1)).2 (v, 0))
/-- all the runs -/
def toldL (l : List Int) : List (Int × Int) :=
  match l with
  | [] => []
  | v :: r => oneL v (headN (v :: r)) ++ toldL ((v :: r).drop (headN (v :: r)))
termination_by l.length
decreasing_by simp [headN]; omega

/-- the box of the lengths that are left -/
abbrev lensAt (W : World) (B : Nat) (A : Option Addr) (n c : Nat) : Prop := W.heap[B]? = some (.cells #[.slice A n c] 22 (0, 0))
def leftAt (B : Nat) (W : World) : Nat := match W.cell? ⟨B, 0, none⟩ with | some (.slice _ n _) => n | _ => 0
theorem cell_box {w : World} {B : Nat} {u : Value} {t : TypeId} (h : w.heap[B]? = some (.cells #[u] t (0, 0))) : w.cell? ⟨B, 0, none⟩ = some u := by
  unfold World.cell?; rw [h]; rfl
theorem froz_box {w : World} {B : Nat} {u : Value} {t : TypeId} (h : w.heap[B]? = some (.cells #[u] t (0, 0))) : w.frozen? ⟨B, 0, none⟩ = false := by
  unfold World.frozen?; rw [h]; rfl
theorem leftAt_eq {B : Nat} {W : World} {A : Option Addr} {n c : Nat} (h : lensAt W B A n c) : leftAt B W = n := by unfold leftAt; rw [cell_box h]


theorem add_block (ad : Addr) (j : Nat) : (ad.add j).block = ad.block := by unfold Addr.add; split <;> rfl
theorem add_zero (ad : Addr) : ad.add 0 = ad := by unfold Addr.add; simp
/-- it lies low -/
abbrev Low (n₀ : Nat) (A : Option Addr) (n : Nat) : Prop := ∀ ad, A = some ad → 0 < n → ad.block < n₀
theorem reads_low {w w' : World} {A : Option Addr} {n n₀ : Nat} {xs : List Int} (h : ReadsInt w .u8 A n xs) (hl : Low n₀ A n) (hb : Below n₀ w w') : ReadsInt w' .u8 A n xs :=
  ⟨h.1, h.2.1, fun hn => by
    obtain ⟨ad, e, hc⟩ := h.2.2 hn
    exact ⟨ad, e, fun j hj => (hb.cell (p := ad.add j) (by rw [add_block]; exact hl ad e hn)).trans (hc j hj)⟩⟩
theorem cut22 (A : Option Addr) (n c m : Nat) (hm : m ≤ n) :
    ∃ A' : Option Addr, (∀ W : World, (Instr.slice 22 (.slice A n c) (some (.int .i64 (m : Int))) none none).run Try.prog W = .ok (.slice A' (n - m) (c - m)) W) ∧
      (∀ (w : World) (xs : List Int), n ≤ c → ReadsInt w .u8 A n xs → ReadsInt w .u8 A' (n - m) (xs.drop m)) ∧ ∀ n₀, Low n₀ A n → Low n₀ A' (n - m) := by
  have hi : (Try.prog.info? 5).map (·.size) = some 1 := by kernel_rfl
  obtain ⟨i5, h5, h5s⟩ := Option.map_eq_some_iff.1 hi
  refine ⟨if c = m then A else A.map (·.add m), fun W => ?_, fun w xs hc h => h.drop_ m hm hc, fun n₀ hl ad hA hn => ?_⟩
  · have hel : Try.prog.elem 22 = 5 := by kernel_rfl
    have hu : Try.prog.underlying 22 = some (.slice (Try.prog.elem 22)) := by rw [hel]; exact Try.underlying22
    rw [run_slice_l W 22 A n c hu .i64 (m : Int) (Int.natCast_nonneg _) (by omega), hel]
    simp [sizeOf, typeInfo, h5, h5s, sliced, Result.andThen]
  · split at hA
    · exact hl ad hA (by omega)
    · obtain ⟨ad0, e0, e1⟩ := Option.map_eq_some_iff.1 hA
      subst e1
      show (ad0.add m).block < n₀
      rw [add_block]; exact hl ad0 e0 (by omega)
theorem reps_len (s : Nat) {least most : Nat} (h0 : 0 < least) (h1 : least ≤ most) : ∀ (k n : Nat), n ≤ k → (reps s least most n).1.length + (reps s least most n).2 ≤ n := by
  intro k
  induction k with
  | zero => intro n hn; rw [reps_lt s (by omega)]; simp
  | succ k ih =>
    intro n hn
    by_cases h : n < least
    · rw [reps_lt s h]; simp
    · rw [reps_ge s h0 h1 (by omega)]
      have := ih (n - min n most) (by omega)
      simp only [List.length_cons]
      omega
theorem oneL_len (v : Int) (n : Nat) (hn : 0 < n) : (oneL v n).length ≤ n := by
  unfold oneL
  split
  · have a := reps_len 18 (least := 11) (most := 138) (by omega) (by omega) n n (Nat.le_refl _)
    have b := reps_len 17 (least := 3) (most := 10) (by omega) (by omega) _ (reps 18 11 138 n).2 (Nat.le_refl _)
    simp only [List.length_append, List.length_replicate]
    omega
  · have a := reps_len 16 (least := 3) (most := 6) (by omega) (by omega) (n - 1) (n - 1) (Nat.le_refl _)
    simp only [List.length_append, List.length_cons, List.length_replicate]
    omega
theorem headN_pos (v : Int) (r : List Int) : 1 ≤ headN (v :: r) := by simp [headN]
theorem takeWhile_get (v : Int) : ∀ (r : List Int) (k : Nat), k < (r.takeWhile (· == v)).length → r.getD k 0 = v := by
  intro r
  induction r with
  | nil => intro k h; simp at h
  | cons x r ih =>
    intro k h
    rw [List.takeWhile_cons] at h
    by_cases hx : x = v
    · subst hx
      simp only [beq_self_eq_true, if_true, List.length_cons] at h
      cases k with
      | zero => rfl
      | succ k => simpa using ih k (by omega)
    · rw [if_neg (by simpa using hx)] at h; simp at h
theorem takeWhile_end (v : Int) : ∀ (r : List Int), (r.takeWhile (· == v)).length < r.length → r.getD (r.takeWhile (· == v)).length 0 ≠ v := by
  intro r
  induction r with
  | nil => intro h; simp at h
  | cons x r ih =>
    intro h
    rw [List.takeWhile_cons] at h ⊢
    by_cases hx : x = v
    · subst hx
      simp only [beq_self_eq_true, if_true, List.length_cons] at h ⊢
      simpa using ih (by omega)
    · rw [if_neg (by simpa using hx)] at h ⊢
      simpa using hx
theorem head_get (v : Int) (r : List Int) (k : Nat) (h : k < headN (v :: r)) : (v :: r).getD k 0 = v := by
  cases k with
  | zero => rfl
  | succ k => simpa using takeWhile_get v r k (by simp only [headN] at h; omega)
theorem head_end (v : Int) (r : List Int) (h : headN (v :: r) < (v :: r).length) : (v :: r).getD (headN (v :: r)) 0 ≠ v := by
  have := takeWhile_end v r (by simp only [headN, List.length_cons] at h; omega)
  rw [show headN (v :: r) = (r.takeWhile (· == v)).length + 1 by simp only [headN]; omega]
  simpa using this
theorem told_step (v : Int) (r : List Int) : toldL (v :: r) = oneL v (headN (v :: r)) ++ toldL ((v :: r).drop (headN (v :: r))) := by rw [toldL]

theorem meas_up {N k : Nat} {x : Int} (h : k < N) (e : x = ((k + 1 : Nat) : Int)) : N - (intOf (.int .i64 x)).toNat < N - (intOf (.int .i64 (k : Int))).toNat := by
  subst e; simp only [intOf]; omega
theorem meas_down {m : Nat} : (intOf (.int .i64 (m : Int))).toNat < (intOf (.int .i64 ((m + 1 : Nat) : Int))).toNat := by simp only [intOf]; omega
/-- what holds between two steps: e told, rest left -/
structure Pst (J : List (Int × Int) → World → Prop) (B n₀ : Nat) (W : World) (A : Option Addr) (n c : Nat) (e : List (Int × Int)) (rest : List Int) : Prop where
  box : lensAt W B A n c
  j : J e W
  reads : ReadsInt W .u8 A n rest
  size : n₀ ≤ W.heap.size
  low : Low n₀ A n
theorem Pst.next {J : List (Int × Int) → World → Prop} {B n₀ n c : Nat} {W W' : World} {A : Option Addr} {e e' : List (Int × Int)} {rest : List Int} (h : Pst J B n₀ W A n c e rest) (k : Keep n₀ W W') (hj : J e' W') : Pst J B n₀ W' A n c e' rest :=
  ⟨k.cells _ _ _ _ h.box (by decide) (by decide), hj, reads_low h.reads h.low k.below, Nat.le_trans h.size k.below.size, h.low⟩
theorem box_set {W : World} {B : Nat} {u u' : Value} {t : TypeId} (h : W.heap[B]? = some (.cells #[u] t (0, 0))) : (W.setCell ⟨B, 0, none⟩ u').heap[B]? = some (.cells #[u'] t (0, 0)) := by
  obtain ⟨hlt, hk⟩ := Array.getElem?_eq_some_iff.1 h
  show (W.heap.modify B _)[B]? = _
  rw [Array.getElem?_eq_getElem (by rw [Array.size_modify]; exact hlt), Array.getElem_modify_self, hk]
  rfl
theorem Pst.set {J : List (Int × Int) → World → Prop} {B n₀ n c n' c' : Nat} {W : World} {A A' : Option Addr} {e : List (Int × Int)} {rest rest' : List Int} (h : Pst J B n₀ W A n c e rest)
    (hJ2 : ∀ s A v, J s A → J s (A.setCell ⟨B, 0, none⟩ v)) (hB : n₀ ≤ B) (hr : ReadsInt W .u8 A' n' rest') (hl : Low n₀ A' n') : Pst J B n₀ (W.setCell ⟨B, 0, none⟩ (.slice A' n' c')) A' n' c' e rest' :=
  ⟨box_set h.box, hJ2 _ _ _ h.j, reads_low hr hl ((Below.refl n₀ W).setCell (p := ⟨B, 0, none⟩) hB _), by simpa [World.setCell] using h.size, hl⟩
theorem room1 {a n N b : Nat} (h : a + n ≤ N) (hb : b ≤ n) : a + b ≤ N := by omega
theorem reps_app (s : Nat) (a : Nat) {least most n N : Nat} (h0 : 0 < least) (h1 : least ≤ most) (e : List (Int × Int)) (h : e.length + n ≤ N) : (e ++ (reps s least most n).1).length + (reps s least most n).2 ≤ N := by
  have := reps_len s h0 h1 n n (Nat.le_refl _)
  rw [List.length_append]; omega
theorem reps_le (s : Nat) {least most n : Nat} (h0 : 0 < least) (h1 : least ≤ most) : (reps s least most n).2 ≤ n := by
  have := reps_len s h0 h1 n n (Nat.le_refl _)
  omega
theorem rep_snoc (v : Int) (j : Nat) : List.replicate j ((v, 0) : Int × Int) ++ [(v, 0)] = List.replicate (j + 1) (v, 0) := by rw [List.replicate_succ']
theorem rep_room {e : List (Int × Int)} {N T m j : Nat} (v : Int) (h : e.length + T ≤ N) (hm : m + 1 + j = T) : (e ++ List.replicate j (v, 0)).length < N := by rw [List.length_append, List.length_replicate]; omega
theorem wr_sub (m : Nat) (h : m < 4000) : wrap64 (((m + 1 : Nat) : Int) - 1) = (m : Int) := by unfold wrap64; omega
theorem drop_len {l : List Int} {N k : Nat} (h : N = l.length) : N - k = (l.drop k).length := by rw [h, List.length_drop]
theorem done_len {e o : List (Int × Int)} {N k L : Nat} (h : e.length + N ≤ L) (ho : o.length ≤ k) (hk : k ≤ N) : (e ++ o).length + (N - k) ≤ L := by rw [List.length_append]; omega
theorem done_meas {B : Nat} {wx wr : World} {A A' : Option Addr} {n c c' k : Nat} (h : lensAt wx B A' (n - k) c') (h' : lensAt wr B A n c) (hk : 1 ≤ k) (hn : 0 < n) : leftAt B wx < leftAt B wr := by
  rw [leftAt_eq h, leftAt_eq h']; omega
theorem mb {m j T : Nat} (h : m + 1 + j = T) (hT : T ≤ 2000) : m < 4000 := by omega
theorem wr_id (m : Nat) (h : m < 4000) : wrap64 (m : Int) = (m : Int) := by unfold wrap64; omega
theorem meas_dn {m : Nat} {x : Int} (h : x = (m : Int)) : (intOf (.int .i64 x)).toNat < (intOf (.int .i64 ((m : Int) + 1))).toNat := by subst h; simp only [intOf]; omega
theorem dpos (m : Nat) : decide ((0 : Int) < (m : Int) + 1) = true := by rw [decide_eq_true_eq]; omega
theorem mj (m j T : Nat) (h : m + 1 + j = T) : m + (j + 1) = T := by omega
theorem big {k : Nat} (h : k ≤ 2000) : k < 4611686018427387904 := by omega
theorem oneL_zero (k : Nat) : oneL 0 k = (reps 18 11 138 k).1 ++ (reps 17 3 10 (reps 18 11 138 k).2).1 ++ List.replicate (reps 17 3 10 (reps 18 11 138 k).2).2 (0, 0) := if_pos rfl
theorem oneL_other {v : Int} (hv : ¬ v = 0) (k : Nat) : oneL v k = (v, 0) :: ((reps 16 3 6 (k - 1)).1 ++ List.replicate (reps 16 3 6 (k - 1)).2 (v, 0)) := if_neg hv
theorem room2 {e : List (Int × Int)} {k N : Nat} (x : Int × Int) (h : e.length + k ≤ N) (hk : 1 ≤ k) : (e ++ [x]).length + (k - 1) ≤ N := by rw [List.length_append, List.length_singleton]; omega
theorem room3 {e : List (Int × Int)} {k N : Nat} (h : e.length + k ≤ N) (hk : 1 ≤ k) : e.length < N := by omega
theorem wr_pred (k : Nat) (h : k ≤ 2000) (hk : 1 ≤ k) : wrap64 ((k : Int) - 1) = ((k - 1 : Nat) : Int) := by unfold wrap64; omega
set_option maxHeartbeats 4000000 in
theorem told1_any (l B n₀ : Nat) (l0 : List Int) (J : List (Int × Int) → World → Prop) (hJ : ∀ s A B, J s A → Below A.heap.size A B → J s B)
    (hJ2 : ∀ s A v, J s A → J s (A.setCell ⟨B, 0, none⟩ v)) (hY : Rounds l l0.length n₀ J) (hl : l0.length ≤ 2000) (W : World) (A0 : Option Addr) (c0 : Nat) (hBn : n₀ ≤ B) (hn₀ : n₀ ≤ W.heap.size)
    (hB : lensAt W B A0 l0.length c0) (hc0 : l0.length ≤ c0) (hr : ReadsInt W .u8 A0 l0.length l0) (hA : Low n₀ A0 l0.length) (h0 : J [] W) :
    Calls Try.prog 21 #[.func (.yield l) #[] #[], .pointer (some ⟨B, 0, none⟩)] W fun e W' => (∃ v, e = .returned v) ∧ J (toldL l0) W' := by
  have HJ := Lib.hid hJ
  have HJ2 := Lib.hid hJ2
  have HY := Lib.hid hY
  have HL := Lib.hid (And.intro hl (And.intro hBn hn₀))
  have HB := Lib.hid (And.intro hB (And.intro hc0 (And.intro hr hA)))
  have H0 := Lib.hid h0
  clear hJ hJ2 hY hl hBn hn₀ hB hc0 hr hA h0
  go_enter Try.func21, Try.ntmps21
  refine (wpIn_wide (n := 0)).1 ?_
  gi_wp2
  gi_loopw [3] (fun s3 wr => ∃ (rest : List Int) (e : List (Int × Int)) (A : Option Addr) (N c : Nat), Hid (toldL l0 = e ++ toldL rest) ∧ Hid (e.length + N ≤ l0.length ∧ N = rest.length ∧ N ≤ c) ∧ Hid (Pst J B n₀ wr A N c e rest))
    (fun s3 wr => leftAt B wr)
  case atStart => exact ⟨l0, [], A0, l0.length, c0, Lib.hid (by simp), Lib.hid ⟨by simp, rfl, HB.out.2.1⟩, Lib.hid ⟨HB.out.1, H0.out, HB.out.2.2.1, HL.out.2.2, HB.out.2.2.2⟩⟩
  case round =>
    clear HB H0
    obtain ⟨rest, e, A, N, c, HT, HLE, HP⟩ := hrel
    have q1 := cell_box HP.out.box
    have q2 := froz_box HP.out.box
    cases rest with
    | nil =>
      obtain rfl : N = 0 := HLE.out.2.1
      gi_wp2
      go_end0
      exact ⟨⟨_, rfl⟩, by have := HT.out; rw [show toldL [] = [] by rw [toldL]] at this; rw [this]; simpa using HP.out.j⟩
    | cons v r =>
      have hN0 : 0 < N := by have := HLE.out.2.1; simp at this; omega
      have dN : decide (0 < N) = true := by simpa using hN0
      have dN2 : decide ((0 : Int) < (N : Int)) = true := by simpa using hN0
      obtain ⟨ad, hAd, hcs⟩ := HP.out.reads.2.2 hN0
      subst hAd
      have qc : wr.cell? ad = some (.int .u8 v) := by have := hcs 0 hN0; rw [add_zero] at this; simpa using this
      have HC := Lib.hid hcs
      have HH := Lib.hid (And.intro (headN_pos v r) (Nat.le_trans (headN_le (v :: r)) (Nat.le_of_eq HLE.out.2.1.symm)))
      have HN0 := Lib.hid hN0
      clear hcs
      gi_wp2
      gi_loopw [4] (fun s4 wx => ∃ k : Nat, s4 = .int .i64 (k : Int) ∧ Hid (1 ≤ k ∧ k ≤ headN (v :: r)) ∧ wx = wr) (fun s4 wx => N - (intOf s4).toNat)
      case atStart => exact ⟨1, rfl, Lib.hid ⟨Nat.le_refl _, HH.out.1⟩, rfl⟩
      case round =>
        obtain ⟨k, rfl, HK, rfl⟩ := hrel
        have hkN : k ≤ N := Nat.le_trans HK.out.2 HH.out.2
        by_cases hk : k < headN (v :: r)
        · have hk1 : k < N := Nat.lt_of_lt_of_le hk HH.out.2
          have dk : decide (k < N) = true := by rw [decide_eq_true_eq]; exact hk1
          have dk2 : decide ((k : Int) < (N : Int)) = true := by rw [decide_eq_true_eq]; omega
          have qk := HC.out k hk1
          rw [head_get v r k hk] at qk
          have EK := Lib.hid (show wrap64 ((k : Int) + 1) = ((k + 1 : Nat) : Int) by have := HL.out.1; have := HLE.out.1; unfold wrap64; omega)
          have HK1 := Lib.hid hk
          have HK2 := Lib.hid hk1
          have hkk : k < N := hk1
          clear hk hk1 hkN
          gi_wp2
          go_roundw
          case rel => exact ⟨k + 1, by rw [EK.out], Lib.hid ⟨Nat.le_add_left 1 k, HK1.out⟩, trivial⟩
          case measure => exact meas_up HK2.out EK.out
        · have hkh : k = headN (v :: r) := Nat.le_antisymm HK.out.2 (Nat.le_of_not_lt hk)
          obtain ⟨A', hcut, hrd, hlow⟩ := cut22 (some ad) N c k hkN
          have HP1 := Lib.hid (HP.out.set (c' := c - k) HJ2.out HL.out.2.1 (hrd _ _ HLE.out.2.2 HP.out.reads) (hlow _ HP.out.low))
          have HKN := Lib.hid hkN
          have HKH := Lib.hid hkh
          have HR1 := Lib.hid (room1 HLE.out.1 hkN)
          have HK2 := Lib.hid (show k ≤ 2000 by have := HL.out.1; have := HLE.out.1; omega)
          have HTS := Lib.hid (hkh ▸ told_step v r)
          have HOL := Lib.hid (oneL_len v k HK.out.1)
          clear hrd hlow hk
          by_cases hkl : k < N
          · have dk : decide (k < N) = true := by rw [decide_eq_true_eq]; exact hkl
            have dk2 : decide ((k : Int) < (N : Int)) = true := by rw [decide_eq_true_eq]; omega
            have qk := HC.out k hkl
            have hne := head_end v r (by rw [← hkh, ← HLE.out.2.1]; exact hkl)
            rw [← hkh] at hne
            obtain ⟨x, hx⟩ : ∃ x, (v :: r).getD k 0 = x := ⟨_, rfl⟩
            rw [hx] at hne qk
            clear hx hkh hkN
            by_cases hv : v = 0
            · subst hv
              gi_wp2
              obtain ⟨W1, hW1⟩ : ∃ W1, wr.setCell ⟨B, 0, none⟩ (.slice A' (N - k) (c - k)) = W1 := ⟨_, rfl⟩
              rw [hW1] at HP1 ⊢
              clear hW1
              obtain ⟨n2, hn2⟩ : ∃ n2, (reps 18 11 138 k).2 = n2 := ⟨_, rfl⟩
              obtain ⟨X2, hX2⟩ : ∃ X2, (reps 18 11 138 k).1 = X2 := ⟨_, rfl⟩
              obtain ⟨n3, hn3⟩ : ∃ n3, (reps 17 3 10 n2).2 = n3 := ⟨_, rfl⟩
              obtain ⟨X3, hX3⟩ : ∃ X3, (reps 17 3 10 n2).1 = X3 := ⟨_, rfl⟩
              have HOE := Lib.hid (show oneL 0 k = X2 ++ X3 ++ List.replicate n3 (0, 0) by rw [oneL_zero, hn2, hX2, hn3, hX3])
              have HR2 := Lib.hid (show (e ++ X2).length + n2 ≤ l0.length by have := reps_app 18 0 (least := 11) (most := 138) (by decide) (by decide) e HR1.out; rwa [hn2, hX2] at this)
              have HROOM := Lib.hid (show (e ++ X2 ++ X3).length + n3 ≤ l0.length by have := reps_app 17 0 (least := 3) (most := 10) (by decide) (by decide) (e ++ X2) HR2.out; rwa [hn3, hX3] at this)
              have HB2 := Lib.hid (show n2 ≤ 2000 by rw [← hn2]; exact Nat.le_trans (reps_le 18 (least := 11) (most := 138) (by decide) (by decide)) HK2.out)
              have HTB := Lib.hid (show n3 ≤ 2000 by rw [← hn3]; exact Nat.le_trans (reps_le 17 (least := 3) (most := 10) (by decide) (by decide)) HB2.out)
              have C2 := fun W h h' => (callsIn_wide (n := 0)).2 (repeats_18 l l0.length n₀ k J HJ.out HY.out e W h HR1.out (big HK2.out) h')
              rw [hn2, hX2] at C2
              have C3 := fun W h h' => (callsIn_wide (n := 0)).2 (repeats_17 l l0.length n₀ n2 J HJ.out HY.out (e ++ X2) W h HR2.out (big HB2.out) h')
              rw [hn3, hX3] at C3
              have HC3 := Lib.hid C3
              clear hn2 hX2 hn3 hX3 C3
              refine ⟨trivial, rfl, (C2 W1 HP1.out.size HP1.out.j).mono ?_⟩
              rintro e1 W2 ⟨rfl, hj, hk⟩
              have HP2 := Lib.hid (HP1.out.next hk hj)
              clear hj hk C2 HP1
              gi_wp2
              refine ⟨trivial, rfl, (HC3.out W2 HP2.out.size HP2.out.j).mono ?_⟩
              rintro e1 W3 ⟨rfl, hj, hk⟩
              have HPX := Lib.hid (HP2.out.next hk hj)
              clear hj hk HC3 HP2
              gi_wp2
              gi_loopw [4, 5] (fun s4 s5 wx => ∃ m j : Nat, s4 = .int .i64 (m : Int) ∧ s5 = .bool true ∧ Hid (m + j = n3) ∧ Hid (Pst J B n₀ wx A' (N - k) (c - k) ((e ++ X2 ++ X3) ++ List.replicate j (0, 0)) ((0 :: r).drop k))) (fun s4 s5 wx => (intOf s4).toNat)
              case atStart => exact ⟨_, 0, rfl, rfl, Lib.hid rfl, Lib.hid (by rw [List.replicate_zero, List.append_nil]; exact HPX.out)⟩
              case round =>
                clear HPX q1 q2 qc hcut dN dN2 dk dk2 hN0
                (try clear qk)
                (try clear hne)
                obtain ⟨m, j, rfl, rfl, HM, HPm⟩ := hrel
                cases m with
                | zero =>
                  gi_wp2
                  go_roundw
                  case rel => exact ⟨_, _, _, _, _, Lib.hid (by rw [HT.out, HTS.out, ← List.append_assoc]), Lib.hid ⟨done_len HLE.out.1 HOL.out HKN.out, drop_len HLE.out.2.1, Nat.sub_le_sub_right HLE.out.2.2 k⟩, Lib.hid (by have hm0 := HM.out; rw [Nat.zero_add] at hm0; have hp := HPm.out; rw [hm0] at hp; rw [HOE.out]; simpa only [List.append_assoc, List.cons_append, List.nil_append] using hp)⟩
                  case measure => exact done_meas HPm.out.box HP.out.box HK.out.1 HN0.out
                | succ m =>
                  obtain ⟨fn, tmps, assign, body, hy, hR⟩ := HY.out ((e ++ X2 ++ X3) ++ List.replicate j (0, 0)) (0, 0) wr HPm.out.j (rep_room 0 HROOM.out HM.out)
                  have dm := dpos m
                  have EM := Lib.hid (wr_id m (mb HM.out HTB.out))
                  rw [show ((m + 1 : Nat) : Int) = (m : Int) + 1 by rfl]
                  gi_wp2
                  refine ⟨rfl, hR.mono ?_⟩
                  rintro e' W' ⟨rfl, hJ', hK'⟩
                  have HPm2 := Lib.hid (HPm.out.next hK' hJ')
                  clear hJ' hK' hy hR dm
                  gi_wp2
                  go_roundw
                  case rel => exact ⟨m, j + 1, by rw [EM.out], rfl, Lib.hid (mj _ _ _ HM.out), Lib.hid (by have := HPm2.out; rw [List.append_assoc, rep_snoc] at this; exact this)⟩
                  case measure => exact meas_dn EM.out
            · obtain ⟨fn, tmps, assign, body, hy, hR⟩ := HY.out e (v, 0) _ HP1.out.j (room3 HR1.out HK.out.1)
              gi_wp2
              refine ⟨rfl, hR.mono ?_⟩
              rintro e1 W2 ⟨rfl, hj, hk⟩
              have HP2 := Lib.hid (HP1.out.next hk hj)
              clear hj hk hy hR HP1
              obtain ⟨n2, hn2⟩ : ∃ n2, (reps 16 3 6 (k - 1)).2 = n2 := ⟨_, rfl⟩
              obtain ⟨X2, hX2⟩ : ∃ X2, (reps 16 3 6 (k - 1)).1 = X2 := ⟨_, rfl⟩
              have HOE := Lib.hid (show oneL v k = (v, 0) :: (X2 ++ List.replicate n2 (v, 0)) by rw [oneL_other hv, hn2, hX2])
              have HR2 := Lib.hid (room2 (v, 0) HR1.out HK.out.1)
              have HROOM := Lib.hid (show (e ++ [(v, 0)] ++ X2).length + n2 ≤ l0.length by have := reps_app 16 0 (least := 3) (most := 6) (by decide) (by decide) (e ++ [(v, 0)]) HR2.out; rwa [hn2, hX2] at this)
              have HTB := Lib.hid (show n2 ≤ 2000 by rw [← hn2]; exact Nat.le_trans (reps_le 16 (least := 3) (most := 6) (by decide) (by decide)) (Nat.le_trans (Nat.sub_le k 1) HK2.out))
              have C2 := fun W h h' => (callsIn_wide (n := 0)).2 (repeats_16 l l0.length n₀ (k - 1) J HJ.out HY.out (e ++ [(v, 0)]) W h HR2.out (big (Nat.le_trans (Nat.sub_le k 1) HK2.out)) h')
              rw [hn2, hX2, ← wr_pred k HK2.out HK.out.1] at C2
              have HC2 := Lib.hid C2
              clear hn2 hX2 C2
              gi_wp2
              refine ⟨trivial, rfl, (HC2.out W2 HP2.out.size HP2.out.j).mono ?_⟩
              rintro e1 W3 ⟨rfl, hj, hk⟩
              have HPX := Lib.hid (HP2.out.next hk hj)
              clear hj hk HC2 HP2
              gi_wp2
              gi_loopw [4, 5] (fun s4 s5 wx => ∃ m j : Nat, s4 = .int .i64 (m : Int) ∧ s5 = .bool true ∧ Hid (m + j = n2) ∧ Hid (Pst J B n₀ wx A' (N - k) (c - k) ((e ++ [(v, 0)] ++ X2) ++ List.replicate j (v, 0)) ((v :: r).drop k))) (fun s4 s5 wx => (intOf s4).toNat)
              case atStart => exact ⟨_, 0, rfl, rfl, Lib.hid rfl, Lib.hid (by rw [List.replicate_zero, List.append_nil]; exact HPX.out)⟩
              case round =>
                clear HPX q1 q2 qc hcut dN dN2 dk dk2 hN0
                (try clear qk)
                (try clear hne)
                obtain ⟨m, j, rfl, rfl, HM, HPm⟩ := hrel
                cases m with
                | zero =>
                  gi_wp2
                  go_roundw
                  case rel => exact ⟨_, _, _, _, _, Lib.hid (by rw [HT.out, HTS.out, ← List.append_assoc]), Lib.hid ⟨done_len HLE.out.1 HOL.out HKN.out, drop_len HLE.out.2.1, Nat.sub_le_sub_right HLE.out.2.2 k⟩, Lib.hid (by have hm0 := HM.out; rw [Nat.zero_add] at hm0; have hp := HPm.out; rw [hm0] at hp; rw [HOE.out]; simpa only [List.append_assoc, List.cons_append, List.nil_append] using hp)⟩
                  case measure => exact done_meas HPm.out.box HP.out.box HK.out.1 HN0.out
                | succ m =>
                  obtain ⟨fn, tmps, assign, body, hy, hR⟩ := HY.out ((e ++ [(v, 0)] ++ X2) ++ List.replicate j (v, 0)) (v, 0) wr HPm.out.j (rep_room v HROOM.out HM.out)
                  have dm := dpos m
                  have EM := Lib.hid (wr_id m (mb HM.out HTB.out))
                  rw [show ((m + 1 : Nat) : Int) = (m : Int) + 1 by rfl]
                  gi_wp2
                  refine ⟨rfl, hR.mono ?_⟩
                  rintro e' W' ⟨rfl, hJ', hK'⟩
                  have HPm2 := Lib.hid (HPm.out.next hK' hJ')
                  clear hJ' hK' hy hR dm
                  gi_wp2
                  go_roundw
                  case rel => exact ⟨m, j + 1, by rw [EM.out], rfl, Lib.hid (mj _ _ _ HM.out), Lib.hid (by have := HPm2.out; rw [List.append_assoc, rep_snoc] at this; exact this)⟩
                  case measure => exact meas_dn EM.out

          · have dk : decide (k < N) = false := by rw [decide_eq_false_iff_not]; exact hkl
            have dk2 : decide ((k : Int) < (N : Int)) = false := by rw [decide_eq_false_iff_not]; omega
            clear hkN hkl hkh
            by_cases hv : v = 0
            · subst hv
              gi_wp2
              obtain ⟨W1, hW1⟩ : ∃ W1, wr.setCell ⟨B, 0, none⟩ (.slice A' (N - k) (c - k)) = W1 := ⟨_, rfl⟩
              rw [hW1] at HP1 ⊢
              clear hW1
              obtain ⟨n2, hn2⟩ : ∃ n2, (reps 18 11 138 k).2 = n2 := ⟨_, rfl⟩
              obtain ⟨X2, hX2⟩ : ∃ X2, (reps 18 11 138 k).1 = X2 := ⟨_, rfl⟩
              obtain ⟨n3, hn3⟩ : ∃ n3, (reps 17 3 10 n2).2 = n3 := ⟨_, rfl⟩
              obtain ⟨X3, hX3⟩ : ∃ X3, (reps 17 3 10 n2).1 = X3 := ⟨_, rfl⟩
              have HOE := Lib.hid (show oneL 0 k = X2 ++ X3 ++ List.replicate n3 (0, 0) by rw [oneL_zero, hn2, hX2, hn3, hX3])
              have HR2 := Lib.hid (show (e ++ X2).length + n2 ≤ l0.length by have := reps_app 18 0 (least := 11) (most := 138) (by decide) (by decide) e HR1.out; rwa [hn2, hX2] at this)
              have HROOM := Lib.hid (show (e ++ X2 ++ X3).length + n3 ≤ l0.length by have := reps_app 17 0 (least := 3) (most := 10) (by decide) (by decide) (e ++ X2) HR2.out; rwa [hn3, hX3] at this)
              have HB2 := Lib.hid (show n2 ≤ 2000 by rw [← hn2]; exact Nat.le_trans (reps_le 18 (least := 11) (most := 138) (by decide) (by decide)) HK2.out)
              have HTB := Lib.hid (show n3 ≤ 2000 by rw [← hn3]; exact Nat.le_trans (reps_le 17 (least := 3) (most := 10) (by decide) (by decide)) HB2.out)
              have C2 := fun W h h' => (callsIn_wide (n := 0)).2 (repeats_18 l l0.length n₀ k J HJ.out HY.out e W h HR1.out (big HK2.out) h')
              rw [hn2, hX2] at C2
              have C3 := fun W h h' => (callsIn_wide (n := 0)).2 (repeats_17 l l0.length n₀ n2 J HJ.out HY.out (e ++ X2) W h HR2.out (big HB2.out) h')
              rw [hn3, hX3] at C3
              have HC3 := Lib.hid C3
              clear hn2 hX2 hn3 hX3 C3
              refine ⟨trivial, rfl, (C2 W1 HP1.out.size HP1.out.j).mono ?_⟩
              rintro e1 W2 ⟨rfl, hj, hk⟩
              have HP2 := Lib.hid (HP1.out.next hk hj)
              clear hj hk C2 HP1
              gi_wp2
              refine ⟨trivial, rfl, (HC3.out W2 HP2.out.size HP2.out.j).mono ?_⟩
              rintro e1 W3 ⟨rfl, hj, hk⟩
              have HPX := Lib.hid (HP2.out.next hk hj)
              clear hj hk HC3 HP2
              gi_wp2
              gi_loopw [4, 5] (fun s4 s5 wx => ∃ m j : Nat, s4 = .int .i64 (m : Int) ∧ s5 = .bool true ∧ Hid (m + j = n3) ∧ Hid (Pst J B n₀ wx A' (N - k) (c - k) ((e ++ X2 ++ X3) ++ List.replicate j (0, 0)) ((0 :: r).drop k))) (fun s4 s5 wx => (intOf s4).toNat)
              case atStart => exact ⟨_, 0, rfl, rfl, Lib.hid rfl, Lib.hid (by rw [List.replicate_zero, List.append_nil]; exact HPX.out)⟩
              case round =>
                clear HPX q1 q2 qc hcut dN dN2 dk dk2 hN0
                (try clear qk)
                (try clear hne)
                obtain ⟨m, j, rfl, rfl, HM, HPm⟩ := hrel
                cases m with
                | zero =>
                  gi_wp2
                  go_roundw
                  case rel => exact ⟨_, _, _, _, _, Lib.hid (by rw [HT.out, HTS.out, ← List.append_assoc]), Lib.hid ⟨done_len HLE.out.1 HOL.out HKN.out, drop_len HLE.out.2.1, Nat.sub_le_sub_right HLE.out.2.2 k⟩, Lib.hid (by have hm0 := HM.out; rw [Nat.zero_add] at hm0; have hp := HPm.out; rw [hm0] at hp; rw [HOE.out]; simpa only [List.append_assoc, List.cons_append, List.nil_append] using hp)⟩
                  case measure => exact done_meas HPm.out.box HP.out.box HK.out.1 HN0.out
                | succ m =>
                  obtain ⟨fn, tmps, assign, body, hy, hR⟩ := HY.out ((e ++ X2 ++ X3) ++ List.replicate j (0, 0)) (0, 0) wr HPm.out.j (rep_room 0 HROOM.out HM.out)
                  have dm := dpos m
                  have EM := Lib.hid (wr_id m (mb HM.out HTB.out))
                  rw [show ((m + 1 : Nat) : Int) = (m : Int) + 1 by rfl]
                  gi_wp2
                  refine ⟨rfl, hR.mono ?_⟩
                  rintro e' W' ⟨rfl, hJ', hK'⟩
                  have HPm2 := Lib.hid (HPm.out.next hK' hJ')
                  clear hJ' hK' hy hR dm
                  gi_wp2
                  go_roundw
                  case rel => exact ⟨m, j + 1, by rw [EM.out], rfl, Lib.hid (mj _ _ _ HM.out), Lib.hid (by have := HPm2.out; rw [List.append_assoc, rep_snoc] at this; exact this)⟩
                  case measure => exact meas_dn EM.out
            · obtain ⟨fn, tmps, assign, body, hy, hR⟩ := HY.out e (v, 0) _ HP1.out.j (room3 HR1.out HK.out.1)
              gi_wp2
              refine ⟨rfl, hR.mono ?_⟩
              rintro e1 W2 ⟨rfl, hj, hk⟩
              have HP2 := Lib.hid (HP1.out.next hk hj)
              clear hj hk hy hR HP1
              obtain ⟨n2, hn2⟩ : ∃ n2, (reps 16 3 6 (k - 1)).2 = n2 := ⟨_, rfl⟩
              obtain ⟨X2, hX2⟩ : ∃ X2, (reps 16 3 6 (k - 1)).1 = X2 := ⟨_, rfl⟩
              have HOE := Lib.hid (show oneL v k = (v, 0) :: (X2 ++ List.replicate n2 (v, 0)) by rw [oneL_other hv, hn2, hX2])
              have HR2 := Lib.hid (room2 (v, 0) HR1.out HK.out.1)
              have HROOM := Lib.hid (show (e ++ [(v, 0)] ++ X2).length + n2 ≤ l0.length by have := reps_app 16 0 (least := 3) (most := 6) (by decide) (by decide) (e ++ [(v, 0)]) HR2.out; rwa [hn2, hX2] at this)
              have HTB := Lib.hid (show n2 ≤ 2000 by rw [← hn2]; exact Nat.le_trans (reps_le 16 (least := 3) (most := 6) (by decide) (by decide)) (Nat.le_trans (Nat.sub_le k 1) HK2.out))
              have C2 := fun W h h' => (callsIn_wide (n := 0)).2 (repeats_16 l l0.length n₀ (k - 1) J HJ.out HY.out (e ++ [(v, 0)]) W h HR2.out (big (Nat.le_trans (Nat.sub_le k 1) HK2.out)) h')
              rw [hn2, hX2, ← wr_pred k HK2.out HK.out.1] at C2
              have HC2 := Lib.hid C2
              clear hn2 hX2 C2
              gi_wp2
              refine ⟨trivial, rfl, (HC2.out W2 HP2.out.size HP2.out.j).mono ?_⟩
              rintro e1 W3 ⟨rfl, hj, hk⟩
              have HPX := Lib.hid (HP2.out.next hk hj)
              clear hj hk HC2 HP2
              gi_wp2
              gi_loopw [4, 5] (fun s4 s5 wx => ∃ m j : Nat, s4 = .int .i64 (m : Int) ∧ s5 = .bool true ∧ Hid (m + j = n2) ∧ Hid (Pst J B n₀ wx A' (N - k) (c - k) ((e ++ [(v, 0)] ++ X2) ++ List.replicate j (v, 0)) ((v :: r).drop k))) (fun s4 s5 wx => (intOf s4).toNat)
              case atStart => exact ⟨_, 0, rfl, rfl, Lib.hid rfl, Lib.hid (by rw [List.replicate_zero, List.append_nil]; exact HPX.out)⟩
              case round =>
                clear HPX q1 q2 qc hcut dN dN2 dk dk2 hN0
                (try clear qk)
                (try clear hne)
                obtain ⟨m, j, rfl, rfl, HM, HPm⟩ := hrel
                cases m with
                | zero =>
                  gi_wp2
                  go_roundw
                  case rel => exact ⟨_, _, _, _, _, Lib.hid (by rw [HT.out, HTS.out, ← List.append_assoc]), Lib.hid ⟨done_len HLE.out.1 HOL.out HKN.out, drop_len HLE.out.2.1, Nat.sub_le_sub_right HLE.out.2.2 k⟩, Lib.hid (by have hm0 := HM.out; rw [Nat.zero_add] at hm0; have hp := HPm.out; rw [hm0] at hp; rw [HOE.out]; simpa only [List.append_assoc, List.cons_append, List.nil_append] using hp)⟩
                  case measure => exact done_meas HPm.out.box HP.out.box HK.out.1 HN0.out
                | succ m =>
                  obtain ⟨fn, tmps, assign, body, hy, hR⟩ := HY.out ((e ++ [(v, 0)] ++ X2) ++ List.replicate j (v, 0)) (v, 0) wr HPm.out.j (rep_room v HROOM.out HM.out)
                  have dm := dpos m
                  have EM := Lib.hid (wr_id m (mb HM.out HTB.out))
                  rw [show ((m + 1 : Nat) : Int) = (m : Int) + 1 by rfl]
                  gi_wp2
                  refine ⟨rfl, hR.mono ?_⟩
                  rintro e' W' ⟨rfl, hJ', hK'⟩
                  have HPm2 := Lib.hid (HPm.out.next hK' hJ')
                  clear hJ' hK' hy hR dm
                  gi_wp2
                  go_roundw
                  case rel => exact ⟨m, j + 1, by rw [EM.out], rfl, Lib.hid (mj _ _ _ HM.out), Lib.hid (by have := HPm2.out; rw [List.append_assoc, rep_snoc] at this; exact this)⟩
                  case measure => exact meas_dn EM.out

end Go.Proofs.Ytkoohabljjbliaa
