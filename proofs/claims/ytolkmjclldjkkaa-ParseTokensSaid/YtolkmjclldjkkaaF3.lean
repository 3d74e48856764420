/-
  Chain: what 'long' comes to (a contract, by hand).
-/
import Derived.Test.YtolkmjclldjkkaaF2
set_option linter.unusedSimpArgs false
set_option linter.unusedVariables false
namespace Go.Proofs.Ytolkmjclldjkkaa
open Go.RowKit

/-- how long two places go on alike, from n on, f bytes more at most -/
def longGo (L : List Nat) (p at_ : Nat) : Nat → Nat → Nat
  | n, 0 => n
  | n, f + 1 => if at_ + n < L.length ∧ L.getD (p + n) 0 = L.getD (at_ + n) 0 then longGo L p at_ (n + 1) f else n
/-- how long a candidate is -/
def longL (L : List Nat) (p at_ : Nat) : Nat := longGo L p at_ 0 258
theorem idx_byte (s : ByteArray) (i : Nat) (h : i < s.size) : (s[i]'h).toNat = (byteL s).getD i 0 := by
  have h' : i < s.data.toList.length := by rw [Array.length_toList]; exact h
  simp only [byteL, List.getD_eq_getElem?_getD, List.getElem?_map, List.getElem?_eq_getElem h', Option.map_some, Option.getD_some, Array.getElem_toList]
  rfl
set_option maxHeartbeats 1000000 in
theorem long_any (p at_ : Nat) (A : Nat) (s : ByteArray) (w : World) (hs : s.size ≤ 140737488351232) (hA : w.cell? ⟨A, 0, none⟩ = some (.string s)) (hp : p < at_) (hat : at_ ≤ s.size) :
    Calls Try.prog 29 #[.pointer (some ⟨A, 0, none⟩), .int .i64 (p : Nat), .int .i64 (at_ : Nat)] w fun e w' => e = .returned (.int .i64 (longL (byteL s) p at_ : Nat)) ∧ Below w.heap.size w w' := by
  have HS := Lib.hid hs
  have HP := Lib.hid (And.intro hp hat)
  have HA := Lib.hid hA
  clear hs hp hat hA
  obtain ⟨R, hR⟩ : ∃ R, longL (byteL s) p at_ = R := ⟨_, rfl⟩
  rw [hR]
  have HR := Lib.hid hR
  clear hR
  go_enter Try.func29, Try.ntmps29
  go_wp2_with fail
  go_loopg [7] 258 (fun f s7 wx => ∃ n : Nat, s7 = .int .i64 (n : Int) ∧ Hid (n + f = 258) ∧ Hid (longGo (byteL s) p at_ n f = R) ∧ Hid (Below w.heap.size w wx))
  case atStart => exact ⟨0, rfl, Lib.hid rfl, HR, Lib.hid (Below.refl _ _)⟩
  case round =>
    obtain ⟨n, rfl, HN, HG, HB⟩ := hrel
    have qA := (HB.out.cell (p := ⟨A, 0, none⟩) (World.block_lt_of_cell? _ _ HA.out)).trans HA.out
    have hHeld : wr.drew.cell? ⟨A, 0, none⟩ = some (.string s) := qA
    have HH := Lib.hid hHeld
    clear hHeld qA
    cases gk with
    | zero =>
      obtain rfl : n = 258 := HN.out
      have HE := Lib.hid (show 258 = R from HG.out)
      go_wp2_with fail
      have hHeld := HH.out
      refine wp_region_T (fun w' => w'.cell? ⟨A, 0, none⟩ = some (.string s)) [.take 0, .take 1, .take 2, .take 3, .take 4, .take 5, .take 6, .take 7, .take 8, .take 9, .take 10, .take 11, .take 12, .take 13, .take 14, .take 15, .take 16, .take 17, .take 18, .take 19, .take 20, .take 21, .take 22, .take 23, .take 24, .take 25, .take 26, .take 27, .take 28, .take 29, .take 30, .take 31] (by kernel_rfl) (by kernel_rfl) (fun _ _ _ _ _ h => h) hHeld ?_
      refine T_light (a' := ?_) 8 rfl rfl rfl (of_decide_eq_true rfl) rfl hHeld (fun wq hSq K Q hK => ?_) ?_
      rotate_left
      · (go_step; exact hK)
      refine T_light (a' := ?_) 9 rfl rfl rfl (of_decide_eq_true rfl) rfl hHeld (fun wq hSq K Q hK => ?_) ?_
      rotate_left
      · (go_step; exact hK)
      refine T_light (a' := ?_) 10 rfl rfl rfl (of_decide_eq_true rfl) rfl hHeld (fun wq hSq K Q hK => ?_) ?_
      rotate_left
      · (go_step; exact hK)
      refine T_pass2 (a' := ?_) 11 rfl rfl (by kernel_rfl) (fun K hK => ?_) ?_
      rotate_left
      · (simp only [Act.put, List.setIfInBounds_toArray, List.set_cons_zero, List.set_cons_succ]; exact hK)
      refine T_pass2 (a' := ?_) 12 rfl rfl (by kernel_rfl) (fun K hK => ?_) ?_
      rotate_left
      · (simp only [Act.put, List.setIfInBounds_toArray, List.set_cons_zero, List.set_cons_succ]; exact hK)
      refine T_pass2 (a' := ?_) 13 rfl rfl (by kernel_rfl) (fun K hK => ?_) ?_
      rotate_left
      · (simp only [Act.put, List.setIfInBounds_toArray, List.set_cons_zero, List.set_cons_succ]; exact hK)
      refine T_pass2 (a' := ?_) 14 rfl rfl (by kernel_rfl) (fun K hK => ?_) ?_
      rotate_left
      · (simp only [Act.put, List.setIfInBounds_toArray, List.set_cons_zero, List.set_cons_succ]; exact hK)
      refine T_pass2 (a' := ?_) 15 rfl rfl (by kernel_rfl) (fun K hK => ?_) ?_
      rotate_left
      · (simp only [Act.put, List.setIfInBounds_toArray, List.set_cons_zero, List.set_cons_succ]; exact hK)
      refine T_pass2 (a' := ?_) 16 rfl rfl (by kernel_rfl) (fun K hK => ?_) ?_
      rotate_left
      · (simp only [Act.put, List.setIfInBounds_toArray, List.set_cons_zero, List.set_cons_succ]; exact hK)
      refine T_pass2 (a' := ?_) 17 rfl rfl (by kernel_rfl) (fun K hK => ?_) ?_
      rotate_left
      · (simp only [Act.put, List.setIfInBounds_toArray, List.set_cons_zero, List.set_cons_succ]; exact hK)
      refine T_pass2 (a' := ?_) 18 rfl rfl (by kernel_rfl) (fun K hK => ?_) ?_
      rotate_left
      · (simp only [Act.put, List.setIfInBounds_toArray, List.set_cons_zero, List.set_cons_succ]; exact hK)
      refine T_pass2 (a' := ?_) 19 rfl rfl (by kernel_rfl) (fun K hK => ?_) ?_
      rotate_left
      · (simp only [Act.put, List.setIfInBounds_toArray, List.set_cons_zero, List.set_cons_succ]; exact hK)
      refine T_light (a' := ?_) 20 rfl rfl rfl (of_decide_eq_true rfl) rfl hHeld (fun wq hSq K Q hK => ?_) ?_
      rotate_left
      · (go_step; exact hK)
      refine T_light (a' := ?_) 21 rfl rfl rfl (of_decide_eq_true rfl) rfl hHeld (fun wq hSq K Q hK => ?_) ?_
      rotate_left
      · (go_step; exact hK)
      refine T_pass2 (a' := ?_) 22 rfl rfl (by kernel_rfl) (fun K hK => ?_) ?_
      rotate_left
      · (simp only [Act.put, List.setIfInBounds_toArray, List.set_cons_zero, List.set_cons_succ]; exact hK)
      refine T_pass2 (a' := ?_) 23 rfl rfl (by kernel_rfl) (fun K hK => ?_) ?_
      rotate_left
      · (simp only [Act.put, List.setIfInBounds_toArray, List.set_cons_zero, List.set_cons_succ]; exact hK)
      refine T_pass2 (a' := ?_) 24 rfl rfl (by kernel_rfl) (fun K hK => ?_) ?_
      rotate_left
      · (simp only [Act.put, List.setIfInBounds_toArray, List.set_cons_zero, List.set_cons_succ]; exact hK)
      refine T_pass2 (a' := ?_) 25 rfl rfl (by kernel_rfl) (fun K hK => ?_) ?_
      rotate_left
      · (simp only [Act.put, List.setIfInBounds_toArray, List.set_cons_zero, List.set_cons_succ]; exact hK)
      refine T_pass2 (a' := ?_) 26 rfl rfl (by kernel_rfl) (fun K hK => ?_) ?_
      rotate_left
      · (simp only [Act.put, List.setIfInBounds_toArray, List.set_cons_zero, List.set_cons_succ]; exact hK)
      refine T_pass2 (a' := ?_) 27 rfl rfl (by kernel_rfl) (fun K hK => ?_) ?_
      rotate_left
      · (simp only [Act.put, List.setIfInBounds_toArray, List.set_cons_zero, List.set_cons_succ]; exact hK)
      refine T_pass2 (a' := ?_) 28 rfl rfl (by kernel_rfl) (fun K hK => ?_) ?_
      rotate_left
      · (simp only [Act.put, List.setIfInBounds_toArray, List.set_cons_zero, List.set_cons_succ]; exact hK)
      refine T_pass2 (a' := ?_) 29 rfl rfl (by kernel_rfl) (fun K hK => ?_) ?_
      rotate_left
      · (simp only [Act.put, List.setIfInBounds_toArray, List.set_cons_zero, List.set_cons_succ]; exact hK)
      refine T_pass2 (a' := ?_) 30 rfl rfl (by kernel_rfl) (fun K hK => ?_) ?_
      rotate_left
      · (simp only [Act.put, List.setIfInBounds_toArray, List.set_cons_zero, List.set_cons_succ]; exact hK)
      refine T_pass2 (a' := ?_) 31 rfl rfl (by kernel_rfl) (fun K hK => ?_) ?_
      rotate_left
      · (simp only [Act.put, List.setIfInBounds_toArray, List.set_cons_zero, List.set_cons_succ]; exact hK)
      refine T_pass2 (a' := ?_) 32 rfl rfl (by kernel_rfl) (fun K hK => ?_) ?_
      rotate_left
      · (simp only [Act.put, List.setIfInBounds_toArray, List.set_cons_zero, List.set_cons_succ]; exact hK)
      refine T_pass2 (a' := ?_) 33 rfl rfl (by kernel_rfl) (fun K hK => ?_) ?_
      rotate_left
      · (simp only [Act.put, List.setIfInBounds_toArray, List.set_cons_zero, List.set_cons_succ]; exact hK)
      refine T_pass2 (a' := ?_) 34 rfl rfl (by kernel_rfl) (fun K hK => ?_) ?_
      rotate_left
      · (simp only [Act.put, List.setIfInBounds_toArray, List.set_cons_zero, List.set_cons_succ]; exact hK)
      refine T_pass2 (a' := ?_) 35 rfl rfl (by kernel_rfl) (fun K hK => ?_) ?_
      rotate_left
      · (simp only [Act.put, List.setIfInBounds_toArray, List.set_cons_zero, List.set_cons_succ]; exact hK)
      refine T_pass2 (a' := ?_) 36 rfl rfl (by kernel_rfl) (fun K hK => ?_) ?_
      rotate_left
      · (simp only [Act.put, List.setIfInBounds_toArray, List.set_cons_zero, List.set_cons_succ]; exact hK)
      refine T_pass2 (a' := ?_) 37 rfl rfl (by kernel_rfl) (fun K hK => ?_) ?_
      rotate_left
      · (simp only [Act.put, List.setIfInBounds_toArray, List.set_cons_zero, List.set_cons_succ]; exact hK)
      refine T_pass2 (a' := ?_) 38 rfl rfl (by kernel_rfl) (fun K hK => ?_) ?_
      rotate_left
      · (simp only [Act.put, List.setIfInBounds_toArray, List.set_cons_zero, List.set_cons_succ]; exact hK)
      refine T_light (a' := ?_) 39 rfl rfl rfl (of_decide_eq_true rfl) rfl hHeld (fun wq hSq K Q hK => ?_) ?_
      rotate_left
      · (go_step; exact hK)
      refine T_done ?_
      go_wp2_with fail
      go_ret
      exact ⟨by rw [← HE.out]; rfl, HB.out.drew⟩
    | succ f =>
      have HN2 := Lib.hid (show n < 258 by have := HN.out; omega)
      have dn : decide (n < 258) = true := by rw [decide_eq_true_eq]; exact HN2.out
      have dn2 : decide ((n : Int) < 258) = true := by rw [decide_eq_true_eq]; have := HN2.out; omega
      have e1 : wrap64 ((at_ : Int) + (n : Int)) = (at_ : Int) + (n : Int) := by have := HN2.out; have := HP.out; have := HS.out; unfold wrap64; omega
      have e2 : wrap64 ((p : Int) + (n : Int)) = (p : Int) + (n : Int) := by have := HN2.out; have := HP.out; have := HS.out; unfold wrap64; omega
      have e3 : wrap64 ((n : Int) + 1) = ((n + 1 : Nat) : Int) := by have := HN2.out; unfold wrap64; omega
      by_cases hlt : at_ + n < s.size
      · have d1 : decide ((at_ : Int) + (n : Int) < (s.size : Int)) = true := by rw [decide_eq_true_eq]; omega
        have d2 : decide (at_ + n < s.size) = true := by rw [decide_eq_true_eq]; exact hlt
        have hpn : p + n < s.size := by have := HP.out; omega
        have n1 : (0 : Int) ≤ (p : Int) + (n : Int) := by omega
        have n2 : (p : Int) + (n : Int) < (s.size : Int) := by omega
        have n3 : (0 : Int) ≤ (at_ : Int) + (n : Int) := by omega
        have n4 : (at_ : Int) + (n : Int) < (s.size : Int) := by omega
        obtain ⟨x, hx, hx2⟩ : ∃ x : Nat, (byteL s).getD (p + n) 0 = x ∧ ∀ h', ((s[p + n]'h').toNat : Int) = (x : Int) := ⟨_, rfl, fun h' => by rw [idx_byte s (p + n) h']⟩
        obtain ⟨y, hy, hy2⟩ : ∃ y : Nat, (byteL s).getD (at_ + n) 0 = y ∧ ∀ h', ((s[at_ + n]'h').toNat : Int) = (y : Int) := ⟨_, rfl, fun h' => by rw [idx_byte s (at_ + n) h']⟩
        by_cases hxy : x = y
        · have HE := Lib.hid (show longGo (byteL s) p at_ (n + 1) f = R by
            have := HG.out
            unfold longGo at this
            rw [if_pos ⟨by rw [byteL_length]; exact hlt, by rw [hx, hy, hxy]⟩] at this
            exact this)
          have exy : ((x : Int) == (y : Int)) = true := by subst hxy; simp
          clear hx hy hxy hlt hpn
          go_wp2_with fail
          have hHeld := HH.out
          refine wp_region_T (fun w' => w'.cell? ⟨A, 0, none⟩ = some (.string s)) [.take 0, .take 1, .take 2, .take 3, .take 4, .take 5, .take 6, .take 7, .take 8, .take 9, .take 10, .take 11, .take 12, .take 13, .take 14, .take 15, .take 16, .take 17, .take 18, .take 19, .take 20, .take 21, .take 22, .take 23, .take 24, .take 25, .take 26, .take 27, .take 28, .take 29, .take 30, .take 31] (by kernel_rfl) (by kernel_rfl) (fun _ _ _ _ _ h => h) hHeld ?_
          refine T_light (a' := ?_) 8 rfl rfl rfl (of_decide_eq_true rfl) rfl hHeld (fun wq hSq K Q hK => ?_) ?_
          rotate_left
          · (go_step; exact hK)
          refine T_light (a' := ?_) 9 rfl rfl rfl (of_decide_eq_true rfl) rfl hHeld (fun wq hSq K Q hK => ?_) ?_
          rotate_left
          · (go_step; exact hK)
          refine T_light (a' := ?_) 10 rfl rfl rfl (of_decide_eq_true rfl) rfl hHeld (fun wq hSq K Q hK => ?_) ?_
          rotate_left
          · (go_step; exact hK)
          refine T_light (a' := ?_) 11 rfl rfl rfl (of_decide_eq_true rfl) rfl hHeld (fun wq hSq K Q hK => ?_) ?_
          rotate_left
          · (go_step; exact hK)
          refine T_light (a' := ?_) 12 rfl rfl rfl (of_decide_eq_true rfl) rfl hHeld (fun wq hSq K Q hK => ?_) ?_
          rotate_left
          · (go_step; exact hK)
          refine T_light (a' := ?_) 13 rfl rfl rfl (of_decide_eq_true rfl) rfl hHeld (fun wq hSq K Q hK => ?_) ?_
          rotate_left
          · (go_step; exact hK)
          refine T_light (a' := ?_) 14 rfl rfl rfl (of_decide_eq_true rfl) rfl hHeld (fun wq hSq K Q hK => ?_) ?_
          rotate_left
          · (go_step; exact hK)
          refine T_light (a' := ?_) 15 rfl rfl rfl (of_decide_eq_true rfl) rfl hHeld (fun wq hSq K Q hK => ?_) ?_
          rotate_left
          · (go_step; exact hK)
          refine T_light (a' := ?_) 16 rfl rfl rfl (of_decide_eq_true rfl) rfl hHeld (fun wq hSq K Q hK => ?_) ?_
          rotate_left
          · (go_step; exact hK)
          refine T_light (a' := ?_) 17 rfl rfl rfl (of_decide_eq_true rfl) rfl hHeld (fun wq hSq K Q hK => ?_) ?_
          rotate_left
          · ((have r1 := hSq; go_step); exact hK)
          refine T_light (a' := ?_) 18 rfl rfl rfl (of_decide_eq_true rfl) rfl hHeld (fun wq hSq K Q hK => ?_) ?_
          rotate_left
          · (go_step; exact hK)
          refine T_light (a' := ?_) 19 rfl rfl rfl (of_decide_eq_true rfl) rfl hHeld (fun wq hSq K Q hK => ?_) ?_
          rotate_left
          · (go_step; exact hK)
          refine T_light (a' := ?_) 20 rfl rfl rfl (of_decide_eq_true rfl) rfl hHeld (fun wq hSq K Q hK => ?_) ?_
          rotate_left
          · (go_step; exact hK)
          refine T_light (a' := ?_) 21 rfl rfl rfl (of_decide_eq_true rfl) rfl hHeld (fun wq hSq K Q hK => ?_) ?_
          rotate_left
          · (go_step; exact hK)
          refine T_light (a' := ?_) 22 rfl rfl rfl (of_decide_eq_true rfl) rfl hHeld (fun wq hSq K Q hK => ?_) ?_
          rotate_left
          · (go_step; exact hK)
          refine T_light (a' := ?_) 23 rfl rfl rfl (of_decide_eq_true rfl) rfl hHeld (fun wq hSq K Q hK => ?_) ?_
          rotate_left
          · (go_step; exact hK)
          refine T_light (a' := ?_) 24 rfl rfl rfl (of_decide_eq_true rfl) rfl hHeld (fun wq hSq K Q hK => ?_) ?_
          rotate_left
          · (go_step; exact hK)
          refine T_light (a' := ?_) 25 rfl rfl rfl (of_decide_eq_true rfl) rfl hHeld (fun wq hSq K Q hK => ?_) ?_
          rotate_left
          · ((have r1 := hSq; go_step); exact hK)
          refine T_light (a' := ?_) 26 rfl rfl rfl (of_decide_eq_true rfl) rfl hHeld (fun wq hSq K Q hK => ?_) ?_
          rotate_left
          · (go_step; exact hK)
          refine T_light (a' := ?_) 27 rfl rfl rfl (of_decide_eq_true rfl) rfl hHeld (fun wq hSq K Q hK => ?_) ?_
          rotate_left
          · (go_step; exact hK)
          refine T_light (a' := ?_) 28 rfl rfl rfl (of_decide_eq_true rfl) rfl hHeld (fun wq hSq K Q hK => ?_) ?_
          rotate_left
          · (go_step; exact hK)
          refine T_light (a' := ?_) 29 rfl rfl rfl (of_decide_eq_true rfl) rfl hHeld (fun wq hSq K Q hK => ?_) ?_
          rotate_left
          · (go_step; exact hK)
          refine T_light (a' := ?_) 30 rfl rfl rfl (of_decide_eq_true rfl) rfl hHeld (fun wq hSq K Q hK => ?_) ?_
          rotate_left
          · (go_step; exact hK)
          refine T_light (a' := ?_) 31 rfl rfl rfl (of_decide_eq_true rfl) rfl hHeld (fun wq hSq K Q hK => ?_) ?_
          rotate_left
          · (go_step; exact hK)
          refine T_light (a' := ?_) 32 rfl rfl rfl (of_decide_eq_true rfl) rfl hHeld (fun wq hSq K Q hK => ?_) ?_
          rotate_left
          · (go_step; exact hK)
          refine T_light (a' := ?_) 33 rfl rfl rfl (of_decide_eq_true rfl) rfl hHeld (fun wq hSq K Q hK => ?_) ?_
          rotate_left
          · ((have r1 := hSq; go_step); exact hK)
          refine T_light (a' := ?_) 34 rfl rfl rfl (of_decide_eq_true rfl) rfl hHeld (fun wq hSq K Q hK => ?_) ?_
          rotate_left
          · (go_step; exact hK)
          refine T_light (a' := ?_) 35 rfl rfl rfl (of_decide_eq_true rfl) rfl hHeld (fun wq hSq K Q hK => ?_) ?_
          rotate_left
          · (go_step; exact hK)
          refine T_light (a' := ?_) 36 rfl rfl rfl (of_decide_eq_true rfl) rfl hHeld (fun wq hSq K Q hK => ?_) ?_
          rotate_left
          · (go_step; exact hK)
          refine T_light (a' := ?_) 37 rfl rfl rfl (of_decide_eq_true rfl) rfl hHeld (fun wq hSq K Q hK => ?_) ?_
          rotate_left
          · (go_step; exact hK)
          refine T_light (a' := ?_) 38 rfl rfl rfl (of_decide_eq_true rfl) rfl hHeld (fun wq hSq K Q hK => ?_) ?_
          rotate_left
          · (go_step; exact hK)
          refine T_light (a' := ?_) 39 rfl rfl rfl (of_decide_eq_true rfl) rfl hHeld (fun wq hSq K Q hK => ?_) ?_
          rotate_left
          · (go_step; exact hK)
          refine T_done ?_
          go_wp2_with fail
          go_roundg f
          case measure => exact Nat.lt_succ_self f
          case rel => exact ⟨n + 1, by rw [e3], Lib.hid (by have := HN.out; omega), HE, Lib.hid HB.out.drew⟩
        · have HE := Lib.hid (show n = R by
            have := HG.out
            unfold longGo at this
            rw [if_neg (by rw [hx, hy]; exact fun h => hxy h.2)] at this
            exact this)
          have exy : ((x : Int) == (y : Int)) = false := by simp; omega
          clear hx hy hxy hlt hpn
          go_wp2_with fail
          have hHeld := HH.out
          refine wp_region_T (fun w' => w'.cell? ⟨A, 0, none⟩ = some (.string s)) [.take 0, .take 1, .take 2, .take 3, .take 4, .take 5, .take 6, .take 7, .take 8, .take 9, .take 10, .take 11, .take 12, .take 13, .take 14, .take 15, .take 16, .take 17, .take 18, .take 19, .take 20, .take 21, .take 22, .take 23, .take 24, .take 25, .take 26, .take 27, .take 28, .take 29, .take 30, .take 31] (by kernel_rfl) (by kernel_rfl) (fun _ _ _ _ _ h => h) hHeld ?_
          refine T_light (a' := ?_) 8 rfl rfl rfl (of_decide_eq_true rfl) rfl hHeld (fun wq hSq K Q hK => ?_) ?_
          rotate_left
          · (go_step; exact hK)
          refine T_light (a' := ?_) 9 rfl rfl rfl (of_decide_eq_true rfl) rfl hHeld (fun wq hSq K Q hK => ?_) ?_
          rotate_left
          · (go_step; exact hK)
          refine T_light (a' := ?_) 10 rfl rfl rfl (of_decide_eq_true rfl) rfl hHeld (fun wq hSq K Q hK => ?_) ?_
          rotate_left
          · (go_step; exact hK)
          refine T_light (a' := ?_) 11 rfl rfl rfl (of_decide_eq_true rfl) rfl hHeld (fun wq hSq K Q hK => ?_) ?_
          rotate_left
          · (go_step; exact hK)
          refine T_light (a' := ?_) 12 rfl rfl rfl (of_decide_eq_true rfl) rfl hHeld (fun wq hSq K Q hK => ?_) ?_
          rotate_left
          · (go_step; exact hK)
          refine T_light (a' := ?_) 13 rfl rfl rfl (of_decide_eq_true rfl) rfl hHeld (fun wq hSq K Q hK => ?_) ?_
          rotate_left
          · (go_step; exact hK)
          refine T_light (a' := ?_) 14 rfl rfl rfl (of_decide_eq_true rfl) rfl hHeld (fun wq hSq K Q hK => ?_) ?_
          rotate_left
          · (go_step; exact hK)
          refine T_light (a' := ?_) 15 rfl rfl rfl (of_decide_eq_true rfl) rfl hHeld (fun wq hSq K Q hK => ?_) ?_
          rotate_left
          · (go_step; exact hK)
          refine T_light (a' := ?_) 16 rfl rfl rfl (of_decide_eq_true rfl) rfl hHeld (fun wq hSq K Q hK => ?_) ?_
          rotate_left
          · (go_step; exact hK)
          refine T_light (a' := ?_) 17 rfl rfl rfl (of_decide_eq_true rfl) rfl hHeld (fun wq hSq K Q hK => ?_) ?_
          rotate_left
          · ((have r1 := hSq; go_step); exact hK)
          refine T_light (a' := ?_) 18 rfl rfl rfl (of_decide_eq_true rfl) rfl hHeld (fun wq hSq K Q hK => ?_) ?_
          rotate_left
          · (go_step; exact hK)
          refine T_light (a' := ?_) 19 rfl rfl rfl (of_decide_eq_true rfl) rfl hHeld (fun wq hSq K Q hK => ?_) ?_
          rotate_left
          · (go_step; exact hK)
          refine T_light (a' := ?_) 20 rfl rfl rfl (of_decide_eq_true rfl) rfl hHeld (fun wq hSq K Q hK => ?_) ?_
          rotate_left
          · (go_step; exact hK)
          refine T_light (a' := ?_) 21 rfl rfl rfl (of_decide_eq_true rfl) rfl hHeld (fun wq hSq K Q hK => ?_) ?_
          rotate_left
          · (go_step; exact hK)
          refine T_light (a' := ?_) 22 rfl rfl rfl (of_decide_eq_true rfl) rfl hHeld (fun wq hSq K Q hK => ?_) ?_
          rotate_left
          · (go_step; exact hK)
          refine T_light (a' := ?_) 23 rfl rfl rfl (of_decide_eq_true rfl) rfl hHeld (fun wq hSq K Q hK => ?_) ?_
          rotate_left
          · (go_step; exact hK)
          refine T_light (a' := ?_) 24 rfl rfl rfl (of_decide_eq_true rfl) rfl hHeld (fun wq hSq K Q hK => ?_) ?_
          rotate_left
          · (go_step; exact hK)
          refine T_light (a' := ?_) 25 rfl rfl rfl (of_decide_eq_true rfl) rfl hHeld (fun wq hSq K Q hK => ?_) ?_
          rotate_left
          · ((have r1 := hSq; go_step); exact hK)
          refine T_light (a' := ?_) 26 rfl rfl rfl (of_decide_eq_true rfl) rfl hHeld (fun wq hSq K Q hK => ?_) ?_
          rotate_left
          · (go_step; exact hK)
          refine T_light (a' := ?_) 27 rfl rfl rfl (of_decide_eq_true rfl) rfl hHeld (fun wq hSq K Q hK => ?_) ?_
          rotate_left
          · (go_step; exact hK)
          refine T_light (a' := ?_) 28 rfl rfl rfl (of_decide_eq_true rfl) rfl hHeld (fun wq hSq K Q hK => ?_) ?_
          rotate_left
          · (go_step; exact hK)
          refine T_light (a' := ?_) 29 rfl rfl rfl (of_decide_eq_true rfl) rfl hHeld (fun wq hSq K Q hK => ?_) ?_
          rotate_left
          · (go_step; exact hK)
          refine T_light (a' := ?_) 30 rfl rfl rfl (of_decide_eq_true rfl) rfl hHeld (fun wq hSq K Q hK => ?_) ?_
          rotate_left
          · (go_step; exact hK)
          refine T_light (a' := ?_) 31 rfl rfl rfl (of_decide_eq_true rfl) rfl hHeld (fun wq hSq K Q hK => ?_) ?_
          rotate_left
          · (go_step; exact hK)
          refine T_light (a' := ?_) 32 rfl rfl rfl (of_decide_eq_true rfl) rfl hHeld (fun wq hSq K Q hK => ?_) ?_
          rotate_left
          · (go_step; exact hK)
          refine T_light (a' := ?_) 33 rfl rfl rfl (of_decide_eq_true rfl) rfl hHeld (fun wq hSq K Q hK => ?_) ?_
          rotate_left
          · ((have r1 := hSq; go_step); exact hK)
          refine T_light (a' := ?_) 34 rfl rfl rfl (of_decide_eq_true rfl) rfl hHeld (fun wq hSq K Q hK => ?_) ?_
          rotate_left
          · (go_step; exact hK)
          refine T_light (a' := ?_) 35 rfl rfl rfl (of_decide_eq_true rfl) rfl hHeld (fun wq hSq K Q hK => ?_) ?_
          rotate_left
          · (go_step; exact hK)
          refine T_light (a' := ?_) 36 rfl rfl rfl (of_decide_eq_true rfl) rfl hHeld (fun wq hSq K Q hK => ?_) ?_
          rotate_left
          · (go_step; exact hK)
          refine T_light (a' := ?_) 37 rfl rfl rfl (of_decide_eq_true rfl) rfl hHeld (fun wq hSq K Q hK => ?_) ?_
          rotate_left
          · (go_step; exact hK)
          refine T_light (a' := ?_) 38 rfl rfl rfl (of_decide_eq_true rfl) rfl hHeld (fun wq hSq K Q hK => ?_) ?_
          rotate_left
          · (go_step; exact hK)
          refine T_light (a' := ?_) 39 rfl rfl rfl (of_decide_eq_true rfl) rfl hHeld (fun wq hSq K Q hK => ?_) ?_
          rotate_left
          · (go_step; exact hK)
          refine T_done ?_
          go_wp2_with fail
          go_ret
          exact ⟨by rw [← HE.out]; rfl, HB.out.drew⟩
      · have d1 : decide ((at_ : Int) + (n : Int) < (s.size : Int)) = false := by rw [decide_eq_false_iff_not]; omega
        have d2 : decide (at_ + n < s.size) = false := by rw [decide_eq_false_iff_not]; exact hlt
        have HE := Lib.hid (show n = R by
          have := HG.out
          unfold longGo at this
          rw [if_neg (by rw [byteL_length]; omega)] at this
          exact this)
        clear hlt
        go_wp2_with fail
        have hHeld := HH.out
        refine wp_region_T (fun w' => w'.cell? ⟨A, 0, none⟩ = some (.string s)) [.take 0, .take 1, .take 2, .take 3, .take 4, .take 5, .take 6, .take 7, .take 8, .take 9, .take 10, .take 11, .take 12, .take 13, .take 14, .take 15, .take 16, .take 17, .take 18, .take 19, .take 20, .take 21, .take 22, .take 23, .take 24, .take 25, .take 26, .take 27, .take 28, .take 29, .take 30, .take 31] (by kernel_rfl) (by kernel_rfl) (fun _ _ _ _ _ h => h) hHeld ?_
        refine T_light (a' := ?_) 8 rfl rfl rfl (of_decide_eq_true rfl) rfl hHeld (fun wq hSq K Q hK => ?_) ?_
        rotate_left
        · (go_step; exact hK)
        refine T_light (a' := ?_) 9 rfl rfl rfl (of_decide_eq_true rfl) rfl hHeld (fun wq hSq K Q hK => ?_) ?_
        rotate_left
        · (go_step; exact hK)
        refine T_light (a' := ?_) 10 rfl rfl rfl (of_decide_eq_true rfl) rfl hHeld (fun wq hSq K Q hK => ?_) ?_
        rotate_left
        · (go_step; exact hK)
        refine T_light (a' := ?_) 11 rfl rfl rfl (of_decide_eq_true rfl) rfl hHeld (fun wq hSq K Q hK => ?_) ?_
        rotate_left
        · (go_step; exact hK)
        refine T_light (a' := ?_) 12 rfl rfl rfl (of_decide_eq_true rfl) rfl hHeld (fun wq hSq K Q hK => ?_) ?_
        rotate_left
        · (go_step; exact hK)
        refine T_light (a' := ?_) 13 rfl rfl rfl (of_decide_eq_true rfl) rfl hHeld (fun wq hSq K Q hK => ?_) ?_
        rotate_left
        · (go_step; exact hK)
        refine T_light (a' := ?_) 14 rfl rfl rfl (of_decide_eq_true rfl) rfl hHeld (fun wq hSq K Q hK => ?_) ?_
        rotate_left
        · (go_step; exact hK)
        refine T_light (a' := ?_) 15 rfl rfl rfl (of_decide_eq_true rfl) rfl hHeld (fun wq hSq K Q hK => ?_) ?_
        rotate_left
        · (go_step; exact hK)
        refine T_light (a' := ?_) 16 rfl rfl rfl (of_decide_eq_true rfl) rfl hHeld (fun wq hSq K Q hK => ?_) ?_
        rotate_left
        · (go_step; exact hK)
        refine T_light (a' := ?_) 17 rfl rfl rfl (of_decide_eq_true rfl) rfl hHeld (fun wq hSq K Q hK => ?_) ?_
        rotate_left
        · ((have r1 := hSq; go_step); exact hK)
        refine T_light (a' := ?_) 18 rfl rfl rfl (of_decide_eq_true rfl) rfl hHeld (fun wq hSq K Q hK => ?_) ?_
        rotate_left
        · (go_step; exact hK)
        refine T_light (a' := ?_) 19 rfl rfl rfl (of_decide_eq_true rfl) rfl hHeld (fun wq hSq K Q hK => ?_) ?_
        rotate_left
        · (go_step; exact hK)
        refine T_light (a' := ?_) 20 rfl rfl rfl (of_decide_eq_true rfl) rfl hHeld (fun wq hSq K Q hK => ?_) ?_
        rotate_left
        · (go_step; exact hK)
        refine T_light (a' := ?_) 21 rfl rfl rfl (of_decide_eq_true rfl) rfl hHeld (fun wq hSq K Q hK => ?_) ?_
        rotate_left
        · (go_step; exact hK)
        refine T_pass2 (a' := ?_) 22 rfl rfl (by kernel_rfl) (fun K hK => ?_) ?_
        rotate_left
        · (simp only [Act.put, List.setIfInBounds_toArray, List.set_cons_zero, List.set_cons_succ]; exact hK)
        refine T_pass2 (a' := ?_) 23 rfl rfl (by kernel_rfl) (fun K hK => ?_) ?_
        rotate_left
        · (simp only [Act.put, List.setIfInBounds_toArray, List.set_cons_zero, List.set_cons_succ]; exact hK)
        refine T_pass2 (a' := ?_) 24 rfl rfl (by kernel_rfl) (fun K hK => ?_) ?_
        rotate_left
        · (simp only [Act.put, List.setIfInBounds_toArray, List.set_cons_zero, List.set_cons_succ]; exact hK)
        refine T_pass2 (a' := ?_) 25 rfl rfl (by kernel_rfl) (fun K hK => ?_) ?_
        rotate_left
        · (simp only [Act.put, List.setIfInBounds_toArray, List.set_cons_zero, List.set_cons_succ]; exact hK)
        refine T_pass2 (a' := ?_) 26 rfl rfl (by kernel_rfl) (fun K hK => ?_) ?_
        rotate_left
        · (simp only [Act.put, List.setIfInBounds_toArray, List.set_cons_zero, List.set_cons_succ]; exact hK)
        refine T_pass2 (a' := ?_) 27 rfl rfl (by kernel_rfl) (fun K hK => ?_) ?_
        rotate_left
        · (simp only [Act.put, List.setIfInBounds_toArray, List.set_cons_zero, List.set_cons_succ]; exact hK)
        refine T_pass2 (a' := ?_) 28 rfl rfl (by kernel_rfl) (fun K hK => ?_) ?_
        rotate_left
        · (simp only [Act.put, List.setIfInBounds_toArray, List.set_cons_zero, List.set_cons_succ]; exact hK)
        refine T_pass2 (a' := ?_) 29 rfl rfl (by kernel_rfl) (fun K hK => ?_) ?_
        rotate_left
        · (simp only [Act.put, List.setIfInBounds_toArray, List.set_cons_zero, List.set_cons_succ]; exact hK)
        refine T_pass2 (a' := ?_) 30 rfl rfl (by kernel_rfl) (fun K hK => ?_) ?_
        rotate_left
        · (simp only [Act.put, List.setIfInBounds_toArray, List.set_cons_zero, List.set_cons_succ]; exact hK)
        refine T_pass2 (a' := ?_) 31 rfl rfl (by kernel_rfl) (fun K hK => ?_) ?_
        rotate_left
        · (simp only [Act.put, List.setIfInBounds_toArray, List.set_cons_zero, List.set_cons_succ]; exact hK)
        refine T_pass2 (a' := ?_) 32 rfl rfl (by kernel_rfl) (fun K hK => ?_) ?_
        rotate_left
        · (simp only [Act.put, List.setIfInBounds_toArray, List.set_cons_zero, List.set_cons_succ]; exact hK)
        refine T_pass2 (a' := ?_) 33 rfl rfl (by kernel_rfl) (fun K hK => ?_) ?_
        rotate_left
        · (simp only [Act.put, List.setIfInBounds_toArray, List.set_cons_zero, List.set_cons_succ]; exact hK)
        refine T_pass2 (a' := ?_) 34 rfl rfl (by kernel_rfl) (fun K hK => ?_) ?_
        rotate_left
        · (simp only [Act.put, List.setIfInBounds_toArray, List.set_cons_zero, List.set_cons_succ]; exact hK)
        refine T_pass2 (a' := ?_) 35 rfl rfl (by kernel_rfl) (fun K hK => ?_) ?_
        rotate_left
        · (simp only [Act.put, List.setIfInBounds_toArray, List.set_cons_zero, List.set_cons_succ]; exact hK)
        refine T_pass2 (a' := ?_) 36 rfl rfl (by kernel_rfl) (fun K hK => ?_) ?_
        rotate_left
        · (simp only [Act.put, List.setIfInBounds_toArray, List.set_cons_zero, List.set_cons_succ]; exact hK)
        refine T_pass2 (a' := ?_) 37 rfl rfl (by kernel_rfl) (fun K hK => ?_) ?_
        rotate_left
        · (simp only [Act.put, List.setIfInBounds_toArray, List.set_cons_zero, List.set_cons_succ]; exact hK)
        refine T_pass2 (a' := ?_) 38 rfl rfl (by kernel_rfl) (fun K hK => ?_) ?_
        rotate_left
        · (simp only [Act.put, List.setIfInBounds_toArray, List.set_cons_zero, List.set_cons_succ]; exact hK)
        refine T_light (a' := ?_) 39 rfl rfl rfl (of_decide_eq_true rfl) rfl hHeld (fun wq hSq K Q hK => ?_) ?_
        rotate_left
        · (go_step; exact hK)
        refine T_done ?_
        go_wp2_with fail
        go_ret
        exact ⟨by rw [← HE.out]; rfl, HB.out.drew⟩
end Go.Proofs.Ytolkmjclldjkkaa
