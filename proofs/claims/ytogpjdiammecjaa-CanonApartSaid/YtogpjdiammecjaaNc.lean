/-
  CanonApart: what 'Bit' and 'Begins' come to (contracts, by hand).
-/
import Derived.Test.YtogpjdiammecjaaMathP
import Derived.Test.YtogpjdiammecjaaNa
set_option linter.unusedSimpArgs false
set_option linter.unusedVariables false
namespace Go.Proofs.Ytogpjdiammecjaa
open Go.RowKit Go.Proofs.YtogpjdiammecjaaW.PrintWords

theorem nt_b1 {n k : Nat} (h : k < n) (hn : n ≤ 15) : ∃ m : Nat, wrap64 (n : Int) = (n : Int) ∧ wrap64 ((n : Int) - 1) = (n : Int) - 1 ∧ wrap64 ((n : Int) - 1 - (k : Int)) = (m : Int) ∧ m = n - 1 - k ∧ m < 15 := ⟨n - 1 - k, by unfold wrap64; omega, by unfold wrap64; omega, by unfold wrap64; omega, rfl, by omega⟩
theorem two_new (w : World) (u v : Value) (t : TypeId) : (w.alloc (.cells #[u, v] t)).cell? ⟨w.heap.size, 0, none⟩ = some u ∧ (w.alloc (.cells #[u, v] t)).cell? ⟨w.heap.size, 1, none⟩ = some v := by
  have h : (w.alloc (.cells #[u, v] t)).heap[w.heap.size]? = some (.cells #[u, v] t (0, 0)) := heap_alloc_last w _
  refine ⟨?_, ?_⟩ <;> (unfold World.cell?; rw [h]; rfl)
theorem nt_b2 (b : Nat) {m : Nat} (hm : m < 15) : (((b : Int) / 2 ^ min (IntKind.u64.wrap (m : Int)).toNat 32).tmod 2) = ((b / 2 ^ m % 2 : Nat) : Int) := by
  have h : (min (IntKind.u64.wrap (m : Int)).toNat 32) = m := by
    have : IntKind.u64.wrap (m : Int) = (m : Int) := by unfold IntKind.wrap; simp [IntKind.bits]; omega
    rw [this]; omega
  rw [h, Int.tmod_eq_emod_of_nonneg (Int.ediv_nonneg (by omega) (by exact_mod_cast Nat.zero_le _))]
  push_cast
  rfl
theorem bit_any (b n k : Nat) (hk : k < n) (hn : n ≤ 15) (hb : b < 32768) (w : World) :
    Calls Try.prog 21 #[.agg #[.int .u32 (b : Nat), .int .u8 (n : Nat)], .int .i64 (k : Nat)] w fun e w' => e = .returned (.int .u32 ((b / 2 ^ (n - 1 - k) % 2 : Nat) : Int)) ∧ Below w.heap.size w w' := by
  obtain ⟨m, e1, e2, e3, e4, hm⟩ := nt_b1 hk hn
  rw [← e4]
  have HB := Lib.hid (And.intro hb hm)
  have e5 := Lib.hid (nt_b2 b hm)
  clear hk hn e4 hb hm
  go_enter Try.func21, Try.ntmps21
  obtain ⟨q0, q1⟩ := two_new w (.int .u32 (b : Nat)) (.int .u8 (n : Nat)) 31
  go_wp2_with fail
  rw [e5.out]
  go_ret
  exact ⟨rfl, (Below.refl _ _).alloc (Nat.le_refl _) _⟩
theorem bit_got (b n k r : Nat) (hr : b / 2 ^ (n - 1 - k) % 2 = r) (hk : k < n) (hn : n ≤ 15) (hb : b < 32768) (w : World) :
    Calls Try.prog 21 #[.agg #[.int .u32 (b : Nat), .int .u8 (n : Nat)], .int .i64 (k : Nat)] w fun e w' => e = .returned (.int .u32 (r : Nat)) ∧ Below w.heap.size w w' := by
  rw [← hr]
  exact bit_any b n k hk hn hb w
theorem begins_step {p n q m k : Nat} (hk : k < n) (hn : n ≤ m) (h : p / 2 ^ (n - k) = q / 2 ^ (m - k)) (hb : p / 2 ^ (n - 1 - k) % 2 = q / 2 ^ (m - 1 - k) % 2) : p / 2 ^ (n - (k + 1)) = q / 2 ^ (m - (k + 1)) := by
  have e1 : n - k = (n - 1 - k) + 1 := by omega
  have e2 : m - k = (m - 1 - k) + 1 := by omega
  rw [e1, e2, Nat.pow_succ, Nat.pow_succ, ← Nat.div_div_eq_div_mul, ← Nat.div_div_eq_div_mul] at h
  rw [show n - (k + 1) = n - 1 - k by omega, show m - (k + 1) = m - 1 - k by omega]
  omega
theorem nt_g3 {n : Nat} (h : n ≤ 15) : wrap64 (n : Int) = (n : Int) := by unfold wrap64; omega
theorem own21 : Own Try.prog 21 := own_of Try.func21 (by kernel_rfl) rfl
theorem keep4 {w w' : World} {a b c d : Addr} {p q r s : Value} (h : (w.cell? a = some p ∧ w.cell? b = some q) ∧ w.cell? c = some r ∧ w.cell? d = some s) (hb : Below w.heap.size w w') : (w'.cell? a = some p ∧ w'.cell? b = some q) ∧ w'.cell? c = some r ∧ w'.cell? d = some s :=
  ⟨⟨(hb.cell (World.block_lt_of_cell? _ _ h.1.1)).trans h.1.1, (hb.cell (World.block_lt_of_cell? _ _ h.1.2)).trans h.1.2⟩, (hb.cell (World.block_lt_of_cell? _ _ h.2.1)).trans h.2.1, (hb.cell (World.block_lt_of_cell? _ _ h.2.2)).trans h.2.2⟩
theorem begins_no (p n q m : Nat) (hp : p < 2 ^ n) (hq : q < 2 ^ m) (hp2 : p < 32768) (hq2 : q < 32768) (hn : n ≤ 15) (hm : m ≤ 15) (h : n ≤ m → p ≠ q / 2 ^ (m - n)) (w : World) :
    Calls Try.prog 11 #[.agg #[.int .u32 (p : Nat), .int .u8 (n : Nat)], .agg #[.int .u32 (q : Nat), .int .u8 (m : Nat)]] w fun e w' => e = .returned (.bool false) ∧ Below w.heap.size w w' := by
  have HP := Lib.hid (And.intro hp hq)
  have HP2 := Lib.hid (And.intro hp2 hq2)
  have HN := Lib.hid (And.intro hn hm)
  have HH := Lib.hid h
  obtain ⟨q0, q1⟩ := two_new (w.alloc (.cells #[.int .u32 (p : Nat), .int .u8 (n : Nat)] 31)) (.int .u32 (q : Nat)) (.int .u8 (m : Nat)) 31
  obtain ⟨p0, p1⟩ := two_new w (.int .u32 (p : Nat)) (.int .u8 (n : Nat)) 31
  by_cases hg : m < n
  · obtain ⟨d1, d1'⟩ := nt_lt hg
    clear hp hq hp2 hq2 hn hm h hg
    go_enter Try.func11, Try.ntmps11
    go_wp2_with fail
    go_ret
    exact ⟨rfl, ((Below.refl _ _).alloc (Nat.le_refl _) _).alloc (by simp) _⟩
  · obtain ⟨d1, d1'⟩ := nt_ge hg
    have HG := Lib.hid (Nat.le_of_not_lt hg)
    have c1 := nt_g3 hn
    clear hp hq hp2 hq2 hn hm h hg
    go_enter Try.func11, Try.ntmps11
    go_wp2_with fail
    have hb0 := ((Below.refl w.heap.size w).alloc (Nat.le_refl _) (.cells #[.int .u32 (p : Nat), .int .u8 (n : Nat)] 31)).alloc (by simp) (.cells #[.int .u32 (q : Nat), .int .u8 (m : Nat)] 31)
    have HCEL := Lib.hid (show (((w.alloc (.cells #[.int .u32 (p : Nat), .int .u8 (n : Nat)] 31)).alloc (.cells #[.int .u32 (q : Nat), .int .u8 (m : Nat)] 31)).cell? ⟨w.heap.size, 0, none⟩ = some (.int .u32 (p : Nat)) ∧ ((w.alloc (.cells #[.int .u32 (p : Nat), .int .u8 (n : Nat)] 31)).alloc (.cells #[.int .u32 (q : Nat), .int .u8 (m : Nat)] 31)).cell? ⟨w.heap.size, 1, none⟩ = some (.int .u8 (n : Nat))) ∧ ((w.alloc (.cells #[.int .u32 (p : Nat), .int .u8 (n : Nat)] 31)).alloc (.cells #[.int .u32 (q : Nat), .int .u8 (m : Nat)] 31)).cell? ⟨w.heap.size + 1, 0, none⟩ = some (.int .u32 (q : Nat)) ∧ ((w.alloc (.cells #[.int .u32 (p : Nat), .int .u8 (n : Nat)] 31)).alloc (.cells #[.int .u32 (q : Nat), .int .u8 (m : Nat)] 31)).cell? ⟨w.heap.size + 1, 1, none⟩ = some (.int .u8 (m : Nat)) from ⟨⟨Below.cell (Below.alloc (Below.refl _ _) (Nat.le_refl _) _) (World.block_lt_of_cell? _ _ p0) |>.trans p0, Below.cell (Below.alloc (Below.refl _ _) (Nat.le_refl _) _) (World.block_lt_of_cell? _ _ p1) |>.trans p1⟩, (show w.heap.size + 1 = (w.alloc (.cells #[.int .u32 (p : Nat), .int .u8 (n : Nat)] 31)).heap.size by simp) ▸ q0, (show w.heap.size + 1 = (w.alloc (.cells #[.int .u32 (p : Nat), .int .u8 (n : Nat)] 31)).heap.size by simp) ▸ q1⟩)
    clear p0 p1 q0 q1
    generalize (w.alloc (.cells #[.int .u32 (p : Nat), .int .u8 (n : Nat)] 31)).alloc (.cells #[.int .u32 (q : Nat), .int .u8 (m : Nat)] 31) = w1 at hb0 HCEL
    have HB := Lib.hid hb0
    go_loopg [5] n (fun f s5 wx => ∃ k : Nat, s5 = .int .i64 (k : Int) ∧ Hid (k + f = n ∧ p / 2 ^ (n - k) = q / 2 ^ (m - k)) ∧ Hid (Below w1.heap.size w1 wx))
    case atStart => exact ⟨0, rfl, Lib.hid ⟨Nat.zero_add _, by rw [Nat.sub_zero, Nat.sub_zero, Nat.div_eq_of_lt HP.out.1, Nat.div_eq_of_lt HP.out.2]⟩, Lib.hid (Below.refl _ _)⟩
    case round =>
      obtain ⟨k, rfl, HI, HW⟩ := hrel
      have r0 := (HW.out.cell (World.block_lt_of_cell? _ _ HCEL.out.1.1)).trans HCEL.out.1.1
      have r1 := (HW.out.cell (World.block_lt_of_cell? _ _ HCEL.out.1.2)).trans HCEL.out.1.2
      have r2 := (HW.out.cell (World.block_lt_of_cell? _ _ HCEL.out.2.1)).trans HCEL.out.2.1
      have r3 := (HW.out.cell (World.block_lt_of_cell? _ _ HCEL.out.2.2)).trans HCEL.out.2.2
      cases gk with
      | zero =>
        obtain rfl : k = n := HI.out.1
        exact absurd (by have h := HI.out.2; rw [Nat.sub_self, Nat.pow_zero, Nat.div_one] at h; exact h) (HH.out HG.out)
      | succ f =>
        have hi : k < n := nt_nl HI.out.1
        obtain ⟨i1, i2⟩ := nt_lt hi
        have ei := nt_up hi (Nat.lt_of_le_of_lt HN.out.1 (by decide))
        go_wp2_with fail
        have HWR := Lib.hid HW.out.drew
        obtain ⟨x, hx⟩ : ∃ x, Hid (p / 2 ^ (n - 1 - k) % 2 = x) := ⟨_, Lib.hid rfl⟩
        obtain ⟨y, hy⟩ : ∃ y, Hid (q / 2 ^ (m - 1 - k) % 2 = y) := ⟨_, Lib.hid rfl⟩
        have hHeld : ((wr.drew.cell? ⟨w.heap.size, 0, none⟩ = some (.int .u32 (p : Nat)) ∧ wr.drew.cell? ⟨w.heap.size, 1, none⟩ = some (.int .u8 (n : Nat))) ∧ wr.drew.cell? ⟨w.heap.size + 1, 0, none⟩ = some (.int .u32 (q : Nat)) ∧ wr.drew.cell? ⟨w.heap.size + 1, 1, none⟩ = some (.int .u8 (m : Nat))) := ⟨⟨r0, r1⟩, r2, r3⟩
        clear r0 r1 r2 r3
        refine wp_region_T (fun w' => (w'.cell? ⟨w.heap.size, 0, none⟩ = some (.int .u32 (p : Nat)) ∧ w'.cell? ⟨w.heap.size, 1, none⟩ = some (.int .u8 (n : Nat))) ∧ w'.cell? ⟨w.heap.size + 1, 0, none⟩ = some (.int .u32 (q : Nat)) ∧ w'.cell? ⟨w.heap.size + 1, 1, none⟩ = some (.int .u8 (m : Nat))) [.take 0, .take 1, .take 3, .take 4, .go 2, .go 5, .take 6] (by kernel_rfl) (by kernel_rfl) (fun _ _ _ _ _ h => h) hHeld ?_
        refine T_light (a' := ?_) 18 rfl rfl rfl (of_decide_eq_true rfl) rfl hHeld (fun wq hSq K Q hK => ?_) ?_
        rotate_left
        · ((obtain ⟨⟨r1, r2⟩, _⟩ := hSq; go_step); exact hK)
        refine T_light (a' := ?_) 19 rfl rfl rfl (of_decide_eq_true rfl) rfl hHeld (fun wq hSq K Q hK => ?_) ?_
        rotate_left
        · (go_step; exact hK)
        refine T_light (a' := ?_) 21 rfl rfl rfl (of_decide_eq_true rfl) rfl hHeld (fun wq hSq K Q hK => ?_) ?_
        rotate_left
        · ((obtain ⟨_, r1, r2⟩ := hSq; go_step); exact hK)
        refine T_light (a' := ?_) 22 rfl rfl rfl (of_decide_eq_true rfl) rfl hHeld (fun wq hSq K Q hK => ?_) ?_
        rotate_left
        · (go_step; exact hK)
        refine T_call own21 20 [.agg #[.int .u32 (p : Nat), .int .u8 (n : Nat)], .int .i64 (k : Int)] rfl rfl rfl rfl rfl ?_
        refine (bit_got p n k x hx.out hi HN.out.1 HP2.out.1 _).mono ?_; rintro e w5 ⟨rfl, hb5⟩; have HB5 := Lib.hid (HWR.out.trans (hb5.mono HWR.out.size)); have hHeld := keep4 hHeld hb5; clear hb5
        refine ⟨_, rfl, hHeld, ?_⟩
        simp only [Act.put, List.setIfInBounds_toArray, List.set_cons_zero, List.set_cons_succ]
        refine T_call own21 23 [.agg #[.int .u32 (q : Nat), .int .u8 (m : Nat)], .int .i64 (k : Int)] rfl rfl rfl rfl rfl ?_
        refine (bit_got q m k y hy.out (Nat.lt_of_lt_of_le hi HG.out) HN.out.2 HP2.out.2 _).mono ?_; rintro e w6 ⟨rfl, hb6⟩; have HB6 := Lib.hid (HB5.out.trans (hb6.mono HB5.out.size)); have hHeld := keep4 hHeld hb6; clear hb6
        refine ⟨_, rfl, hHeld, ?_⟩
        simp only [Act.put, List.setIfInBounds_toArray, List.set_cons_zero, List.set_cons_succ]
        refine T_light (a' := ?_) 24 rfl rfl rfl (of_decide_eq_true rfl) rfl hHeld (fun wq hSq K Q hK => ?_) ?_
        rotate_left
        · (go_step; exact hK)
        refine T_done ?_
        clear hHeld
        by_cases hxy : x = y
        · have e9 : ((x : Int) != (y : Int)) = false := by rw [hxy]; simp
          have e9' : (x != y) = false := by rw [hxy]; simp
          have HS := Lib.hid (begins_step hi HG.out HI.out.2 (by rw [hx.out, hy.out]; exact hxy))
          clear hxy
          go_wp2_with fail
          go_roundg f
          case measure => exact Nat.lt_succ_self f
          case rel => exact ⟨k + 1, by rw [ei], Lib.hid ⟨nt_nx HI.out.1, HS.out⟩, Lib.hid HB6.out⟩
        · have e9 : ((x : Int) != (y : Int)) = true := by rw [bne_iff_ne]; omega
          have e9' : (x != y) = true := by rw [bne_iff_ne]; omega
          clear hxy
          go_wp2_with fail
          go_ret
          exact ⟨rfl, HB.out.trans (HB6.out.mono HB.out.size)⟩
end Go.Proofs.Ytogpjdiammecjaa
