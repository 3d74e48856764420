/-
  Parse: what the document's 'Places' comes to (a contract, by hand).
-/
import Derived.Test.YtolkmjclldjkkaaQa
set_option linter.unusedSimpArgs false
set_option linter.unusedVariables false
namespace Go.Proofs.Ytolkmjclldjkkaa
open Go.RowKit

/-- what is still to come of the places, with those that are told -/
def tailP (L : List Nat) (k : Nat × Nat × Nat) (at_ D q : Nat) (acc : List Nat) : List Nat :=
  acc ++ (((upto q).filter fun p => threeAt L p == some k).takeWhile fun p : Nat => decide ((at_ : Int) - (p : Int) ≤ 32768)).take (D - acc.length)
theorem tailP_all {L : List Nat} {k : Nat × Nat × Nat} {a D : Nat} (h : threeAt L a = some k) : placesL L (upto a) (a : Int) (D : Int) = tailP L k a D a [] := by
  unfold placesL tailP cand
  rw [if_neg (by omega), Int.toNat_natCast, h]
  simp
theorem tailP_zero (L : List Nat) (k : Nat × Nat × Nat) (a D : Nat) (acc : List Nat) : tailP L k a D 0 acc = acc := by simp [tailP, upto]
theorem tailP_full {L : List Nat} {k : Nat × Nat × Nat} {a D q : Nat} {acc : List Nat} (h : ¬ acc.length < D) : tailP L k a D q acc = acc := by
  unfold tailP
  rw [show D - acc.length = 0 by omega, List.take_zero, List.append_nil]
theorem tailP_far {L : List Nat} {k : Nat × Nat × Nat} {a D p : Nat} {acc : List Nat} (h : ¬ ((a : Int) - (p : Int) ≤ 32768)) : tailP L k a D (p + 1) acc = acc := by
  unfold tailP
  have h1 : ∀ l : List Nat, (∀ y ∈ l, y ≤ p) → (l.takeWhile fun p : Nat => decide ((a : Int) - (p : Int) ≤ 32768)) = [] := by
    intro l hl
    cases l with
    | nil => rfl
    | cons y r =>
      rw [List.takeWhile_cons, if_neg]
      have := hl y List.mem_cons_self
      simp only [decide_eq_true_eq]
      omega
  rw [h1 _ (fun y hy => by have := upto_lt (List.mem_filter.1 hy).1; omega), List.take_nil, List.append_nil]
theorem tailP_yes {L : List Nat} {k : Nat × Nat × Nat} {a D p : Nat} {acc : List Nat} (h : (a : Int) - (p : Int) ≤ 32768) (hl : acc.length < D) (hk : threeAt L p = some k) : tailP L k a D (p + 1) acc = tailP L k a D p (acc ++ [p]) := by
  unfold tailP
  rw [upto_succ, List.filter_cons, if_pos (by rw [hk]; simp), List.takeWhile_cons, if_pos (by simpa using h), List.length_append, List.length_singleton, show D - acc.length = (D - (acc.length + 1)) + 1 by omega, List.take_succ_cons, List.append_assoc]
  rfl
theorem tailP_no {L : List Nat} {k : Nat × Nat × Nat} {a D p : Nat} {acc : List Nat} (hk : threeAt L p ≠ some k) : tailP L k a D (p + 1) acc = tailP L k a D p acc := by
  unfold tailP
  rw [upto_succ, List.filter_cons, if_neg (by simpa using hk)]
theorem owns_form {W : World} {base n : Nat} {v : Value} {xs : List Value} (h : W.ownsRow base 3 1 v n xs) : ∃ a c, v = .slice a n c := by
  rcases h.2 with ⟨rfl, h0⟩ | ⟨g, cap, cur, rfl, _⟩
  · exact ⟨none, 0, by rw [h0]⟩
  · exact ⟨_, _, rfl⟩
theorem own_below {w W w1 : World} {v : Value} {n : Nat} {xs : List Value} {tmp : Obj} (hB : Below w.heap.size w W) (hr : W.ownsRow w.heap.size 3 1 v n xs) (hg : (W.alloc tmp).grownBy w1 v.ownBlock) : Below w.heap.size w w1 :=
  (hB.alloc hB.size tmp).grown hg (by have := hB.size; simp; omega) fun j ej => (hr.lt j ej).1
theorem placeV_snoc (l : List Nat) (p : Nat) : placeV (l ++ [p]) = placeV l ++ [.int .i64 (p : Nat)] := by simp [placeV]
theorem mt_u1 {a S : Nat} (h : a < S) (hS : S ≤ 100000) (h3 : ¬ a + 3 ≤ S) : wrap64 ((S : Int) - 3) = (S : Int) - 3 ∧ decide ((S : Int) - 3 < (a : Int)) = true ∧ decide ((a : Int) < 0) = false := by
  refine ⟨by unfold wrap64; omega, by rw [decide_eq_true_eq]; omega, by rw [decide_eq_false_iff_not]; omega⟩
theorem mt_u2 {a S : Nat} (h3 : a + 3 ≤ S) (hS : S ≤ 100000) : wrap64 ((S : Int) - 3) = (S : Int) - 3 ∧ decide ((S : Int) - 3 < (a : Int)) = false ∧ decide ((a : Int) < 0) = false ∧ wrap64 ((a : Int) - 1) = (a : Int) - 1 := by
  refine ⟨by unfold wrap64; omega, by rw [decide_eq_false_iff_not]; omega, by rw [decide_eq_false_iff_not]; omega, by unfold wrap64; omega⟩
theorem mt_u3 {p a S : Nat} (h : p < a) (h3 : a + 3 ≤ S) (hS : S ≤ 100000) : wrap64 ((a : Int) - (p : Int)) = (a : Int) - (p : Int) ∧ wrap64 ((p : Int) - 1) = (p : Int) - 1 ∧ decide ((0 : Int) ≤ (p : Int)) = true ∧ wrap64 ((p : Int) + 1) = (p : Int) + 1 ∧ wrap64 ((a : Int) + 1) = (a : Int) + 1 ∧ wrap64 ((p : Int) + 2) = (p : Int) + 2 ∧ wrap64 ((a : Int) + 2) = (a : Int) + 2 := by
  refine ⟨by unfold wrap64; omega, by unfold wrap64; omega, by rw [decide_eq_true_eq]; omega, by unfold wrap64; omega, by unfold wrap64; omega, by unfold wrap64; omega, by unfold wrap64; omega⟩
theorem mt_u4 {p a S : Nat} (h : p < a) (h3 : a + 3 ≤ S) : ((0 : Int) ≤ (p : Int) ∧ (p : Int) < (S : Int) ∧ (0 : Int) ≤ (a : Int) ∧ (a : Int) < (S : Int)) ∧ ((0 : Int) ≤ (p : Int) + 1 ∧ (p : Int) + 1 < (S : Int) ∧ (0 : Int) ≤ (a : Int) + 1 ∧ (a : Int) + 1 < (S : Int)) ∧ ((0 : Int) ≤ (p : Int) + 2 ∧ (p : Int) + 2 < (S : Int) ∧ (0 : Int) ≤ (a : Int) + 2 ∧ (a : Int) + 2 < (S : Int)) := by omega
theorem mt_u5 {a p : Nat} (h : (a : Int) - (p : Int) ≤ 32768) : decide ((a : Int) - (p : Int) ≤ 32768) = true := by rw [decide_eq_true_eq]; exact h
theorem mt_u6 {a p : Nat} (h : ¬ ((a : Int) - (p : Int) ≤ 32768)) : decide ((a : Int) - (p : Int) ≤ 32768) = false := by rw [decide_eq_false_iff_not]; exact h
theorem mt_u7 (p : Nat) : ((p + 1 : Nat) : Int) - 1 = (p : Int) := by omega
theorem mt_u8 {x y : Nat} (h : ¬ x = y) : ((x : Int) == (y : Int)) = false := by rw [beq_eq_false_iff_ne]; omega
theorem mt_u9 (x : Nat) : ((x : Int) == (x : Int)) = true := by simp
theorem mt_ua {n D : Nat} (h : n < D) (hD : D ≤ 100000) : n + 1 ≤ maxLen ∧ (n + 1) * 8 ≤ 140737488355328 := by unfold maxLen; omega
theorem three_some {L : List Nat} {p S : Nat} (h : p + 3 ≤ S) (hS : L.length = S) : threeAt L p = some (L.getD p 0, L.getD (p + 1) 0, L.getD (p + 2) 0) := by unfold threeAt; rw [if_pos (by omega)]
theorem byte_at (s : ByteArray) (i : Nat) : ∃ x : Nat, (byteL s).getD i 0 = x ∧ ∀ h', ((s[i]'h').toNat : Int) = (x : Int) := ⟨_, rfl, fun h' => by rw [idx_byte s i h']⟩
set_option maxRecDepth 100000 in
set_option maxHeartbeats 8000000 in
theorem rplaces_any (a D n₀ B G : Nat) (s : ByteArray) (w : World) (h : Rf w n₀ B G s a) (ha : a < s.size) (hs : s.size ≤ 100000) (hD : D ≤ 100000) :
    Calls Try.prog 40 #[.pointer (some ⟨B, 0, none⟩), .int .i64 (a : Nat), .int .i64 (D : Nat)] w fun e w' => ∃ v, e = .returned v ∧
      w'.ownsRow w.heap.size 3 1 v (placesL (byteL s) (upto a) (a : Int) (D : Int)).length (placeV (placesL (byteL s) (upto a) (a : Int) (D : Int))) ∧ Below w.heap.size w w' := by
  obtain ⟨T, hT⟩ : ∃ T, placesL (byteL s) (upto a) (a : Int) (D : Int) = T := ⟨_, rfl⟩
  rw [hT]
  have H := Lib.hid h
  have HA := Lib.hid (And.intro ha (And.intro hs hD))
  have q0 : w.cell? ⟨B, 0, none⟩ = some (.string s) := cell_blk h.blk 0
  by_cases h3 : a + 3 ≤ s.size
  · have hk := three_some h3 (byteL_length s)
    have HTT := Lib.hid (show tailP (byteL s) ((byteL s).getD a 0, (byteL s).getD (a + 1) 0, (byteL s).getD (a + 2) 0) a D a [] = T by rw [← hT, tailP_all hk])
    obtain ⟨u1, u2, u3, u4⟩ := mt_u2 h3 hs
    have H3 := Lib.hid h3
    obtain ⟨y0, hy0, iy0⟩ := byte_at s a
    obtain ⟨y1, hy1, iy1⟩ := byte_at s (a + 1)
    obtain ⟨y2, hy2, iy2⟩ := byte_at s (a + 2)
    rw [hy0, hy1, hy2] at HTT
    obtain ⟨i0, hi, hz0, hz1, hz2⟩ := info_parts info3
    clear hk h3 h ha hs hD hT hy0 hy1 hy2
    go_enter Try.func40, Try.ntmps40
    go_wp2_with fail
    (try simp only [u1, u4])
    go_loopg [7, 8] a (fun f s7 s8 wx => ∃ acc : List Nat, s8 = .int .i64 ((f : Int) - 1) ∧ Hid (f ≤ a) ∧ Hid (tailP (byteL s) (y0, y1, y2) a D f acc = T) ∧ Hid (wx.ownsRow w.heap.size 3 1 s7 acc.length (placeV acc)) ∧ Hid (Below w.heap.size w wx))
    case atStart => exact ⟨[], rfl, Lib.hid (Nat.le_refl _), HTT, Lib.hid (World.ownsRow_nil _ _ _ _), Lib.hid (Below.refl _ _)⟩
    case round =>
      obtain ⟨acc, rfl, HF, HG, HR, HB⟩ := hrel
      obtain ⟨ra, rc, rfl⟩ := owns_form HR.out
      cases gk with
      | zero =>
        have HE := Lib.hid (show acc = T by rw [← HG.out, tailP_zero])
        have z1 : decide ((0 : Int) ≤ ((0 : Nat) : Int) - 1) = false := by decide
        go_wp2_with fail
        go_ret
        rw [← HE.out]
        exact ⟨_, rfl, HR.out, HB.out⟩
      | succ p =>
        rw [mt_u7 p]
        have hpa : p < a := HF.out
        obtain ⟨e1, e2, e3, e4, e5, e6, e7⟩ := mt_u3 hpa H3.out HA.out.2.1
        obtain ⟨⟨n1, n2, n3, n4⟩, ⟨n5, n6, n7, n8⟩, n9, n10, n11, n12⟩ := mt_u4 hpa H3.out
        have HPA := Lib.hid hpa
        by_cases hfar : (a : Int) - (p : Int) ≤ 32768
        · have f1 := mt_u5 hfar
          have HFAR := Lib.hid hfar
          clear hfar hpa
          by_cases hl : acc.length < D
          · obtain ⟨l1, l2⟩ := mt_o6 hl
            have HLD := Lib.hid hl
            clear hl
            have hblk : wr.heap[B]? = some (.cells #[.string s, .slice (some ⟨G, 0, none⟩) s.size s.size, .int .i64 ((a : Int) - 1)] 88 (0, 0)) := (HB.out.block B (Array.getElem?_eq_some_iff.1 H.out.blk).1).trans H.out.blk
            have hrow : wr.heap[G]? = some (.cells (boolA s.size a) 4 (0, 0)) := (HB.out.block G (Array.getElem?_eq_some_iff.1 H.out.row).1).trans H.out.row
            have hb0 : wr.drew.cell? ⟨B, 0, none⟩ = some (.string s) := cell_blk hblk 0
            have hb1 : wr.drew.cell? ⟨B, 1, none⟩ = some (.slice (some ⟨G, 0, none⟩) s.size s.size) := cell_blk hblk 1
            have hb2 : wr.drew.cell? ⟨G, p, none⟩ = some (.bool true) := by
              have h := (cell_blk (w := wr.drew) hrow p).trans (boolA_get (Nat.lt_trans HPA.out HA.out.1))
              rw [h, decide_eq_true HPA.out]
            have HHELD := Lib.hid (And.intro hb0 (And.intro hb1 hb2))
            clear hblk hrow hb0 hb1 hb2
            obtain ⟨x0, hx0, ix0⟩ := byte_at s p
            obtain ⟨x1, hx1, ix1⟩ := byte_at s (p + 1)
            obtain ⟨x2, hx2, ix2⟩ := byte_at s (p + 2)
            have HK := Lib.hid (show threeAt (byteL s) p = some (x0, x1, x2) by rw [three_some (show p + 3 ≤ s.size from Nat.le_trans (Nat.add_le_add_right (Nat.le_of_lt HPA.out) 3) H3.out) (byteL_length s), hx0, hx1, hx2])
            clear hx0 hx1 hx2
            go_wp2_with fail
            by_cases g0 : x0 = y0
            · subst g0
              have k0 := mt_u9 x0
              by_cases g1 : x1 = y1
              · subst g1
                have k1 := mt_u9 x1
                by_cases g2 : x2 = y2
                · subst g2
                  have k2 := mt_u9 x2
                  have HG2 := Lib.hid (show tailP (byteL s) (x0, x1, x2) a D p (acc ++ [p]) = T by rw [← HG.out, tailP_yes HFAR.out HLD.out HK.out])
                  as_aux_lemma =>
                    have hHeld := HHELD.out
                    refine wp_region_T (fun w' => w'.cell? ⟨B, 0, none⟩ = some (.string s) ∧ w'.cell? ⟨B, 1, none⟩ = some (.slice (some ⟨G, 0, none⟩) s.size s.size) ∧ w'.cell? ⟨G, p, none⟩ = some (.bool true)) [.take 0, .take 1, .take 2, .take 3, .take 4, .take 5, .take 6, .take 7, .take 8, .take 9, .take 10, .take 11, .take 12, .take 13, .take 14, .take 15, .take 16, .take 17, .take 18, .take 19, .take 20, .take 21, .take 22, .take 23, .take 24, .take 25, .take 26, .take 27, .take 28, .take 29, .take 30, .take 31, .take 32, .take 33, .take 34, .take 35, .take 36, .take 37, .take 38, .take 39, .take 40, .take 41, .take 42, .take 43, .take 44, .take 45, .take 46, .take 47, .take 48, .take 49, .take 50, .take 51, .take 52, .take 53, .take 54, .take 55] (by kernel_rfl) (by kernel_rfl) (fun _ _ _ _ _ h => h) hHeld ?_
                    refine T_light (a' := ?_) 39 rfl rfl rfl (of_decide_eq_true rfl) rfl hHeld (fun wq hSq K Q hK => ?_) ?_
                    rotate_left
                    · (go_step; exact hK)
                    refine T_light (a' := ?_) 40 rfl rfl rfl (of_decide_eq_true rfl) rfl hHeld (fun wq hSq K Q hK => ?_) ?_
                    rotate_left
                    · (go_step; exact hK)
                    refine T_light (a' := ?_) 41 rfl rfl rfl (of_decide_eq_true rfl) rfl hHeld (fun wq hSq K Q hK => ?_) ?_
                    rotate_left
                    · (go_step; exact hK)
                    refine T_light (a' := ?_) 42 rfl rfl rfl (of_decide_eq_true rfl) rfl hHeld (fun wq hSq K Q hK => ?_) ?_
                    rotate_left
                    · ((have r1 := hSq.2.1; go_step); exact hK)
                    refine T_light (a' := ?_) 43 rfl rfl rfl (of_decide_eq_true rfl) rfl hHeld (fun wq hSq K Q hK => ?_) ?_
                    rotate_left
                    · (go_step; exact hK)
                    refine T_light (a' := ?_) 44 rfl rfl rfl (of_decide_eq_true rfl) rfl hHeld (fun wq hSq K Q hK => ?_) ?_
                    rotate_left
                    · (go_step; exact hK)
                    refine T_light (a' := ?_) 45 rfl rfl rfl (of_decide_eq_true rfl) rfl hHeld (fun wq hSq K Q hK => ?_) ?_
                    rotate_left
                    · ((have r1 := hSq.2.2; go_step); exact hK)
                    refine T_light (a' := ?_) 46 rfl rfl rfl (of_decide_eq_true rfl) rfl hHeld (fun wq hSq K Q hK => ?_) ?_
                    rotate_left
                    · (go_step; exact hK)
                    refine T_light (a' := ?_) 47 rfl rfl rfl (of_decide_eq_true rfl) rfl hHeld (fun wq hSq K Q hK => ?_) ?_
                    rotate_left
                    · (go_step; exact hK)
                    refine T_light (a' := ?_) 48 rfl rfl rfl (of_decide_eq_true rfl) rfl hHeld (fun wq hSq K Q hK => ?_) ?_
                    rotate_left
                    · (go_step; exact hK)
                    refine T_light (a' := ?_) 49 rfl rfl rfl (of_decide_eq_true rfl) rfl hHeld (fun wq hSq K Q hK => ?_) ?_
                    rotate_left
                    · (go_step; exact hK)
                    refine T_light (a' := ?_) 50 rfl rfl rfl (of_decide_eq_true rfl) rfl hHeld (fun wq hSq K Q hK => ?_) ?_
                    rotate_left
                    · ((have r1 := hSq.1; go_step); exact hK)
                    refine T_light (a' := ?_) 51 rfl rfl rfl (of_decide_eq_true rfl) rfl hHeld (fun wq hSq K Q hK => ?_) ?_
                    rotate_left
                    · (go_step; exact hK)
                    refine T_light (a' := ?_) 52 rfl rfl rfl (of_decide_eq_true rfl) rfl hHeld (fun wq hSq K Q hK => ?_) ?_
                    rotate_left
                    · (go_step; exact hK)
                    refine T_light (a' := ?_) 53 rfl rfl rfl (of_decide_eq_true rfl) rfl hHeld (fun wq hSq K Q hK => ?_) ?_
                    rotate_left
                    · (go_step; exact hK)
                    refine T_light (a' := ?_) 54 rfl rfl rfl (of_decide_eq_true rfl) rfl hHeld (fun wq hSq K Q hK => ?_) ?_
                    rotate_left
                    · (go_step; exact hK)
                    refine T_light (a' := ?_) 55 rfl rfl rfl (of_decide_eq_true rfl) rfl hHeld (fun wq hSq K Q hK => ?_) ?_
                    rotate_left
                    · (go_step; exact hK)
                    refine T_light (a' := ?_) 56 rfl rfl rfl (of_decide_eq_true rfl) rfl hHeld (fun wq hSq K Q hK => ?_) ?_
                    rotate_left
                    · ((have r1 := hSq.1; go_step); exact hK)
                    refine T_light (a' := ?_) 57 rfl rfl rfl (of_decide_eq_true rfl) rfl hHeld (fun wq hSq K Q hK => ?_) ?_
                    rotate_left
                    · (go_step; exact hK)
                    refine T_light (a' := ?_) 58 rfl rfl rfl (of_decide_eq_true rfl) rfl hHeld (fun wq hSq K Q hK => ?_) ?_
                    rotate_left
                    · (go_step; exact hK)
                    refine T_light (a' := ?_) 59 rfl rfl rfl (of_decide_eq_true rfl) rfl hHeld (fun wq hSq K Q hK => ?_) ?_
                    rotate_left
                    · (go_step; exact hK)
                    refine T_light (a' := ?_) 60 rfl rfl rfl (of_decide_eq_true rfl) rfl hHeld (fun wq hSq K Q hK => ?_) ?_
                    rotate_left
                    · (go_step; exact hK)
                    refine T_light (a' := ?_) 61 rfl rfl rfl (of_decide_eq_true rfl) rfl hHeld (fun wq hSq K Q hK => ?_) ?_
                    rotate_left
                    · (go_step; exact hK)
                    refine T_light (a' := ?_) 62 rfl rfl rfl (of_decide_eq_true rfl) rfl hHeld (fun wq hSq K Q hK => ?_) ?_
                    rotate_left
                    · (go_step; exact hK)
                    refine T_light (a' := ?_) 63 rfl rfl rfl (of_decide_eq_true rfl) rfl hHeld (fun wq hSq K Q hK => ?_) ?_
                    rotate_left
                    · (go_step; exact hK)
                    refine T_light (a' := ?_) 64 rfl rfl rfl (of_decide_eq_true rfl) rfl hHeld (fun wq hSq K Q hK => ?_) ?_
                    rotate_left
                    · (go_step; exact hK)
                    refine T_light (a' := ?_) 65 rfl rfl rfl (of_decide_eq_true rfl) rfl hHeld (fun wq hSq K Q hK => ?_) ?_
                    rotate_left
                    · ((have r1 := hSq.1; go_step); exact hK)
                    refine T_light (a' := ?_) 66 rfl rfl rfl (of_decide_eq_true rfl) rfl hHeld (fun wq hSq K Q hK => ?_) ?_
                    rotate_left
                    · (go_step; exact hK)
                    refine T_light (a' := ?_) 67 rfl rfl rfl (of_decide_eq_true rfl) rfl hHeld (fun wq hSq K Q hK => ?_) ?_
                    rotate_left
                    · (go_step; exact hK)
                    refine T_light (a' := ?_) 68 rfl rfl rfl (of_decide_eq_true rfl) rfl hHeld (fun wq hSq K Q hK => ?_) ?_
                    rotate_left
                    · (go_step; exact hK)
                    refine T_light (a' := ?_) 69 rfl rfl rfl (of_decide_eq_true rfl) rfl hHeld (fun wq hSq K Q hK => ?_) ?_
                    rotate_left
                    · (go_step; exact hK)
                    refine T_light (a' := ?_) 70 rfl rfl rfl (of_decide_eq_true rfl) rfl hHeld (fun wq hSq K Q hK => ?_) ?_
                    rotate_left
                    · (go_step; exact hK)
                    refine T_light (a' := ?_) 71 rfl rfl rfl (of_decide_eq_true rfl) rfl hHeld (fun wq hSq K Q hK => ?_) ?_
                    rotate_left
                    · (go_step; exact hK)
                    refine T_light (a' := ?_) 72 rfl rfl rfl (of_decide_eq_true rfl) rfl hHeld (fun wq hSq K Q hK => ?_) ?_
                    rotate_left
                    · ((have r1 := hSq.1; go_step); exact hK)
                    refine T_light (a' := ?_) 73 rfl rfl rfl (of_decide_eq_true rfl) rfl hHeld (fun wq hSq K Q hK => ?_) ?_
                    rotate_left
                    · (go_step; exact hK)
                    refine T_light (a' := ?_) 74 rfl rfl rfl (of_decide_eq_true rfl) rfl hHeld (fun wq hSq K Q hK => ?_) ?_
                    rotate_left
                    · (go_step; exact hK)
                    refine T_light (a' := ?_) 75 rfl rfl rfl (of_decide_eq_true rfl) rfl hHeld (fun wq hSq K Q hK => ?_) ?_
                    rotate_left
                    · (go_step; exact hK)
                    refine T_light (a' := ?_) 76 rfl rfl rfl (of_decide_eq_true rfl) rfl hHeld (fun wq hSq K Q hK => ?_) ?_
                    rotate_left
                    · (go_step; exact hK)
                    refine T_light (a' := ?_) 77 rfl rfl rfl (of_decide_eq_true rfl) rfl hHeld (fun wq hSq K Q hK => ?_) ?_
                    rotate_left
                    · (go_step; exact hK)
                    refine T_light (a' := ?_) 78 rfl rfl rfl (of_decide_eq_true rfl) rfl hHeld (fun wq hSq K Q hK => ?_) ?_
                    rotate_left
                    · (go_step; exact hK)
                    refine T_light (a' := ?_) 79 rfl rfl rfl (of_decide_eq_true rfl) rfl hHeld (fun wq hSq K Q hK => ?_) ?_
                    rotate_left
                    · (go_step; exact hK)
                    refine T_light (a' := ?_) 80 rfl rfl rfl (of_decide_eq_true rfl) rfl hHeld (fun wq hSq K Q hK => ?_) ?_
                    rotate_left
                    · (go_step; exact hK)
                    refine T_light (a' := ?_) 81 rfl rfl rfl (of_decide_eq_true rfl) rfl hHeld (fun wq hSq K Q hK => ?_) ?_
                    rotate_left
                    · (go_step; exact hK)
                    refine T_light (a' := ?_) 82 rfl rfl rfl (of_decide_eq_true rfl) rfl hHeld (fun wq hSq K Q hK => ?_) ?_
                    rotate_left
                    · ((have r1 := hSq.1; go_step); exact hK)
                    refine T_light (a' := ?_) 83 rfl rfl rfl (of_decide_eq_true rfl) rfl hHeld (fun wq hSq K Q hK => ?_) ?_
                    rotate_left
                    · (go_step; exact hK)
                    refine T_light (a' := ?_) 84 rfl rfl rfl (of_decide_eq_true rfl) rfl hHeld (fun wq hSq K Q hK => ?_) ?_
                    rotate_left
                    · (go_step; exact hK)
                    refine T_light (a' := ?_) 85 rfl rfl rfl (of_decide_eq_true rfl) rfl hHeld (fun wq hSq K Q hK => ?_) ?_
                    rotate_left
                    · (go_step; exact hK)
                    refine T_light (a' := ?_) 86 rfl rfl rfl (of_decide_eq_true rfl) rfl hHeld (fun wq hSq K Q hK => ?_) ?_
                    rotate_left
                    · (go_step; exact hK)
                    refine T_light (a' := ?_) 87 rfl rfl rfl (of_decide_eq_true rfl) rfl hHeld (fun wq hSq K Q hK => ?_) ?_
                    rotate_left
                    · (go_step; exact hK)
                    refine T_light (a' := ?_) 88 rfl rfl rfl (of_decide_eq_true rfl) rfl hHeld (fun wq hSq K Q hK => ?_) ?_
                    rotate_left
                    · (go_step; exact hK)
                    refine T_light (a' := ?_) 89 rfl rfl rfl (of_decide_eq_true rfl) rfl hHeld (fun wq hSq K Q hK => ?_) ?_
                    rotate_left
                    · ((have r1 := hSq.1; go_step); exact hK)
                    refine T_light (a' := ?_) 90 rfl rfl rfl (of_decide_eq_true rfl) rfl hHeld (fun wq hSq K Q hK => ?_) ?_
                    rotate_left
                    · (go_step; exact hK)
                    refine T_light (a' := ?_) 91 rfl rfl rfl (of_decide_eq_true rfl) rfl hHeld (fun wq hSq K Q hK => ?_) ?_
                    rotate_left
                    · (go_step; exact hK)
                    refine T_light (a' := ?_) 92 rfl rfl rfl (of_decide_eq_true rfl) rfl hHeld (fun wq hSq K Q hK => ?_) ?_
                    rotate_left
                    · (go_step; exact hK)
                    refine T_light (a' := ?_) 93 rfl rfl rfl (of_decide_eq_true rfl) rfl hHeld (fun wq hSq K Q hK => ?_) ?_
                    rotate_left
                    · (go_step; exact hK)
                    refine T_light (a' := ?_) 94 rfl rfl rfl (of_decide_eq_true rfl) rfl hHeld (fun wq hSq K Q hK => ?_) ?_
                    rotate_left
                    · (go_step; exact hK)
                    refine T_done ?_
                    clear hHeld
                    have HLA := Lib.hid (mt_ua HLD.out HA.out.2.2)
                    have HRD := Lib.hid (show wr.drew.ownsRow w.heap.size 3 1 (.slice ra acc.length rc) acc.length (placeV acc) from HR.out)
                    have HBD := Lib.hid HB.out.drew
                    have HC := Lib.hid (show ∀ j u, [Value.int .i64 (p : Nat)][j]? = some u → (wr.drew.alloc (.cells #[.int .i64 (p : Nat)] 3)).cell? ((⟨wr.drew.heap.size, 0, none⟩ : Addr).add j) = some u from fun j u hj => by
                      match j, hj with
                      | 0, hj => simp at hj; subst hj; exact cell_blk (heap_alloc_last wr.drew _) 0)
                    go_wp2_with (at_builtin; refine wpList_append_own _ rfl _ _ 31 rfl w.heap.size 3 i0 (.int .i64 0) 1 8 Try.underlying31 hi hz0 hz1 hz2 rfl (by decide) _ _ _ rfl (HRD.out.alloc _) ⟨wr.drew.heap.size, 0, none⟩ 1 1 [.int .i64 (p : Nat)] rfl rfl HC.out (by simp [Value.oneCell']) HLA.out.1 HLA.out.2 (Nat.le_trans HBD.out.size (by simp)) ?_; intro v9 w9 hown9 hgrow9 _; obtain ⟨g9, cap9, rfl⟩ := ownsRow_succ hown9; have HB9 := Lib.hid (own_below HBD.out HRD.out hgrow9); have HR9 := Lib.hid hown9; clear hown9 hgrow9)
                    go_roundg p
                    case measure => exact Nat.lt_succ_self p
                    case rel => exact ⟨acc ++ [p], by first | rw [e2] | rfl, Lib.hid (Nat.le_of_lt HPA.out), HG2, Lib.hid (by rw [List.length_append, placeV_snoc]; exact HR9.out), HB9⟩
                · have k2 := mt_u8 g2
                  have HG2 := Lib.hid (show tailP (byteL s) (x0, x1, y2) a D p acc = T by rw [← HG.out, tailP_no (by rw [HK.out]; exact fun h => g2 (by injection h with h; injection h with _ h; injection h))])
                  clear g2
                  as_aux_lemma =>
                    have hHeld := HHELD.out
                    refine wp_region_T (fun w' => w'.cell? ⟨B, 0, none⟩ = some (.string s) ∧ w'.cell? ⟨B, 1, none⟩ = some (.slice (some ⟨G, 0, none⟩) s.size s.size) ∧ w'.cell? ⟨G, p, none⟩ = some (.bool true)) [.take 0, .take 1, .take 2, .take 3, .take 4, .take 5, .take 6, .take 7, .take 8, .take 9, .take 10, .take 11, .take 12, .take 13, .take 14, .take 15, .take 16, .take 17, .take 18, .take 19, .take 20, .take 21, .take 22, .take 23, .take 24, .take 25, .take 26, .take 27, .take 28, .take 29, .take 30, .take 31, .take 32, .take 33, .take 34, .take 35, .take 36, .take 37, .take 38, .take 39, .take 40, .take 41, .take 42, .take 43, .take 44, .take 45, .take 46, .take 47, .take 48, .take 49, .take 50, .take 51, .take 52, .take 53, .take 54, .take 55] (by kernel_rfl) (by kernel_rfl) (fun _ _ _ _ _ h => h) hHeld ?_
                    refine T_light (a' := ?_) 39 rfl rfl rfl (of_decide_eq_true rfl) rfl hHeld (fun wq hSq K Q hK => ?_) ?_
                    rotate_left
                    · (go_step; exact hK)
                    refine T_light (a' := ?_) 40 rfl rfl rfl (of_decide_eq_true rfl) rfl hHeld (fun wq hSq K Q hK => ?_) ?_
                    rotate_left
                    · (go_step; exact hK)
                    refine T_light (a' := ?_) 41 rfl rfl rfl (of_decide_eq_true rfl) rfl hHeld (fun wq hSq K Q hK => ?_) ?_
                    rotate_left
                    · (go_step; exact hK)
                    refine T_light (a' := ?_) 42 rfl rfl rfl (of_decide_eq_true rfl) rfl hHeld (fun wq hSq K Q hK => ?_) ?_
                    rotate_left
                    · ((have r1 := hSq.2.1; go_step); exact hK)
                    refine T_light (a' := ?_) 43 rfl rfl rfl (of_decide_eq_true rfl) rfl hHeld (fun wq hSq K Q hK => ?_) ?_
                    rotate_left
                    · (go_step; exact hK)
                    refine T_light (a' := ?_) 44 rfl rfl rfl (of_decide_eq_true rfl) rfl hHeld (fun wq hSq K Q hK => ?_) ?_
                    rotate_left
                    · (go_step; exact hK)
                    refine T_light (a' := ?_) 45 rfl rfl rfl (of_decide_eq_true rfl) rfl hHeld (fun wq hSq K Q hK => ?_) ?_
                    rotate_left
                    · ((have r1 := hSq.2.2; go_step); exact hK)
                    refine T_light (a' := ?_) 46 rfl rfl rfl (of_decide_eq_true rfl) rfl hHeld (fun wq hSq K Q hK => ?_) ?_
                    rotate_left
                    · (go_step; exact hK)
                    refine T_light (a' := ?_) 47 rfl rfl rfl (of_decide_eq_true rfl) rfl hHeld (fun wq hSq K Q hK => ?_) ?_
                    rotate_left
                    · (go_step; exact hK)
                    refine T_light (a' := ?_) 48 rfl rfl rfl (of_decide_eq_true rfl) rfl hHeld (fun wq hSq K Q hK => ?_) ?_
                    rotate_left
                    · (go_step; exact hK)
                    refine T_light (a' := ?_) 49 rfl rfl rfl (of_decide_eq_true rfl) rfl hHeld (fun wq hSq K Q hK => ?_) ?_
                    rotate_left
                    · (go_step; exact hK)
                    refine T_light (a' := ?_) 50 rfl rfl rfl (of_decide_eq_true rfl) rfl hHeld (fun wq hSq K Q hK => ?_) ?_
                    rotate_left
                    · ((have r1 := hSq.1; go_step); exact hK)
                    refine T_light (a' := ?_) 51 rfl rfl rfl (of_decide_eq_true rfl) rfl hHeld (fun wq hSq K Q hK => ?_) ?_
                    rotate_left
                    · (go_step; exact hK)
                    refine T_light (a' := ?_) 52 rfl rfl rfl (of_decide_eq_true rfl) rfl hHeld (fun wq hSq K Q hK => ?_) ?_
                    rotate_left
                    · (go_step; exact hK)
                    refine T_light (a' := ?_) 53 rfl rfl rfl (of_decide_eq_true rfl) rfl hHeld (fun wq hSq K Q hK => ?_) ?_
                    rotate_left
                    · (go_step; exact hK)
                    refine T_light (a' := ?_) 54 rfl rfl rfl (of_decide_eq_true rfl) rfl hHeld (fun wq hSq K Q hK => ?_) ?_
                    rotate_left
                    · (go_step; exact hK)
                    refine T_light (a' := ?_) 55 rfl rfl rfl (of_decide_eq_true rfl) rfl hHeld (fun wq hSq K Q hK => ?_) ?_
                    rotate_left
                    · (go_step; exact hK)
                    refine T_light (a' := ?_) 56 rfl rfl rfl (of_decide_eq_true rfl) rfl hHeld (fun wq hSq K Q hK => ?_) ?_
                    rotate_left
                    · ((have r1 := hSq.1; go_step); exact hK)
                    refine T_light (a' := ?_) 57 rfl rfl rfl (of_decide_eq_true rfl) rfl hHeld (fun wq hSq K Q hK => ?_) ?_
                    rotate_left
                    · (go_step; exact hK)
                    refine T_light (a' := ?_) 58 rfl rfl rfl (of_decide_eq_true rfl) rfl hHeld (fun wq hSq K Q hK => ?_) ?_
                    rotate_left
                    · (go_step; exact hK)
                    refine T_light (a' := ?_) 59 rfl rfl rfl (of_decide_eq_true rfl) rfl hHeld (fun wq hSq K Q hK => ?_) ?_
                    rotate_left
                    · (go_step; exact hK)
                    refine T_light (a' := ?_) 60 rfl rfl rfl (of_decide_eq_true rfl) rfl hHeld (fun wq hSq K Q hK => ?_) ?_
                    rotate_left
                    · (go_step; exact hK)
                    refine T_light (a' := ?_) 61 rfl rfl rfl (of_decide_eq_true rfl) rfl hHeld (fun wq hSq K Q hK => ?_) ?_
                    rotate_left
                    · (go_step; exact hK)
                    refine T_light (a' := ?_) 62 rfl rfl rfl (of_decide_eq_true rfl) rfl hHeld (fun wq hSq K Q hK => ?_) ?_
                    rotate_left
                    · (go_step; exact hK)
                    refine T_light (a' := ?_) 63 rfl rfl rfl (of_decide_eq_true rfl) rfl hHeld (fun wq hSq K Q hK => ?_) ?_
                    rotate_left
                    · (go_step; exact hK)
                    refine T_light (a' := ?_) 64 rfl rfl rfl (of_decide_eq_true rfl) rfl hHeld (fun wq hSq K Q hK => ?_) ?_
                    rotate_left
                    · (go_step; exact hK)
                    refine T_light (a' := ?_) 65 rfl rfl rfl (of_decide_eq_true rfl) rfl hHeld (fun wq hSq K Q hK => ?_) ?_
                    rotate_left
                    · ((have r1 := hSq.1; go_step); exact hK)
                    refine T_light (a' := ?_) 66 rfl rfl rfl (of_decide_eq_true rfl) rfl hHeld (fun wq hSq K Q hK => ?_) ?_
                    rotate_left
                    · (go_step; exact hK)
                    refine T_light (a' := ?_) 67 rfl rfl rfl (of_decide_eq_true rfl) rfl hHeld (fun wq hSq K Q hK => ?_) ?_
                    rotate_left
                    · (go_step; exact hK)
                    refine T_light (a' := ?_) 68 rfl rfl rfl (of_decide_eq_true rfl) rfl hHeld (fun wq hSq K Q hK => ?_) ?_
                    rotate_left
                    · (go_step; exact hK)
                    refine T_light (a' := ?_) 69 rfl rfl rfl (of_decide_eq_true rfl) rfl hHeld (fun wq hSq K Q hK => ?_) ?_
                    rotate_left
                    · (go_step; exact hK)
                    refine T_light (a' := ?_) 70 rfl rfl rfl (of_decide_eq_true rfl) rfl hHeld (fun wq hSq K Q hK => ?_) ?_
                    rotate_left
                    · (go_step; exact hK)
                    refine T_light (a' := ?_) 71 rfl rfl rfl (of_decide_eq_true rfl) rfl hHeld (fun wq hSq K Q hK => ?_) ?_
                    rotate_left
                    · (go_step; exact hK)
                    refine T_light (a' := ?_) 72 rfl rfl rfl (of_decide_eq_true rfl) rfl hHeld (fun wq hSq K Q hK => ?_) ?_
                    rotate_left
                    · ((have r1 := hSq.1; go_step); exact hK)
                    refine T_light (a' := ?_) 73 rfl rfl rfl (of_decide_eq_true rfl) rfl hHeld (fun wq hSq K Q hK => ?_) ?_
                    rotate_left
                    · (go_step; exact hK)
                    refine T_light (a' := ?_) 74 rfl rfl rfl (of_decide_eq_true rfl) rfl hHeld (fun wq hSq K Q hK => ?_) ?_
                    rotate_left
                    · (go_step; exact hK)
                    refine T_light (a' := ?_) 75 rfl rfl rfl (of_decide_eq_true rfl) rfl hHeld (fun wq hSq K Q hK => ?_) ?_
                    rotate_left
                    · (go_step; exact hK)
                    refine T_light (a' := ?_) 76 rfl rfl rfl (of_decide_eq_true rfl) rfl hHeld (fun wq hSq K Q hK => ?_) ?_
                    rotate_left
                    · (go_step; exact hK)
                    refine T_light (a' := ?_) 77 rfl rfl rfl (of_decide_eq_true rfl) rfl hHeld (fun wq hSq K Q hK => ?_) ?_
                    rotate_left
                    · (go_step; exact hK)
                    refine T_light (a' := ?_) 78 rfl rfl rfl (of_decide_eq_true rfl) rfl hHeld (fun wq hSq K Q hK => ?_) ?_
                    rotate_left
                    · (go_step; exact hK)
                    refine T_light (a' := ?_) 79 rfl rfl rfl (of_decide_eq_true rfl) rfl hHeld (fun wq hSq K Q hK => ?_) ?_
                    rotate_left
                    · (go_step; exact hK)
                    refine T_light (a' := ?_) 80 rfl rfl rfl (of_decide_eq_true rfl) rfl hHeld (fun wq hSq K Q hK => ?_) ?_
                    rotate_left
                    · (go_step; exact hK)
                    refine T_light (a' := ?_) 81 rfl rfl rfl (of_decide_eq_true rfl) rfl hHeld (fun wq hSq K Q hK => ?_) ?_
                    rotate_left
                    · (go_step; exact hK)
                    refine T_light (a' := ?_) 82 rfl rfl rfl (of_decide_eq_true rfl) rfl hHeld (fun wq hSq K Q hK => ?_) ?_
                    rotate_left
                    · ((have r1 := hSq.1; go_step); exact hK)
                    refine T_light (a' := ?_) 83 rfl rfl rfl (of_decide_eq_true rfl) rfl hHeld (fun wq hSq K Q hK => ?_) ?_
                    rotate_left
                    · (go_step; exact hK)
                    refine T_light (a' := ?_) 84 rfl rfl rfl (of_decide_eq_true rfl) rfl hHeld (fun wq hSq K Q hK => ?_) ?_
                    rotate_left
                    · (go_step; exact hK)
                    refine T_light (a' := ?_) 85 rfl rfl rfl (of_decide_eq_true rfl) rfl hHeld (fun wq hSq K Q hK => ?_) ?_
                    rotate_left
                    · (go_step; exact hK)
                    refine T_light (a' := ?_) 86 rfl rfl rfl (of_decide_eq_true rfl) rfl hHeld (fun wq hSq K Q hK => ?_) ?_
                    rotate_left
                    · (go_step; exact hK)
                    refine T_light (a' := ?_) 87 rfl rfl rfl (of_decide_eq_true rfl) rfl hHeld (fun wq hSq K Q hK => ?_) ?_
                    rotate_left
                    · (go_step; exact hK)
                    refine T_light (a' := ?_) 88 rfl rfl rfl (of_decide_eq_true rfl) rfl hHeld (fun wq hSq K Q hK => ?_) ?_
                    rotate_left
                    · (go_step; exact hK)
                    refine T_light (a' := ?_) 89 rfl rfl rfl (of_decide_eq_true rfl) rfl hHeld (fun wq hSq K Q hK => ?_) ?_
                    rotate_left
                    · ((have r1 := hSq.1; go_step); exact hK)
                    refine T_light (a' := ?_) 90 rfl rfl rfl (of_decide_eq_true rfl) rfl hHeld (fun wq hSq K Q hK => ?_) ?_
                    rotate_left
                    · (go_step; exact hK)
                    refine T_light (a' := ?_) 91 rfl rfl rfl (of_decide_eq_true rfl) rfl hHeld (fun wq hSq K Q hK => ?_) ?_
                    rotate_left
                    · (go_step; exact hK)
                    refine T_light (a' := ?_) 92 rfl rfl rfl (of_decide_eq_true rfl) rfl hHeld (fun wq hSq K Q hK => ?_) ?_
                    rotate_left
                    · (go_step; exact hK)
                    refine T_light (a' := ?_) 93 rfl rfl rfl (of_decide_eq_true rfl) rfl hHeld (fun wq hSq K Q hK => ?_) ?_
                    rotate_left
                    · (go_step; exact hK)
                    refine T_light (a' := ?_) 94 rfl rfl rfl (of_decide_eq_true rfl) rfl hHeld (fun wq hSq K Q hK => ?_) ?_
                    rotate_left
                    · (go_step; exact hK)
                    refine T_done ?_
                    clear hHeld
                    go_wp2_with fail
                    go_roundg p
                    case measure => exact Nat.lt_succ_self p
                    case rel => exact ⟨acc, by first | rw [e2] | rfl, Lib.hid (Nat.le_of_lt HPA.out), HG2, Lib.hid (show wr.drew.ownsRow w.heap.size 3 1 _ acc.length (placeV acc) from HR.out), Lib.hid HB.out.drew⟩
              · have k1 := mt_u8 g1
                have HG2 := Lib.hid (show tailP (byteL s) (x0, y1, y2) a D p acc = T by rw [← HG.out, tailP_no (by rw [HK.out]; exact fun h => g1 (by injection h with h; injection h with _ h; injection h))])
                clear g1
                as_aux_lemma =>
                  have hHeld := HHELD.out
                  refine wp_region_T (fun w' => w'.cell? ⟨B, 0, none⟩ = some (.string s) ∧ w'.cell? ⟨B, 1, none⟩ = some (.slice (some ⟨G, 0, none⟩) s.size s.size) ∧ w'.cell? ⟨G, p, none⟩ = some (.bool true)) [.take 0, .take 1, .take 2, .take 3, .take 4, .take 5, .take 6, .take 7, .take 8, .take 9, .take 10, .take 11, .take 12, .take 13, .take 14, .take 15, .take 16, .take 17, .take 18, .take 19, .take 20, .take 21, .take 22, .take 23, .take 24, .take 25, .take 26, .take 27, .take 28, .take 29, .take 30, .take 31, .take 32, .take 33, .take 34, .take 35, .take 36, .take 37, .take 38, .take 39, .take 40, .take 41, .take 42, .take 43, .take 44, .take 45, .take 46, .take 47, .take 48, .take 49, .take 50, .take 51, .take 52, .take 53, .take 54, .take 55] (by kernel_rfl) (by kernel_rfl) (fun _ _ _ _ _ h => h) hHeld ?_
                  refine T_light (a' := ?_) 39 rfl rfl rfl (of_decide_eq_true rfl) rfl hHeld (fun wq hSq K Q hK => ?_) ?_
                  rotate_left
                  · (go_step; exact hK)
                  refine T_light (a' := ?_) 40 rfl rfl rfl (of_decide_eq_true rfl) rfl hHeld (fun wq hSq K Q hK => ?_) ?_
                  rotate_left
                  · (go_step; exact hK)
                  refine T_light (a' := ?_) 41 rfl rfl rfl (of_decide_eq_true rfl) rfl hHeld (fun wq hSq K Q hK => ?_) ?_
                  rotate_left
                  · (go_step; exact hK)
                  refine T_light (a' := ?_) 42 rfl rfl rfl (of_decide_eq_true rfl) rfl hHeld (fun wq hSq K Q hK => ?_) ?_
                  rotate_left
                  · ((have r1 := hSq.2.1; go_step); exact hK)
                  refine T_light (a' := ?_) 43 rfl rfl rfl (of_decide_eq_true rfl) rfl hHeld (fun wq hSq K Q hK => ?_) ?_
                  rotate_left
                  · (go_step; exact hK)
                  refine T_light (a' := ?_) 44 rfl rfl rfl (of_decide_eq_true rfl) rfl hHeld (fun wq hSq K Q hK => ?_) ?_
                  rotate_left
                  · (go_step; exact hK)
                  refine T_light (a' := ?_) 45 rfl rfl rfl (of_decide_eq_true rfl) rfl hHeld (fun wq hSq K Q hK => ?_) ?_
                  rotate_left
                  · ((have r1 := hSq.2.2; go_step); exact hK)
                  refine T_light (a' := ?_) 46 rfl rfl rfl (of_decide_eq_true rfl) rfl hHeld (fun wq hSq K Q hK => ?_) ?_
                  rotate_left
                  · (go_step; exact hK)
                  refine T_light (a' := ?_) 47 rfl rfl rfl (of_decide_eq_true rfl) rfl hHeld (fun wq hSq K Q hK => ?_) ?_
                  rotate_left
                  · (go_step; exact hK)
                  refine T_light (a' := ?_) 48 rfl rfl rfl (of_decide_eq_true rfl) rfl hHeld (fun wq hSq K Q hK => ?_) ?_
                  rotate_left
                  · (go_step; exact hK)
                  refine T_light (a' := ?_) 49 rfl rfl rfl (of_decide_eq_true rfl) rfl hHeld (fun wq hSq K Q hK => ?_) ?_
                  rotate_left
                  · (go_step; exact hK)
                  refine T_light (a' := ?_) 50 rfl rfl rfl (of_decide_eq_true rfl) rfl hHeld (fun wq hSq K Q hK => ?_) ?_
                  rotate_left
                  · ((have r1 := hSq.1; go_step); exact hK)
                  refine T_light (a' := ?_) 51 rfl rfl rfl (of_decide_eq_true rfl) rfl hHeld (fun wq hSq K Q hK => ?_) ?_
                  rotate_left
                  · (go_step; exact hK)
                  refine T_light (a' := ?_) 52 rfl rfl rfl (of_decide_eq_true rfl) rfl hHeld (fun wq hSq K Q hK => ?_) ?_
                  rotate_left
                  · (go_step; exact hK)
                  refine T_light (a' := ?_) 53 rfl rfl rfl (of_decide_eq_true rfl) rfl hHeld (fun wq hSq K Q hK => ?_) ?_
                  rotate_left
                  · (go_step; exact hK)
                  refine T_light (a' := ?_) 54 rfl rfl rfl (of_decide_eq_true rfl) rfl hHeld (fun wq hSq K Q hK => ?_) ?_
                  rotate_left
                  · (go_step; exact hK)
                  refine T_light (a' := ?_) 55 rfl rfl rfl (of_decide_eq_true rfl) rfl hHeld (fun wq hSq K Q hK => ?_) ?_
                  rotate_left
                  · (go_step; exact hK)
                  refine T_light (a' := ?_) 56 rfl rfl rfl (of_decide_eq_true rfl) rfl hHeld (fun wq hSq K Q hK => ?_) ?_
                  rotate_left
                  · ((have r1 := hSq.1; go_step); exact hK)
                  refine T_light (a' := ?_) 57 rfl rfl rfl (of_decide_eq_true rfl) rfl hHeld (fun wq hSq K Q hK => ?_) ?_
                  rotate_left
                  · (go_step; exact hK)
                  refine T_light (a' := ?_) 58 rfl rfl rfl (of_decide_eq_true rfl) rfl hHeld (fun wq hSq K Q hK => ?_) ?_
                  rotate_left
                  · (go_step; exact hK)
                  refine T_light (a' := ?_) 59 rfl rfl rfl (of_decide_eq_true rfl) rfl hHeld (fun wq hSq K Q hK => ?_) ?_
                  rotate_left
                  · (go_step; exact hK)
                  refine T_light (a' := ?_) 60 rfl rfl rfl (of_decide_eq_true rfl) rfl hHeld (fun wq hSq K Q hK => ?_) ?_
                  rotate_left
                  · (go_step; exact hK)
                  refine T_light (a' := ?_) 61 rfl rfl rfl (of_decide_eq_true rfl) rfl hHeld (fun wq hSq K Q hK => ?_) ?_
                  rotate_left
                  · (go_step; exact hK)
                  refine T_light (a' := ?_) 62 rfl rfl rfl (of_decide_eq_true rfl) rfl hHeld (fun wq hSq K Q hK => ?_) ?_
                  rotate_left
                  · (go_step; exact hK)
                  refine T_light (a' := ?_) 63 rfl rfl rfl (of_decide_eq_true rfl) rfl hHeld (fun wq hSq K Q hK => ?_) ?_
                  rotate_left
                  · (go_step; exact hK)
                  refine T_light (a' := ?_) 64 rfl rfl rfl (of_decide_eq_true rfl) rfl hHeld (fun wq hSq K Q hK => ?_) ?_
                  rotate_left
                  · (go_step; exact hK)
                  refine T_light (a' := ?_) 65 rfl rfl rfl (of_decide_eq_true rfl) rfl hHeld (fun wq hSq K Q hK => ?_) ?_
                  rotate_left
                  · ((have r1 := hSq.1; go_step); exact hK)
                  refine T_light (a' := ?_) 66 rfl rfl rfl (of_decide_eq_true rfl) rfl hHeld (fun wq hSq K Q hK => ?_) ?_
                  rotate_left
                  · (go_step; exact hK)
                  refine T_light (a' := ?_) 67 rfl rfl rfl (of_decide_eq_true rfl) rfl hHeld (fun wq hSq K Q hK => ?_) ?_
                  rotate_left
                  · (go_step; exact hK)
                  refine T_light (a' := ?_) 68 rfl rfl rfl (of_decide_eq_true rfl) rfl hHeld (fun wq hSq K Q hK => ?_) ?_
                  rotate_left
                  · (go_step; exact hK)
                  refine T_light (a' := ?_) 69 rfl rfl rfl (of_decide_eq_true rfl) rfl hHeld (fun wq hSq K Q hK => ?_) ?_
                  rotate_left
                  · (go_step; exact hK)
                  refine T_light (a' := ?_) 70 rfl rfl rfl (of_decide_eq_true rfl) rfl hHeld (fun wq hSq K Q hK => ?_) ?_
                  rotate_left
                  · (go_step; exact hK)
                  refine T_light (a' := ?_) 71 rfl rfl rfl (of_decide_eq_true rfl) rfl hHeld (fun wq hSq K Q hK => ?_) ?_
                  rotate_left
                  · (go_step; exact hK)
                  refine T_light (a' := ?_) 72 rfl rfl rfl (of_decide_eq_true rfl) rfl hHeld (fun wq hSq K Q hK => ?_) ?_
                  rotate_left
                  · ((have r1 := hSq.1; go_step); exact hK)
                  refine T_light (a' := ?_) 73 rfl rfl rfl (of_decide_eq_true rfl) rfl hHeld (fun wq hSq K Q hK => ?_) ?_
                  rotate_left
                  · (go_step; exact hK)
                  refine T_light (a' := ?_) 74 rfl rfl rfl (of_decide_eq_true rfl) rfl hHeld (fun wq hSq K Q hK => ?_) ?_
                  rotate_left
                  · (go_step; exact hK)
                  refine T_light (a' := ?_) 75 rfl rfl rfl (of_decide_eq_true rfl) rfl hHeld (fun wq hSq K Q hK => ?_) ?_
                  rotate_left
                  · (go_step; exact hK)
                  refine T_light (a' := ?_) 76 rfl rfl rfl (of_decide_eq_true rfl) rfl hHeld (fun wq hSq K Q hK => ?_) ?_
                  rotate_left
                  · (go_step; exact hK)
                  refine T_light (a' := ?_) 77 rfl rfl rfl (of_decide_eq_true rfl) rfl hHeld (fun wq hSq K Q hK => ?_) ?_
                  rotate_left
                  · (go_step; exact hK)
                  refine T_light (a' := ?_) 78 rfl rfl rfl (of_decide_eq_true rfl) rfl hHeld (fun wq hSq K Q hK => ?_) ?_
                  rotate_left
                  · (go_step; exact hK)
                  refine T_pass2 (a' := ?_) 79 rfl rfl (by kernel_rfl) (fun K hK => ?_) ?_
                  rotate_left
                  · (simp only [Act.put, List.setIfInBounds_toArray, List.set_cons_zero, List.set_cons_succ]; exact hK)
                  refine T_pass2 (a' := ?_) 80 rfl rfl (by kernel_rfl) (fun K hK => ?_) ?_
                  rotate_left
                  · (simp only [Act.put, List.setIfInBounds_toArray, List.set_cons_zero, List.set_cons_succ]; exact hK)
                  refine T_pass2 (a' := ?_) 81 rfl rfl (by kernel_rfl) (fun K hK => ?_) ?_
                  rotate_left
                  · (simp only [Act.put, List.setIfInBounds_toArray, List.set_cons_zero, List.set_cons_succ]; exact hK)
                  refine T_pass2 (a' := ?_) 82 rfl rfl (by kernel_rfl) (fun K hK => ?_) ?_
                  rotate_left
                  · (simp only [Act.put, List.setIfInBounds_toArray, List.set_cons_zero, List.set_cons_succ]; exact hK)
                  refine T_pass2 (a' := ?_) 83 rfl rfl (by kernel_rfl) (fun K hK => ?_) ?_
                  rotate_left
                  · (simp only [Act.put, List.setIfInBounds_toArray, List.set_cons_zero, List.set_cons_succ]; exact hK)
                  refine T_pass2 (a' := ?_) 84 rfl rfl (by kernel_rfl) (fun K hK => ?_) ?_
                  rotate_left
                  · (simp only [Act.put, List.setIfInBounds_toArray, List.set_cons_zero, List.set_cons_succ]; exact hK)
                  refine T_pass2 (a' := ?_) 85 rfl rfl (by kernel_rfl) (fun K hK => ?_) ?_
                  rotate_left
                  · (simp only [Act.put, List.setIfInBounds_toArray, List.set_cons_zero, List.set_cons_succ]; exact hK)
                  refine T_pass2 (a' := ?_) 86 rfl rfl (by kernel_rfl) (fun K hK => ?_) ?_
                  rotate_left
                  · (simp only [Act.put, List.setIfInBounds_toArray, List.set_cons_zero, List.set_cons_succ]; exact hK)
                  refine T_pass2 (a' := ?_) 87 rfl rfl (by kernel_rfl) (fun K hK => ?_) ?_
                  rotate_left
                  · (simp only [Act.put, List.setIfInBounds_toArray, List.set_cons_zero, List.set_cons_succ]; exact hK)
                  refine T_pass2 (a' := ?_) 88 rfl rfl (by kernel_rfl) (fun K hK => ?_) ?_
                  rotate_left
                  · (simp only [Act.put, List.setIfInBounds_toArray, List.set_cons_zero, List.set_cons_succ]; exact hK)
                  refine T_pass2 (a' := ?_) 89 rfl rfl (by kernel_rfl) (fun K hK => ?_) ?_
                  rotate_left
                  · (simp only [Act.put, List.setIfInBounds_toArray, List.set_cons_zero, List.set_cons_succ]; exact hK)
                  refine T_pass2 (a' := ?_) 90 rfl rfl (by kernel_rfl) (fun K hK => ?_) ?_
                  rotate_left
                  · (simp only [Act.put, List.setIfInBounds_toArray, List.set_cons_zero, List.set_cons_succ]; exact hK)
                  refine T_pass2 (a' := ?_) 91 rfl rfl (by kernel_rfl) (fun K hK => ?_) ?_
                  rotate_left
                  · (simp only [Act.put, List.setIfInBounds_toArray, List.set_cons_zero, List.set_cons_succ]; exact hK)
                  refine T_pass2 (a' := ?_) 92 rfl rfl (by kernel_rfl) (fun K hK => ?_) ?_
                  rotate_left
                  · (simp only [Act.put, List.setIfInBounds_toArray, List.set_cons_zero, List.set_cons_succ]; exact hK)
                  refine T_pass2 (a' := ?_) 93 rfl rfl (by kernel_rfl) (fun K hK => ?_) ?_
                  rotate_left
                  · (simp only [Act.put, List.setIfInBounds_toArray, List.set_cons_zero, List.set_cons_succ]; exact hK)
                  refine T_light (a' := ?_) 94 rfl rfl rfl (of_decide_eq_true rfl) rfl hHeld (fun wq hSq K Q hK => ?_) ?_
                  rotate_left
                  · (go_step; exact hK)
                  refine T_done ?_
                  clear hHeld
                  go_wp2_with fail
                  go_roundg p
                  case measure => exact Nat.lt_succ_self p
                  case rel => exact ⟨acc, by first | rw [e2] | rfl, Lib.hid (Nat.le_of_lt HPA.out), HG2, Lib.hid (show wr.drew.ownsRow w.heap.size 3 1 _ acc.length (placeV acc) from HR.out), Lib.hid HB.out.drew⟩
            · have k0 := mt_u8 g0
              have HG2 := Lib.hid (show tailP (byteL s) (y0, y1, y2) a D p acc = T by rw [← HG.out, tailP_no (by rw [HK.out]; exact fun h => g0 (by injection h with h; injection h))])
              clear g0
              as_aux_lemma =>
                have hHeld := HHELD.out
                refine wp_region_T (fun w' => w'.cell? ⟨B, 0, none⟩ = some (.string s) ∧ w'.cell? ⟨B, 1, none⟩ = some (.slice (some ⟨G, 0, none⟩) s.size s.size) ∧ w'.cell? ⟨G, p, none⟩ = some (.bool true)) [.take 0, .take 1, .take 2, .take 3, .take 4, .take 5, .take 6, .take 7, .take 8, .take 9, .take 10, .take 11, .take 12, .take 13, .take 14, .take 15, .take 16, .take 17, .take 18, .take 19, .take 20, .take 21, .take 22, .take 23, .take 24, .take 25, .take 26, .take 27, .take 28, .take 29, .take 30, .take 31, .take 32, .take 33, .take 34, .take 35, .take 36, .take 37, .take 38, .take 39, .take 40, .take 41, .take 42, .take 43, .take 44, .take 45, .take 46, .take 47, .take 48, .take 49, .take 50, .take 51, .take 52, .take 53, .take 54, .take 55] (by kernel_rfl) (by kernel_rfl) (fun _ _ _ _ _ h => h) hHeld ?_
                refine T_light (a' := ?_) 39 rfl rfl rfl (of_decide_eq_true rfl) rfl hHeld (fun wq hSq K Q hK => ?_) ?_
                rotate_left
                · (go_step; exact hK)
                refine T_light (a' := ?_) 40 rfl rfl rfl (of_decide_eq_true rfl) rfl hHeld (fun wq hSq K Q hK => ?_) ?_
                rotate_left
                · (go_step; exact hK)
                refine T_light (a' := ?_) 41 rfl rfl rfl (of_decide_eq_true rfl) rfl hHeld (fun wq hSq K Q hK => ?_) ?_
                rotate_left
                · (go_step; exact hK)
                refine T_light (a' := ?_) 42 rfl rfl rfl (of_decide_eq_true rfl) rfl hHeld (fun wq hSq K Q hK => ?_) ?_
                rotate_left
                · ((have r1 := hSq.2.1; go_step); exact hK)
                refine T_light (a' := ?_) 43 rfl rfl rfl (of_decide_eq_true rfl) rfl hHeld (fun wq hSq K Q hK => ?_) ?_
                rotate_left
                · (go_step; exact hK)
                refine T_light (a' := ?_) 44 rfl rfl rfl (of_decide_eq_true rfl) rfl hHeld (fun wq hSq K Q hK => ?_) ?_
                rotate_left
                · (go_step; exact hK)
                refine T_light (a' := ?_) 45 rfl rfl rfl (of_decide_eq_true rfl) rfl hHeld (fun wq hSq K Q hK => ?_) ?_
                rotate_left
                · ((have r1 := hSq.2.2; go_step); exact hK)
                refine T_light (a' := ?_) 46 rfl rfl rfl (of_decide_eq_true rfl) rfl hHeld (fun wq hSq K Q hK => ?_) ?_
                rotate_left
                · (go_step; exact hK)
                refine T_light (a' := ?_) 47 rfl rfl rfl (of_decide_eq_true rfl) rfl hHeld (fun wq hSq K Q hK => ?_) ?_
                rotate_left
                · (go_step; exact hK)
                refine T_light (a' := ?_) 48 rfl rfl rfl (of_decide_eq_true rfl) rfl hHeld (fun wq hSq K Q hK => ?_) ?_
                rotate_left
                · (go_step; exact hK)
                refine T_light (a' := ?_) 49 rfl rfl rfl (of_decide_eq_true rfl) rfl hHeld (fun wq hSq K Q hK => ?_) ?_
                rotate_left
                · (go_step; exact hK)
                refine T_light (a' := ?_) 50 rfl rfl rfl (of_decide_eq_true rfl) rfl hHeld (fun wq hSq K Q hK => ?_) ?_
                rotate_left
                · ((have r1 := hSq.1; go_step); exact hK)
                refine T_light (a' := ?_) 51 rfl rfl rfl (of_decide_eq_true rfl) rfl hHeld (fun wq hSq K Q hK => ?_) ?_
                rotate_left
                · (go_step; exact hK)
                refine T_light (a' := ?_) 52 rfl rfl rfl (of_decide_eq_true rfl) rfl hHeld (fun wq hSq K Q hK => ?_) ?_
                rotate_left
                · (go_step; exact hK)
                refine T_light (a' := ?_) 53 rfl rfl rfl (of_decide_eq_true rfl) rfl hHeld (fun wq hSq K Q hK => ?_) ?_
                rotate_left
                · (go_step; exact hK)
                refine T_light (a' := ?_) 54 rfl rfl rfl (of_decide_eq_true rfl) rfl hHeld (fun wq hSq K Q hK => ?_) ?_
                rotate_left
                · (go_step; exact hK)
                refine T_light (a' := ?_) 55 rfl rfl rfl (of_decide_eq_true rfl) rfl hHeld (fun wq hSq K Q hK => ?_) ?_
                rotate_left
                · (go_step; exact hK)
                refine T_light (a' := ?_) 56 rfl rfl rfl (of_decide_eq_true rfl) rfl hHeld (fun wq hSq K Q hK => ?_) ?_
                rotate_left
                · ((have r1 := hSq.1; go_step); exact hK)
                refine T_light (a' := ?_) 57 rfl rfl rfl (of_decide_eq_true rfl) rfl hHeld (fun wq hSq K Q hK => ?_) ?_
                rotate_left
                · (go_step; exact hK)
                refine T_light (a' := ?_) 58 rfl rfl rfl (of_decide_eq_true rfl) rfl hHeld (fun wq hSq K Q hK => ?_) ?_
                rotate_left
                · (go_step; exact hK)
                refine T_light (a' := ?_) 59 rfl rfl rfl (of_decide_eq_true rfl) rfl hHeld (fun wq hSq K Q hK => ?_) ?_
                rotate_left
                · (go_step; exact hK)
                refine T_light (a' := ?_) 60 rfl rfl rfl (of_decide_eq_true rfl) rfl hHeld (fun wq hSq K Q hK => ?_) ?_
                rotate_left
                · (go_step; exact hK)
                refine T_light (a' := ?_) 61 rfl rfl rfl (of_decide_eq_true rfl) rfl hHeld (fun wq hSq K Q hK => ?_) ?_
                rotate_left
                · (go_step; exact hK)
                refine T_pass2 (a' := ?_) 62 rfl rfl (by kernel_rfl) (fun K hK => ?_) ?_
                rotate_left
                · (simp only [Act.put, List.setIfInBounds_toArray, List.set_cons_zero, List.set_cons_succ]; exact hK)
                refine T_pass2 (a' := ?_) 63 rfl rfl (by kernel_rfl) (fun K hK => ?_) ?_
                rotate_left
                · (simp only [Act.put, List.setIfInBounds_toArray, List.set_cons_zero, List.set_cons_succ]; exact hK)
                refine T_pass2 (a' := ?_) 64 rfl rfl (by kernel_rfl) (fun K hK => ?_) ?_
                rotate_left
                · (simp only [Act.put, List.setIfInBounds_toArray, List.set_cons_zero, List.set_cons_succ]; exact hK)
                refine T_pass2 (a' := ?_) 65 rfl rfl (by kernel_rfl) (fun K hK => ?_) ?_
                rotate_left
                · (simp only [Act.put, List.setIfInBounds_toArray, List.set_cons_zero, List.set_cons_succ]; exact hK)
                refine T_pass2 (a' := ?_) 66 rfl rfl (by kernel_rfl) (fun K hK => ?_) ?_
                rotate_left
                · (simp only [Act.put, List.setIfInBounds_toArray, List.set_cons_zero, List.set_cons_succ]; exact hK)
                refine T_pass2 (a' := ?_) 67 rfl rfl (by kernel_rfl) (fun K hK => ?_) ?_
                rotate_left
                · (simp only [Act.put, List.setIfInBounds_toArray, List.set_cons_zero, List.set_cons_succ]; exact hK)
                refine T_pass2 (a' := ?_) 68 rfl rfl (by kernel_rfl) (fun K hK => ?_) ?_
                rotate_left
                · (simp only [Act.put, List.setIfInBounds_toArray, List.set_cons_zero, List.set_cons_succ]; exact hK)
                refine T_pass2 (a' := ?_) 69 rfl rfl (by kernel_rfl) (fun K hK => ?_) ?_
                rotate_left
                · (simp only [Act.put, List.setIfInBounds_toArray, List.set_cons_zero, List.set_cons_succ]; exact hK)
                refine T_pass2 (a' := ?_) 70 rfl rfl (by kernel_rfl) (fun K hK => ?_) ?_
                rotate_left
                · (simp only [Act.put, List.setIfInBounds_toArray, List.set_cons_zero, List.set_cons_succ]; exact hK)
                refine T_pass2 (a' := ?_) 71 rfl rfl (by kernel_rfl) (fun K hK => ?_) ?_
                rotate_left
                · (simp only [Act.put, List.setIfInBounds_toArray, List.set_cons_zero, List.set_cons_succ]; exact hK)
                refine T_pass2 (a' := ?_) 72 rfl rfl (by kernel_rfl) (fun K hK => ?_) ?_
                rotate_left
                · (simp only [Act.put, List.setIfInBounds_toArray, List.set_cons_zero, List.set_cons_succ]; exact hK)
                refine T_pass2 (a' := ?_) 73 rfl rfl (by kernel_rfl) (fun K hK => ?_) ?_
                rotate_left
                · (simp only [Act.put, List.setIfInBounds_toArray, List.set_cons_zero, List.set_cons_succ]; exact hK)
                refine T_pass2 (a' := ?_) 74 rfl rfl (by kernel_rfl) (fun K hK => ?_) ?_
                rotate_left
                · (simp only [Act.put, List.setIfInBounds_toArray, List.set_cons_zero, List.set_cons_succ]; exact hK)
                refine T_pass2 (a' := ?_) 75 rfl rfl (by kernel_rfl) (fun K hK => ?_) ?_
                rotate_left
                · (simp only [Act.put, List.setIfInBounds_toArray, List.set_cons_zero, List.set_cons_succ]; exact hK)
                refine T_pass2 (a' := ?_) 76 rfl rfl (by kernel_rfl) (fun K hK => ?_) ?_
                rotate_left
                · (simp only [Act.put, List.setIfInBounds_toArray, List.set_cons_zero, List.set_cons_succ]; exact hK)
                refine T_light (a' := ?_) 77 rfl rfl rfl (of_decide_eq_true rfl) rfl hHeld (fun wq hSq K Q hK => ?_) ?_
                rotate_left
                · (go_step; exact hK)
                refine T_light (a' := ?_) 78 rfl rfl rfl (of_decide_eq_true rfl) rfl hHeld (fun wq hSq K Q hK => ?_) ?_
                rotate_left
                · (go_step; exact hK)
                refine T_pass2 (a' := ?_) 79 rfl rfl (by kernel_rfl) (fun K hK => ?_) ?_
                rotate_left
                · (simp only [Act.put, List.setIfInBounds_toArray, List.set_cons_zero, List.set_cons_succ]; exact hK)
                refine T_pass2 (a' := ?_) 80 rfl rfl (by kernel_rfl) (fun K hK => ?_) ?_
                rotate_left
                · (simp only [Act.put, List.setIfInBounds_toArray, List.set_cons_zero, List.set_cons_succ]; exact hK)
                refine T_pass2 (a' := ?_) 81 rfl rfl (by kernel_rfl) (fun K hK => ?_) ?_
                rotate_left
                · (simp only [Act.put, List.setIfInBounds_toArray, List.set_cons_zero, List.set_cons_succ]; exact hK)
                refine T_pass2 (a' := ?_) 82 rfl rfl (by kernel_rfl) (fun K hK => ?_) ?_
                rotate_left
                · (simp only [Act.put, List.setIfInBounds_toArray, List.set_cons_zero, List.set_cons_succ]; exact hK)
                refine T_pass2 (a' := ?_) 83 rfl rfl (by kernel_rfl) (fun K hK => ?_) ?_
                rotate_left
                · (simp only [Act.put, List.setIfInBounds_toArray, List.set_cons_zero, List.set_cons_succ]; exact hK)
                refine T_pass2 (a' := ?_) 84 rfl rfl (by kernel_rfl) (fun K hK => ?_) ?_
                rotate_left
                · (simp only [Act.put, List.setIfInBounds_toArray, List.set_cons_zero, List.set_cons_succ]; exact hK)
                refine T_pass2 (a' := ?_) 85 rfl rfl (by kernel_rfl) (fun K hK => ?_) ?_
                rotate_left
                · (simp only [Act.put, List.setIfInBounds_toArray, List.set_cons_zero, List.set_cons_succ]; exact hK)
                refine T_pass2 (a' := ?_) 86 rfl rfl (by kernel_rfl) (fun K hK => ?_) ?_
                rotate_left
                · (simp only [Act.put, List.setIfInBounds_toArray, List.set_cons_zero, List.set_cons_succ]; exact hK)
                refine T_pass2 (a' := ?_) 87 rfl rfl (by kernel_rfl) (fun K hK => ?_) ?_
                rotate_left
                · (simp only [Act.put, List.setIfInBounds_toArray, List.set_cons_zero, List.set_cons_succ]; exact hK)
                refine T_pass2 (a' := ?_) 88 rfl rfl (by kernel_rfl) (fun K hK => ?_) ?_
                rotate_left
                · (simp only [Act.put, List.setIfInBounds_toArray, List.set_cons_zero, List.set_cons_succ]; exact hK)
                refine T_pass2 (a' := ?_) 89 rfl rfl (by kernel_rfl) (fun K hK => ?_) ?_
                rotate_left
                · (simp only [Act.put, List.setIfInBounds_toArray, List.set_cons_zero, List.set_cons_succ]; exact hK)
                refine T_pass2 (a' := ?_) 90 rfl rfl (by kernel_rfl) (fun K hK => ?_) ?_
                rotate_left
                · (simp only [Act.put, List.setIfInBounds_toArray, List.set_cons_zero, List.set_cons_succ]; exact hK)
                refine T_pass2 (a' := ?_) 91 rfl rfl (by kernel_rfl) (fun K hK => ?_) ?_
                rotate_left
                · (simp only [Act.put, List.setIfInBounds_toArray, List.set_cons_zero, List.set_cons_succ]; exact hK)
                refine T_pass2 (a' := ?_) 92 rfl rfl (by kernel_rfl) (fun K hK => ?_) ?_
                rotate_left
                · (simp only [Act.put, List.setIfInBounds_toArray, List.set_cons_zero, List.set_cons_succ]; exact hK)
                refine T_pass2 (a' := ?_) 93 rfl rfl (by kernel_rfl) (fun K hK => ?_) ?_
                rotate_left
                · (simp only [Act.put, List.setIfInBounds_toArray, List.set_cons_zero, List.set_cons_succ]; exact hK)
                refine T_light (a' := ?_) 94 rfl rfl rfl (of_decide_eq_true rfl) rfl hHeld (fun wq hSq K Q hK => ?_) ?_
                rotate_left
                · (go_step; exact hK)
                refine T_done ?_
                clear hHeld
                go_wp2_with fail
                go_roundg p
                case measure => exact Nat.lt_succ_self p
                case rel => exact ⟨acc, by first | rw [e2] | rfl, Lib.hid (Nat.le_of_lt HPA.out), HG2, Lib.hid (show wr.drew.ownsRow w.heap.size 3 1 _ acc.length (placeV acc) from HR.out), Lib.hid HB.out.drew⟩
          · obtain ⟨l1, l2⟩ := mt_o7 hl
            have HE := Lib.hid (show acc = T by rw [← HG.out, tailP_full hl])
            clear hl
            go_wp2_with fail
            go_ret
            rw [← HE.out]
            exact ⟨_, rfl, HR.out, HB.out⟩
        · have f1 := mt_u6 hfar
          have HE := Lib.hid (show acc = T by rw [← HG.out, tailP_far hfar])
          clear hfar hpa
          go_wp2_with fail
          go_ret
          rw [← HE.out]
          exact ⟨_, rfl, HR.out, HB.out⟩
  · obtain ⟨u1, u2, u3⟩ := mt_u1 ha hs h3
    have HE := Lib.hid (show [] = T by
      rw [← hT]
      unfold placesL
      rw [if_neg (by omega), Int.toNat_natCast, show threeAt (byteL s) a = none by unfold threeAt; rw [if_neg (by rw [byteL_length]; exact h3)]])
    clear h3 h ha hs hD hT
    go_enter Try.func40, Try.ntmps40
    go_wp2_with fail
    go_ret
    rw [← HE.out]
    exact ⟨_, rfl, World.ownsRow_nil _ _ _ _, Below.refl _ _⟩
end Go.Proofs.Ytolkmjclldjkkaa
