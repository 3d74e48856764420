/-
  ParseRuns: the walk, for every piece, how often, and both levels.
-/
import Derived.Test.YtolkmjclldjkkaaPh
import Derived.Test.YtolkmjclldjkkaaMc
set_option linter.unusedSimpArgs false
set_option linter.unusedVariables false
namespace Go.Proofs.Ytolkmjclldjkkaa
open Go.RowKit

theorem cat_first (d : ByteArray) : (⟨#[]⟩ : ByteArray) ++ d = d := by
  ext <;> simp
theorem size_none : (⟨#[]⟩ : ByteArray).size = 0 := rfl
theorem cutD_none : cutD ⟨#[]⟩ = ⟨#[]⟩ := by decide +kernel
theorem mt_r1 {m : Nat} (h : m < 65536) : ∃ n : Nat, (m : Int).tmod 3000 = (n : Int) ∧ (m : Int) % 3000 = (n : Int) ∧ n < 3000 ∧ wrap64 (m : Int) = (m : Int) ∧ wrap64 (n : Int) = (n : Int) := by
  refine ⟨m % 3000, ?_, by omega, by omega, by unfold wrap64; omega, by unfold wrap64; omega⟩
  rw [Int.tmod_eq_emod_of_nonneg (by omega)]
  omega
theorem mt_r2 {l : Nat} (h : l < 256) : ∃ x k : Nat, (l : Int).tmod 2 = (x : Int) ∧ (l : Int) % 2 = (x : Int) ∧ (k = 8 ∨ k = 9) ∧ wrap64 (x : Int) = (x : Int) ∧ wrap64 (8 + (x : Int)) = (k : Int) := by
  refine ⟨l % 2, 8 + l % 2, ?_, by omega, by omega, by unfold wrap64; omega, by unfold wrap64; omega⟩
  rw [Int.tmod_eq_emod_of_nonneg (by omega)]
  omega
theorem mt_r3 {p t n : Nat} (hp : p ≤ 100) (ht : t ≤ 3100) (h : n ≤ p + 3 + t / 258) : ∃ d : Nat, (t : Int).tdiv 258 = (d : Int) ∧ (t : Int) / 258 = (d : Int) ∧ wrap64 ((p : Int) + 3) = (p : Int) + 3 ∧ wrap64 ((p : Int) + 3 + (d : Int)) = (p : Int) + 3 + (d : Int) ∧ wrap64 (d : Int) = (d : Int) ∧ decide ((n : Int) ≤ (p : Int) + 3 + (d : Int)) = true := by
  refine ⟨t / 258, ?_, by omega, by unfold wrap64; omega, by unfold wrap64; omega, by unfold wrap64; omega, by rw [decide_eq_true_eq]; omega⟩
  rw [Int.tdiv_eq_ediv_of_nonneg (by omega)]
  omega
theorem mt_r5 {t : Nat} (h : t ≤ 3100) : t ≤ 60000 := by omega
theorem mt_r6 {k : Nat} (h : k = 8 ∨ k = 9) : k < 10 := by omega
theorem mt_r7 {t p : Nat} (h : t ≤ 3100) (h2 : p ≤ 100) : t + p ≤ 9223372036854775807 := by omega
theorem mt_r8 {t p n f : Nat} (h : n ≤ t + (f + 1)) (hp : 1 ≤ p ∧ p ≤ 100) (ht : t < n) (hn : n < 3000) : n ≤ t + p + f ∧ t + p ≤ 3100 := by omega
theorem mt_r9 {t n : Nat} (h : t < n) : ¬ n ≤ t + 0 := by omega
theorem mt_r4 {p : Nat} (h : p = 0) : ((p : Int) == 0) = true ∧ decide (p = 0) = true := mt_o3 h
set_option maxRecDepth 100000 in
set_option maxHeartbeats 8000000 in
theorem runs_all (piece : ByteArray) (s0 : piece.size ≤ 140737488351232) (many : Nat) (hm : many < 65536) (lv : Nat) (hl : lv < 256) (w : World) :
    Calls Try.prog 9 #[.string piece, .int .u16 (many : Nat), .int .u8 (lv : Nat)] w fun e w' => e = .returned (.bool true) ∧ Below w.heap.size w w' := by
  by_cases h0 : piece.size = 0
  · obtain ⟨d1, d2⟩ := mt_o3 h0
    clear h0 s0 hm hl
    go_enter Try.func9, Try.ntmps9
    go_wp2_with fail
    refine (works10_any _).mono ?_
    rintro e w2 ⟨rfl, hb⟩
    have HB := Lib.hid hb
    clear hb
    go_wp2_with fail
    go_ret
    exact ⟨rfl, HB.out⟩
  · obtain ⟨d1, d2, _, _⟩ := mt_o4 h0
    by_cases h1 : 100 < piece.size
    · obtain ⟨d3, d4⟩ := mt_o6 h1
      have d3' : decide ((100 : Int) < (piece.size : Int)) = true := d3
      clear h0 h1 d3 s0 hm hl
      go_enter Try.func9, Try.ntmps9
      go_wp2_with fail
      refine (works10_any _).mono ?_
      rintro e w2 ⟨rfl, hb⟩
      have HB := Lib.hid hb
      clear hb
      go_wp2_with fail
      go_ret
      exact ⟨rfl, HB.out⟩
    · obtain ⟨d3, d4⟩ := mt_o7 h1
      have d3' : decide ((100 : Int) < (piece.size : Int)) = false := d3
      have HP := Lib.hid (show 1 ≤ piece.size ∧ piece.size ≤ 100 by omega)
      obtain ⟨n, en1, en2, hn, en3, en4⟩ := mt_r1 hm
      obtain ⟨x, k, ex1, ex2, hx, ex3, ex4⟩ := mt_r2 hl
      have HN := Lib.hid (And.intro hn hx)
      clear h0 h1 d3 s0 hm hl hn hx en2 ex2
      go_enter Try.func9, Try.ntmps9
      go_wp2_with fail
      go_loopg [8] n (fun f s8 wx => ∃ (t : ByteArray) (q : Nat), s8 = .string t ∧ Hid (byteL t = repL (byteL piece) q ∧ n ≤ t.size + f ∧ t.size ≤ 3100) ∧ Hid (Below w.heap.size w wx))
      case atStart => exact ⟨⟨#[]⟩, 0, rfl, Lib.hid ⟨by simp [repL]; rfl, by simp [ByteArray.size], by decide⟩, Lib.hid (Below.refl _ _)⟩
      case round =>
        obtain ⟨t, q, rfl, HT, HB⟩ := hrel
        by_cases ht : t.size < n
        · obtain ⟨a1, a2⟩ := pt_lt ht
          have HTN := Lib.hid ht
          clear ht
          cases gk with
          | zero => exact absurd HT.out.2.1 (mt_r9 HTN.out)
          | succ f =>
            obtain ⟨t2, ht2⟩ : ∃ t2, t ++ piece = t2 := ⟨_, rfl⟩
            have hcc : ∀ w, (Op.stringOp .add t piece).run Try.prog w = .ok (.string t2) w := fun w => by rw [← ht2]; exact run_string_add_sum (P := Try.prog) w t piece (mt_r7 HT.out.2.2 HP.out.2)
            have HT2 := Lib.hid (show byteL t2 = repL (byteL piece) (q + 1) ∧ n ≤ t2.size + f ∧ t2.size ≤ 3100 by
              rw [← ht2, byteL_append, HT.out.1, repL_succ, ByteArray.size_append]
              exact ⟨rfl, mt_r8 HT.out.2.1 HP.out HTN.out HN.out.1⟩)
            clear ht2
            go_wp2_with fail
            go_roundg f
            case measure => exact Nat.lt_succ_self f
            case rel => exact ⟨t2, q + 1, rfl, HT2, HB⟩
        · obtain ⟨a1, a2⟩ := pt_ge ht
          clear ht
          go_wp2_with fail
          have hl := tokens_any ⟨#[]⟩ t k wr (by decide) (mt_r5 HT.out.2.2) (mt_r6 HN.out.2)
          rw [cutD_none, cat_first, size_none] at hl
          obtain ⟨T, hT⟩ : ∃ T, toksL (byteL t) 0 k = T := ⟨_, rfl⟩
          rw [hT] at hl
          have hc : T.length ≤ piece.size + 3 + t.size / 258 := by
            have h := runs_count (byteL piece) q k (by rw [byteL_length]; exact HP.out) HN.out.2
            rw [← HT.out.1, byteL_length, byteL_length] at h
            rw [← hT]
            exact h
          refine hl.mono ?_
          rintro e w3 ⟨v, rfl, hr, hb⟩
          obtain ⟨a3, c3, rfl, _⟩ := toks_at hr
          have HB3 := Lib.hid (HB.out.trans (hb.mono HB.out.size))
          obtain ⟨d, r1, r2, r3, r4, r5, r6⟩ := mt_r3 HP.out.2 HT.out.2.2 hc
          clear hl hr hb hT hc r2
          go_wp2_with fail
          refine (works10_any _).mono ?_
          rintro e w4 ⟨rfl, hb⟩
          have HB4 := Lib.hid (HB3.out.trans (hb.mono HB3.out.size))
          clear hb
          go_wp2_with fail
          go_ret
          exact ⟨rfl, HB4.out⟩
end Go.Proofs.Ytolkmjclldjkkaa
