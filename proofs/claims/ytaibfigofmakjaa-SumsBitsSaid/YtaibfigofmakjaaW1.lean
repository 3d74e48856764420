/-
  Sums: what each function of the program and of the reference comes to (contracts).
-/
import Derived.Test.YtaibfigofmakjaaKit
import Derived.ProofKit
import Derived.Deep.LoopGhost
import Derived.Deep.MidRow
import Derived.WalkLawsBesides
import Derived.WalkSpells
set_option linter.unusedSimpArgs false
set_option linter.unusedVariables false
namespace Go.Proofs.Ytaibfigofmakjaa
open Go.RowKit

theorem ret_u32 {a b : Int} (h : a = b) : Ending.returned (.int .u32 a) = .returned (.int .u32 b) := by rw [h]
theorem val_u32 {a b : Int} (h : a = b) : Value.int .u32 a = .int .u32 b := by rw [h]
theorem val_i64 {a b : Int} (h : a = b) : Value.int .i64 a = .int .i64 b := by rw [h]

/-! ### Adler-32 -/
set_option maxHeartbeats 400000 in
theorem refAdler_any (sum : Nat) (s : ByteArray) (w : World) (hs : s.size ≤ 140737488351232) (h : sum < 4294967296) :
    Calls Try.prog 12 #[.int .u32 sum, .string s] w fun e w' => e = .returned (.int .u32 (adler sum s : Nat)) ∧ w = w' := by
  go_enter Try.func12, Try.ntmps12
  go_wp2
  go_loopg [5, 6, 7] s.size (fun n a b i w' => ∃ (k : Nat) (x : Adl), k ≤ s.size ∧ n = s.size - k ∧ i = .int .i64 k ∧ x.fine ∧ a = .int .i64 x.a ∧ b = .int .i64 x.b ∧ w = w' ∧ Hid ((x.run ((byteL s).drop k)).sum = adler sum s))
  case atStart =>
    exact ⟨0, Adl.of sum, by omega, rfl, rfl, Adl.fine_of sum, val_i64 (by simp only [Adl.of]; omega), val_i64 (by simp only [Adl.of]; omega), rfl, rfl⟩
  case round =>
    obtain ⟨k, x, hk, rfl, rfl, ⟨hf1, hf2⟩, rfl, rfl, rfl, hrun⟩ := hrel
    by_cases hlt : k < s.size
    · obtain ⟨y, hy, hd, hb, _⟩ := byte_at s k hlt
      have hrun' := hrun.out
      rw [hd] at hrun'
      have Hrun := Lib.hid hrun'
      clear hrun hrun' hd
      go_wp2
      go_roundg (s.size - (k + 1))
      case measure => omega
      case rel =>
        refine ⟨k + 1, x.step y, by omega, rfl, by go_num, Adl.fine_step x y, val_i64 ?_, val_i64 ?_, rfl, Hrun.out⟩
        · simp only [Adl.step]; omega
        · simp only [Adl.step]; omega
    · have hrun' := hrun.out
      rw [List.drop_of_length_le (by rw [byteL_length]; omega)] at hrun'
      have Hrun := Lib.hid hrun'
      clear hrun hrun'
      go_wp2
      go_ret
      exact ⟨ret_u32 (by rw [← Hrun.out]; simp only [Adl.run, Adl.sum]; omega), rfl⟩

set_option maxHeartbeats 400000 in
theorem adlerMore_any (sum : Nat) (s : ByteArray) (w : World) (hs : s.size ≤ 140737488351232) (h : sum < 4294967296) :
    Calls Try.prog 13 #[.int .u32 sum, .string s] w fun e w' => e = .returned (.int .u32 (adler sum s : Nat)) ∧ Below w.heap.size w w' := by
  obtain ⟨w1, cap, hrun, hb, hsz, hcell⟩ := bytes_of_string (P := Try.prog) 9 34 5 s Try.underlying9 Try.underlying34 Try.underlying5 w
  have Hcell := Lib.hid hcell; clear hcell hsz
  have ha := and16_u32 sum h
  go_enter Try.func13, Try.ntmps13
  go_wp2
  go_loopg [5, 6, 18] s.size (fun n a b i w' => ∃ (k : Nat) (x : Adl), k ≤ s.size ∧ n = s.size - k ∧ i = .int .i64 k ∧ x.fine ∧ a = .int .u32 x.a ∧ b = .int .u32 x.b ∧ w1 = w' ∧ Hid ((x.run ((byteL s).drop k)).sum = adler sum s))
  case atStart =>
    exact ⟨0, Adl.of sum, by omega, rfl, rfl, Adl.fine_of sum, val_u32 (by simp only [Adl.of]; omega), val_u32 (by simp only [Adl.of]; omega), rfl, rfl⟩
  case round =>
    obtain ⟨k, x, hk, rfl, rfl, ⟨hf1, hf2⟩, rfl, rfl, rfl, hrun⟩ := hrel
    clear ha
    by_cases hlt : k < s.size
    · obtain ⟨y, hy, hd, _, hb⟩ := byte_at s k hlt
      have hc := Hcell.out k hlt
      rw [hb] at hc
      have hrun' := hrun.out
      rw [hd] at hrun'
      have Hrun := Lib.hid hrun'
      clear hrun hrun' hd hb
      go_wp2
      go_roundg (s.size - (k + 1))
      case measure => omega
      case rel =>
        refine ⟨k + 1, x.step y, by omega, rfl, by go_num, Adl.fine_step x y, val_u32 ?_, val_u32 ?_, rfl, Hrun.out⟩
        · simp only [Adl.step]; omega
        · simp only [Adl.step]; omega
    · have hrun' := hrun.out
      rw [List.drop_of_length_le (by rw [byteL_length]; omega)] at hrun'
      have Hrun := Lib.hid hrun'
      clear hrun hrun'
      have hor := or16_u32 x.b x.a (by omega) (by omega)
      go_wp2
      go_ret
      exact ⟨ret_u32 (by rw [← Hrun.out]; rfl), by assumption⟩

theorem adler_any (s : ByteArray) (w : World) (hs : s.size ≤ 140737488351232) :
    Calls Try.prog 11 #[.string s] w fun e w' => e = .returned (.int .u32 (adler 1 s : Nat)) ∧ Below w.heap.size w w' := by
  go_enter Try.func11, Try.ntmps11
  go_wp2_with (go_at_call 13; refine (adlerMore_any 1 s _ hs (by decide)).mono ?_; rintro e w' ⟨rfl, hb⟩)
  go_ret
  exact ⟨rfl, by assumption⟩

set_option maxHeartbeats 800000 in
theorem join_any (x y n : Nat) (w : World) (hx : x < 4294967296) (hy : y < 4294967296) (hn : n < 18446744073709551616) :
    Calls Try.prog 14 #[.int .u32 x, .int .u32 y, .int .u64 n] w fun e w' => e = .returned (.int .u32 (join x y n : Nat)) ∧ w = w' := by
  have ha := and16_u32 x hx
  have hb := and16_u32 y hy
  go_enter Try.func14, Try.ntmps14
  go_wp2
  go_ret
  exact ⟨ret_u32 (join_prog x y n hx hy), rfl⟩

set_option maxHeartbeats 800000 in
theorem refJoin_any (x y n : Nat) (w : World) (hx : x < 4294967296) (hy : y < 4294967296) (hn : n < 18446744073709551616) :
    Calls Try.prog 15 #[.int .u32 x, .int .u32 y, .int .u64 n] w fun e w' => e = .returned (.int .u32 (join x y n : Nat)) ∧ w = w' := by
  go_enter Try.func15, Try.ntmps15
  go_wp2
  go_ret
  exact ⟨ret_u32 (join_ref x y n hx hy), rfl⟩

/-! ### CRC-32 -/
theorem xor_mask (d : Nat) (hd : d < 4294967296) : bits .xor .u32 (d : Int) 4294967295 = ((d ^^^ mask32 : Nat) : Int) := by simpa [mask32] using xor_u32 d 4294967295 hd (by decide)
theorem idx_u8 (d y : Nat) (hy : y < 256) : bits .xor .u8 ((d : Int) % 256) (y : Int) = (((d ^^^ y) % 256 : Nat) : Int) := by
  have := xor_u8 (d % 256) y (Nat.mod_lt _ (by decide)) hy
  rw [show (d ^^^ y) % 256 = (d % 256) ^^^ y from by
    have e := Nat.xor_mod_two_pow (a := d) (b := y) (n := 8)
    simp only [Nat.reducePow] at e
    rw [e, Nat.mod_eq_of_lt hy], ← this]
  simp
theorem upd_u32 (T : Nat → Nat) (d y : Nat) (hd : d < 4294967296) (ht : T ((d ^^^ y) % 256) < 4294967296) :
    bits .xor .u32 ((T ((d ^^^ y) % 256) : Nat) : Int) ((d : Int) / 256) = ((crcUpd T d y : Nat) : Int) := by
  simpa [crcUpd] using xor_u32 (T ((d ^^^ y) % 256)) (d / 256) ht (by omega)
theorem step_odd (c : Nat) (h : c % 2 = 1) : step1 c = c / 2 ^^^ 3988292384 := by unfold step1 poly; rw [h]
theorem step_even (c : Nat) (h : c % 2 = 0) : step1 c = c / 2 := by unfold step1 poly; rw [h]; simp

set_option maxHeartbeats 400000 in
theorem refStep_any (c : Nat) (w : World) (h : c < 4294967296) :
    Calls Try.prog 20 #[.int .u32 c] w fun e w' => e = .returned (.int .u32 (crcT c : Nat)) ∧ w = w' := by
  go_enter Try.func20, Try.ntmps20
  go_wp2
  go_loopg [0, 3] 8 (fun n a i w' => ∃ (k d : Nat), k ≤ 8 ∧ n = 8 - k ∧ i = .int .i64 k ∧ d < 4294967296 ∧ a = .int .u32 d ∧ w = w' ∧ Hid (steps (8 - k) d = crcT c))
  case atStart =>
    exact ⟨0, c, by omega, rfl, rfl, h, rfl, rfl, rfl⟩
  case round =>
    obtain ⟨k, d, hk, rfl, rfl, hd, rfl, rfl, hrun⟩ := hrel
    by_cases hlt : k < 8
    · obtain ⟨m, hm⟩ : ∃ m, 8 - k = m + 1 := ⟨8 - k - 1, by omega⟩
      have hrun' := hrun.out
      rw [hm] at hrun'
      have Hrun := Lib.hid hrun'
      have Hm := Lib.hid hm
      clear hrun hrun' hm
      by_cases ho : d % 2 = 1
      · have e1 : (((d : Int) % 2) == 1) = true := by rw [beq_iff_eq]; omega
        have hx : bits .xor .u32 ((d : Int) / 2) 3988292384 = ((d / 2 ^^^ 3988292384 : Nat) : Int) := by simpa using xor_u32 (d / 2) 3988292384 (by omega) (by decide)
        have Ho := Lib.hid ho; clear ho
        go_wp2
        go_roundg (8 - (k + 1))
        case measure => omega
        case rel =>
          refine ⟨k + 1, step1 d, by omega, rfl, by go_num, step1_lt hd, val_u32 ?_, rfl, ?_⟩
          · rw [step_odd d Ho.out]
          · have := Hm.out
            have e : 8 - (k + 1) = m := by omega
            rw [e]
            exact Hrun.out
      · have e1 : (((d : Int) % 2) == 1) = false := by rw [beq_eq_false_iff_ne]; omega
        have Ho := Lib.hid ho; clear ho
        go_wp2
        go_roundg (8 - (k + 1))
        case measure => omega
        case rel =>
          refine ⟨k + 1, step1 d, by omega, rfl, by go_num, step1_lt hd, val_u32 ?_, rfl, ?_⟩
          · have := Ho.out
            rw [step_even d (by omega)]
            omega
          · have := Hm.out
            have e : 8 - (k + 1) = m := by omega
            rw [e]
            exact Hrun.out
    · obtain rfl : k = 8 := by omega
      go_wp2
      go_ret
      exact ⟨ret_u32 (by rw [← hrun.out]; rfl), rfl⟩

set_option maxHeartbeats 400000 in
theorem refCRC_any (s : ByteArray) (w : World) (hs : s.size ≤ 140737488351232) :
    Calls Try.prog 17 #[.string s] w fun e w' => e = .returned (.int .u32 (crc s : Nat)) ∧ w = w' := by
  have H := Lib.hid (crc_slow s)
  go_enter Try.func17, Try.ntmps17
  go_wp2
  go_loopg [3, 4] s.size (fun n a i w' => ∃ (k d : Nat), k ≤ s.size ∧ n = s.size - k ∧ i = .int .i64 k ∧ d < 4294967296 ∧ a = .int .u32 d ∧ w = w' ∧ Hid (crcSlow d ((byteL s).drop k) ^^^ mask32 = crc s))
  case atStart =>
    exact ⟨0, mask32, by omega, rfl, rfl, by decide, rfl, rfl, H.out.symm⟩
  case round =>
    clear H
    obtain ⟨k, d, hk, rfl, rfl, hd, rfl, rfl, hrun⟩ := hrel
    by_cases hlt : k < s.size
    · obtain ⟨y, hy, hdr, hb, _⟩ := byte_at s k hlt
      have hrun' := hrun.out
      rw [hdr] at hrun'
      have Hrun := Lib.hid hrun'
      clear hrun hrun' hdr
      have hx := xor_u32 d y hd (by omega)
      have hl := xor_lt32 hd hy
      go_wp2_with (go_at_call 20; refine (refStep_any _ _ hl).mono ?_; rintro e w' ⟨rfl, rfl⟩)
      go_roundg (s.size - (k + 1))
      case measure => omega
      case rel =>
        exact ⟨k + 1, _, by omega, rfl, by go_num, steps_lt 8 hl, rfl, rfl, Hrun.out⟩
    · have hrun' := hrun.out
      rw [List.drop_of_length_le (by rw [byteL_length]; omega)] at hrun'
      have Hrun := Lib.hid hrun'
      clear hrun hrun'
      have hx := xor_mask d hd
      go_wp2
      go_ret
      exact ⟨ret_u32 (by rw [← Hrun.out]; rfl), rfl⟩

set_option maxHeartbeats 400000 in
theorem crcMore_any (T : Nat → Nat) (hT : ∀ i, i < 256 → T i < 4294967296) (c : Nat) (s : ByteArray) (w : World) (hs : s.size ≤ 140737488351232) (hcl : c < 4294967296) :
    Calls Try.prog 18 #[.agg (tab T), .int .u32 c, .string s] w fun e w' => e = .returned (.int .u32 (crcMore T c s : Nat)) ∧ Below w.heap.size w w' := by
  obtain ⟨w1, cap, hrun, hb, hsz, hcell⟩ := bytes_of_string (P := Try.prog) 9 34 5 s Try.underlying9 Try.underlying34 Try.underlying5 (w.alloc (.cells (tab T) 25))
  have htab : ∀ i, i < 256 → w1.cell? ⟨w.heap.size, i, none⟩ = some (.int .u32 (T i : Nat)) := by
    intro i hi
    rw [hb.cell (by simp)]
    simp [tab_get T i hi]
  have hbel : Below w.heap.size w w1 := ((Below.refl _ _).alloc (Nat.le_refl _) _).trans (hb.mono (by simp))
  simp only [World.size_alloc] at hrun hcell
  have Hcell := Lib.hid hcell
  have Htab := Lib.hid htab
  clear hcell htab hsz hb
  have hn := not_u32 c hcl
  have hn2 : ∀ d : Nat, d < 4294967296 → bits .xor .u32 IntKind.u32.max (d : Int) = ((d ^^^ mask32 : Nat) : Int) := not_u32
  have Hn2 := Lib.hid hn2; clear hn2
  go_enter Try.func18, Try.ntmps18
  go_wp2
  go_loopg [1, 14] s.size (fun n a i w' => ∃ (k d : Nat), k ≤ s.size ∧ n = s.size - k ∧ i = .int .i64 k ∧ d < 4294967296 ∧ a = .int .u32 d ∧ w1 = w' ∧ Hid (crcRun T d ((byteL s).drop k) ^^^ mask32 = crcMore T c s))
  case atStart =>
    exact ⟨0, c ^^^ mask32, by omega, rfl, rfl, mask_lt hcl, rfl, rfl, rfl⟩
  case round =>
    clear hn
    obtain ⟨k, d, hk, rfl, rfl, hd, rfl, rfl, hrun1⟩ := hrel
    by_cases hlt : k < s.size
    · obtain ⟨y, hy, hdr, _, hb⟩ := byte_at s k hlt
      have hc := Hcell.out k hlt
      rw [hb] at hc
      have hrun' := hrun1.out
      rw [hdr] at hrun'
      have Hrun := Lib.hid hrun'
      clear hrun1 hrun' hdr hb
      have hx := idx_u8 d y hy
      have hi : (d ^^^ y) % 256 < 256 := Nat.mod_lt _ (by decide)
      have ht := Htab.out _ hi
      have htl := hT _ hi
      have hl := crcUpd_lt hT y hd
      have hx2 := upd_u32 T d y hd htl
      go_wp2
      go_roundg (s.size - (k + 1))
      case measure => omega
      case rel =>
        exact ⟨k + 1, crcUpd T d y, by omega, rfl, by go_num, hl, rfl, rfl, Hrun.out⟩
    · have hrun' := hrun1.out
      rw [List.drop_of_length_le (by rw [byteL_length]; omega)] at hrun'
      have Hrun := Lib.hid hrun'
      clear hrun1 hrun'
      have hx := Hn2.out d hd
      go_wp2
      go_ret
      exact ⟨ret_u32 (by rw [← Hrun.out]; rfl), by assumption⟩

set_option maxHeartbeats 400000 in
theorem refMore_any (T : Nat → Nat) (hT : ∀ i, i < 256 → T i < 4294967296) (c : Nat) (s : ByteArray) (w : World) (hs : s.size ≤ 140737488351232) (hcl : c < 4294967296) :
    Calls Try.prog 19 #[.agg (tab T), .int .u32 c, .string s] w fun e w' => e = .returned (.int .u32 (crcMore T c s : Nat)) ∧ Below w.heap.size w w' := by
  have htab : ∀ i, i < 256 → (w.alloc (.cells (tab T) 25)).cell? ⟨w.heap.size, i, none⟩ = some (.int .u32 (T i : Nat)) := by
    intro i hi
    simp [tab_get T i hi]
  have Htab := Lib.hid htab
  clear htab
  have hn := xor_mask c hcl
  go_enter Try.func19, Try.ntmps19
  go_wp2
  go_loopg [1, 7] s.size (fun n a i w' => ∃ (k d : Nat), k ≤ s.size ∧ n = s.size - k ∧ i = .int .i64 k ∧ d < 4294967296 ∧ a = .int .u32 d ∧ w.alloc (.cells (tab T) 25) = w' ∧ Hid (crcRun T d ((byteL s).drop k) ^^^ mask32 = crcMore T c s))
  case atStart =>
    exact ⟨0, c ^^^ mask32, by omega, rfl, rfl, mask_lt hcl, rfl, rfl, rfl⟩
  case round =>
    clear hn
    obtain ⟨k, d, hk, rfl, rfl, hd, rfl, rfl, hrun1⟩ := hrel
    by_cases hlt : k < s.size
    · obtain ⟨y, hy, hdr, hb, _⟩ := byte_at s k hlt
      have hrun' := hrun1.out
      rw [hdr] at hrun'
      have Hrun := Lib.hid hrun'
      clear hrun1 hrun' hdr
      have hx := xor_u32 d y hd (by omega)
      have hi : (d ^^^ y) % 256 < 256 := Nat.mod_lt _ (by decide)
      have ht := Htab.out _ hi
      have htl := hT _ hi
      have hl := crcUpd_lt hT y hd
      have hx2 := upd_u32 T d y hd htl
      go_wp2
      go_roundg (s.size - (k + 1))
      case measure => omega
      case rel =>
        exact ⟨k + 1, crcUpd T d y, by omega, rfl, by go_num, hl, rfl, rfl, Hrun.out⟩
    · have hrun' := hrun1.out
      rw [List.drop_of_length_le (by rw [byteL_length]; omega)] at hrun'
      have Hrun := Lib.hid hrun'
      clear hrun1 hrun'
      have hx := xor_mask d hd
      go_wp2
      go_ret
      exact ⟨ret_u32 (by rw [← Hrun.out]; rfl), (Below.refl _ _).alloc (Nat.le_refl _) _⟩

end Go.Proofs.Ytaibfigofmakjaa
