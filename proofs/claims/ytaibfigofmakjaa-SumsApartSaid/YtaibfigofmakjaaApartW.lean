/-
  What SumsApart comes to (a walk): true, whatever the text, the place and the byte.
-/
import Derived.Test.YtaibfigofmakjaaOwn
import Derived.Test.YtaibfigofmakjaaK
set_option linter.unusedSimpArgs false
set_option linter.unusedVariables false
namespace Go.Proofs.Ytaibfigofmakjaa
open Go.RowKit

/-- a text of which one byte is another one -/
theorem apart_facts (s : ByteArray) (k v : Nat) (hk : k < s.size) (hv : v < 256) :
    ∃ x, x < 256 ∧ (byteL s)[k]? = some x ∧ (byteL s).set k v = (byteL s).take k ++ v :: (byteL s).drop (k + 1) ∧ byteL s = (byteL s).take k ++ x :: (byteL s).drop (k + 1) := by
  have hl : k < (byteL s).length := by rw [byteL_length]; exact hk
  refine ⟨(byteL s)[k], byteL_lt s _ (List.getElem_mem hl), by simp [hl], ?_, ?_⟩
  · rw [List.set_eq_take_append_cons_drop, if_pos hl]
  · rw [← List.drop_eq_getElem_cons hl, List.take_append_drop]
theorem crc_inj_byte (s : ByteArray) (k v x : Nat) (hk : k < s.size) (hv : v < 256) (hx : (byteL s)[k]? = some x) (T : ByteArray) (hT : byteL T = (byteL s).set k v) :
    (crc s = crc T → x = v) ∧ (adler 1 s = adler 1 T → x = v) ∧ (x = v → s = T) := by
  obtain ⟨x', hx', hg, h1, h2⟩ := apart_facts s k v hk hv
  have hxe : x' = x := by rw [hg] at hx; exact Option.some.inj hx
  subst hxe
  have hp : ∀ z ∈ (byteL s).take k, z < 256 := fun z hz => byteL_lt s z (List.mem_of_mem_take hz)
  have hq : ∀ z ∈ (byteL s).drop (k + 1), z < 256 := fun z hz => byteL_lt s z (List.mem_of_mem_drop hz)
  refine ⟨fun h => ?_, fun h => ?_, fun h => ?_⟩
  · rw [crc_slow, crc_slow, hT, h1] at h
    have h3 := xor_right_inj h
    rw [h2] at h3
    simp only [← h2] at h3
    exact slow_apart _ _ _ _ hx' hv hp hq (by rw [← h2]; exact h3)
  · have h3 := adler_eq (Adl.fine_run _ _ (Adl.fine_of 1)) (Adl.fine_run _ _ (Adl.fine_of 1)) h
    rw [hT, h1] at h3
    exact adl_apart _ _ _ _ hx' hv (by rw [← h2]; exact h3)
  · apply byteL_inj
    rw [hT, h1, ← h]
    exact h2

set_option maxHeartbeats 3200000 in
theorem apart_any (s : ByteArray) (hs : s.size ≤ 140737488351232) (at_ : Nat) (hat : at_ < 65536) (by_ : Nat) (hby : by_ < 256) (w : World) :
    Calls Try.prog 5 #[.string s, .int .u16 at_, .int .u8 by_] w fun e w' => e = .returned (.bool true) ∧ Below w.heap.size w w' := by
  have hB := Below.refl w.heap.size w
  by_cases hbig : 16384 < s.size
  · have hlt : decide ((16384 : Int) < (s.size : Int)) = true := by rw [decide_eq_true_eq]; omega
    go_enter Try.func5, Try.ntmps5
    go_wp2_with (go_at_call 8; refine (alive_any _).mono ?_; rintro e w' ⟨rfl, hb⟩; replace hB := bt hB hb; clear hb)
    go_ret
    exact ⟨rfl, hB⟩
  have hlt : decide ((16384 : Int) < (s.size : Int)) = false := by rw [decide_eq_false_iff_not]; omega
  by_cases hz : s.size = 0
  · have hlt2 : ((s.size : Int) == 0) = true := by rw [beq_iff_eq]; omega
    have Hz := Lib.hid hz; clear hz
    go_enter Try.func5, Try.ntmps5
    go_wp2_with (go_at_call 8; refine (alive_any _).mono ?_; rintro e w' ⟨rfl, hb⟩; replace hB := bt hB hb; clear hb)
    go_ret
    exact ⟨rfl, hB⟩
  have hlt2 : ((s.size : Int) == 0) = false := by rw [beq_eq_false_iff_ne]; omega
  obtain ⟨w1, cap, hrun, hb1, hsz, hrow, hcap⟩ := row_of_string (P := Try.prog) 9 34 5 s Try.underlying9 Try.underlying34 Try.underlying5 w
  obtain ⟨k, hk⟩ : ∃ k, k = at_ % s.size := ⟨_, rfl⟩
  have hks : k < s.size := by rw [hk]; exact Nat.mod_lt _ (by omega)
  have hkI : (at_ : Int).tmod (s.size : Int) = (k : Int) := by rw [hk]; exact (Int.ofNat_tmod at_ s.size).symm
  have hkE : (at_ : Int) % (s.size : Int) = (k : Int) := by rw [hk]; exact (Int.natCast_emod at_ s.size).symm
  obtain ⟨x, hx, hg, g1, g2⟩ := apart_facts s k 0 hks (by decide)
  have hcell := hrow.cell k _ (numsV_get hg)
  have hfree := hrow.free k (by rw [numsV_length, byteL_length]; exact hks)
  have hxor := xor_u8 x by_ hx hby
  have hv : x ^^^ by_ < 256 := Nat.xor_lt_two_pow (n := 8) hx hby
  have hset := (hrow.set k (.int .u8 (x ^^^ by_ : Nat)) (by rw [numsV_length, byteL_length]; exact hks))
  rw [numsV_set] at hset
  have hL : ∀ z ∈ (byteL s).set k (x ^^^ by_), z < 256 := by
    intro z hz
    rcases List.mem_or_eq_of_mem_set hz with h | h
    · exact byteL_lt s z h
    · rw [h]; exact hv
  have hconv := string_of_row (P := Try.prog) 34 9 5 Try.underlying34 Try.underlying5 Try.underlying9 (off := 0) cap s.size _ hL (by rw [List.length_set, byteL_length]) (fun j m hj => by rw [Nat.zero_add]; exact hset.cell j _ (numsV_get hj))
  obtain ⟨T, hTe⟩ : ∃ T, T = textOf ((byteL s).set k (x ^^^ by_)) := ⟨_, rfl⟩
  rw [← hTe] at hconv
  have hT : byteL T = (byteL s).set k (x ^^^ by_) := by rw [hTe]; exact byteL_textOf _ hL
  have hTs : T.size ≤ 140737488351232 := by rw [hTe, textOf_size, List.length_set, byteL_length]; exact hs
  obtain ⟨f1, f2, f3⟩ := crc_inj_byte s k _ x hks hv hg T hT
  have hb2 : Below w.heap.size w (w1.setCell ⟨w.heap.size, k, none⟩ (.int .u8 (x ^^^ by_ : Nat))) := hb1.setCell (Nat.le_refl _) _
  have hxb : x ^^^ by_ = x ↔ by_ = 0 := by
    constructor
    · intro h
      have := congrArg (x ^^^ ·) h
      simpa [← Nat.xor_assoc] using this
    · rintro rfl; simp
  by_cases h0 : by_ = 0
  · have e0 : s = T := f3 (hxb.2 h0).symm
    have t1 : ((adler 1 s : Nat) : Int) == (adler 1 T : Nat) := by rw [e0]; simp
    have t2 : ((crc s : Nat) : Int) == (crc T : Nat) := by rw [e0]; simp
    have t3 : ((by_ : Int) == 0) = true := by rw [beq_iff_eq]; omega
    have HB := Lib.hid hb2
    clear hb1 hsz hrow hcap hk hg g1 g2 hv hset hL hTe hT f1 f2 f3 hxb h0 e0 hx hz hby hb2
    go_enter Try.func5, Try.ntmps5
    go_wp2_with fail
    refine (adler_any s _ hs).mono ?_
    rintro e w2 ⟨rfl, hb⟩; have hB := bt HB.out hb; clear hb
    go_wp2_with fail
    refine (adler_any T _ hTs).mono ?_
    rintro e w3 ⟨rfl, hb⟩; replace hB := bt hB hb; clear hb
    go_wp2_with fail
    refine (crc_any s _ hs).mono ?_
    rintro e w4 ⟨rfl, hb⟩; replace hB := bt hB hb; clear hb
    go_wp2_with fail
    refine (crc_any T _ hTs).mono ?_
    rintro e w5 ⟨rfl, hb⟩; replace hB := bt hB hb; clear hb
    go_wp2_with fail
    refine (alive_any _).mono ?_
    rintro e w6 ⟨rfl, hb⟩; replace hB := bt hB hb; clear hb
    go_wp2_with fail
    go_ret
    exact ⟨rfl, hB⟩
  · have n1 : ¬ adler 1 s = adler 1 T := fun h => h0 (hxb.1 (f2 h).symm)
    have n2 : ¬ crc s = crc T := fun h => h0 (hxb.1 (f1 h).symm)
    have t1 : (((adler 1 s : Nat) : Int) == (adler 1 T : Nat)) = false := by rw [beq_eq_false_iff_ne]; intro h; exact n1 (Int.ofNat_inj.1 h)
    have t2 : (((crc s : Nat) : Int) == (crc T : Nat)) = false := by rw [beq_eq_false_iff_ne]; intro h; exact n2 (Int.ofNat_inj.1 h)
    have t3 : ((by_ : Int) == 0) = false := by rw [beq_eq_false_iff_ne]; omega
    have HB := Lib.hid hb2
    clear hb1 hsz hrow hcap hk hg g1 g2 hv hset hL hTe hT f1 f2 f3 hxb h0 n1 n2 hx hz hby hb2
    go_enter Try.func5, Try.ntmps5
    go_wp2_with fail
    refine (adler_any s _ hs).mono ?_
    rintro e w2 ⟨rfl, hb⟩; have hB := bt HB.out hb; clear hb
    go_wp2_with fail
    refine (adler_any T _ hTs).mono ?_
    rintro e w3 ⟨rfl, hb⟩; replace hB := bt hB hb; clear hb
    go_wp2_with fail
    refine (crc_any s _ hs).mono ?_
    rintro e w4 ⟨rfl, hb⟩; replace hB := bt hB hb; clear hb
    go_wp2_with fail
    refine (crc_any T _ hTs).mono ?_
    rintro e w5 ⟨rfl, hb⟩; replace hB := bt hB hb; clear hb
    go_wp2_with fail
    refine (alive_any _).mono ?_
    rintro e w6 ⟨rfl, hb⟩; replace hB := bt hB hb; clear hb
    go_wp2_with fail
    go_ret
    exact ⟨rfl, hB⟩
end Go.Proofs.Ytaibfigofmakjaa
