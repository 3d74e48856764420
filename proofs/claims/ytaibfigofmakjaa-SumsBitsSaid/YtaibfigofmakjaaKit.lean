/-
  Sums: small lemmas for the walks (bytes of a text, bits of numbers, a table as an array's cells).
-/
import Derived.Test.YtaibfigofmakjaaRows
import Derived.Test.YtaibfigofmakjaaMath
import Derived.WalkKit
import Derived.Laws.IdiomStrings
import Derived.Lib.Hide
import Derived.Deep.MidRow
set_option linter.unusedSimpArgs false
set_option linter.unusedVariables false
namespace Go.Proofs.Ytaibfigofmakjaa
open Go.RowKit

theorem byte_at (s : ByteArray) (k : Nat) (h : k < s.size) : ∃ y, y < 256 ∧ (byteL s).drop k = y :: (byteL s).drop (k + 1) ∧ (∀ h', ((s[k]'h').toNat : Int) = (y : Int)) ∧ (byteL s).getD k 0 = y := by
  have hl : k < (byteL s).length := by rw [byteL_length]; exact h
  refine ⟨(byteL s)[k], byteL_lt s _ (List.getElem_mem hl), List.drop_eq_getElem_cons hl, ?_, ?_⟩
  · intro h'
    simp [byteL]
    rfl
  · simp [List.getD_eq_getElem?_getD, hl]

/-- '[]byte(s)': a new row that holds the bytes. -/
theorem bytes_of_string {P : Program} (src dst e : TypeId) (s : ByteArray) (hs : P.underlying src = some .string) (hd : P.underlying dst = some (.slice e)) (he : P.underlying e = some (.int .u8)) (w : World) :
    ∃ w1 cap, (convert src dst (.string s)).run P w = .ok (.slice (some ⟨w.heap.size, 0, none⟩) s.size cap) w1 ∧ Below w.heap.size w w1 ∧ w1.heap.size = w.heap.size + 1 ∧
      (∀ j, j < s.size → w1.cell? ⟨w.heap.size, j, none⟩ = some (.int .u8 ((byteL s).getD j 0 : Nat))) := by
  refine ⟨_, _, run_bytes_of_string w src dst e s hs hd he, (Below.refl _ _).drew.alloc (Nat.le_refl _) _, by simp, ?_⟩
  intro j hj
  have hj' : j < s.data.size := hj
  have hr : (bytesRow s (grownCap w s.size 0 e))[j]? = some (.int .u8 ((byteL s).getD j 0 : Nat)) := by
    simp [bytesRow, Array.getElem?_append, byteL, List.getD_eq_getElem?_getD, hj]
  generalize bytesRow s (grownCap w s.size 0 e) = R at hr
  show (match (w.heap.push (Obj.cells R e (R.size, R.size + 1)))[w.heap.size]? with | some (.cells c _ _) => _ | _ => none) = _
  simp [hr]

theorem xor_u32 (a b : Nat) (ha : a < 4294967296) (hb : b < 4294967296) : bits .xor .u32 (a : Int) (b : Int) = ((a ^^^ b : Nat) : Int) := by
  have hx : a ^^^ b < 2 ^ 32 := Nat.xor_lt_two_pow (by omega) (by omega)
  have h1 : (BitVec.ofInt 32 (a : Int)).toNat = a := by
    rw [BitVec.ofInt_natCast, BitVec.toNat_ofNat]; exact Nat.mod_eq_of_lt (by omega)
  have h2 : (BitVec.ofInt 32 (b : Int)).toNat = b := by
    rw [BitVec.ofInt_natCast, BitVec.toNat_ofNat]; exact Nat.mod_eq_of_lt (by omega)
  show IntKind.u32.wrap ((BitVec.ofInt 32 (a : Int) ^^^ BitVec.ofInt 32 (b : Int)).toNat : Int) = _
  rw [BitVec.toNat_xor, h1, h2, IntKind.wrap_u32]
  omega
theorem xor_u8 (a b : Nat) (ha : a < 256) (hb : b < 256) : bits .xor .u8 (a : Int) (b : Int) = ((a ^^^ b : Nat) : Int) := by
  have hx : a ^^^ b < 2 ^ 8 := Nat.xor_lt_two_pow (by omega) (by omega)
  have h1 : (BitVec.ofInt 8 (a : Int)).toNat = a := by
    rw [BitVec.ofInt_natCast, BitVec.toNat_ofNat]; exact Nat.mod_eq_of_lt (by omega)
  have h2 : (BitVec.ofInt 8 (b : Int)).toNat = b := by
    rw [BitVec.ofInt_natCast, BitVec.toNat_ofNat]; exact Nat.mod_eq_of_lt (by omega)
  show IntKind.u8.wrap ((BitVec.ofInt 8 (a : Int) ^^^ BitVec.ofInt 8 (b : Int)).toNat : Int) = _
  rw [BitVec.toNat_xor, h1, h2, IntKind.wrap_u8]
  omega
theorem wraps_u32 (n : Int) (h₀ : 0 ≤ n) (h₁ : n < 2 ^ 32) : IntKind.u32.wrap n = n := by rw [IntKind.wrap_u32]; omega
theorem and_u32 (a : Nat) (i : Nat) (ha : a < 4294967296) (hi : i ≤ 32) : bits .and .u32 (a : Int) (2 ^ i - 1) = ((a % 2 ^ i : Nat) : Int) := by
  rw [bits_mask .u32 32 (by decide) wraps_u32 i hi (a : Int) (by omega) (by omega)]
  simp
theorem and16_u32 (a : Nat) (ha : a < 4294967296) : bits .and .u32 (a : Int) 65535 = ((a % 65536 : Nat) : Int) := and_u32 a 16 ha (by decide)
theorem and1_u32 (a : Nat) (ha : a < 4294967296) : bits .and .u32 (a : Int) 1 = ((a % 2 : Nat) : Int) := and_u32 a 1 ha (by decide)
theorem or16_u32 (a b : Nat) (ha : a < 65536) (hb : b < 65536) : bits .or .u32 ((a : Int) * 65536) (b : Int) = ((a * 65536 + b : Nat) : Int) := by
  rw [bits_join .u32 32 (by decide) wraps_u32 16 _ _ (by omega) (by omega) (by omega) (by omega) (by omega) (by omega)]
  omega
/-- '^c' -/
theorem not_u32 (c : Nat) (hc : c < 4294967296) : bits .xor .u32 IntKind.u32.max (c : Int) = ((c ^^^ mask32 : Nat) : Int) := by
  have h := xor_u32 4294967295 c (by decide) hc
  have e : IntKind.u32.max = ((4294967295 : Nat) : Int) := by decide
  rw [e, h, Nat.xor_comm]
  rfl

/-! ### a whole array out of, and into, a block of its own -/
theorem loadAt_row {P : Program} (w : World) (g : Nat) (t ty : TypeId) (cs : Array Value) (fr : Nat × Nat) (d : TypeDesc) (hg : w.heap[g]? = some (.cells cs t fr))
    (hu : P.underlying ty = some d) (hd : (match d with | .struct _ | .array _ _ => true | _ => false) = true) (hi : (P.info? ty).map (·.size) = some cs.size) :
    (Instr.loadAt ty (.pointer (some ⟨g, 0, none⟩))).run P w = .ok (.agg cs) w := by
  simp only [Instr.loadAt, Instr.sureAddr, Sem.run_bind, Sem.run_pure, Result.andThen_ok, run_loadVar_row w g t ty cs fr d hg hu hd hi]
theorem storeAt_row {P : Program} (w : World) (g : Nat) (t ty : TypeId) (old cells : Array Value) (hg : w.heap[g]? = some (.cells old t (0, 0))) (hi : (P.info? ty).map (·.size) = some cells.size)
    (hs : old.size = cells.size) (h1 : cells.all (·.oneCell') = true) :
    (Instr.storeAt ty (.pointer (some ⟨g, 0, none⟩)) (.agg cells)).run P w = .ok () (w.setRow g cells) := by
  simp only [Instr.storeAt, Instr.sureAddr, Sem.run_bind, Sem.run_pure, Result.andThen_ok, run_storeVar_row w g t ty old cells hg hi hs h1]
theorem below_row {B : Nat} {a w : World} (h : Below B a w) {g : Nat} (hg : B ≤ g) (cs : Array Value) : Below B a (w.setRow g cs) :=
  h.trans ⟨rfl, rfl, rfl, by simp, fun k hk => setRow_other w g k cs (by omega)⟩

/-- one call behind the other -/
theorem bt {a b c : World} (h : Below a.heap.size a b) (k : Below b.heap.size b c) : Below a.heap.size a c := h.trans (k.mono h.size)

/-! ### what the two joins reckon -/
theorem joinA_eq (k p a : Nat) : (k + p * ((a + 65520) % 65521)) % 65521 = (k + p * a + p * 65520) % 65521 := by
  have e : ∀ n k p q : Nat, p % 65521 = q % 65521 → (k + n * p) % 65521 = (k + n * q) % 65521 := by
    intro n k p q h
    rw [Nat.add_mod, Nat.mul_mod, h, ← Nat.mul_mod, ← Nat.add_mod]
  rw [e p k ((a + 65520) % 65521) (a + 65520) (Nat.mod_mod _ _), Nat.mul_add, Nat.add_assoc]
theorem mul_small {p a : Nat} (hp : p < 65521) (ha : a < 65521) : p * a ≤ 4292870400 := by
  have := Nat.mul_le_mul (show p ≤ 65520 by omega) (show a ≤ 65520 by omega)
  omega
theorem u64_id (v : Int) (h0 : 0 ≤ v) (h : v < 18446744073709551616) : IntKind.u64.wrap v = v := by rw [IntKind.wrap_u64]; exact Int.emod_eq_of_lt h0 h
theorem i64_id (v : Int) (h0 : 0 ≤ v) (h : v < 9223372036854775808) : wrap64 v = v := by unfold wrap64; omega
theorem core_prog (b d P p : Int) (b0 : 0 ≤ b) (b1 : b < 65521) (d0 : 0 ≤ d) (d1 : d < 65521) (P0 : 0 ≤ P) (P1 : P ≤ 4292870400) (p0 : 0 ≤ p) (p1 : p < 65521) :
    (IntKind.u64.wrap (IntKind.u64.wrap (b + d + IntKind.u64.wrap P) + p * 65520)).tmod 65521 % 4294967296 * 65536 % 4294967296 = ((b + d + P + p * 65520) % 65521) * 65536 := by
  rw [u64_id P P0 (by omega), u64_id (b + d + P) (by omega) (by omega), u64_id (b + d + P + p * 65520) (by omega) (by omega), Int.tmod_eq_emod_of_nonneg (by omega)]
  omega
theorem core_ref (b d P o : Int) (b0 : 0 ≤ b) (b1 : b < 65521) (d0 : 0 ≤ d) (d1 : d < 65521) (P0 : 0 ≤ P) (P1 : P ≤ 4292870400) (o0 : 0 ≤ o) (o1 : o < 65521) :
    wrap64 (wrap64 ((wrap64 (b + d + wrap64 P)).tmod 65521 * 65536) + o) % 4294967296 = ((b + d + P) % 65521) * 65536 + o := by
  rw [i64_id P P0 (by omega), i64_id (b + d + P) (by omega) (by omega), Int.tmod_eq_emod_of_nonneg (by omega), i64_id ((b + d + P) % 65521 * 65536) (by omega) (by omega),
    i64_id ((b + d + P) % 65521 * 65536 + o) (by omega) (by omega)]
  omega
theorem join_prog (x y n : Nat) (hx : x < 4294967296) (hy : y < 4294967296) :
    bits .or .u32 ((IntKind.u64.wrap (IntKind.u64.wrap ((x : Int) / 65536 % 65521 + (y : Int) / 65536 % 65521 + IntKind.u64.wrap ((n : Int) % 65521 * ((x : Int) % 65536 % 65521))) + (n : Int) % 65521 * 65520)).tmod 65521 % 4294967296 * 65536 % 4294967296)
      (((x : Int) % 65536 % 65521 + (y : Int) % 65536 % 65521 + 65521 - 1) % 65521) = ((join x y n : Nat) : Int) := by
  have hm := mul_small (p := n % 65521) (a := x % 65536 % 65521) (Nat.mod_lt _ (by decide)) (Nat.mod_lt _ (by decide))
  have hc : (n : Int) % 65521 * ((x : Int) % 65536 % 65521) = ((n % 65521 * (x % 65536 % 65521) : Nat) : Int) := by simp
  rw [hc, core_prog _ _ _ _ (by omega) (by omega) (by omega) (by omega) (by omega) (by omega) (by omega) (by omega)]
  have e1 : ((x : Int) / 65536 % 65521 + (y : Int) / 65536 % 65521 + ((n % 65521 * (x % 65536 % 65521) : Nat) : Int) + (n : Int) % 65521 * 65520) % 65521
      = (((x / 65536 % 65521 + y / 65536 % 65521 + n % 65521 * (x % 65536 % 65521) + n % 65521 * 65520) % 65521 : Nat) : Int) := by simp
  have e2 : (((x : Int) % 65536 % 65521 + (y : Int) % 65536 % 65521 + 65521 - 1) % 65521) = (((x % 65536 % 65521 + y % 65536 % 65521 + 65520) % 65521 : Nat) : Int) := by clear hm hc e1; omega
  rw [e1, e2, or16_u32 _ _ (Nat.lt_trans (Nat.mod_lt _ (by decide)) (by decide)) (Nat.lt_trans (Nat.mod_lt _ (by decide)) (by decide))]
  unfold join
  rw [joinA_eq]
theorem join_ref (x y n : Nat) (hx : x < 4294967296) (hy : y < 4294967296) :
    wrap64 (wrap64 ((wrap64 ((x : Int) / 65536 % 65521 + (y : Int) / 65536 % 65521 + wrap64 ((n : Int) % 65521 * (((x : Int) % 65536 - 1) % 65521)))).tmod 65521 * 65536) +
      ((x : Int) % 65536 % 65521 + (y : Int) % 65536 % 65521 - 1) % 65521) % 4294967296 = ((join x y n : Nat) : Int) := by
  have hm := mul_small (p := n % 65521) (a := (x % 65536 % 65521 + 65520) % 65521) (Nat.mod_lt _ (by decide)) (Nat.mod_lt _ (by decide))
  have h1 : ((x : Int) % 65536 - 1) % 65521 = (((x % 65536 % 65521 + 65520) % 65521 : Nat) : Int) := by clear hm; omega
  have hc : (n : Int) % 65521 * (((x : Int) % 65536 - 1) % 65521) = ((n % 65521 * ((x % 65536 % 65521 + 65520) % 65521) : Nat) : Int) := by rw [h1]; simp
  have h2 : ((x : Int) % 65536 % 65521 + (y : Int) % 65536 % 65521 - 1) % 65521 = (((x % 65536 % 65521 + y % 65536 % 65521 + 65520) % 65521 : Nat) : Int) := by clear hm h1 hc; omega
  rw [hc, h2, core_ref _ _ _ _ (by omega) (by omega) (by omega) (by omega) (by omega) (by omega) (by omega) (by omega)]
  unfold join
  simp

/-! ### a table as an array's cells -/
def tab (T : Nat → Nat) : Array Value := (Array.range 256).map fun i => .int .u32 (T i : Nat)
theorem tab_size (T : Nat → Nat) : (tab T).size = 256 := by simp [tab]
theorem tab_get (T : Nat → Nat) (i : Nat) (h : i < 256) : (tab T)[i]? = some (.int .u32 (T i : Nat)) := by simp [tab, h]
theorem tab_congr {T U : Nat → Nat} (h : ∀ i, i < 256 → T i = U i) : tab T = tab U := by
  apply Array.ext
  · simp [tab]
  · intro i h1 h2
    have : i < 256 := by simpa [tab] using h1
    simp [tab, h i this]
theorem tab_one (T : Nat → Nat) : (tab T).all (·.oneCell') = true := by
  rw [Array.all_eq_true_iff_forall_mem]
  intro v hv
  simp only [tab, Array.mem_map] at hv
  obtain ⟨i, _, rfl⟩ := hv
  rfl
theorem tab_set (T : Nat → Nat) (k v : Nat) : (tab T).setIfInBounds k (.int .u32 (v : Nat)) = tab (fun i => if i = k then v else T i) := by
  apply Array.ext_getElem?
  intro i
  unfold tab
  by_cases h3 : i < 256
  · by_cases h : k = i
    · subst h; simp [Array.getElem?_setIfInBounds, h3]
    · have h' : ¬ i = k := fun e => h e.symm
      simp [Array.getElem?_setIfInBounds, h3, h, h']
  · by_cases h : k = i
    · subst h; simp [Array.getElem?_setIfInBounds, h3]
    · simp [Array.getElem?_setIfInBounds, h3, h]
end Go.Proofs.Ytaibfigofmakjaa
