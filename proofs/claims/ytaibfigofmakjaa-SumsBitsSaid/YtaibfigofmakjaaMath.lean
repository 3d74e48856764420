/-
  Sums: the plain mathematics of Adler-32 and CRC-32 (no Go, no program in it).
-/
import Derived.Laws.Entries
namespace Go.Proofs.Ytaibfigofmakjaa

/-! ### Adler-32 -/
structure Adl where
  a : Nat
  b : Nat
def Adl.step (x : Adl) (c : Nat) : Adl := ⟨(x.a + c) % 65521, (x.b + (x.a + c) % 65521) % 65521⟩
def Adl.of (sum : Nat) : Adl := ⟨sum % 65536 % 65521, sum / 65536 % 65521⟩
def Adl.sum (x : Adl) : Nat := x.b * 65536 + x.a
def Adl.run (x : Adl) : List Nat → Adl
  | [] => x
  | c :: l => Adl.run (x.step c) l
def Adl.fine (x : Adl) : Prop := x.a < 65521 ∧ x.b < 65521
def byteL (s : ByteArray) : List Nat := s.data.toList.map (·.toNat)
def adler (sum : Nat) (s : ByteArray) : Nat := ((Adl.of sum).run (byteL s)).sum
def join (x y n : Nat) : Nat :=
  (x / 65536 % 65521 + y / 65536 % 65521 + n % 65521 * ((x % 65536 % 65521 + 65520) % 65521)) % 65521 * 65536 + (x % 65536 % 65521 + y % 65536 % 65521 + 65520) % 65521

theorem Adl.fine_of (n : Nat) : (Adl.of n).fine := ⟨Nat.mod_lt _ (by decide), Nat.mod_lt _ (by decide)⟩
theorem Adl.fine_step (x : Adl) (c : Nat) : (x.step c).fine := ⟨Nat.mod_lt _ (by decide), Nat.mod_lt _ (by decide)⟩
theorem Adl.fine_run (l : List Nat) : ∀ x : Adl, x.fine → (x.run l).fine := by
  induction l with
  | nil => intro x h; exact h
  | cons c l ih => intro x _; exact ih _ (Adl.fine_step x c)
theorem Adl.of_sum (x : Adl) (h : x.fine) : Adl.of x.sum = x := by
  obtain ⟨h1, h2⟩ := h
  cases x with
  | mk a b =>
    simp only at h1 h2
    simp only [Adl.of, Adl.sum, Adl.mk.injEq]
    omega
theorem Adl.sum_lt (x : Adl) (h : x.fine) : x.sum < 4294967296 := by
  obtain ⟨h1, h2⟩ := h
  unfold Adl.sum
  omega
theorem Adl.run_append (l m : List Nat) : ∀ x : Adl, x.run (l ++ m) = (x.run l).run m := by
  induction l with
  | nil => intro x; rfl
  | cons c l ih => intro x; exact ih _
theorem adler_lt (n : Nat) (s : ByteArray) : adler n s < 4294967296 := Adl.sum_lt _ (Adl.fine_run _ _ (Adl.fine_of n))
theorem byteL_append (s t : ByteArray) : byteL (s ++ t) = byteL s ++ byteL t := by
  simp [byteL]
theorem byteL_length (s : ByteArray) : (byteL s).length = s.size := by simp [byteL]
theorem adler_append (n : Nat) (s t : ByteArray) : adler n (s ++ t) = adler (adler n s) t := by
  unfold adler
  rw [byteL_append, Adl.run_append, Adl.of_sum _ (Adl.fine_run _ _ (Adl.fine_of n))]
theorem adler_eq {x y : Adl} (hx : x.fine) (hy : y.fine) (h : x.sum = y.sum) : x = y := by
  rw [← Adl.of_sum x hx, h, Adl.of_sum y hy]

/-- what a run does to a state: it adds to 'a' the bytes' sum, and to 'b' a multiple of 'a' and something of the bytes alone -/
theorem Adl.run_shift (l : List Nat) : ∀ (x y : Adl), x.fine → y.fine →
    (x.run l).a % 65521 = ((y.run l).a + x.a + 65521 - y.a) % 65521 ∧
    (x.run l).b % 65521 = ((y.run l).b + x.b + (65521 - y.b) + (l.length % 65521) * (x.a + (65521 - y.a))) % 65521 := by
  induction l with
  | nil =>
    intro x y hx hy
    obtain ⟨h1, h2⟩ := hx; obtain ⟨h3, h4⟩ := hy
    simp only [Adl.run, List.length_nil, Nat.zero_mod, Nat.zero_mul]
    omega
  | cons c l ih =>
    intro x y hx hy
    have := ih (x.step c) (y.step c) (Adl.fine_step _ _) (Adl.fine_step _ _)
    obtain ⟨i1, i2⟩ := this
    obtain ⟨h1, h2⟩ := hx; obtain ⟨h3, h4⟩ := hy
    simp only [Adl.run, List.length_cons]
    refine ⟨?_, ?_⟩
    · rw [i1]
      simp only [Adl.step]
      omega
    · rw [i2]
      have e : ∀ n k m : Nat, (k + (n % 65521) * m) % 65521 = (k + n * m) % 65521 := by
        intro n k m
        rw [Nat.add_mod, Nat.mul_mod, Nat.mod_mod, ← Nat.mul_mod, ← Nat.add_mod]
      rw [e, e]
      have e2 : ∀ n k p q : Nat, p % 65521 = q % 65521 → (k + n * p) % 65521 = (k + n * q) % 65521 := by
        intro n k p q h
        rw [Nat.add_mod, Nat.mul_mod, h, ← Nat.mul_mod, ← Nat.add_mod]
      have e3 : ((x.step c).a + (65521 - (y.step c).a)) % 65521 = (x.a + (65521 - y.a)) % 65521 := by
        simp only [Adl.step]
        omega
      rw [e2 _ _ _ _ e3]
      have e4 : (l.length + 1) * (x.a + (65521 - y.a)) = l.length * (x.a + (65521 - y.a)) + (x.a + (65521 - y.a)) := Nat.succ_mul _ _
      rw [e4]
      generalize l.length * (x.a + (65521 - y.a)) = M
      generalize ((y.step c).run l).b = R
      simp only [Adl.step]
      omega

/-! ### CRC-32 -/
def poly : Nat := 3988292384
def step1 (c : Nat) : Nat := c / 2 ^^^ (poly * (c % 2))
def steps : Nat → Nat → Nat
  | 0, c => c
  | n + 1, c => steps n (step1 c)
def crcT (i : Nat) : Nat := steps 8 i
def crcUpd (T : Nat → Nat) (c x : Nat) : Nat := T ((c ^^^ x) % 256) ^^^ (c / 256)
def crcRun (T : Nat → Nat) (c : Nat) : List Nat → Nat
  | [] => c
  | x :: l => crcRun T (crcUpd T c x) l
def mask32 : Nat := 4294967295
def crcMore (T : Nat → Nat) (c : Nat) (s : ByteArray) : Nat := crcRun T (c ^^^ mask32) (byteL s) ^^^ mask32
def crc (s : ByteArray) : Nat := crcMore crcT 0 s

theorem step1_lt {c : Nat} (h : c < 4294967296) : step1 c < 4294967296 := by
  unfold step1 poly
  refine Nat.xor_lt_two_pow (n := 32) ?_ ?_
  · omega
  · have : c % 2 = 0 ∨ c % 2 = 1 := by omega
    rcases this with h | h <;> rw [h] <;> decide
theorem steps_lt (n : Nat) : ∀ {c : Nat}, c < 4294967296 → steps n c < 4294967296 := by
  induction n with
  | zero => intro c h; exact h
  | succ n ih => intro c h; exact ih (step1_lt h)
theorem crcT_lt {i : Nat} (h : i < 256) : crcT i < 4294967296 := steps_lt 8 (by omega)
theorem crcUpd_lt {T : Nat → Nat} (hT : ∀ i, i < 256 → T i < 4294967296) {c : Nat} (x : Nat) (h : c < 4294967296) : crcUpd T c x < 4294967296 := by
  refine Nat.xor_lt_two_pow (n := 32) (hT _ (Nat.mod_lt _ (by decide))) ?_
  omega
theorem crcRun_lt {T : Nat → Nat} (hT : ∀ i, i < 256 → T i < 4294967296) (l : List Nat) : ∀ {c : Nat}, c < 4294967296 → crcRun T c l < 4294967296 := by
  induction l with
  | nil => intro c h; exact h
  | cons x l ih => intro c h; exact ih (crcUpd_lt hT x h)
theorem mask_lt {c : Nat} (h : c < 4294967296) : c ^^^ mask32 < 4294967296 := Nat.xor_lt_two_pow (n := 32) h (by decide)
theorem crcMore_lt {T : Nat → Nat} (hT : ∀ i, i < 256 → T i < 4294967296) {c : Nat} (s : ByteArray) (h : c < 4294967296) : crcMore T c s < 4294967296 :=
  mask_lt (crcRun_lt hT _ (mask_lt h))
theorem crc_lt (s : ByteArray) : crc s < 4294967296 := crcMore_lt (fun _ => crcT_lt) s (by decide)

theorem xor_self_cancel (a b : Nat) : a ^^^ b ^^^ b = a := by rw [Nat.xor_assoc, Nat.xor_self, Nat.xor_zero]
theorem crcRun_append (T : Nat → Nat) (l m : List Nat) : ∀ c, crcRun T c (l ++ m) = crcRun T (crcRun T c l) m := by
  induction l with
  | nil => intro c; rfl
  | cons x l ih => intro c; exact ih _
theorem crcMore_append (T : Nat → Nat) (c : Nat) (s t : ByteArray) : crcMore T c (s ++ t) = crcMore T (crcMore T c s) t := by
  unfold crcMore
  rw [byteL_append, crcRun_append, xor_self_cancel]

theorem byteL_lt (s : ByteArray) : ∀ x ∈ byteL s, x < 256 := by
  intro x hx
  simp only [byteL, List.mem_map] at hx
  obtain ⟨y, _, rfl⟩ := hx
  exact y.toNat_lt

/-! ### joins -/
theorem join_arith (sa sb ta tb n q r ra rb : Nat) (hq : q = (sa + 65520) % 65521) (hr : r = sa + (65521 - 1)) (f1 : ra < 65521) (f2 : rb < 65521) (s1 : sa < 65521)
    (t1 : ta < 65521) (r1 : ra % 65521 = (ta + sa + 65521 - 1) % 65521) (r2 : rb % 65521 = (tb + sb + (65521 - 0) + n * r) % 65521) :
    (sb + tb + n * q) % 65521 * 65536 + (sa + ta + 65520) % 65521 = rb * 65536 + ra := by
  have e : ∀ n k p q : Nat, p % 65521 = q % 65521 → (k + n * p) % 65521 = (k + n * q) % 65521 := by
    intro n k p q h
    rw [Nat.add_mod, Nat.mul_mod, h, ← Nat.mul_mod, ← Nat.add_mod]
  have e1 := e n (sb + tb) q r (by omega)
  generalize n * q = M at *
  generalize n * r = N at *
  omega
theorem adler_join (s t : ByteArray) : join (adler 1 s) (adler 1 t) t.size = adler 1 (s ++ t) := by
  have hs := Adl.fine_run (byteL s) _ (Adl.fine_of 1)
  have ht := Adl.fine_run (byteL t) _ (Adl.fine_of 1)
  have hr := Adl.run_shift (byteL t) _ _ hs (Adl.fine_of 1)
  have hf := Adl.fine_run (byteL t) _ hs
  rw [byteL_length] at hr
  have es : Adl.of (adler 1 s) = (Adl.of 1).run (byteL s) := Adl.of_sum _ hs
  have et : Adl.of (adler 1 t) = (Adl.of 1).run (byteL t) := Adl.of_sum _ ht
  unfold join
  rw [show adler 1 s % 65536 % 65521 = (Adl.of (adler 1 s)).a from rfl, show adler 1 s / 65536 % 65521 = (Adl.of (adler 1 s)).b from rfl,
    show adler 1 t % 65536 % 65521 = (Adl.of (adler 1 t)).a from rfl, show adler 1 t / 65536 % 65521 = (Adl.of (adler 1 t)).b from rfl, es, et]
  unfold adler
  rw [byteL_append, Adl.run_append]
  generalize (Adl.of 1).run (byteL t) = T at *
  generalize (Adl.of 1).run (byteL s) = S at *
  generalize S.run (byteL t) = R at *
  obtain ⟨r1, r2⟩ := hr
  obtain ⟨f1, f2⟩ := hf
  obtain ⟨s1, s2⟩ := hs
  obtain ⟨t1, t2⟩ := ht
  have o1 : (Adl.of 1).a = 1 := rfl
  have o2 : (Adl.of 1).b = 0 := rfl
  rw [o1] at r1 r2
  rw [o2] at r2
  unfold Adl.sum
  exact join_arith S.a S.b T.a T.b (t.size % 65521) _ _ R.a R.b rfl rfl f1 f2 s1 t1 r1 r2

/-! ### CRC-32 is linear -/
theorem xor_div2 (a b : Nat) : (a ^^^ b) / 2 = a / 2 ^^^ b / 2 := by
  have := Nat.shiftRight_xor_distrib (a := a) (b := b) (i := 1)
  simpa [Nat.shiftRight_eq_div_pow] using this
theorem xor_div_pow (a b n : Nat) : (a ^^^ b) / 2 ^ n = a / 2 ^ n ^^^ b / 2 ^ n := by
  have := Nat.shiftRight_xor_distrib (a := a) (b := b) (i := n)
  simpa [Nat.shiftRight_eq_div_pow] using this
theorem xor_mod2 (a b : Nat) : (a ^^^ b) % 2 = (a % 2) ^^^ (b % 2) := by
  have := Nat.xor_mod_two_pow (a := a) (b := b) (n := 1)
  simpa using this
theorem poly_xor (a b : Nat) (ha : a < 2) (hb : b < 2) : poly * (a ^^^ b) = poly * a ^^^ poly * b := by
  have h1 : a = 0 ∨ a = 1 := by omega
  have h2 : b = 0 ∨ b = 1 := by omega
  rcases h1 with rfl | rfl <;> rcases h2 with rfl | rfl <;> decide
theorem step1_xor (a b : Nat) : step1 (a ^^^ b) = step1 a ^^^ step1 b := by
  unfold step1
  rw [xor_div2, xor_mod2, poly_xor _ _ (Nat.mod_lt _ (by decide)) (Nat.mod_lt _ (by decide))]
  ac_rfl
theorem steps_xor (n : Nat) : ∀ a b, steps n (a ^^^ b) = steps n a ^^^ steps n b := by
  induction n with
  | zero => intro a b; rfl
  | succ n ih => intro a b; simp only [steps]; rw [step1_xor, ih]
theorem step1_double (k : Nat) : step1 (2 * k) = k := by
  unfold step1
  rw [Nat.mul_div_cancel_left _ (by decide), Nat.mul_mod_right]
  simp
theorem steps_shift (n : Nat) : ∀ k, steps n (2 ^ n * k) = k := by
  induction n with
  | zero => intro k; simp [steps]
  | succ n ih =>
    intro k
    simp only [steps]
    rw [Nat.pow_succ, Nat.mul_comm (2 ^ n) 2, Nat.mul_assoc, step1_double, ih]
theorem split256 (c : Nat) : c = (c % 256) ^^^ (2 ^ 8 * (c / 256)) := by
  apply Nat.eq_of_testBit_eq
  intro i
  rw [Nat.testBit_xor, Nat.testBit_two_pow_mul]
  have e : (256 : Nat) = 2 ^ 8 := rfl
  rw [e, Nat.testBit_mod_two_pow, Nat.testBit_div_two_pow]
  by_cases h : i < 8
  · have h' : ¬ 8 ≤ i := by omega
    simp [h, h']
  · have h' : 8 ≤ i := by omega
    simp [h, h', Nat.sub_add_cancel h']
theorem upd_steps (c x : Nat) (hx : x < 256) : crcUpd crcT c x = steps 8 (c ^^^ x) := by
  conv => rhs; rw [split256 (c ^^^ x)]
  rw [steps_xor, steps_shift]
  unfold crcUpd crcT
  congr 1
  have := xor_div_pow c x 8
  simp only [Nat.reducePow] at this
  rw [this, Nat.div_eq_of_lt hx, Nat.xor_zero]
def crcSlow (c : Nat) : List Nat → Nat
  | [] => c
  | x :: l => crcSlow (steps 8 (c ^^^ x)) l
theorem crcRun_slow (l : List Nat) : ∀ c, (∀ x ∈ l, x < 256) → crcRun crcT c l = crcSlow c l := by
  induction l with
  | nil => intro c _; rfl
  | cons x l ih =>
    intro c h
    simp only [crcRun, crcSlow]
    rw [upd_steps _ _ (h x (by simp)), ih _ (fun y hy => h y (by simp [hy]))]
theorem crc_slow (s : ByteArray) : crc s = crcSlow mask32 (byteL s) ^^^ mask32 := by
  have e : 0 ^^^ mask32 = mask32 := Nat.zero_xor _
  have h := crcRun_slow (byteL s) mask32 (byteL_lt s)
  unfold crc crcMore
  rw [e, h]

/-! ### and loses nothing -/
theorem step1_top {c : Nat} (h : c < 4294967296) : step1 c / 2147483648 = c % 2 := by
  have e := xor_div_pow (c / 2) (poly * (c % 2)) 31
  simp only [Nat.reducePow] at e
  unfold step1
  rw [e, Nat.div_eq_of_lt (by omega), Nat.zero_xor]
  have h1 : c % 2 = 0 ∨ c % 2 = 1 := by omega
  rcases h1 with h1 | h1 <;> rw [h1] <;> decide
theorem step1_inj {a b : Nat} (ha : a < 4294967296) (hb : b < 4294967296) (h : step1 a = step1 b) : a = b := by
  have h2 : a % 2 = b % 2 := by rw [← step1_top ha, ← step1_top hb, h]
  unfold step1 at h
  rw [h2] at h
  have h3 : a / 2 = b / 2 := by
    have := congrArg (· ^^^ poly * (b % 2)) h
    simpa [xor_self_cancel] using this
  omega
theorem steps_inj (n : Nat) : ∀ {a b : Nat}, a < 4294967296 → b < 4294967296 → steps n a = steps n b → a = b := by
  induction n with
  | zero => intro a b _ _ h; exact h
  | succ n ih => intro a b ha hb h; exact step1_inj ha hb (ih (step1_lt ha) (step1_lt hb) h)
theorem xor_left_inj {a b c : Nat} (h : c ^^^ a = c ^^^ b) : a = b := by
  have := congrArg (c ^^^ ·) h
  simpa [← Nat.xor_assoc] using this
theorem xor_right_inj {a b c : Nat} (h : a ^^^ c = b ^^^ c) : a = b := by
  rw [Nat.xor_comm a, Nat.xor_comm b] at h
  exact xor_left_inj h
theorem slow_lt (l : List Nat) : ∀ {c : Nat}, c < 4294967296 → (∀ x ∈ l, x < 256) → crcSlow c l < 4294967296 := by
  intro c hc hl
  rw [← crcRun_slow l c hl]
  exact crcRun_lt (fun _ => crcT_lt) l hc
theorem xor_lt32 {c x : Nat} (hc : c < 4294967296) (hx : x < 256) : c ^^^ x < 4294967296 := Nat.xor_lt_two_pow (n := 32) hc (by omega)
theorem slow_inj (l : List Nat) : ∀ {a b : Nat}, a < 4294967296 → b < 4294967296 → (∀ x ∈ l, x < 256) → crcSlow a l = crcSlow b l → a = b := by
  induction l with
  | nil => intro a b _ _ _ h; exact h
  | cons x l ih =>
    intro a b ha hb hl h
    have hx := hl x (by simp)
    have := ih (steps_lt 8 (xor_lt32 ha hx)) (steps_lt 8 (xor_lt32 hb hx)) (fun y hy => hl y (by simp [hy])) h
    exact xor_right_inj (steps_inj 8 (xor_lt32 ha hx) (xor_lt32 hb hx) this)
theorem slow_append (l m : List Nat) : ∀ c, crcSlow c (l ++ m) = crcSlow (crcSlow c l) m := by
  induction l with
  | nil => intro c; rfl
  | cons x l ih => intro c; exact ih _

/-- one byte that is another one: the sums are others -/
theorem slow_apart (p q : List Nat) (x y : Nat) (hx : x < 256) (hy : y < 256) (hp : ∀ z ∈ p, z < 256) (hq : ∀ z ∈ q, z < 256)
    (h : crcSlow mask32 (p ++ x :: q) = crcSlow mask32 (p ++ y :: q)) : x = y := by
  rw [slow_append, slow_append] at h
  simp only [crcSlow] at h
  have hc := slow_lt p (c := mask32) (by decide) hp
  have := slow_inj q (steps_lt 8 (xor_lt32 hc hx)) (steps_lt 8 (xor_lt32 hc hy)) hq h
  exact xor_left_inj (steps_inj 8 (xor_lt32 hc hx) (xor_lt32 hc hy) this)
theorem adl_apart (p q : List Nat) (x y : Nat) (hx : x < 256) (hy : y < 256)
    (h : (Adl.of 1).run (p ++ x :: q) = (Adl.of 1).run (p ++ y :: q)) : x = y := by
  rw [Adl.run_append, Adl.run_append] at h
  simp only [Adl.run] at h
  have hc := Adl.fine_run p _ (Adl.fine_of 1)
  generalize (Adl.of 1).run p = P at *
  have hx' := Adl.fine_step P x
  have hy' := Adl.fine_step P y
  have r := (Adl.run_shift q _ _ hx' hy').1
  rw [h] at r
  have hf := Adl.fine_run q _ hy'
  generalize ((P.step y).run q) = R at *
  obtain ⟨c1, c2⟩ := hc
  obtain ⟨a1, a2⟩ := hx'
  obtain ⟨b1, b2⟩ := hy'
  obtain ⟨f1, f2⟩ := hf
  simp only [Adl.step] at *
  omega

/-- three texts of one length at once -/
def xorL : List Nat → List Nat → List Nat
  | x :: l, y :: m => (x ^^^ y) :: xorL l m
  | _, _ => []
theorem slow_xor (l : List Nat) : ∀ (m : List Nat) (a b : Nat), l.length = m.length →
    crcSlow (a ^^^ b) (xorL l m) = crcSlow a l ^^^ crcSlow b m := by
  induction l with
  | nil => intro m a b h; cases m with | nil => rfl | cons _ _ => simp at h
  | cons x l ih =>
    intro m a b h
    cases m with
    | nil => simp at h
    | cons y m =>
      simp only [xorL, crcSlow]
      rw [← ih m _ _ (by simpa using h), ← steps_xor]
      congr 2
      ac_rfl
theorem xorL_length (l : List Nat) : ∀ m : List Nat, l.length = m.length → (xorL l m).length = l.length := by
  induction l with
  | nil => intro m _; cases m <;> rfl
  | cons x l ih =>
    intro m h
    cases m with
    | nil => simp at h
    | cons y m => simp only [xorL, List.length_cons]; rw [ih m (by simpa using h)]
theorem xorL_zero (l : List Nat) : ∀ n, l.length = n → xorL l (List.replicate n 0) = l := by
  induction l with
  | nil => intro n h; cases n <;> rfl
  | cons x l ih =>
    intro n h
    cases n with
    | zero => simp at h
    | succ n => simp only [List.replicate_succ, xorL]; rw [ih n (by simpa using h), Nat.xor_zero]
theorem slow_three (l m : List Nat) (n : Nat) (hl : l.length = n) (hm : m.length = n) :
    crcSlow mask32 (xorL l m) ^^^ mask32 = (crcSlow mask32 l ^^^ mask32) ^^^ (crcSlow mask32 m ^^^ mask32) ^^^ (crcSlow mask32 (List.replicate n 0) ^^^ mask32) := by
  have h1 := slow_xor l m mask32 mask32 (by omega)
  have h2 := slow_xor (xorL l m) (List.replicate n 0) (mask32 ^^^ mask32) mask32 (by rw [xorL_length l m (by omega), hl, List.length_replicate])
  rw [xorL_zero (xorL l m) n (by rw [xorL_length l m (by omega), hl]), h1] at h2
  have e : mask32 ^^^ mask32 ^^^ mask32 = mask32 := by decide
  rw [e] at h2
  rw [h2]
  generalize crcSlow mask32 l = A
  generalize crcSlow mask32 m = B
  generalize crcSlow mask32 (List.replicate n 0) = C
  have : (A ^^^ mask32) ^^^ (B ^^^ mask32) ^^^ (C ^^^ mask32) = A ^^^ B ^^^ C ^^^ (mask32 ^^^ mask32 ^^^ mask32) := by ac_rfl
  rw [this, e]
theorem crcT_xor (i k : Nat) : crcT (i ^^^ k) = crcT i ^^^ crcT k := steps_xor 8 i k
theorem crcT_zero : crcT 0 = 0 := by decide

end Go.Proofs.Ytaibfigofmakjaa
