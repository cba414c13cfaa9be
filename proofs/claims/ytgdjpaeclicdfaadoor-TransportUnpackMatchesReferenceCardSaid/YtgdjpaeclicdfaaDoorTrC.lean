/- The plain law of wire's checksum. -/
import Derived.Test.YtgdjpaeclicdfaaDoorWireP
namespace Go.Proofs.YtgdjpaeclicdfaaDoor
set_option linter.unusedVariables false
set_option linter.unusedSimpArgs false

/-- One bit of the register. -/
def crcBit (r : Nat) : Nat := if r % 2 = 1 then (r / 2) ^^^ 2197175160 else r / 2
def crcBits : Nat → Nat → Nat
  | 0, r => r
  | k + 1, r => crcBits k (crcBit r)
def crcTab : List Nat := [0, 274646895, 549293790, 820201905, 1098587580, 1361435347, 1640403810, 1905808397, 2197175160, 2460548119, 2722870694, 2987750089, 3280807620, 3553878443, 3811616794, 4084100981]
/-- Four bits at once. -/
def crcNib (r : Nat) : Nat := (r / 16) ^^^ crcTab.getD (r % 16) 0
def crcByte (r : Nat) (b : UInt8) : Nat := crcBits 8 (r ^^^ b.toNat)
def crcRun (r : Nat) (l : List UInt8) : Nat := l.foldl crcByte r
/-- The checksum. -/
def sumP (l : List UInt8) : Nat := 4294967295 ^^^ crcRun 4294967295 l

theorem crcBit_xor (a b : Nat) : crcBit (a ^^^ b) = crcBit a ^^^ crcBit b := by
  unfold crcBit
  have h2 : (a ^^^ b) / 2 = a / 2 ^^^ b / 2 := Nat.xor_div_two
  have h1 : (a ^^^ b) % 2 = (a % 2) ^^^ (b % 2) := Nat.xor_mod_two_pow (a := a) (b := b) (n := 1)
  rw [h2]
  rcases Nat.mod_two_eq_zero_or_one a with ha | ha <;> rcases Nat.mod_two_eq_zero_or_one b with hb | hb <;> simp only [h1, ha, hb] <;> simp
  · rw [Nat.xor_assoc]
  · rw [Nat.xor_assoc, Nat.xor_assoc, Nat.xor_comm (b / 2)]
  · rw [Nat.xor_assoc, ← Nat.xor_assoc 2197175160, Nat.xor_comm 2197175160, Nat.xor_assoc, Nat.xor_self, Nat.xor_zero]
theorem crcBits_xor : ∀ (k a b : Nat), crcBits k (a ^^^ b) = crcBits k a ^^^ crcBits k b
  | 0, _, _ => rfl
  | k + 1, a, b => by simp only [crcBits]; rw [crcBit_xor, crcBits_xor]
theorem crcBits_add : ∀ (j k r : Nat), crcBits (j + k) r = crcBits k (crcBits j r)
  | 0, k, r => by rw [Nat.zero_add]; rfl
  | j + 1, k, r => by rw [Nat.succ_add]; simp only [crcBits]; exact crcBits_add j k _
theorem crcBit_even (q : Nat) : crcBit (2 * q) = q := by
  unfold crcBit
  rw [if_neg (by omega)]
  omega
theorem split16 (r : Nat) : r = (16 * (r / 16)) ^^^ (r % 16) := by
  apply Nat.eq_of_testBit_eq
  intro i
  rw [Nat.testBit_xor, show 16 = 2 ^ 4 from rfl, Nat.testBit_two_pow_mul, Nat.testBit_mod_two_pow, Nat.testBit_div_two_pow]
  by_cases h : 4 ≤ i
  · simp [h, Nat.not_lt.2 h, Nat.sub_add_cancel h]
  · have h' : i < 4 := by omega
    simp [h, h']
theorem crcNib_eq (r : Nat) : crcNib r = crcBits 4 r := by
  have e : crcBits 4 r = crcBits 4 ((16 * (r / 16)) ^^^ (r % 16)) := congrArg _ (split16 r)
  rw [e, crcBits_xor]
  have e1 : crcBits 4 (16 * (r / 16)) = r / 16 := by
    simp only [crcBits]
    rw [show 16 * (r / 16) = 2 * (8 * (r / 16)) by omega, crcBit_even, show 8 * (r / 16) = 2 * (4 * (r / 16)) by omega, crcBit_even, show 4 * (r / 16) = 2 * (2 * (r / 16)) by omega, crcBit_even, crcBit_even]
  have e2 : ∀ m, m < 16 → crcBits 4 m = crcTab.getD m 0 := by decide
  rw [e1, e2 _ (Nat.mod_lt _ (by omega))]
  rfl
theorem crcByte_nib (r : Nat) (b : UInt8) : crcByte r b = crcNib (crcNib (r ^^^ b.toNat)) := by
  rw [crcNib_eq, crcNib_eq]
  exact crcBits_add 4 4 _
theorem crcBit_lt {r : Nat} (h : r < 4294967296) : crcBit r < 4294967296 := by
  unfold crcBit
  split
  · exact Nat.xor_lt_two_pow (n := 32) (by omega) (by omega)
  · omega
theorem crcBits_lt : ∀ {k r : Nat}, r < 4294967296 → crcBits k r < 4294967296
  | 0, _, h => h
  | k + 1, _, h => crcBits_lt (k := k) (crcBit_lt h)
theorem byte_lt (b : UInt8) : b.toNat < 256 := b.toNat_lt
theorem crcByte_lt {r : Nat} (b : UInt8) (h : r < 4294967296) : crcByte r b < 4294967296 :=
  crcBits_lt (Nat.xor_lt_two_pow (n := 32) (by omega) (by have := byte_lt b; omega))
theorem crcNib_lt {r : Nat} (h : r < 4294967296) : crcNib r < 4294967296 := by rw [crcNib_eq]; exact crcBits_lt h
theorem crcRun_lt : ∀ {l : List UInt8} {r : Nat}, r < 4294967296 → crcRun r l < 4294967296
  | [], _, h => h
  | b :: l, _, h => crcRun_lt (l := l) (crcByte_lt b h)
theorem sumP_lt (l : List UInt8) : sumP l < 4294967296 := Nat.xor_lt_two_pow (n := 32) (by omega) (crcRun_lt (by omega))
theorem crcRun_snoc (r : Nat) (l : List UInt8) (b : UInt8) : crcRun r (l ++ [b]) = crcByte (crcRun r l) b := by simp [crcRun]
theorem crcRun_append (r : Nat) (l m : List UInt8) : crcRun r (l ++ m) = crcRun (crcRun r l) m := by simp [crcRun]
/-! ### Different registers stay different -/
theorem crcBit_inj {a b : Nat} (ha : a < 4294967296) (hb : b < 4294967296) (h : crcBit a = crcBit b) : a = b := by
  have key : ∀ c, c < 4294967296 → ((crcBit c).testBit 31 = decide (c % 2 = 1)) := by
    intro c hc
    have h31 : (c / 2).testBit 31 = false := Nat.testBit_lt_two_pow (by omega)
    unfold crcBit
    split
    · rename_i h1
      rw [Nat.testBit_xor, h31]
      simp [h1]
      decide
    · rename_i h1
      rw [h31]; simp [h1]
  have h3 := (key a ha).symm.trans ((congrArg (fun n => Nat.testBit n 31) h).trans (key b hb))
  unfold crcBit at h
  by_cases h1 : a % 2 = 1
  · have h2 : b % 2 = 1 := by simpa [h1] using h3
    rw [if_pos h1, if_pos h2] at h
    have := congrArg (· ^^^ 2197175160) h
    simp only [Nat.xor_assoc, Nat.xor_self, Nat.xor_zero] at this
    omega
  · have h2 : ¬ b % 2 = 1 := by simpa [h1] using h3
    rw [if_neg h1, if_neg h2] at h
    omega
theorem crcBits_inj : ∀ {k a b : Nat}, a < 4294967296 → b < 4294967296 → crcBits k a = crcBits k b → a = b
  | 0, _, _, _, _, h => h
  | k + 1, _, _, ha, hb, h => crcBit_inj ha hb (crcBits_inj (k := k) (crcBit_lt ha) (crcBit_lt hb) h)
theorem xor_cancel {a b c : Nat} (h : a ^^^ c = b ^^^ c) : a = b := by
  have := congrArg (· ^^^ c) h
  simpa [Nat.xor_assoc] using this
theorem crcByte_inj {r s : Nat} {b : UInt8} (hr : r < 4294967296) (hs : s < 4294967296) (h : crcByte r b = crcByte s b) : r = s := by
  have hb := byte_lt b
  exact xor_cancel (crcBits_inj (Nat.xor_lt_two_pow (n := 32) (by omega) (by omega)) (Nat.xor_lt_two_pow (n := 32) (by omega) (by omega)) h)
theorem crcByte_byte {r : Nat} {b c : UInt8} (hr : r < 4294967296) (h : crcByte r b = crcByte r c) : b = c := by
  have hb := byte_lt b
  have hc := byte_lt c
  have := crcBits_inj (Nat.xor_lt_two_pow (n := 32) (by omega) (by omega)) (Nat.xor_lt_two_pow (n := 32) (by omega) (by omega)) h
  rw [Nat.xor_comm r, Nat.xor_comm r] at this
  exact UInt8.toNat_inj.1 (xor_cancel this)
theorem crcRun_inj : ∀ {l : List UInt8} {r s : Nat}, r < 4294967296 → s < 4294967296 → crcRun r l = crcRun s l → r = s
  | [], _, _, _, _, h => h
  | b :: l, _, _, hr, hs, h => crcByte_inj hr hs (crcRun_inj (l := l) (crcByte_lt b hr) (crcByte_lt b hs) h)
/-- One byte changed: another checksum. -/
theorem sum_one {p q : List UInt8} {b c : UInt8} (h : sumP (p ++ b :: q) = sumP (p ++ c :: q)) : b = c := by
  have h0 : (4294967295 : Nat) < 4294967296 := by omega
  have hp := crcRun_lt (l := p) h0
  have e : crcRun 4294967295 (p ++ b :: q) = crcRun 4294967295 (p ++ c :: q) := by
    unfold sumP at h
    rw [Nat.xor_comm, Nat.xor_comm 4294967295] at h
    exact xor_cancel h
  rw [crcRun_append, crcRun_append] at e
  simp only [crcRun, List.foldl_cons] at e
  exact crcByte_byte hp (crcRun_inj (l := q) (crcByte_lt b hp) (crcByte_lt c hp) e)
end Go.Proofs.YtgdjpaeclicdfaaDoor
