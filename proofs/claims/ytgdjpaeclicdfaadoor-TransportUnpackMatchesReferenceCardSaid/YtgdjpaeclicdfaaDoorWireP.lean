/- The plain law of wire's integers: variable-length groups of 7 bits. -/
import Derived.Test.YtgdjpaeclicdfaaDoorBase
import Derived.Laws.BitsAllLaws
namespace Go.Proofs.YtgdjpaeclicdfaaDoor
set_option linter.unusedVariables false

/-- The greatest integer of wire. -/
def wmax : Int := 4611686018427387903
/-- The groups of a natural number, least significant first; all but the last are marked. -/
def vput : Nat → Nat → List Nat
  | 0, _ => []
  | f + 1, z => if z < 128 then [z] else (z % 128 + 128) :: vput f (z / 128)
def zig (n : Int) : Nat := if n < 0 then ((-n) * 2 - 1).toNat else (n * 2).toNat
def unzig (z : Nat) : Int := if z % 2 = 1 then -((z / 2 : Nat) : Int) - 1 else ((z / 2 : Nat) : Int)
/-- The bytes of an integer. -/
def encInt (n : Int) : List UInt8 := (vput 9 (zig n)).map UInt8.ofNat
/-- Reading: at most f groups more, j have been read, of value y. -/
def vget : Nat → Nat → Nat → List UInt8 → Option (Int × Nat)
  | 0, _, _, _ => none
  | _ + 1, _, _, [] => none
  | f + 1, j, y, b :: r =>
    if 128 ≤ b.toNat then vget f (j + 1) (y + b.toNat % 128 * 128 ^ j) r
    else if b.toNat = 0 ∧ 0 < j then none
    else if unzig (y + b.toNat % 128 * 128 ^ j) < -wmax then none
    else some (unzig (y + b.toNat % 128 * 128 ^ j), j + 1)
/-- The integer at a place of a string, and the place behind it. -/
def rdInt (l : List UInt8) (k : Nat) : Option (Int × Nat) := (vget 9 0 0 (l.drop k)).map fun p => (p.1, k + p.2)

theorem zig_unzig (n : Int) : unzig (zig n) = n := by
  unfold zig unzig
  split <;> split <;> omega
theorem unzig_zig (z : Nat) : zig (unzig z) = z := by
  unfold zig unzig
  split <;> split <;> omega
theorem zig_lt (n : Int) (h1 : -wmax ≤ n) (h2 : n ≤ wmax) : zig n < 9223372036854775808 := by
  unfold wmax at *
  unfold zig
  split <;> omega

theorem vput_bytes (f z : Nat) : ∀ x ∈ vput f z, x < 256 := by
  induction f generalizing z with
  | zero => intro x hx; cases hx
  | succ f ih =>
    intro x hx
    unfold vput at hx
    split at hx
    · simp at hx; omega
    · rw [List.mem_cons] at hx
      rcases hx with rfl | hx
      · omega
      · exact ih _ x hx
theorem ofNat_toNat {x : Nat} (h : x < 256) : (UInt8.ofNat x).toNat = x := by
  rw [UInt8.toNat_ofNat']; exact Nat.mod_eq_of_lt h

/-- What was put is read back. -/
theorem vget_put (f : Nat) : ∀ (j y z : Nat) (r : List UInt8), z < 128 ^ f → 0 < f → (0 < j → 0 < z) → -wmax ≤ unzig (y + z * 128 ^ j) →
    vget f j y ((vput f z).map UInt8.ofNat ++ r) = some (unzig (y + z * 128 ^ j), j + (vput f z).length) := by
  induction f with
  | zero => intro j y z r hz hf; omega
  | succ f ih =>
    intro j y z r hz _ hj hu
    unfold vput
    by_cases h : z < 128
    · rw [if_pos h]
      simp only [List.map_cons, List.map_nil, List.cons_append, List.nil_append, vget]
      rw [ofNat_toNat (by omega), if_neg (by omega), if_neg (by omega), Nat.mod_eq_of_lt h, if_neg (by omega)]
      simp
    · rw [if_neg h]
      simp only [List.map_cons, List.cons_append, vget]
      rw [ofNat_toNat (by omega), if_pos (by omega)]
      have hm : (z % 128 + 128) % 128 = z % 128 := by omega
      have hval : y + z % 128 * 128 ^ j + z / 128 * 128 ^ (j + 1) = y + z * 128 ^ j := by
        have : z * 128 ^ j = (z % 128 + z / 128 * 128) * 128 ^ j := by congr 1; omega
        rw [this, Nat.add_mul, Nat.pow_succ]
        have e : z / 128 * 128 * 128 ^ j = z / 128 * (128 ^ j * 128) := by rw [Nat.mul_assoc, Nat.mul_comm 128 (128 ^ j)]
        omega
      have hf : 0 < f := by
        rcases Nat.eq_zero_or_pos f with h0 | h0
        · subst h0; simp at hz; omega
        · exact h0
      rw [hm, ih (j + 1) _ (z / 128) r (by rw [Nat.pow_succ] at hz; omega) hf (fun _ => by omega) (by rw [hval]; exact hu), hval]
      simp only [List.length_cons]
      congr 2
      omega
theorem rdInt_enc (p r : List UInt8) (n : Int) (h1 : -wmax ≤ n) (h2 : n ≤ wmax) : rdInt (p ++ encInt n ++ r) p.length = some (n, p.length + (encInt n).length) := by
  unfold rdInt encInt
  rw [List.append_assoc, List.drop_left]
  have hz := zig_lt n h1 h2
  rw [vget_put 9 0 0 (zig n) r (by omega) (by omega) (by omega) (by simp [zig_unzig]; exact h1)]
  simp [zig_unzig]

/-- What is read is what would be put. -/
theorem vget_canon (f : Nat) : ∀ (j y : Nat) (l : List UInt8) (n : Int) (k : Nat), y < 128 ^ j → vget f j y l = some (n, k) →
    ∃ z, z < 128 ^ f ∧ n = unzig (y + z * 128 ^ j) ∧ -wmax ≤ n ∧ k = j + (vput f z).length ∧ (0 < j → 0 < z) ∧ (vput f z).map UInt8.ofNat ++ l.drop (k - j) = l ∧ k - j ≤ l.length := by
  induction f with
  | zero => intro j y l n k _ h; cases l <;> cases h
  | succ f ih =>
    intro j y l n k hy h
    cases l with
    | nil => cases h
    | cons b r =>
      simp only [vget] at h
      have hb := b.toNat_lt
      by_cases h1 : 128 ≤ b.toNat
      · rw [if_pos h1] at h
        obtain ⟨z, hz, hn, hw, hk, hp, hl, hkl⟩ := ih (j + 1) _ r n k (by
          rw [Nat.pow_succ]
          have : b.toNat % 128 * 128 ^ j ≤ 127 * 128 ^ j := Nat.mul_le_mul_right _ (by omega)
          omega) h
        have hz0 := hp (by omega)
        refine ⟨b.toNat % 128 + z * 128, by rw [Nat.pow_succ]; omega, ?_, hw, ?_, fun _ => by omega, ?_, by simp; omega⟩
        · rw [hn]
          congr 1
          rw [Nat.add_mul, Nat.pow_succ, Nat.mul_assoc z 128, Nat.mul_comm 128 (128 ^ j)]
          omega
        · rw [vput, if_neg (by omega), List.length_cons, show (b.toNat % 128 + z * 128) / 128 = z by omega]
          omega
        · rw [vput, if_neg (by omega), show (b.toNat % 128 + z * 128) / 128 = z by omega, show (b.toNat % 128 + z * 128) % 128 + 128 = b.toNat by omega]
          have e : k - j = (k - (j + 1)) + 1 := by omega
          rw [e, List.drop_succ_cons, List.map_cons, List.cons_append, hl]
          congr 1
          exact UInt8.toNat_inj.1 (ofNat_toNat hb)
      · rw [if_neg h1] at h
        by_cases h2 : b.toNat = 0 ∧ 0 < j
        · rw [if_pos h2] at h; cases h
        · rw [if_neg h2] at h
          by_cases h3 : unzig (y + b.toNat % 128 * 128 ^ j) < -wmax
          · rw [if_pos h3] at h; cases h
          · rw [if_neg h3] at h
            cases h
            rw [Nat.mod_eq_of_lt (by omega)] at h3 ⊢
            refine ⟨b.toNat, by rw [Nat.pow_succ]; have := Nat.one_le_pow f 128 (by omega); omega, rfl, by omega, ?_, fun hj => by omega, ?_, by simp⟩
            · rw [vput, if_pos (by omega)]; rfl
            · rw [vput, if_pos (by omega), show j + 1 - j = 1 by omega]
              simp only [List.map_cons, List.map_nil, List.cons_append, List.nil_append, List.drop_succ_cons, List.drop_zero]
              congr 1
              exact UInt8.toNat_inj.1 (ofNat_toNat hb)
theorem unzig_le (z : Nat) (h : z < 9223372036854775808) : unzig z ≤ wmax := by
  unfold wmax unzig
  split <;> omega
theorem rdInt_canon {l : List UInt8} {k e : Nat} {n : Int} (hk : k ≤ l.length) (h : rdInt l k = some (n, e)) :
    -wmax ≤ n ∧ n ≤ wmax ∧ e = k + (encInt n).length ∧ e ≤ l.length ∧ l.drop k = encInt n ++ l.drop e := by
  unfold rdInt at h
  cases hv : vget 9 0 0 (l.drop k) with
  | none => rw [hv] at h; cases h
  | some p =>
    obtain ⟨n', c⟩ := p
    rw [hv] at h
    simp only [Option.map_some, Option.some.injEq, Prod.mk.injEq] at h
    obtain ⟨rfl, rfl⟩ := h
    obtain ⟨z, hz, hn, hw, hk', _, hl, hkl⟩ := vget_canon 9 0 0 _ _ _ (by decide) hv
    simp only [Nat.pow_zero, Nat.mul_one, Nat.zero_add, Nat.sub_zero] at hn hk' hl hkl
    have hz2 : z < 9223372036854775808 := by omega
    have he : encInt n' = (vput 9 z).map UInt8.ofNat := by unfold encInt; rw [hn, unzig_zig]
    refine ⟨hw, by rw [hn]; exact unzig_le z hz2, by rw [he, List.length_map, hk'], by rw [List.length_drop] at hkl; omega, ?_⟩
    rw [List.drop_drop] at hl
    rw [he, hl]
theorem vput_len (f z : Nat) (hf : 0 < f) : 1 ≤ (vput f z).length ∧ (vput f z).length ≤ f := by
  induction f generalizing z with
  | zero => omega
  | succ f ih =>
    unfold vput
    split
    · simp
    · simp only [List.length_cons]
      rcases Nat.eq_zero_or_pos f with h0 | h0
      · subst h0; simp [vput]
      · have := ih (z / 128) h0; omega
theorem encInt_len (n : Int) : 1 ≤ (encInt n).length ∧ (encInt n).length ≤ 9 := by
  unfold encInt; rw [List.length_map]; exact vput_len 9 _ (by omega)
end Go.Proofs.YtgdjpaeclicdfaaDoor
