/- Strings and bits, by explicit steps. Nothing here is about one function. -/
import Derived.Test.YtgdjpaeclicdfaaDoorSymQ
import Derived.Test.YtgdjpaeclicdfaaDoorSymC
import Derived.Laws.Strings2
import Derived.Laws.Concat
import Derived.Laws.BytesString
import Derived.Laws.BitsAllLaws
import Derived.Laws.IdiomStrings
namespace Go.Proofs.YtgdjpaeclicdfaaDoor
open Go.ChangeShapes Go.WideShapes Go.ChangeAt Go.RowKit
set_option linter.unusedVariables false
set_option linter.unusedSimpArgs false

/-- A string, by its bytes. -/
abbrev bstr (l : List UInt8) : ByteArray := ByteArray.mk l.toArray
theorem bstr_of (s : ByteArray) : ∃ l, s = bstr l := ⟨s.data.toList, by cases s; simp⟩
theorem bstr_size (l : List UInt8) : (bstr l).size = l.length := rfl
theorem bstr_eq (a b : List UInt8) : ((bstr a).toList == (bstr b).toList) = (a == b) := by rw [ByteArray.toList_mk, ByteArray.toList_mk]
theorem bstr_inj {a b : List UInt8} (h : bstr a = bstr b) : a = b := by
  have := congrArg (fun s => s.data.toList) h
  simpa using this
section
variable {P : Program} {ρ : Operand → Value} {w : World} {t e : TypeId} {x y z : Operand} {dst : Option Tmp} {ty : TypeId} {pos : String} {af : Array Edge} {g : Option (Nat × Bool)} {k kk : IntKind}
theorem bstr_get (l : List UInt8) (m : Nat) : ∀ (q : Nat) (hq : q < (bstr l).size), q = m → ((bstr l)[q]'hq).toNat = (l.getD m 0).toNat := by
  rintro q hq rfl
  have hm : q < l.length := hq
  show (l.toArray[q]'(by simpa using hm)).toNat = _
  simp [List.getD, List.getElem?_eq_getElem hm]
theorem ex_sindex {l : List UInt8} {i : Int} {m : Nat} (hx : ρ x = .string (bstr l)) (hy : ρ y = .int k i) (hu : P.underlying t = some .string) (hi : i = (m : Int)) (hm : m < l.length) :
    (execOp ρ ⟨dst, .index t x y, ty, pos, af, g⟩).run P w = .ok (.value (.int .u8 (((l.getD m 0).toNat : Nat) : Int))) w := by
  subst hi
  have h1 : (0 : Int) ≤ (m : Int) ∧ (m : Int) < ((bstr l).size : Int) := ⟨by omega, by rw [bstr_size]; omega⟩
  have h2 := run_index_string (P := P) w t (bstr l) k (m : Int) hu
  rw [dif_pos h1, bstr_get l m _ _ (Int.toNat_natCast m)] at h2
  simp only [execOp, hx, hy, h2, Sem.run_bind, Result.andThen_ok, Sem.run_pure]
theorem extract_bstr (l : List UInt8) (a b : Nat) : (bstr l).extract a b = bstr ((l.drop a).take (b - a)) := ByteArray.extract_mk l a b
/-- s[i:j] -/
theorem ex_sslice {l : List UInt8} {i j : Int} {a b : Nat} (hx : ρ x = .string (bstr l)) (hy : ρ y = .int k i) (hz : ρ z = .int kk j) (hu : P.underlying t = some .string) (hi : i = (a : Int)) (hj : j = (b : Int)) (hab : a ≤ b) (hb : b ≤ l.length) :
    (execOp ρ ⟨dst, .slice t x (some y) (some z) none, ty, pos, af, g⟩).run P w = .ok (.value (.string (bstr ((l.drop a).take (b - a))))) w := by
  subst hi; subst hj
  have h2 := run_slice_string (P := P) w t (bstr l) k kk (a : Int) (b : Int) hu (by omega) (by omega) (by rw [bstr_size]; omega)
  simp only [execOp, hx, hy, hz, Option.map_none, Option.map_some, run_sliceAt_string w t _ _ _ _ hu, h2, Sem.run_bind, Result.andThen_ok, Sem.run_pure, Int.toNat_natCast, extract_bstr]
/-- s[:j] -/
theorem ex_ssliceH {l : List UInt8} {j : Int} {b : Nat} (hx : ρ x = .string (bstr l)) (hz : ρ z = .int kk j) (hu : P.underlying t = some .string) (hj : j = (b : Int)) (hb : b ≤ l.length) :
    (execOp ρ ⟨dst, .slice t x none (some z) none, ty, pos, af, g⟩).run P w = .ok (.value (.string (bstr (l.take b)))) w := by
  subst hj
  have h2 := run_slice_string_h (P := P) w t (bstr l) hu kk (b : Int) (by omega) (by rw [bstr_size]; omega)
  simp only [execOp, hx, hz, Option.map_none, Option.map_some, run_sliceAt_string w t _ _ _ _ hu, h2, Sem.run_bind, Result.andThen_ok, Sem.run_pure, Int.toNat_natCast, extract_bstr, List.drop_zero, Nat.sub_zero]
/-- s[i:] -/
theorem ex_ssliceL {l : List UInt8} {i : Int} {a : Nat} (hx : ρ x = .string (bstr l)) (hy : ρ y = .int k i) (hu : P.underlying t = some .string) (hi : i = (a : Int)) (ha : a ≤ l.length) :
    (execOp ρ ⟨dst, .slice t x (some y) none none, ty, pos, af, g⟩).run P w = .ok (.value (.string (bstr (l.drop a)))) w := by
  subst hi
  have h2 := run_slice_string_l (P := P) w t (bstr l) hu k (a : Int) (by omega) (by rw [bstr_size]; omega)
  rw [Int.toNat_natCast, extract_bstr, List.take_of_length_le (by rw [List.length_drop, bstr_size]; exact Nat.le_refl _)] at h2
  simp only [execOp, hx, hy, Option.map_none, Option.map_some, run_sliceAt_string w t _ _ _ _ hu, h2, Sem.run_bind, Result.andThen_ok, Sem.run_pure]
theorem bstr_append (a b : List UInt8) : bstr a ++ bstr b = bstr (a ++ b) := by
  apply ByteArray.ext
  simp
theorem ex_sadd {a b : List UInt8} (hx : ρ x = .string (bstr a)) (hy : ρ y = .string (bstr b)) (h : a.length + b.length ≤ 9223372036854775807) :
    (execOp ρ ⟨dst, .binOp .add t x y ty, ty, pos, af, g⟩).run P w = .ok (.value (.string (bstr (a ++ b)))) w := by
  have := run_string_add_sum (P := P) w (bstr a) (bstr b) (by rw [bstr_size, bstr_size]; exact h)
  simp [execOp, hx, hy, binOp, eqGuard, this, bstr_append]
end
/-- a[i] of an array -/
theorem ex_aindex {P : Program} {ρ : Operand → Value} {w : World} {t e : TypeId} {x y : Operand} {dst : Option Tmp} {ty : TypeId} {pos : String} {af : Array Edge} {g : Option (Nat × Bool)} {b off n m k : Nat} {i : Int} {ik : IntKind}
    (hx : ρ x = .pointer (some ⟨b, off, none⟩)) (hy : ρ y = .int ik i) (hm : i = (m : Int)) (hlt : m < n) (hu : P.underlying t = some (.array n e)) (hs : sizeB P e = some k) : (execOp ρ ⟨dst, .indexAddr t x y, ty, pos, af, g⟩).run P w = .ok (.value (.pointer (some ⟨b, off + m * k, none⟩))) w := by
  subst hm
  have h1 : (0 : Int) ≤ m ∧ (m : Int) < n := by omega
  have h2 : P.arrayLen t = n := by simp [Program.arrayLen, hu]
  have h3 : P.elem t = e := by simp [Program.elem, hu]
  have hu' : P.underlying t = some (.array (P.arrayLen t) (P.elem t)) := by rw [h2, h3]; exact hu
  simp only [execOp, hx, hy, run_indexAt_array w t ⟨b, off, none⟩ ik (m : Int) hu', h2, h3, h1, and_self, if_true, run_sizeOf hs, Sem.run_bind, Result.andThen_ok, Sem.run_pure, add_plain, Int.toNat_natCast]
/-! ### Bits -/
theorem wrap_inu32 (n : Int) (h : 0 ≤ n ∧ n ≤ 4294967295) : IntKind.u32.wrap n = n := by
  simp [IntKind.wrap, IntKind.min, IntKind.max, IntKind.signed, IntKind.bits]; omega
theorem shr_nat {a c : Nat} : ((a : Nat) : Int).fdiv (2 ^ c) = ((a / 2 ^ c : Nat) : Int) := by
  rw [Int.fdiv_eq_ediv_of_nonneg _ (by exact_mod_cast Nat.zero_le (2 ^ c))]
  norm_cast
theorem bits_xor_u32 {a b : Nat} (ha : a < 4294967296) (hb : b < 4294967296) : bits .xor .u32 (a : Int) (b : Int) = ((a ^^^ b : Nat) : Int) := by
  have h := Nat.xor_lt_two_pow (n := 32) (x := a) (y := b) (by omega) (by omega)
  have ha' : a % 2 ^ IntKind.u32.bits = a := Nat.mod_eq_of_lt ha
  have hb' : b % 2 ^ IntKind.u32.bits = b := Nat.mod_eq_of_lt hb
  simp only [bits, BitVec.ofInt_natCast, BitVec.toNat_xor, BitVec.toNat_ofNat, ha', hb']
  exact wrap_inu32 _ (by omega)
theorem bits_and_u32 {a b : Nat} (ha : a < 4294967296) (hb : b < 4294967296) : bits .and .u32 (a : Int) (b : Int) = ((a &&& b : Nat) : Int) :=
  (bits_nat .u32 32 (by decide) (fun n h0 h1 => wrap_inu32 n (by omega)) a b (by omega) (by omega)).1
theorem bits_or_u8 {a b : Nat} (ha : a < 256) (hb : b < 256) : bits .or .u8 (a : Int) (b : Int) = ((a ||| b : Nat) : Int) :=
  (bits_nat .u8 8 (by decide) (fun n h0 h1 => wrap_inu8 n (by omega)) a b (by omega) (by omega)).2
end Go.Proofs.YtgdjpaeclicdfaaDoor
