/- Plain laws of damage: what was packed, and a packet of it is lost, repeated, exchanged, or a byte of it is changed. -/
import Derived.Test.YtgdjpaeclicdfaaDoorTrL
namespace Go.Proofs.YtgdjpaeclicdfaaDoor
open Go.ChangeShapes Go.WideShapes Go.ChangeAt Go.RowKit
set_option linter.unusedVariables false
set_option linter.unusedSimpArgs false

/-- Counter and flags of packet j. -/
theorem pack_cnt {rn rd : Int} {u : Un} {l : List UInt8} (h : packP rn rd u = some l) {n : Nat} (hl : l.length = 64 * n) {j : Nat} (hj : j < n) : (l.getD (64 * j + 2) 0).toNat % 16 = j % 16 ∧ (l.getD (64 * j + 3) 0).toNat = flagsP n j := by
  obtain ⟨hr, hv, rfl⟩ := packP_some h
  rw [pkL_flat] at hl
  have hn : n = pktN (streamU rn rd u) := by omega
  subst hn
  have hf := flagsP_lt (pktN (streamU rn rd u)) j
  rw [pk_2 hj, pk_3 hj, toNat_of (by omega), toNat_of (by omega)]
  exact ⟨by omega, rfl⟩
theorem unpack_cnt {rn rd : Int} {u : Un} {l : List UInt8} (h : unpackP rn rd l = some u) {n : Nat} (hl : l.length = 64 * n) {j : Nat} (hj : j < n) : (l.getD (64 * j + 2) 0).toNat % 16 = j % 16 ∧ (l.getD (64 * j + 3) 0).toNat = flagsP n j := pack_cnt (pack_unpack h) hl hj
theorem unpack_pos {rn rd : Int} {u : Un} {l : List UInt8} (h : unpackP rn rd l = some u) : 64 ≤ l.length := by
  have := pack_len (pack_unpack h); omega
theorem flags_first {n j : Nat} : flagsP n j % 2 = (if j = 0 then 1 else 0) := by unfold flagsP; split <;> split <;> rfl
theorem flags_last {n j : Nat} : flagsP n j / 2 = (if j + 1 = n then 1 else 0) := by unfold flagsP; split <;> split <;> rfl
theorem exam_bad {l : List UInt8} {n j : Nat} (hl : l.length = 64 * n) (hj : j < n) (h : (l.getD (64 * j + 3) 0).toNat ≠ flagsP n j) : examineP l = none := by
  have hx : headOk l n j = false := by
    unfold headOk
    rw [decide_eq_false_iff_not]
    rintro ⟨_, _, h3, _⟩
    exact h h3
  unfold examineP
  rw [show l.length / 64 = n by omega, if_pos (.inr (.inr (exOk_no hj hx)))]
theorem exam_nil {l : List UInt8} (h : l.length = 0) : examineP l = none := by unfold examineP; rw [if_pos (.inl h)]
theorem exam_drop {rn rd : Int} {u : Un} {l : List UInt8} (h : packP rn rd u = some l) : examineP (l.drop 64) = none := by
  obtain ⟨hl, h1, _⟩ := pack_len h
  obtain ⟨n, hn⟩ : ∃ n, pktN (streamU rn rd u) = n + 1 := ⟨pktN (streamU rn rd u) - 1, by omega⟩
  rw [hn] at hl
  have hd : (l.drop 64).length = 64 * n := by rw [List.length_drop]; omega
  by_cases h0 : n = 0
  · exact exam_nil (by omega)
  · refine exam_bad hd (j := 0) (by omega) ?_
    rw [dropGetD, show 64 + (64 * 0 + 3) = 64 * 1 + 3 by omega, (pack_cnt h hl (j := 1) (by omega)).2]
    intro e
    have a := flags_first (n := n + 1) (j := 1)
    have b := flags_first (n := n) (j := 0)
    rw [e] at a
    simp at a b
    omega
theorem takeGetD {l : List UInt8} {n k : Nat} {d : UInt8} (h : k < n) : (l.take n).getD k d = l.getD k d := by simp only [List.getD, List.getElem?_take_of_lt h]
theorem exam_take {rn rd : Int} {u : Un} {l : List UInt8} (h : packP rn rd u = some l) : examineP (l.take (l.length - 64)) = none := by
  obtain ⟨hl, h1, _⟩ := pack_len h
  obtain ⟨n, hn⟩ : ∃ n, pktN (streamU rn rd u) = n + 1 := ⟨pktN (streamU rn rd u) - 1, by omega⟩
  rw [hn] at hl
  have hd : (l.take (l.length - 64)).length = 64 * n := by rw [List.length_take]; omega
  by_cases h0 : n = 0
  · exact exam_nil (by omega)
  · refine exam_bad hd (j := n - 1) (by omega) ?_
    rw [takeGetD (by omega), (pack_cnt h hl (j := n - 1) (by omega)).2]
    intro e
    have a := flags_last (n := n + 1) (j := n - 1)
    have b := flags_last (n := n) (j := n - 1)
    rw [e, b, if_pos (by omega), if_neg (by omega)] at a
    omega
theorem follows_l {a b : List UInt8} (h : examineP a = none) : followsP a b = false := by unfold followsP; rw [h]; rfl
theorem follows_r {a b : List UInt8} (h : examineP b = none) : followsP a b = false := by unfold followsP; rw [h]; simp
theorem appGetL {a b : List UInt8} {k : Nat} (h : k < a.length) : (a ++ b).getD k 0 = a.getD k 0 := by simp only [List.getD, List.getElem?_append_left h]
theorem appGetR {a b : List UInt8} {k : Nat} (h : a.length ≤ k) : (a ++ b).getD k 0 = b.getD (k - a.length) 0 := by simp only [List.getD, List.getElem?_append_right h]
theorem none_of {α : Type} {o : Option α} (h : ∀ x, o ≠ some x) : o = none := by cases o with | none => rfl | some x => exact absurd rfl (h x)
/-- A packet is missing. -/
theorem missing_law {rn rd : Int} {u : Un} {l : List UInt8} (h : packP rn rd u = some l) {i n : Nat} (hl : l.length = 64 * n) (hn : n ≤ 13) (hi : i < n) : unpackP rn rd (l.take (64 * i) ++ l.drop (64 * i + 64)) = none := none_of fun x hx => by
  have hlen : (l.take (64 * i) ++ l.drop (64 * i + 64)).length = 64 * (n - 1) := by rw [List.length_append, List.length_take, List.length_drop]; omega
  have hp := unpack_pos hx
  have ht : (l.take (64 * i)).length = 64 * i := by rw [List.length_take]; omega
  by_cases hin : i + 1 < n
  · have a := (unpack_cnt hx hlen (j := i) (by omega)).1
    rw [appGetR (by omega), ht, dropGetD, show 64 * i + 64 + (64 * i + 2 - 64 * i) = 64 * (i + 1) + 2 by omega, (pack_cnt h hl (j := i + 1) hin).1] at a
    omega
  · have a := (unpack_cnt hx hlen (j := n - 2) (by omega)).2
    rw [appGetL (by omega), takeGetD (by omega), (pack_cnt h hl (j := n - 2) (by omega)).2] at a
    have b := flags_last (n := n) (j := n - 2)
    have c := flags_last (n := n - 1) (j := n - 2)
    rw [a, c, if_pos (by omega), if_neg (by omega)] at b
    omega
/-- A packet is repeated. -/
theorem repeated_law {rn rd : Int} {u : Un} {l : List UInt8} (h : packP rn rd u = some l) {i n : Nat} (hl : l.length = 64 * n) (hn : n ≤ 13) (hi : i < n) : unpackP rn rd (l.take (64 * i + 64) ++ l.drop (64 * i)) = none := none_of fun x hx => by
  have hlen : (l.take (64 * i + 64) ++ l.drop (64 * i)).length = 64 * (n + 1) := by rw [List.length_append, List.length_take, List.length_drop]; omega
  have ht : (l.take (64 * i + 64)).length = 64 * i + 64 := by rw [List.length_take]; omega
  have a := (unpack_cnt hx hlen (j := i + 1) (by omega)).1
  rw [appGetR (by omega), ht, dropGetD, show 64 * i + (64 * (i + 1) + 2 - (64 * i + 64)) = 64 * i + 2 by omega, (pack_cnt h hl (j := i) hi).1] at a
  omega
/-- m[64 i : 64 i + 64] is overwritten by the packet k of l. -/
def putPk (m l : List UInt8) (i k : Nat) : List UInt8 := m.take (64 * i) ++ (l.drop (64 * k)).take 64 ++ m.drop (64 * i + 64)
theorem putPk_len {m l : List UInt8} {i k n : Nat} (hm : m.length = 64 * n) (hl : l.length = 64 * n) (hi : i < n) (hk : k < n) : (putPk m l i k).length = 64 * n := by
  unfold putPk
  rw [List.length_append, List.length_append, List.length_take, List.length_take, List.length_drop, List.length_drop]; omega
theorem putPk_at {m l : List UInt8} {i k n q : Nat} (hm : m.length = 64 * n) (hl : l.length = 64 * n) (hi : i < n) (hk : k < n) (hq : q < 64) : (putPk m l i k).getD (64 * i + q) 0 = l.getD (64 * k + q) 0 := by
  unfold putPk
  have ht : (m.take (64 * i)).length = 64 * i := by rw [List.length_take]; omega
  have ht2 : ((l.drop (64 * k)).take 64).length = 64 := by rw [List.length_take, List.length_drop]; omega
  rw [appGetL (by rw [List.length_append]; omega), appGetR (by omega), ht, takeGetD (by omega), dropGetD]
  congr 1; omega
theorem putPk_ne {m l : List UInt8} {i k n j q : Nat} (hm : m.length = 64 * n) (hl : l.length = 64 * n) (hi : i < n) (hk : k < n) (hq : q < 64) (hj : j ≠ i) : (putPk m l i k).getD (64 * j + q) 0 = m.getD (64 * j + q) 0 := by
  unfold putPk
  have ht : (m.take (64 * i)).length = 64 * i := by rw [List.length_take]; omega
  have ht2 : ((l.drop (64 * k)).take 64).length = 64 := by rw [List.length_take, List.length_drop]; omega
  by_cases h : j < i
  · rw [appGetL (by rw [List.length_append]; omega), appGetL (by omega), takeGetD (by omega)]
  · rw [appGetR (by rw [List.length_append]; omega), List.length_append, ht, ht2, dropGetD]
    congr 1; omega
theorem putPk_self {l : List UInt8} {i n : Nat} (hl : l.length = 64 * n) (hi : i < n) : putPk l l i i = l := by
  unfold putPk
  rw [← List.drop_drop, List.append_assoc, List.take_append_drop, List.take_append_drop]
/-- Two packets are exchanged. -/
theorem exchanged_law {rn rd : Int} {u : Un} {l : List UInt8} (h : packP rn rd u = some l) {i k n : Nat} (hl : l.length = 64 * n) (hn : n ≤ 13) (hi : i < n) (hk : k < n) (hik : i ≠ k) : unpackP rn rd (putPk (putPk l l i k) l k i) = none := none_of fun x hx => by
  have h1 := putPk_len hl hl hi hk
  have h2 := putPk_len h1 hl hk hi
  have a := (unpack_cnt hx h2 (j := k) hk).1
  rw [putPk_at h1 hl hk hi (by omega), (pack_cnt h hl (j := i) hi).1] at a
  omega
end Go.Proofs.YtgdjpaeclicdfaaDoor
