/- Contracts: pick, timecode, the table, PutString, String. -/
import Derived.Test.YtgdjpaeclicdfaaDoorTrA
import Derived.Test.YtgdjpaeclicdfaaDoorOptG
namespace Go.Proofs.YtgdjpaeclicdfaaDoor
open Go.ChangeShapes Go.WideShapes Go.ChangeAt Go.RowKit
set_option linter.unusedVariables false
set_option linter.unusedSimpArgs false

section
variable {P : Program} {ρ : Operand → Value} {w : World} {t t' : TypeId} {x y : Operand} {dst : Option Tmp} {ty : TypeId} {pos : String} {af : Array Edge} {g : Option (Nat × Bool)} {a b : Int} {k : IntKind}
theorem ex_rem (hx : ρ x = .int k a) (hy : ρ y = .int k b) (hb : b ≠ 0) : (execOp ρ ⟨dst, .binOp .rem t x y t', ty, pos, af, g⟩).run P w = .ok (.value (.int k (a.tmod b))) w := by
 simp [execOp, hx, hy, eqGuard, binOp, Op.intDiv, hb, Sem.run_bind]
theorem ex_quo (hx : ρ x = .int k a) (hy : ρ y = .int k b) (hb : b ≠ 0) : (execOp ρ ⟨dst, .binOp .quo t x y t', ty, pos, af, g⟩).run P w = .ok (.value (.int k (k.wrap (a.tdiv b)))) w := by
 simp [execOp, hx, hy, eqGuard, binOp, Op.intDiv, hb, Sem.run_bind]
end
theorem ex_eq2 {ρ : Operand → Value} {w : World} {x y : Operand} {dst : Option Tmp} {ty : TypeId} {pos : String} {af : Array Edge} {g : Option (Nat × Bool)} {a0 a1 b0 b1 : Int}
  (hx : ρ x = .agg #[.int .i64 a0, .int .i64 a1]) (hy : ρ y = .agg #[.int .i64 b0, .int .i64 b1]) : (execOp ρ ⟨dst, .binOp .eql 23 x y 23, ty, pos, af, g⟩).run Tryd.prog w = .ok (.value (.bool ((a0 == b0) && (a1 == b1)))) w := by
 by_cases h0 : a0 = b0 <;> by_cases h1 : a1 = b1 <;> simp [execOp, hx, hy, go_sem, h0, h1]
def pickI (c n : Int) : Int := (if c < 0 then -(c + 1) else c) % n
theorem pickI_lt (c n : Int) (hn : 0 < n) : 0 ≤ pickI c n ∧ pickI c n < n := ⟨Int.emod_nonneg _ (by omega), Int.emod_lt_of_pos _ hn⟩
def rateTab : List (Int × Int) := [(24000, 1001), (24, 1), (25, 1), (30000, 1001), (30, 1), (50, 1), (60000, 1001), (60, 1)]
def rateBase : List (Int × Int) := [(24, 0), (24, 0), (25, 0), (30, 2), (30, 0), (50, 0), (60, 4), (60, 0)]
def rateOk (n d : Int) : Bool := rateTab.any fun p => p.1 == n && p.2 == d
def frameOk (fr : Int) : Bool := decide (0 ≤ fr) && decide (fr ≤ 100000000)
theorem frameOk_of {fr : Int} (h : 0 ≤ fr ∧ fr ≤ 100000000) : frameOk fr = true := by simp [frameOk, h]
def ticksP (n d fr : Int) : Int := fr * 90000 * d / n % 8589934592
def rateP (c : Int) : Int × Int := rateTab.getD (pickI c 8).toNat (0, 0)
theorem rateP_eq {c : Int} {j : Nat} (h : pickI c 8 = j) : rateP c = rateTab.getD j (0, 0) := by unfold rateP; rw [h]; rfl
theorem rateOk_bd {n d : Int} (h : rateOk n d = true) : 24 ≤ n ∧ n ≤ 60000 ∧ 1 ≤ d ∧ d ≤ 1001 := by
 simp [rateOk, rateTab] at h
 omega
theorem rateP_ok (c : Int) : rateOk (rateP c).1 (rateP c).2 = true := by
 have h := pickI_lt c 8 (by omega)
 obtain ⟨j, hj⟩ : ∃ j : Nat, pickI c 8 = j := ⟨(pickI c 8).toNat, by omega⟩
 rw [rateP_eq hj]
 have hj8 : j < 8 := by omega
 have : ∀ j, j < 8 → rateOk (rateTab.getD j (0, 0)).1 (rateTab.getD j (0, 0)).2 = true := by decide
 exact this j hj8
theorem take_tab : ∀ j, j < 8 → rateTab.take (j + 1) = rateTab.take j ++ [rateTab.getD j (0, 0)] := by decide
theorem any_snoc {n d : Int} {j : Nat} (hj : j < 8) (h : (rateTab.take j).any (fun p => p.1 == n && p.2 == d) = false) (hx : (((rateTab.getD j (0, 0)).1 == n) && ((rateTab.getD j (0, 0)).2 == d)) = false) : (rateTab.take (j + 1)).any (fun p => p.1 == n && p.2 == d) = false := by
 rw [take_tab j hj, List.any_append, h]
 simpa using hx
theorem rateOk_hit {n d : Int} {j : Nat} (hj : j < 8) (hx : (((rateTab.getD j (0, 0)).1 == n) && ((rateTab.getD j (0, 0)).2 == d)) = true) : rateOk n d = true := by
 unfold rateOk
 rw [List.any_eq_true]
 have : ∀ j, j < 8 → rateTab.getD j (0, 0) ∈ rateTab := by decide
 exact ⟨_, this j hj, hx⟩
theorem rateOk_no {n d : Int} {j : Nat} (hj : 8 ≤ j) (h : (rateTab.take j).any (fun p => p.1 == n && p.2 == d) = false) : rateOk n d = false := by
 rw [List.take_of_length_le (show rateTab.length ≤ j from hj)] at h
 exact h
theorem laid_rates {w : World} (h : Laid w) : cellsAt w 0 0 [(.int .i64 24000), (.int .i64 1001), (.int .i64 24), (.int .i64 0), (.int .i64 24), (.int .i64 1), (.int .i64 24), (.int .i64 0), (.int .i64 25), (.int .i64 1), (.int .i64 25), (.int .i64 0), (.int .i64 30000), (.int .i64 1001), (.int .i64 30), (.int .i64 2), (.int .i64 30), (.int .i64 1), (.int .i64 30), (.int .i64 0), (.int .i64 50), (.int .i64 1), (.int .i64 50), (.int .i64 0), (.int .i64 60000), (.int .i64 1001), (.int .i64 60), (.int .i64 4), (.int .i64 60), (.int .i64 1), (.int .i64 60), (.int .i64 0)] := fun i x hx => by
 match i, hx with
 | 0, hx => cases hx; exact h.rates 0 (by omega)
 | 1, hx => cases hx; exact h.rates 1 (by omega)
 | 2, hx => cases hx; exact h.rates 2 (by omega)
 | 3, hx => cases hx; exact h.rates 3 (by omega)
 | 4, hx => cases hx; exact h.rates 4 (by omega)
 | 5, hx => cases hx; exact h.rates 5 (by omega)
 | 6, hx => cases hx; exact h.rates 6 (by omega)
 | 7, hx => cases hx; exact h.rates 7 (by omega)
 | 8, hx => cases hx; exact h.rates 8 (by omega)
 | 9, hx => cases hx; exact h.rates 9 (by omega)
 | 10, hx => cases hx; exact h.rates 10 (by omega)
 | 11, hx => cases hx; exact h.rates 11 (by omega)
 | 12, hx => cases hx; exact h.rates 12 (by omega)
 | 13, hx => cases hx; exact h.rates 13 (by omega)
 | 14, hx => cases hx; exact h.rates 14 (by omega)
 | 15, hx => cases hx; exact h.rates 15 (by omega)
 | 16, hx => cases hx; exact h.rates 16 (by omega)
 | 17, hx => cases hx; exact h.rates 17 (by omega)
 | 18, hx => cases hx; exact h.rates 18 (by omega)
 | 19, hx => cases hx; exact h.rates 19 (by omega)
 | 20, hx => cases hx; exact h.rates 20 (by omega)
 | 21, hx => cases hx; exact h.rates 21 (by omega)
 | 22, hx => cases hx; exact h.rates 22 (by omega)
 | 23, hx => cases hx; exact h.rates 23 (by omega)
 | 24, hx => cases hx; exact h.rates 24 (by omega)
 | 25, hx => cases hx; exact h.rates 25 (by omega)
 | 26, hx => cases hx; exact h.rates 26 (by omega)
 | 27, hx => cases hx; exact h.rates 27 (by omega)
 | 28, hx => cases hx; exact h.rates 28 (by omega)
 | 29, hx => cases hx; exact h.rates 29 (by omega)
 | 30, hx => cases hx; exact h.rates 30 (by omega)
 | 31, hx => cases hx; exact h.rates 31 (by omega)
 | i + 32, hx => simp at hx
theorem rate_cells {w : World} {b t j : Nat} (h : Box w b t [(.int .i64 24000), (.int .i64 1001), (.int .i64 24), (.int .i64 0), (.int .i64 24), (.int .i64 1), (.int .i64 24), (.int .i64 0), (.int .i64 25), (.int .i64 1), (.int .i64 25), (.int .i64 0), (.int .i64 30000), (.int .i64 1001), (.int .i64 30), (.int .i64 2), (.int .i64 30), (.int .i64 1), (.int .i64 30), (.int .i64 0), (.int .i64 50), (.int .i64 1), (.int .i64 50), (.int .i64 0), (.int .i64 60000), (.int .i64 1001), (.int .i64 60), (.int .i64 4), (.int .i64 60), (.int .i64 1), (.int .i64 60), (.int .i64 0)].toArray) (hj : j = 0 ∨ j = 1 ∨ j = 2 ∨ j = 3 ∨ j = 4 ∨ j = 5 ∨ j = 6 ∨ j = 7) : cellsAt w b (0 + j * 4) [.int .i64 (rateTab.getD j (0, 0)).1, .int .i64 (rateTab.getD j (0, 0)).2] := by
 refine cells2 ?_ ?_ <;> rcases hj with rfl | rfl | rfl | rfl | rfl | rfl | rfl | rfl <;> exact h.cell rfl
def encStr (l : List UInt8) : List UInt8 := encInt ((l.length : Nat) : Int) ++ l
/-- The string at a place, and the place behind it. -/
def rdStr (l : List UInt8) (k : Nat) : Option (List UInt8 × Nat) :=
 match rdInt l k with
 | none => none
 | some (n, e) => if n < 0 ∨ 65536 < n ∨ ((l.length : Nat) : Int) - ((e : Nat) : Int) < n then none else some ((l.drop e).take n.toNat, e + n.toNat)
def str3 : Option (List UInt8 × Nat) → Value
 | none => .tuple #[.string (bstr []), .int .i64 0, .int .i64 10]
 | some (t, e) => .tuple #[.string (bstr t), .int .i64 ((e : Nat) : Int), .int .i64 0]
set_option maxRecDepth 100000 in
set_option maxHeartbeats 4000000 in
theorem pick_any (c n : Int) (w : World) (hc : -9223372036854775808 ≤ c ∧ c ≤ 9223372036854775807) (hn : 0 < n) :
  Calls Tryd.prog 27 #[.int .i64 c, .int .i64 n] w fun e w' => e = .returned (.int .i64 (pickI c n)) ∧ w = w' := by
 have HP := Hp.start w
 refine w_enter 13 [(0, (.int .i64 c)), (1, (.int .i64 n))] Tryd.func27 rfl Tryd.ntmps27 (by kernel_rfl) (by kernel_rfl) fun a H => ?_
 refine wp_seq (w_region ?_)
 refine H.v 4 (.int .i64 0) fun a H => ?_
 refine wpList_nil (then_normal (wp_seq (wp_seq (w_region ?_))))
 refine H.v 5 (.int .i64 c) fun a H => ?_
 refine H.v 6 (.bool (decide (c < 0))) fun a H => ?_
 refine wpList_nil (then_normal ?_)
 refine w_if H rfl (fun g6 => ?_) (fun g6 => ?_)
 ·have g6p := of_decide_eq_true g6
  refine w_region ?_
  refine H.v 7 (.int .i64 c) fun a H => ?_
  refine H.valE 8 (.int .i64 (IntKind.i64.wrap (c + 1))) (.int .i64 (c + 1)) (by kernel_rfl) (by kernel_rfl) ((by rw [wrap_ini64 _ (by omega)])) fun a H => ?_
  refine H.valE 9 (.int .i64 (IntKind.i64.wrap (0 - (c + 1)))) (.int .i64 (-(c + 1))) (by kernel_rfl) (by kernel_rfl) ((by rw [Int.zero_sub, wrap_ini64 _ (by omega)])) fun a H => ?_
  refine H.v 0 (.int .i64 (-(c + 1))) fun a H => ?_
  refine wpList_nil (then_normal (wp_seq (w_region ?_)))
  refine H.v 10 (.int .i64 (-(c + 1))) fun a H => ?_
  refine H.v 11 (.int .i64 n) fun a H => ?_
  refine H.valE 12 (.int .i64 ((-(c + 1)).tmod n)) (.int .i64 ((-(c + 1)) % n)) (by kernel_rfl) (ex_rem (k := .i64) (by kernel_rfl) (by kernel_rfl) (by omega)) ((by rw [tmod_nn _ _ (by omega)])) fun a H => ?_
  refine H.v 4 (.int .i64 ((-(c + 1)) % n)) fun a H => ?_
  refine wpList_nil (then_normal (wp_ret ?_))
  refine H.ret1 (fn := Tryd.f27) Tryd.results27 (RV.tmp_ (v := (.int .i64 ((-(c + 1)) % n))) (by kernel_rfl)) ?_
  exact ⟨by unfold pickI; rw [if_pos (by omega)], rfl⟩
 ·have g6p := of_decide_eq_false g6
  refine wp_skip (then_normal (wp_seq (w_region ?_)))
  refine H.v 10 (.int .i64 c) fun a H => ?_
  refine H.v 11 (.int .i64 n) fun a H => ?_
  refine H.valE 12 (.int .i64 (c.tmod n)) (.int .i64 (c % n)) (by kernel_rfl) (ex_rem (k := .i64) (by kernel_rfl) (by kernel_rfl) (by omega)) ((by rw [tmod_nn _ _ (by omega)])) fun a H => ?_
  refine H.v 4 (.int .i64 (c % n)) fun a H => ?_
  refine wpList_nil (then_normal (wp_ret ?_))
  refine H.ret1 (fn := Tryd.f27) Tryd.results27 (RV.tmp_ (v := (.int .i64 (c % n))) (by kernel_rfl)) ?_
  exact ⟨by unfold pickI; rw [if_neg (by omega)], rfl⟩
set_option maxRecDepth 100000 in
set_option maxHeartbeats 4000000 in
theorem isFrame_any (fr : Int) (w : World) :
  Calls Tryd.prog 49 #[.int .i64 fr] w fun e w' => e = .returned (.bool (frameOk fr)) ∧ w = w' := by
 have HP := Hp.start w
 refine w_enter 9 [(0, (.int .i64 fr))] Tryd.func49 rfl Tryd.ntmps49 (by kernel_rfl) (by kernel_rfl) fun a H => ?_
 refine wp_seq (w_region ?_)
 refine H.v 2 (.bool false) fun a H => ?_
 refine wpList_nil (then_normal (wp_seq (w_region ?_)))
 refine H.v 3 (.int .i64 fr) fun a H => ?_
 refine H.v 4 (.bool (decide (fr ≥ 0))) fun a H => ?_
 refine H.v 5 (.bool (decide (fr ≥ 0))) fun a H => ?_
 refine H.split 5 rfl (fun g5 H => ?_) (fun g5 H => ?_)
 ·have g5p := of_decide_eq_true g5
  refine H.v 6 (.int .i64 fr) fun a H => ?_
  refine H.v 7 (.bool (decide (fr ≤ 100000000))) fun a H => ?_
  refine H.v 8 (.bool (decide (fr ≤ 100000000))) fun a H => ?_
  refine H.v 2 (.bool (decide (fr ≤ 100000000))) fun a H => ?_
  refine wpList_nil (then_normal (wp_ret ?_))
  refine H.ret1 (fn := Tryd.f49) Tryd.results49 (RV.tmp_ (v := (.bool (decide (fr ≤ 100000000)))) (by kernel_rfl)) ?_
  exact ⟨by unfold frameOk; simp; omega, rfl⟩
 ·have g5p := of_decide_eq_false g5
  refine H.s 6 fun a H => ?_
  refine H.s 7 fun a H => ?_
  refine H.v 8 (.bool false) fun a H => ?_
  refine H.v 2 (.bool false) fun a H => ?_
  refine wpList_nil (then_normal (wp_ret ?_))
  refine H.ret1 (fn := Tryd.f49) Tryd.results49 (RV.tmp_ (v := (.bool false)) (by kernel_rfl)) ?_
  exact ⟨by unfold frameOk; simp; omega, rfl⟩
set_option maxRecDepth 100000 in
set_option maxHeartbeats 4000000 in
theorem risFrame_any (fr : Int) (w : World) :
  Calls Tryd.prog 56 #[.int .i64 fr] w fun e w' => e = .returned (.bool (frameOk fr)) ∧ w = w' := by
 have HP := Hp.start w
 refine w_enter 9 [(0, (.int .i64 fr))] Tryd.func56 rfl Tryd.ntmps56 (by kernel_rfl) (by kernel_rfl) fun a H => ?_
 refine wp_seq (w_region ?_)
 refine H.v 2 (.bool false) fun a H => ?_
 refine wpList_nil (then_normal (wp_seq (w_region ?_)))
 refine H.v 3 (.int .i64 fr) fun a H => ?_
 refine H.v 4 (.bool (decide (fr ≥ 0))) fun a H => ?_
 refine H.v 5 (.bool (decide (fr ≥ 0))) fun a H => ?_
 refine H.split 5 rfl (fun g5 H => ?_) (fun g5 H => ?_)
 ·have g5p := of_decide_eq_true g5
  refine H.v 6 (.int .i64 fr) fun a H => ?_
  refine H.v 7 (.bool (decide (fr ≤ 100000000))) fun a H => ?_
  refine H.v 8 (.bool (decide (fr ≤ 100000000))) fun a H => ?_
  refine H.v 2 (.bool (decide (fr ≤ 100000000))) fun a H => ?_
  refine wpList_nil (then_normal (wp_ret ?_))
  refine H.ret1 (fn := Tryd.f56) Tryd.results56 (RV.tmp_ (v := (.bool (decide (fr ≤ 100000000)))) (by kernel_rfl)) ?_
  exact ⟨by unfold frameOk; simp; omega, rfl⟩
 ·have g5p := of_decide_eq_false g5
  refine H.s 6 fun a H => ?_
  refine H.s 7 fun a H => ?_
  refine H.v 8 (.bool false) fun a H => ?_
  refine H.v 2 (.bool false) fun a H => ?_
  refine wpList_nil (then_normal (wp_ret ?_))
  refine H.ret1 (fn := Tryd.f56) Tryd.results56 (RV.tmp_ (v := (.bool false)) (by kernel_rfl)) ?_
  exact ⟨by unfold frameOk; simp; omega, rfl⟩
set_option maxRecDepth 100000 in
set_option maxHeartbeats 4000000 in
theorem find_any (n d : Int) (w : World) (hL : Laid w) :
  Calls Tryd.prog 50 #[.agg #[.int .i64 n, .int .i64 d]] w fun e w' => ∃ i0 i1 i2 i3, e = .returned (.tuple #[.agg #[.int .i64 i0, .int .i64 i1, .int .i64 i2, .int .i64 i3], .bool (rateOk n d)]) ∧ Below w.heap.size w w' := by
 have HP := Hp.start w
 refine w_enter 17 [(0, (.agg #[(.int .i64 n), (.int .i64 d)]))] Tryd.func50 rfl Tryd.ntmps50 (by kernel_rfl) (by kernel_rfl) fun a H => ?_
 refine wp_seq (w_region ?_)
 refine H.alloc HP 1 (fun b => (.pointer (some ⟨b, 0, none⟩))) 23 [(.int .i64 n), (.int .i64 d)] (by kernel_rfl) (fun w => by kernel_rfl) fun b_1 w_2 a H HP => ?_
 refine H.alloc HP 2 (fun b => (.pointer (some ⟨b, 0, none⟩))) 91 [(.int .i64 0), (.int .i64 0), (.int .i64 0), (.int .i64 0)] (by kernel_rfl) (fun w => by kernel_rfl) fun b_3 w_4 a H HP => ?_
 refine H.v 3 (.bool false) fun a H => ?_
 refine wpList_nil (then_normal (wp_seq (wp_seq (w_region ?_))))
 refine H.u 6 (.agg #[(.int .i64 24000), (.int .i64 1001), (.int .i64 24), (.int .i64 0), (.int .i64 24), (.int .i64 1), (.int .i64 24), (.int .i64 0), (.int .i64 25), (.int .i64 1), (.int .i64 25), (.int .i64 0), (.int .i64 30000), (.int .i64 1001), (.int .i64 30), (.int .i64 2), (.int .i64 30), (.int .i64 1), (.int .i64 30), (.int .i64 0), (.int .i64 50), (.int .i64 1), (.int .i64 50), (.int .i64 0), (.int .i64 60000), (.int .i64 1001), (.int .i64 60), (.int .i64 4), (.int .i64 60), (.int .i64 1), (.int .i64 60), (.int .i64 0)]) (ex_loadN (vs := [(.int .i64 24000), (.int .i64 1001), (.int .i64 24), (.int .i64 0), (.int .i64 24), (.int .i64 1), (.int .i64 24), (.int .i64 0), (.int .i64 25), (.int .i64 1), (.int .i64 25), (.int .i64 0), (.int .i64 30000), (.int .i64 1001), (.int .i64 30), (.int .i64 2), (.int .i64 30), (.int .i64 1), (.int .i64 30), (.int .i64 0), (.int .i64 50), (.int .i64 1), (.int .i64 50), (.int .i64 0), (.int .i64 60000), (.int .i64 1001), (.int .i64 60), (.int .i64 4), (.int .i64 60), (.int .i64 1), (.int .i64 60), (.int .i64 0)]) (by kernel_rfl) (by kernel_rfl) (by kernel_rfl) rfl (laid_rates (hL.below (HP.below (by kernel_rfl))))) fun a H => ?_
 refine H.v 7 (.int .i64 0) fun a H => ?_
 refine wpList_nil (then_normal (wp_block ?_))
 refine w_loop (fun mm a wv => ∃ (j : Nat), 8 - j = mm ∧ Sl 17 [(7, (.int .i64 ((j : Nat) : Int))), (6, (.agg #[(.int .i64 24000), (.int .i64 1001), (.int .i64 24), (.int .i64 0), (.int .i64 24), (.int .i64 1), (.int .i64 24), (.int .i64 0), (.int .i64 25), (.int .i64 1), (.int .i64 25), (.int .i64 0), (.int .i64 30000), (.int .i64 1001), (.int .i64 30), (.int .i64 2), (.int .i64 30), (.int .i64 1), (.int .i64 30), (.int .i64 0), (.int .i64 50), (.int .i64 1), (.int .i64 50), (.int .i64 0), (.int .i64 60000), (.int .i64 1001), (.int .i64 60), (.int .i64 4), (.int .i64 60), (.int .i64 1), (.int .i64 60), (.int .i64 0)])), (1, (.pointer (some ⟨b_1, 0, none⟩))), (2, (.pointer (some ⟨b_3, 0, none⟩))), (3, (.bool false))] a ∧ Hp w wv [bx b_3 91 [(.int .i64 0), (.int .i64 0), (.int .i64 0), (.int .i64 0)] true, bx b_1 23 [(.int .i64 n), (.int .i64 d)] true] [] ∧ (j ≤ 8) ∧ ((rateTab.take j).any (fun p => p.1 == n && p.2 == d) = false)) (8 - 0) ?_ ?_
 ·exact ⟨0, (by omega), H.keep (by kernel_rfl), HP, by omega, rfl⟩
 rintro mm a w_5 ⟨j, hmeas, H, HP, hj, hno⟩
 refine wp_seq (w_region ?_)
 refine H.v 8 (.bool (decide (((j : Nat) : Int) < 8))) fun a H => ?_
 refine wpList_nil (then_normal (wp_seq ?_))
 refine w_if H rfl (fun g8 => ?_) (fun g8 => ?_)
 ·have g8p := of_decide_eq_true g8
  refine wp_skip (then_normal (wp_seq (wp_block (wp_seq ?_))))
  have hj8 : j = 0 ∨ j = 1 ∨ j = 2 ∨ j = 3 ∨ j = 4 ∨ j = 5 ∨ j = 6 ∨ j = 7 := by omega
  refine w_region ?_
  refine H.u 9 (.agg #[(.int .i64 ((rateTab.getD j (0, 0)).1)), (.int .i64 ((rateTab.getD j (0, 0)).2)), (.int .i64 ((rateBase.getD j (0, 0)).1)), (.int .i64 ((rateBase.getD j (0, 0)).2))]) ((by rcases hj8 with rfl | rfl | rfl | rfl | rfl | rfl | rfl | rfl <;> kernel_rfl)) fun a H => ?_
  refine H.alloc HP 5 (fun b => (.pointer (some ⟨b, 0, none⟩))) 91 [(.int .i64 0), (.int .i64 0), (.int .i64 0), (.int .i64 0)] (by kernel_rfl) (fun w => by kernel_rfl) fun b_6 w_7 a H HP => ?_
  refine H.store HP 0 b_6 0 4 91 _ true (.agg #[(.int .i64 ((rateTab.getD j (0, 0)).1)), (.int .i64 ((rateTab.getD j (0, 0)).2)), (.int .i64 ((rateBase.getD j (0, 0)).1)), (.int .i64 ((rateBase.getD j (0, 0)).2))]) [bx b_6 91 [(.int .i64 ((rateTab.getD j (0, 0)).1)), (.int .i64 ((rateTab.getD j (0, 0)).2)), (.int .i64 ((rateBase.getD j (0, 0)).1)), (.int .i64 ((rateBase.getD j (0, 0)).2))] true, bx b_3 91 [(.int .i64 0), (.int .i64 0), (.int .i64 0), (.int .i64 0)] true, bx b_1 23 [(.int .i64 n), (.int .i64 d)] true] (by kernel_rfl) (by kernel_rfl) (by kernel_rfl) rfl (by kernel_rfl) (by kernel_rfl) (by kernel_rfl) (by kernel_rfl) (by kernel_rfl) fun w_8 a H HP => ?_
  refine wpList_nil (then_normal (wp_seq (w_region ?_)))
  refine H.v 10 (.pointer (some ⟨b_6, 0, none⟩)) fun a H => ?_
  refine H.u 11 (.agg #[(.int .i64 ((rateTab.getD j (0, 0)).1)), (.int .i64 ((rateTab.getD j (0, 0)).2))]) (ex_loadN (vs := [(.int .i64 ((rateTab.getD j (0, 0)).1)), (.int .i64 ((rateTab.getD j (0, 0)).2))]) (by kernel_rfl) (by kernel_rfl) (by kernel_rfl) rfl (HP.cells 0 rfl 0 2 (by kernel_rfl))) fun a H => ?_
  refine H.u 12 (.agg #[(.int .i64 n), (.int .i64 d)]) (ex_loadN (vs := [(.int .i64 n), (.int .i64 d)]) (by kernel_rfl) (by kernel_rfl) (by kernel_rfl) rfl (HP.cells 2 rfl 0 2 (by kernel_rfl))) fun a H => ?_
  refine H.u 13 (.bool ((((rateTab.getD j (0, 0)).1) == n) && (((rateTab.getD j (0, 0)).2) == d))) (ex_eq2 (a0 := ((rateTab.getD j (0, 0)).1)) (a1 := ((rateTab.getD j (0, 0)).2)) (b0 := n) (b1 := d) (by kernel_rfl) (by kernel_rfl)) fun a H => ?_
  refine wpList_nil (then_normal ?_)
  refine w_if H rfl (fun g13 => ?_) (fun g13 => ?_)
  ·have g13p := g13
   refine wp_seq (w_region ?_)
   refine H.u 14 (.agg #[(.int .i64 ((rateTab.getD j (0, 0)).1)), (.int .i64 ((rateTab.getD j (0, 0)).2)), (.int .i64 ((rateBase.getD j (0, 0)).1)), (.int .i64 ((rateBase.getD j (0, 0)).2))]) (ex_loadN (vs := [(.int .i64 ((rateTab.getD j (0, 0)).1)), (.int .i64 ((rateTab.getD j (0, 0)).2)), (.int .i64 ((rateBase.getD j (0, 0)).1)), (.int .i64 ((rateBase.getD j (0, 0)).2))]) (by kernel_rfl) (by kernel_rfl) (by kernel_rfl) rfl (HP.cells 0 rfl 0 4 (by kernel_rfl))) fun a H => ?_
   refine H.store HP 1 b_3 0 4 91 _ true (.agg #[(.int .i64 ((rateTab.getD j (0, 0)).1)), (.int .i64 ((rateTab.getD j (0, 0)).2)), (.int .i64 ((rateBase.getD j (0, 0)).1)), (.int .i64 ((rateBase.getD j (0, 0)).2))]) [bx b_6 91 [(.int .i64 ((rateTab.getD j (0, 0)).1)), (.int .i64 ((rateTab.getD j (0, 0)).2)), (.int .i64 ((rateBase.getD j (0, 0)).1)), (.int .i64 ((rateBase.getD j (0, 0)).2))] true, bx b_3 91 [(.int .i64 ((rateTab.getD j (0, 0)).1)), (.int .i64 ((rateTab.getD j (0, 0)).2)), (.int .i64 ((rateBase.getD j (0, 0)).1)), (.int .i64 ((rateBase.getD j (0, 0)).2))] true, bx b_1 23 [(.int .i64 n), (.int .i64 d)] true] (by kernel_rfl) (by kernel_rfl) (by kernel_rfl) rfl (by kernel_rfl) (by kernel_rfl) (by kernel_rfl) (by kernel_rfl) (by kernel_rfl) fun w_9 a H HP => ?_
   refine H.v 3 (.bool true) fun a H => ?_
   refine wpList_nil (then_normal (wp_ret (inb_ret (then_ret (then_ret (inb_ret (then_ret ?_)))))))
   refine H.ret2 (fn := Tryd.f50) Tryd.results50 (RV.cellN (vs := [(.int .i64 ((rateTab.getD j (0, 0)).1)), (.int .i64 ((rateTab.getD j (0, 0)).2)), (.int .i64 ((rateBase.getD j (0, 0)).1)), (.int .i64 ((rateBase.getD j (0, 0)).2))]) (b := b_3) (off := 0) (k := 4) (by kernel_rfl) (by kernel_rfl) (by kernel_rfl) rfl (HP.cells 1 rfl 0 4 (by kernel_rfl))) (RV.tmp_ (v := (.bool true)) (by kernel_rfl)) ?_
   exact ⟨_, _, _, _, by rw [rateOk_hit (j := j) (by omega) g13], (HP.below (by kernel_rfl))⟩
  ·have g13p := g13
   refine wp_skip (inb_normal (then_normal (w_region ?_)))
   refine H.valE 15 (.int .i64 (IntKind.i64.wrap (((j : Nat) : Int) + 1))) (.int .i64 (((j : Nat) : Int) + 1)) (by kernel_rfl) (by kernel_rfl) ((by rw [wrap_ini64 _ (by omega)])) fun a H => ?_
   refine H.v 7 (.int .i64 (((j : Nat) : Int) + 1)) fun a H => ?_
   refine wpList_nil (then_normal ?_)
   have H := H.as 7 (.int .i64 ((j + 1 : Nat) : Int)) rfl rfl
   refine ⟨_, ?_, j + 1, rfl, H.keep (by kernel_rfl), (HP.tail rfl), by omega, any_snoc (by omega) hno g13⟩
   omega
 ·have g8p := of_decide_eq_false g8
  refine wp_exit (then_exit (then_exit ?_))
  refine w_exit_here ?_
  refine then_normal (wp_seq (w_region ?_))
  refine H.v 16 (.agg #[(.int .i64 0), (.int .i64 0), (.int .i64 0), (.int .i64 0)]) fun a H => ?_
  refine H.store HP 0 b_3 0 4 91 _ true (.agg #[(.int .i64 0), (.int .i64 0), (.int .i64 0), (.int .i64 0)]) [bx b_3 91 [(.int .i64 0), (.int .i64 0), (.int .i64 0), (.int .i64 0)] true, bx b_1 23 [(.int .i64 n), (.int .i64 d)] true] (by kernel_rfl) (by kernel_rfl) (by kernel_rfl) rfl (by kernel_rfl) (by kernel_rfl) (by kernel_rfl) (by kernel_rfl) (by kernel_rfl) fun w_10 a H HP => ?_
  refine H.v 3 (.bool false) fun a H => ?_
  refine wpList_nil (then_normal (wp_ret ?_))
  refine H.ret2 (fn := Tryd.f50) Tryd.results50 (RV.cellN (vs := [(.int .i64 0), (.int .i64 0), (.int .i64 0), (.int .i64 0)]) (b := b_3) (off := 0) (k := 4) (by kernel_rfl) (by kernel_rfl) (by kernel_rfl) rfl (HP.cells 0 rfl 0 4 (by kernel_rfl))) (RV.tmp_ (v := (.bool false)) (by kernel_rfl)) ?_
  exact ⟨_, _, _, _, by rw [rateOk_no (j := j) (by omega) hno], (HP.below (by kernel_rfl))⟩
set_option maxRecDepth 100000 in
set_option maxHeartbeats 4000000 in
theorem tvalid_any (n d : Int) (w : World) (hL : Laid w) :
  Calls Tryd.prog 29 #[.agg #[.int .i64 n, .int .i64 d]] w fun e w' => e = .returned (.bool (rateOk n d)) ∧ Below w.heap.size w w' := by
 have HP := Hp.start w
 refine w_enter 11 [(0, (.agg #[(.int .i64 n), (.int .i64 d)]))] Tryd.func29 rfl Tryd.ntmps29 (by kernel_rfl) (by kernel_rfl) fun a H => ?_
 refine wp_seq (w_region ?_)
 refine H.alloc HP 1 (fun b => (.pointer (some ⟨b, 0, none⟩))) 23 [(.int .i64 n), (.int .i64 d)] (by kernel_rfl) (fun w => by kernel_rfl) fun b_1 w_2 a H HP => ?_
 refine H.v 2 (.bool false) fun a H => ?_
 refine wpList_nil (then_normal (wp_seq (w_region ?_)))
 refine H.u 6 (.agg #[(.int .i64 n), (.int .i64 d)]) (ex_loadN (vs := [(.int .i64 n), (.int .i64 d)]) (by kernel_rfl) (by kernel_rfl) (by kernel_rfl) rfl (HP.cells 0 rfl 0 2 (by kernel_rfl))) fun a H => ?_
 refine H.call 7 (by kernel_rfl) (Eq.trans (by kernel_rfl : _ = (callFunc 50 #[(.agg #[(.int .i64 n), (.int .i64 d)])]).run Tryd.prog w_2) (Tryd.call50 _ _)) (find_any n d w_2 (hL.below (HP.below (by kernel_rfl)))) ?_
 rintro e w_3 ⟨i0, i1, i2, i3, rfl, hb⟩
 refine ⟨_, rfl, ?_⟩
 intro a H
 have HP := HP.next hb
 refine H.v 5 (.tuple #[(.agg #[(.int .i64 i0), (.int .i64 i1), (.int .i64 i2), (.int .i64 i3)]), (.bool (rateOk n d))]) fun a H => ?_
 refine H.v 8 (.agg #[(.int .i64 i0), (.int .i64 i1), (.int .i64 i2), (.int .i64 i3)]) fun a H => ?_
 refine H.v 9 (.bool (rateOk n d)) fun a H => ?_
 refine H.alloc HP 3 (fun b => (.pointer (some ⟨b, 0, none⟩))) 91 [(.int .i64 0), (.int .i64 0), (.int .i64 0), (.int .i64 0)] (by kernel_rfl) (fun w => by kernel_rfl) fun b_4 w_5 a H HP => ?_
 refine H.store HP 0 b_4 0 4 91 _ true (.agg #[(.int .i64 i0), (.int .i64 i1), (.int .i64 i2), (.int .i64 i3)]) [bx b_4 91 [(.int .i64 i0), (.int .i64 i1), (.int .i64 i2), (.int .i64 i3)] true, bx b_1 23 [(.int .i64 n), (.int .i64 d)] true] (by kernel_rfl) (by kernel_rfl) (by kernel_rfl) rfl (by kernel_rfl) (by kernel_rfl) (by kernel_rfl) (by kernel_rfl) (by kernel_rfl) fun w_6 a H HP => ?_
 refine H.v 4 (.bool (rateOk n d)) fun a H => ?_
 refine wpList_nil (then_normal (wp_seq (w_region ?_)))
 refine H.v 10 (.bool (rateOk n d)) fun a H => ?_
 refine H.v 2 (.bool (rateOk n d)) fun a H => ?_
 refine wpList_nil (then_normal (wp_ret ?_))
 refine H.ret1 (fn := Tryd.f29) Tryd.results29 (RV.tmp_ (v := (.bool (rateOk n d))) (by kernel_rfl)) ?_
 exact ⟨rfl, (HP.below (by kernel_rfl))⟩
set_option maxRecDepth 100000 in
set_option maxHeartbeats 4000000 in
theorem ticks_any (n d fr : Int) (w : World) (hL : Laid w) (hv : rateOk n d = true) (hf : 0 ≤ fr ∧ fr ≤ 100000000) :
  Calls Tryd.prog 26 #[.agg #[.int .i64 n, .int .i64 d], .int .i64 fr] w fun e w' => e = .returned (.int .i64 (ticksP n d fr)) ∧ Below w.heap.size w w' := by
 have HP := Hp.start w
 refine w_enter 22 [(0, (.agg #[(.int .i64 n), (.int .i64 d)])), (1, (.int .i64 fr))] Tryd.func26 rfl Tryd.ntmps26 (by kernel_rfl) (by kernel_rfl) fun a H => ?_
 refine wp_seq (w_region ?_)
 refine H.alloc HP 2 (fun b => (.pointer (some ⟨b, 0, none⟩))) 23 [(.int .i64 n), (.int .i64 d)] (by kernel_rfl) (fun w => by kernel_rfl) fun b_1 w_2 a H HP => ?_
 refine H.v 4 (.int .i64 0) fun a H => ?_
 refine wpList_nil (then_normal (wp_seq (wp_seq (w_region ?_))))
 refine H.u 5 (.agg #[(.int .i64 n), (.int .i64 d)]) (ex_loadN (vs := [(.int .i64 n), (.int .i64 d)]) (by kernel_rfl) (by kernel_rfl) (by kernel_rfl) rfl (HP.cells 0 rfl 0 2 (by kernel_rfl))) fun a H => ?_
 refine H.call 6 (by kernel_rfl) (Eq.trans (by kernel_rfl : _ = (callFunc 29 #[(.agg #[(.int .i64 n), (.int .i64 d)])]).run Tryd.prog w_2) (Tryd.call29 _ _)) ((by have hh := tvalid_any n d w_2 (hL.below (HP.below (by kernel_rfl))); rw [hv] at hh; exact hh)) ?_
 rintro e w_3 ⟨rfl, hb⟩
 refine ⟨_, rfl, ?_⟩
 intro a H
 have HP := HP.next hb
 refine H.v 7 (.bool false) fun a H => ?_
 refine H.v 8 (.bool false) fun a H => ?_
 refine H.v 9 (.int .i64 fr) fun a H => ?_
 refine H.call 10 (by kernel_rfl) (Eq.trans (by kernel_rfl : _ = (callFunc 49 #[(.int .i64 fr)]).run Tryd.prog w_3) (Tryd.call49 _ _)) ((by have hh := isFrame_any fr w_3; rw [frameOk_of hf] at hh; exact hh)) ?_
 rintro e w_4 ⟨rfl, hw⟩
 refine ⟨_, rfl, ?_⟩
 intro a H
 have HP := hw ▸ HP
 refine H.v 11 (.bool false) fun a H => ?_
 refine H.v 12 (.bool false) fun a H => ?_
 refine wpList_nil (then_normal ?_)
 refine w_iff H rfl ?_
 refine wp_skip (then_normal (wp_seq ?_))
 obtain ⟨rn1, rn2, rd1, rd2⟩ := rateOk_bd hv
 have hm1 : 0 ≤ fr * 90000 * d := Int.mul_nonneg (by omega) (by omega)
 have hm2 : fr * 90000 * d ≤ 9000000000000 * 1001 := Int.mul_le_mul (by omega) (by omega) (by omega) (by omega)
 have hm3 : 0 ≤ fr * 90000 * d / n := Int.ediv_nonneg hm1 (by omega)
 have hm4 : fr * 90000 * d / n ≤ fr * 90000 * d := Int.ediv_le_self _ hm1
 refine w_region ?_
 refine H.v 13 (.int .i64 fr) fun a H => ?_
 refine H.valE 14 (.int .i64 (IntKind.i64.wrap (fr * 90000))) (.int .i64 (fr * 90000)) (by kernel_rfl) (by kernel_rfl) ((by rw [wrap_ini64 _ (by omega)])) fun a H => ?_
 refine H.v 15 (.pointer (some ⟨b_1, 1, none⟩)) fun a H => ?_
 refine H.u 16 (.int .i64 d) (ex_load1 (by kernel_rfl) (by kernel_rfl) (HP.cell 0 rfl 1 rfl)) fun a H => ?_
 refine H.valE 17 (.int .i64 (IntKind.i64.wrap ((fr * 90000) * d))) (.int .i64 (fr * 90000 * d)) (by kernel_rfl) (by kernel_rfl) ((by rw [wrap_ini64 _ (by omega)])) fun a H => ?_
 refine H.v 18 (.pointer (some ⟨b_1, 0, none⟩)) fun a H => ?_
 refine H.u 19 (.int .i64 n) (ex_load1 (by kernel_rfl) (by kernel_rfl) (HP.cell 0 rfl 0 rfl)) fun a H => ?_
 refine H.valE 20 (.int .i64 (IntKind.i64.wrap ((fr * 90000 * d).tdiv n))) (.int .i64 (fr * 90000 * d / n)) (by kernel_rfl) (ex_quo (k := .i64) (by kernel_rfl) (by kernel_rfl) (by omega)) ((congrArg (Value.int .i64) (by rw [tdiv_nn _ _ (by omega), wrap_ini64 _ (by omega)]))) fun a H => ?_
 refine H.valE 21 (.int .i64 ((fr * 90000 * d / n).tmod 8589934592)) (.int .i64 ((fr * 90000 * d / n) % 8589934592)) (by kernel_rfl) (by kernel_rfl) ((by rw [tmod_nn _ _ (by omega)])) fun a H => ?_
 refine H.v 4 (.int .i64 ((fr * 90000 * d / n) % 8589934592)) fun a H => ?_
 refine wpList_nil (then_normal (wp_ret ?_))
 refine H.ret1 (fn := Tryd.f26) Tryd.results26 (RV.tmp_ (v := (.int .i64 ((fr * 90000 * d / n) % 8589934592))) (by kernel_rfl)) ?_
 exact ⟨rfl, (HP.below (by kernel_rfl))⟩
set_option maxRecDepth 100000 in
set_option maxHeartbeats 4000000 in
theorem table_any (w : World) :
  Calls Tryd.prog 28 #[] w fun e w' => ∃ b, e = .returned (.slice (some ⟨b, 0, none⟩) 8 8) ∧ w.heap.size ≤ b ∧ Box w' b 53 [(.int .i64 24000), (.int .i64 1001), (.int .i64 24), (.int .i64 0), (.int .i64 24), (.int .i64 1), (.int .i64 24), (.int .i64 0), (.int .i64 25), (.int .i64 1), (.int .i64 25), (.int .i64 0), (.int .i64 30000), (.int .i64 1001), (.int .i64 30), (.int .i64 2), (.int .i64 30), (.int .i64 1), (.int .i64 30), (.int .i64 0), (.int .i64 50), (.int .i64 1), (.int .i64 50), (.int .i64 0), (.int .i64 60000), (.int .i64 1001), (.int .i64 60), (.int .i64 4), (.int .i64 60), (.int .i64 1), (.int .i64 60), (.int .i64 0)].toArray ∧ Below w.heap.size w w' := by
 have HP := Hp.start w
 refine w_enter 18 [] Tryd.func28 rfl Tryd.ntmps28 (by kernel_rfl) (by kernel_rfl) fun a H => ?_
 refine wp_seq (w_region ?_)
 refine H.v 0 (.slice none 0 0) fun a H => ?_
 refine wpList_nil (then_normal (wp_seq (w_region ?_)))
 refine H.v 1 (.agg #[(.int .i64 24000), (.int .i64 1001)]) fun a H => ?_
 refine H.v 2 (.agg #[(.int .i64 24000), (.int .i64 1001), (.int .i64 24), (.int .i64 0)]) fun a H => ?_
 refine H.v 3 (.agg #[(.int .i64 24), (.int .i64 1)]) fun a H => ?_
 refine H.v 4 (.agg #[(.int .i64 24), (.int .i64 1), (.int .i64 24), (.int .i64 0)]) fun a H => ?_
 refine H.v 5 (.agg #[(.int .i64 25), (.int .i64 1)]) fun a H => ?_
 refine H.v 6 (.agg #[(.int .i64 25), (.int .i64 1), (.int .i64 25), (.int .i64 0)]) fun a H => ?_
 refine H.v 7 (.agg #[(.int .i64 30000), (.int .i64 1001)]) fun a H => ?_
 refine H.v 8 (.agg #[(.int .i64 30000), (.int .i64 1001), (.int .i64 30), (.int .i64 2)]) fun a H => ?_
 refine H.v 9 (.agg #[(.int .i64 30), (.int .i64 1)]) fun a H => ?_
 refine H.v 10 (.agg #[(.int .i64 30), (.int .i64 1), (.int .i64 30), (.int .i64 0)]) fun a H => ?_
 refine H.v 11 (.agg #[(.int .i64 50), (.int .i64 1)]) fun a H => ?_
 refine H.v 12 (.agg #[(.int .i64 50), (.int .i64 1), (.int .i64 50), (.int .i64 0)]) fun a H => ?_
 refine H.v 13 (.agg #[(.int .i64 60000), (.int .i64 1001)]) fun a H => ?_
 refine H.v 14 (.agg #[(.int .i64 60000), (.int .i64 1001), (.int .i64 60), (.int .i64 4)]) fun a H => ?_
 refine H.v 15 (.agg #[(.int .i64 60), (.int .i64 1)]) fun a H => ?_
 refine H.v 16 (.agg #[(.int .i64 60), (.int .i64 1), (.int .i64 60), (.int .i64 0)]) fun a H => ?_
 refine H.alloc HP 17 (fun b => (.slice (some ⟨b, 0, none⟩) 8 8)) 53 [(.int .i64 24000), (.int .i64 1001), (.int .i64 24), (.int .i64 0), (.int .i64 24), (.int .i64 1), (.int .i64 24), (.int .i64 0), (.int .i64 25), (.int .i64 1), (.int .i64 25), (.int .i64 0), (.int .i64 30000), (.int .i64 1001), (.int .i64 30), (.int .i64 2), (.int .i64 30), (.int .i64 1), (.int .i64 30), (.int .i64 0), (.int .i64 50), (.int .i64 1), (.int .i64 50), (.int .i64 0), (.int .i64 60000), (.int .i64 1001), (.int .i64 60), (.int .i64 4), (.int .i64 60), (.int .i64 1), (.int .i64 60), (.int .i64 0)] (by kernel_rfl) (fun w => by kernel_rfl) fun b_1 w_2 a H HP => ?_
 refine H.v 0 (.slice (some ⟨b_1, 0, none⟩) 8 8) fun a H => ?_
 refine wpList_nil ?_
 have H := H.keep (L' := [(0, (.slice (some ⟨b_1, 0, none⟩) 8 8)), (4, (.agg #[(.int .i64 24), (.int .i64 1), (.int .i64 24), (.int .i64 0)])), (3, (.agg #[(.int .i64 24), (.int .i64 1)])), (2, (.agg #[(.int .i64 24000), (.int .i64 1001), (.int .i64 24), (.int .i64 0)])), (1, (.agg #[(.int .i64 24000), (.int .i64 1001)]))]) (by kernel_rfl)
 refine then_normal (wp_ret ?_)
 refine H.ret1 (fn := Tryd.f28) Tryd.results28 (RV.tmp_ (v := (.slice (some ⟨b_1, 0, none⟩) 8 8)) (by kernel_rfl)) ?_
 exact ⟨b_1, rfl, HP.fresh _ (List.mem_of_getElem? (i := 0) rfl) rfl _ rfl, HP.at_ 0 rfl, (HP.below (by kernel_rfl))⟩
set_option maxRecDepth 100000 in
set_option maxHeartbeats 4000000 in
theorem rate_any (c : Int) (w : World) (hc : -9223372036854775808 ≤ c ∧ c ≤ 9223372036854775807) :
  Calls Tryd.prog 14 #[.int .i64 c] w fun e w' => e = .returned (.agg #[.int .i64 (rateP c).1, .int .i64 (rateP c).2]) ∧ Below w.heap.size w w' := by
 have HP := Hp.start w
 refine w_enter 9 [(0, (.int .i64 c))] Tryd.func14 rfl Tryd.ntmps14 (by kernel_rfl) (by kernel_rfl) fun a H => ?_
 refine wp_seq (w_region ?_)
 refine H.alloc HP 2 (fun b => (.pointer (some ⟨b, 0, none⟩))) 23 [(.int .i64 0), (.int .i64 0)] (by kernel_rfl) (fun w => by kernel_rfl) fun b_1 w_2 a H HP => ?_
 refine wpList_nil (then_normal (wp_seq (w_region ?_)))
 refine H.call 3 (by kernel_rfl) (Eq.trans (by kernel_rfl : _ = (callFunc 28 #[]).run Tryd.prog w_2) (Tryd.call28 _ _)) (table_any w_2) ?_
 rintro e w_3 ⟨bt, rfl, hbt, hbx, hb⟩
 refine ⟨_, rfl, ?_⟩
 intro a H
 have HP := HP.gain hb (bx bt 53 [(.int .i64 24000), (.int .i64 1001), (.int .i64 24), (.int .i64 0), (.int .i64 24), (.int .i64 1), (.int .i64 24), (.int .i64 0), (.int .i64 25), (.int .i64 1), (.int .i64 25), (.int .i64 0), (.int .i64 30000), (.int .i64 1001), (.int .i64 30), (.int .i64 2), (.int .i64 30), (.int .i64 1), (.int .i64 30), (.int .i64 0), (.int .i64 50), (.int .i64 1), (.int .i64 50), (.int .i64 0), (.int .i64 60000), (.int .i64 1001), (.int .i64 60), (.int .i64 4), (.int .i64 60), (.int .i64 1), (.int .i64 60), (.int .i64 0)] true) hbx (bx_ok _ _ _ _) (fun k hk => by cases hk; exact hbx.lt) (fun k hk => by cases hk; exact hbt)
 refine H.v 4 (.int .i64 c) fun a H => ?_
 refine H.call 5 (by kernel_rfl) (Eq.trans (by kernel_rfl : _ = (callFunc 27 #[(.int .i64 c), (.int .i64 8)]).run Tryd.prog w_3) (Tryd.call27 _ _)) (pick_any c 8 w_3 hc (by omega)) ?_
 rintro e w_4 ⟨rfl, hw⟩
 refine ⟨_, rfl, ?_⟩
 intro a H
 have HP := hw ▸ HP
 have hpk := pickI_lt c 8 (by omega)
 obtain ⟨j, hjp⟩ : ∃ j : Nat, pickI c 8 = j := ⟨(pickI c 8).toNat, by omega⟩
 have hj8 : j = 0 ∨ j = 1 ∨ j = 2 ∨ j = 3 ∨ j = 4 ∨ j = 5 ∨ j = 6 ∨ j = 7 := by omega
 rw [hjp] at H
 refine H.u 6 (.pointer (some ⟨bt, 0 + j * 4, none⟩)) (ex_index (b := bt) (off := 0) (len := 8) (cap := 8) (e := 53) (k := 4) (ik := .i64) (i := ((j : Nat) : Int)) (m := j) (by kernel_rfl) (by kernel_rfl) (by omega) (by omega) (by kernel_rfl) (by kernel_rfl)) fun a H => ?_
 refine H.v 7 (.pointer (some ⟨bt, 0 + j * 4, none⟩)) fun a H => ?_
 refine H.u 8 (.agg #[(.int .i64 ((rateTab.getD j (0, 0)).1)), (.int .i64 ((rateTab.getD j (0, 0)).2))]) (ex_loadN (vs := [.int .i64 (rateTab.getD j (0, 0)).1, .int .i64 (rateTab.getD j (0, 0)).2]) (by kernel_rfl) (by kernel_rfl) (by kernel_rfl) rfl (rate_cells (HP.at_ 0 rfl) hj8)) fun a H => ?_
 refine H.store HP 1 b_1 0 2 23 _ true (.agg #[(.int .i64 ((rateTab.getD j (0, 0)).1)), (.int .i64 ((rateTab.getD j (0, 0)).2))]) [bx bt 53 [(.int .i64 24000), (.int .i64 1001), (.int .i64 24), (.int .i64 0), (.int .i64 24), (.int .i64 1), (.int .i64 24), (.int .i64 0), (.int .i64 25), (.int .i64 1), (.int .i64 25), (.int .i64 0), (.int .i64 30000), (.int .i64 1001), (.int .i64 30), (.int .i64 2), (.int .i64 30), (.int .i64 1), (.int .i64 30), (.int .i64 0), (.int .i64 50), (.int .i64 1), (.int .i64 50), (.int .i64 0), (.int .i64 60000), (.int .i64 1001), (.int .i64 60), (.int .i64 4), (.int .i64 60), (.int .i64 1), (.int .i64 60), (.int .i64 0)] true, bx b_1 23 [(.int .i64 ((rateTab.getD j (0, 0)).1)), (.int .i64 ((rateTab.getD j (0, 0)).2))] true] (by kernel_rfl) (by kernel_rfl) (by kernel_rfl) rfl (by kernel_rfl) (by kernel_rfl) (by kernel_rfl) (by kernel_rfl) (by kernel_rfl) fun w_5 a H HP => ?_
 refine wpList_nil (then_normal (wp_ret ?_))
 refine H.ret1 (fn := Tryd.f14) Tryd.results14 (RV.cellN (vs := [(.int .i64 ((rateTab.getD j (0, 0)).1)), (.int .i64 ((rateTab.getD j (0, 0)).2))]) (b := b_1) (off := 0) (k := 2) (by kernel_rfl) (by kernel_rfl) (by kernel_rfl) rfl (HP.cells 1 rfl 0 2 (by kernel_rfl))) ?_
 exact ⟨by rw [rateP_eq hjp], (HP.below (by kernel_rfl))⟩
set_option maxRecDepth 100000 in
set_option maxHeartbeats 4000000 in
theorem putString_any (l : List UInt8) (w : World) (hl : l.length ≤ 65536) :
  Calls Tryd.prog 75 #[.string (bstr l)] w fun e w' => e = .returned (.tuple #[.string (bstr (encStr l)), .int .i64 0]) ∧ Below w.heap.size w w' := by
 have HP := Hp.start w
 refine w_enter 21 [(0, (.string (bstr l)))] Tryd.func75 rfl Tryd.ntmps75 (by kernel_rfl) (by kernel_rfl) fun a H => ?_
 refine wp_seq (w_region ?_)
 refine H.v 2 (.string (bstr ([]))) fun a H => ?_
 refine H.v 3 (.int .i64 0) fun a H => ?_
 refine wpList_nil (then_normal (wp_seq (wp_seq (w_region ?_))))
 refine H.v 6 (.string (bstr l)) fun a H => ?_
 refine H.v 7 (.int .i64 ((l.length : Nat) : Int)) fun a H => ?_
 refine H.v 8 (.bool (decide (((l.length : Nat) : Int) > 65536))) fun a H => ?_
 refine wpList_nil (then_normal ?_)
 refine w_if H rfl (fun g8 => ?_) (fun g8 => ?_)
 ·have g8p := of_decide_eq_true g8
  exfalso; omega
 ·have g8p := of_decide_eq_false g8
  refine wp_skip (then_normal (wp_seq (w_region ?_)))
  refine H.v 10 (.string (bstr l)) fun a H => ?_
  refine H.v 11 (.int .i64 ((l.length : Nat) : Int)) fun a H => ?_
  refine H.call 12 (by kernel_rfl) (Eq.trans (by kernel_rfl : _ = (callFunc 73 #[(.int .i64 ((l.length : Nat) : Int))]).run Tryd.prog w) (Tryd.call73 _ _)) (putInt_any ((l.length : Nat) : Int) w (by unfold wmax; omega) (by unfold wmax; omega)) ?_
  rintro e w_1 ⟨rfl, hb⟩
  refine ⟨_, rfl, ?_⟩
  intro a H
  have HP := HP.next hb
  refine H.v 9 (.tuple #[(.string (bstr (encInt ((l.length : Nat) : Int)))), (.int .i64 0)]) fun a H => ?_
  refine H.v 13 (.string (bstr (encInt ((l.length : Nat) : Int)))) fun a H => ?_
  refine H.v 14 (.int .i64 0) fun a H => ?_
  refine H.v 4 (.string (bstr (encInt ((l.length : Nat) : Int)))) fun a H => ?_
  refine H.v 5 (.int .i64 0) fun a H => ?_
  refine wpList_nil (then_normal (wp_seq (wp_seq (w_region ?_))))
  refine H.v 15 (.int .i64 0) fun a H => ?_
  refine H.v 16 (.bool false) fun a H => ?_
  refine wpList_nil (then_normal ?_)
  refine w_iff H rfl ?_
  refine wp_skip (then_normal (wp_seq (w_region ?_)))
  refine H.v 18 (.string (bstr (encInt ((l.length : Nat) : Int)))) fun a H => ?_
  refine H.v 19 (.string (bstr l)) fun a H => ?_
  refine H.u 20 (.string (bstr ((encInt ((l.length : Nat) : Int)) ++ l))) (ex_sadd (by kernel_rfl) (by kernel_rfl) (by have := (encInt_len ((l.length : Nat) : Int)).2; omega)) fun a H => ?_
  refine H.v 2 (.string (bstr ((encInt ((l.length : Nat) : Int)) ++ l))) fun a H => ?_
  refine H.v 3 (.int .i64 0) fun a H => ?_
  refine wpList_nil (then_normal (wp_ret ?_))
  refine H.ret2 (fn := Tryd.f75) Tryd.results75 (RV.tmp_ (v := (.string (bstr ((encInt ((l.length : Nat) : Int)) ++ l)))) (by kernel_rfl)) (RV.tmp_ (v := (.int .i64 0)) (by kernel_rfl)) ?_
  exact ⟨rfl, (HP.below (by kernel_rfl))⟩
set_option maxRecDepth 100000 in
set_option maxHeartbeats 4000000 in
theorem string_none (l : List UInt8) (k : Nat) (w : World) (hl : l.length ≤ 9000000000000000000) (hk : k ≤ l.length) (hR : rdInt l k = none) :
  Calls Tryd.prog 66 #[.string (bstr l), .int .i64 k] w fun e w' => e = .returned (str3 none) ∧ w = w' := by
 have HP := Hp.start w
 refine w_enter 43 [(0, (.string (bstr l))), (1, (.int .i64 ((k : Nat) : Int)))] Tryd.func66 rfl Tryd.ntmps66 (by kernel_rfl) (by kernel_rfl) fun a H => ?_
 refine wp_seq (w_region ?_)
 refine H.v 4 (.string (bstr ([]))) fun a H => ?_
 refine H.v 5 (.int .i64 0) fun a H => ?_
 refine H.v 6 (.int .i64 0) fun a H => ?_
 refine wpList_nil (then_normal (wp_seq (w_region ?_)))
 refine H.v 11 (.string (bstr l)) fun a H => ?_
 refine H.v 12 (.int .i64 ((k : Nat) : Int)) fun a H => ?_
 refine H.call 13 (by kernel_rfl) (Eq.trans (by kernel_rfl : _ = (callFunc 65 #[(.string (bstr l)), (.int .i64 ((k : Nat) : Int))]).run Tryd.prog w) (Tryd.call65 _ _)) ((by have hh := wint_any (bstr l) k w hl hk; rw [show (bstr l).data.toList = l from rfl, hR] at hh; exact hh)) ?_
 rintro e w_1 ⟨rfl, hw⟩
 refine ⟨_, rfl, ?_⟩
 intro a H
 have HP := hw ▸ HP
 refine H.v 10 (.tuple #[(.int .i64 0), (.int .i64 0), (.int .i64 10)]) fun a H => ?_
 refine H.v 14 (.int .i64 0) fun a H => ?_
 refine H.v 15 (.int .i64 0) fun a H => ?_
 refine H.v 16 (.int .i64 10) fun a H => ?_
 refine H.v 7 (.int .i64 0) fun a H => ?_
 refine H.v 8 (.int .i64 0) fun a H => ?_
 refine H.v 9 (.int .i64 10) fun a H => ?_
 refine wpList_nil (then_normal (wp_seq (wp_seq (w_region ?_))))
 refine H.v 17 (.int .i64 10) fun a H => ?_
 refine H.v 18 (.bool true) fun a H => ?_
 refine wpList_nil (then_normal ?_)
 refine w_ift H rfl ?_
 refine wp_seq (w_region ?_)
 refine H.v 19 (.int .i64 10) fun a H => ?_
 refine H.v 4 (.string (bstr ([]))) fun a H => ?_
 refine H.v 5 (.int .i64 0) fun a H => ?_
 refine H.v 6 (.int .i64 10) fun a H => ?_
 refine wpList_nil (then_normal (wp_ret (then_ret ?_)))
 refine H.ret3 (fn := Tryd.f66) Tryd.results66 (RV.tmp_ (v := (.string (bstr ([])))) (by kernel_rfl)) (RV.tmp_ (v := (.int .i64 0)) (by kernel_rfl)) (RV.tmp_ (v := (.int .i64 10)) (by kernel_rfl)) ?_
 exact ⟨rfl, hw⟩
set_option maxRecDepth 100000 in
set_option maxHeartbeats 4000000 in
theorem string_some (l : List UInt8) (k : Nat) (w : World) (hl : l.length ≤ 9000000000000000000) (hk : k ≤ l.length) (n : Int) (e : Nat) (hR : rdInt l k = some (n, e)) :
  Calls Tryd.prog 66 #[.string (bstr l), .int .i64 k] w fun e w' => e = .returned (str3 (rdStr l k)) ∧ w = w' := by
 obtain ⟨hc1, hc2, hc3, hc4, _⟩ := rdInt_canon hk hR
 unfold wmax at hc1 hc2
 have HP := Hp.start w
 refine w_enter 43 [(0, (.string (bstr l))), (1, (.int .i64 ((k : Nat) : Int)))] Tryd.func66 rfl Tryd.ntmps66 (by kernel_rfl) (by kernel_rfl) fun a H => ?_
 refine wp_seq (w_region ?_)
 refine H.v 4 (.string (bstr ([]))) fun a H => ?_
 refine H.v 5 (.int .i64 0) fun a H => ?_
 refine H.v 6 (.int .i64 0) fun a H => ?_
 refine wpList_nil (then_normal (wp_seq (w_region ?_)))
 refine H.v 11 (.string (bstr l)) fun a H => ?_
 refine H.v 12 (.int .i64 ((k : Nat) : Int)) fun a H => ?_
 refine H.call 13 (by kernel_rfl) (Eq.trans (by kernel_rfl : _ = (callFunc 65 #[(.string (bstr l)), (.int .i64 ((k : Nat) : Int))]).run Tryd.prog w) (Tryd.call65 _ _)) ((by have hh := wint_any (bstr l) k w hl hk; rw [show (bstr l).data.toList = l from rfl, hR] at hh; exact hh)) ?_
 rintro e w_1 ⟨rfl, hw⟩
 refine ⟨_, rfl, ?_⟩
 intro a H
 have HP := hw ▸ HP
 refine H.v 10 (.tuple #[(.int .i64 n), (.int .i64 ((e : Nat) : Int)), (.int .i64 0)]) fun a H => ?_
 refine H.v 14 (.int .i64 n) fun a H => ?_
 refine H.v 15 (.int .i64 ((e : Nat) : Int)) fun a H => ?_
 refine H.v 16 (.int .i64 0) fun a H => ?_
 refine H.v 7 (.int .i64 n) fun a H => ?_
 refine H.v 8 (.int .i64 ((e : Nat) : Int)) fun a H => ?_
 refine H.v 9 (.int .i64 0) fun a H => ?_
 refine wpList_nil (then_normal (wp_seq (wp_seq (w_region ?_))))
 refine H.v 17 (.int .i64 0) fun a H => ?_
 refine H.v 18 (.bool false) fun a H => ?_
 refine wpList_nil (then_normal ?_)
 refine w_iff H rfl ?_
 refine wp_skip (then_normal (wp_seq (wp_seq (w_region ?_))))
 refine H.v 20 (.int .i64 n) fun a H => ?_
 refine H.v 21 (.bool (decide (n < 0))) fun a H => ?_
 refine H.v 22 (.bool (decide (n < 0))) fun a H => ?_
 refine H.split 22 rfl (fun g22 H => ?_) (fun g22 H => ?_)
 ·have g22p := of_decide_eq_true g22
  refine H.s 23 fun a H => ?_
  refine H.s 24 fun a H => ?_
  refine H.v 25 (.bool true) fun a H => ?_
  refine H.v 26 (.bool true) fun a H => ?_
  refine H.s 27 fun a H => ?_
  refine H.s 28 fun a H => ?_
  refine H.s 29 fun a H => ?_
  refine H.s 30 fun a H => ?_
  refine H.s 31 fun a H => ?_
  refine H.s 32 fun a H => ?_
  refine H.v 33 (.bool true) fun a H => ?_
  refine wpList_nil ?_
  have H := H.keep (L' := [(33, (.bool true)), (18, (.bool false)), (17, (.int .i64 0)), (9, (.int .i64 0)), (8, (.int .i64 ((e : Nat) : Int))), (7, (.int .i64 n)), (16, (.int .i64 0)), (15, (.int .i64 ((e : Nat) : Int))), (14, (.int .i64 n)), (10, (.tuple #[(.int .i64 n), (.int .i64 ((e : Nat) : Int)), (.int .i64 0)])), (13, (.tuple #[(.int .i64 n), (.int .i64 ((e : Nat) : Int)), (.int .i64 0)])), (12, (.int .i64 ((k : Nat) : Int))), (11, (.string (bstr l))), (6, (.int .i64 0)), (5, (.int .i64 0)), (4, (.string (bstr ([])))), (0, (.string (bstr l))), (1, (.int .i64 ((k : Nat) : Int)))]) (by kernel_rfl)
  refine then_normal ?_
  refine w_ift H rfl ?_
  refine wp_seq (w_region ?_)
  refine H.v 4 (.string (bstr ([]))) fun a H => ?_
  refine H.v 5 (.int .i64 0) fun a H => ?_
  refine H.v 6 (.int .i64 10) fun a H => ?_
  refine wpList_nil (then_normal (wp_ret (then_ret ?_)))
  refine H.ret3 (fn := Tryd.f66) Tryd.results66 (RV.tmp_ (v := (.string (bstr ([])))) (by kernel_rfl)) (RV.tmp_ (v := (.int .i64 0)) (by kernel_rfl)) (RV.tmp_ (v := (.int .i64 10)) (by kernel_rfl)) ?_
  exact ⟨by unfold rdStr; rw [hR]; simp only; rw [if_pos (by omega)]; rfl, hw⟩
 ·have g22p := of_decide_eq_false g22
  refine H.v 23 (.int .i64 n) fun a H => ?_
  refine H.v 24 (.bool (decide (n > 65536))) fun a H => ?_
  refine H.v 25 (.bool (decide (n > 65536))) fun a H => ?_
  refine H.v 26 (.bool (decide (n > 65536))) fun a H => ?_
  refine H.split 26 rfl (fun g26 H => ?_) (fun g26 H => ?_)
  ·have g26p := of_decide_eq_true g26
   refine H.s 27 fun a H => ?_
   refine H.s 28 fun a H => ?_
   refine H.s 29 fun a H => ?_
   refine H.s 30 fun a H => ?_
   refine H.s 31 fun a H => ?_
   refine H.s 32 fun a H => ?_
   refine H.v 33 (.bool true) fun a H => ?_
   refine wpList_nil ?_
   have H := H.keep (L' := [(33, (.bool true)), (18, (.bool false)), (17, (.int .i64 0)), (9, (.int .i64 0)), (8, (.int .i64 ((e : Nat) : Int))), (7, (.int .i64 n)), (16, (.int .i64 0)), (15, (.int .i64 ((e : Nat) : Int))), (14, (.int .i64 n)), (10, (.tuple #[(.int .i64 n), (.int .i64 ((e : Nat) : Int)), (.int .i64 0)])), (13, (.tuple #[(.int .i64 n), (.int .i64 ((e : Nat) : Int)), (.int .i64 0)])), (12, (.int .i64 ((k : Nat) : Int))), (11, (.string (bstr l))), (6, (.int .i64 0)), (5, (.int .i64 0)), (4, (.string (bstr ([])))), (0, (.string (bstr l))), (1, (.int .i64 ((k : Nat) : Int)))]) (by kernel_rfl)
   refine then_normal ?_
   refine w_ift H rfl ?_
   refine wp_seq (w_region ?_)
   refine H.v 4 (.string (bstr ([]))) fun a H => ?_
   refine H.v 5 (.int .i64 0) fun a H => ?_
   refine H.v 6 (.int .i64 10) fun a H => ?_
   refine wpList_nil (then_normal (wp_ret (then_ret ?_)))
   refine H.ret3 (fn := Tryd.f66) Tryd.results66 (RV.tmp_ (v := (.string (bstr ([])))) (by kernel_rfl)) (RV.tmp_ (v := (.int .i64 0)) (by kernel_rfl)) (RV.tmp_ (v := (.int .i64 10)) (by kernel_rfl)) ?_
   exact ⟨by unfold rdStr; rw [hR]; simp only; rw [if_pos (by omega)]; rfl, hw⟩
  ·have g26p := of_decide_eq_false g26
   refine H.v 27 (.int .i64 n) fun a H => ?_
   refine H.v 28 (.string (bstr l)) fun a H => ?_
   refine H.v 29 (.int .i64 ((l.length : Nat) : Int)) fun a H => ?_
   refine H.v 30 (.int .i64 ((e : Nat) : Int)) fun a H => ?_
   refine H.valE 31 (.int .i64 (IntKind.i64.wrap (((l.length : Nat) : Int) - ((e : Nat) : Int)))) (.int .i64 (((l.length : Nat) : Int) - ((e : Nat) : Int))) (by kernel_rfl) (by kernel_rfl) ((by rw [wrap_ini64 _ (by omega)])) fun a H => ?_
   refine H.v 32 (.bool (decide (n > (((l.length : Nat) : Int) - ((e : Nat) : Int))))) fun a H => ?_
   refine H.v 33 (.bool (decide (n > (((l.length : Nat) : Int) - ((e : Nat) : Int))))) fun a H => ?_
   refine wpList_nil ?_
   have H := H.keep (L' := [(33, (.bool (decide (n > (((l.length : Nat) : Int) - ((e : Nat) : Int)))))), (18, (.bool false)), (17, (.int .i64 0)), (9, (.int .i64 0)), (8, (.int .i64 ((e : Nat) : Int))), (7, (.int .i64 n)), (16, (.int .i64 0)), (15, (.int .i64 ((e : Nat) : Int))), (14, (.int .i64 n)), (10, (.tuple #[(.int .i64 n), (.int .i64 ((e : Nat) : Int)), (.int .i64 0)])), (13, (.tuple #[(.int .i64 n), (.int .i64 ((e : Nat) : Int)), (.int .i64 0)])), (12, (.int .i64 ((k : Nat) : Int))), (11, (.string (bstr l))), (6, (.int .i64 0)), (5, (.int .i64 0)), (4, (.string (bstr ([])))), (0, (.string (bstr l))), (1, (.int .i64 ((k : Nat) : Int)))]) (by kernel_rfl)
   refine then_normal ?_
   refine w_if H rfl (fun g33 => ?_) (fun g33 => ?_)
   ·have g33p := of_decide_eq_true g33
    refine wp_seq (w_region ?_)
    refine H.v 4 (.string (bstr ([]))) fun a H => ?_
    refine H.v 5 (.int .i64 0) fun a H => ?_
    refine H.v 6 (.int .i64 10) fun a H => ?_
    refine wpList_nil (then_normal (wp_ret (then_ret ?_)))
    refine H.ret3 (fn := Tryd.f66) Tryd.results66 (RV.tmp_ (v := (.string (bstr ([])))) (by kernel_rfl)) (RV.tmp_ (v := (.int .i64 0)) (by kernel_rfl)) (RV.tmp_ (v := (.int .i64 10)) (by kernel_rfl)) ?_
    exact ⟨by unfold rdStr; rw [hR]; simp only; rw [if_pos (by omega)]; rfl, hw⟩
   ·have g33p := of_decide_eq_false g33
    refine wp_skip (then_normal (wp_seq ?_))
    obtain ⟨m, rfl⟩ : ∃ m : Nat, n = m := ⟨n.toNat, by omega⟩
    refine w_region ?_
    refine H.v 34 (.string (bstr l)) fun a H => ?_
    refine H.v 35 (.int .i64 ((e : Nat) : Int)) fun a H => ?_
    refine H.v 36 (.int .i64 ((e : Nat) : Int)) fun a H => ?_
    refine H.v 37 (.int .i64 ((m : Nat) : Int)) fun a H => ?_
    refine H.valE 38 (.int .i64 (IntKind.i64.wrap (((e : Nat) : Int) + ((m : Nat) : Int)))) (.int .i64 ((e + m : Nat) : Int)) (by kernel_rfl) (by kernel_rfl) ((congrArg (Value.int .i64) (by rw [wrap_ini64 _ (by omega)]; omega))) fun a H => ?_
    refine H.u 39 (.string (bstr ((l.drop e).take ((e + m) - e)))) (ex_sslice (k := .i64) (kk := .i64) (l := l) (i := ((e : Nat) : Int)) (j := ((e + m : Nat) : Int)) (a := e) (b := (e + m)) (by kernel_rfl) (by kernel_rfl) (by kernel_rfl) (by kernel_rfl) (by omega) (by omega) (by omega) (by omega)) fun a H => ?_
    refine H.v 40 (.int .i64 ((e : Nat) : Int)) fun a H => ?_
    refine H.v 41 (.int .i64 ((m : Nat) : Int)) fun a H => ?_
    refine H.valE 42 (.int .i64 (IntKind.i64.wrap (((e : Nat) : Int) + ((m : Nat) : Int)))) (.int .i64 ((e + m : Nat) : Int)) (by kernel_rfl) (by kernel_rfl) ((congrArg (Value.int .i64) (by rw [wrap_ini64 _ (by omega)]; omega))) fun a H => ?_
    refine H.v 4 (.string (bstr ((l.drop e).take ((e + m) - e)))) fun a H => ?_
    refine H.v 5 (.int .i64 ((e + m : Nat) : Int)) fun a H => ?_
    refine H.v 6 (.int .i64 0) fun a H => ?_
    refine wpList_nil (then_normal (wp_ret ?_))
    refine H.ret3 (fn := Tryd.f66) Tryd.results66 (RV.tmp_ (v := (.string (bstr ((l.drop e).take ((e + m) - e))))) (by kernel_rfl)) (RV.tmp_ (v := (.int .i64 ((e + m : Nat) : Int))) (by kernel_rfl)) (RV.tmp_ (v := (.int .i64 0)) (by kernel_rfl)) ?_
    exact ⟨by unfold rdStr; rw [hR]; simp only; rw [if_neg (by omega)]; simp only [Int.toNat_natCast, Nat.add_sub_cancel_left, str3], hw⟩
theorem string_any (l : List UInt8) (k : Nat) (w : World) (hl : l.length ≤ 9000000000000000000) (hk : k ≤ l.length) :
  Calls Tryd.prog 66 #[.string (bstr l), .int .i64 k] w fun e w' => e = .returned (str3 (rdStr l k)) ∧ w = w' := by
 cases hR : rdInt l k with
 | none =>
  have e : rdStr l k = none := by unfold rdStr; rw [hR]
  rw [e]
  exact string_none l k w hl hk hR
 | some p => exact string_some l k w hl hk p.1 p.2 hR
end Go.Proofs.YtgdjpaeclicdfaaDoor
