/- Contracts of Ramp, of the program and of the reference. -/
import Derived.Test.YteaffbipkmncmaaA
import Derived.LoopTactic
import Derived.WalkMore
import Derived.Lib.Hide
namespace Go.Proofs.Yteaffbipkmncmaa
open Go.ChangeShapes Go.WideShapes Go.ChangeAt Go.RowKit

/-- The gain after n frames. -/
def iter (g t : Int) : Nat → Int
  | 0 => g
  | n + 1 => nxt (iter g t n) t
theorem iter_bd (g t : Int) (h1 : 250 ≤ g ∧ g ≤ 4000) (h2 : 250 ≤ t ∧ t ≤ 4000) (n : Nat) : 250 ≤ iter g t n ∧ iter g t n ≤ 4000 := by
  induction n with
  | zero => exact h1
  | succ n ih => exact nxt_bd _ _ ih h2
theorem nxt_self (t : Int) : nxt t t = t := by unfold nxt; split <;> (try split) <;> omega
theorem iter_stay (g t : Int) (n k : Nat) (h : iter g t n = t) : iter g t (n + k) = t := by
  induction k with
  | zero => exact h
  | succ k ih => show nxt (iter g t (n + k)) t = t; rw [ih]; exact nxt_self t
theorem iter_add (g t : Int) (n k : Nat) : iter g t (n + k) = iter (iter g t n) t k := by
  induction k with
  | zero => rfl
  | succ k ih => show nxt (iter g t (n + k)) t = nxt (iter (iter g t n) t k) t; rw [ih]
theorem iter_near (g t : Int) (n : Nat) : (iter g t n = t) ∨ (iter g t n < t ∧ iter g t n = g + 20 * n) ∨ (t < iter g t n ∧ iter g t n = g - 20 * n) := by
  induction n with
  | zero => show g = t ∨ _ ; simp [iter]; omega
  | succ n ih =>
    show nxt (iter g t n) t = t ∨ (nxt (iter g t n) t < t ∧ nxt (iter g t n) t = _) ∨ (t < nxt (iter g t n) t ∧ nxt (iter g t n) t = _)
    generalize iter g t n = x at ih
    unfold nxt
    split <;> (try split) <;> omega
theorem iter_done (g t : Int) (h1 : 250 ≤ g ∧ g ≤ 4000) (h2 : 250 ≤ t ∧ t ≤ 4000) (n : Nat) (hn : 188 ≤ n) : iter g t n = t := by
  have := iter_near g t n; omega
def rampOf (g t f : Int) : Int := iter (lim g) (lim t) f.toNat

set_option maxHeartbeats 400000 in
theorem Ramp_nat (g t : Int) (n : Nat) (w : World) (hn : n ≤ 9223372036854775807) :
    Calls Try.prog 18 #[.int .i64 g, .int .i64 t, .int .i64 n] w fun e w' => e = .returned (.int .i64 (iter (lim g) (lim t) n)) ∧ Below w.heap.size w w' := by
  obtain ⟨hg, hg'⟩ := lim_bd g
  obtain ⟨ht, ht'⟩ := lim_bd t
  obtain ⟨lg, hlg⟩ : ∃ x, lim g = x := ⟨_, rfl⟩
  obtain ⟨lt, hlt⟩ : ∃ x, lim t = x := ⟨_, rfl⟩
  rw [hlg] at hg hg'
  rw [hlt] at ht ht'
  rw [hlg, hlt]
  have Hlg := Lib.hid hlg
  have Hlt := Lib.hid hlt
  clear hlg hlt
  have hpos : ¬ (n : Int) < 0 := by omega
  go_enter Try.func18, Try.ntmps18
  go_wp2_with fail
  go_step3
  go_wp2_with (go_at_call 22; refine (limit_any _ _).mono ?_; rintro e w' ⟨rfl, rfl⟩; first | rw [Hlg.out] | rw [Hlt.out])
  go_step3
  go_wp2_with fail
  go_loopw [0, 18] (fun x i wr => ∃ k : Nat, k ≤ n ∧ i = .int .i64 k ∧ x = .int .i64 (iter lg lt k) ∧ Below (w.heap.size + 1) (w.alloc (Obj.cells #[Value.int IntKind.i64 lt] 39)) wr) (fun _ i _ => n - (intOf i).toNat)
  case atStart => exact ⟨0, Nat.zero_le _, rfl, rfl, Below.refl _ _⟩
  case round =>
    obtain ⟨k, hk, rfl, rfl, hb⟩ := hrel
    have hc : wr.cell? ⟨w.heap.size, 0, none⟩ = some (.int .i64 lt) := by rw [hb.cell (p := ⟨w.heap.size, 0, none⟩) (by simp)]; simp
    have hB := iter_bd lg lt ⟨hg, hg'⟩ ⟨ht, ht'⟩ k
    by_cases hlt : k < n
    · by_cases he : iter lg lt k = lt
      · have he' : ((iter lg lt k) == lt) = true := by simpa using he
        have hst := iter_stay lg lt k (n - k) he
        have HS := Lib.hid hst
        have HE := Lib.hid he
        clear he hst
        go_wp2_with fail
        rw [Exit.noGoto_ret]
        go_ret
        refine ⟨ret_int ?_, ((Below.refl _ _).alloc (Nat.le_refl _) _).trans (hb.mono (by omega))⟩
        have := HS.out; rw [show k + (n - k) = n by omega] at this; rw [this]; exact HE.out
      · have he' : ((iter lg lt k) == lt) = false := by simpa using he
        go_wp2_with (go_at_call 24; refine (next_any _ _ _ hB ⟨ht, ht'⟩).mono ?_; rintro e w1 ⟨rfl, hb1⟩)
        go_roundw
        case rel => exact ⟨k + 1, by omega, by go_num, rfl, hb.trans (hb1.mono (by have := hb.size; simp at this; omega))⟩
        case measure => simp [intOf]; omega
    · go_wp2_with fail
      rw [Exit.noGoto_ret]
      go_ret
      exact ⟨ret_int (by rw [show k = n by omega]), ((Below.refl _ _).alloc (Nat.le_refl _) _).trans (hb.mono (by omega))⟩

set_option maxHeartbeats 400000 in
theorem Ramp_neg (g t f : Int) (w : World) (hf : f < 0) :
    Calls Try.prog 18 #[.int .i64 g, .int .i64 t, .int .i64 f] w fun e w' => e = .returned (.int .i64 (lim g)) ∧ Below w.heap.size w w' := by
  go_enter Try.func18, Try.ntmps18
  go_wp2_with fail
  go_step3
  go_wp2_with (go_at_call 22; refine (limit_any _ _).mono ?_; rintro e w' ⟨rfl, rfl⟩)
  go_step3
  go_wp2_with fail
  refine wp_loop_rounds 1 ?_; rw [rounds_succ]
  go_wp2_with fail
  rw [Exit.noGoto_ret]
  go_ret
  exact ⟨rfl, (Below.refl _ _).alloc (Nat.le_refl _) _⟩

theorem Ramp_any (g t f : Int) (w : World) (hf : f ≤ 9223372036854775807) :
    Calls Try.prog 18 #[.int .i64 g, .int .i64 t, .int .i64 f] w fun e w' => e = .returned (.int .i64 (rampOf g t f)) ∧ Below w.heap.size w w' := by
  unfold rampOf
  by_cases h : f < 0
  · rw [show f.toNat = 0 by omega]; exact Ramp_neg g t f w h
  · obtain ⟨n, rfl⟩ : ∃ n : Nat, f = n := ⟨f.toNat, by omega⟩
    rw [Int.toNat_natCast]; exact Ramp_nat g t n w (by omega)

set_option maxHeartbeats 400000 in
theorem refRamp_any (g t f : Int) (w : World) :
    Calls Try.prog 19 #[.int .i64 g, .int .i64 t, .int .i64 f] w fun e w' => e = .returned (.int .i64 (rampOf g t f)) ∧ w = w' := by
  have hg := lim_bd g
  have ht := lim_bd t
  obtain ⟨lg, hlg⟩ : ∃ x, lim g = x := ⟨_, rfl⟩
  obtain ⟨lt, hlt⟩ : ∃ x, lim t = x := ⟨_, rfl⟩
  have hself : lim lg = lg := by rw [← hlg]; exact lim_lim g
  unfold rampOf
  rw [hlg] at hg
  rw [hlt] at ht
  rw [hlg, hlt]
  have Hlg := Lib.hid hlg
  have Hlt := Lib.hid hlt
  clear hlg hlt hself
  have fin : ∀ k : Nat, k ≤ 200 → (k = 200 ∨ f ≤ k) → (k : Int) ≤ max f 0 → iter lg lt k = iter lg lt f.toNat := by
    intro k h1 h2 h3
    by_cases hk : k = 200
    · rw [iter_done lg lt hg ht k (by omega), iter_done lg lt hg ht _ (by omega)]
    · rw [show f.toNat = k by omega]
  have Fin := Lib.hid fin
  clear fin
  go_enter Try.func19, Try.ntmps19
  go_wp2_with (go_at_call 23; refine (limited_any _ _ _ _).mono ?_; rintro e w' ⟨rfl, rfl⟩; rw [lim_clamp, Hlg.out])
  go_loop [0, 7] (fun x i => ∃ k : Nat, k ≤ 200 ∧ (k : Int) ≤ max f 0 ∧ i = .int .i64 k ∧ x = .int .i64 (iter lg lt k)) (fun _ i => 200 - (intOf i).toNat)
  case atStart => exact ⟨0, by omega, by omega, rfl, rfl⟩
  case round =>
    obtain ⟨k, hk, hkf, rfl, rfl⟩ := hrel
    have hB := iter_bd lg lt hg ht k
    have hl : lim (iter lg lt k) = iter lg lt k := by unfold lim; omega
    have HL := Lib.hid hl
    clear hl
    by_cases hlt : (k : Int) < f
    · by_cases h2 : (k : Int) < 200
      · go_wp2_with (go_at_call 17; refine (refNext_any _ _ _).mono ?_; rintro e w' ⟨rfl, rfl⟩; rw [HL.out, Hlt.out])
        go_round
        case rel => exact ⟨k + 1, by omega, by omega, by go_num, rfl⟩
        case measure => simp [intOf]; omega
      · go_wp2_with fail
        go_ret
        exact ⟨ret_int (Fin.out k hk (by omega) hkf), rfl⟩
    · have hd : decide ((k : Int) < f) = false := by simpa using hlt
      go_wp2_with fail
      go_ret
      exact ⟨ret_int (Fin.out k hk (by omega) hkf), rfl⟩
end Go.Proofs.Yteaffbipkmncmaa
