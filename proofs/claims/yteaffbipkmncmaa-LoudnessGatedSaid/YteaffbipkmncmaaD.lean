/- Contracts of the reference's mean, Measure and Gain. -/
import Derived.Test.YteaffbipkmncmaaC
import Derived.IntWalk
namespace Go.Proofs.Yteaffbipkmncmaa
open Go.ChangeShapes Go.WideShapes Go.ChangeAt Go.RowKit

/-- A slice of integers that reads as a list. -/
def IsInts (w : World) (a : Option Addr) (len : Nat) (zs : List Int) : Prop :=
  zs.length = len ∧ (len = 0 ∨ ∃ b off, a = some ⟨b, off, none⟩ ∧ b < w.heap.size ∧ ∀ i, i < len → w.cell? ⟨b, off + i, none⟩ = some (.int .i64 (zs.getD i 0)))

theorem IsInts.below {w w' : World} {a : Option Addr} {len : Nat} {zs : List Int} (h : IsInts w a len zs) (hb : Below w.heap.size w w') : IsInts w' a len zs := by
  obtain ⟨h1, h2⟩ := h
  refine ⟨h1, ?_⟩
  rcases h2 with h2 | ⟨b, off, rfl, hlt, hc⟩
  · exact .inl h2
  · exact .inr ⟨b, off, rfl, Nat.lt_of_lt_of_le hlt hb.size, fun i hi => by rw [hb.cell (p := ⟨b, off + i, none⟩) hlt]; exact hc i hi⟩

theorem quo_eq (S n : Int) (h0 : 0 ≤ S) (h1 : S ≤ 1000000000000) (hn : 1 ≤ n) : wrap64 (S.tdiv n) = S / n := by
  rw [Int.tdiv_eq_ediv_of_nonneg h0]
  have h2 : 0 ≤ S / n := Int.ediv_nonneg h0 (by omega)
  have h3 : S / n ≤ S := Int.ediv_le_self _ h0
  exact IntWalk.wrap64_in _ ⟨by omega, by omega⟩

set_option maxHeartbeats 400000 in
theorem mean_any (a : Option Addr) (len cap : Nat) (zs : List Int) (m : Int) (w : World) (h : IsInts w a len zs) (hlen : len ≤ 1000) :
    Calls Try.prog 21 #[.slice a len cap, .int .i64 m] w fun e w' => e = .returned (.int .i64 (gmean (sel zs m))) ∧ w = w' := by
  obtain ⟨hl, h2⟩ := h
  have fin : ∀ k : Nat, k ≤ len → ¬ k < len → zs.take k = zs := fun k _ h2 => List.take_of_length_le (by omega)
  have Fin := Lib.hid fin
  have HL := Lib.hid hl
  clear fin hl
  go_enter Try.func21, Try.ntmps21
  go_wp2
  go_loop [5, 6, 7] (fun s c i => ∃ k : Nat, k ≤ len ∧ i = .int .i64 k ∧ s = .int .i64 (sel (zs.take k) m).sum ∧ c = .int .i64 (sel (zs.take k) m).length) (fun _ _ i => len - (intOf i).toNat)
  case atStart => exact ⟨0, Nat.zero_le _, rfl, rfl, rfl⟩
  case round =>
    obtain ⟨k, hk, rfl, rfl, rfl⟩ := hrel
    have hs := sel_sum (zs.take k) m
    have hn := sel_len (zs.take k) m
    have hn2 : (zs.take k).length ≤ k := List.length_take_le _ _
    by_cases hlt : k < len
    · obtain ⟨b, off, rfl, _, hcell⟩ := h2.resolve_left (by omega)
      have hc := hcell k hlt
      have hst := sel_step zs m k (by have := HL.out; omega)
      have HS := Lib.hid hst
      have hcb := cl_bd (zs.getD k 0)
      clear hcell h2 hst
      generalize zs.getD k 0 = z at *
      generalize (sel (zs.take k) m).sum = S at *
      generalize (sel (zs.take k) m).length = N at *
      go_wp2_with (go_at_call 23; refine (limited_any _ _ _ _).mono ?_; rintro e w' ⟨rfl, rfl⟩; rw [clampi_cl])
      all_goals
        go_round
        case rel =>
          obtain ⟨e1, e2⟩ := HS.out
          refine ⟨k + 1, by omega, by go_num, ?_, ?_⟩
          · rw [e1]; first | rw [if_pos ⟨‹_›, ‹_›⟩] | (rw [if_neg (by omega)]; go_num)
          · rw [e2]; first | rw [if_pos ⟨‹_›, ‹_›⟩] | (rw [if_neg (by omega)]; go_num)
        case measure => simp [intOf]; omega
    · have ht := Fin.out k hk hlt
      rw [ht] at hs hn
      have fin2 : gmean (sel zs m) = if (sel zs m).length = 0 then 0 else (sel zs m).sum / ((sel zs m).length : Int) := rfl
      have F2 := Lib.hid fin2
      have HT := Lib.hid ht
      clear fin2 ht h2
      rw [HT.out]
      generalize (sel zs m).sum = S at *
      generalize (sel zs m).length = N at *
      by_cases h0 : N = 0
      · subst h0
        go_wp2_with fail
        go_ret
        exact ⟨ret_int (by rw [F2.out]; rfl), rfl⟩
      · have h1 : ((N : Int) == 0) = false := by simpa using h0
        have hN : 1 ≤ N := by omega
        have hS : 0 ≤ S := by omega
        have hz : zs.length ≤ 1000 := by have := HL.out; omega
        go_wp2_with fail
        go_ret
        exact ⟨ret_int (by rw [F2.out, if_neg h0]), rfl⟩

theorem refMeasure_any (a : Option Addr) (len cap : Nat) (zs : List Int) (w : World) (h : IsInts w a len zs) (hlen : len ≤ 1000) :
    Calls Try.prog 13 #[.slice a len cap] w fun e w' => e = .returned (.int .i64 (measure zs)) ∧ w = w' := by
  have H := Lib.hid h
  clear h
  go_enter Try.func13, Try.ntmps13
  go_wp2_with (go_at_call 21; refine (mean_any _ _ _ zs _ _ H.out hlen).mono ?_; rintro e w' ⟨rfl, rfl⟩)
  go_ret
  exact ⟨rfl, rfl⟩

def gainOf (m : Int) : Int := if m = 0 then 1000 else lim (20000000 / m)
theorem refGain_any (a : Option Addr) (len cap : Nat) (zs : List Int) (w : World) (h : IsInts w a len zs) (hlen : len ≤ 1000) :
    Calls Try.prog 15 #[.slice a len cap] w fun e w' => e = .returned (.int .i64 (gainOf (measure zs))) ∧ w = w' := by
  have H := Lib.hid h
  clear h
  have hm := gmean_bd zs (gmean (sel zs 0))
  change 0 ≤ measure zs ∧ measure zs ≤ 1000000 at hm
  obtain ⟨M, hM⟩ : ∃ M, measure zs = M := ⟨_, rfl⟩
  have HM := Lib.hid hM
  rw [hM] at hm
  clear hM
  by_cases h0 : M = 0
  · subst h0
    go_enter Try.func15, Try.ntmps15
    go_wp2_with (go_at_call 13; refine (refMeasure_any _ _ _ zs _ H.out hlen).mono ?_; rintro e w' ⟨rfl, rfl⟩; rw [HM.out])
    go_ret
    exact ⟨ret_int (by rw [HM.out]; rfl), rfl⟩
  · have h1 : (M == 0) = false := by simpa using h0
    have h2 : 1 ≤ M := by omega
    go_enter Try.func15, Try.ntmps15
    go_wp2_with (first | (go_at_call 13; refine (refMeasure_any _ _ _ zs _ H.out hlen).mono ?_; rintro e w' ⟨rfl, rfl⟩; rw [HM.out]) | (go_at_call 23; refine (limited_any _ _ _ _).mono ?_; rintro e w' ⟨rfl, rfl⟩; rw [lim_clamp]))
    go_ret
    exact ⟨ret_int (by rw [HM.out]; unfold gainOf; rw [if_neg h0]), rfl⟩
end Go.Proofs.Yteaffbipkmncmaa
