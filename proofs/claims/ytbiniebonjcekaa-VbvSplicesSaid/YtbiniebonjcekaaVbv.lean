/- Contracts of vbv's Step, runner and Run. -/
import Derived.Test.YtbiniebonjcekaaVbvP
namespace Go.Proofs.Ytbiniebonjcekaa
open Go.ChangeShapes Go.WideShapes Go.ChangeAt Go.RowKit
set_option linter.unusedVariables false

theorem ret_pair {r r' : Option Int} (h : r = r') : Ending.returned (pairV r) = .returned (pairV r') := by rw [h]

theorem vstep_cases (f s : Int) : (vstep f s = none ∧ f < 0) ∨ (vstep f s = none ∧ 0 ≤ f ∧ 1000 < f) ∨ (vstep f s = none ∧ 0 ≤ f ∧ f ≤ 1000 ∧ s < 0) ∨
      (vstep f s = none ∧ 0 ≤ f ∧ f < 900 ∧ 0 ≤ s ∧ f + 100 < s) ∨ (vstep f s = some (f + 100 - s) ∧ 0 ≤ f ∧ f < 900 ∧ 0 ≤ s ∧ s ≤ f + 100) ∨
      (vstep f s = none ∧ 900 ≤ f ∧ f ≤ 1000 ∧ 0 ≤ s ∧ 1000 < s) ∨ (vstep f s = some (1000 - s) ∧ 900 ≤ f ∧ f ≤ 1000 ∧ 0 ≤ s ∧ s ≤ 1000) := by
  unfold vstep
  by_cases h1 : f < 0
  · left; exact ⟨by rw [if_pos (.inl h1)], h1⟩
  · by_cases h2 : 1000 < f
    · right; left; exact ⟨by rw [if_pos (by omega)], by omega, h2⟩
    · by_cases h3 : s < 0
      · right; right; left; exact ⟨by rw [if_pos (by omega)], by omega, by omega, h3⟩
      · rw [if_neg (by omega)]
        by_cases h4 : f < 900
        · by_cases h5 : f + 100 < s
          · right; right; right; left; exact ⟨by rw [if_pos (by omega)], by omega, h4, by omega, h5⟩
          · right; right; right; right; left; exact ⟨by rw [if_neg (by omega), show min 1000 (f + 100) = f + 100 by omega], by omega, h4, by omega, by omega⟩
        · by_cases h5 : 1000 < s
          · right; right; right; right; right; left; exact ⟨by rw [if_pos (by omega)], by omega, by omega, by omega, h5⟩
          · right; right; right; right; right; right; exact ⟨by rw [if_neg (by omega), show min 1000 (f + 100) = 1000 by omega], by omega, by omega, by omega, by omega⟩

set_option maxHeartbeats 400000 in
theorem vbvStep_any (f s : Int) (w : World) :
    Calls Try.prog 14 #[.int .i64 f, .int .i64 s] w fun e w' => e = .returned (pairV (vstep f s)) ∧ w = w' := by
  have key := vstep_cases f s
  generalize vstep f s = r at key ⊢
  rcases key with ⟨rfl, k1⟩ | ⟨rfl, k0, k1⟩ | ⟨rfl, k0, k1, k2⟩ | ⟨rfl, k0, k1, k2, k3⟩ | ⟨rfl, k0, k1, k2, k3⟩ | ⟨rfl, k1, k2, k3, k4⟩ | ⟨rfl, k1, k2, k3, k4⟩
  all_goals
    go_enter Try.func14, Try.ntmps14
    go_wp2
    go_ret2
    exact ⟨rfl, rfl⟩

theorem runner_any (f : Int) (w : World) (h0 : 0 ≤ f) (h1 : f ≤ 1000) :
    Calls Try.prog 23 #[.int .i64 f] w fun e w' => e = .returned (.func (.func 25) #[] #[.pointer (some ⟨w.heap.size + 1, 0, none⟩), .pointer (some ⟨w.heap.size, 0, none⟩)]) ∧ (w.alloc (.cells #[.int .i64 f] 3)).alloc (.cells #[.bool true] 4) = w' := by
  go_enter Try.func23, Try.ntmps23
  go_wp2
  go_ret
  exact ⟨rfl, rfl⟩

/-- The closure, while there has been no underflow: bf, bo are the blocks of its two variables. -/
theorem clos_any (f s : Int) (bf bo : Nat) (w : World) (hne : bo ≠ bf) (hf : w.cell? ⟨bf, 0, none⟩ = some (.int .i64 f)) (hff : w.frozen? ⟨bf, 0, none⟩ = false) (ho : w.cell? ⟨bo, 0, none⟩ = some (.bool true)) (hof : w.frozen? ⟨bo, 0, none⟩ = false) :
    Calls Try.prog 25 #[.int .i64 s, .pointer (some ⟨bo, 0, none⟩), .pointer (some ⟨bf, 0, none⟩)] w fun e w' =>
      e = .returned (pairV (vstep f s)) ∧ (w.setCell ⟨bf, 0, none⟩ (.int .i64 ((vstep f s).getD 0))).setCell ⟨bo, 0, none⟩ (.bool (vstep f s).isSome) = w' := by
  have hne' : bf ≠ bo := fun e => hne e.symm
  cases hs : vstep f s with
  | none =>
    have HS := Lib.hid hs
    clear hs
    go_enter Try.func25, Try.ntmps25
    go_wp2_with (go_at_call 14; refine (vbvStep_any _ _ _).mono ?_; rintro e w' ⟨rfl, rfl⟩; rw [HS.out]; unfold pairV)
    go_ret2
    exact ⟨rfl, rfl⟩
  | some g =>
    have HS := Lib.hid hs
    clear hs
    go_enter Try.func25, Try.ntmps25
    go_wp2_with (go_at_call 14; refine (vbvStep_any _ _ _).mono ?_; rintro e w' ⟨rfl, rfl⟩; rw [HS.out]; unfold pairV)
    go_ret2
    exact ⟨rfl, rfl⟩

/-- The two variables of a running closure. -/
def VBox (B : Nat) (W : World) (g : Int) : Prop := W.cell? ⟨B, 0, none⟩ = some (.int .i64 g) ∧ W.frozen? ⟨B, 0, none⟩ = false ∧ W.cell? ⟨B + 1, 0, none⟩ = some (.bool true) ∧ W.frozen? ⟨B + 1, 0, none⟩ = false
theorem vbox_set {B : Nat} {W : World} {g : Int} (y : Int) (h : VBox B W g) : VBox B ((W.setCell ⟨B, 0, none⟩ (.int .i64 y)).setCell ⟨B + 1, 0, none⟩ (.bool true)) y := by
  obtain ⟨hc0, hf0, hc1, hf1⟩ := h
  refine ⟨?_, ?_, ?_, ?_⟩
  · rw [World.cell?_setCell_other _ _ _ _ (by simp), World.cell?_setCell_same' _ _ _ (by rw [hc0]; rfl)]
  · rw [World.frozen?_setCell, World.frozen?_setCell]; exact hf0
  · rw [World.cell?_setCell_same' _ _ _ (by rw [World.cell?_setCell_other _ _ _ _ (by simp), hc1]; rfl)]
  · rw [World.frozen?_setCell, World.frozen?_setCell]; exact hf1

set_option maxHeartbeats 1000000 in
theorem vbvRun_any (f : Int) (a : Option Addr) (len cap : Nat) (zs : List Int) (w : World) (h : IsInts w a len zs) (hlen : len ≤ 9223372036854775807) :
    Calls Try.prog 12 #[.int .i64 f, .slice a len cap] w fun e w' => e = .returned (pairV (runOf f zs)) ∧ Below w.heap.size w w' := by
  by_cases hf0 : f < 0
  · have : runOf f zs = none := by unfold runOf; rw [if_pos (.inl hf0)]
    rw [this]
    clear this
    have H := Lib.hid h
    clear h
    go_enter Try.func12, Try.ntmps12
    go_wp2_with fail
    go_ret2
    exact ⟨rfl, Below.refl _ _⟩
  · by_cases hf1 : 1000 < f
    · have : runOf f zs = none := by unfold runOf; rw [if_pos (.inr hf1)]
      rw [this]
      clear this
      have H := Lib.hid h
      clear h
      go_enter Try.func12, Try.ntmps12
      go_wp2_with fail
      go_ret2
      exact ⟨rfl, Below.refl _ _⟩
    · have e0 : runOf f zs = vrun f zs := by unfold runOf; rw [if_neg (by omega)]
      rw [e0]
      clear e0
      have H := Lib.hid h
      clear h
      have hb0 : 0 ≤ f ∧ f ≤ 1000 := by omega
      have d0 : decide (f < 0) = false := by simpa using hf0
      have d1 : decide (1000 < f) = false := by simpa using hf1
      obtain ⟨W0, hW0⟩ : ∃ W0, (w.alloc (.cells #[.int .i64 f] 3)).alloc (.cells #[.bool true] 4) = W0 := ⟨_, rfl⟩
      have hB0 : Below w.heap.size w W0 := by rw [← hW0]; exact ((Below.refl _ w).alloc (Nat.le_refl _) _).alloc (by simp) _
      have c0 : W0.cell? ⟨w.heap.size, 0, none⟩ = some (.int .i64 f) ∧ W0.frozen? ⟨w.heap.size, 0, none⟩ = false := by rw [← hW0]; simp
      have c1 : W0.cell? ⟨w.heap.size + 1, 0, none⟩ = some (.bool true) ∧ W0.frozen? ⟨w.heap.size + 1, 0, none⟩ = false := by rw [← hW0]; simp
      have HW0 := Lib.hid hW0
      have HC0 := Lib.hid c0
      have HC1 := Lib.hid c1
      clear hW0 c0 c1
      go_enter Try.func12, Try.ntmps12
      go_wp2_with (go_at_call 23; refine (runner_any _ _ hb0.1 hb0.2).mono ?_; rintro e w' ⟨rfl, rfl⟩; rw [HW0.out])
      go_loopw [0, 21] (fun x i wr => ∃ (k : Nat) (g : Int), k ≤ len ∧ i = .int .i64 k ∧ x = .int .i64 g ∧ (0 ≤ g ∧ g ≤ 1000) ∧ vrun f (zs.take k) = some g ∧ Below w.heap.size w wr ∧
        (wr.cell? ⟨w.heap.size, 0, none⟩ = some (.int .i64 g) ∧ wr.frozen? ⟨w.heap.size, 0, none⟩ = false ∧ wr.cell? ⟨w.heap.size + 1, 0, none⟩ = some (.bool true) ∧ wr.frozen? ⟨w.heap.size + 1, 0, none⟩ = false)) (fun _ i _ => len - (intOf i).toNat)
      case atStart => exact ⟨0, f, Nat.zero_le _, rfl, rfl, hb0, rfl, hB0, HC0.out.1, HC0.out.2, HC1.out.1, HC1.out.2⟩
      case round =>
        obtain ⟨k, g, hk, rfl, rfl, hg, hrun, hB, hc0, hf0, hc1, hf1⟩ := hrel
        have HR := Lib.hid hrun
        clear hrun
        by_cases hlt : k < len
        · obtain ⟨b, off, rfl, hbl, hcell⟩ := H.out.2.resolve_left (by omega)
          have hc : wr.cell? ⟨b, off + k, none⟩ = some (.int .i64 (zs.getD k 0)) := (hB.cell (p := ⟨b, off + k, none⟩) hbl).trans (hcell k hlt)
          have hsn : vrun f (zs.take (k + 1)) = vstep g (zs.getD k 0) := by
            rw [take_getD (by have := H.out.1; omega), vrun_snoc, HR.out]; rfl
          have HS := Lib.hid hsn
          have hne : w.heap.size + 1 ≠ w.heap.size := by omega
          have Hcl := Lib.hid (clos_any g (zs.getD k 0) w.heap.size (w.heap.size + 1) wr hne hc0 hf0 hc1 hf1)
          have hkl : k < zs.length := by have := H.out.1; omega
          clear hsn hcell
          generalize zs.getD k 0 = s at *
          cases hv : vstep g s with
          | none =>
            have hfin : vrun f zs = none := by
              have e1 := HS.out
              rw [hv] at e1
              have := vrun_none_append (zs.drop (k + 1)) e1
              rwa [List.take_append_drop] at this
            have HF := Lib.hid hfin
            rw [hv] at Hcl
            clear hfin hv HS
            go_wp2_with (go_at_call 25; refine Hcl.out.mono ?_; rintro e w' ⟨rfl, rfl⟩; unfold pairV)
            go_ret2
            refine ⟨by rw [HF.out]; rfl, (hB.setCell (p := ⟨w.heap.size, 0, none⟩) (Nat.le_refl _) _).setCell (p := ⟨w.heap.size + 1, 0, none⟩) (by simp) _⟩
          | some y =>
            have hy := vstep_bd hv
            rw [hv] at Hcl HS
            clear hv
            have hy2 : 0 ≤ y ∧ y ≤ 1000 := ⟨by omega, by omega⟩
            clear hy
            have HFin := Lib.hid (vbox_set y ⟨hc0, hf0, hc1, hf1⟩)
            have HB := Lib.hid ((hB.setCell (p := ⟨w.heap.size, 0, none⟩) (Nat.le_refl _) (.int .i64 y)).setCell (p := ⟨w.heap.size + 1, 0, none⟩) (by simp) (.bool true))
            go_wp2_with (go_at_call 25; refine Hcl.out.mono ?_; rintro e w' ⟨rfl, rfl⟩; unfold pairV; simp only [Option.getD_some, Option.isSome_some]; clear Hcl)
            go_roundw
            case rel => exact ⟨k + 1, y, by omega, by go_num, rfl, hy2, HS.out, HB.out, HFin.out⟩
            case measure => simp [intOf]; omega
        · have hz : zs.take k = zs := List.take_of_length_le (by have := H.out.1; omega)
          rw [hz] at HR
          clear hz
          go_wp2_with fail
          go_ret2
          exact ⟨by rw [HR.out]; rfl, hB⟩
end Go.Proofs.Ytbiniebonjcekaa
