/- Contracts of vbv's Conforms and Exits. -/
import Derived.Test.YtbiniebonjcekaaVbv
namespace Go.Proofs.Ytbiniebonjcekaa
open Go.ChangeShapes Go.WideShapes Go.ChangeAt Go.RowKit
set_option linter.unusedVariables false

theorem runOf_500 (zs : List Int) : runOf 500 zs = vrun 500 zs := by unfold runOf; rw [if_neg (by omega)]
theorem vbvConf_any (a : Option Addr) (len cap : Nat) (zs : List Int) (w : World) (h : IsInts w a len zs) (hlen : len ≤ 9223372036854775807) :
    Calls Try.prog 20 #[.slice a len cap] w fun e w' => e = .returned (.bool (confOf zs)) ∧ Below w.heap.size w w' := by
  have H := Lib.hid h
  clear h
  cases hv : vrun 500 zs with
  | none =>
    have HV := Lib.hid ((runOf_500 zs).trans hv)
    have HC : Hid (confOf zs = false) := Lib.hid (by unfold confOf; rw [hv])
    clear hv
    go_enter Try.func20, Try.ntmps20
    go_wp2_with (go_at_call 12; refine (vbvRun_any _ _ _ _ zs _ H.out hlen).mono ?_; rintro e w' ⟨rfl, hb⟩; rw [HV.out]; unfold pairV)
    go_ret
    exact ⟨by rw [HC.out]; rfl, hb⟩
  | some g =>
    have HV := Lib.hid ((runOf_500 zs).trans hv)
    have HC : Hid (confOf zs = decide (500 ≤ g)) := Lib.hid (by unfold confOf; rw [hv])
    clear hv
    go_enter Try.func20, Try.ntmps20
    go_wp2_with (go_at_call 12; refine (vbvRun_any _ _ _ _ zs _ H.out hlen).mono ?_; rintro e w' ⟨rfl, hb⟩; rw [HV.out]; unfold pairV)
    go_ret
    exact ⟨by rw [HC.out]; rfl, hb⟩

theorem infoInt : (Try.prog.info? 3).map (fun i => (i.zero, i.size, i.bytes)) = some (some (.int .i64 0), 1, 8) := by kernel_rfl

theorem exits_stop {zs : List Int} {k : Nat} (h : vrun 500 (zs.take (k + 1)) = none) (hk : k < zs.length) : exitsOf zs = exitsTo zs (k + 1) := by
  have key : ∀ j, exitsTo zs (k + 1 + j) = exitsTo zs (k + 1) := by
    intro j
    induction j with
    | zero => rfl
    | succ j ih =>
      rw [← Nat.add_assoc, exitsTo_succ, ih]
      have : vrun 500 (zs.take (k + 1 + j)) = none := by
        rw [List.take_add]
        exact vrun_none_append _ h
      have : confOf (zs.take (k + 1 + j)) = false := by unfold confOf; rw [this]
      rw [this]
      simp
  unfold exitsOf
  rw [show zs.length + 1 = k + 1 + (zs.length - k) by omega]
  exact key _

/-- What holds at the head of each round of Exits. -/
def EInv (w : World) (zs : List Int) (t : TypeId) (k : Nat) (g : Int) (B : Option Addr) (c : Nat) (wr : World) : Prop :=
  (0 ≤ g ∧ g ≤ 1000) ∧ vrun 500 (zs.take k) = some g ∧ wr.ownsRow w.heap.size t 1 (.slice B (exitsTo zs (k + 1)).length c) (exitsTo zs (k + 1)).length (ints (exitsTo zs (k + 1))) ∧
  (Value.slice B (exitsTo zs (k + 1)).length c).ownBlock ≠ some (w.heap.size + 1) ∧ (Value.slice B (exitsTo zs (k + 1)).length c).ownBlock ≠ some (w.heap.size + 1 + 1) ∧ VBox (w.heap.size + 1) wr g ∧ Below w.heap.size w wr
theorem own_set2 {w : World} {base : Nat} {e : TypeId} {v : Value} {n : Nat} {xs : List Value} {b b2 : Nat} (h : w.ownsRow base e 1 v n xs) (h1 : v.ownBlock ≠ some b) (h2 : v.ownBlock ≠ some b2) (x y : Value) :
    ((w.setCell ⟨b, 0, none⟩ x).setCell ⟨b2, 0, none⟩ y).ownsRow base e 1 v n xs :=
  (h.kept (grownBy_setCell' w b x) (.inr h1)).kept (grownBy_setCell' _ b2 y) (.inr h2)
theorem vbox_alloc {B : Nat} {W : World} {g : Int} (o : Obj) (h : VBox B W g) : VBox B (W.alloc o) g := by
  obtain ⟨h1, h2, h3, h4⟩ := h
  have l1 := World.block_lt_of_cell? _ _ h1
  have l2 := World.block_lt_of_cell? _ _ h3
  refine ⟨?_, ?_, ?_, ?_⟩
  · rw [World.cell?_alloc_lt _ _ _ l1]; exact h1
  · rw [World.frozen?_alloc_old _ _ _ (by simp at l1 ⊢; omega)]; exact h2
  · rw [World.cell?_alloc_lt _ _ _ l2]; exact h3
  · rw [World.frozen?_alloc_old _ _ _ (by simp at l2 ⊢; omega)]; exact h4
theorem vbox_grown {B : Nat} {W W' : World} {g : Int} {row : Option Nat} (hg : W.grownBy W' row) (h1 : row ≠ some B) (h2 : row ≠ some (B + 1)) (h : VBox B W g) : VBox B W' g :=
  ⟨grown_cell hg h.1 h1, (grown_frozen hg h.1 h1).trans h.2.1, grown_cell hg h.2.2.1 h2, (grown_frozen hg h.2.2.1 h2).trans h.2.2.2⟩

set_option maxRecDepth 100000 in
set_option maxHeartbeats 2000000 in
theorem vbvExits_any (a : Option Addr) (len cap : Nat) (zs : List Int) (w : World) (h : IsInts w a len zs) (hlen : len ≤ 1000000) :
    Calls Try.prog 18 #[.slice a len cap] w (RetInts (exitsOf zs) w) := by
  have H := Lib.hid h
  clear h
  obtain ⟨i0, hi0, hz0, hz1, hz2⟩ := info_parts infoInt
  obtain ⟨W0, hW0⟩ : ∃ W0, ((w.alloc (.cells #[.int .i64 0] 3)).alloc (.cells #[.int .i64 500] 3)).alloc (.cells #[.bool true] 4) = W0 := ⟨_, rfl⟩
  have hB0 : Below w.heap.size w W0 := by rw [← hW0]; exact (((Below.refl _ w).alloc (Nat.le_refl _) _).alloc (by simp) _).alloc (by simp; omega) _
  have hs0 : W0.heap.size = w.heap.size + 1 + 1 + 1 := by rw [← hW0]; simp
  have hV0 : VBox (w.heap.size + 1) W0 500 := by
    refine ⟨?_, ?_, ?_, ?_⟩ <;> rw [← hW0]
    · rw [World.cell?_alloc_lt _ _ _ (by simp)]; simp
    · rw [World.frozen?_alloc_old _ _ _ (by simp)]; simp
    · rw [World.cell?_alloc_at _ _ _ _ (by simp)]; rfl
    · rw [World.frozen?_alloc_at _ _ _ _ (by simp)]
  have hO0 : W0.ownsRow w.heap.size 3 1 (.slice (some ⟨w.heap.size, 0, none⟩) 1 1) 1 (ints (exitsTo zs (0 + 1))) := by
    rw [← hW0]
    exact ((own_new w 3 [.int .i64 0] (by simp [maxLen])).alloc _).alloc _
  have HW0 := Lib.hid hW0
  have HV0 := Lib.hid hV0
  have HO0 := Lib.hid hO0
  clear hW0 hV0 hO0
  go_enter Try.func18, Try.ntmps18
  go_wp2_with (go_at_call 23; refine (runner_any _ _ (by omega) (by omega)).mono ?_; rintro e w' ⟨rfl, rfl⟩; simp only [World.size_alloc]; rw [HW0.out])
  go_loopw [3, 13] (fun v i wr => ∃ (k : Nat) (g : Int) (B : Option Addr) (c : Nat), k ≤ len ∧ i = .int .i64 k ∧ v = .slice B (exitsTo zs (k + 1)).length c ∧ EInv w zs 3 k g B c wr) (fun _ i _ => len - (intOf i).toNat)
  case atStart =>
    exact ⟨0, 500, some ⟨w.heap.size, 0, none⟩, 1, Nat.zero_le _, rfl, rfl, ⟨by omega, by omega⟩, rfl, HO0.out, by simp [Value.ownBlock], by simp [Value.ownBlock]; omega, HV0.out, hB0⟩
  case round =>
    obtain ⟨k, g, B, c, hk, rfl, rfl, hg, hrun, hown, hn1, hn2, hV, hB⟩ := hrel
    have HR := Lib.hid hrun
    have HO := Lib.hid hown
    have HN1 := Lib.hid hn1
    have HN2 := Lib.hid hn2
    have HV := Lib.hid hV
    clear hrun hown hn1 hn2 hV
    by_cases hlt : k < len
    · obtain ⟨b, off, rfl, hbl, hcell⟩ := H.out.2.resolve_left (by omega)
      have hc : wr.cell? ⟨b, off + k, none⟩ = some (.int .i64 (zs.getD k 0)) := (hB.cell (p := ⟨b, off + k, none⟩) hbl).trans (hcell k hlt)
      have hkl : k < zs.length := by have := H.out.1; omega
      have hsn : vrun 500 (zs.take (k + 1)) = vstep g (zs.getD k 0) := by
        rw [take_getD hkl, vrun_snoc, HR.out]; rfl
      have HS := Lib.hid hsn
      have hne : w.heap.size + 1 + 1 ≠ w.heap.size + 1 := by omega
      have Hcl := Lib.hid (clos_any g (zs.getD k 0) (w.heap.size + 1) (w.heap.size + 1 + 1) wr hne HV.out.1 HV.out.2.1 HV.out.2.2.1 HV.out.2.2.2)
      have hlen2 := exitsTo_len zs (k + 1)
      have HE := Lib.hid (exitsTo_succ zs (k + 1))
      clear hsn hcell
      generalize zs.getD k 0 = s at *
      cases hv : vstep g s with
      | none =>
        have HF := Lib.hid (exits_stop (by rw [HS.out]; exact hv) hkl)
        rw [hv] at Hcl
        have HB := Lib.hid ((hB.setCell (p := ⟨w.heap.size + 1, 0, none⟩) (by simp) (.int .i64 0)).setCell (p := ⟨w.heap.size + 1 + 1, 0, none⟩) (by simp; omega) (.bool false))
        have HO2 := Lib.hid (own_set2 HO.out HN1.out HN2.out (.int .i64 0) (.bool false))
        clear hv HS
        generalize hL : exitsTo zs (k + 1) = L at *
        have HL := Lib.hid hL
        clear hL
        go_wp2_with (go_at_call 25; refine Hcl.out.mono ?_; rintro e w' ⟨rfl, rfl⟩; unfold pairV; simp only [Option.getD_none, Option.isSome_none]; clear Hcl)
        go_ret
        rw [HF.out]
        have f := own_facts HO2.out
        exact ⟨B, c, rfl, toInts (Rd.of_own HO2.out), f.1, f.2.1, f.2.2, HB.out⟩
      | some y =>
        have hy := vstep_bd hv
        rw [hv] at Hcl HS
        have hy2 : 0 ≤ y ∧ y ≤ 1000 := ⟨by omega, by omega⟩
        have hcf : confOf (zs.take (k + 1)) = decide (500 ≤ y) := by unfold confOf; rw [HS.out]
        rw [hcf] at HE
        have HB := Lib.hid ((hB.setCell (p := ⟨w.heap.size + 1, 0, none⟩) (by simp) (.int .i64 y)).setCell (p := ⟨w.heap.size + 1 + 1, 0, none⟩) (by simp; omega) (.bool true))
        have HO2 := Lib.hid (own_set2 HO.out HN1.out HN2.out (.int .i64 y) (.bool true))
        have HV2 := Lib.hid (vbox_set y HV.out)
        clear hv hy hcf
        by_cases h5 : 500 ≤ y
        · have hE : exitsTo zs (k + 1 + 1) = exitsTo zs (k + 1) ++ [((k + 1 : Nat) : Int)] := by rw [HE.out, decide_eq_true h5]; rfl
          have HE2 := Lib.hid hE
          clear hE HE
          generalize hL : exitsTo zs (k + 1) = L at *
          have HL := Lib.hid hL
          clear hL
          obtain ⟨wy, hwy⟩ : ∃ wy, (wr.setCell ⟨w.heap.size + 1, 0, none⟩ (.int .i64 y)).setCell ⟨w.heap.size + 1 + 1, 0, none⟩ (.bool true) = wy := ⟨_, rfl⟩
          have HWY := Lib.hid hwy
          rw [hwy] at HB HO2 HV2
          clear hwy
          have HN : Hid (Rd (wy.alloc (Obj.cells #[.int .i64 ((k : Int) + 1)] 3)) 1 (some ⟨wy.heap.size, 0, none⟩) 1 (ints [(k : Int) + 1])) := Lib.hid (ofInts (isInts_new wy 3 [(k : Int) + 1] (by simp [maxLen])))
          have HOa := Lib.hid (HO2.out.alloc (Obj.cells #[.int .i64 ((k : Int) + 1)] 3))
          have HBa := Lib.hid (HB.out.alloc HB.out.size (Obj.cells #[.int .i64 ((k : Int) + 1)] 3))
          have HVa := Lib.hid (vbox_alloc (Obj.cells #[.int .i64 ((k : Int) + 1)] 3) HV2.out)
          have hL2 : L.length ≤ 2000000 := by omega
          go_wp2_with (first
            | (go_at_call 25; refine Hcl.out.mono ?_; rintro e w' ⟨rfl, rfl⟩; simp only [Option.getD_some, Option.isSome_some]; rw [HWY.out]; unfold pairV; simp only [Option.getD_some, Option.isSome_some]; clear Hcl)
            | (at_builtin; refine wpList_append_rd (wy.alloc (Obj.cells #[.int .i64 ((k : Int) + 1)] 3)) rfl (.tmp 28) (.tmp 31) 22 rfl w.heap.size 3 i0 (.int .i64 0) 1 8 Try.underlying22 hi0 hz0 hz1 hz2 rfl (by decide) _ L.length (ints L) rfl HOa.out _ 1 _ (ints [(k : Int) + 1]) rfl (fun e => by cases e) HN.out (ints_ones _) (by unfold maxLen; omega) (by omega) HBa.out.size ?_; intro B1 c1 w4 hown1 hgrow1 hat1; have Hb1 := Lib.hid (HBa.out.grown hgrow1 HBa.out.size (own_ge HOa.out)); have Hown1 := Lib.hid hown1; have Hg1 := Lib.hid hgrow1; have Hat1 := Lib.hid hat1; clear hown1 hgrow1 hat1))
          have hLn : L.length + 1 = (exitsTo zs (k + 1 + 1)).length := by rw [HE2.out]; simp
          rw [hLn]
          go_roundw
          case rel =>
            refine ⟨k + 1, y, B1, c1, by omega, by go_num, rfl, hy2, HS.out, ?_, ?_, ?_, vbox_grown Hg1.out HN1.out HN2.out HVa.out, Hb1.out⟩
            · have := Hown1.out
              rw [hLn] at this
              rw [HE2.out] at this ⊢
              have e : ints (L ++ [((k + 1 : Nat) : Int)]) = ints L ++ ints [(k : Int) + 1] := List.map_append
              rw [e]
              exact this
            · rw [← hLn]
              have hsz := World.block_lt_of_cell? _ _ HVa.out.2.2.1
              rcases Hat1.out with h | h
              · rw [h]; exact HN1.out
              · rw [h]; simp at hsz ⊢; omega
            · rw [← hLn]
              have hsz := World.block_lt_of_cell? _ _ HV2.out.2.2.1
              rcases Hat1.out with h | h
              · rw [h]; exact HN2.out
              · rw [h]; simp at hsz ⊢; omega
          case measure => simp [intOf]; omega
        · have hE : exitsTo zs (k + 1 + 1) = exitsTo zs (k + 1) := by rw [HE.out, decide_eq_false h5]; simp
          have HE2 := Lib.hid hE
          clear hE HE
          have d5 : decide (500 ≤ y) = false := by simpa using h5
          go_wp2_with (go_at_call 25; refine Hcl.out.mono ?_; rintro e w' ⟨rfl, rfl⟩; unfold pairV; simp only [Option.getD_some, Option.isSome_some]; clear Hcl)
          rw [← HE2.out]
          go_roundw
          case rel => exact ⟨k + 1, y, B, c, by omega, by go_num, rfl, hy2, HS.out, by rw [HE2.out]; exact HO2.out, by rw [HE2.out]; exact HN1.out, by rw [HE2.out]; exact HN2.out, HV2.out, HB.out⟩
          case measure => simp [intOf]; omega
    · have hf : exitsTo zs (k + 1) = exitsOf zs := by
        unfold exitsOf; rw [show k = zs.length by have := H.out.1; omega]
      have HF := Lib.hid hf
      clear hf
      go_wp2_with fail
      go_ret
      rw [HF.out] at HO ⊢
      have f := own_facts HO.out
      exact ⟨B, c, rfl, toInts (Rd.of_own HO.out), f.1, f.2.1, f.2.2, hB⟩
end Go.Proofs.Ytbiniebonjcekaa
