/- Contract of padded, chapter 13. -/
import Derived.Test.YtbiniebonjcekaaVlawA
import Derived.Deep.RegionHeld3
namespace Go.Proofs.Ytbiniebonjcekaa
open Go.ChangeShapes Go.WideShapes Go.ChangeAt Go.RowKit
set_option linter.unusedVariables false

theorem own_at (w : World) (t : TypeId) (vs : List Value) (hl : vs.length ≤ maxLen) (base : Nat) (hb : base ≤ w.heap.size) : (w.alloc (.cells vs.toArray t)).ownsRow base t 1 (.slice (some ⟨w.heap.size, 0, none⟩) vs.length vs.length) vs.length vs :=
  ⟨by simp, .inr ⟨w.heap.size, vs.length, vs.toArray, rfl, hb, heap_alloc_new w _, Nat.le_refl _, hl, by simp, by simp⟩⟩
theorem own_at2 (w : World) (t : TypeId) (vs : List Value) (hl : vs.length ≤ maxLen) (base : Nat) (hb : base ≤ w.heap.size) (b : Nat) (he : b = w.heap.size) : (w.alloc (.cells vs.toArray t)).ownsRow base t 1 (.slice (some ⟨b, 0, none⟩) vs.length vs.length) vs.length vs := by
  subst he; exact own_at w t vs hl base hb
theorem rd_one {w w4 : World} {row : Option Nat} {b : Nat} {s : Int} (hg : w.grownBy w4 row) (h : w.cell? ⟨b, 0, none⟩ = some (.int .i64 s)) (hne : row ≠ some b) : Rd w4 1 (some ⟨b, 0, none⟩) 1 (ints [s]) := by
  have h4 := grown_cell hg h hne
  refine ⟨rfl, .inr ⟨b, 0, rfl, World.block_lt_of_cell? _ _ h4, fun i hi => ?_⟩⟩
  obtain rfl : i = 0 := by omega
  exact h4
theorem own_weak {w : World} {base base' : Nat} {t : TypeId} {size n : Nat} {v : Value} {xs : List Value} (h : w.ownsRow base' t size v n xs) (hb : base ≤ base') : w.ownsRow base t size v n xs := by
  obtain ⟨h1, h2⟩ := h
  refine ⟨h1, ?_⟩
  rcases h2 with h2 | ⟨g, cap, cur, hv, hg, r⟩
  · exact .inl h2
  · exact .inr ⟨g, cap, cur, hv, by omega, r⟩
theorem own_below {w w' : World} {base : Nat} {t : TypeId} {size n : Nat} {v : Value} {xs : List Value} (h : w.ownsRow base t size v n xs) (hb : Below w.heap.size w w') : w'.ownsRow base t size v n xs := by
  obtain ⟨h1, h2⟩ := h
  refine ⟨h1, ?_⟩
  rcases h2 with h2 | ⟨g, cap, cur, hv, hg, hh, r⟩
  · exact .inl h2
  · refine .inr ⟨g, cap, cur, hv, hg, ?_, r⟩
    rw [hb.block g (Array.getElem?_eq_some_iff.1 hh).1]
    exact hh
theorem own_frozen {w : World} {base : Nat} {t : TypeId} {size n g cap : Nat} {xs : List Value} (h : w.ownsRow base t size (.slice (some ⟨g, 0, none⟩) n cap) n xs) (j : Nat) : w.frozen? ⟨g, j, none⟩ = false := by
  rcases h.2 with ⟨h2, _⟩ | ⟨g', cap', cur, hv, hg, hh, r⟩
  · cases h2
  · cases hv
    simp [World.frozen?, hh]
theorem isInts_set {w : World} {a : Option Addr} {n : Nat} {zs : List Int} (h : IsInts w a n zs) {b o : Nat} (v : Value) (hne : ∀ off, a ≠ some ⟨b, off, none⟩) : IsInts (w.setCell ⟨b, o, none⟩ v) a n zs := by
  obtain ⟨h1, h2⟩ := h
  refine ⟨h1, ?_⟩
  rcases h2 with h2 | ⟨b', off, rfl, hb, hc⟩
  · exact .inl h2
  · refine .inr ⟨b', off, rfl, by simpa using hb, fun i hi => ?_⟩
    rw [World.cell?_setCell_other _ _ _ _ (by intro e; cases e; exact hne off rfl)]
    exact hc i hi
theorem pad_step {l : List Int} {g : Int} (h : vrun 500 l = some g) : ∃ g', vrun 500 (l ++ [0]) = some g' := by
  have hb := vrun_bd (by omega) h
  refine ⟨min 1000 (g + 100), ?_⟩
  rw [vrun_snoc, h]
  show vstep g 0 = _
  unfold vstep
  rw [if_neg (by omega), if_neg (by omega)]
  congr 1
  omega
theorem pad_conf {l : List Int} {g : Int} (h : vrun 500 l = some g) : confOf (l ++ [0, 0, 0, 0, 0]) = true := by
  have hb := vrun_bd (by omega) h
  rw [conf_iff]
  have := vbvIdle.law 5 g hb.1 hb.2
  refine ⟨min 1000 (g + (5 : Nat) * 100), ?_, by omega⟩
  rw [vrun_append, h]
  exact this
/-- What padded returns: a new slice of at most 65 sizes that conform. -/
def RetConf (w : World) (e : Ending) (w' : World) : Prop := ∃ P : List Int, confOf P = true ∧ P.length ≤ 65 ∧ RetInts P w e w'

set_option maxRecDepth 100000 in
set_option maxHeartbeats 4000000 in
theorem padded_any (a : Option Addr) (len cap : Nat) (zs : List Int) (w : World) (h : IsInts w a len zs) (hlen : len ≤ 9223372036854775807) (hwf : ∀ n ∈ zs, (Lit.int .i64 n).wf = true) :
    Calls Try.prog 22 #[.slice a len cap] w (RetConf w) := by
  have H := Lib.hid (h.below (balloc w (Obj.cells #[] 3)))
  have HWF := Lib.hid hwf
  clear h hwf
  obtain ⟨i0, hi0, hz0, hz1, hz2⟩ := info_parts infoInt
  have HO0 := Lib.hid (own_at w 3 [] (by simp) w.heap.size (Nat.le_refl _))
  go_enter Try.func22, Try.ntmps22
  go_wp2_with fail
  refine (some_any _ _ _ _ _ _ H.out (by omega) HWF.out).mono ?_
  rintro e w1 ⟨B, c, rfl, hI, hc1, hc2, hc3, c1⟩
  have hL := someOf_len zs false
  generalize someOf zs false = L at *
  have HL := Lib.hid hI
  have C1 := Lib.hid (bnext (balloc w (Obj.cells #[] 3)) c1)
  have HO1 : Hid (w1.ownsRow w.heap.size 3 1 (.slice (some ⟨w.heap.size, 0, none⟩) 0 0) 0 []) := Lib.hid (HO0.out.kept (row := none) ⟨c1.os, c1.tape, c1.output, c1.size, fun k hk _ => c1.block k hk⟩ (.inr (by simp [Value.ownBlock])))
  clear hI hc2 hc3 H HWF HO0 c1
  go_wp2_with fail
  go_loopw [3, 5] (fun v i wr => ∃ (k : Nat) (O : List Int) (g : Int) (D : Option Addr) (d : Nat), k ≤ L.length ∧ i = .int .i64 k ∧ O.length = k ∧ vrun 500 O = some g ∧ v = .slice D k d ∧ wr.ownsRow w.heap.size 3 1 (.slice D k d) k (ints O) ∧ Below w.heap.size w wr ∧ IsInts wr B L.length L) (fun _ i _ => L.length - (intOf i).toNat)
  case atStart => exact ⟨0, [], 500, some ⟨w.heap.size, 0, none⟩, 0, Nat.zero_le _, rfl, rfl, rfl, rfl, HO1.out, C1.out, HL.out⟩
  case round =>
    obtain ⟨k, O, g, D, d, hk, rfl, hOk, hOv, rfl, hown, hB, hIL⟩ := hrel
    have HOk := Lib.hid hOk
    have HOv := Lib.hid hOv
    have HO := Lib.hid hown
    have HB := Lib.hid hB
    have HIL := Lib.hid hIL
    clear hOk hOv hown hB hIL
    by_cases hlt : k < L.length
    · obtain ⟨b, off, rfl, hbl, hcl⟩ := HIL.out.2.resolve_left (by omega)
      have hc := hcl k hlt
      clear hcl
      generalize L.getD k 0 = s at *
      have h0i : (0 : Int) ≤ (k : Int) := Int.natCast_nonneg _
      have h1i : (k : Int) < (L.length : Int) := by omega
      have HR := Lib.hid (Rd.of_own HO.out)
      have HN : Hid (D = none → k = 0 ∧ d = 0) := Lib.hid (fun e => by have f := own_facts HO.out; have := f.2.2 e; omega)
      go_upto_region 6 with (fail)
      go_cut [6] (fun v wx => ∃ (D' : Option Addr) (d' : Nat), v = .slice D' (k + 1) d' ∧ wx.ownsRow wr.heap.size 3 1 (.slice D' (k + 1) d') (k + 1) (ints (O ++ [s])) ∧ Below wr.heap.size wr wx)
      case first =>
        go_region_law (first
            | (refine step_append_rd _ rfl (.tmp 18) (.tmp 19) 22 rfl wr.heap.size 3 i0 (.int .i64 0) 1 8 Try.underlying22 hi0 hz0 hz1 hz2 rfl (by decide) (.slice (some ⟨_, 0, none⟩) 0 0) 0 [] rfl (by first | exact own_at wr 3 [] (by simp) _ (Nat.le_refl _) | exact (own_at wr 3 [] (by simp) _ (Nat.le_refl _)).alloc _ | exact own_at2 (wr.alloc _) 3 [] (by simp) wr.heap.size (by simp) (wr.heap.size + 1) (by simp)) _ k _ (ints O) rfl HN.out (by refine HR.out.below ?_; repeat (first | exact Below.refl _ _ | refine Below.drew ?_ | refine Below.alloc ?_ (by simp) _)) (ints_ones _) (by unfold maxLen; omega) (by omega) (by simp; try omega) ?_; intro B1 c1 w4 hown1 hgrow1 hat1; have HBx : Hid (Below wr.heap.size wr w4) := Lib.hid (Below.grown (by repeat (first | exact Below.refl _ _ | refine Below.drew ?_ | refine Below.alloc ?_ (by simp) _)) hgrow1 (by simp; try omega) (fun k e => by cases e; simp; try omega)); simp only [Nat.zero_add, List.nil_append] at hown1; have Hown1 := Lib.hid hown1; have Hg1 := Lib.hid hgrow1; have hc4 := (HBx.out.cell (p := ⟨b, off + k, none⟩) hbl).trans hc; clear hown1 hgrow1 hat1)
            | (refine step_append_rd _ rfl (.tmp 20) (.tmp 25) 22 rfl wr.heap.size 3 i0 (.int .i64 0) 1 8 Try.underlying22 hi0 hz0 hz1 hz2 rfl (by decide) (.slice B1 k c1) k (ints O) rfl (by first | exact Hown1.out | exact Hown1.out.alloc _) _ 1 _ (ints [s]) rfl (fun e => by cases e) (by first | exact ofInts (isInts_new _ _ [s] (by simp [maxLen])) | exact rd_one Hg1.out (by simp) (by simp [Value.ownBlock])) (ints_ones _) (by unfold maxLen; omega) (by omega) (by have := HBx.out.size; simp; try omega) ?_; intro B2 c2 w5 hown2 hgrow2 hat2; have HBy : Hid (Below wr.heap.size wr w5) := Lib.hid (Below.grown (by first | exact HBx.out | exact HBx.out.alloc HBx.out.size _) hgrow2 (by have := HBx.out.size; simp; try omega) (own_ge Hown1.out)); have Hown2 := Lib.hid hown2; clear hown2 hgrow2 hat2))
        all_goals
          go_wp2_with fail
          go_meet
          refine ⟨B2, c2, rfl, ?_, HBy.out⟩
          have e : ints (O ++ [s]) = ints O ++ ints [s] := List.map_append
          rw [e]
          exact Hown2.out
      case rest =>
        obtain ⟨D', d', rfl, ho', hb'⟩ := hcut
        have HO' := Lib.hid (own_weak ho' HB.out.size)
        have HOr := Lib.hid ho'
        have HB' := Lib.hid (bnext HB.out hb')
        have HIL' := Lib.hid (HIL.out.below hb')
        have HI' : Hid (IsInts wc D' (k + 1) (O ++ [s])) := Lib.hid (toInts (Rd.of_own ho'))
        have hsn := vrun_snoc 500 O s
        rw [HOv.out] at hsn
        have HSN : Hid (vrun 500 (O ++ [s]) = vstep g s) := Lib.hid hsn
        have HPS := Lib.hid (pad_step HOv.out)
        have HR5 := Lib.hid (runOf_500 (O ++ [s]))
        clear ho' hb' hc HR HN hsn HIL HO
        cases hv : vstep g s with
        | none =>
          obtain ⟨g', hg'⟩ := HPS.out
          have HG := Lib.hid hg'
          have HV : Hid (runOf 500 (O ++ [s]) = none) := Lib.hid (HR5.out.trans (HSN.out.trans hv))
          obtain ⟨gb, cap', hform, hgr, hgl⟩ := HOr.out.form (by omega)
          obtain rfl : D' = some ⟨gb, 0, none⟩ := by injection hform
          have hgb : w.heap.size ≤ gb := Nat.le_trans HB.out.size hgr
          clear hv hg' hform HB
          go_wp2_with fail
          refine (vbvRun_any _ _ _ _ _ _ HI'.out (by omega)).mono ?_
          rintro e w6 ⟨rfl, c6⟩
          rw [HV.out]
          unfold pairV
          have HO6 : Hid (w6.ownsRow w.heap.size 3 1 (.slice (some ⟨gb, 0, none⟩) (k + 1) d') (k + 1) (ints (O ++ [s]))) := Lib.hid (own_below HO'.out c6)
          have hcl : w6.cell? ⟨gb, k, none⟩ = some (.int .i64 s) := by
            rw [HO6.out.cellAt k (by omega)]
            have hl : O.length = k := HOk.out
            simp [hl]
          have hfz : w6.frozen? ⟨gb, k, none⟩ = false := own_frozen HO6.out k
          have HS6 := Lib.hid (HO6.out.stored k (.int .i64 0)).1
          have HB6 := Lib.hid ((bnext HB'.out c6).setCell (p := ⟨gb, k, none⟩) hgb (.int .i64 0))
          have HIL6 := Lib.hid (isInts_set (HIL'.out.below c6) (b := gb) (o := k) (.int .i64 0) (by
            intro off' e
            cases e
            omega))
          go_wp2_with fail
          go_roundw
          case rel =>
            have hl : O.length = k := HOk.out
            have e : (ints (O ++ [s])).set k (.int .i64 0) = ints (O ++ [0]) := by
              simp [hl]
            exact ⟨k + 1, O ++ [0], g', some ⟨gb, 0, none⟩, d', by omega, by go_num, by simp [hl], HG.out, rfl, by rw [← e]; exact HS6.out, HB6.out, HIL6.out⟩
          case measure => simp [intOf]; omega
        | some y =>
          have HV : Hid (runOf 500 (O ++ [s]) = some y) := Lib.hid (HR5.out.trans (HSN.out.trans hv))
          have HY : Hid (vrun 500 (O ++ [s]) = some y) := Lib.hid (HSN.out.trans hv)
          clear hv
          go_wp2_with fail
          refine (vbvRun_any _ _ _ _ _ _ HI'.out (by omega)).mono ?_
          rintro e w6 ⟨rfl, c6⟩
          rw [HV.out]
          unfold pairV
          go_wp2_with fail
          go_roundw
          case rel => exact ⟨k + 1, O ++ [s], y, D', d', by omega, by go_num, by simp [HOk.out], HY.out, rfl, own_below HO'.out c6, bnext HB'.out c6, HIL'.out.below c6⟩
          case measure => simp [intOf]; omega
    · have hk2 : k = L.length := by omega
      have HC := Lib.hid (pad_conf HOv.out)
      have hOl := HOk.out
      have HN : Hid (Rd (wr.alloc (Obj.cells #[.int .i64 0, .int .i64 0, .int .i64 0, .int .i64 0, .int .i64 0] 3)) 1 (some ⟨wr.heap.size, 0, none⟩) 5 (ints [0, 0, 0, 0, 0])) := Lib.hid (ofInts (isInts_new wr 3 [0, 0, 0, 0, 0] (by simp [maxLen])))
      have HOa := Lib.hid (HO.out.alloc (Obj.cells #[.int .i64 0, .int .i64 0, .int .i64 0, .int .i64 0, .int .i64 0] 3))
      have HBa := Lib.hid (HB.out.alloc HB.out.size (Obj.cells #[.int .i64 0, .int .i64 0, .int .i64 0, .int .i64 0, .int .i64 0] 3))
      have HOl := Lib.hid hOl
      clear hk2 hOl
      go_wp2_with (at_builtin; refine wpList_append_rd _ rfl (.tmp 40) (.tmp 41) 22 rfl w.heap.size 3 i0 (.int .i64 0) 1 8 Try.underlying22 hi0 hz0 hz1 hz2 rfl (by decide) (.slice D k d) k (ints O) rfl HOa.out _ 5 _ (ints [0, 0, 0, 0, 0]) rfl (fun e => by cases e) HN.out (ints_ones _) (by unfold maxLen; omega) (by omega) HBa.out.size ?_; intro B1 c1 w4 hown1 hgrow1 hat1; have Hb1 := Lib.hid (HBa.out.grown hgrow1 HBa.out.size (own_ge HOa.out)); have Hown1 := Lib.hid hown1; clear hown1 hgrow1 hat1)
      go_ret
      have e : ints (O ++ [0, 0, 0, 0, 0]) = ints O ++ ints [0, 0, 0, 0, 0] := List.map_append
      have hlen5 : (O ++ [0, 0, 0, 0, 0]).length = k + 5 := by simp [HOl.out]
      have o := Hown1.out
      rw [← e, ← hlen5] at o
      have f := own_facts o
      exact ⟨O ++ [0, 0, 0, 0, 0], HC.out, by omega, B1, c1, by rw [hlen5]; rfl, toInts (Rd.of_own o), f.1, f.2.1, f.2.2, Hb1.out⟩
end Go.Proofs.Ytbiniebonjcekaa
