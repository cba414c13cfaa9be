/- The walk of OptoutAnnounced. -/
import Derived.Test.YtfpnjlfcnfjkdaaOptV
import Derived.Deep.RegionHeld3
namespace Go.Proofs.Ytfpnjlfcnfjkdaa.optoutAnnounced
open Go.ChangeShapes Go.WideShapes Go.ChangeAt Go.RowKit
set_option linter.unusedVariables false
theorem find_drop {es : List EvA} {fr : Int} {j : Nat} {e : EvA} (h : es[j]? = some e) : (es.drop j).find? (condE fr) = if condE fr e = true then some e else (es.drop (j + 1)).find? (condE fr) := by
  obtain ⟨hj, he⟩ := List.getElem?_eq_some_iff.1 h
  rw [List.drop_eq_getElem_cons hj, he]
  by_cases hc : condE fr e = true
  · rw [List.find?_cons_of_pos hc, if_pos hc]
  · rw [List.find?_cons_of_neg hc, if_neg hc]

theorem nextC_form (b : Option EvA) : ∃ s f A n c, nextC b = optC s f A n c := by
  cases b with
  | none => exact ⟨_, _, _, _, _, rfl⟩
  | some e => exact ⟨_, _, _, _, _, rfl⟩


set_option maxRecDepth 100000 in
set_option maxHeartbeats 16000000 in
theorem walk (l : Sl PcA) (w : World) (h : opPcs.ok w l) :
    Calls Try.prog 8 #[(opPcs.cells l).headD undef] w fun e w' => e = .returned (.bool true) ∧ Below w.heap.size w w' := by
  show Calls Try.prog 8 #[.slice l.A l.l.length l.c] w _
  have HL := Lib.hid h
  have hps : (l.l.take 12).length ≤ 12 := List.length_take_le _ _
  have hch := chain_mkEvs (l.l.take 12) hps
  have hlen : (mkEvs (l.l.take 12)).length ≤ 12 := by rw [mkEvs_len]; exact hps
  clear h
  go_enter Try.func8, Try.ntmps8
  go_wp2_with fail
  refine (sane_any _).mono ?_
  rintro e w1 ⟨rfl, bb⟩
  have hok1 : opPcs.ok w1 l := ⟨HL.out.1.below bb, fun p hp => by obtain ⟨q1, q2⟩ := HL.out.2.1 p hp; exact ⟨q1.below bb, q2⟩, HL.out.2.2⟩
  have HL1 := Lib.hid hok1
  have B1 := Lib.hid bb
  clear hok1 bb
  go_wp2_with fail
  refine (levents_any l w1 HL1.out).mono ?_
  rintro e w2 ⟨B, c, rfl, hev, hc1, hc2, _, bb⟩
  have B2 := Lib.hid (bnext B1.out bb)
  generalize mkEvs (l.l.take 12) = es at *
  have HEV := Lib.hid hev
  have HCH := Lib.hid hch
  clear hev hch bb hps HL HL1
  go_wp2_with fail
  go_loopw [5] (fun f wr => ∃ k : Nat, k ≤ 500 ∧ f = .int .i64 k ∧ Below w2.heap.size w2 wr) (fun f _ => 500 - (intOf f).toNat)
  case atStart => exact ⟨0, by omega, rfl, Below.refl _ _⟩
  case round =>
    obtain ⟨k, hk, rfl, hB0⟩ := hrel
    obtain ⟨wo, hwo⟩ : ∃ wo : World, wo = wr := ⟨_, rfl⟩
    rw [← hwo] at hB0 ⊢
    clear hwo
    by_cases hlt : k < 500
    · have X0 := Lib.hid (Box.new wo 24 (optC 0 0 none 0 0))
      have BW0 := Lib.hid (hB0.alloc hB0.size (.cells (optC 0 0 none 0 0) 24))
      have hki : decide ((k : Int) < 500) = true := by simp; omega
      go_wp2_with fail
      go_loopw [7] (fun i wr => ∃ j : Nat, j ≤ es.length ∧ i = .int .i64 ((j : Int) - 1) ∧ Box wr wo.heap.size 24 (nextC ((es.drop j).find? (condE k))) ∧ Below w2.heap.size w2 wr) (fun i _ => (intOf i + 1).toNat)
      case atStart => exact ⟨es.length, Nat.le_refl _, rfl, by rw [List.drop_length]; exact X0.out, BW0.out⟩
      case round =>
        obtain ⟨j, hj, rfl, hx, hBr⟩ := hrel
        have HX := Lib.hid hx
        have hwl : w2.heap.size ≤ wo.heap.size := hB0.size
        have hxl := hx.lt
        clear hx
        cases j with
        | zero =>
          have hF : nextE k es = es.find? (condE k) := next_chain k es 0 HCH.out (Int.le_refl _)
          simp only [List.drop_zero] at HX
          have hnf : nextP k es = outP (es.find? (condE k)) := by rw [nextP, hF]
          have hmem : ∀ e, es.find? (condE k) = some e → e ∈ es ∧ e.outs = true := fun e he => by
            refine ⟨List.mem_of_find?_eq_some he, ?_⟩
            have := List.find?_some he
            simp only [condE, Bool.and_eq_true] at this
            exact this.1
          obtain ⟨s, f, A', c', al, q1, q2, q3, q4, q5⟩ := nextC_facts (fr := k) HEV.out hmem
          rw [q1] at HX
          have HNP : Hid (nextP k es = ⟨s, f, al⟩) := Lib.hid (by rw [hnf, q2])
          have HAL := Lib.hid q3
          have d0 := HX.out.cell (i := 0) rfl
          have d1 := HX.out.cell (i := 1) rfl
          have d2 := HX.out.cell (i := 2) rfl
          have hal : al.length ≤ maxLen := by unfold maxLen; omega
          have BR := Lib.hid hBr
          clear hF hnf hmem q1 q2 q3 q5
          go_wp2_with fail
          go_region_held3 (fun w' => w'.cell? ⟨wo.heap.size, 0, none⟩ = some (.int .i64 s) ∧ w'.cell? ⟨wo.heap.size, 1, none⟩ = some (.int .i64 f) ∧ w'.cell? ⟨wo.heap.size, 2, none⟩ = some (.slice A' al.length c') ∧ Below w2.heap.size w2 w')
            (first
              | (go_split_ands; exact ⟨below_cell bb (by assumption), below_cell bb (by assumption), below_cell bb (by assumption), bnext (by assumption) bb⟩)
              | (refine ⟨d0, d1, d2, BR.out.drew⟩)
              | (go_split_ands; refine ⟨?_, ?_, ?_, ?_⟩ <;> assumption))
            (first
              | (go_at_call 18; go_split_ands; refine (next_any B es.length c k es _ (HEV.out.below (by assumption)) (by omega)).mono ?_; rw [HNP.out]; rintro e w5 ⟨B5, c5, rfl, y1, y2, y3, _, bb, _⟩; have Y1 := Lib.hid y1; have hl5 : al.length ≤ maxLen := hal; clear y1 y2 y3)
              | (go_at_call 15; go_split_ands; refine (same_any s f B5 al.length c5 al s f A' al.length c' al _ Y1.out (HAL.out.below (by assumption)) hal).mono ?_; rintro e w6 ⟨rfl, bb⟩; rw [sameP_refl]))
          go_split_ands
          go_wp2_with fail
          go_roundw
          case rel => exact ⟨k + 1, by omega, by go_num, by assumption⟩
          case measure => simp [intOf]; omega
        | succ j =>
          obtain ⟨t0, g0, D0, m0, e0, hn3⟩ := nextC_form ((es.drop (j + 1)).find? (condE k))
          have HN3 := Lib.hid hn3
          rw [hn3] at HX
          clear hn3
          obtain ⟨b, off, e, hA, hbl, he, hcell⟩ := HEV.out.at_ (i := j) (by omega)
          cases hA
          have hmem : e ∈ es := List.mem_of_getElem? he
          have hchm := HCH.out.mem e hmem
          have hcells : ∀ q v, e.cells[q]? = some v → wr.cell? ⟨b, off + (j * 7 + q), none⟩ = some v := fun q v hv => (hBr.cell (p := ⟨b, off + (j * 7 + q), none⟩) hbl).trans (hcell q v hv)
          have HFD := Lib.hid (find_drop (fr := k) he)
          have HOK := Lib.hid ((HEV.out.2.2 e hmem).1.below hBr)
          obtain ⟨ev, A', c', al⟩ := e
          obtain ⟨x1, x2, s, f, i, x4⟩ := ev
          have c0 := hcells 0 _ rfl
          have c1 := hcells 1 _ rfl
          have c2 := hcells 2 _ rfl
          have c3 := hcells 3 _ rfl
          have c4 := hcells 4 _ rfl
          have c5 := hcells 5 _ rfl
          have c6 := hcells 6 _ rfl
          simp only [Nat.add_zero, ← Nat.add_assoc] at c0 c1 c2 c3 c4 c5 c6
          simp only at hchm
          obtain ⟨g1, g2, g3, g4⟩ := hchm
          have hbr : b < wr.heap.size := Nat.lt_of_lt_of_le hbl hBr.size
          have hji : ((j + 1 : Nat) : Int) - 1 = (j : Int) := by omega
          rw [hji]
          clear hcells hcell he hmem hji
          have q2 : Below wr.heap.size wr ((wr.alloc (.cells (evCells ⟨x1, x2, s, f, i, x4⟩ A' al.length c') 45)).alloc (.cells (optC (s - i) (f + i) A' al.length c') 24)) := ((Below.refl _ _).alloc (Nat.le_refl _) _).alloc (by simp) _
          have Q2 := Lib.hid q2
          have HOK2 := Lib.hid (HOK.out.below q2)
          have E2 := Lib.hid ((Box.new wr 45 (evCells ⟨x1, x2, s, f, i, x4⟩ A' al.length c')).next (balloc _ (.cells (optC (s - i) (f + i) A' al.length c') 24)))
          have o2 := Box.new (wr.alloc (.cells (evCells ⟨x1, x2, s, f, i, x4⟩ A' al.length c') 45)) 24 (optC (s - i) (f + i) A' al.length c')
          rw [World.size_alloc] at o2
          have O2 := Lib.hid o2
          clear q2 o2
          go_wp2_with fail
          refine (valid_any (s - i) (f + i) A' al.length c' al _ HOK2.out).mono ?_
          rintro e w1 ⟨rfl, bw⟩
          clear c0 c1 c2 c3 c4 c5 c6
          have hE := E2.out.next bw
          have hO := O2.out.next bw
          have c2 := hE.cell (i := 2) rfl
          have c3 := hE.cell (i := 3) rfl
          have c4 := hE.cell (i := 4) rfl
          have o0 := hO.cell (i := 0) rfl
          have o1 := hO.cell (i := 1) rfl
          have o2 := hO.cell (i := 2) rfl
          have hb1 := Q2.out.trans (bw.mono Q2.out.size)
          have hX1 := HX.out.next hb1
          have y0 := hX1.cell (i := 0) rfl
          have y1 := hX1.cell (i := 1) rfl
          have y2 := hX1.cell (i := 2) rfl
          have z0 := hX1.frozen 0
          have z1 := hX1.frozen 1
          have z2 := hX1.frozen 2
          have HX1 := Lib.hid hX1
          have HB1 := Lib.hid (bnext hBr hb1)
          clear hX1 hE hO hb1 bw HX Q2 HOK HOK2 E2 O2
          by_cases hv : validP (s - i) (f + i) al = true
          · have hou : EvA.outs ⟨⟨x1, x2, s, f, i, x4⟩, A', c', al⟩ = true := by simp [EvA.outs, hv, Ev.inBad]; omega
            rw [hv]
            have HOU := Lib.hid hou
            clear hv hou
            by_cases h1 : (k : Int) < s
            · by_cases h2 : s ≤ (k : Int) + 20
              · by_cases h3 : i = 0
                · have h3' : (i == 0) = true := by simpa using h3
                  have HI0 := Lib.hid h3
                  clear h3
                  have HYE : Hid (condE k ⟨⟨x1, x2, s, f, i, x4⟩, A', c', al⟩ = true) := Lib.hid (by rw [condE,HOU.out]; simp [EvA.takes,Ev.follows,h1,HI0.out]; omega)
                  have HRX : Hid (Box (((w1.setCell ⟨wo.heap.size, 0, none⟩ (.int .i64 (s - i))).setCell ⟨wo.heap.size, 1, none⟩ (.int .i64 (f + i))).setCell ⟨wo.heap.size, 2, none⟩ (.slice A' al.length c')) wo.heap.size 24 (nextC ((es.drop j).find? (condE k)))) := Lib.hid (by
                    rw [HFD.out, if_pos HYE.out]
                    have := ((HX1.out.set (i := 0) (.int .i64 (s - i))).set (i := 1) (.int .i64 (f + i))).set (i := 2) (.slice A' al.length c')
                    simpa using this)
                  have HRB := Lib.hid (((HB1.out.setCell (p := ⟨wo.heap.size, 0, none⟩) hwl (.int .i64 (s - i))).setCell (p := ⟨wo.heap.size, 1, none⟩) hwl (.int .i64 (f + i))).setCell (p := ⟨wo.heap.size, 2, none⟩) hwl (.slice A' al.length c'))
                  go_wp2_with fail
                  go_roundw
                  case rel => first | exact ⟨j, by omega, rfl, HRX.out, HRB.out⟩ | ((repeat apply Exists.intro); exact ⟨⟨j, by omega, rfl, HRX.out, HRB.out⟩, rfl⟩)
                  case measure => simp [intOf] <;> omega
                · have h3' : (i == 0) = false := by simpa using h3
                  have HNO : Hid (condE k ⟨⟨x1, x2, s, f, i, x4⟩, A', c', al⟩ = false) := Lib.hid (by simp [condE,EvA.takes,Ev.follows,Ev.runs,h3']; omega)
                  have HRX : Hid (Box w1 wo.heap.size 24 (nextC ((es.drop j).find? (condE k)))) := Lib.hid (by rw [HFD.out, if_neg (by rw [HNO.out]; simp), HN3.out]; exact HX1.out)
                  go_wp2_with fail
                  go_roundw
                  case rel => first | exact ⟨j, by omega, rfl, HRX.out, HB1.out⟩ | ((repeat apply Exists.intro); exact ⟨⟨j, by omega, rfl, HRX.out, HB1.out⟩, rfl⟩)
                  case measure => simp [intOf] <;> omega
              · have HNO : Hid (condE k ⟨⟨x1, x2, s, f, i, x4⟩, A', c', al⟩ = false) := Lib.hid (by simp [condE,EvA.takes,Ev.follows,Ev.runs]; omega)
                have HRX : Hid (Box w1 wo.heap.size 24 (nextC ((es.drop j).find? (condE k)))) := Lib.hid (by rw [HFD.out, if_neg (by rw [HNO.out]; simp), HN3.out]; exact HX1.out)
                go_wp2_with fail
                go_roundw
                case rel => first | exact ⟨j, by omega, rfl, HRX.out, HB1.out⟩ | ((repeat apply Exists.intro); exact ⟨⟨j, by omega, rfl, HRX.out, HB1.out⟩, rfl⟩)
                case measure => simp [intOf] <;> omega
            · by_cases h5 : (k : Int) < s + f
              · have HYE : Hid (condE k ⟨⟨x1, x2, s, f, i, x4⟩, A', c', al⟩ = true) := Lib.hid (by simp [condE,HOU.out,Ev.runs,h5]; omega)
                have HRX : Hid (Box (((w1.setCell ⟨wo.heap.size, 0, none⟩ (.int .i64 (s - i))).setCell ⟨wo.heap.size, 1, none⟩ (.int .i64 (f + i))).setCell ⟨wo.heap.size, 2, none⟩ (.slice A' al.length c')) wo.heap.size 24 (nextC ((es.drop j).find? (condE k)))) := Lib.hid (by
                  rw [HFD.out, if_pos HYE.out]
                  have := ((HX1.out.set (i := 0) (.int .i64 (s - i))).set (i := 1) (.int .i64 (f + i))).set (i := 2) (.slice A' al.length c')
                  simpa using this)
                have HRB := Lib.hid (((HB1.out.setCell (p := ⟨wo.heap.size, 0, none⟩) hwl (.int .i64 (s - i))).setCell (p := ⟨wo.heap.size, 1, none⟩) hwl (.int .i64 (f + i))).setCell (p := ⟨wo.heap.size, 2, none⟩) hwl (.slice A' al.length c'))
                go_wp2_with fail
                go_roundw
                case rel => first | exact ⟨j, by omega, rfl, HRX.out, HRB.out⟩ | ((repeat apply Exists.intro); exact ⟨⟨j, by omega, rfl, HRX.out, HRB.out⟩, rfl⟩)
                case measure => simp [intOf] <;> omega
              · have HNO : Hid (condE k ⟨⟨x1, x2, s, f, i, x4⟩, A', c', al⟩ = false) := Lib.hid (by simp [condE,EvA.takes,Ev.follows,Ev.runs,h1,h5])
                have HRX : Hid (Box w1 wo.heap.size 24 (nextC ((es.drop j).find? (condE k)))) := Lib.hid (by rw [HFD.out, if_neg (by rw [HNO.out]; simp), HN3.out]; exact HX1.out)
                go_wp2_with fail
                go_roundw
                case rel => first | exact ⟨j, by omega, rfl, HRX.out, HB1.out⟩ | ((repeat apply Exists.intro); exact ⟨⟨j, by omega, rfl, HRX.out, HB1.out⟩, rfl⟩)
                case measure => simp [intOf] <;> omega
          · have hv' : validP (s - i) (f + i) al = false := by simpa using hv
            rw [hv']
            have HOU : Hid (EvA.outs ⟨⟨x1, x2, s, f, i, x4⟩, A', c', al⟩ = false) := Lib.hid (by simp [EvA.outs, hv'])
            clear hv hv'
            have HNO : Hid (condE k ⟨⟨x1, x2, s, f, i, x4⟩, A', c', al⟩ = false) := Lib.hid (by simp [condE,HOU.out])
            have HRX : Hid (Box w1 wo.heap.size 24 (nextC ((es.drop j).find? (condE k)))) := Lib.hid (by rw [HFD.out, if_neg (by rw [HNO.out]; simp), HN3.out]; exact HX1.out)
            go_wp2_with fail
            go_roundw
            case rel => first | exact ⟨j, by omega, rfl, HRX.out, HB1.out⟩ | ((repeat apply Exists.intro); exact ⟨⟨j, by omega, rfl, HRX.out, HB1.out⟩, rfl⟩)
            case measure => simp [intOf] <;> omega
    · go_wp2_with fail
      go_ret
      exact ⟨rfl, bnext B2.out hB0⟩
end Go.Proofs.Ytfpnjlfcnfjkdaa.optoutAnnounced
