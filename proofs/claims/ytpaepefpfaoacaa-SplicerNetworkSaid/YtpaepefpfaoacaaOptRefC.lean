/- Contract of the reference's Next of chapter 17. -/
import Derived.Test.YtpaepefpfaoacaaOptRefB
namespace Go.Proofs.Ytpaepefpfaoacaa
open Go.ChangeShapes Go.WideShapes Go.ChangeAt Go.RowKit
set_option linter.unusedVariables false

theorem rofP_out (e : EvA) : (rofP e).2 = (e.ev.placed && e.outs) := by
  unfold rofP EvA.outs
  by_cases h1 : e.ev.placed = true <;> by_cases h2 : e.ev.inBad = true <;> simp [h1, h2]
theorem rofP_val {e : EvA} (h : (rofP e).2 = true) : (rofP e).1 = outP (some e) ∧ e.ev.placed = true ∧ e.outs = true := by
  rw [rofP_out, Bool.and_eq_true] at h
  have h3 : e.ev.inBad = false := by
    have := h.2
    simp only [EvA.outs, Bool.and_eq_true, Bool.not_eq_true'] at this
    exact this.1
  unfold rofP
  rw [if_pos ⟨h.1, h3⟩]
  exact ⟨rfl, h⟩
theorem opts_plac_take {es : List EvA} {k : Nat} {e : EvA} (h : es[k]? = some e) : opts (plac (es.take (k + 1))) = opts (plac (es.take k)) ++ (if (rofP e).2 = true then [e] else []) := by
  rw [plac_take h, rofP_out]
  by_cases h1 : e.ev.placed = true <;> by_cases h2 : e.outs = true <;> simp [opts, h1, h2]
theorem plac_find {es : List EvA} {fr : Int} {k : Nat} {e : EvA} (h : es[k]? = some e) (h0 : ∀ y ∈ plac (es.take k), y.ev.runs fr = false) (hp : e.ev.placed = true) (hr : e.ev.runs fr = true) : (plac es).find? (fun e => e.ev.runs fr) = some e := by
  have h1 : plac (es.take (k + 1)) = plac (es.take k) ++ [e] := by rw [plac_take h, if_pos hp]
  have h2 := take_pre (l := es) (k + 1)
  rw [h1] at h2
  exact find_pre h2 h0 hr
theorem plac_step {es : List EvA} {fr : Int} {k : Nat} {e : EvA} (h : es[k]? = some e) (h0 : ∀ y ∈ plac (es.take k), y.ev.runs fr = false) (hp : e.ev.placed = true → e.ev.runs fr = false) : ∀ y ∈ plac (es.take (k + 1)), y.ev.runs fr = false := by
  intro y hy
  rw [plac_take h] at hy
  rcases List.mem_append.1 hy with hy | hy
  · exact h0 y hy
  · by_cases h1 : e.ev.placed = true
    · rw [if_pos h1] at hy
      simp only [List.mem_cons, List.not_mem_nil, or_false] at hy
      subst hy
      exact hp h1
    · rw [if_neg h1] at hy
      cases hy
/-- An event that is announced has frames. -/
theorem annP_frames {fr : Int} {es : List EvA} {e : EvA} (h : annP fr (opts (plac es)) = some e) : 1 ≤ e.ev.frames + e.ev.inn := by
  have h1 := annP_mem h
  simp only [opts, plac, List.mem_filter] at h1
  have hp := Ev.placed_bd h1.1.2
  have h3 : e.ev.inBad = false := by
    have := h1.2
    simp only [EvA.outs, Bool.and_eq_true, Bool.not_eq_true'] at this
    exact this.1
  simp only [Ev.inBad, Bool.or_eq_false_iff, decide_eq_false_iff_not] at h3
  omega

set_option maxRecDepth 100000 in
set_option maxHeartbeats 16000000 in
theorem rnext_any (A : Option Addr) (m c : Nat) (fr : Int) (es : List EvA) (w : World) (hI : IsEvs w A m es) (hm : m ≤ 9223372036854775807) :
    Calls Try.prog 35 #[.slice A m c, .int .i64 fr] w (RetOpt (nextP fr es).s (nextP fr es).f (nextP fr es).al w) := by
  have HI := Lib.hid hI
  have hml := hI.1
  have b0 := balloc w (.cells zero3 44)
  have X0 := Lib.hid (Box.new w 44 zero3)
  clear hI
  go_enter Try.func35, Try.ntmps35
  go_wp2_with fail
  go_loopw [5] (fun q wr => ∃ (k : Nat), k ≤ m ∧ q = .int .i64 k ∧ (∀ y ∈ plac (es.take k), y.ev.runs fr = false) ∧ Box wr w.heap.size 44 zero3 ∧ Below w.heap.size w wr) (fun q _ => m - (intOf q).toNat)
  case atStart => exact ⟨0, Nat.zero_le _, rfl, by simp, X0.out, b0⟩
  case round =>
    obtain ⟨k, hk, rfl, hnone, hres, hBr⟩ := hrel
    have HNO := Lib.hid hnone
    have HRE := Lib.hid hres
    clear hnone hres
    by_cases hlt : k < m
    · obtain ⟨b, off, e, rfl, hbl, he, hcell⟩ := HI.out.at_ hlt
      have hc : ∀ (w5 : World), Below w.heap.size w w5 → ∀ j v, e.cells[j]? = some v → w5.cell? ⟨b, off + (k * 7 + j), none⟩ = some v := fun w5 b5 j v hv => (b5.cell (p := ⟨b, off + (k * 7 + j), none⟩) hbl).trans (hcell j v hv)
      have HC := Lib.hid hc
      have hmem : e ∈ es := List.mem_of_getElem? he
      have HOK : Hid (∀ w5, Below w.heap.size w w5 → e.ok w5) := Lib.hid (fun w5 b5 => (HI.out.2.2 e hmem).below b5)
      have HST : Hid ((e.ev.placed = true → e.ev.runs fr = false) → ∀ y ∈ plac (es.take (k + 1)), y.ev.runs fr = false) := Lib.hid (plac_step he HNO.out)
      have HFI : Hid (e.ev.placed = true → e.ev.runs fr = true → (plac es).find? (fun e => e.ev.runs fr) = some e) := Lib.hid (plac_find he HNO.out)
      clear hc hcell he
      obtain ⟨ev, A', c', al⟩ := e
      obtain ⟨x1, x2, s, f, i, x4⟩ := ev
      have c0 := HC.out wr hBr 0 _ rfl
      have c1 := HC.out wr hBr 1 _ rfl
      have c2 := HC.out wr hBr 2 _ rfl
      have c3 := HC.out wr hBr 3 _ rfl
      have c4 := HC.out wr hBr 4 _ rfl
      have c5 := HC.out wr hBr 5 _ rfl
      have c6 := HC.out wr hBr 6 _ rfl
      simp only [Nat.add_zero, ← Nat.add_assoc] at c0 c1 c2 c3 c4 c5 c6
      go_wp2_with fail
      refine (rplaced_any ⟨x1, x2, s, f, i, x4⟩ A' al.length c' wr).mono ?_
      rintro r w1 ⟨rfl, bw⟩
      have BW1 := bnext hBr bw
      clear c0 c1 c2 c3 c4 c5 c6
      have c0 := HC.out w1 BW1 0 _ rfl
      have c1 := HC.out w1 BW1 1 _ rfl
      have c2 := HC.out w1 BW1 2 _ rfl
      have c3 := HC.out w1 BW1 3 _ rfl
      have c4 := HC.out w1 BW1 4 _ rfl
      have c5 := HC.out w1 BW1 5 _ rfl
      have c6 := HC.out w1 BW1 6 _ rfl
      simp only [Nat.add_zero, ← Nat.add_assoc] at c0 c1 c2 c3 c4 c5 c6
      have hb1 : b < w1.heap.size := Nat.lt_of_lt_of_le hbl BW1.size
      have h0i : (0 : Int) ≤ (k : Int) := Int.natCast_nonneg _
      have h1i : (k : Int) < (m : Int) := by omega
      by_cases hp : Ev.placed ⟨x1, x2, s, f, i, x4⟩ = true
      · obtain ⟨p1, p2⟩ := Ev.placed_bd hp
        simp only at p1 p2
        rw [hp]
        by_cases hr1 : s ≤ fr
        · by_cases hr2 : fr < s + f
          · -- it runs
            have hrun : Ev.runs ⟨x1, x2, s, f, i, x4⟩ fr = true := by simp [Ev.runs, hr1, hr2]
            have HFI2 := Lib.hid (HFI.out hp hrun)
            have wr1 : IntKind.i64.wrap (s + f) = s + f := IntWalk.i64_in _ (by omega)
            go_upto_region 5 with (fail)
            go_quiet (fail)
            clear wr1 h0i h1i
            go_wp2_with fail
            refine (rof_any ⟨⟨x1, x2, s, f, i, x4⟩, A', c', al⟩ _ (HOK.out _ (below_drewN BW1 _))).mono ?_
            rintro r w5 ⟨B, c5', rfl, g1, g2, g3, g4, g5, g6⟩
            have hBB := bnext (below_drewN BW1 _) g5
            have HR5 := Lib.hid ((HRE.out.next (below_drewN bw _)).next g5)
            have hwl : w.heap.size < w1.heap.size := (HRE.out.next bw).lt
            have h6 : Hid (∀ b' off, B = some ⟨b', off, none⟩ → w.heap.size < b') := Lib.hid (fun b' off e => Nat.lt_of_lt_of_le hwl (g6 b' off e))
            by_cases ho : (rofP ⟨⟨x1, x2, s, f, i, x4⟩, A', c', al⟩).2 = true
            · obtain ⟨hv1, hv2, hv3⟩ := rofP_val ho
              have HQ : Hid (nextP fr es = ⟨s - i, f + i, al⟩) := Lib.hid (by
                have : nextE fr es = some ⟨⟨x1, x2, s, f, i, x4⟩, A', c', al⟩ := by unfold nextE; rw [HFI2.out]; simp [hv3]
                rw [nextP, this]
                rfl)
              rw [ho]
              rw [hv1] at g1 g2
              rw [hv1]
              simp only [outP] at g1 g2 ⊢
              have r0 := HR5.out.cell (i := 0) rfl
              have r1 := HR5.out.cell (i := 1) rfl
              have r2 := HR5.out.cell (i := 2) rfl
              have f0 := HR5.out.frozen 0
              have f1 := HR5.out.frozen 1
              have f2 := HR5.out.frozen 2
              have hl5 := HR5.out.lt
              have HG := Lib.hid (And.intro g1 (And.intro g2 (And.intro g3 g4)))
              have HBB := Lib.hid hBB
              clear g1 g2 g3 g4 g5 g6 hv1 hv2 hv3 ho hBB
              go_wp2_with fail
              refine ret_opt Try.results35 rfl ((((HR5.out.set (i := 0) (.int .i64 (s - i))).set (i := 1) (.int .i64 (f + i))).set (i := 2) (.slice B al.length c5')).next (balloc _ _)) rfl ?_
              rw [HQ.out]
              have hq := ((HBB.out.setCell (p := ⟨w.heap.size, 0, none⟩) (Nat.le_refl _) (.int .i64 (s - i))).setCell (p := ⟨w.heap.size, 1, none⟩) (Nat.le_refl _) (.int .i64 (f + i))).setCell (p := ⟨w.heap.size, 2, none⟩) (Nat.le_refl _) (.slice B al.length c5')
              exact ⟨B, c5', rfl, ⟨rfl, (((HG.out.1.2.set _ h6.out).set _ h6.out).set _ h6.out).below (balloc _ _)⟩, HG.out.2.1, HG.out.2.2.1, HG.out.2.2.2, hq.alloc hq.size _, fun b off e => Nat.le_of_lt (h6.out b off e)⟩
            · have ho' : (rofP ⟨⟨x1, x2, s, f, i, x4⟩, A', c', al⟩).2 = false := by simpa using ho
              have HN : Hid (nextE fr es = annP fr (opts (plac es))) := Lib.hid (by
                unfold nextE
                rw [HFI2.out]
                have : EvA.outs ⟨⟨x1, x2, s, f, i, x4⟩, A', c', al⟩ = false := by
                  rw [rofP_out, hp] at ho'
                  simpa using ho'
                simp [this])
              rw [ho']
              clear ho ho' g1 g2 g3 g4 g6 HFI HFI2 HST HC HOK
              generalize rofP ⟨⟨x1, x2, s, f, i, x4⟩, A', c', al⟩ = oo at *
              obtain ⟨⟨s2, f2, al2⟩, v2⟩ := oo
              simp only at *
              obtain ⟨W0, hW0⟩ : ∃ W0, W0 = w5.alloc (.cells (optC s2 f2 B al2.length c5') 44) := ⟨_, rfl⟩
              have HX0 : Hid (Box W0 w.heap.size 44 zero3) := Lib.hid (by rw [hW0]; exact HR5.out.next (balloc _ _))
              have BW : Hid (Below w.heap.size w W0) := Lib.hid (by rw [hW0]; exact hBB.alloc hBB.size _)
              go_upto_region 9 with (fail)
              rw [← hW0]
              clear hW0 hBB g5 HR5 h6 bw BW1 hBr HRE HNO c0 c1 c2 c3 c4 c5 c6
              go_wp2_with fail
              go_loopw [10] (fun q wr => ∃ (k : Nat), k ≤ m ∧ q = .int .i64 k ∧ NextRes W0.heap.size (outP (annP fr (opts (plac (es.take k))))) wr ∧ Box wr w.heap.size 44 zero3 ∧ Below w.heap.size w wr) (fun q _ => m - (intOf q).toNat)
              case atStart => exact ⟨0, Nat.zero_le _, rfl, ⟨none, 0, ⟨Box.new _ _ _, Rd.nil _ _ _⟩, Nat.le_refl _, Nat.zero_le _, fun _ => rfl, (fun b off e => by cases e)⟩, HX0.out.next (balloc _ _), (BW.out.alloc BW.out.size _)⟩
              case round =>
                obtain ⟨k, hk, rfl, hbest, hres, hBr⟩ := hrel
                have HBE := Lib.hid hbest
                have HRE := Lib.hid hres
                have hwz : w.heap.size < W0.heap.size := HX0.out.lt
                clear hbest hres
                by_cases hlt : k < m
                · obtain ⟨b, off, e, hA, hbl, he, hcell⟩ := HI.out.at_ hlt
                  cases hA
                  have hc : ∀ j v, e.cells[j]? = some v → wr.cell? ⟨b, off + (k * 7 + j), none⟩ = some v := fun j v hv => (hBr.cell (p := ⟨b, off + (k * 7 + j), none⟩) hbl).trans (hcell j v hv)
                  have hmem : e ∈ es := List.mem_of_getElem? he
                  have HOK := Lib.hid ((HI.out.2.2 e hmem).below hBr)
                  have HK := Lib.hid (opts_plac_take he)
                  have hgr := HBE.out
                  have hrw : wr.heap.size = wr.heap.size := rfl
                  have hkk : Hid (∀ (w5 : World), Below wr.heap.size wr w5 → w5.cell? ⟨b, off + (k * 7 + 4), none⟩ = wr.cell? ⟨b, off + (k * 7 + 4), none⟩) := Lib.hid (fun w5 b5 => b5.cell (p := ⟨b, off + (k * 7 + 4), none⟩) (Nat.lt_of_lt_of_le hbl hBr.size))
                  -- what a round leaves that takes nothing
                  have SKIP : Hid (∀ w5, Below wr.heap.size wr w5 → ((rofP e).2 = true → e.takes fr = true → False) → NextRes W0.heap.size (outP (annP fr (opts (plac (es.take (k + 1)))))) w5 ∧ Box w5 w.heap.size 44 zero3 ∧ Below w.heap.size w w5) := Lib.hid (fun w5 b5 hn => by
                    refine ⟨?_, HRE.out.next b5, bnext hBr b5⟩
                    have e1 : annP fr (opts (plac (es.take (k + 1)))) = annP fr (opts (plac (es.take k))) := by
                      rw [HK.out]
                      by_cases h1 : (rofP e).2 = true
                      · rw [if_pos h1, annP_snoc, if_neg (fun h2 => hn h1 h2)]
                      · rw [if_neg h1, List.append_nil]
                    rw [e1]
                    exact OwnFrom.below (nextRes_own (β := Unit) 0 _ _) (s := ()) HBE.out b5)
                  obtain ⟨ev, A', c', al⟩ := e
                  obtain ⟨x1, x2, s, f, i, x4⟩ := ev
                  have c0 := hc 0 _ rfl
                  have c1 := hc 1 _ rfl
                  have c2 := hc 2 _ rfl
                  have c3 := hc 3 _ rfl
                  have c4 := hc 4 _ rfl
                  have c5 := hc 5 _ rfl
                  have c6 := hc 6 _ rfl
                  have C4 : Hid (wr.cell? ⟨b, off + (k * 7 + 4), none⟩ = some (.int .i64 i)) := Lib.hid c4
                  simp only [Nat.add_zero, ← Nat.add_assoc] at c0 c1 c2 c3 c4 c5 c6
                  clear hc hcell he hrw hgr
                  go_wp2_with fail
                  refine (rof_any ⟨⟨x1, x2, s, f, i, x4⟩, A', c', al⟩ wr HOK.out).mono ?_
                  rintro r w5 ⟨B, c5', rfl, g1, g2, g3, g4, g5, g6⟩
                  clear c0 c1 c2 c3 c4 c5 c6
                  have c4 : w5.cell? ⟨b, off + k * 7 + 4, none⟩ = some (.int .i64 i) := by
                    have := (hkk.out w5 g5).trans C4.out
                    simpa only [← Nat.add_assoc] using this
                  have hb5 : b < w5.heap.size := Nat.lt_of_lt_of_le (Nat.lt_of_lt_of_le hbl hBr.size) g5.size
                  by_cases ho : (rofP ⟨⟨x1, x2, s, f, i, x4⟩, A', c', al⟩).2 = true
                  · obtain ⟨hv1, hv2, hv3⟩ := rofP_val ho
                    have HV1 := Lib.hid hv1
                    have HO2 := Lib.hid ho
                    have p1 := Ev.placed_bd hv2
                    simp only at p1
                    obtain ⟨p1, p2⟩ := p1
                    rw [ho]
                    rw [hv1] at g1 g2
                    rw [hv1]
                    simp only [outP] at g1 g2 ⊢
                    have HG1 := Lib.hid g1
                    have HG6 := Lib.hid g6
                    have HG5 := Lib.hid g5
                    have HG4 := Lib.hid g4
                    clear ho hv1 hv2 hv3 g1 g6 g4
                    by_cases hi : i = 0
                    · subst hi
                      have wq1 : s - 0 = s := by omega
                      have wq2 : f + 0 = f := by omega
                      rw [wq1, wq2]
                      by_cases hf1 : fr < s
                      · by_cases hf2 : s - 20 ≤ fr
                        · -- the best so far
                          have HTK : Hid (EvA.takes fr ⟨⟨x1, x2, s, f, 0, x4⟩, A', c', al⟩ = true) := Lib.hid (by simp [EvA.takes, Ev.follows, hf1, hf2])
                          have HA1 : Hid (annP fr (opts (plac (es.take (k + 1)))) = offerP (annP fr (opts (plac (es.take k)))) ⟨⟨x1, x2, s, f, 0, x4⟩, A', c', al⟩) := Lib.hid (by rw [HK.out, if_pos HO2.out, annP_snoc, if_pos HTK.out])
                          obtain ⟨B0, c0', ⟨k1, k2⟩, k3⟩ := HBE.out
                          have k1' := k1.next g5
                          have hr1 : Box (w5.alloc (.cells (optC s f B al.length c5') 44)) W0.heap.size 44 _ := k1'.next (balloc _ _)
                          have HR1 := Lib.hid hr1
                          have HTAKE : Hid (offerP (annP fr (opts (plac (es.take k)))) ⟨⟨x1, x2, s, f, 0, x4⟩, A', c', al⟩ = some ⟨⟨x1, x2, s, f, 0, x4⟩, A', c', al⟩ → ∀ wE, wE = ((((w5.setCell ⟨W0.heap.size, 0, none⟩ (.int .i64 s)).setCell ⟨W0.heap.size, 1, none⟩ (.int .i64 f)).setCell ⟨W0.heap.size, 2, none⟩ (.slice B al.length c5')).alloc (.cells (optC s f B al.length c5') 44)) → NextRes W0.heap.size (outP (annP fr (opts (plac (es.take (k + 1)))))) wE ∧ Box wE w.heap.size 44 zero3 ∧ Below w.heap.size w wE) := Lib.hid (fun hof wE hE => by
                            have hrs := nextRes_store (w := wr) (o := ⟨s, f, al⟩) k1' rfl (HBE.out.elim fun _ h => h.elim fun _ h => h.1.1.lt) HG1.out g2 g3 HG4.out HG6.out
                            subst hE
                            rw [HA1.out, hof]
                            have e3 : outP (some (⟨⟨x1, x2, s, f, 0, x4⟩, A', c', al⟩ : EvA)) = ⟨s, f, al⟩ := by simp [outP]
                            rw [e3]
                            refine ⟨OwnFrom.below (nextRes_own (β := Unit) 0 _ _) (s := ()) hrs (balloc _ _), ?_, ?_⟩
                            · exact ((((HRE.out.next HG5.out).set_ne _ (by omega)).set_ne _ (by omega)).set_ne _ (by omega)).next (balloc _ _)
                            · have hq := (((bnext hBr HG5.out).setCell (p := ⟨W0.heap.size, 0, none⟩) (by show w.heap.size ≤ W0.heap.size; omega) (.int .i64 s)).setCell (p := ⟨W0.heap.size, 1, none⟩) (by show w.heap.size ≤ W0.heap.size; omega) (.int .i64 f)).setCell (p := ⟨W0.heap.size, 2, none⟩) (by show w.heap.size ≤ W0.heap.size; omega) (.slice B al.length c5')
                              exact hq.alloc hq.size _)
                          have KEEP : Hid (offerP (annP fr (opts (plac (es.take k)))) ⟨⟨x1, x2, s, f, 0, x4⟩, A', c', al⟩ = annP fr (opts (plac (es.take k))) → NextRes W0.heap.size (outP (annP fr (opts (plac (es.take (k + 1)))))) (w5.alloc (.cells (optC s f B al.length c5') 44)) ∧ Box (w5.alloc (.cells (optC s f B al.length c5') 44)) w.heap.size 44 zero3 ∧ Below w.heap.size w (w5.alloc (.cells (optC s f B al.length c5') 44))) := Lib.hid (fun hof => by
                            rw [HA1.out, hof]
                            have hb6 := HG5.out.alloc HG5.out.size (.cells (optC s f B al.length c5') 44)
                            exact ⟨OwnFrom.below (nextRes_own (β := Unit) 0 _ _) (s := ()) HBE.out hb6, HRE.out.next hb6, bnext hBr hb6⟩)
                          have f0 := k1'.frozen 0
                          have f1 := k1'.frozen 1
                          have f2 := k1'.frozen 2
                          have hl9 := k1'.lt
                          cases hb : annP fr (opts (plac (es.take k))) with
                          | none =>
                            rw [hb] at HTAKE k1'
                            have HT2 := Lib.hid (HTAKE.out rfl)
                            have d0 : w5.cell? ⟨W0.heap.size, 0, none⟩ = some (.int .i64 0) := k1'.cell (i := 0) rfl
                            have d1 : w5.cell? ⟨W0.heap.size, 1, none⟩ = some (.int .i64 0) := k1'.cell (i := 1) rfl
                            have d2 : w5.cell? ⟨W0.heap.size, 2, none⟩ = some (.slice B0 0 c0') := k1'.cell (i := 2) rfl
                            clear KEEP HTAKE HA1 hb k1 k2 k3 k1' hr1 HR1
                            go_wp2_with fail
                            go_roundw
                            case rel =>
                              obtain ⟨n1, n2, n3⟩ := HT2.out _ rfl
                              exact ⟨k + 1, by omega, by go_num, n1, n2, n3⟩
                            case measure => simp [intOf]; omega
                          | some d =>
                            have hfz : ((d.ev.frames + d.ev.inn) == 0) = false := by
                              have := annP_frames (fr := fr) (es := es.take k) hb
                              simp; omega
                            rw [hb] at HTAKE KEEP k1'
                            have d0 : w5.cell? ⟨W0.heap.size, 0, none⟩ = some (.int .i64 (d.ev.start - d.ev.inn)) := k1'.cell (i := 0) rfl
                            have d1 : w5.cell? ⟨W0.heap.size, 1, none⟩ = some (.int .i64 (d.ev.frames + d.ev.inn)) := k1'.cell (i := 1) rfl
                            have d2 : w5.cell? ⟨W0.heap.size, 2, none⟩ = some (.slice B0 d.al.length c0') := k1'.cell (i := 2) rfl
                            clear k1'
                            simp only [offerP, wq1] at HTAKE KEEP
                            generalize d.ev.frames + d.ev.inn = ff at *
                            generalize hss : d.ev.start - d.ev.inn = ss at *
                            by_cases hlt2 : s < ss
                            · have HT2 := Lib.hid (HTAKE.out (if_pos hlt2))
                              clear KEEP HTAKE HA1 hb k1 k2 k3 hr1 HR1 hss
                              go_wp2_with fail
                              go_roundw
                              case rel =>
                                obtain ⟨n1, n2, n3⟩ := HT2.out _ rfl
                                exact ⟨k + 1, by omega, by go_num, n1, n2, n3⟩
                              case measure => simp [intOf]; omega
                            · have HT2 := Lib.hid (KEEP.out (if_neg hlt2))
                              clear KEEP HTAKE HA1 hb k1 k2 k3 hr1 HR1 hss
                              go_wp2_with fail
                              go_roundw
                              case rel =>
                                obtain ⟨n1, n2, n3⟩ := HT2.out
                                exact ⟨k + 1, by omega, by go_num, n1, n2, n3⟩
                              case measure => simp [intOf]; omega
                        · have HT2 := Lib.hid (SKIP.out _ (g5.alloc g5.size (.cells (optC s f B al.length c5') 44)) (fun _ h => by simp [EvA.takes, Ev.follows, hf2] at h))
                          go_wp2_with fail
                          go_roundw
                          case rel =>
                            obtain ⟨n1, n2, n3⟩ := HT2.out
                            exact ⟨k + 1, by omega, by go_num, n1, n2, n3⟩
                          case measure => simp [intOf]; omega
                      · have HT2 := Lib.hid (SKIP.out _ (g5.alloc g5.size (.cells (optC s f B al.length c5') 44)) (fun _ h => by simp [EvA.takes, Ev.follows, hf1] at h))
                        go_wp2_with fail
                        go_roundw
                        case rel =>
                          obtain ⟨n1, n2, n3⟩ := HT2.out
                          exact ⟨k + 1, by omega, by go_num, n1, n2, n3⟩
                        case measure => simp [intOf]; omega
                    · have hi' : (i == 0) = false := by simpa using hi
                      have HT2 := Lib.hid (SKIP.out _ (g5.alloc g5.size (.cells (optC (s - i) (f + i) B al.length c5') 44)) (fun _ h => by simp [EvA.takes, hi'] at h))
                      go_wp2_with fail
                      go_roundw
                      case rel =>
                        obtain ⟨n1, n2, n3⟩ := HT2.out
                        exact ⟨k + 1, by omega, by go_num, n1, n2, n3⟩
                      case measure => simp [intOf]; omega
                  · have ho' : (rofP ⟨⟨x1, x2, s, f, i, x4⟩, A', c', al⟩).2 = false := by simpa using ho
                    rw [ho']
                    have HT2 := Lib.hid (SKIP.out _ (g5.alloc g5.size (.cells (optC (rofP ⟨⟨x1, x2, s, f, i, x4⟩, A', c', al⟩).1.s (rofP ⟨⟨x1, x2, s, f, i, x4⟩, A', c', al⟩).1.f B (rofP ⟨⟨x1, x2, s, f, i, x4⟩, A', c', al⟩).1.al.length c5') 44)) (fun h _ => by rw [ho'] at h; cases h))
                    clear ho ho'
                    generalize rofP ⟨⟨x1, x2, s, f, i, x4⟩, A', c', al⟩ = oo at *
                    obtain ⟨⟨s2, f2, al2⟩, v2⟩ := oo
                    simp only at *
                    go_wp2_with fail
                    go_roundw
                    case rel =>
                      obtain ⟨n1, n2, n3⟩ := HT2.out
                      exact ⟨k + 1, by omega, by go_num, n1, n2, n3⟩
                    case measure => simp [intOf]; omega
                · obtain rfl : k = m := by omega
                  have ht : es.take k = es := List.take_of_length_le (by omega)
                  rw [ht] at HBE
                  have HQ : Hid (nextP fr es = outP (annP fr (opts (plac es)))) := Lib.hid (by rw [nextP, HN.out])
                  generalize outP (annP fr (opts (plac es))) = o at *
                  obtain ⟨s, f, al⟩ := o
                  obtain ⟨B, c', ⟨hx, hrd⟩, g2, g3, g4, g6⟩ := HBE.out
                  have d0 := hx.cell (i := 0) rfl
                  have d1 := hx.cell (i := 1) rfl
                  have d2 := hx.cell (i := 2) rfl
                  have r0 := HRE.out.cell (i := 0) rfl
                  have r1 := HRE.out.cell (i := 1) rfl
                  have r2 := HRE.out.cell (i := 2) rfl
                  have f0 := HRE.out.frozen 0
                  have f1 := HRE.out.frozen 1
                  have f2 := HRE.out.frozen 2
                  have HRD := Lib.hid hrd
                  have HG := Lib.hid (And.intro g2 (And.intro g3 (And.intro g4 g6)))
                  clear hx hrd g2 g3 g4 g6
                  go_wp2_with fail
                  have h6 : ∀ b' off, B = some ⟨b', off, none⟩ → w.heap.size < b' := fun b' off e => by have := HG.out.2.2.2 b' off e; omega
                  refine ret_opt Try.results35 rfl (((HRE.out.set (i := 0) (.int .i64 s)).set (i := 1) (.int .i64 f)).set (i := 2) (.slice B al.length c')) rfl ?_
                  rw [HQ.out]
                  exact ⟨B, c', rfl, ⟨rfl, ((HRD.out.set _ h6).set _ h6).set _ h6⟩, HG.out.1, HG.out.2.1, HG.out.2.2.1, ((hBr.setCell (Nat.le_refl _) _).setCell (Nat.le_refl _) _).setCell (Nat.le_refl _) _, fun b off e => Nat.le_of_lt (h6 b off e)⟩
          · have hrun : Ev.runs ⟨x1, x2, s, f, i, x4⟩ fr = false := by simp [Ev.runs, hr2]
            have wr1 : IntKind.i64.wrap (s + f) = s + f := IntWalk.i64_in _ (by omega)
            have hr2' : decide (fr < s + f) = false := by simpa using hr2
            go_upto_region 5 with (fail)
            go_quiet (fail)
            clear wr1 h0i h1i hr2'
            go_wp2_with fail
            go_roundw
            case rel => exact ⟨k + 1, by omega, by go_num, HST.out (fun _ => hrun), HRE.out.next (below_drewN bw _), below_drewN BW1 _⟩
            case measure => simp [intOf]; omega
        · have hrun : Ev.runs ⟨x1, x2, s, f, i, x4⟩ fr = false := by simp [Ev.runs, hr1]
          have hr1' : decide (s ≤ fr) = false := by simpa using hr1
          go_upto_region 5 with (fail)
          go_quiet (fail)
          clear h0i h1i hr1'
          go_wp2_with fail
          go_roundw
          case rel => exact ⟨k + 1, by omega, by go_num, HST.out (fun _ => hrun), HRE.out.next (below_drewN bw _), below_drewN BW1 _⟩
          case measure => simp [intOf]; omega
      · have hp' : Ev.placed ⟨x1, x2, s, f, i, x4⟩ = false := by simpa using hp
        rw [hp']
        go_upto_region 5 with (fail)
        go_quiet (fail)
        clear h0i h1i
        go_wp2_with fail
        go_roundw
        case rel => exact ⟨k + 1, by omega, by go_num, HST.out (fun h => absurd h hp), HRE.out.next (below_drewN bw _), below_drewN BW1 _⟩
        case measure => simp [intOf]; omega
    · have HN : Hid (nextE fr es = annP fr (opts (plac es))) := Lib.hid (by
        unfold nextE
        have h0 := HNO.out
        rw [List.take_of_length_le (by omega)] at h0
        rw [List.find?_eq_none.2 (by simpa using h0)])
      obtain ⟨W0, hW0⟩ : ∃ W0, W0 = wr := ⟨_, rfl⟩
      rw [← hW0] at HRE hBr ⊢
      have HX0 := HRE
      have BW := Lib.hid hBr
      clear hW0 HNO hBr HRE
      go_wp2_with fail
      go_loopw [10] (fun q wr => ∃ (k : Nat), k ≤ m ∧ q = .int .i64 k ∧ NextRes W0.heap.size (outP (annP fr (opts (plac (es.take k))))) wr ∧ Box wr w.heap.size 44 zero3 ∧ Below w.heap.size w wr) (fun q _ => m - (intOf q).toNat)
      case atStart => exact ⟨0, Nat.zero_le _, rfl, ⟨none, 0, ⟨Box.new _ _ _, Rd.nil _ _ _⟩, Nat.le_refl _, Nat.zero_le _, fun _ => rfl, (fun b off e => by cases e)⟩, HX0.out.next (balloc _ _), (BW.out.alloc BW.out.size _)⟩
      case round =>
        obtain ⟨k, hk, rfl, hbest, hres, hBr⟩ := hrel
        have HBE := Lib.hid hbest
        have HRE := Lib.hid hres
        have hwz : w.heap.size < W0.heap.size := HX0.out.lt
        clear hbest hres
        by_cases hlt : k < m
        · obtain ⟨b, off, e, hA, hbl, he, hcell⟩ := HI.out.at_ hlt
          cases hA
          have hc : ∀ j v, e.cells[j]? = some v → wr.cell? ⟨b, off + (k * 7 + j), none⟩ = some v := fun j v hv => (hBr.cell (p := ⟨b, off + (k * 7 + j), none⟩) hbl).trans (hcell j v hv)
          have hmem : e ∈ es := List.mem_of_getElem? he
          have HOK := Lib.hid ((HI.out.2.2 e hmem).below hBr)
          have HK := Lib.hid (opts_plac_take he)
          have hgr := HBE.out
          have hrw : wr.heap.size = wr.heap.size := rfl
          have hkk : Hid (∀ (w5 : World), Below wr.heap.size wr w5 → w5.cell? ⟨b, off + (k * 7 + 4), none⟩ = wr.cell? ⟨b, off + (k * 7 + 4), none⟩) := Lib.hid (fun w5 b5 => b5.cell (p := ⟨b, off + (k * 7 + 4), none⟩) (Nat.lt_of_lt_of_le hbl hBr.size))
          -- what a round leaves that takes nothing
          have SKIP : Hid (∀ w5, Below wr.heap.size wr w5 → ((rofP e).2 = true → e.takes fr = true → False) → NextRes W0.heap.size (outP (annP fr (opts (plac (es.take (k + 1)))))) w5 ∧ Box w5 w.heap.size 44 zero3 ∧ Below w.heap.size w w5) := Lib.hid (fun w5 b5 hn => by
            refine ⟨?_, HRE.out.next b5, bnext hBr b5⟩
            have e1 : annP fr (opts (plac (es.take (k + 1)))) = annP fr (opts (plac (es.take k))) := by
              rw [HK.out]
              by_cases h1 : (rofP e).2 = true
              · rw [if_pos h1, annP_snoc, if_neg (fun h2 => hn h1 h2)]
              · rw [if_neg h1, List.append_nil]
            rw [e1]
            exact OwnFrom.below (nextRes_own (β := Unit) 0 _ _) (s := ()) HBE.out b5)
          obtain ⟨ev, A', c', al⟩ := e
          obtain ⟨x1, x2, s, f, i, x4⟩ := ev
          have c0 := hc 0 _ rfl
          have c1 := hc 1 _ rfl
          have c2 := hc 2 _ rfl
          have c3 := hc 3 _ rfl
          have c4 := hc 4 _ rfl
          have c5 := hc 5 _ rfl
          have c6 := hc 6 _ rfl
          have C4 : Hid (wr.cell? ⟨b, off + (k * 7 + 4), none⟩ = some (.int .i64 i)) := Lib.hid c4
          simp only [Nat.add_zero, ← Nat.add_assoc] at c0 c1 c2 c3 c4 c5 c6
          clear hc hcell he hrw hgr
          go_wp2_with fail
          refine (rof_any ⟨⟨x1, x2, s, f, i, x4⟩, A', c', al⟩ wr HOK.out).mono ?_
          rintro r w5 ⟨B, c5', rfl, g1, g2, g3, g4, g5, g6⟩
          clear c0 c1 c2 c3 c4 c5 c6
          have c4 : w5.cell? ⟨b, off + k * 7 + 4, none⟩ = some (.int .i64 i) := by
            have := (hkk.out w5 g5).trans C4.out
            simpa only [← Nat.add_assoc] using this
          have hb5 : b < w5.heap.size := Nat.lt_of_lt_of_le (Nat.lt_of_lt_of_le hbl hBr.size) g5.size
          by_cases ho : (rofP ⟨⟨x1, x2, s, f, i, x4⟩, A', c', al⟩).2 = true
          · obtain ⟨hv1, hv2, hv3⟩ := rofP_val ho
            have HV1 := Lib.hid hv1
            have HO2 := Lib.hid ho
            have p1 := Ev.placed_bd hv2
            simp only at p1
            obtain ⟨p1, p2⟩ := p1
            rw [ho]
            rw [hv1] at g1 g2
            rw [hv1]
            simp only [outP] at g1 g2 ⊢
            have HG1 := Lib.hid g1
            have HG6 := Lib.hid g6
            have HG5 := Lib.hid g5
            have HG4 := Lib.hid g4
            clear ho hv1 hv2 hv3 g1 g6 g4
            by_cases hi : i = 0
            · subst hi
              have wq1 : s - 0 = s := by omega
              have wq2 : f + 0 = f := by omega
              rw [wq1, wq2]
              by_cases hf1 : fr < s
              · by_cases hf2 : s - 20 ≤ fr
                · -- the best so far
                  have HTK : Hid (EvA.takes fr ⟨⟨x1, x2, s, f, 0, x4⟩, A', c', al⟩ = true) := Lib.hid (by simp [EvA.takes, Ev.follows, hf1, hf2])
                  have HA1 : Hid (annP fr (opts (plac (es.take (k + 1)))) = offerP (annP fr (opts (plac (es.take k)))) ⟨⟨x1, x2, s, f, 0, x4⟩, A', c', al⟩) := Lib.hid (by rw [HK.out, if_pos HO2.out, annP_snoc, if_pos HTK.out])
                  obtain ⟨B0, c0', ⟨k1, k2⟩, k3⟩ := HBE.out
                  have k1' := k1.next g5
                  have hr1 : Box (w5.alloc (.cells (optC s f B al.length c5') 44)) W0.heap.size 44 _ := k1'.next (balloc _ _)
                  have HR1 := Lib.hid hr1
                  have HTAKE : Hid (offerP (annP fr (opts (plac (es.take k)))) ⟨⟨x1, x2, s, f, 0, x4⟩, A', c', al⟩ = some ⟨⟨x1, x2, s, f, 0, x4⟩, A', c', al⟩ → ∀ wE, wE = ((((w5.setCell ⟨W0.heap.size, 0, none⟩ (.int .i64 s)).setCell ⟨W0.heap.size, 1, none⟩ (.int .i64 f)).setCell ⟨W0.heap.size, 2, none⟩ (.slice B al.length c5')).alloc (.cells (optC s f B al.length c5') 44)) → NextRes W0.heap.size (outP (annP fr (opts (plac (es.take (k + 1)))))) wE ∧ Box wE w.heap.size 44 zero3 ∧ Below w.heap.size w wE) := Lib.hid (fun hof wE hE => by
                    have hrs := nextRes_store (w := wr) (o := ⟨s, f, al⟩) k1' rfl (HBE.out.elim fun _ h => h.elim fun _ h => h.1.1.lt) HG1.out g2 g3 HG4.out HG6.out
                    subst hE
                    rw [HA1.out, hof]
                    have e3 : outP (some (⟨⟨x1, x2, s, f, 0, x4⟩, A', c', al⟩ : EvA)) = ⟨s, f, al⟩ := by simp [outP]
                    rw [e3]
                    refine ⟨OwnFrom.below (nextRes_own (β := Unit) 0 _ _) (s := ()) hrs (balloc _ _), ?_, ?_⟩
                    · exact ((((HRE.out.next HG5.out).set_ne _ (by omega)).set_ne _ (by omega)).set_ne _ (by omega)).next (balloc _ _)
                    · have hq := (((bnext hBr HG5.out).setCell (p := ⟨W0.heap.size, 0, none⟩) (by show w.heap.size ≤ W0.heap.size; omega) (.int .i64 s)).setCell (p := ⟨W0.heap.size, 1, none⟩) (by show w.heap.size ≤ W0.heap.size; omega) (.int .i64 f)).setCell (p := ⟨W0.heap.size, 2, none⟩) (by show w.heap.size ≤ W0.heap.size; omega) (.slice B al.length c5')
                      exact hq.alloc hq.size _)
                  have KEEP : Hid (offerP (annP fr (opts (plac (es.take k)))) ⟨⟨x1, x2, s, f, 0, x4⟩, A', c', al⟩ = annP fr (opts (plac (es.take k))) → NextRes W0.heap.size (outP (annP fr (opts (plac (es.take (k + 1)))))) (w5.alloc (.cells (optC s f B al.length c5') 44)) ∧ Box (w5.alloc (.cells (optC s f B al.length c5') 44)) w.heap.size 44 zero3 ∧ Below w.heap.size w (w5.alloc (.cells (optC s f B al.length c5') 44))) := Lib.hid (fun hof => by
                    rw [HA1.out, hof]
                    have hb6 := HG5.out.alloc HG5.out.size (.cells (optC s f B al.length c5') 44)
                    exact ⟨OwnFrom.below (nextRes_own (β := Unit) 0 _ _) (s := ()) HBE.out hb6, HRE.out.next hb6, bnext hBr hb6⟩)
                  have f0 := k1'.frozen 0
                  have f1 := k1'.frozen 1
                  have f2 := k1'.frozen 2
                  have hl9 := k1'.lt
                  cases hb : annP fr (opts (plac (es.take k))) with
                  | none =>
                    rw [hb] at HTAKE k1'
                    have HT2 := Lib.hid (HTAKE.out rfl)
                    have d0 : w5.cell? ⟨W0.heap.size, 0, none⟩ = some (.int .i64 0) := k1'.cell (i := 0) rfl
                    have d1 : w5.cell? ⟨W0.heap.size, 1, none⟩ = some (.int .i64 0) := k1'.cell (i := 1) rfl
                    have d2 : w5.cell? ⟨W0.heap.size, 2, none⟩ = some (.slice B0 0 c0') := k1'.cell (i := 2) rfl
                    clear KEEP HTAKE HA1 hb k1 k2 k3 k1' hr1 HR1
                    go_wp2_with fail
                    go_roundw
                    case rel =>
                      obtain ⟨n1, n2, n3⟩ := HT2.out _ rfl
                      exact ⟨k + 1, by omega, by go_num, n1, n2, n3⟩
                    case measure => simp [intOf]; omega
                  | some d =>
                    have hfz : ((d.ev.frames + d.ev.inn) == 0) = false := by
                      have := annP_frames (fr := fr) (es := es.take k) hb
                      simp; omega
                    rw [hb] at HTAKE KEEP k1'
                    have d0 : w5.cell? ⟨W0.heap.size, 0, none⟩ = some (.int .i64 (d.ev.start - d.ev.inn)) := k1'.cell (i := 0) rfl
                    have d1 : w5.cell? ⟨W0.heap.size, 1, none⟩ = some (.int .i64 (d.ev.frames + d.ev.inn)) := k1'.cell (i := 1) rfl
                    have d2 : w5.cell? ⟨W0.heap.size, 2, none⟩ = some (.slice B0 d.al.length c0') := k1'.cell (i := 2) rfl
                    clear k1'
                    simp only [offerP, wq1] at HTAKE KEEP
                    generalize d.ev.frames + d.ev.inn = ff at *
                    generalize hss : d.ev.start - d.ev.inn = ss at *
                    by_cases hlt2 : s < ss
                    · have HT2 := Lib.hid (HTAKE.out (if_pos hlt2))
                      clear KEEP HTAKE HA1 hb k1 k2 k3 hr1 HR1 hss
                      go_wp2_with fail
                      go_roundw
                      case rel =>
                        obtain ⟨n1, n2, n3⟩ := HT2.out _ rfl
                        exact ⟨k + 1, by omega, by go_num, n1, n2, n3⟩
                      case measure => simp [intOf]; omega
                    · have HT2 := Lib.hid (KEEP.out (if_neg hlt2))
                      clear KEEP HTAKE HA1 hb k1 k2 k3 hr1 HR1 hss
                      go_wp2_with fail
                      go_roundw
                      case rel =>
                        obtain ⟨n1, n2, n3⟩ := HT2.out
                        exact ⟨k + 1, by omega, by go_num, n1, n2, n3⟩
                      case measure => simp [intOf]; omega
                · have HT2 := Lib.hid (SKIP.out _ (g5.alloc g5.size (.cells (optC s f B al.length c5') 44)) (fun _ h => by simp [EvA.takes, Ev.follows, hf2] at h))
                  go_wp2_with fail
                  go_roundw
                  case rel =>
                    obtain ⟨n1, n2, n3⟩ := HT2.out
                    exact ⟨k + 1, by omega, by go_num, n1, n2, n3⟩
                  case measure => simp [intOf]; omega
              · have HT2 := Lib.hid (SKIP.out _ (g5.alloc g5.size (.cells (optC s f B al.length c5') 44)) (fun _ h => by simp [EvA.takes, Ev.follows, hf1] at h))
                go_wp2_with fail
                go_roundw
                case rel =>
                  obtain ⟨n1, n2, n3⟩ := HT2.out
                  exact ⟨k + 1, by omega, by go_num, n1, n2, n3⟩
                case measure => simp [intOf]; omega
            · have hi' : (i == 0) = false := by simpa using hi
              have HT2 := Lib.hid (SKIP.out _ (g5.alloc g5.size (.cells (optC (s - i) (f + i) B al.length c5') 44)) (fun _ h => by simp [EvA.takes, hi'] at h))
              go_wp2_with fail
              go_roundw
              case rel =>
                obtain ⟨n1, n2, n3⟩ := HT2.out
                exact ⟨k + 1, by omega, by go_num, n1, n2, n3⟩
              case measure => simp [intOf]; omega
          · have ho' : (rofP ⟨⟨x1, x2, s, f, i, x4⟩, A', c', al⟩).2 = false := by simpa using ho
            rw [ho']
            have HT2 := Lib.hid (SKIP.out _ (g5.alloc g5.size (.cells (optC (rofP ⟨⟨x1, x2, s, f, i, x4⟩, A', c', al⟩).1.s (rofP ⟨⟨x1, x2, s, f, i, x4⟩, A', c', al⟩).1.f B (rofP ⟨⟨x1, x2, s, f, i, x4⟩, A', c', al⟩).1.al.length c5') 44)) (fun h _ => by rw [ho'] at h; cases h))
            clear ho ho'
            generalize rofP ⟨⟨x1, x2, s, f, i, x4⟩, A', c', al⟩ = oo at *
            obtain ⟨⟨s2, f2, al2⟩, v2⟩ := oo
            simp only at *
            go_wp2_with fail
            go_roundw
            case rel =>
              obtain ⟨n1, n2, n3⟩ := HT2.out
              exact ⟨k + 1, by omega, by go_num, n1, n2, n3⟩
            case measure => simp [intOf]; omega
        · obtain rfl : k = m := by omega
          have ht : es.take k = es := List.take_of_length_le (by omega)
          rw [ht] at HBE
          have HQ : Hid (nextP fr es = outP (annP fr (opts (plac es)))) := Lib.hid (by rw [nextP, HN.out])
          generalize outP (annP fr (opts (plac es))) = o at *
          obtain ⟨s, f, al⟩ := o
          obtain ⟨B, c', ⟨hx, hrd⟩, g2, g3, g4, g6⟩ := HBE.out
          have d0 := hx.cell (i := 0) rfl
          have d1 := hx.cell (i := 1) rfl
          have d2 := hx.cell (i := 2) rfl
          have r0 := HRE.out.cell (i := 0) rfl
          have r1 := HRE.out.cell (i := 1) rfl
          have r2 := HRE.out.cell (i := 2) rfl
          have f0 := HRE.out.frozen 0
          have f1 := HRE.out.frozen 1
          have f2 := HRE.out.frozen 2
          have HRD := Lib.hid hrd
          have HG := Lib.hid (And.intro g2 (And.intro g3 (And.intro g4 g6)))
          clear hx hrd g2 g3 g4 g6
          go_wp2_with fail
          have h6 : ∀ b' off, B = some ⟨b', off, none⟩ → w.heap.size < b' := fun b' off e => by have := HG.out.2.2.2 b' off e; omega
          refine ret_opt Try.results35 rfl (((HRE.out.set (i := 0) (.int .i64 s)).set (i := 1) (.int .i64 f)).set (i := 2) (.slice B al.length c')) rfl ?_
          rw [HQ.out]
          exact ⟨B, c', rfl, ⟨rfl, ((HRD.out.set _ h6).set _ h6).set _ h6⟩, HG.out.1, HG.out.2.1, HG.out.2.2.1, ((hBr.setCell (Nat.le_refl _) _).setCell (Nat.le_refl _) _).setCell (Nat.le_refl _) _, fun b off e => Nat.le_of_lt (h6 b off e)⟩
end Go.Proofs.Ytpaepefpfaoacaa
