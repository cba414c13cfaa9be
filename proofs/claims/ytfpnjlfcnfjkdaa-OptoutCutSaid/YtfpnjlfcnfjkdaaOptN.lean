/- Contract of the reference's of. -/
import Derived.Test.YtfpnjlfcnfjkdaaOptM
import Derived.Deep.RegionHeld3
namespace Go.Proofs.Ytfpnjlfcnfjkdaa
open Go.ChangeShapes Go.WideShapes Go.ChangeAt Go.RowKit
set_option linter.unusedVariables false

/-- A call that returns an opt-out whose alternatives are new, and a bool. -/
def RetOf (o : POpt) (v : Bool) (w : World) (e : Ending) (w' : World) : Prop :=
  ∃ B c, e = .returned (.tuple #[optV o.s o.f B o.al.length c, .bool v]) ∧ IsAlts w' B o.al.length o.al ∧ o.al.length ≤ c ∧ c ≤ maxLen ∧ (B = none → c = 0) ∧ Below w.heap.size w w' ∧ (∀ b off, B = some ⟨b, off, none⟩ → w.heap.size ≤ b)
def rofP (e : EvA) : POpt × Bool := if e.ev.placed = true ∧ e.ev.inBad = false then (⟨e.ev.start - e.ev.inn, e.ev.frames + e.ev.inn, e.al⟩, validP (e.ev.start - e.ev.inn) (e.ev.frames + e.ev.inn) e.al) else (.zero, false)

set_option maxRecDepth 100000 in
set_option maxHeartbeats 8000000 in
theorem rof_any (e : EvA) (w : World) (h : e.ok w) :
    Calls Try.prog 36 #[.agg e.cells] w (RetOf (rofP e).1 (rofP e).2 w) := by
  obtain ⟨ev, A, c, al⟩ := e
  obtain ⟨h1, h2, h3, h4, h5⟩ := h
  simp only at h1 h2 h3 h4 h5
  unfold reachBytes at h5
  obtain ⟨i0, hi0, hz0, hz1, hz2⟩ := info_parts infoAlt
  have H := Lib.hid h1
  have HN : Hid (A = none → al.length = 0 ∧ c = 0) := Lib.hid (fun e => by have := h4 e; exact ⟨by omega, this⟩)
  have l0 := balloc w (.cells (evCells ev A al.length c) 45)
  have L1 := Lib.hid (l0.alloc l0.size (.cells zero3 24))
  have X0 := Lib.hid ((Box.new w 45 (evCells ev A al.length c)).next (balloc _ (.cells zero3 24)))
  have x1 := Box.new (w.alloc (.cells (evCells ev A al.length c) 45)) 24 zero3
  rw [World.size_alloc] at x1
  have X1 := Lib.hid x1
  clear h1 h4 l0 x1
  obtain ⟨y1, y2, s, f, i, y4⟩ := ev
  have ZERO : Hid (∀ w', Ev.placed ⟨y1, y2, s, f, i, y4⟩ = false ∨ Ev.inBad ⟨y1, y2, s, f, i, y4⟩ = true → Below w.heap.size w w' → RetOf (rofP ⟨⟨y1, y2, s, f, i, y4⟩, A, c, al⟩).1 (rofP ⟨⟨y1, y2, s, f, i, y4⟩, A, c, al⟩).2 w (.returned (.tuple #[.agg #[.int .i64 0, .int .i64 0, .slice none 0 0], .bool false])) w') := Lib.hid (fun w' hz hb => by
    unfold rofP
    rw [if_neg (by rintro ⟨z1, z2⟩; rcases hz with hz | hz <;> simp_all)]
    exact ⟨none, 0, rfl, IsAlts.nil _ _, Nat.le_refl _, Nat.zero_le _, fun _ => rfl, hb, fun b off e => by cases e⟩)
  go_enter Try.func36, Try.ntmps36
  go_wp2_with fail
  refine (rplaced_any ⟨y1, y2, s, f, i, y4⟩ A al.length c _).mono ?_
  rintro e w1 ⟨rfl, bw⟩
  have hx0 := X0.out.next bw
  have hx1 := X1.out.next bw
  have B1 := Lib.hid (bnext L1.out bw)
  have e2 := hx0.cell (i := 2) rfl
  have e3 := hx0.cell (i := 3) rfl
  have e4 := hx0.cell (i := 4) rfl
  have e6 := hx0.cell (i := 6) rfl
  have r0 := hx1.cell (i := 0) rfl
  have r1 := hx1.cell (i := 1) rfl
  have r2 := hx1.cell (i := 2) rfl
  have q0 := hx1.frozen 0
  have q1 := hx1.frozen 1
  have q2 := hx1.frozen 2
  have hlt0 := hx0.lt
  have hlt1 := hx1.lt
  have Y0 := Lib.hid hx0
  have Y1 := Lib.hid hx1
  have HR := Lib.hid (H.out.below B1.out).2
  clear hx0 hx1
  have endZ : Hid (∀ w', w' = ((w1.setCell ⟨w.heap.size + 1, 0, none⟩ (.int .i64 0)).setCell ⟨w.heap.size + 1, 1, none⟩ (.int .i64 0)).setCell ⟨w.heap.size + 1, 2, none⟩ (.slice none 0 0) → Box w' (w.heap.size + 1) 24 zero3 ∧ Below w.heap.size w w') := Lib.hid (fun w' e => by
    subst e
    refine ⟨?_, ((B1.out.setCell (by simp) _).setCell (by simp) _).setCell (by simp) _⟩
    have := ((Y1.out.set (i := 0) (.int .i64 0)).set (i := 1) (.int .i64 0)).set (i := 2) (.slice none 0 0)
    simpa using this)
  by_cases hp : Ev.placed ⟨y1, y2, s, f, i, y4⟩ = true
  · have hp2 := Ev.placed_bd hp
    simp only at hp2
    obtain ⟨p1, p2⟩ := hp2
    rw [hp]
    have HP := Lib.hid hp
    clear hp
    by_cases j1 : i < 0
    · go_wp2_with fail
      obtain ⟨z1, z2⟩ := endZ.out _ rfl
      exact ret_dec Try.results36 rfl rfl z1 rfl (ZERO.out _ (.inr (by simp [Ev.inBad, j1])) z2)
    by_cases j2 : 100000000 < i
    · go_wp2_with fail
      obtain ⟨z1, z2⟩ := endZ.out _ rfl
      exact ret_dec Try.results36 rfl rfl z1 rfl (ZERO.out _ (.inr (by simp [Ev.inBad, j2])) z2)
    have HE : Hid (rofP ⟨⟨y1, y2, s, f, i, y4⟩, A, c, al⟩ = (⟨s - i, f + i, al⟩, validP (s - i) (f + i) al)) := Lib.hid (by simp [rofP, HP.out, Ev.inBad, j1, j2])
    clear ZERO endZ
    have wr1 : IntKind.i64.wrap (s - i) = s - i := IntWalk.i64_in _ (by omega)
    have wr2 : IntKind.i64.wrap (f + i) = f + i := IntWalk.i64_in _ (by omega)
    have hne0 : w1.heap.size ≠ w.heap.size := by omega
    go_upto_region 5 with (fail)
    go_cut [6] (fun v wx => ∃ (bp : Nat) (B : Option Addr) (c' : Nat), v = .pointer (some ⟨bp, 0, none⟩) ∧ Box wx bp 24 (optC (s - i) (f + i) B al.length c') ∧ bp ≠ w.heap.size + 1 ∧ IsAlts wx B al.length al ∧ (al.length ≤ c' ∧ c' ≤ maxLen ∧ (B = none → c' = 0)) ∧ (∀ b off, B = some ⟨b, off, none⟩ → w1.heap.size ≤ b) ∧ Below w1.heap.size w1 wx)
    case first =>
      go_region_held3 (fun w' => w'.cell? ⟨w.heap.size, 2, none⟩ = some (.int .i64 s) ∧ w'.cell? ⟨w.heap.size, 3, none⟩ = some (.int .i64 f) ∧ w'.cell? ⟨w.heap.size, 4, none⟩ = some (.int .i64 i) ∧ w'.cell? ⟨w.heap.size, 6, none⟩ = some (.slice A al.length c))
        (first
          | (exact ⟨gx2, gx3, gx4, gx6⟩)
          | (refine ⟨?_, ?_, ?_, ?_⟩ <;> go_keep))
        (first
          | (refine step_append_rd ((w1.alloc (.cells #[.int .i64 0, .int .i64 0, .slice none 0 0] 24)).drew) rfl (.tmp 32) (.tmp 34) 22 rfl (w1.heap.size + 1) 50 i0 (.agg #[.int .i64 0, .int .i64 0]) 2 16 Try.underlying22 hi0 hz0 hz1 hz2 rfl (by decide) (.slice none 0 0) 0 [] rfl (World.ownsRow_nil _ _ _ _) A al.length c (pairs al) rfl HN.out (by refine HR.out.below ?_; repeat (first | exact Below.refl _ _ | refine Below.drew ?_ | refine Below.alloc ?_ (by simp) _)) (pairs_ones _) (by unfold maxLen at *; omega) (by omega) (by simp) ?_; intro B1 c1 w4 hown1 hgrow1 hat1; have gx2 : w4.cell? ⟨w.heap.size, 2, none⟩ = some (.int .i64 s) := grown_cell hgrow1 (by go_keep) (by simp [Value.ownBlock]); have gx3 : w4.cell? ⟨w.heap.size, 3, none⟩ = some (.int .i64 f) := grown_cell hgrow1 (by go_keep) (by simp [Value.ownBlock]); have gx4 : w4.cell? ⟨w.heap.size, 4, none⟩ = some (.int .i64 i) := grown_cell hgrow1 (by go_keep) (by simp [Value.ownBlock]); have gx6 : w4.cell? ⟨w.heap.size, 6, none⟩ = some (.slice A al.length c) := grown_cell hgrow1 (by go_keep) (by simp [Value.ownBlock]); have ga0 : w4.cell? ⟨w1.heap.size, 0, none⟩ = some (.int .i64 0) := grown_cell hgrow1 (by simp) (by simp [Value.ownBlock]); have gf0 : w4.frozen? ⟨w1.heap.size, 0, none⟩ = false := (grown_frozen (v := .int .i64 0) hgrow1 (by simp) (by simp [Value.ownBlock])).trans (by simp); have ga1 : w4.cell? ⟨w1.heap.size, 1, none⟩ = some (.int .i64 0) := grown_cell hgrow1 (by simp) (by simp [Value.ownBlock]); have gf1 : w4.frozen? ⟨w1.heap.size, 1, none⟩ = false := (grown_frozen (v := .int .i64 0) hgrow1 (by simp) (by simp [Value.ownBlock])).trans (by simp); have ga2 : w4.cell? ⟨w1.heap.size, 2, none⟩ = some (.slice none 0 0) := grown_cell hgrow1 (by simp) (by simp [Value.ownBlock]); have gf2 : w4.frozen? ⟨w1.heap.size, 2, none⟩ = false := (grown_frozen (v := .slice none 0 0) hgrow1 (by simp) (by simp [Value.ownBlock])).trans (by simp); have HG := Lib.hid hgrow1; have HO := Lib.hid hown1; clear hgrow1 hown1 hat1)
          | (refine step_append_rd (w1.drew) rfl (.tmp 32) (.tmp 34) 22 rfl w1.heap.size 50 i0 (.agg #[.int .i64 0, .int .i64 0]) 2 16 Try.underlying22 hi0 hz0 hz1 hz2 rfl (by decide) (.slice none 0 0) 0 [] rfl (World.ownsRow_nil _ _ _ _) A al.length c (pairs al) rfl HN.out (by refine HR.out.below ?_; repeat (first | exact Below.refl _ _ | refine Below.drew ?_ | refine Below.alloc ?_ (by simp) _)) (pairs_ones _) (by unfold maxLen at *; omega) (by omega) (by simp) ?_; intro B1 c1 w4 hown1 hgrow1 hat1; have gx2 : w4.cell? ⟨w.heap.size, 2, none⟩ = some (.int .i64 s) := grown_cell hgrow1 (by go_keep) (by simp [Value.ownBlock]); have gx3 : w4.cell? ⟨w.heap.size, 3, none⟩ = some (.int .i64 f) := grown_cell hgrow1 (by go_keep) (by simp [Value.ownBlock]); have gx4 : w4.cell? ⟨w.heap.size, 4, none⟩ = some (.int .i64 i) := grown_cell hgrow1 (by go_keep) (by simp [Value.ownBlock]); have gx6 : w4.cell? ⟨w.heap.size, 6, none⟩ = some (.slice A al.length c) := grown_cell hgrow1 (by go_keep) (by simp [Value.ownBlock]); have HG := Lib.hid hgrow1; have HO := Lib.hid hown1; clear hgrow1 hown1 hat1))
      · go_wp2_with fail
        go_meet
        simp only [Nat.zero_add, List.nil_append] at HO
        have hz : w1.heap.size ≤ w4.heap.size := HG.out.size
        have hb : Below w1.heap.size w1 w4 := ((Below.refl _ w1).drew).grown HG.out (Nat.le_refl _) (fun k e => by cases e)
        exact ⟨w4.heap.size, B1, c1, rfl, Box.new _ _ _, by omega, ⟨rfl, (Rd.of_own HO.out).below (balloc _ _)⟩, own_facts HO.out, own_base HO.out, hb.alloc hb.size _⟩
      · go_wp2_with fail
        go_meet
        simp only [Nat.zero_add, List.nil_append] at HO
        have hz : w1.heap.size + 1 ≤ w4.heap.size := by have := HG.out.size; simpa using this
        have hb : Below w1.heap.size w1 w4 := (((Below.refl _ w1).alloc (Nat.le_refl _) _).drew).grown HG.out (by simp) (fun k e => by cases e)
        have hx : Box w4 w1.heap.size 24 zero3 := Box.grown (w := (w1.alloc (.cells zero3 24)).drew) (Box.new w1 24 zero3) HG.out (by simp [Value.ownBlock])
        have h6 : ∀ b' off, B1 = some ⟨b', off, none⟩ → w1.heap.size < b' := fun b' off e => own_base HO.out b' off e
        refine ⟨w1.heap.size, B1, c1, rfl, ?_, by omega, ⟨rfl, (((Rd.of_own HO.out).set _ h6).set _ h6).set _ h6⟩, own_facts HO.out, fun b off e => Nat.le_of_lt (h6 b off e), ((hb.setCell (Nat.le_refl _) _).setCell (Nat.le_refl _) _).setCell (Nat.le_refl _) _⟩
        have := ((hx.set (i := 0) (.int .i64 (s - i))).set (i := 1) (.int .i64 (f + i))).set (i := 2) (.slice B1 al.length c1)
        simpa using this
    case rest =>
      obtain ⟨bp, B, c', rfl, hbp, hne, hal, hcc, hnew, hbx⟩ := hcut
      have c0 := hbp.cell (i := 0) rfl
      have c1 := hbp.cell (i := 1) rfl
      have c2 := hbp.cell (i := 2) rfl
      have z2 := Y1.out.next hbx
      have d0 := z2.cell (i := 0) rfl
      have d1 := z2.cell (i := 1) rfl
      have d2 := z2.cell (i := 2) rfl
      have f0 := z2.frozen 0
      have f1 := z2.frozen 1
      have f2 := z2.frozen 2
      have Z2 := Lib.hid z2
      have Z3 := Lib.hid hbp
      have L2 := Lib.hid (bnext B1.out hbx)
      have HCC := Lib.hid hcc
      have HNW : Hid (∀ b off, B = some ⟨b, off, none⟩ → w.heap.size + 1 < b) := Lib.hid (fun b off e => by have := hnew b off e; omega)
      have HWd : Hid (IsAlts wc.drew B al.length al) := Lib.hid (hal.below ((Below.refl _ _).drew))
      have KEY : Hid (∀ w2, Below wc.drew.heap.size wc.drew w2 → Box w2 (w.heap.size + 1) 24 zero3 ∧ Box w2 bp 24 (optC (s - i) (f + i) B al.length c') ∧ Below w.heap.size w w2 ∧ IsAlts w2 B al.length al) := Lib.hid (fun w2 b2 =>
        ⟨(show Box wc.drew (w.heap.size + 1) 24 zero3 from Z2.out).next b2, (show Box wc.drew bp 24 (optC (s - i) (f + i) B al.length c') from Z3.out).next b2, L2.out.drew.trans (b2.mono L2.out.size), HWd.out.below b2⟩)
      have hm7 : al.length ≤ maxLen := Nat.le_trans h2 h3
      clear hbp z2 hal hcc hnew hbx wr1 wr2
      go_wp2_with fail
      go_region_with (go_at_call 14; refine (rvalid_any (s - i) (f + i) B al.length c' al _ HWd.out hm7).mono ?_; rintro e w2 ⟨rfl, b2⟩; obtain ⟨t1, t2, t3, t4⟩ := KEY.out w2 b2; have Q1 := Lib.hid t1; have Q2 := Lib.hid t3; have Q4 := Lib.hid t4; have q0 := t1.cell (i := 0) rfl; have q1 := t1.cell (i := 1) rfl; have q2 := t1.cell (i := 2) rfl; have r0 := t1.frozen 0; have r1 := t1.frozen 1; have r2 := t1.frozen 2; have q3 := t2.cell (i := 0) rfl; have q4 := t2.cell (i := 1) rfl; have q5 := t2.cell (i := 2) rfl; clear t1 t2 t3 t4)
      all_goals
        go_wp2_with fail
        refine ret_dec Try.results36 rfl rfl (((Q1.out.set (i := 0) (.int .i64 (s - i))).set (i := 1) (.int .i64 (f + i))).set (i := 2) (.slice B al.length c')) rfl ?_
        rw [HE.out]
        refine ⟨B, c', rfl, ⟨rfl, ((Q4.out.2.set _ HNW.out).set _ HNW.out).set _ HNW.out⟩, HCC.out.1, HCC.out.2.1, HCC.out.2.2, ((Q2.out.setCell (by simp) _).setCell (by simp) _).setCell (by simp) _, fun b off e => by have := HNW.out b off e; omega⟩
  · have hp' : Ev.placed ⟨y1, y2, s, f, i, y4⟩ = false := by simpa using hp
    rw [hp']
    go_wp2_with fail
    obtain ⟨z1, z2⟩ := endZ.out _ rfl
    exact ret_dec Try.results36 rfl rfl z1 rfl (ZERO.out _ (.inl hp') z2)
end Go.Proofs.Ytfpnjlfcnfjkdaa
