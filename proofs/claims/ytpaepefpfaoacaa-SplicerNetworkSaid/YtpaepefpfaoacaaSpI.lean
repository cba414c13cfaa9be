/- Contract of note. -/
import Derived.Test.YtpaepefpfaoacaaSpH
namespace Go.Proofs.Ytpaepefpfaoacaa
open Go.ChangeShapes Go.WideShapes Go.ChangeAt Go.RowKit
set_option linter.unusedVariables false
set_option linter.unusedSimpArgs false

/-- What is noted after a unit. -/
def notedP (r : Int) (l : List Note) (u : UnitA) : List Note :=
  match itemP r u.al with
  | none => []
  | some it => if u.of ≤ 0 then [] else if l.any (Note.same u.os it) = true then l else [⟨u.os, it, u.frame⟩]
theorem notedP_same {r jt : Int} {l : List Note} {u : UnitA} (h : itemP r u.al = some jt) (h0 : ¬ u.of ≤ 0) (hx : l.any (Note.same u.os jt) = true) : notedP r l u = l := by
  unfold notedP; rw [h]; simp only [hx, if_true]; rw [if_neg h0]
theorem notedP_new {r jt : Int} {l : List Note} {u : UnitA} (h : itemP r u.al = some jt) (h0 : ¬ u.of ≤ 0) (hx : l.any (Note.same u.os jt) = false) : notedP r l u = [⟨u.os, jt, u.frame⟩] := by
  unfold notedP; rw [h]; simp only [hx, Bool.false_eq_true, if_false]; rw [if_neg h0]
abbrev Sp.noting (s : Sp) (r : Int) (u : UnitA) : Sp := ⟨s.full, s.last, notedP r s.noted u⟩
theorem SpOk.noted {w w' : World} {b : Nat} {k : SpK} {s : Sp} {l : List Note} {B : Option Addr} {c : Nat} (h : SpOk w b k s) (hg : w.grownBy w' (some b)) (hn : IsNotes w' B l.length l) (ho : Off b B) (hl : l.length ≤ 1)
    (hx : ∀ NA nc, Box w b 76 (spCells k s NA nc) → Box w' b 76 (spCells k ⟨s.full, s.last, l⟩ B c)) : SpOk w' b k ⟨s.full, s.last, l⟩ := by
  obtain ⟨⟨NA, nc, h1, h2, h3⟩, h4, h5, h6, h7, h8, h9⟩ := h
  exact ⟨⟨B, c, hx NA nc h1, hn, ho⟩, h4.grown hg h5 h6, h5, h6, h7, h8, hl⟩
theorem bcell2 {W w1 : World} (hb : Below W.heap.size W w1) : (∀ b o, b < W.heap.size → w1.cell? ⟨b, o, none⟩ = W.cell? ⟨b, o, none⟩) ∧ (∀ b o, b < W.heap.size → w1.frozen? ⟨b, o, none⟩ = W.frozen? ⟨b, o, none⟩) :=
  ⟨fun b o h => hb.cell (p := ⟨b, o, none⟩) h, fun b o h => hb.frozen (p := ⟨b, o, none⟩) h⟩
theorem Rd.lit (w : World) (t : TypeId) (k n : Nat) (xs : List Value) (h : xs.length = n * k) : Rd (w.alloc (.cells xs.toArray t)) k (some ⟨w.heap.size, 0, none⟩) n xs :=
  ⟨h, .inr ⟨w.heap.size, 0, rfl, by simp, fun i hi => by
    have hi' : i < xs.length := by omega
    rw [Nat.zero_add, List.getElem?_eq_getElem hi']
    exact (Box.new w t xs.toArray).cell (by simp [List.getElem?_eq_getElem hi'])⟩⟩
abbrev uCells (ch fr ve it ix : Int) (ky : Bool) (da : ByteArray) (re ga : Int) (ca : ByteArray) (os oF : Int) (A : Option Addr) (n c : Nat) : Array Value := #[.int .i64 ch, .int .i64 fr, .int .i64 ve, .int .i64 it, .int .i64 ix, .bool ky, .string da, .int .i64 re, .int .i64 ga, .string ca, .int .i64 os, .int .i64 oF, .slice A n c]
set_option maxRecDepth 100000 in
set_option maxHeartbeats 2000000 in
theorem note_any (b : Nat) (k : SpK) (s : Sp) (u : UnitA) (w : World) (h : SpOk w b k s) (hu : u.ok w) :
    Calls Try.prog 29 #[.pointer (some ⟨b, 0, none⟩), u.val] w fun e w' => e = .returned (.tuple #[]) ∧ SpOk w' b k (s.noting k.region u) ∧ w.grownBy w' (some b) := by
  have HS := Lib.hid h
  obtain ⟨⟨NA, nc, hx, hno, hoff⟩, _, _, _, _, _, hn1⟩ := h
  have HX := Lib.hid hx
  have HNO := Lib.hid hno
  have c8 : w.cell? ⟨b, 8, none⟩ = some (.int .i64 k.region) := hx.cell (i := 8) rfl
  have c10 : w.cell? ⟨b, 10, none⟩ = some (.slice NA s.noted.length nc) := hx.cell (i := 10) rfl
  have f10 := hx.frozen 10
  have hlt := hx.lt
  clear hx hno hoff
  obtain ⟨ch, fr, ve, it, ix, ky, da, re, ga, ca, os, oF, A, c, al⟩ := u
  obtain ⟨hal, hall, _⟩ := hu
  simp only at hal hall
  have HAL := Lib.hid hal
  clear hal
  have HALL := Lib.hid hall
  clear hall
  have b0 := Lib.hid (balloc w (.cells #[.int .i64 ch, .int .i64 fr, .int .i64 ve, .int .i64 it, .int .i64 ix, .bool ky, .string da, .int .i64 re, .int .i64 ga, .string ca, .int .i64 os, .int .i64 oF, .slice A al.length c] 46))
  have X0 := Lib.hid (Box.new w 46 #[.int .i64 ch, .int .i64 fr, .int .i64 ve, .int .i64 it, .int .i64 ix, .bool ky, .string da, .int .i64 re, .int .i64 ga, .string ca, .int .i64 os, .int .i64 oF, .slice A al.length c])
  have hne : b ≠ w.heap.size := by omega
  have hne1 : b ≠ w.heap.size + 1 := by omega
  go_enter Try.func29, Try.ntmps29
  obtain ⟨W0, hW0⟩ : ∃ W0, w.alloc (.cells #[.int .i64 ch, .int .i64 fr, .int .i64 ve, .int .i64 it, .int .i64 ix, .bool ky, .string da, .int .i64 re, .int .i64 ga, .string ca, .int .i64 os, .int .i64 oF, .slice A al.length c] 46) = W0 := ⟨_, rfl⟩
  have HW0 := Lib.hid hW0
  rw [hW0] at b0 X0
  have x10 : W0.cell? ⟨w.heap.size, 10, none⟩ = some (.int .i64 os) := X0.out.cell (i := 10) rfl
  have x11 : W0.cell? ⟨w.heap.size, 11, none⟩ = some (.int .i64 oF) := X0.out.cell (i := 11) rfl
  have x12 : W0.cell? ⟨w.heap.size, 12, none⟩ = some (.slice A al.length c) := X0.out.cell (i := 12) rfl
  have x1 : W0.cell? ⟨w.heap.size, 1, none⟩ = some (.int .i64 fr) := X0.out.cell (i := 1) rfl
  have hs0 : W0.heap.size = w.heap.size + 1 := by rw [← hW0]; simp
  have HS0 := Lib.hid hs0
  have hneA : b ≠ W0.heap.size := by omega
  have hneB : w.heap.size ≠ W0.heap.size := by omega
  have hltA : b < W0.heap.size := by omega
  have hltB : w.heap.size < W0.heap.size := by omega
  clear hs0
  have d8 := (b0.out.cell (p := ⟨b, 8, none⟩) hlt).trans c8
  have d10 := (b0.out.cell (p := ⟨b, 10, none⟩) hlt).trans c10
  go_upto_region 1 with (fail)
  clear hW0
  go_cut [4, 5] (fun v4 v5 wx => ∃ (bi : Nat), v4 = .pointer (some ⟨bi, 0, none⟩) ∧ v5 = .bool (itemP k.region al).isSome ∧ Box wx bi 3 #[.int .i64 ((itemP k.region al).getD 0)] ∧ Below W0.heap.size W0 wx)
  case first =>
    go_region_held3 (fun w' => w'.cell? ⟨b, 8, none⟩ = some (.int .i64 k.region) ∧ w'.cell? ⟨w.heap.size, 10, none⟩ = some (.int .i64 os) ∧ w'.cell? ⟨w.heap.size, 11, none⟩ = some (.int .i64 oF) ∧ w'.cell? ⟨w.heap.size, 12, none⟩ = some (.slice A al.length c))
      (first
        | (exact ⟨gx0, gx1, gx2, gx3⟩)
        | (exact ⟨by rw [World.cell?_setCell_other _ _ _ _ (by simp [hneA, hneB])]; exact gx0, by rw [World.cell?_setCell_other _ _ _ _ (by simp [hneA, hneB])]; exact gx1, by rw [World.cell?_setCell_other _ _ _ _ (by simp [hneA, hneB])]; exact gx2, by rw [World.cell?_setCell_other _ _ _ _ (by simp [hneA, hneB])]; exact gx3⟩)
        | (exact ⟨Lib.cell?_alloc_some _ gx0, Lib.cell?_alloc_some _ gx1, Lib.cell?_alloc_some _ gx2, Lib.cell?_alloc_some _ gx3⟩)
        | (refine ⟨?_, ?_, ?_, ?_⟩ <;> go_keep))
      (first
        | (go_at_call 36; refine (item_any os oF A al.length c al k.region ((W0.alloc (.cells #[.int .i64 0] 3)).drew) (HAL.out.below (bnext b0.out (by repeat (first | exact Below.refl _ _ | refine Below.drew ?_ | refine Below.alloc ?_ (by simp) _)))) HALL.out).mono ?_; rintro e w2 ⟨rfl, b2⟩; have gx0 : w2.cell? ⟨b, 8, none⟩ = some (.int .i64 k.region) := (b2.cell (p := ⟨b, 8, none⟩) (by simp [HS0.out]; omega)).trans (by go_keep); have gx1 : w2.cell? ⟨w.heap.size, 10, none⟩ = some (.int .i64 os) := (b2.cell (p := ⟨w.heap.size, 10, none⟩) (by simp [HS0.out]; omega)).trans (by go_keep); have gx2 : w2.cell? ⟨w.heap.size, 11, none⟩ = some (.int .i64 oF) := (b2.cell (p := ⟨w.heap.size, 11, none⟩) (by simp [HS0.out]; omega)).trans (by go_keep); have gx3 : w2.cell? ⟨w.heap.size, 12, none⟩ = some (.slice A al.length c) := (b2.cell (p := ⟨w.heap.size, 12, none⟩) (by simp [HS0.out]; omega)).trans (by go_keep); have hy : Box w2 W0.heap.size 3 #[.int .i64 0] := Box.next (w := (W0.alloc (.cells #[.int .i64 0] 3)).drew) (Box.new W0 3 #[.int .i64 0]) b2; have y0 : w2.cell? ⟨W0.heap.size, 0, none⟩ = some (.int .i64 0) := hy.cell (i := 0) rfl; have z0 := hy.frozen 0; have HY := Lib.hid hy; have HB2 := Lib.hid b2; clear hy b2)
        | (go_at_call 36; refine (item_any os oF A al.length c al k.region (W0.drew) (HAL.out.below (bnext b0.out (by repeat (first | exact Below.refl _ _ | refine Below.drew ?_ | refine Below.alloc ?_ (by simp) _)))) HALL.out).mono ?_; rintro e w2 ⟨rfl, b2⟩; have gx0 : w2.cell? ⟨b, 8, none⟩ = some (.int .i64 k.region) := (b2.cell (p := ⟨b, 8, none⟩) (by simp [HS0.out]; omega)).trans (by go_keep); have gx1 : w2.cell? ⟨w.heap.size, 10, none⟩ = some (.int .i64 os) := (b2.cell (p := ⟨w.heap.size, 10, none⟩) (by simp [HS0.out])).trans (by go_keep); have gx2 : w2.cell? ⟨w.heap.size, 11, none⟩ = some (.int .i64 oF) := (b2.cell (p := ⟨w.heap.size, 11, none⟩) (by simp [HS0.out])).trans (by go_keep); have gx3 : w2.cell? ⟨w.heap.size, 12, none⟩ = some (.slice A al.length c) := (b2.cell (p := ⟨w.heap.size, 12, none⟩) (by simp [HS0.out])).trans (by go_keep); have HB2 := Lib.hid b2; clear b2))
    · go_wp2_with fail
      go_meet
      have hb := ((Below.refl _ W0).drew).trans HB2.out
      exact ⟨w2.heap.size, rfl, rfl, Box.new _ _ _, hb.alloc hb.size _⟩
    · go_wp2_with fail
      go_meet
      have hb := (((Below.refl _ W0).alloc (Nat.le_refl _) (.cells #[.int .i64 0] 3)).drew).trans (HB2.out.mono (by simp))
      refine ⟨W0.heap.size, rfl, rfl, ?_, hb.setCell (by simp) _⟩
      have := HY.out.set (i := 0) (.int .i64 ((itemP k.region al).getD 0))
      simpa using this
  case rest =>
    obtain ⟨bi, rfl, rfl, hbi, hbx⟩ := hcut
    have hB : Below w.heap.size w wc := bnext b0.out hbx
    have HB := Lib.hid hB
    have X1 := Lib.hid (X0.out.next hbx)
    have HX1 := Lib.hid (HX.out.next hB)
    have i0 : wc.cell? ⟨bi, 0, none⟩ = some (.int .i64 ((itemP k.region al).getD 0)) := hbi.cell (i := 0) rfl
    have e10 : wc.cell? ⟨b, 10, none⟩ = some (.slice NA s.noted.length nc) := HX1.out.cell (i := 10) rfl
    have ef10 := HX1.out.frozen 10
    have y1 : wc.cell? ⟨w.heap.size, 1, none⟩ = some (.int .i64 fr) := X1.out.cell (i := 1) rfl
    have y10 : wc.cell? ⟨w.heap.size, 10, none⟩ = some (.int .i64 os) := X1.out.cell (i := 10) rfl
    have y11 : wc.cell? ⟨w.heap.size, 11, none⟩ = some (.int .i64 oF) := X1.out.cell (i := 11) rfl
    have hltc := HX1.out.lt
    have hlti := hbi.lt
    have HSC := Lib.hid (HS.out.below hB)
    clear hB hbx hbi
    cases hf : itemP k.region al with
    | none =>
      have HF : Hid (notedP k.region s.noted ⟨ch, fr, ve, it, ix, ky, da, re, ga, ca, os, oF, A, c, al⟩ = []) := Lib.hid (by simp [notedP, hf])
      rw [hf] at i0
      clear hf
      simp only [Option.getD_none, Option.isSome_none] at i0 ⊢
      go_wp2_with fail
      refine bodyPost_ret (results_none rfl _ _ _) rfl ⟨rfl, ?_, ?_⟩
      · unfold Sp.noting
        rw [HF.out]
        exact HSC.out.noted (c := 0) (grown_set hltc 10 _) (IsRow.nil _ none) (fun _ _ e => by cases e) (by simp) (fun NA nc hx => by simpa [spCells] using hx.set (i := 10) (.slice none 0 0))
      · exact grown_trans (below_grown HB.out) (grown_set hltc 10 _)
    | some jt =>
      have HF0 := Lib.hid hf
      rw [hf] at i0
      clear hf
      simp only [Option.getD_some, Option.isSome_some] at i0 ⊢
      by_cases h0 : oF ≤ 0
      · have HF : Hid (notedP k.region s.noted ⟨ch, fr, ve, it, ix, ky, da, re, ga, ca, os, oF, A, c, al⟩ = []) := Lib.hid (by simp [notedP, HF0.out, h0])
        go_wp2_with fail
        refine bodyPost_ret (results_none rfl _ _ _) rfl ⟨rfl, ?_, ?_⟩
        · unfold Sp.noting
          rw [HF.out]
          exact HSC.out.noted (c := 0) (grown_set hltc 10 _) (IsRow.nil _ none) (fun _ _ e => by cases e) (by simp) (fun NA nc hx => by simpa [spCells] using hx.set (i := 10) (.slice none 0 0))
        · exact grown_trans (below_grown HB.out) (grown_set hltc 10 _)
      · have HC := Lib.hid (hasN_same NA s.noted.length nc s.noted os jt w.heap.size bi wc (IsRow.below HNO.out HB.out) (by unfold maxLen; omega) y10 i0)
        cases hx : s.noted.any (Note.same os jt) with
        | true =>
          have HF : Hid (notedP k.region s.noted ⟨ch, fr, ve, it, ix, ky, da, re, ga, ca, os, oF, A, c, al⟩ = s.noted) := Lib.hid (notedP_same HF0.out h0 hx)
          rw [hx] at HC
          clear hx
          go_wp2_with (go_at_call 38; refine HC.out.mono ?_; rintro e w2 ⟨rfl, b2⟩)
          refine bodyPost_end (results_none rfl _ _ _) rfl ⟨rfl, ?_, ?_⟩
          · unfold Sp.noting
            rw [HF.out]
            exact HSC.out.below b2
          · exact below_grown (bnext HB.out b2)
        | false =>
          have HF : Hid (notedP k.region s.noted ⟨ch, fr, ve, it, ix, ky, da, re, ga, ca, os, oF, A, c, al⟩ = [⟨os, jt, fr⟩]) := Lib.hid (notedP_new HF0.out h0 hx)
          rw [hx] at HC
          clear hx
          go_wp2_with (go_at_call 38; refine HC.out.mono ?_; rintro e w2 ⟨rfl, b2⟩; have z1 : w2.cell? ⟨w.heap.size, 1, none⟩ = some (.int .i64 fr) := (b2.cell (World.block_lt_of_cell? _ _ y1)).trans y1; have z10 : w2.cell? ⟨w.heap.size, 10, none⟩ = some (.int .i64 os) := (b2.cell (World.block_lt_of_cell? _ _ y10)).trans y10; have zi : w2.cell? ⟨bi, 0, none⟩ = some (.int .i64 jt) := (b2.cell (World.block_lt_of_cell? _ _ i0)).trans i0; have zb : w2.cell? ⟨b, 10, none⟩ = some (.slice NA s.noted.length nc) := (b2.cell (World.block_lt_of_cell? _ _ e10)).trans e10; have zf : w2.frozen? ⟨b, 10, none⟩ = false := (HX1.out.next b2).frozen 10; have hl2 : b < w2.heap.size := Nat.lt_of_lt_of_le hltc b2.size; have HB2 := Lib.hid b2; clear b2)
          have h2 := HSC.out.below HB2.out
          have g0 := grown_set hl2 10 (.slice (some ⟨w2.heap.size, 0, none⟩) 1 1)
          have g1 := grown_trans g0 (below_grown (balloc (w2.setCell ⟨b, 10, none⟩ (.slice (some ⟨w2.heap.size, 0, none⟩) 1 1)) (.cells #[.int .i64 os, .int .i64 jt, .int .i64 fr] 94)))
          refine bodyPost_end (results_none rfl _ _ _) rfl ⟨rfl, ?_, grown_trans (below_grown (bnext HB.out HB2.out)) g1⟩
          unfold Sp.noting
          rw [HF.out]
          have hr := Rd.lit (w2.setCell ⟨b, 10, none⟩ (.slice (some ⟨w2.heap.size, 0, none⟩) 1 1)) 94 3 1 [.int .i64 os, .int .i64 jt, .int .i64 fr] rfl
          rw [show (w2.setCell ⟨b, 10, none⟩ (.slice (some ⟨w2.heap.size, 0, none⟩) 1 1)).heap.size = w2.heap.size by simp [World.setCell]] at hr
          exact h2.noted (c := 1) g1 (l := [⟨os, jt, fr⟩]) ⟨rfl, hr⟩ (fun b' o e => by cases e; omega) (by simp) (fun NA nc hx => by simpa [spCells] using (hx.set (i := 10) (.slice (some ⟨w2.heap.size, 0, none⟩) 1 1)).next (balloc _ (.cells #[.int .i64 os, .int .i64 jt, .int .i64 fr] 94)))
end Go.Proofs.Ytpaepefpfaoacaa
