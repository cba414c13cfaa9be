/- Contract of enters. -/
import Derived.Test.YtpaepefpfaoacaaSpE
namespace Go.Proofs.Ytpaepefpfaoacaa
open Go.ChangeShapes Go.WideShapes Go.ChangeAt Go.RowKit
set_option linter.unusedVariables false

def entersP (st : List AstA) (full : Int) (p : P5) : Bool :=
  match findA p.item st with
  | none => false
  | some a => p.key && (decide (0 ≤ p.index) && (decide (p.index < a.pics.length) && (match needOf ((sizesP a.pics).drop p.index.toNat) with | none => false | some n => decide (n ≤ full))))
set_option maxRecDepth 100000 in
set_option maxHeartbeats 2000000 in
theorem enters_any (b : Nat) (k : SpK) (s : Sp) (p : P5) (w : World) (h : SpOk w b k s) :
    Calls Try.prog 43 #[.pointer (some ⟨b, 0, none⟩), p.val] w fun e w' => e = .returned (.bool (entersP k.store s.full p)) ∧ Below w.heap.size w w' := by
  obtain ⟨⟨NA, nc, hx, _, _⟩, hst, _, _, hm, hp, _⟩ := h
  have c0 : w.cell? ⟨b, 0, none⟩ = some (.int .i64 s.full) := hx.cell (i := 0) rfl
  have c9 : w.cell? ⟨b, 9, none⟩ = some (.slice k.SA k.store.length k.sc) := hx.cell (i := 9) rfl
  have hlt := hx.lt
  clear hx
  obtain ⟨fl, ls, nn⟩ := s
  obtain ⟨it, ix, sz, ky, al⟩ := p
  simp only at c0 c9
  have b0 := Lib.hid (balloc w (.cells #[.int .i64 it, .int .i64 ix, .int .i64 sz, .bool ky, .bool al] 71))
  have X0 := Lib.hid (Box.new w 71 #[.int .i64 it, .int .i64 ix, .int .i64 sz, .bool ky, .bool al])
  have hne : b ≠ w.heap.size := by omega
  have hne1 : b ≠ w.heap.size + 1 := by omega
  have HST := Lib.hid hst
  have HM := Lib.hid hm
  have HP := Lib.hid hp
  clear hst hm hp
  go_enter Try.func43, Try.ntmps43
  go_upto_region 1 with (fail)
  go_cut [5, 6] (fun v5 v6 wx => ∃ (bp : Nat) (B : Option Addr) (c : Nat), v5 = .pointer (some ⟨bp, 0, none⟩) ∧ v6 = .bool (findA it k.store).isSome ∧ Box wx bp 49 #[.int .i64 ((findA it k.store).getD astZ).item, .slice B ((findA it k.store).getD astZ).pics.length c] ∧ IsPics wx B ((findA it k.store).getD astZ).pics.length ((findA it k.store).getD astZ).pics ∧ Below (w.alloc (.cells #[.int .i64 it, .int .i64 ix, .int .i64 sz, .bool ky, .bool al] 71)).heap.size (w.alloc (.cells #[.int .i64 it, .int .i64 ix, .int .i64 sz, .bool ky, .bool al] 71)) wx)
  case first =>
    go_region_held3 (fun w' => w'.cell? ⟨b, 9, none⟩ = some (.slice k.SA k.store.length k.sc) ∧ w'.cell? ⟨w.heap.size, 0, none⟩ = some (.int .i64 it))
      (first
        | (exact ⟨gx0, gx1⟩)
        | (exact ⟨by rw [World.cell?_setCell_other _ _ _ _ (by simp), World.cell?_setCell_other _ _ _ _ (by simp)]; exact gx0, by rw [World.cell?_setCell_other _ _ _ _ (by simp), World.cell?_setCell_other _ _ _ _ (by simp)]; exact gx1⟩)
        | (exact ⟨Lib.cell?_alloc_some _ gx0, Lib.cell?_alloc_some _ gx1⟩)
        | (refine ⟨?_, ?_⟩ <;> go_keep))
      (first
        | (go_at_call 40; refine (mfind_any k.SA _ k.sc k.store it (((w.alloc (.cells #[.int .i64 it, .int .i64 ix, .int .i64 sz, .bool ky, .bool al] 71)).alloc (.cells #[.int .i64 0, .slice none 0 0] 49)).drew) (HST.out.below (by repeat (first | exact Below.refl _ _ | refine Below.drew ?_ | refine Below.alloc ?_ (by simp) _))) HM.out HP.out).mono ?_; rintro e w2 ⟨B, c, rfl, h1, h2, h3, h4, b2, h5⟩; have gx0 : w2.cell? ⟨b, 9, none⟩ = some (.slice k.SA k.store.length k.sc) := (b2.cell (p := ⟨b, 9, none⟩) (by simp; omega)).trans (by go_keep); have gx1 : w2.cell? ⟨w.heap.size, 0, none⟩ = some (.int .i64 it) := (b2.cell (p := ⟨w.heap.size, 0, none⟩) (by simp; omega)).trans (by go_keep); have hy : Box w2 (w.heap.size + 1) 49 #[.int .i64 0, .slice none 0 0] := Box.next (w := ((w.alloc (.cells #[.int .i64 it, .int .i64 ix, .int .i64 sz, .bool ky, .bool al] 71)).alloc (.cells #[.int .i64 0, .slice none 0 0] 49)).drew) (by have := Box.new (w.alloc (.cells #[.int .i64 it, .int .i64 ix, .int .i64 sz, .bool ky, .bool al] 71)) 49 #[.int .i64 0, .slice none 0 0]; rw [World.size_alloc] at this; exact this) b2; have y0 := hy.cell (i := 0) rfl; have y1 := hy.cell (i := 1) rfl; have z0 := hy.frozen 0; have z1 := hy.frozen 1; have HY := Lib.hid hy; have HB2 := Lib.hid b2; have H1 := Lib.hid h1; have H5 := Lib.hid h5; clear hy b2 h1 h5)
        | (go_at_call 40; refine (mfind_any k.SA _ k.sc k.store it ((w.alloc (.cells #[.int .i64 it, .int .i64 ix, .int .i64 sz, .bool ky, .bool al] 71)).drew) (HST.out.below (by repeat (first | exact Below.refl _ _ | refine Below.drew ?_ | refine Below.alloc ?_ (by simp) _))) HM.out HP.out).mono ?_; rintro e w2 ⟨B, c, rfl, h1, h2, h3, h4, b2, h5⟩; have gx0 : w2.cell? ⟨b, 9, none⟩ = some (.slice k.SA k.store.length k.sc) := (b2.cell (p := ⟨b, 9, none⟩) (by simp; omega)).trans (by go_keep); have gx1 : w2.cell? ⟨w.heap.size, 0, none⟩ = some (.int .i64 it) := (b2.cell (p := ⟨w.heap.size, 0, none⟩) (by simp)).trans (by go_keep); have HB2 := Lib.hid b2; have H1 := Lib.hid h1; have H5 := Lib.hid h5; clear b2 h1 h5))
    · go_wp2_with fail
      go_meet
      have hb := ((Below.refl _ (w.alloc (.cells #[.int .i64 it, .int .i64 ix, .int .i64 sz, .bool ky, .bool al] 71))).drew).trans HB2.out
      exact ⟨w2.heap.size, B, c, rfl, rfl, Box.new _ _ _, IsRow.below H1.out (balloc _ _), hb.alloc hb.size _⟩
    · go_wp2_with fail
      go_meet
      have hb := (((Below.refl _ (w.alloc (.cells #[.int .i64 it, .int .i64 ix, .int .i64 sz, .bool ky, .bool al] 71))).alloc (Nat.le_refl _) (.cells #[.int .i64 0, .slice none 0 0] 49)).drew).trans (HB2.out.mono (by simp))
      have h6 : ∀ b' o', B = some ⟨b', o', none⟩ → w.heap.size + 1 < b' := fun b' o' e => by have := H5.out b' o' e; simp at this; omega
      refine ⟨w.heap.size + 1, B, c, rfl, rfl, ?_, ⟨rfl, (H1.out.2.set _ h6).set _ h6⟩, (hb.setCell (by simp) _).setCell (by simp) _⟩
      have := (HY.out.set (i := 0) (.int .i64 ((findA it k.store).getD astZ).item)).set (i := 1) (.slice B ((findA it k.store).getD astZ).pics.length c)
      simpa using this
  case rest =>
    obtain ⟨bp, B, c, rfl, rfl, hbp, hpx, hbx⟩ := hcut
    have hB : Below w.heap.size w wc := b0.out.trans (hbx.mono (by simp))
    have HB := Lib.hid hB
    have x0 := X0.out.next hbx
    have p1 := x0.cell (i := 1) rfl
    have p3 := x0.cell (i := 3) rfl
    have a0 := hbp.cell (i := 0) rfl
    have a1 := hbp.cell (i := 1) rfl
    have c0' : wc.cell? ⟨b, 0, none⟩ = some (.int .i64 fl) := (hB.cell (p := ⟨b, 0, none⟩) hlt).trans c0
    clear hB x0 hbx
    cases hf : findA it k.store with
    | none =>
      rw [hf] at a0 a1
      have HF := Lib.hid hf
      clear hf
      go_wp2_with fail
      go_ret
      exact ⟨by simp [entersP, HF.out], HB.out⟩
    | some a =>
      rw [hf] at a0 a1 hpx hbp
      have hpl := HP.out a (findA_mem hf).1
      have HF := Lib.hid hf
      have HPX := Lib.hid hpx
      have HBP := Lib.hid hbp
      clear hf hpx hbp
      simp only [Option.getD_some] at a0 a1 HPX HBP
      obtain ⟨ai, aA, ac, pp⟩ := a
      simp only at hpl a0 a1 HPX HBP
      cases ky with
      | false =>
        go_wp2_with fail
        go_ret
        exact ⟨by simp [entersP, HF.out], HB.out⟩
      | true =>
        by_cases j1 : ix < 0
        · go_wp2_with fail
          go_ret
          exact ⟨by simp [entersP, HF.out]; omega, HB.out⟩
        by_cases j2 : (pp.length : Int) ≤ ix
        · go_wp2_with fail
          go_ret
          exact ⟨by simp [entersP, HF.out]; omega, HB.out⟩
        obtain ⟨m, rfl⟩ : ∃ m : Nat, ix = m := ⟨ix.toNat, by omega⟩
        go_upto_region 4 with (fail)
        go_cut [6, 7] (fun v6 v7 wx => v6 = .bool (needOf ((sizesP pp).drop m)).isSome ∧ v7 = .int .i64 ((needOf ((sizesP pp).drop m)).getD 0) ∧ Below wc.heap.size wc wx)
        case first =>
          have hbl := HBP.out.lt
          go_region_held3 (fun w' => w'.cell? ⟨bp, 0, none⟩ = some (.int .i64 ai) ∧ w'.cell? ⟨bp, 1, none⟩ = some (.slice B pp.length c) ∧ w'.cell? ⟨w.heap.size, 1, none⟩ = some (.int .i64 (m : Int)))
            (first
              | (exact ⟨gy0, gy1, gy2⟩)
              | (exact ⟨gx0, gx1, gx2⟩)
              | (refine ⟨?_, ?_, ?_⟩ <;> go_keep))
            (first
              | (go_at_call 52; refine (msizes_any ai B pp.length c pp wc.drew (IsRow.below HPX.out ((Below.refl _ _).drew)) hpl).mono ?_; rintro e w2 ⟨D, d, rfl, h1, h2, h3, h4, b2⟩; have gx0 : w2.cell? ⟨bp, 0, none⟩ = some (.int .i64 ai) := (b2.cell (p := ⟨bp, 0, none⟩) hbl).trans a0; have gx1 : w2.cell? ⟨bp, 1, none⟩ = some (.slice B pp.length c) := (b2.cell (p := ⟨bp, 1, none⟩) hbl).trans a1; have gx2 : w2.cell? ⟨w.heap.size, 1, none⟩ = some (.int .i64 (m : Int)) := (b2.cell (p := ⟨w.heap.size, 1, none⟩) (World.block_lt_of_cell? _ _ p1)).trans p1; simp only [sizesP, List.length_map] at h1 h2; simp only [sizesP, List.length_map]; have hd : d ≠ m := (by omega); have hd2 : (m : Int) ≤ (pp.length : Int) := (by omega); have hd3 : (m : Int) ≤ (d : Int) := (by omega); have hd4 : (0 : Int) ≤ (m : Int) := (by omega); have HQ : Hid (IsInts w2 (Option.map (fun x => x.add m) D) (pp.length - m) ((sizesP pp).drop m)) := Lib.hid (toInts (by have := cut1 (ofInts h1) (k := m) (cap := d) (by omega) (by omega); rwa [if_neg hd] at this)); have HB2 := Lib.hid b2; clear h1 b2)
              | (go_at_call 51; refine (vbvNeed_any _ _ _ ((sizesP pp).drop m) w2 HQ.out (by omega)).mono ?_; rintro e w3 ⟨rfl, b3⟩; have gy0 : w3.cell? ⟨bp, 0, none⟩ = some (.int .i64 ai) := (b3.cell (p := ⟨bp, 0, none⟩) (World.block_lt_of_cell? _ _ gx0)).trans gx0; have gy1 : w3.cell? ⟨bp, 1, none⟩ = some (.slice B pp.length c) := (b3.cell (p := ⟨bp, 1, none⟩) (World.block_lt_of_cell? _ _ gx1)).trans gx1; have gy2 : w3.cell? ⟨w.heap.size, 1, none⟩ = some (.int .i64 (m : Int)) := (b3.cell (p := ⟨w.heap.size, 1, none⟩) (World.block_lt_of_cell? _ _ gx2)).trans gx2; have HB3 := Lib.hid b3; clear b3; unfold pairV))
          all_goals
            go_wp2_with fail
            go_meet
            exact ⟨rfl, rfl, bnext ((Below.refl _ wc).drew.trans HB2.out) HB3.out⟩
        case rest =>
          obtain ⟨rfl, rfl, hbx⟩ := hcut
          have c0'' := (hbx.cell (p := ⟨b, 0, none⟩) (World.block_lt_of_cell? _ _ c0')).trans c0'
          have HB' := Lib.hid (bnext HB.out hbx)
          clear hbx
          cases hn : needOf ((sizesP pp).drop m) with
          | none =>
            have HN := Lib.hid hn
            clear hn
            go_wp2_with fail
            go_ret
            exact ⟨by simp [entersP, HF.out, HN.out], HB'.out⟩
          | some g =>
            have HN := Lib.hid hn
            clear hn
            go_wp2_with fail
            go_ret
            exact ⟨by simp [entersP, HF.out, HN.out]; omega, HB'.out⟩
end Go.Proofs.Ytpaepefpfaoacaa
