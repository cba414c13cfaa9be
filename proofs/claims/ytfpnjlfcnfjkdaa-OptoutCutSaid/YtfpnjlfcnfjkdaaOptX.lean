/- The walk of OptoutCut. -/
import Derived.Test.YtfpnjlfcnfjkdaaOptV
namespace Go.Proofs.Ytfpnjlfcnfjkdaa.optoutCut
open Go.ChangeShapes Go.WideShapes Go.ChangeAt Go.RowKit
set_option linter.unusedVariables false
theorem evs_app (a b : List EvA) : evsCells (a ++ b) = evsCells a ++ evsCells b := by simp [evsCells]
theorem evs_take (l : List EvA) : ∀ j : Nat, evsCells (l.take j) = (evsCells l).take (j * 7) := by
  induction l with
  | nil => intro j; simp
  | cons a l ih =>
    intro j
    cases j with
    | zero => simp
    | succ j =>
      simp only [List.take_succ_cons, evsCells, List.flatMap_cons]
      rw [show (j + 1) * 7 = (a.cells.toList).length + j * 7 by simp; omega, List.take_length_add_append, ← ih j]
theorem evs_drop (l : List EvA) : ∀ j : Nat, evsCells (l.drop j) = (evsCells l).drop (j * 7) := by
  induction l with
  | nil => intro j; simp
  | cons a l ih =>
    intro j
    cases j with
    | zero => simp
    | succ j =>
      simp only [List.drop_succ_cons, evsCells, List.flatMap_cons]
      rw [show (j + 1) * 7 = (a.cells.toList).length + j * 7 by simp; omega, List.drop_length_add_append, ← ih j]

set_option maxRecDepth 100000 in
set_option maxHeartbeats 16000000 in
theorem walk (l : Sl PcA) (a b : Int) (w : World) (h : opPcs.ok w l) (ha : (Lit.int .i64 a).wf = true) (hb : (Lit.int .i64 b).wf = true) :
    Calls Try.prog 9 #[(opPcs.cells l).headD undef, .int .i64 a, .int .i64 b] w fun e w' => e = .returned (.bool true) ∧ Below w.heap.size w w' := by
  show Calls Try.prog 9 #[.slice l.A l.l.length l.c, .int .i64 a, .int .i64 b] w _
  have wa := wf_bd ha
  have wb := wf_bd hb
  obtain ⟨i0, hi0, hz0, hz1, hz2⟩ := info_parts infoEv
  have HL := Lib.hid h
  have hps : (l.l.take 12).length ≤ 12 := List.length_take_le _ _
  have hch := chain_mkEvs (l.l.take 12) hps
  have hlen : (mkEvs (l.l.take 12)).length ≤ 12 := by rw [mkEvs_len]; exact hps
  clear h ha hb
  go_enter Try.func9, Try.ntmps9
  go_wp2_with fail
  refine (sane_any _).mono ?_
  rintro e w1 ⟨rfl, bb⟩
  have hok1 : opPcs.ok w1 l := ⟨HL.out.1.below bb, fun p hp => by obtain ⟨q1, q2⟩ := HL.out.2.1 p hp; exact ⟨q1.below bb, q2⟩, HL.out.2.2⟩
  have HL1 := Lib.hid hok1
  have B1 := Lib.hid bb
  clear hok1 bb
  go_wp2_with fail
  refine (levents_any l w1 HL1.out).mono ?_
  rintro e w2 ⟨B, c, rfl, hev, hc1, hc2, hcn, bb⟩
  have B2 := Lib.hid (bnext B1.out bb)
  generalize mkEvs (l.l.take 12) = es at *
  have HEV := Lib.hid hev
  have HCH := Lib.hid hch
  have HCN := Lib.hid hcn
  unfold maxLen at hc2
  clear hev hch bb hps HL HL1 hcn
  by_cases h0 : es.length = 0
  · rw [h0]
    go_wp2_with fail
    go_ret
    exact ⟨rfl, B2.out⟩
  have h0' : ((es.length : Int) == 0) = false := by simp; intro e; exact h0 (by simp [e])
  have hl1 : (0 : Int) < (es.length : Int) := by omega
  have hl2 : (es.length : Int) ≤ 1000000 := by omega
  have hpk := pickOf_bd a es.length hl1
  go_wp2_with fail
  refine (pick_any a es.length _ wa.1 wa.2 hl1 hl2).mono ?_
  rintro e w3 ⟨rfl, rfl⟩
  obtain ⟨k, hk⟩ : ∃ k : Nat, pickOf a es.length = k := ⟨(pickOf a es.length).toNat, by omega⟩
  have hkl : k < es.length := by omega
  rw [hk]
  clear hpk hk
  obtain ⟨eb, off, e, hA, hbl, he, hcell⟩ := HEV.out.at_ hkl
  cases hA
  have hmem : e ∈ es := List.mem_of_getElem? he
  obtain ⟨g1, g2, g3, g4⟩ := HCH.out.mem e hmem
  have HDE : Hid (es = es.take k ++ [e] ++ es.drop (k + 1)) := Lib.hid (by
    obtain ⟨hj, he'⟩ := List.getElem?_eq_some_iff.1 he
    rw [List.append_assoc, ← he']
    have := List.drop_eq_getElem_cons hj
    rw [List.singleton_append, ← this, List.take_append_drop])
  have HCUT : Hid (∀ n fr : Int, 1 ≤ n → n < e.ev.frames → e.ev.start + n ≤ fr → nextP fr (es.take k ++ [cutA e n, cutB e n] ++ es.drop (k + 1)) = nextP fr es) := Lib.hid (fun n fr h1 h2 h3 => by
    have := cut_next fr n e (es.take k) (es.drop (k + 1)) g1 h1 h2 g3 g4 h3
    rw [← HDE.out] at this
    exact this)
  have HEOK := Lib.hid (HEV.out.2.2 e hmem)
  obtain ⟨ev, A', c', al⟩ := e
  obtain ⟨x1, x2, s, f, i, x4⟩ := ev
  have c0 := hcell 0 _ rfl
  have c1 := hcell 1 _ rfl
  have c2 := hcell 2 _ rfl
  have c3 := hcell 3 _ rfl
  have c4 := hcell 4 _ rfl
  have c5 := hcell 5 _ rfl
  have c6 := hcell 6 _ rfl
  simp only [Nat.add_zero, ← Nat.add_assoc] at c0 c1 c2 c3 c4 c5 c6
  simp only at g1 g2 g3 g4
  have h0i : (0 : Int) ≤ (k : Int) := Int.natCast_nonneg _
  have hki : (k : Int) < (es.length : Int) := by omega
  have hf2 : f ≤ 1000000 := by omega
  have hf1 : (0 : Int) < f := by omega
  have hpk := pickOf_bd b f hf1
  clear hcell he hmem
  go_wp2_with fail
  refine (pick_any b f _ wb.1 wb.2 hf1 hf2).mono ?_
  rintro e w4 ⟨rfl, rfl⟩
  obtain ⟨n, hn⟩ : ∃ n : Int, pickOf b f = n := ⟨_, rfl⟩
  rw [hn] at hpk ⊢
  clear hn
  by_cases hn0 : n = 0
  · subst hn0
    go_wp2_with fail
    go_ret
    exact ⟨rfl, B2.out⟩
  have hn0' : (n == 0) = false := by simpa using hn0
  have hn1 : 1 ≤ n := by omega
  have XA : Hid (Box ((w2.alloc (.cells (cutA ⟨⟨x1, x2, s, f, i, x4⟩, A', c', al⟩ n).cells 45)).alloc (.cells (cutB ⟨⟨x1, x2, s, f, i, x4⟩, A', c', al⟩ n).cells 45)) w2.heap.size 45 (evCells ⟨x1, x2, s, n, i, x4⟩ A' al.length c')) := Lib.hid ((Box.new w2 45 _).next (balloc _ _))
  have xb := Box.new (w2.alloc (.cells (cutA ⟨⟨x1, x2, s, f, i, x4⟩, A', c', al⟩ n).cells 45)) 45 (cutB ⟨⟨x1, x2, s, f, i, x4⟩, A', c', al⟩ n).cells
  rw [World.size_alloc] at xb
  have XB : Hid (Box ((w2.alloc (.cells (cutA ⟨⟨x1, x2, s, f, i, x4⟩, A', c', al⟩ n).cells 45)).alloc (.cells (cutB ⟨⟨x1, x2, s, f, i, x4⟩, A', c', al⟩ n).cells 45)) (w2.heap.size + 1) 45 (evCells ⟨x1, x2, s + n, f - n, i + n, x4⟩ A' al.length c')) := Lib.hid xb
  have b3 : Below w2.heap.size w2 ((w2.alloc (.cells (cutA ⟨⟨x1, x2, s, f, i, x4⟩, A', c', al⟩ n).cells 45)).alloc (.cells (cutB ⟨⟨x1, x2, s, f, i, x4⟩, A', c', al⟩ n).cells 45)) := ((Below.refl _ _).alloc (Nat.le_refl _) _).alloc (by simp) _
  have hs3 : ((w2.alloc (.cells (cutA ⟨⟨x1, x2, s, f, i, x4⟩, A', c', al⟩ n).cells 45)).alloc (.cells (cutB ⟨⟨x1, x2, s, f, i, x4⟩, A', c', al⟩ n).cells 45)).heap.size = w2.heap.size + 2 := by simp
  obtain ⟨W3, hW3⟩ : ∃ W3, (w2.alloc (.cells #[.int .i64 x1, .int .i64 x2, .int .i64 s, .int .i64 n, .int .i64 i, .int .i64 x4, .slice A' al.length c'] 45)).alloc (.cells #[.int .i64 x1, .int .i64 x2, .int .i64 (s + n), .int .i64 (f - n), .int .i64 (i + n), .int .i64 x4, .slice A' al.length c'] 45) = W3 := ⟨_, rfl⟩
  have hW3' : (w2.alloc (.cells (cutA ⟨⟨x1, x2, s, f, i, x4⟩, A', c', al⟩ n).cells 45)).alloc (.cells (cutB ⟨⟨x1, x2, s, f, i, x4⟩, A', c', al⟩ n).cells 45) = W3 := hW3
  rw [hW3'] at XA XB b3 hs3
  have R1 : Hid (Rd W3 7 (some ⟨eb, off, none⟩) k (evsCells (es.take k))) := Lib.hid (by
    rw [evs_take]
    exact (HEV.out.2.1.below b3).take (by omega))
  have R3 : Hid (Rd W3 7 (if c = k + 1 then some ⟨eb, off, none⟩ else (some (⟨eb, off, none⟩ : Addr)).map (·.add ((k + 1) * 7))) (es.length - (k + 1)) (evsCells (es.drop (k + 1)))) := Lib.hid (by
    rw [evs_drop]
    exact (HEV.out.2.1.below b3).cut (by omega) hc1)
  have B3 := Lib.hid b3
  have hlt2 : w2.heap.size + 1 < W3.heap.size := by omega
  clear hW3' b3 xb
  go_upto_region 16 with (fail)
  clear hW3 c0 c1 c2 c3 c4 c5 c6
  have hs3' : w2.heap.size + 2 ≤ W3.heap.size := by omega
  have HS3 := Lib.hid hs3
  clear hs3
  by_cases hck : c = k + 1
  · rw [if_pos hck] at R3
    subst hck
    have hel : es.length = k + 1 := by omega
    have R3 : Hid (Rd W3 7 (some ⟨eb, off, none⟩) 0 (evsCells (es.drop (k + 1)))) := Lib.hid (by
      have := R3.out
      rw [show es.length - (k + 1) = 0 by omega] at this
      exact this)
    go_wp2_with (first
      | (at_builtin; refine wpList_append_rd W3 rfl (.tmp 61) (.tmp 64) 31 rfl W3.heap.size 45 i0 (.agg #[.int .i64 0, .int .i64 0, .int .i64 0, .int .i64 0, .int .i64 0, .int .i64 0, .slice none 0 0]) 7 72 Try.underlying31 hi0 hz0 hz1 hz2 rfl (by decide) (.slice none 0 0) 0 [] rfl (World.ownsRow_nil _ _ _ _) (some ⟨eb, off, none⟩) k (k + 1) (evsCells (es.take k)) rfl (fun e => by cases e) R1.out (evs_ones _) (by unfold maxLen; omega) (by omega) (Nat.le_refl _) ?_; intro D1 d1 w4 hown1 hgrow1 hat1; have XA4 := XA.out.grown hgrow1 (by simp [Value.ownBlock]); have XB4 := XB.out.grown hgrow1 (by simp [Value.ownBlock]); have B4 := Lib.hid ((Below.refl W3.heap.size W3).grown hgrow1 (Nat.le_refl _) (fun k e => by cases e)); have O1 : Hid (w4.ownsRow W3.heap.size 45 7 (.slice D1 k d1) k (evsCells (es.take k))) := Lib.hid (by simpa using hown1); have u0 := XA4.cell (i := 0) rfl; have u1 := XA4.cell (i := 1) rfl; have u2 := XA4.cell (i := 2) rfl; have u3 := XA4.cell (i := 3) rfl; have u4 := XA4.cell (i := 4) rfl; have u5 := XA4.cell (i := 5) rfl; have u6 := XA4.cell (i := 6) rfl; have v0 := XB4.cell (i := 0) rfl; have v1 := XB4.cell (i := 1) rfl; have v2 := XB4.cell (i := 2) rfl; have v3 := XB4.cell (i := 3) rfl; have v4 := XB4.cell (i := 4) rfl; have v5 := XB4.cell (i := 5) rfl; have v6 := XB4.cell (i := 6) rfl; have XB4' := Lib.hid XB4; clear hown1 hgrow1 hat1 XA4 XB4)
      | (at_builtin; refine wpList_append_rd (w4.alloc (.cells (evsCells [(cutA ⟨⟨x1, x2, s, f, i, x4⟩, A', c', al⟩ n), (cutB ⟨⟨x1, x2, s, f, i, x4⟩, A', c', al⟩ n)]).toArray 45)) rfl (.tmp 66) (.tmp 69) 31 rfl W3.heap.size 45 i0 (.agg #[.int .i64 0, .int .i64 0, .int .i64 0, .int .i64 0, .int .i64 0, .int .i64 0, .slice none 0 0]) 7 72 Try.underlying31 hi0 hz0 hz1 hz2 rfl (by decide) (.slice D1 k d1) k (evsCells (es.take k)) rfl (own_below O1.out (balloc _ _)) (some ⟨w4.heap.size, 0, none⟩) 2 2 (evsCells [(cutA ⟨⟨x1, x2, s, f, i, x4⟩, A', c', al⟩ n), (cutB ⟨⟨x1, x2, s, f, i, x4⟩, A', c', al⟩ n)]) rfl (fun e => by cases e) (evs_new w4 45 [(cutA ⟨⟨x1, x2, s, f, i, x4⟩, A', c', al⟩ n), (cutB ⟨⟨x1, x2, s, f, i, x4⟩, A', c', al⟩ n)] (by simp [maxLen])) (evs_ones _) (by unfold maxLen; omega) (by omega) (Nat.le_trans B4.out.size (by simp)) ?_; intro D2 d2 w5 hown2 hgrow2 hat2; have B5 := Lib.hid ((B4.out.alloc B4.out.size _).grown hgrow2 (Nat.le_trans B4.out.size (by simp)) (own_ge O1.out)); have O2 := Lib.hid hown2; have XB5 := Lib.hid ((XB4'.out.next (balloc _ _)).grown hgrow2 (fun e => by have := own_ge O1.out _ e; omega)); clear u0 u1 u2 u3 u4 u5 u6 v0 v1 v2 v3 v4 v5 v6; clear hown2 hgrow2 hat2)
      | (at_builtin; refine wpList_append_rd w5 rfl (.tmp 71) (.tmp 75) 31 rfl W3.heap.size 45 i0 (.agg #[.int .i64 0, .int .i64 0, .int .i64 0, .int .i64 0, .int .i64 0, .int .i64 0, .slice none 0 0]) 7 72 Try.underlying31 hi0 hz0 hz1 hz2 rfl (by decide) (.slice D2 (k + 2) d2) (k + 2) _ rfl O2.out (some ⟨eb, off, none⟩) 0 0 (evsCells (es.drop (k + 1))) rfl (fun e => by cases e) (R3.out.below B5.out) (evs_ones _) (by unfold maxLen; omega) (by omega) B5.out.size ?_; intro D3 d3 w6 hown3 hgrow3 hat3; have B6 := Lib.hid (B5.out.grown hgrow3 B5.out.size (own_ge O2.out)); have O3 := Lib.hid hown3; have XB6 := Lib.hid (XB5.out.grown hgrow3 (fun e => by have := own_ge O2.out _ e; omega)); have y2 := XB6.out.cell (i := 2) rfl; clear hown3 hgrow3 hat3))
    have HEL := Lib.hid hel
    clear hel
    have HB6 := Lib.hid (bnext B2.out (B3.out.trans (B6.out.mono B3.out.size)))
    have hl6 : (k + 2) = (es.take k ++ [(cutA ⟨⟨x1, x2, s, f, i, x4⟩, A', c', al⟩ n), (cutB ⟨⟨x1, x2, s, f, i, x4⟩, A', c', al⟩ n)] ++ es.drop (k + 1)).length := by
      have := HEL.out
      simp only [List.length_append, List.length_take, List.length_drop, List.length_cons, List.length_nil]
      omega
    have hE6 : IsEvs w6 D3 (es.take k ++ [(cutA ⟨⟨x1, x2, s, f, i, x4⟩, A', c', al⟩ n), (cutB ⟨⟨x1, x2, s, f, i, x4⟩, A', c', al⟩ n)] ++ es.drop (k + 1)).length (es.take k ++ [(cutA ⟨⟨x1, x2, s, f, i, x4⟩, A', c', al⟩ n), (cutB ⟨⟨x1, x2, s, f, i, x4⟩, A', c', al⟩ n)] ++ es.drop (k + 1)) := by
      refine ⟨rfl, ?_, ?_⟩
      · have this : Rd w6 7 D3 (k + 2) ((evsCells (es.take k) ++ evsCells [(cutA ⟨⟨x1, x2, s, f, i, x4⟩, A', c', al⟩ n), (cutB ⟨⟨x1, x2, s, f, i, x4⟩, A', c', al⟩ n)]) ++ evsCells (es.drop (k + 1))) := Rd.of_own O3.out
        rw [hl6] at this
        rw [evs_app, evs_app]
        exact this
      · intro x hx
        have hbx : Below w2.heap.size w2 w6 := B3.out.trans (B6.out.mono B3.out.size)
        rcases List.mem_append.1 hx with hx | hx
        · rcases List.mem_append.1 hx with hx | hx
          · exact (HEV.out.2.2 x (List.mem_of_mem_take hx)).below hbx
          · simp only [List.mem_cons, List.not_mem_nil, or_false] at hx
            rcases hx with rfl | rfl
            · exact HEOK.out.below hbx
            · exact HEOK.out.below hbx
        · exact (HEV.out.2.2 x (List.mem_of_mem_drop hx)).below hbx
    have HE6 := Lib.hid hE6
    have HV6 : Hid (IsEvs w6 (some ⟨eb, off, none⟩) (k + 1) es) := Lib.hid (by
      have q := HEV.out.below (B3.out.trans (B6.out.mono B3.out.size))
      have e := HEL.out
      first | exact q | (rw [e] at q; exact q))
    have hcl : (es.take k ++ [(cutA ⟨⟨x1, x2, s, f, i, x4⟩, A', c', al⟩ n), (cutB ⟨⟨x1, x2, s, f, i, x4⟩, A', c', al⟩ n)] ++ es.drop (k + 1)).length ≤ 9223372036854775807 := by omega
    rw [hl6]
    have HCUT2 : Hid (∀ fr : Int, s + n ≤ fr → nextP fr (es.take k ++ [(cutA ⟨⟨x1, x2, s, f, i, x4⟩, A', c', al⟩ n), (cutB ⟨⟨x1, x2, s, f, i, x4⟩, A', c', al⟩ n)] ++ es.drop (k + 1)) = nextP fr es) := Lib.hid (fun fr h => HCUT.out n fr hn1 hpk.2 h)
    generalize es.take k ++ [(cutA ⟨⟨x1, x2, s, f, i, x4⟩, A', c', al⟩ n), (cutB ⟨⟨x1, x2, s, f, i, x4⟩, A', c', al⟩ n)] ++ es.drop (k + 1) = cs at *
    clear hE6 hl6 O1 O2 O3 R1 R3 HCUT HDE HEOK XA XB XB4' XB5 XB6 B4 B5 B6 y2
    go_loopw [14] (fun q wr => ∃ fr : Int, s + n ≤ fr ∧ fr ≤ 1000 ∧ q = .int .i64 fr ∧ Below w6.heap.size w6 wr) (fun q _ => (500 - intOf q).toNat)
    case atStart => exact ⟨s + n, Int.le_refl _, by omega, rfl, Below.refl _ _⟩
    case round =>
      obtain ⟨fr, hfr, hfr2, rfl, hBr⟩ := hrel
      by_cases hlt : fr < 500
      · go_wp2_with fail
        refine (next_any D3 cs.length d3 fr cs _ (HE6.out.below hBr) hcl).mono ?_
        rw [HCUT2.out fr hfr]
        rintro e w7 ⟨D7, d7, rfl, y7, p7, q7, _, b7, _⟩
        have hm7 := Nat.le_trans p7 q7
        have Y7 := Lib.hid y7
        have B7 := Lib.hid (bnext hBr b7)
        clear y7 p7 q7 b7
        go_wp2_with fail
        refine (next_any _ (k + 1) (k + 1) fr es _ (HV6.out.below B7.out) (by omega)).mono ?_
        rintro e w8 ⟨D8, d8, rfl, y8, _, _, _, b8, _⟩
        have Y8 := Lib.hid y8
        have Y7 := Lib.hid (Y7.out.below b8)
        have B8 := Lib.hid (bnext B7.out b8)
        clear y8 b8
        generalize nextP fr es = o at *
        obtain ⟨so, fo, ao⟩ := o
        simp only at *
        go_wp2_with fail
        refine (same_any so fo D7 ao.length d7 ao so fo D8 ao.length d8 ao _ Y7.out Y8.out hm7).mono ?_
        rintro e w9 ⟨rfl, b9⟩
        rw [sameP_refl]
        have B9 := Lib.hid (bnext B8.out b9)
        clear b9
        go_wp2_with fail
        go_roundw
        case rel => exact ⟨fr + 1, by omega, by omega, rfl, B9.out⟩
        case measure => simp [intOf]; omega
      · go_wp2_with fail
        go_ret
        exact ⟨rfl, bnext HB6.out hBr⟩
  · rw [if_neg hck] at R3
    have R3 : Hid (Rd W3 7 (some ⟨eb, off + (k + 1) * 7, none⟩) (es.length - (k + 1)) (evsCells (es.drop (k + 1)))) := Lib.hid (by
      have := R3.out
      simp only [Option.map_some, Addr.add] at this
      rw [if_neg (by omega)] at this
      exact this)
    have hel : es.length = es.length := rfl
    go_wp2_with (first
      | (at_builtin; refine wpList_append_rd W3 rfl (.tmp 61) (.tmp 64) 31 rfl W3.heap.size 45 i0 (.agg #[.int .i64 0, .int .i64 0, .int .i64 0, .int .i64 0, .int .i64 0, .int .i64 0, .slice none 0 0]) 7 72 Try.underlying31 hi0 hz0 hz1 hz2 rfl (by decide) (.slice none 0 0) 0 [] rfl (World.ownsRow_nil _ _ _ _) (some ⟨eb, off, none⟩) k c (evsCells (es.take k)) rfl (fun e => by cases e) R1.out (evs_ones _) (by unfold maxLen; omega) (by omega) (Nat.le_refl _) ?_; intro D1 d1 w4 hown1 hgrow1 hat1; have XA4 := XA.out.grown hgrow1 (by simp [Value.ownBlock]); have XB4 := XB.out.grown hgrow1 (by simp [Value.ownBlock]); have B4 := Lib.hid ((Below.refl W3.heap.size W3).grown hgrow1 (Nat.le_refl _) (fun k e => by cases e)); have O1 : Hid (w4.ownsRow W3.heap.size 45 7 (.slice D1 k d1) k (evsCells (es.take k))) := Lib.hid (by simpa using hown1); have u0 := XA4.cell (i := 0) rfl; have u1 := XA4.cell (i := 1) rfl; have u2 := XA4.cell (i := 2) rfl; have u3 := XA4.cell (i := 3) rfl; have u4 := XA4.cell (i := 4) rfl; have u5 := XA4.cell (i := 5) rfl; have u6 := XA4.cell (i := 6) rfl; have v0 := XB4.cell (i := 0) rfl; have v1 := XB4.cell (i := 1) rfl; have v2 := XB4.cell (i := 2) rfl; have v3 := XB4.cell (i := 3) rfl; have v4 := XB4.cell (i := 4) rfl; have v5 := XB4.cell (i := 5) rfl; have v6 := XB4.cell (i := 6) rfl; have XB4' := Lib.hid XB4; clear hown1 hgrow1 hat1 XA4 XB4)
      | (at_builtin; refine wpList_append_rd (w4.alloc (.cells (evsCells [(cutA ⟨⟨x1, x2, s, f, i, x4⟩, A', c', al⟩ n), (cutB ⟨⟨x1, x2, s, f, i, x4⟩, A', c', al⟩ n)]).toArray 45)) rfl (.tmp 66) (.tmp 69) 31 rfl W3.heap.size 45 i0 (.agg #[.int .i64 0, .int .i64 0, .int .i64 0, .int .i64 0, .int .i64 0, .int .i64 0, .slice none 0 0]) 7 72 Try.underlying31 hi0 hz0 hz1 hz2 rfl (by decide) (.slice D1 k d1) k (evsCells (es.take k)) rfl (own_below O1.out (balloc _ _)) (some ⟨w4.heap.size, 0, none⟩) 2 2 (evsCells [(cutA ⟨⟨x1, x2, s, f, i, x4⟩, A', c', al⟩ n), (cutB ⟨⟨x1, x2, s, f, i, x4⟩, A', c', al⟩ n)]) rfl (fun e => by cases e) (evs_new w4 45 [(cutA ⟨⟨x1, x2, s, f, i, x4⟩, A', c', al⟩ n), (cutB ⟨⟨x1, x2, s, f, i, x4⟩, A', c', al⟩ n)] (by simp [maxLen])) (evs_ones _) (by unfold maxLen; omega) (by omega) (Nat.le_trans B4.out.size (by simp)) ?_; intro D2 d2 w5 hown2 hgrow2 hat2; have B5 := Lib.hid ((B4.out.alloc B4.out.size _).grown hgrow2 (Nat.le_trans B4.out.size (by simp)) (own_ge O1.out)); have O2 := Lib.hid hown2; have XB5 := Lib.hid ((XB4'.out.next (balloc _ _)).grown hgrow2 (fun e => by have := own_ge O1.out _ e; omega)); clear u0 u1 u2 u3 u4 u5 u6 v0 v1 v2 v3 v4 v5 v6; clear hown2 hgrow2 hat2)
      | (at_builtin; refine wpList_append_rd w5 rfl (.tmp 71) (.tmp 75) 31 rfl W3.heap.size 45 i0 (.agg #[.int .i64 0, .int .i64 0, .int .i64 0, .int .i64 0, .int .i64 0, .int .i64 0, .slice none 0 0]) 7 72 Try.underlying31 hi0 hz0 hz1 hz2 rfl (by decide) (.slice D2 (k + 2) d2) (k + 2) _ rfl O2.out (some ⟨eb, off + (k + 1) * 7, none⟩) (es.length - (k + 1)) (c - (k + 1)) (evsCells (es.drop (k + 1))) rfl (fun e => by cases e) (R3.out.below B5.out) (evs_ones _) (by unfold maxLen; omega) (by omega) B5.out.size ?_; intro D3 d3 w6 hown3 hgrow3 hat3; have B6 := Lib.hid (B5.out.grown hgrow3 B5.out.size (own_ge O2.out)); have O3 := Lib.hid hown3; have XB6 := Lib.hid (XB5.out.grown hgrow3 (fun e => by have := own_ge O2.out _ e; omega)); have y2 := XB6.out.cell (i := 2) rfl; clear hown3 hgrow3 hat3))
    have HEL := Lib.hid hel
    clear hel
    have HB6 := Lib.hid (bnext B2.out (B3.out.trans (B6.out.mono B3.out.size)))
    have hl6 : (k + 2 + (es.length - (k + 1))) = (es.take k ++ [(cutA ⟨⟨x1, x2, s, f, i, x4⟩, A', c', al⟩ n), (cutB ⟨⟨x1, x2, s, f, i, x4⟩, A', c', al⟩ n)] ++ es.drop (k + 1)).length := by
      have := HEL.out
      simp only [List.length_append, List.length_take, List.length_drop, List.length_cons, List.length_nil]
      omega
    have hE6 : IsEvs w6 D3 (es.take k ++ [(cutA ⟨⟨x1, x2, s, f, i, x4⟩, A', c', al⟩ n), (cutB ⟨⟨x1, x2, s, f, i, x4⟩, A', c', al⟩ n)] ++ es.drop (k + 1)).length (es.take k ++ [(cutA ⟨⟨x1, x2, s, f, i, x4⟩, A', c', al⟩ n), (cutB ⟨⟨x1, x2, s, f, i, x4⟩, A', c', al⟩ n)] ++ es.drop (k + 1)) := by
      refine ⟨rfl, ?_, ?_⟩
      · have this : Rd w6 7 D3 (k + 2 + (es.length - (k + 1))) ((evsCells (es.take k) ++ evsCells [(cutA ⟨⟨x1, x2, s, f, i, x4⟩, A', c', al⟩ n), (cutB ⟨⟨x1, x2, s, f, i, x4⟩, A', c', al⟩ n)]) ++ evsCells (es.drop (k + 1))) := Rd.of_own O3.out
        rw [hl6] at this
        rw [evs_app, evs_app]
        exact this
      · intro x hx
        have hbx : Below w2.heap.size w2 w6 := B3.out.trans (B6.out.mono B3.out.size)
        rcases List.mem_append.1 hx with hx | hx
        · rcases List.mem_append.1 hx with hx | hx
          · exact (HEV.out.2.2 x (List.mem_of_mem_take hx)).below hbx
          · simp only [List.mem_cons, List.not_mem_nil, or_false] at hx
            rcases hx with rfl | rfl
            · exact HEOK.out.below hbx
            · exact HEOK.out.below hbx
        · exact (HEV.out.2.2 x (List.mem_of_mem_drop hx)).below hbx
    have HE6 := Lib.hid hE6
    have HV6 : Hid (IsEvs w6 (some ⟨eb, off, none⟩) es.length es) := Lib.hid (by
      have q := HEV.out.below (B3.out.trans (B6.out.mono B3.out.size))
      have e := HEL.out
      first | exact q | (rw [e] at q; exact q))
    have hcl : (es.take k ++ [(cutA ⟨⟨x1, x2, s, f, i, x4⟩, A', c', al⟩ n), (cutB ⟨⟨x1, x2, s, f, i, x4⟩, A', c', al⟩ n)] ++ es.drop (k + 1)).length ≤ 9223372036854775807 := by omega
    rw [hl6]
    have HCUT2 : Hid (∀ fr : Int, s + n ≤ fr → nextP fr (es.take k ++ [(cutA ⟨⟨x1, x2, s, f, i, x4⟩, A', c', al⟩ n), (cutB ⟨⟨x1, x2, s, f, i, x4⟩, A', c', al⟩ n)] ++ es.drop (k + 1)) = nextP fr es) := Lib.hid (fun fr h => HCUT.out n fr hn1 hpk.2 h)
    generalize es.take k ++ [(cutA ⟨⟨x1, x2, s, f, i, x4⟩, A', c', al⟩ n), (cutB ⟨⟨x1, x2, s, f, i, x4⟩, A', c', al⟩ n)] ++ es.drop (k + 1) = cs at *
    clear hE6 hl6 O1 O2 O3 R1 R3 HCUT HDE HEOK XA XB XB4' XB5 XB6 B4 B5 B6 y2
    go_loopw [14] (fun q wr => ∃ fr : Int, s + n ≤ fr ∧ fr ≤ 1000 ∧ q = .int .i64 fr ∧ Below w6.heap.size w6 wr) (fun q _ => (500 - intOf q).toNat)
    case atStart => exact ⟨s + n, Int.le_refl _, by omega, rfl, Below.refl _ _⟩
    case round =>
      obtain ⟨fr, hfr, hfr2, rfl, hBr⟩ := hrel
      by_cases hlt : fr < 500
      · go_wp2_with fail
        refine (next_any D3 cs.length d3 fr cs _ (HE6.out.below hBr) hcl).mono ?_
        rw [HCUT2.out fr hfr]
        rintro e w7 ⟨D7, d7, rfl, y7, p7, q7, _, b7, _⟩
        have hm7 := Nat.le_trans p7 q7
        have Y7 := Lib.hid y7
        have B7 := Lib.hid (bnext hBr b7)
        clear y7 p7 q7 b7
        go_wp2_with fail
        refine (next_any _ es.length c fr es _ (HV6.out.below B7.out) (by omega)).mono ?_
        rintro e w8 ⟨D8, d8, rfl, y8, _, _, _, b8, _⟩
        have Y8 := Lib.hid y8
        have Y7 := Lib.hid (Y7.out.below b8)
        have B8 := Lib.hid (bnext B7.out b8)
        clear y8 b8
        generalize nextP fr es = o at *
        obtain ⟨so, fo, ao⟩ := o
        simp only at *
        go_wp2_with fail
        refine (same_any so fo D7 ao.length d7 ao so fo D8 ao.length d8 ao _ Y7.out Y8.out hm7).mono ?_
        rintro e w9 ⟨rfl, b9⟩
        rw [sameP_refl]
        have B9 := Lib.hid (bnext B8.out b9)
        clear b9
        go_wp2_with fail
        go_roundw
        case rel => exact ⟨fr + 1, by omega, by omega, rfl, B9.out⟩
        case measure => simp [intOf]; omega
      · go_wp2_with fail
        go_ret
        exact ⟨rfl, bnext HB6.out hBr⟩
end Go.Proofs.Ytfpnjlfcnfjkdaa.optoutCut
