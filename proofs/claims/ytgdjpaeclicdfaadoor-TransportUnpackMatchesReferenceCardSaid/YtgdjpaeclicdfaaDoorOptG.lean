/- Contract of optout's Decode: the walk. -/
import Derived.Test.YtgdjpaeclicdfaaDoorOptF
namespace Go.Proofs.YtgdjpaeclicdfaaDoor
open Go.ChangeShapes Go.WideShapes Go.ChangeAt Go.RowKit
set_option linter.unusedVariables false

theorem rdN_le (l : List UInt8) : ∀ (m k e : Nat), k ≤ l.length → (rdN l m k).2 = some e → e ≤ l.length := by
  intro m
  induction m with
  | zero => intro k e hk h; simp [rdN] at h; omega
  | succ m ih =>
    intro k e hk h
    unfold rdN at h
    cases hr : rdInt l k with
    | none => rw [hr] at h; cases h
    | some p => rw [hr] at h; simp only at h; exact ih _ _ (rdInt_le hk hr).2 h

theorem retDec_zero {l : List UInt8} {code : Int} {w w' : World} (h : decP l = (.zero, code)) (hb : Below w.heap.size w w') :
    RetDec (decP l) w (.returned (.tuple #[.agg #[.int .i64 0, .int .i64 0, .slice none 0 0], .int .i64 code])) w' := by
  rw [h]
  exact ⟨none, 0, rfl, IsAlts.nil _ _, Nat.le_refl _, Nat.zero_le _, fun _ => rfl, hb, fun _ _ h => by cases h⟩

theorem rdAlts_none {l : List UInt8} {n k : Nat} (h : (rdN l 2 k).2 = none) : rdAlts l (n + 1) k = none := by
  unfold rdAlts
  split
  · next hq => rw [hq] at h; cases h
  · rfl
theorem rdAlts_some {l : List UInt8} {n k e : Nat} {r x : Int} (h : rdN l 2 k = ([r, x], some e)) : rdAlts l (n + 1) k = (rdAlts l n e).map fun p => ((r, x) :: p.1, p.2) := by
  rw [rdAlts, h]
theorem alt_new (w : World) (t : TypeId) (r x : Int) : Rd (w.alloc (.cells #[.int .i64 r, .int .i64 x] t)) 2 (some ⟨w.heap.size, 0, none⟩) 1 (pairs [(r, x)]) := by
  have hb := Box.new w t #[.int .i64 r, .int .i64 x]
  refine ⟨rfl, .inr ⟨w.heap.size, 0, rfl, hb.lt, fun i hi => ?_⟩⟩
  rw [Nat.zero_add]
  match i, hi with
  | 0, _ => exact hb.cell rfl
  | 1, _ => exact hb.cell rfl

set_option maxRecDepth 100000 in
set_option maxHeartbeats 4000000 in
theorem decode_any (s : ByteArray) (w : World) (hs : s.size ≤ 9000000000000000000) :
    Calls Tryd.prog 43 #[.string s] w (RetDec (decP s.data.toList) w) := by
  obtain ⟨i0, hi0, hz0, hz1, hz2⟩ : ∃ i, Tryd.prog.info? 103 = some i ∧ i.zero = some (.agg #[.int .i64 0, .int .i64 0]) ∧ i.size = 2 ∧ i.bytes = 16 := by
    have := infoAlt
    cases hi : Tryd.prog.info? 103 with
    | none => rw [hi] at this; cases this
    | some i => rw [hi] at this; simp at this; exact ⟨i, rfl, this.1, this.2.1, this.2.2⟩
  go_enter Tryd.func43, Tryd.ntmps43
  go_wp2_with fail
  refine (take3 s w hs).mono ?_
  rintro e w1 ⟨rfl, hx0, b1, hsz, hrest⟩
  have d0 := hx0.cell (i := 0) rfl
  have d1 := hx0.cell (i := 1) rfl
  have d2 := hx0.cell (i := 2) rfl
  have f0 := hx0.frozen 0
  have f1 := hx0.frozen 1
  have f2 := hx0.frozen 2
  have HX0 := Lib.hid hx0
  have B1 := Lib.hid b1
  clear hx0
  cases hr : (rdN s.data.toList 3 0).2 with
  | none =>
    have HD : Hid (decP s.data.toList = (.zero, 10)) := Lib.hid (by
      unfold decP
      generalize rdN s.data.toList 3 0 = q at *
      obtain ⟨vs, o⟩ := q
      simp only at hr
      subst hr
      split
      · next h => cases h
      · rfl)
    clear hrest hr
    unfold takeV
    go_wp2_with fail
    refine ret_dec Tryd.results43 rfl rfl (((HX0.out.set (i := 0) (.int .i64 0)).set (i := 1) (.int .i64 0)).set (i := 2) (.slice none 0 0)) rfl ?_
    refine retDec_zero HD.out ?_
    exact ((B1.out.setCell (by simp) _).setCell (by simp) _).setCell (by simp) _
  | some e1 =>
    obtain ⟨a, b, n, hq, hx1, hx2⟩ := hrest e1 hr
    have he1 : e1 ≤ s.size := by have := rdN_le s.data.toList 3 0 e1 (Nat.zero_le _) hr; simpa using this
    have HQ := Lib.hid hq
    have HX1 := Lib.hid hx1
    have k0 := hx1.cell (i := 0) rfl
    have k1 := hx1.cell (i := 1) rfl
    have k2 := hx1.cell (i := 2) rfl
    have k3 := hx2.cell (i := 0) rfl
    have HX2 := Lib.hid hx2
    clear hrest hr hq hx1 hx2
    unfold takeV
    by_cases n0 : n < 0
    · have HD : Hid (decP s.data.toList = (.zero, 170)) := Lib.hid (by unfold decP; rw [HQ.out]; simp [n0])
      go_wp2_with fail
      refine ret_dec Tryd.results43 rfl rfl (((HX0.out.set (i := 0) (.int .i64 0)).set (i := 1) (.int .i64 0)).set (i := 2) (.slice none 0 0)) rfl ?_
      refine retDec_zero HD.out ?_
      exact ((B1.out.setCell (by simp) _).setCell (by simp) _).setCell (by simp) _
    by_cases n7 : 7 < n
    · have HD : Hid (decP s.data.toList = (.zero, 170)) := Lib.hid (by unfold decP; rw [HQ.out]; simp [n7])
      go_wp2_with fail
      refine ret_dec Tryd.results43 rfl rfl (((HX0.out.set (i := 0) (.int .i64 0)).set (i := 1) (.int .i64 0)).set (i := 2) (.slice none 0 0)) rfl ?_
      refine retDec_zero HD.out ?_
      exact ((B1.out.setCell (by simp) _).setCell (by simp) _).setCell (by simp) _
    obtain ⟨m, rfl⟩ : ∃ m : Nat, n = m := ⟨n.toNat, by omega⟩
    have HD : Hid (decP s.data.toList = finP s.data.toList a b (rdAlts s.data.toList m e1)) := Lib.hid (by
        unfold decP; rw [HQ.out]; simp only [if_neg (show ¬ ((m : Int) < 0 ∨ 7 < (m : Int)) by omega), Int.toNat_natCast])
    clear d0 d1 d2 f0 f1 f2
    go_wp2_with fail
    go_loopw [6, 28] (fun q i wr => ∃ (k kq : Nat) (al : Alts) (B : Option Addr) (c : Nat), k ≤ m ∧ kq ≤ s.size ∧ i = .int .i64 k ∧ q = .int .i64 kq ∧ al.length = k ∧
        rdAlts s.data.toList m e1 = (rdAlts s.data.toList (m - k) kq).map (fun p => (al ++ p.1, p.2)) ∧
        Box wr w.heap.size 26 zero3 ∧ Box wr (w.heap.size + 1) 26 #[.int .i64 a, .int .i64 b, .slice B k c] ∧ wr.ownsRow (w.heap.size + 4) 103 2 (.slice B k c) k (pairs al) ∧ w.heap.size + 4 ≤ wr.heap.size ∧ Below w.heap.size w wr) (fun _ i _ => m - (intOf i).toNat)
    case atStart =>
      refine ⟨0, e1, [], none, 0, Nat.zero_le _, he1, rfl, rfl, rfl, ?_, HX0.out, HX1.out, World.ownsRow_nil _ _ _ _, hsz, B1.out⟩
      cases rdAlts s.data.toList m e1 <;> simp
    case round =>
      obtain ⟨k, kq, al, B, c, hk, hkq, rfl, rfl, hal, hst, hy0, hy1, hown, hsz', hBr⟩ := hrel
      have HST := Lib.hid hst
      have HOW := Lib.hid hown
      clear hst hown k0 k1 k2 k3
      by_cases hlt : k < m
      · have e1' : m - k = (m - (k + 1)) + 1 := by omega
        rw [e1'] at HST
        have HY0 := Lib.hid hy0
        have HY1 := Lib.hid hy1
        clear hy0 hy1 e1'
        go_wp2_with fail
        refine (take2 s kq wr hs hkq).mono ?_
        rintro e w2 ⟨rfl, b2, hrest⟩
        have HZ0 := Lib.hid (HY0.out.next b2)
        have HZ1 := Lib.hid (HY1.out.next b2)
        have B2 := Lib.hid (bnext hBr b2)
        have HO2 := Lib.hid (own_below HOW.out b2)
        have hs2 : w.heap.size + 4 ≤ w2.heap.size := Nat.le_trans hsz' b2.size
        cases hr : (rdN s.data.toList 2 kq).2 with
        | none =>
          have HE : Hid (decP s.data.toList = (.zero, 10)) := Lib.hid (by
            rw [HD.out, HST.out, rdAlts_none hr]
            rfl)
          have d0 := HZ0.out.cell (i := 0) rfl
          have d1 := HZ0.out.cell (i := 1) rfl
          have d2 := HZ0.out.cell (i := 2) rfl
          have f0 := HZ0.out.frozen 0
          have f1 := HZ0.out.frozen 1
          have f2 := HZ0.out.frozen 2
          clear hrest hr
          unfold takeV
          go_wp2_with fail
          refine ret_dec Tryd.results43 rfl rfl (((HZ0.out.set (i := 0) (.int .i64 0)).set (i := 1) (.int .i64 0)).set (i := 2) (.slice none 0 0)) rfl ?_
          refine retDec_zero HE.out ?_
          exact ((B2.out.setCell (by simp) _).setCell (by simp) _).setCell (by simp) _
        | some e2 =>
          obtain ⟨r, x, hq, hx⟩ := hrest e2 hr
          have he2 : e2 ≤ s.size := by have := rdN_le s.data.toList 2 kq e2 (by simpa using hkq) hr; simpa using this
          have HSU : Hid (rdAlts s.data.toList m e1 = (rdAlts s.data.toList (m - (k + 1)) e2).map (fun p => ((al ++ [(r, x)]) ++ p.1, p.2))) := Lib.hid (by
            rw [HST.out, rdAlts_some hq, Option.map_map]
            congr 1
            funext p
            simp)
          have x0 := hx.cell (i := 0) rfl
          have x1 := hx.cell (i := 1) rfl
          have k2 := HZ1.out.cell (i := 2) rfl
          have HN := Lib.hid (alt_new w2 103 r x)
          have HOa := Lib.hid (own_below HO2.out (balloc w2 (.cells #[.int .i64 r, .int .i64 x] 103)))
          have HBa := Lib.hid (B2.out.alloc B2.out.size (.cells #[.int .i64 r, .int .i64 x] 103))
          have HZ1a := Lib.hid (HZ1.out.next (balloc w2 (.cells #[.int .i64 r, .int .i64 x] 103)))
          have HZ0a := Lib.hid (HZ0.out.next (balloc w2 (.cells #[.int .i64 r, .int .i64 x] 103)))
          clear hrest hr hq hx
          unfold takeV
          go_wp2_with (at_builtin; refine wpList_append_rd (w2.alloc (.cells #[.int .i64 r, .int .i64 x] 103)) rfl (.tmp 43) (.tmp 45) 24 rfl (w.heap.size + 4) 103 i0 (.agg #[.int .i64 0, .int .i64 0]) 2 16 Tryd.underlying24 hi0 hz0 hz1 hz2 rfl (by decide) (.slice B k c) k (pairs al) rfl HOa.out (some ⟨w2.heap.size, 0, none⟩) 1 1 (pairs [(r, x)]) rfl (fun e => by cases e) HN.out (pairs_ones _) (by unfold maxLen; omega) (by omega) (Nat.le_trans hs2 (by simp)) ?_; intro B1 c1 w3 hown1 hgrow1 hat1; have Hb1 := Lib.hid (HBa.out.grown hgrow1 HBa.out.size (fun k e => Nat.le_trans (Nat.le_add_right _ _) (own_ge HOa.out k e))); have y1 := HZ1a.out.grown hgrow1 (fun e => by have := own_ge HOa.out _ e; omega); have y0 := HZ0a.out.grown hgrow1 (fun e => by have := own_ge HOa.out _ e; omega); have hs3 : w.heap.size + 4 ≤ w3.heap.size := Nat.le_trans hs2 (Nat.le_trans (by simp) hgrow1.size); have y12 := y1.cell (i := 2) rfl; have y1f := y1.frozen 2; have Hown1 := Lib.hid hown1; have Y1 := Lib.hid y1; have Y0 := Lib.hid y0; clear hown1 hgrow1 hat1 y1 y0)
          go_roundw
          case rel =>
            refine ⟨k + 1, e2, al ++ [(r, x)], B1, c1, by omega, he2, by go_num, rfl, by simp [hal], HSU.out, Y0.out.set_ne _ (by simp), ?_, ?_, ?_, Hb1.out.setCell (by simp) _⟩
            · have := Y1.out.set (i := 2) (.slice B1 (k + 1) c1)
              simpa using this
            · refine ownsRow_setCell_below ?_ (by simp) _
              have := Hown1.out
              simpa [pairs] using this
            · simpa [World.setCell] using hs3
          case measure => simp [intOf]; omega
      · obtain rfl : k = m := by omega
        have HF : Hid (decP s.data.toList = if kq ≠ s.data.toList.length then (.zero, 10) else if validP a b al = true then (⟨a, b, al⟩, 0) else (.zero, 170)) := Lib.hid (by
          rw [HD.out, HST.out, Nat.sub_self]
          simp [rdAlts, finP])
        have hA : IsAlts wr B k al := ⟨hal, Rd.of_own HOW.out⟩
        have HA := Lib.hid hA
        have hfc := own_facts HOW.out
        have d0 := hy0.cell (i := 0) rfl
        have d1 := hy0.cell (i := 1) rfl
        have d2 := hy0.cell (i := 2) rfl
        have f0 := hy0.frozen 0
        have f1 := hy0.frozen 1
        have f2 := hy0.frozen 2
        have k0 := hy1.cell (i := 0) rfl
        have k1 := hy1.cell (i := 1) rfl
        have k2 := hy1.cell (i := 2) rfl
        have HY0 := Lib.hid hy0
        have HY1 := Lib.hid hy1
        clear hy0 hy1 hA
        by_cases hend : kq = s.size
        · subst hend
          have HG : Hid (decP s.data.toList = if validP a b al = true then (⟨a, b, al⟩, 0) else (.zero, 170)) := Lib.hid (by rw [HF.out]; simp)
          go_wp2_with fail
          refine (valid_any a b B k c al wr HA.out).mono ?_
          rintro e w2 ⟨rfl, b2⟩
          have HZ0 := Lib.hid (HY0.out.next b2)
          have HZ1 := Lib.hid (HY1.out.next b2)
          have B2 := Lib.hid (bnext hBr b2)
          have HO2 := Lib.hid (own_below HOW.out b2)
          have d0 := HZ0.out.cell (i := 0) rfl
          have d1 := HZ0.out.cell (i := 1) rfl
          have d2 := HZ0.out.cell (i := 2) rfl
          have f0 := HZ0.out.frozen 0
          have f1 := HZ0.out.frozen 1
          have f2 := HZ0.out.frozen 2
          have k0 := HZ1.out.cell (i := 0) rfl
          have k1 := HZ1.out.cell (i := 1) rfl
          have k2 := HZ1.out.cell (i := 2) rfl
          by_cases hv : validP a b al = true
          · have HE : Hid (decP s.data.toList = (⟨a, b, al⟩, 0)) := Lib.hid (by rw [HG.out, if_pos hv])
            rw [hv]
            go_wp2_with fail
            refine ret_dec Tryd.results43 rfl rfl (((HZ0.out.set (i := 0) (.int .i64 a)).set (i := 1) (.int .i64 b)).set (i := 2) (.slice B k c)) rfl ?_
            rw [HE.out]
            subst hal
            refine ⟨B, c, rfl, ⟨rfl, ?_⟩, hfc.1, hfc.2.1, hfc.2.2, ((B2.out.setCell (by simp) _).setCell (by simp) _).setCell (by simp) _, fun b' off h => by have := own_base HO2.out b' off h; omega⟩
            refine Rd.of_own (base := w.heap.size + 4) (c := c) (e := 103) ?_
            exact ownsRow_setCell_below (ownsRow_setCell_below (ownsRow_setCell_below HO2.out (by simp) _) (by simp) _) (by simp) _
          · have hv' : validP a b al = false := by simpa using hv
            have HE : Hid (decP s.data.toList = (.zero, 170)) := Lib.hid (by rw [HG.out, if_neg hv])
            rw [hv']
            go_wp2_with fail
            refine ret_dec Tryd.results43 rfl rfl (((HZ0.out.set (i := 0) (.int .i64 0)).set (i := 1) (.int .i64 0)).set (i := 2) (.slice none 0 0)) rfl ?_
            refine retDec_zero HE.out ?_
            exact ((B2.out.setCell (by simp) _).setCell (by simp) _).setCell (by simp) _
        · have HE : Hid (decP s.data.toList = (.zero, 10)) := Lib.hid (by rw [HF.out, if_pos (by simpa using hend)])
          have hend' : ((kq : Int) == (s.size : Int)) = false := by simp; omega
          go_wp2_with fail
          refine ret_dec Tryd.results43 rfl rfl (((HY0.out.set (i := 0) (.int .i64 0)).set (i := 1) (.int .i64 0)).set (i := 2) (.slice none 0 0)) rfl ?_
          refine retDec_zero HE.out ?_
          exact ((hBr.setCell (by simp) _).setCell (by simp) _).setCell (by simp) _
end Go.Proofs.YtgdjpaeclicdfaaDoor
