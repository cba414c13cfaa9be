/- Contract of network. -/
import Derived.Test.YtpaepefpfaoacaaSpI
namespace Go.Proofs.Ytpaepefpfaoacaa
open Go.ChangeShapes Go.WideShapes Go.ChangeAt Go.RowKit
set_option linter.unusedVariables false
set_option linter.unusedSimpArgs false

abbrev netP (u : UnitA) : P5 := ⟨u.item, u.index, u.data.size, u.key, false⟩
/-- Whether a set of regions has a region. -/
def bitP (re r : Int) : Bool := bits .and .i64 (re / 2 ^ r.toNat) 1 == 1
theorem ret_p5 {fn : Func} {R : Ending → World → Prop} {a : Act} {w : World} {p q : Tmp} {b : Nat} {t : TypeId} {v0 v1 v2 v3 v4 v : Value} (hr : fn.results = #[.cell p 71, .tmp q]) (hp : a.tmps.getD p undef = .pointer (some ⟨b, 0, none⟩)) (hq : a.tmps.getD q undef = v)
    (hb : Box w b t #[v0, v1, v2, v3, v4]) (hd : a.defers = []) (h : R (.returned (.tuple #[.agg #[v0, v1, v2, v3, v4], v])) w) : bodyPost Try.prog fn R .ret a w := by
  have c0 := hb.cell (i := 0) rfl
  have c1 := hb.cell (i := 1) rfl
  have c2 := hb.cell (i := 2) rfl
  have c3 := hb.cell (i := 3) rfl
  have c4 := hb.cell (i := 4) rfl
  refine bodyPost_ret (v := .tuple #[.agg #[v0, v1, v2, v3, v4], v]) ?_ hd h
  rw [Array.getD_eq_getD_getElem?] at hp hq
  simp [results, hr, hp, hq, go_sem, c0, c1, c2, c3, c4]
theorem Box.set5 {w : World} {b : Nat} {t : TypeId} {u0 u1 u2 u3 u4 : Value} (h : Box w b t #[u0, u1, u2, u3, u4]) (v0 v1 v2 v3 v4 : Value) :
    Box (((((w.setCell ⟨b, 0, none⟩ v0).setCell ⟨b, 1, none⟩ v1).setCell ⟨b, 2, none⟩ v2).setCell ⟨b, 3, none⟩ v3).setCell ⟨b, 4, none⟩ v4) b t #[v0, v1, v2, v3, v4] := by
  simpa using ((((h.set (i := 0) v0).set (i := 1) v1).set (i := 2) v2).set (i := 3) v3).set (i := 4) v4
theorem keep5 {W : World} {q : Nat} {v0 v1 v2 v3 v4 : Value} {p : Addr} {x : Option Value} (h : W.cell? p = x) (hn : p.block ≠ q) :
    (((((W.setCell ⟨q, 0, none⟩ v0).setCell ⟨q, 1, none⟩ v1).setCell ⟨q, 2, none⟩ v2).setCell ⟨q, 3, none⟩ v3).setCell ⟨q, 4, none⟩ v4).cell? p = x := by
  have hp : ∀ o, p ≠ ⟨q, o, none⟩ := fun o e => hn (by rw [e])
  rw [World.cell?_setCell_other _ _ _ _ (by first | exact hp _ | exact (hp _).symm), World.cell?_setCell_other _ _ _ _ (by first | exact hp _ | exact (hp _).symm), World.cell?_setCell_other _ _ _ _ (by first | exact hp _ | exact (hp _).symm), World.cell?_setCell_other _ _ _ _ (by first | exact hp _ | exact (hp _).symm), World.cell?_setCell_other _ _ _ _ (by first | exact hp _ | exact (hp _).symm), h]
set_option maxRecDepth 100000 in
set_option maxHeartbeats 2000000 in
theorem network_f (b : Nat) (k : SpK) (s : Sp) (u : UnitA) (w : World) (h : SpOk w b k s) (hu : u.ok w) (hr0 : 0 ≤ k.region) (hr1 : k.region ≤ 7) (h1 : -9223372036854775808 ≤ s.last.index) (hb : bitP u.regions k.region = false) :
    Calls Try.prog 31 #[.pointer (some ⟨b, 0, none⟩), u.val] w fun e w' => e = .returned (.tuple #[(netP u).val, .bool false]) ∧ Below w.heap.size w w' := by
  have HS := Lib.hid h
  obtain ⟨⟨NA, nc, hx, hno, hoff⟩, _⟩ := h
  have HX := Lib.hid hx
  have c8 : w.cell? ⟨b, 8, none⟩ = some (.int .i64 k.region) := hx.cell (i := 8) rfl
  have hlt := hx.lt
  clear hx hno hoff
  obtain ⟨ch, fr, ve, it, ix, ky, da, re, ga, ca, os, oF, A, c, al⟩ := u
  obtain ⟨_, _, _, ⟨u1, u2⟩, _⟩ := hu
  simp only at u1 u2
  have hne : b ≠ w.heap.size := by omega
  have hne1 : b ≠ w.heap.size + 1 := by omega
  have hne2 : b ≠ w.heap.size + 1 + 1 := by omega
  go_enter Try.func31, Try.ntmps31
  go_upto_region 2 with (fail)
  obtain ⟨W, hW⟩ : ∃ W, ((w.alloc (.cells (uCells ch fr ve it ix ky da re ga ca os oF A al.length c) 46)).alloc (.cells #[.int .i64 0, .int .i64 0, .int .i64 0, .bool false, .bool false] 71)).alloc (.cells #[.int .i64 it, .int .i64 ix, .int .i64 da.size, .bool ky, .bool false] 71) = W := ⟨_, rfl⟩
  have hs0 : W.heap.size = w.heap.size + 1 + 1 + 1 := by rw [← hW]; simp
  have hB : Below w.heap.size w W := by rw [← hW]; exact ((balloc w _).alloc (by simp) _).alloc (by simp; omega) _
  have XU : Hid (Box W w.heap.size 46 (uCells ch fr ve it ix ky da re ga ca os oF A al.length c)) := Lib.hid (by rw [← hW]; exact ((Box.new w 46 _).next (balloc _ _)).next (balloc _ _))
  have XR : Hid (Box W (w.heap.size + 1) 71 #[.int .i64 0, .int .i64 0, .int .i64 0, .bool false, .bool false]) := Lib.hid (by
    rw [← hW]
    have := (Box.new (w.alloc (.cells (uCells ch fr ve it ix ky da re ga ca os oF A al.length c) 46)) 71 #[.int .i64 0, .int .i64 0, .int .i64 0, .bool false, .bool false]).next (balloc _ (.cells #[.int .i64 it, .int .i64 ix, .int .i64 da.size, .bool ky, .bool false] 71))
    simpa using this)
  have XP : Hid (Box W (w.heap.size + 1 + 1) 71 #[.int .i64 it, .int .i64 ix, .int .i64 da.size, .bool ky, .bool false]) := Lib.hid (by
    rw [← hW]
    have := Box.new ((w.alloc (.cells (uCells ch fr ve it ix ky da re ga ca os oF A al.length c) 46)).alloc (.cells #[.int .i64 0, .int .i64 0, .int .i64 0, .bool false, .bool false] 71)) 71 #[.int .i64 it, .int .i64 ix, .int .i64 da.size, .bool ky, .bool false]
    simpa using this)
  have x7 : W.cell? ⟨w.heap.size, 7, none⟩ = some (.int .i64 re) := XU.out.cell (i := 7) rfl
  have p0 : W.cell? ⟨w.heap.size + 1 + 1, 0, none⟩ = some (.int .i64 it) := XP.out.cell (i := 0) rfl
  have p1 : W.cell? ⟨w.heap.size + 1 + 1, 1, none⟩ = some (.int .i64 ix) := XP.out.cell (i := 1) rfl
  have p2 : W.cell? ⟨w.heap.size + 1 + 1, 2, none⟩ = some (.int .i64 da.size) := XP.out.cell (i := 2) rfl
  have p3 : W.cell? ⟨w.heap.size + 1 + 1, 3, none⟩ = some (.bool ky) := XP.out.cell (i := 3) rfl
  have p4 : W.cell? ⟨w.heap.size + 1 + 1, 4, none⟩ = some (.bool false) := XP.out.cell (i := 4) rfl
  have r0 : W.cell? ⟨w.heap.size + 1, 0, none⟩ = some (.int .i64 0) := XR.out.cell (i := 0) rfl
  have r1 : W.cell? ⟨w.heap.size + 1, 1, none⟩ = some (.int .i64 0) := XR.out.cell (i := 1) rfl
  have r2 : W.cell? ⟨w.heap.size + 1, 2, none⟩ = some (.int .i64 0) := XR.out.cell (i := 2) rfl
  have r3 : W.cell? ⟨w.heap.size + 1, 3, none⟩ = some (.bool false) := XR.out.cell (i := 3) rfl
  have r4 : W.cell? ⟨w.heap.size + 1, 4, none⟩ = some (.bool false) := XR.out.cell (i := 4) rfl
  have f0 := XR.out.frozen 0
  have f1 := XR.out.frozen 1
  have f2 := XR.out.frozen 2
  have f3 := XR.out.frozen 3
  have f4 := XR.out.frozen 4
  have d8 := (hB.cell (p := ⟨b, 8, none⟩) hlt).trans c8
  have HB := Lib.hid hB
  have HSW := Lib.hid (HS.out.below hB)
  have HS0 := Lib.hid hs0
  have l0 : w.heap.size < W.heap.size := by omega
  have l1 : w.heap.size + 1 < W.heap.size := by omega
  have l2 : w.heap.size + 1 + 1 < W.heap.size := by omega
  have l3 : b < W.heap.size := by omega
  clear hB hs0
  have h2i : ix ≤ 9223372036854775807 := u2
  simp only at hb
  have hb' : (bits .and .i64 (re / 2 ^ k.region.toNat) 1 == 1) = false := hb
  have hb'' : ¬ bits .and .i64 (re / 2 ^ k.region.toNat) 1 = 1 := by simpa using hb'
  have hb3 : decide (bits .and .i64 (re / 2 ^ k.region.toNat) 1 = 1) = false := by simpa using hb'
  go_big_region
  all_goals
    go_wp2_with fail
    refine ret_p5 (b := w.heap.size + 1) rfl rfl rfl (Box.set5 (XR.out.drewN 1) _ _ _ _ _) rfl ⟨?_, ?_⟩
    · simp
    · exact (((((HB.out.drew).setCell (by simp) _).setCell (by simp) _).setCell (by simp) _).setCell (by simp) _).setCell (by simp) _
set_option maxRecDepth 100000 in
set_option maxHeartbeats 20000000 in
theorem network_t (b : Nat) (k : SpK) (s : Sp) (u : UnitA) (w : World) (h : SpOk w b k s) (hu : u.ok w) (hr0 : 0 ≤ k.region) (hr1 : k.region ≤ 7) (h1 : -9223372036854775808 ≤ s.last.index) (hb : bitP u.regions k.region = true) :
    Calls Try.prog 31 #[.pointer (some ⟨b, 0, none⟩), u.val] w fun e w' => e = .returned (.tuple #[(netP u).val, .bool (mayP k.store s (netP u) [.cont, .ent])]) ∧ Below w.heap.size w w' := by
  have HS := Lib.hid h
  obtain ⟨⟨NA, nc, hx, hno, hoff⟩, _⟩ := h
  have HX := Lib.hid hx
  have c8 : w.cell? ⟨b, 8, none⟩ = some (.int .i64 k.region) := hx.cell (i := 8) rfl
  have hlt := hx.lt
  clear hx hno hoff
  obtain ⟨ch, fr, ve, it, ix, ky, da, re, ga, ca, os, oF, A, c, al⟩ := u
  obtain ⟨_, _, _, ⟨u1, u2⟩, _⟩ := hu
  simp only at u1 u2
  have hne : b ≠ w.heap.size := by omega
  have hne1 : b ≠ w.heap.size + 1 := by omega
  have hne2 : b ≠ w.heap.size + 1 + 1 := by omega
  go_enter Try.func31, Try.ntmps31
  go_upto_region 2 with (fail)
  obtain ⟨W, hW⟩ : ∃ W, ((w.alloc (.cells (uCells ch fr ve it ix ky da re ga ca os oF A al.length c) 46)).alloc (.cells #[.int .i64 0, .int .i64 0, .int .i64 0, .bool false, .bool false] 71)).alloc (.cells #[.int .i64 it, .int .i64 ix, .int .i64 da.size, .bool ky, .bool false] 71) = W := ⟨_, rfl⟩
  have hs0 : W.heap.size = w.heap.size + 1 + 1 + 1 := by rw [← hW]; simp
  have hB : Below w.heap.size w W := by rw [← hW]; exact ((balloc w _).alloc (by simp) _).alloc (by simp; omega) _
  have XU : Hid (Box W w.heap.size 46 (uCells ch fr ve it ix ky da re ga ca os oF A al.length c)) := Lib.hid (by rw [← hW]; exact ((Box.new w 46 _).next (balloc _ _)).next (balloc _ _))
  have XR : Hid (Box W (w.heap.size + 1) 71 #[.int .i64 0, .int .i64 0, .int .i64 0, .bool false, .bool false]) := Lib.hid (by
    rw [← hW]
    have := (Box.new (w.alloc (.cells (uCells ch fr ve it ix ky da re ga ca os oF A al.length c) 46)) 71 #[.int .i64 0, .int .i64 0, .int .i64 0, .bool false, .bool false]).next (balloc _ (.cells #[.int .i64 it, .int .i64 ix, .int .i64 da.size, .bool ky, .bool false] 71))
    simpa using this)
  have XP : Hid (Box W (w.heap.size + 1 + 1) 71 #[.int .i64 it, .int .i64 ix, .int .i64 da.size, .bool ky, .bool false]) := Lib.hid (by
    rw [← hW]
    have := Box.new ((w.alloc (.cells (uCells ch fr ve it ix ky da re ga ca os oF A al.length c) 46)).alloc (.cells #[.int .i64 0, .int .i64 0, .int .i64 0, .bool false, .bool false] 71)) 71 #[.int .i64 it, .int .i64 ix, .int .i64 da.size, .bool ky, .bool false]
    simpa using this)
  have x7 : W.cell? ⟨w.heap.size, 7, none⟩ = some (.int .i64 re) := XU.out.cell (i := 7) rfl
  have p0 : W.cell? ⟨w.heap.size + 1 + 1, 0, none⟩ = some (.int .i64 it) := XP.out.cell (i := 0) rfl
  have p1 : W.cell? ⟨w.heap.size + 1 + 1, 1, none⟩ = some (.int .i64 ix) := XP.out.cell (i := 1) rfl
  have p2 : W.cell? ⟨w.heap.size + 1 + 1, 2, none⟩ = some (.int .i64 da.size) := XP.out.cell (i := 2) rfl
  have p3 : W.cell? ⟨w.heap.size + 1 + 1, 3, none⟩ = some (.bool ky) := XP.out.cell (i := 3) rfl
  have p4 : W.cell? ⟨w.heap.size + 1 + 1, 4, none⟩ = some (.bool false) := XP.out.cell (i := 4) rfl
  have r0 : W.cell? ⟨w.heap.size + 1, 0, none⟩ = some (.int .i64 0) := XR.out.cell (i := 0) rfl
  have r1 : W.cell? ⟨w.heap.size + 1, 1, none⟩ = some (.int .i64 0) := XR.out.cell (i := 1) rfl
  have r2 : W.cell? ⟨w.heap.size + 1, 2, none⟩ = some (.int .i64 0) := XR.out.cell (i := 2) rfl
  have r3 : W.cell? ⟨w.heap.size + 1, 3, none⟩ = some (.bool false) := XR.out.cell (i := 3) rfl
  have r4 : W.cell? ⟨w.heap.size + 1, 4, none⟩ = some (.bool false) := XR.out.cell (i := 4) rfl
  have f0 := XR.out.frozen 0
  have f1 := XR.out.frozen 1
  have f2 := XR.out.frozen 2
  have f3 := XR.out.frozen 3
  have f4 := XR.out.frozen 4
  have d8 := (hB.cell (p := ⟨b, 8, none⟩) hlt).trans c8
  have HB := Lib.hid hB
  have HSW := Lib.hid (HS.out.below hB)
  have HS0 := Lib.hid hs0
  have l0 : w.heap.size < W.heap.size := by omega
  have l1 : w.heap.size + 1 < W.heap.size := by omega
  have l2 : w.heap.size + 1 + 1 < W.heap.size := by omega
  have l3 : b < W.heap.size := by omega
  clear hB hs0
  have h2i : ix ≤ 9223372036854775807 := u2
  simp only at hb
  have hb' : (bits .and .i64 (re / 2 ^ k.region.toNat) 1 == 1) = true := hb
  have hb'' : bits .and .i64 (re / 2 ^ k.region.toNat) 1 = 1 := by simpa using hb'
  first
    | go_region_held3 (fun w' => w'.cell? ⟨b, 8, none⟩ = some (.int .i64 k.region) ∧ w'.cell? ⟨w.heap.size, 7, none⟩ = some (.int .i64 re) ∧ w'.cell? ⟨w.heap.size + 1 + 1, 0, none⟩ = some (.int .i64 it) ∧ w'.cell? ⟨w.heap.size + 1 + 1, 1, none⟩ = some (.int .i64 ix) ∧ w'.cell? ⟨w.heap.size + 1 + 1, 2, none⟩ = some (.int .i64 da.size) ∧ w'.cell? ⟨w.heap.size + 1 + 1, 3, none⟩ = some (.bool ky) ∧ w'.cell? ⟨w.heap.size + 1 + 1, 4, none⟩ = some (.bool false))
        (first
          | (with_reducible exact ⟨gx0, gx1, gx2, gx3, gx4, gx5, gx6⟩)
          | (with_reducible exact ⟨keep5 gx0 hne1, keep5 gx1 (by simp), keep5 gx2 (by simp), keep5 gx3 (by simp), keep5 gx4 (by simp), keep5 gx5 (by simp), keep5 gx6 (by simp)⟩)
          | (refine ⟨?_, ?_, ?_, ?_, ?_, ?_, ?_⟩ <;> go_keep))
        ((go_at_call 41; refine (may_any b k s ⟨it, ix, da.size, ky, false⟩ [.cont, .ent] _ 2 _ _ (HSW.out.below (((Below.refl _ W).alloc (Nat.le_refl _) _).drew)) ((Rd.lit W _ 1 2 [Way.val b .cont, Way.val b .ent] rfl).below ((Below.refl _ _).drew)) (by omega) h1 h2i).mono ?_; rintro e w2 ⟨rfl, b2⟩; have hb2 : Below W.heap.size W w2 := (((Below.refl _ W).alloc (Nat.le_refl _) _).drew).trans (b2.mono (by simp)); have gx0 : w2.cell? ⟨b, 8, none⟩ = some (.int .i64 k.region) := (hb2.cell (p := ⟨b, 8, none⟩) l3).trans d8; have gx1 : w2.cell? ⟨w.heap.size, 7, none⟩ = some (.int .i64 re) := (hb2.cell (p := ⟨w.heap.size, 7, none⟩) l0).trans x7; have gx2 : w2.cell? ⟨w.heap.size + 1 + 1, 0, none⟩ = some (.int .i64 it) := (hb2.cell (p := ⟨w.heap.size + 1 + 1, 0, none⟩) l2).trans p0; have gx3 : w2.cell? ⟨w.heap.size + 1 + 1, 1, none⟩ = some (.int .i64 ix) := (hb2.cell (p := ⟨w.heap.size + 1 + 1, 1, none⟩) l2).trans p1; have gx4 : w2.cell? ⟨w.heap.size + 1 + 1, 2, none⟩ = some (.int .i64 da.size) := (hb2.cell (p := ⟨w.heap.size + 1 + 1, 2, none⟩) l2).trans p2; have gx5 : w2.cell? ⟨w.heap.size + 1 + 1, 3, none⟩ = some (.bool ky) := (hb2.cell (p := ⟨w.heap.size + 1 + 1, 3, none⟩) l2).trans p3; have gx6 : w2.cell? ⟨w.heap.size + 1 + 1, 4, none⟩ = some (.bool false) := (hb2.cell (p := ⟨w.heap.size + 1 + 1, 4, none⟩) l2).trans p4; have hy := XR.out.next hb2; have y0 : w2.cell? ⟨w.heap.size + 1, 0, none⟩ = some (.int .i64 0) := hy.cell (i := 0) rfl; have y1 : w2.cell? ⟨w.heap.size + 1, 1, none⟩ = some (.int .i64 0) := hy.cell (i := 1) rfl; have y2 : w2.cell? ⟨w.heap.size + 1, 2, none⟩ = some (.int .i64 0) := hy.cell (i := 2) rfl; have y3 : w2.cell? ⟨w.heap.size + 1, 3, none⟩ = some (.bool false) := hy.cell (i := 3) rfl; have y4 : w2.cell? ⟨w.heap.size + 1, 4, none⟩ = some (.bool false) := hy.cell (i := 4) rfl; have z0 := hy.frozen 0; have z1 := hy.frozen 1; have z2 := hy.frozen 2; have z3 := hy.frozen 3; have z4 := hy.frozen 4; have HY := Lib.hid hy; have HB2 := Lib.hid hb2; clear hy hb2 b2))
    | fail
  all_goals
    go_wp2_with fail
    refine ret_p5 (b := w.heap.size + 1) rfl rfl rfl (Box.set5 HY.out _ _ _ _ _) rfl ⟨?_, ?_⟩
    · simp
    · exact ((((((HB.out.trans (HB2.out.mono (by omega)))).setCell (by simp) _).setCell (by simp) _).setCell (by simp) _).setCell (by simp) _).setCell (by simp) _
theorem network_any (b : Nat) (k : SpK) (s : Sp) (u : UnitA) (w : World) (h : SpOk w b k s) (hu : u.ok w) (hr0 : 0 ≤ k.region) (hr1 : k.region ≤ 7) (h1 : -9223372036854775808 ≤ s.last.index) :
    Calls Try.prog 31 #[.pointer (some ⟨b, 0, none⟩), u.val] w fun e w' => e = .returned (.tuple #[(netP u).val, .bool (bitP u.regions k.region && mayP k.store s (netP u) [.cont, .ent])]) ∧ Below w.heap.size w w' := by
  cases hb : bitP u.regions k.region with
  | false => exact network_f b k s u w h hu hr0 hr1 h1 hb
  | true => exact network_t b k s u w h hu hr0 hr1 h1 hb
end Go.Proofs.Ytpaepefpfaoacaa
