/- Part 3 of the proofs: WireW, WrA, PlN, WrB, WrP, DeA, CrdP, Iter, SymG, SymH, WireI, WrC. -/
import Derived.RangeFuncBox
import Derived.RangeFuncLeaves
import Derived.Shelf.Abstract
import Derived.OwnWalkIn
import Derived.TacticsInMore
import Derived.LoopNIn
import Derived.LoopIn
import Derived.RangeFuncFrom
import Derived.Laws.IdiomStrings
import Derived.WalkLawsBesides
import Derived.Test.YteeillphhiaopaaGreatDoorRows
import Derived.ProofKit
import Derived.LaidMore
import Derived.OpenShut
import Derived.Stop.Joined
import Derived.Stop.LaidTwo
import Derived.Deep.Strs
import Derived.RangeFuncNested
import Derived.RangeFuncBound
import Derived.RangeFuncCalls
import Derived.Shelf.RegionOpen
import Derived.WalkKit
import Derived.Scope
import Derived.Lib.FrozenHead
import Derived.Test.YteeillphhiaopaaGreatDoorZqb
namespace Go.Proofs.YteeillphhiaopaaGreatDoor
set_option maxRecDepth 100000
set_option maxHeartbeats 4000000
open Go.ChangeShapes Go.WideShapes Go.ChangeAt Go.RowKit Go.Shelf
set_option linter.unusedVariables false
attribute [local go_sem] Oper.semAt_some
abbrev Grp := { p : Nat × Bool // p.1 < 128 }
def grps : Nat → Nat → List Grp
  | 0, _ => []
  | f + 1, z => if h : z < 128 then [⟨(z, false), h⟩] else ⟨(z % 128, true), by omega⟩ :: grps f (z / 128)
def grpByte (g : Grp) : Nat := if g.1.2 then g.1.1 + 128 else g.1.1
theorem grps_put (f z : Nat) : (grps f z).map grpByte = vput f z := by
  induction f generalizing z with
  | zero => rfl
  | succ f ih =>
    unfold grps vput
    by_cases h : z < 128
    · rw [dif_pos h, if_pos h]; rfl
    · rw [dif_neg h, if_neg h, List.map_cons, ih]; rfl
theorem grps_len (f z : Nat) : (grps f z).length = (vput f z).length := by rw [← grps_put, List.length_map]
set_option maxHeartbeats 1000000 in
theorem groups_in (n : Nat) (z : Int) (w : World) :
    CallsIn Fence.wide n Tryz.prog 131 #[.int .u64 z] w fun e w' => e = .returned (.func (.func 135) #[] #[.pointer (some ⟨w.heap.size, 0, none⟩)]) ∧ w' = w.alloc (.cells #[.int .u64 z] 199) := by
  refine callsIn_of_wp Tryz.func131 rfl trivial ?_ rfl
  simp only [Tryz.ntmps131, List.size_toArray, List.length_cons, List.length_nil, Nat.reduceAdd, Nat.reduceSub, Array.replicate_succ, Array.replicate_zero, List.push_toArray, List.append_toArray, List.nil_append, List.cons_append]
  gi_wp2
  go_ret
  exact ⟨rfl, rfl⟩
theorem and127 (z : Nat) (h : z < 18446744073709551616) : bits BinOp.and IntKind.u64 (z : Int) 127 = ((z % 128 : Nat) : Int) := by
  rw [show (127 : Int) = ((127 : Nat) : Int) from rfl, u64_and_nat z 127 h (by omega)]
  congr 1
  exact Nat.and_two_pow_sub_one_eq_mod z 7
set_option maxRecDepth 100000 in
set_option maxHeartbeats 2000000 in
theorem groups1_in (n : Nat) (hn : 1 ≤ n) (l Bs : Nat) (z N : Nat) (f : Nat) (hz : z < 128 ^ f) (hf : 0 < f) (hf9 : f ≤ 9) (hN : (vput f z).length ≤ N) (Kp : World → World → Prop) (J Jx : List Grp → World → Prop)
    (hY : ∀ pre x W, J pre W → pre.length < N → YieldAt Fence.wide (n - 1) Tryz.prog l #[.int .u8 (x.1.1 : Int), .bool x.1.2] W fun e W' =>
      (e = .returned (.bool true) ∧ J (pre ++ [x]) W' ∧ Kp W W') ∨ (e = .returned (.bool false) ∧ Jx (pre ++ [x]) W'))
    (W : World) (hBs : W.cell? ⟨Bs, 0, none⟩ = some (.int .u64 (z : Int))) (h0 : J [] W) :
    CallsIn Fence.wide n Tryz.prog 135 #[.func (.yield l) #[] #[], .pointer (some ⟨Bs, 0, none⟩)] W fun e W' => (∃ v, e = .returned v) ∧
      ((∃ ys, ys = grps f z ∧ J ys W') ∨ (∃ pre, True ∧ Jx pre W')) := by
  have HZ := Lib.hid hz
  have HN := Lib.hid hN
  clear hz hN
  refine callsIn_of_wp Tryz.func135 rfl trivial ?_ rfl
  simp only [Tryz.ntmps135, List.size_toArray, List.length_cons, List.length_nil, Nat.reduceAdd, Nat.reduceSub, Array.replicate_succ, Array.replicate_zero, List.push_toArray, List.append_toArray, List.nil_append, List.cons_append]
  gi_wp2
  gi_loopw [3] (fun r wr => ∃ (pre : List Grp) (g y : Nat), g ≤ f ∧ 0 < g ∧ r = .int .u64 (y : Int) ∧ y < 128 ^ g ∧ grps f z = pre ++ grps g y ∧ J pre wr)
    (fun r _ => (intOf r).toNat)
  case atStart => exact ⟨[], f, z, Nat.le_refl _, hf, rfl, HZ.out, rfl, h0⟩
  case round =>
    obtain ⟨pre, g, y, hgf, hg, rfl, hy, hpre, hJs⟩ := hrel
    have hyb : y < 9223372036854775808 := by
      have : 128 ^ g ≤ 128 ^ 9 := Nat.pow_le_pow_right (by omega) (by omega)
      have h3 : (128 : Nat) ^ 9 = 9223372036854775808 := by decide
      omega
    have HY := Lib.hid hy
    have hlen : pre.length + (grps g y).length ≤ N := by
      have e := congrArg List.length hpre
      rw [grps_len, List.length_append] at e
      have := HN.out
      omega
    have hpos := (vput_len g y hg).1
    rw [← grps_len] at hpos
    have HP := Lib.hid hpre
    clear hy hpre
    obtain ⟨g', rfl⟩ : ∃ g', g = g' + 1 := ⟨g - 1, by omega⟩
    by_cases hlt : 128 ≤ y
    · have hlti : (128 : Int) ≤ (y : Int) := by omega
      obtain ⟨m, hm⟩ : ∃ m : Nat, y % 128 = m := ⟨_, rfl⟩
      have hm1 : m < 128 := by omega
      have hst : grps (g' + 1) y = ⟨(m, true), hm1⟩ :: grps g' (y / 128) := by
        rw [grps, dif_neg (by omega)]
        congr 1
        exact Subtype.ext (by simp [hm])
      obtain ⟨fn, tmps, assign, body, hyy, hR⟩ := hY pre ⟨(m, true), hm1⟩ wr hJs (by omega)
      dsimp only at hyy
      have hA : bits BinOp.and IntKind.u64 (y : Int) 127 = (m : Int) := by rw [and127 y (by omega), hm]
      have hA2 : (m : Int) % 256 = m := by omega
      have hp2 : grps f z = (pre ++ [⟨(m, true), hm1⟩]) ++ grps g' (y / 128) := by rw [HP.out, hst]; simp
      have HP2 := Lib.hid hp2
      have hg2 : 0 < g' := by
        rcases Nat.eq_zero_or_pos g' with h0 | h0
        · subst h0; have := HY.out; simp at this; omega
        · exact h0
      have hy2 : y / 128 < 128 ^ g' := by have := HY.out; rw [Nat.pow_succ] at this; omega
      have HY2 := Lib.hid hy2
      clear hst hp2 hy2 hm
      gi_wp2
      refine hR.mono ?_
      rintro e W3 (⟨rfl, hJ3, hk3⟩ | ⟨rfl, hJx3⟩)
      · clear hA hA2
        gi_wp2
        go_roundw
        case rel => exact ⟨pre ++ [⟨(m, true), hm1⟩], g', y / 128, by omega, hg2, congrArg (Value.int .u64) (by omega), HY2.out, HP2.out, hJ3⟩
        case measure => simp [intOf]; omega
      · clear hA hA2
        gi_wp2
        refine bodyPost_ret (results_none rfl _ _ _) rfl ?_
        exact ⟨⟨_, rfl⟩, .inr ⟨_, trivial, hJx3⟩⟩
    · have hlti : (y : Int) < 128 := by omega
      have hst : grps (g' + 1) y = [⟨(y, false), by omega⟩] := by
        rw [grps, dif_pos (by omega)]
      obtain ⟨fn, tmps, assign, body, hyy, hR⟩ := hY pre ⟨(y, false), by omega⟩ wr hJs (by omega)
      dsimp only at hyy
      have hp2 : grps f z = pre ++ [⟨(y, false), by omega⟩] := by rw [HP.out, hst]
      have HP2 := Lib.hid hp2
      have hA2 : (y : Int) % 256 = y := by omega
      clear hst hp2
      gi_wp2
      refine hR.mono ?_
      rintro e W3 (⟨rfl, hJ3, hk3⟩ | ⟨rfl, hJx3⟩)
      · clear hA2
        gi_wp2
        go_end0
        exact ⟨⟨_, rfl⟩, .inl ⟨_, HP2.out.symm, hJ3⟩⟩
      · clear hA2
        gi_wp2
        go_end0
        exact ⟨⟨_, rfl⟩, .inr ⟨_, trivial, hJx3⟩⟩
theorem groups_stops (n : Nat) (hn : 1 ≤ n) (Bs : Nat) (z N f : Nat) (hz : z < 128 ^ f) (hf : 0 < f) (hf9 : f ≤ 9) (hN : (vput f z).length ≤ N) (Kp : World → World → Prop) (w : World) (hBs : Bs < w.heap.size)
    (hc : w.cell? ⟨Bs, 0, none⟩ = some (.int .u64 (z : Int))) :
    SeqStopsK Fence.wide n Tryz.prog 135 #[.pointer (some ⟨Bs, 0, none⟩)] (fun x : Grp => #[Value.int .u8 (x.1.1 : Int), Value.bool x.1.2]) Kp (fun ys => ys = grps f z) (fun _ => True) N w := fun l J Jx W hW _ _ hY h0 =>
  groups1_in n hn l Bs z N f hz hf hf9 hN Kp J Jx hY W ((hW.cell (p := ⟨Bs, 0, none⟩) hBs).trans hc) h0
def putV (n : Int) : Value := .tuple #[.string ⟨(encInt n).toArray⟩, .int .i64 0]
def PBox (B : Nat) (W : World) (pre : List Grp) : Prop :=
  (∀ i, i < 9 → W.cell? ⟨B, i, none⟩ = some (.int .u8 (((pre.map grpByte).getD i 0 : Nat) : Int)) ∧ W.frozen? ⟨B, i, none⟩ = false) ∧ W.cell? ⟨B + 1, 0, none⟩ = some (.int .i64 pre.length) ∧ W.frozen? ⟨B + 1, 0, none⟩ = false
theorem pbox_step {B : Nat} {W : World} {pre : List Grp} {x : Grp} (h : PBox B W pre) (hl : pre.length < 9) :
    PBox B ((W.setCell ⟨B, pre.length, none⟩ (.int .u8 (grpByte x : Int))).setCell ⟨B + 1, 0, none⟩ (.int .i64 ((pre.length : Int) + 1))) (pre ++ [x]) := by
  obtain ⟨h1, h2, h3⟩ := h
  refine ⟨fun i hi => ?_, ?_, ?_⟩
  · rw [World.frozen?_setCell, World.frozen?_setCell, World.cell?_setCell_other _ _ _ _ (by simp)]
    refine ⟨?_, (h1 i hi).2⟩
    by_cases e : i = pre.length
    · subst e
      rw [World.cell?_setCell_same' _ _ _ (by rw [(h1 _ hl).1]; rfl)]
      simp [List.getD]
    · rw [World.cell?_setCell_other _ _ _ _ (by simp), (h1 i hi).1]
      congr 3
      simp only [List.map_append, List.getD]
      by_cases hi2 : i < pre.length
      · rw [List.getElem?_append_left (by simpa using hi2)]
      · rw [List.getElem?_eq_none (by simp; omega), List.getElem?_eq_none (by simp; omega)]
  · rw [World.cell?_setCell_same' _ _ _ (by rw [World.cell?_setCell_other _ _ _ _ (by simp), h2]; rfl)]
    simp
  · rw [World.frozen?_setCell, World.frozen?_setCell]; exact h3
theorem putInt_start (w : World) (z : Nat) (W0 : World) (hW0 : ((w.alloc (Obj.cells #[.int .u8 0, .int .u8 0, .int .u8 0, .int .u8 0, .int .u8 0, .int .u8 0, .int .u8 0, .int .u8 0, .int .u8 0] 203)).alloc (Obj.cells #[Value.int IntKind.i64 0] 3)).alloc (Obj.cells #[Value.int IntKind.u64 (z : Int)] 199) = W0) :
    Below w.heap.size w W0 ∧ W0.heap.size = w.heap.size + 1 + 1 + 1 ∧ PBox w.heap.size W0 [] ∧ W0.cell? ⟨w.heap.size + 1 + 1, 0, none⟩ = some (.int .u64 (z : Int)) := by
  refine ⟨by rw [← hW0]; exact (((Below.refl _ w).alloc (Nat.le_refl _) _).alloc (by simp) _).alloc (by simp; omega) _, by rw [← hW0]; simp, ⟨fun i hi => ?_, ?_, ?_⟩, ?_⟩ <;> rw [← hW0]
  · rw [World.cell?_alloc_lt _ _ _ (by simp; omega), World.frozen?_alloc_old _ _ _ (by simp; omega)]
    match i, hi with
    | 0, _ => simp
    | 1, _ => simp
    | 2, _ => simp
    | 3, _ => simp
    | 4, _ => simp
    | 5, _ => simp
    | 6, _ => simp
    | 7, _ => simp
    | 8, _ => simp
  · rw [World.cell?_alloc_lt _ _ _ (by simp)]; simp
  · rw [World.frozen?_alloc_old _ _ _ (by simp)]; simp
  · rw [World.cell?_alloc_at _ _ _ _ (by simp)]; rfl
theorem conv_put {P : Program} {src dst e : TypeId} (W : World) (B : Nat) (n : Int) (z : Nat) (hz : zig n = z) (h : PBox B W (grps 9 z)) (hs : P.underlying src = some (.slice e)) (he : P.underlying e = some (.int .u8)) (hd : P.underlying dst = some .string) (cap : Nat) :
    (convert src dst (.slice (some ⟨B, 0, none⟩) (encInt n).length cap)).run P W = .ok (.string ⟨(encInt n).toArray⟩) W := by
  refine run_convert_bytes_back W src dst e ⟨B, 0, none⟩ cap (encInt n) hs he hd (fun j hj => ?_)
  have h9 := (encInt_len n).2
  have hadd : (⟨B, 0, none⟩ : Addr).add j = ⟨B, j, none⟩ := by unfold Addr.add; split <;> simp_all
  rw [hadd, (h.1 j (by omega)).1, grps_put]
  have hj' : j < (vput 9 z).length := by unfold encInt at hj; rw [hz, List.length_map] at hj; exact hj
  have hb := vput_bytes 9 z (vput 9 z)[j] (List.getElem_mem hj')
  congr 3
  simp only [encInt, hz, List.getElem_map]
  rw [ofNat_toNat hb]
  simp [List.getD, List.getElem?_eq_getElem hj']
set_option maxRecDepth 100000 in
set_option maxHeartbeats 4000000 in
theorem putInt_z (n : Int) (z : Nat) (w : World) (h1 : -wmax ≤ n) (h2 : n ≤ wmax) (hz : zig n = z) (hzc : (0 ≤ n ∧ (z : Int) = n * 2) ∨ (n < 0 ∧ (z : Int) = -n * 2 - 1)) :
    Calls Tryz.prog 125 #[.int .i64 n] w fun e w' => e = .returned (putV n) ∧ Below w.heap.size w w' := by
  unfold wmax at h1 h2
  have hzb : z < 128 ^ 9 := by have h3 : (128 : Nat) ^ 9 = 9223372036854775808 := by decide
                               omega
  have HZB := Lib.hid hzb
  have hzz : z < 9223372036854775808 := by omega
  have HZ := Lib.hid hz
  clear hz hzb
  refine (callsIn_wide (n := 8)).1 ?_
  refine callsIn_of_wp_marks Tryz.func125 rfl trivial ?_ rfl
  simp only [Tryz.ntmps125, List.size_toArray, List.length_cons, List.length_nil, Nat.reduceAdd, Nat.reduceSub, Array.replicate_succ, Array.replicate_zero, List.push_toArray, List.append_toArray, List.nil_append, List.cons_append]
  rcases hzc with ⟨hn, hz⟩ | ⟨hn, hz⟩
  · have d1 : decide (n < -4611686018427387903) = false := by simp; omega
    have d2 : decide (4611686018427387903 < n) = false := by simp; omega
    have HZE := Lib.hid hz
    clear hz
    gi_wp2_with (refine ⟨trivial, ?_⟩; gi_at_call 131; refine (groups_in _ _ _).mono ?_; rintro e w' ⟨rfl, rfl⟩)
    rw [← HZE.out]
    obtain ⟨W0, hW0⟩ : ∃ W0, ((w.alloc (Obj.cells #[.int .u8 0, .int .u8 0, .int .u8 0, .int .u8 0, .int .u8 0, .int .u8 0, .int .u8 0, .int .u8 0, .int .u8 0] 203)).alloc (Obj.cells #[Value.int IntKind.i64 0] 3)).alloc (Obj.cells #[Value.int IntKind.u64 (z : Int)] 199) = W0 := ⟨_, rfl⟩
    obtain ⟨hB0, hs0, hP0, hc0⟩ := putInt_start w z W0 hW0
    rw [hW0]
    have HP0 := Lib.hid hP0
    have HC0 := Lib.hid hc0
    clear hW0 hP0 hc0
    refine wpIn_rangeFunc_ownF (F := Fence.wide) rfl (by omega) (gf := 135) (lb := #[.pointer (some ⟨w.heap.size + 1 + 1, 0, none⟩)]) rfl trivial (enters_of Tryz.func135 (by kernel_rfl) rfl)
      (groups_stops _ (by omega) (w.heap.size + 1 + 1) z 9 9 HZB.out (by omega) (by omega) (vput_len 9 z (by omega)).2 (Below w.heap.size) W0 (by omega) HC0.out) belowK_t (belowK_b (by omega)) (Below.refl _ _) (fun _ => rfl)
      (fun pre W => PBox w.heap.size W pre ∧ Below w.heap.size w W)
      (fun _ _ _ => False)
      (OwnFrom.and (Own.from (fun s A B row hs hg hr => ⟨fun i hi => ⟨cell_kept (hs.1 i hi).1 hg hr, (frozen_kept (hs.1 i hi).1 hg hr).trans (hs.1 i hi).2⟩, cell_kept hs.2.1 hg hr, (frozen_kept hs.2.1 hg hr).trans hs.2.2⟩) _) (ownFrom_below (Nat.le_refl _) (by omega)))
      (fun _ _ _ _ _ hs _ _ => hs)
      ⟨HP0.out, hB0⟩
      ?act ?assign ?body ?done ?stop
    case assign =>
      intro l x W K hK
      gi_wp2
      exact hK
    case body =>
      rintro l pre ⟨⟨x, more⟩, hx⟩ W ⟨hP, hB⟩ hpre
      have HP := Lib.hid hP
      have hcs := hP.2.1
      have hfs := hP.2.2
      have hcc := (hP.1 pre.length hpre).1
      have hfc := (hP.1 pre.length hpre).2
      have h9i : (pre.length : Int) < 9 := by omega
      clear hP
      dsimp only
      dsimp only at hx
      cases more with
      | true =>
        have hst := Lib.hid (pbox_step (x := ⟨(x, true), hx⟩) HP.out hpre)
        have hby : (grpByte ⟨(x, true), hx⟩ : Int) = (x : Int) + 128 := by simp [grpByte]
        rw [hby] at hst
        clear hby
        gi_wp2
        exact ⟨(KeepsOthers.setCell _ _ _).trans (KeepsOthers.setCell _ _ _), ((Below.refl w.heap.size W).setCell (p := ⟨w.heap.size, pre.length, none⟩) (Nat.le_refl _) _).setCell (p := ⟨w.heap.size + 1, 0, none⟩) (by simp) _, hst.out, (hB.setCell (p := ⟨w.heap.size, pre.length, none⟩) (Nat.le_refl _) _).setCell (p := ⟨w.heap.size + 1, 0, none⟩) (by simp) _⟩
      | false =>
        have hst := Lib.hid (pbox_step (x := ⟨(x, false), hx⟩) HP.out hpre)
        have hby : (grpByte ⟨(x, false), hx⟩ : Int) = (x : Int) := by simp [grpByte]
        rw [hby] at hst
        clear hby
        gi_wp2
        exact ⟨(KeepsOthers.setCell _ _ _).trans (KeepsOthers.setCell _ _ _), ((Below.refl w.heap.size W).setCell (p := ⟨w.heap.size, pre.length, none⟩) (Nat.le_refl _) _).setCell (p := ⟨w.heap.size + 1, 0, none⟩) (by simp) _, hst.out, (hB.setCell (p := ⟨w.heap.size, pre.length, none⟩) (Nat.le_refl _) _).setCell (p := ⟨w.heap.size + 1, 0, none⟩) (by simp) _⟩
    case done =>
      rintro D ys W hD rfl ⟨hP, hB⟩ hK
      have hcs := hP.2.1
      have hl9 := (vput_len 9 z (by omega)).2
      have hgl : (grps 9 z).length = (encInt n).length := by rw [grps_len]; unfold encInt; rw [HZ.out, List.length_map]
      have hgl9 : (encInt n).length ≤ 9 := (encInt_len n).2
      have hgl9i : ((encInt n).length : Int) ≤ 9 := by omega
      rw [hgl] at hcs
      have hcv := conv_put (P := Tryz.prog) W w.heap.size n z HZ.out hP Tryz.underlying90 Tryz.underlying5 Tryz.underlying9
      have HK := Lib.hid hK
      clear hK hl9 hgl hP
      generalize hL : encInt n = L at *
      have HL := Lib.hid hL
      clear hL
      gi_wp2
      refine ⟨by simp, .inl ⟨_, _, rfl, run_takeDeferred HK.out, ?_⟩⟩
      refine ⟨putV n, ?_, rfl, hB.trans (belowK_b (w := w) (Nat.le_refl _) W D _ _ (by omega) HK.out rfl rfl)⟩
      simp [results, Tryz.f125, go_sem, putV, HL.out]
    case stop =>
      rintro D c pre W _ _ h _
      exact h.elim
  · have d1 : decide (n < -4611686018427387903) = false := by simp; omega
    have d2 : decide (4611686018427387903 < n) = false := by simp; omega
    have HZE := Lib.hid hz
    clear hz
    gi_wp2_with (refine ⟨trivial, ?_⟩; gi_at_call 131; refine (groups_in _ _ _).mono ?_; rintro e w' ⟨rfl, rfl⟩)
    rw [← HZE.out]
    obtain ⟨W0, hW0⟩ : ∃ W0, ((w.alloc (Obj.cells #[.int .u8 0, .int .u8 0, .int .u8 0, .int .u8 0, .int .u8 0, .int .u8 0, .int .u8 0, .int .u8 0, .int .u8 0] 203)).alloc (Obj.cells #[Value.int IntKind.i64 0] 3)).alloc (Obj.cells #[Value.int IntKind.u64 (z : Int)] 199) = W0 := ⟨_, rfl⟩
    obtain ⟨hB0, hs0, hP0, hc0⟩ := putInt_start w z W0 hW0
    rw [hW0]
    have HP0 := Lib.hid hP0
    have HC0 := Lib.hid hc0
    clear hW0 hP0 hc0
    refine wpIn_rangeFunc_ownF (F := Fence.wide) rfl (by omega) (gf := 135) (lb := #[.pointer (some ⟨w.heap.size + 1 + 1, 0, none⟩)]) rfl trivial (enters_of Tryz.func135 (by kernel_rfl) rfl)
      (groups_stops _ (by omega) (w.heap.size + 1 + 1) z 9 9 HZB.out (by omega) (by omega) (vput_len 9 z (by omega)).2 (Below w.heap.size) W0 (by omega) HC0.out) belowK_t (belowK_b (by omega)) (Below.refl _ _) (fun _ => rfl)
      (fun pre W => PBox w.heap.size W pre ∧ Below w.heap.size w W)
      (fun _ _ _ => False)
      (OwnFrom.and (Own.from (fun s A B row hs hg hr => ⟨fun i hi => ⟨cell_kept (hs.1 i hi).1 hg hr, (frozen_kept (hs.1 i hi).1 hg hr).trans (hs.1 i hi).2⟩, cell_kept hs.2.1 hg hr, (frozen_kept hs.2.1 hg hr).trans hs.2.2⟩) _) (ownFrom_below (Nat.le_refl _) (by omega)))
      (fun _ _ _ _ _ hs _ _ => hs)
      ⟨HP0.out, hB0⟩
      ?act2 ?assign2 ?body2 ?done2 ?stop2
    case assign2 =>
      intro l x W K hK
      gi_wp2
      exact hK
    case body2 =>
      rintro l pre ⟨⟨x, more⟩, hx⟩ W ⟨hP, hB⟩ hpre
      have HP := Lib.hid hP
      have hcs := hP.2.1
      have hfs := hP.2.2
      have hcc := (hP.1 pre.length hpre).1
      have hfc := (hP.1 pre.length hpre).2
      have h9i : (pre.length : Int) < 9 := by omega
      clear hP
      dsimp only
      dsimp only at hx
      cases more with
      | true =>
        have hst := Lib.hid (pbox_step (x := ⟨(x, true), hx⟩) HP.out hpre)
        have hby : (grpByte ⟨(x, true), hx⟩ : Int) = (x : Int) + 128 := by simp [grpByte]
        rw [hby] at hst
        clear hby
        gi_wp2
        exact ⟨(KeepsOthers.setCell _ _ _).trans (KeepsOthers.setCell _ _ _), ((Below.refl w.heap.size W).setCell (p := ⟨w.heap.size, pre.length, none⟩) (Nat.le_refl _) _).setCell (p := ⟨w.heap.size + 1, 0, none⟩) (by simp) _, hst.out, (hB.setCell (p := ⟨w.heap.size, pre.length, none⟩) (Nat.le_refl _) _).setCell (p := ⟨w.heap.size + 1, 0, none⟩) (by simp) _⟩
      | false =>
        have hst := Lib.hid (pbox_step (x := ⟨(x, false), hx⟩) HP.out hpre)
        have hby : (grpByte ⟨(x, false), hx⟩ : Int) = (x : Int) := by simp [grpByte]
        rw [hby] at hst
        clear hby
        gi_wp2
        exact ⟨(KeepsOthers.setCell _ _ _).trans (KeepsOthers.setCell _ _ _), ((Below.refl w.heap.size W).setCell (p := ⟨w.heap.size, pre.length, none⟩) (Nat.le_refl _) _).setCell (p := ⟨w.heap.size + 1, 0, none⟩) (by simp) _, hst.out, (hB.setCell (p := ⟨w.heap.size, pre.length, none⟩) (Nat.le_refl _) _).setCell (p := ⟨w.heap.size + 1, 0, none⟩) (by simp) _⟩
    case done2 =>
      rintro D ys W hD rfl ⟨hP, hB⟩ hK
      have hcs := hP.2.1
      have hl9 := (vput_len 9 z (by omega)).2
      have hgl : (grps 9 z).length = (encInt n).length := by rw [grps_len]; unfold encInt; rw [HZ.out, List.length_map]
      have hgl9 : (encInt n).length ≤ 9 := (encInt_len n).2
      have hgl9i : ((encInt n).length : Int) ≤ 9 := by omega
      rw [hgl] at hcs
      have hcv := conv_put (P := Tryz.prog) W w.heap.size n z HZ.out hP Tryz.underlying90 Tryz.underlying5 Tryz.underlying9
      have HK := Lib.hid hK
      clear hK hl9 hgl hP
      generalize hL : encInt n = L at *
      have HL := Lib.hid hL
      clear hL
      gi_wp2
      refine ⟨by simp, .inl ⟨_, _, rfl, run_takeDeferred HK.out, ?_⟩⟩
      refine ⟨putV n, ?_, rfl, hB.trans (belowK_b (w := w) (Nat.le_refl _) W D _ _ (by omega) HK.out rfl rfl)⟩
      simp [results, Tryz.f125, go_sem, putV, HL.out]
    case stop2 =>
      rintro D c pre W _ _ h _
      exact h.elim
theorem putInt_any (n : Int) (w : World) (h1 : -wmax ≤ n) (h2 : n ≤ wmax) :
    Calls Tryz.prog 125 #[.int .i64 n] w fun e w' => e = .returned (putV n) ∧ Below w.heap.size w w' :=
  putInt_z n (zig n) w h1 h2 rfl (by unfold zig; split <;> omega)
end Go.Proofs.YteeillphhiaopaaGreatDoor
namespace Go.Proofs.YteeillphhiaopaaGreatDoor
set_option maxRecDepth 100000
set_option maxHeartbeats 4000000
open Go.ChangeShapes Go.WideShapes Go.ChangeAt Go.RowKit
set_option linter.unusedVariables false
def bldV (n0 base b : Nat) (v0 v : Value) (bs : List UInt8) : HB :=
  ⟨fun k => k = b ∨ v.ownBlock = some k ∨ v0.ownBlock = some k, fun w => (bldW base b v bs).F w ∧ (∀ k, v0.ownBlock = some k → k < w.heap.size) ∧ ∀ k, v.ownBlock = some k → v0.ownBlock = some k ∨ n0 ≤ k, false⟩
theorem bldV_ok (n0 base b : Nat) (v0 v : Value) (bs : List UInt8) : (bldV n0 base b v0 v bs).ok := fun w1 w2 h hk hs =>
  ⟨bldG_ok _ _ _ _ _ _ w1 w2 h.1 (fun k hf => hk k (hf.elim .inl (fun h => .inr (.inl h)))) hs, fun k hv => Nat.lt_of_lt_of_le (h.2.1 k hv) hs, h.2.2⟩
theorem bldW_sub {n0 base b : Nat} {v0 v : Value} {bs : List UInt8} {k : Nat} (h : (bldW base b v bs).fp k) : (bldV n0 base b v0 v bs).fp k := h.elim .inl (fun h => .inr (.inl h))
theorem Hp.ownV {w : World} {base b : Nat} {v : Value} {bs : List UInt8} (h : (bldW base b v bs).F w) : Hp w w [bldV w.heap.size base b v v bs] [] :=
  (Hp.start w).add (bldV w.heap.size base b v v bs) ⟨h, fun k hk => bldG_lt h k (.inr hk), fun k hk => .inl hk⟩ (bldV_ok _ _ _ _ _ _) (fun k hk => by
    rcases hk with rfl | hk | hk
    · exact bldG_lt h _ (.inl rfl)
    · exact bldG_lt h _ (.inr hk)
    · exact bldG_lt h _ (.inr hk)) (fun _ _ => ⟨(fun _ h => by cases h), (fun _ h => by cases h)⟩) fun h => by cases h
theorem Agree.wider {w w' : World} {f f' : Nat → Prop} (h : Agree w w' f) (hf : ∀ k, f k → f' k) : Agree w w' f' := ⟨h.os, h.tape, h.output, h.size, fun k hk hn => h.block k hk fun hh => hn (hf k hh)⟩
theorem Hp.putV {w0 w w' : World} {L : List HB} {K : List FK} (H : Hp w0 w L K) (i : Nat) {base b : Nat} {v0 v v' : Value} {bs bs' : List UInt8} (hi : L[i]? = some (bldV w0.heap.size base b v0 v bs)) (L' : List HB) (hL : L.set i (bldV w0.heap.size base b v0 v' bs') = L') (hF : (bldW base b v' bs').F w') (hag : Agree w w' (bldW base b v bs).fp) (hv : ∀ k, v'.ownBlock = some k → v.ownBlock = some k ∨ w.heap.size ≤ k) : Hp w0 w' L' K := by
  obtain ⟨h1, h2, h3⟩ := H.held i hi
  have hs := H.size
  refine H.mut i hi _ L' hL (hag.wider fun k hk => bldW_sub hk) ⟨hF, fun k hk => Nat.lt_of_lt_of_le (h2 k hk) hag.size, fun k hk => ?_⟩ (bldV_ok _ _ _ _ _ _) (fun k hk => ?_) (fun k hk => ?_) (fun k hlt hk => ?_) rfl
  · rcases hv k hk with h | h
    · exact h3 k h
    · exact .inr (Nat.le_trans hs h)
  · rcases hk with rfl | hk | hk
    · exact bldG_lt hF _ (.inl rfl)
    · exact bldG_lt hF _ (.inr hk)
    · exact Nat.lt_of_lt_of_le (h2 k hk) hag.size
  · rcases hk with rfl | hk | hk
    · exact .inl (.inl rfl)
    · rcases hv k hk with h | h
      · exact .inl (.inr (.inl h))
      · exact .inr h
    · exact .inl (.inr (.inr hk))
  · rcases hk with rfl | hk | hk
    · exact .inl rfl
    · rcases h3 k hk with h | h
      · exact .inr (.inr h)
      · omega
    · exact .inr (.inr hk)
def encInts (zs : List Int) : List UInt8 := zs.flatMap encInt
theorem encInts_append (xs ys : List Int) : encInts (xs ++ ys) = encInts xs ++ encInts ys := by simp [encInts]
theorem encInts_cons (z : Int) (zs : List Int) : encInts (z :: zs) = encInt z ++ encInts zs := by simp [encInts]
theorem encInts_one (z : Int) : encInts [z] = encInt z := by simp [encInts]
theorem encInts_len (zs : List Int) : (encInts zs).length ≤ 9 * zs.length := by
  induction zs with
  | nil => simp [encInts]
  | cons z zs ih =>
    have := (encInt_len z).2
    simp only [encInts, List.flatMap_cons, List.length_append, List.length_cons] at *
    omega
theorem wputI_any (n : Int) (w : World) (h1 : -wmax ≤ n) (h2 : n ≤ wmax) :
    Calls Tryz.prog 125 #[.int .i64 n] w fun e w' => e = .returned (.tuple #[.string (bstr (encInt n)), .int .i64 0]) ∧ Below w.heap.size w w' := putInt_any n w h1 h2
def PutPost (base b : Nat) (v : Value) (bs : List UInt8) (zs : List Int) (w : World) (e : Ending) (w' : World) : Prop :=
  e = .returned (.tuple #[]) ∧ ∃ v', (bldW base b v' (bs ++ encInts zs)).F w' ∧ Agree w w' (bldW base b v bs).fp ∧ ∀ k, v'.ownBlock = some k → v.ownBlock = some k ∨ w.heap.size ≤ k
theorem Hp.endV {w0 w : World} {L : List HB} {K : List FK} (H : Hp w0 w L K) (i : Nat) {base b : Nat} {v0 v : Value} {bs bs0 : List UInt8} {zs : List Int} (hi : L[i]? = some (bldV w0.heap.size base b v0 v bs)) (hz : bs = bs0 ++ encInts zs) (hf : ∀ x ∈ L, x.fresh = true ∨ x = bldV w0.heap.size base b v0 v bs) : PutPost base b v0 bs0 zs w0 (.returned (.tuple #[])) w := by
  obtain ⟨h1, h2, h3⟩ := H.held i hi
  subst hz
  refine ⟨rfl, v, h1, ⟨H.os, H.tape, H.output, H.size, fun k hk hn => H.old k hk fun x hx hxk => ?_⟩, h3⟩
  rcases hf x hx with h | rfl
  · have := H.fresh x hx h k hxk; omega
  · rcases hxk with rfl | hxk | hxk
    · exact hn (.inl rfl)
    · rcases h3 k hxk with h | h
      · exact hn (.inr h)
      · omega
    · exact hn (.inr hxk)
theorem Hp.notBld {w0 w : World} {L : List HB} {K : List FK} (H : Hp w0 w L K) (i j : Nat) {n0 base b : Nat} {v0 v : Value} {bs : List UInt8} {y : HB} (hi : L[i]? = some (bldV n0 base b v0 v bs)) (hj : L[j]? = some y) (hne : i ≠ j) : ∀ k, y.fp k → ¬ (bldW base b v bs).fp k := fun k hk hb => by
  rcases Nat.lt_or_gt_of_ne hne with h | h
  · exact pair_at H.apart hi hj h k (bldW_sub hb) hk
  · exact pair_at H.apart hj hi h k hk (bldW_sub hb)
theorem Hp.factBld {w0 w : World} {L : List HB} {K : List FK} (H : Hp w0 w L K) (i j : Nat) {n0 base b : Nat} {v0 v : Value} {bs : List UInt8} {p : FK} (hi : L[i]? = some (bldV n0 base b v0 v bs)) (hj : K[j]? = some p) : ∀ k, p.fp k → ¬ (bldW base b v bs).fp k := fun k hk hb =>
  ((H.kept p (List.mem_of_getElem? hj)).2.2 k hk).2 _ (List.mem_of_getElem? hi) (bldW_sub hb)
theorem Hp.baseV {w0 w : World} {L : List HB} {K : List FK} (H : Hp w0 w L K) (i : Nat) {n0 base b : Nat} {v0 v : Value} {bs : List UInt8} (hi : L[i]? = some (bldV n0 base b v0 v bs)) : base ≤ w.heap.size := by
  obtain ⟨h1, _, _⟩ := H.held i hi
  have := bldG_lt h1 b (.inl rfl)
  have := h1.1
  omega
end Go.Proofs.YteeillphhiaopaaGreatDoor
namespace Go.Proofs.YteeillphhiaopaaGreatDoor
set_option maxRecDepth 100000
set_option maxHeartbeats 4000000
set_option linter.unusedVariables false
deriving instance DecidableEq for Itm
deriving instance DecidableEq for Bkg
deriving instance DecidableEq for Cls
structure EnN where
  id : Int
  item : Int
  frames : Int
  earliest : Int
  latest : Int
  booking : Int
  al : Alts
  deriving DecidableEq
structure PlN where
  channel : Int
  num : Int
  den : Int
  offset : Int
  sh : Alts
  epoch : Int
  regions : Int
  length : Int
  fill : Int
  its : List Itm
  es : List EnN
  bs : List Bkg
  cs : List Cls
  deriving DecidableEq
def Ent.nv (e : Ent) : EnN := ⟨e.id, e.item, e.frames, e.earliest, e.latest, e.booking, e.al⟩
def Pln.nv (p : Pln) : PlN := ⟨p.channel, p.num, p.den, p.offset, p.sh, p.epoch, p.regions, p.length, p.fill, p.its, p.es.map Ent.nv, p.bs, p.cs⟩
def EnN.en (e : EnN) : Ent := ⟨e.id, e.item, e.frames, e.earliest, e.latest, e.booking, none, 0, e.al⟩
def PlN.pl (v : PlN) : Pln := ⟨v.channel, v.num, v.den, v.offset, none, 0, v.sh, v.epoch, v.regions, v.length, v.fill, none, 0, v.its, none, 0, v.es.map EnN.en, none, 0, v.bs, none, 0, v.cs⟩
theorem PlN.nv_pl (v : PlN) : v.pl.nv = v := by
  cases v
  simp only [PlN.pl, Pln.nv, List.map_map, PlN.mk.injEq, true_and, and_true]
  induction ‹List EnN› with
  | nil => rfl
  | cons a l ih => rw [List.map_cons, ih]; rfl
def validN (v : PlN) : Bool := validPl v.pl
theorem entsP_nv (p : Pln) : ∀ (l : List Ent) (seen : List Int), entsP p seen l = entsP p.nv.pl seen ((l.map Ent.nv).map EnN.en)
  | [], _ => rfl
  | e :: l, seen => by
    simp only [List.map_cons, entsP]
    rw [← entsP_nv p l]
    rfl
theorem validPl_nv (p : Pln) : validPl p = validN p.nv := by
  unfold validN validPl
  rw [entsP_nv]
  simp only [PlN.pl, Pln.nv, List.length_map, soundP]
def enZ : Ent := ⟨0, 0, 0, 0, 0, 0, none, 0, []⟩
def gE (l : List Ent) (k : Int) : Ent := (fE l k).getD enZ
def hE (l : List Ent) (k : Int) : Bool := (fE l k).isSome
theorem itm_eq {x y : Itm} : ([x.id, x.kind, x.frames, x.sponsor, x.rating] : List Int) = [y.id, y.kind, y.frames, y.sponsor, y.rating] ↔ x = y := by
  cases x; cases y; simp
theorem bkg_eq {x y : Bkg} : ([x.id, x.item, x.region, x.from_, x.to_, x.until_, x.price] : List Int) = [y.id, y.item, y.region, y.from_, y.to_, y.until_, y.price] ↔ x = y := by
  cases x; cases y; simp
theorem cls_eq {x y : Cls} : ([x.kind, x.item, x.from_, x.to_, x.regions, x.n, x.a, x.b] : List Int) = [y.kind, y.item, y.from_, y.to_, y.regions, y.n, y.a, y.b] ↔ x = y := by
  cases x; cases y; simp
theorem alt_eq {x y : Int × Int} : ([x.1, x.2] : List Int) = [y.1, y.2] ↔ x = y := by
  cases x; cases y; simp
end Go.Proofs.YteeillphhiaopaaGreatDoor
namespace Go.Proofs.YteeillphhiaopaaGreatDoor
set_option maxRecDepth 100000
set_option maxHeartbeats 4000000
open Go.ChangeShapes Go.WideShapes Go.ChangeAt Go.RowKit
set_option linter.unusedVariables false
set_option linter.unusedSimpArgs false
def altNs (a : Int × Int) : List Int := [a.1, a.2]
def itNs (x : Itm) : List Int := [x.id, x.kind, x.frames, x.sponsor, x.rating]
def bkNs (x : Bkg) : List Int := [x.id, x.item, x.region, x.from_, x.to_, x.until_, x.price]
def clNs (x : Cls) : List Int := [x.kind, x.item, x.from_, x.to_, x.regions, x.n, x.a, x.b]
def enNs (x : Ent) : List Int := [x.id, x.item, x.frames, x.earliest, x.latest, x.booking] ++ (((x.al.length : Nat) : Int) :: x.al.flatMap altNs)
def rowF {α : Type} (k : Nat) (cs : α → Array Value) (A : Option Addr) (l : List α) : FK := ⟨rowFp l.length A, fun w => IsRow k cs w A l⟩
theorem rowF_ok {α : Type} (k : Nat) (cs : α → Array Value) (A : Option Addr) (l : List α) : (rowF k cs A l).ok := fun _ _ h hk hs => IsRow.keep h hk hs
def enF (A : Option Addr) (l : List Ent) : FK := ⟨enFp A l, fun w => IsEn w A l⟩
theorem enF_ok (A : Option Addr) (l : List Ent) : (enF A l).ok := fun _ _ h hk hs => IsEn.keep h hk hs
theorem Hp.keepV {w : World} {base b : Nat} {v : Value} {bs : List UInt8} {K : List FK} (H : Hp w w [bldV w.heap.size base b v v bs] K) (p : FK) (hp : p.F w) (hok : p.ok) (hlt : ∀ k, p.fp k → k < w.heap.size) (hn : ∀ k, p.fp k → ¬ (bldW base b v bs).fp k) : Hp w w [bldV w.heap.size base b v v bs] (p :: K) :=
 H.keepF p hp hok fun k hk => ⟨hlt k hk, fun x hx hxk => by
  rcases List.mem_singleton.1 hx with rfl
  refine hn k hk ?_
  rcases hxk with h | h | h
  ·exact .inl h
  ·exact .inr h
  ·exact .inr h⟩
theorem box_int {w : World} {sb t i : Nat} {zs : List Int} {z : Int} (h : Box w sb t (zs.map (Value.int .i64)).toArray) (hz : zs[i]? = some z) : w.cell? ⟨sb, 0 + i * 1, none⟩ = some (.int .i64 z) := by
 refine h.cell ?_
 rw [Nat.zero_add, Nat.mul_one]
 simp [hz]
theorem put_len {bs : List UInt8} {zs : List Int} {i : Nat} {z : Int} (hlen : bs.length + 9 * zs.length ≤ 100000000000000) : (bs ++ encInts (zs.take i)).length + (encInt z).length ≤ 140737488355328 := by
 have h1 := encInts_len (zs.take i)
 have h2 : (zs.take i).length ≤ zs.length := by rw [List.length_take]; omega
 have h3 := (encInt_len z).2
 rw [List.length_append]
 omega
theorem put_snoc {bs : List UInt8} {zs : List Int} {i : Nat} {z : Int} (hz : zs[i]? = some z) : bs ++ encInts (zs.take (i + 1)) = bs ++ encInts (zs.take i) ++ encInt z := by
 rw [take_snoc hz, encInts_append, encInts_one, List.append_assoc]
theorem one_mem {z : Int} (h : -wmax ≤ z ∧ z ≤ wmax) : ∀ y ∈ [z], -wmax ≤ y ∧ y ≤ wmax := fun y hy => by rcases List.mem_singleton.1 hy with rfl; exact h
theorem one_len {bs : List UInt8} {z : Int} {zs : List Int} (h : bs.length + 9 * (z :: zs).length ≤ 100000000000000) : bs.length + 9 * [z].length ≤ 100000000000000 := by
 simp only [List.length_cons, List.length_nil] at *; omega
theorem wr_len {α : Type} {f : α → List Int} {l : List α} {i : Nat} {x : α} {n : Int} {bs : List UInt8} (hx : l[i]? = some x) (h : bs.length + 9 * (n :: l.flatMap f).length ≤ 100000000000000) : (bs ++ encInts (n :: (l.take i).flatMap f)).length + 9 * (f x).length ≤ 100000000000000 := by
 have h1 := encInts_len (n :: (l.take i).flatMap f)
 have h2 : ((l.take i).flatMap f).length + (f x).length ≤ (l.flatMap f).length := by
  have h3 : (l.take (i + 1)).flatMap f = (l.take i).flatMap f ++ f x := by rw [take_snoc hx, List.flatMap_append]; simp
  have h4 : l.flatMap f = (l.take (i + 1)).flatMap f ++ (l.drop (i + 1)).flatMap f := by rw [← List.flatMap_append, List.take_append_drop]
  rw [h4, h3]
  simp only [List.length_append]
  omega
 simp only [List.length_append, List.length_cons] at *
 omega
theorem wr_snoc {α : Type} {f : α → List Int} {l : List α} {i : Nat} {x : α} {n : Int} {bs : List UInt8} (hx : l[i]? = some x) : bs ++ encInts (n :: (l.take (i + 1)).flatMap f) = bs ++ encInts (n :: (l.take i).flatMap f) ++ encInts (f x) := by
 rw [List.append_assoc, ← encInts_append, take_snoc hx, List.flatMap_append]
 simp
theorem app_len {bs : List UInt8} {xs ys : List Int} (h : bs.length + 9 * (xs ++ ys).length ≤ 100000000000000) : (bs ++ encInts xs).length + 9 * ys.length ≤ 100000000000000 := by
 have h1 := encInts_len xs
 simp only [List.length_append] at *
 omega
theorem put_any (base b : Nat) (v : Value) (bs : List UInt8) (sb : Nat) (zs : List Int) (w : World) (h : (bldW base b v bs).F w) (hsb : Box w sb 3 (zs.map (Value.int .i64)).toArray) (hns : ∀ k, k = sb → ¬ (bldW base b v bs).fp k) (hzs : ∀ z ∈ zs, -wmax ≤ z ∧ z ≤ wmax) (hlen : bs.length + 9 * zs.length ≤ 100000000000000) : Calls Tryz.prog 81 #[.pointer (some ⟨b, 0, none⟩), .slice (some ⟨sb, 0, none⟩) zs.length zs.length] w (PutPost base b v bs zs w) := by
 have HP : Hp w w [bldV w.heap.size base b v v (bs ++ encInts (zs.take 0))] [boxK sb 3 (zs.map (Value.int .i64))] := by
  rw [show bs ++ encInts (zs.take 0) = bs from List.append_nil _]
  exact (Hp.ownV h).keepV (boxK sb 3 (zs.map (Value.int .i64))) hsb (boxK_ok _ _ _) (fun k hk => by cases hk; exact hsb.lt) hns
 refine w_enter 28 [(0, (pt b 0)), (1, (.slice (some ⟨sb, 0, none⟩) zs.length zs.length))] Tryz.func81 rfl Tryz.ntmps81 (by kernel_rfl) (by kernel_rfl) fun a H => ?_
 refine sq (rg ?_)
 refine H.v 8 (.slice (some ⟨sb, 0, none⟩) zs.length zs.length) fun a H => H.v 9 (ii zs.length) fun a H => H.v 10 (ii 0) fun a H => ?_
 refine nl (tn (bk ?_))
 refine w_loop (fun mm a wv => ∃ (i : Nat), ∃ (vv : Value), zs.length - i = mm ∧ Sl 28 [(10, (ii i)), (9, (ii zs.length)), (8, (.slice (some ⟨sb, 0, none⟩) zs.length zs.length)), (0, (pt b 0)), (1, (.slice (some ⟨sb, 0, none⟩) zs.length zs.length))] a ∧ Hp w wv [(bldV w.heap.size base b v vv (bs ++ encInts (zs.take i)))] [boxK sb 3 (zs.map (Value.int .i64))] ∧ (i ≤ zs.length)) (zs.length - 0) ?_ ?_
 ·exact ⟨0, v, (by omega), H.keep (by kernel_rfl), HP, (Nat.zero_le _)⟩
 rintro mm a w_1 ⟨i, vv, hmeas, H, HP, hib⟩
 refine sq (rg ?_)
 refine H.v 11 (.bool (decide ((i : Int) < (zs.length : Int)))) fun a H => ?_
 refine nl (tn (sq ?_))
 refine w_if H rfl (fun g11 => ?_) (fun g11 => ?_)
 ·have g11p := of_decide_eq_true g11
  refine sk (tn (sq (bk (sq ?_))))
  obtain ⟨z, hz⟩ : ∃ z, zs[i]? = some z := ⟨_, List.getElem?_eq_getElem (by omega)⟩
  obtain ⟨z1, z2⟩ := hzs z (List.mem_of_getElem? hz)
  refine rg ?_
  refine H.u 12 (.pointer (some ⟨sb, 0 + i * 1, none⟩)) (ex_index (b := sb) (off := 0) (len := zs.length) (cap := zs.length) (e := 3) (k := 1) (ik := .i64) (i := (i : Int)) (m := i) (by kernel_rfl) (by kernel_rfl) (by omega) (by omega) (by kernel_rfl) (by kernel_rfl)) fun a H => H.u 13 (ii z) (ex_l1 (box_int (HP.fact 0 rfl) hz)) fun a H => H.v 5 (ii z) fun a H => ?_
  refine nl (tn (sq (rg ?_)))
  refine H.v 15 (ii z) fun a H => H.cb HP 16 (Tryz.call125 _ _) (wputI_any z w_1 z1 z2) fun w_2 hb a H HP => H.v 14 (.tuple #[(.string (bstr (encInt z))), (ii 0)]) fun a H => H.v 17 (.string (bstr (encInt z))) fun a H => H.v 18 (ii 0) fun a H => H.v 6 (.string (bstr (encInt z))) fun a H => H.v 7 (ii 0) fun a H => ?_
  refine nl (tn (sq (sq (rg ?_))))
  refine H.v 19 (ii 0) fun a H => H.v 20 (.bool false) fun a H => ?_
  refine nl (tn ?_)
  refine w_iff H rfl ?_
  refine sk (tn (rg ?_))
  refine H.v 22 (pt b 0) fun a H => H.v 23 (pt b 0) fun a H => H.v 24 (pt b 0) fun a H => H.v 25 (.string (bstr (encInt z))) fun a H => ?_
  refine H.cl 26 (Tryz.call126 _ _) (writeW_any base b vv (bs ++ encInts (zs.take i)) (encInt z) w_2 (HP.held 0 rfl).1 (put_len hlen) (HP.baseV 0 rfl)) ?_
  rintro e w_3 ⟨rfl, v2, hF, hag, hv⟩
  refine ⟨_, rfl, ?_⟩
  intro a H
  have HP := HP.putV 0 rfl _ rfl hF hag hv
  refine nl (ibn (tn (rg ?_)))
  refine H.valE 27 (ii (IntKind.i64.wrap ((i : Int) + 1))) (ii ((i : Int) + 1)) (by kernel_rfl) (by kernel_rfl) ((by rw [wrap_ini64 _ (by omega)])) fun a H => H.v 10 (ii ((i : Int) + 1)) fun a H => ?_
  refine nl (tn ?_)
  have H := H.as 10 (ii ((i + 1 : Nat) : Int)) rfl rfl
  refine ⟨_, ?_, i + 1, v2, rfl, H.keep (by kernel_rfl), (by rw [put_snoc hz]; exact HP), (by omega)⟩
  omega
 have g11p := of_decide_eq_false g11
 refine wp_exit (then_exit (then_exit ?_))
 refine w_exit_here ?_
 refine H.end0 (fn := Tryz.f81) Tryz.results81  ?_
 exact HP.endV 0 rfl (by rw [List.take_of_length_le (by omega)]) (by simp [bx])
theorem cloS_any (base b : Nat) (v : Value) (bs : List UInt8) (br : Nat) (x : Int × Int) (w : World) (h : (bldW base b v bs).F w) (hbr : Box w br 125 #[.pointer (some ⟨b, 0, none⟩)]) (hns : ∀ k, k = br → ¬ (bldW base b v bs).fp k) (hz : ∀ z ∈ altNs x, -wmax ≤ z ∧ z ≤ wmax) (hlen : bs.length + 9 * (altNs x).length ≤ 100000000000000) : Calls Tryz.prog 83 #[(alV x), .pointer (some ⟨br, 0, none⟩)] w (PutPost base b v bs (altNs x) w) := by
 have HP : Hp w w [bldV w.heap.size base b v v bs] [boxK br 125 [.pointer (some ⟨b, 0, none⟩)]] := (Hp.ownV h).keepV (boxK br 125 [.pointer (some ⟨b, 0, none⟩)]) hbr (boxK_ok _ _ _) (fun k hk => by cases hk; exact hbr.lt) hns
 refine w_enter 10 [(0, (alV x)), (1, (pt br 0))] Tryz.func83 rfl Tryz.ntmps83 (by kernel_rfl) (by kernel_rfl) fun a H => ?_
 refine sq (rg ?_)
 refine H.al HP 2 76 (alL x) fun b_1 w_2 a H HP => ?_
 refine nl (tn (rg ?_))
 refine H.u 3 (pt b 0) (ex_l1 ((HP.fact 0 rfl : Box _ br 125 _).cell (i := 0) rfl)) fun a H => H.v 4 (pt b_1 0) fun a H => H.u 5 (ii x.1) (ex_l1 (HP.cell 0 rfl 0 rfl)) fun a H => H.v 6 (pt b_1 1) fun a H => H.u 7 (ii x.2) (ex_l1 (HP.cell 0 rfl 1 rfl)) fun a H => H.alloc HP 8 (fun b => (.slice (some ⟨b, 0, none⟩) 2 2)) 3 (alL x) (by kernel_rfl) (fun w => by kernel_rfl) fun b_3 w_4 a H HP => ?_
 refine H.cl 9 (Tryz.call81 _ _) (put_any base b v bs b_3 [x.1, x.2] w_4 (HP.held 2 rfl).1 (HP.at_ 0 rfl) (fun k hk => HP.notBld 2 0 rfl rfl (by decide) k hk) hz hlen) ?_
 rintro e w_9 ⟨rfl, v_5, hF_6, hag_7, hv_8⟩
 refine ⟨_, rfl, ?_⟩
 intro a H
 have HP := HP.putV 2 rfl _ rfl hF_6 hag_7 hv_8
 refine nl ?_
 refine H.end0 (fn := Tryz.f83) Tryz.results83  ?_
 exact HP.endV 2 rfl (rfl) (by simp [bx])
theorem cloI_any (base b : Nat) (v : Value) (bs : List UInt8) (br : Nat) (x : Itm) (w : World) (h : (bldW base b v bs).F w) (hbr : Box w br 125 #[.pointer (some ⟨b, 0, none⟩)]) (hns : ∀ k, k = br → ¬ (bldW base b v bs).fp k) (hz : ∀ z ∈ itNs x, -wmax ≤ z ∧ z ≤ wmax) (hlen : bs.length + 9 * (itNs x).length ≤ 100000000000000) : Calls Tryz.prog 85 #[(itV x), .pointer (some ⟨br, 0, none⟩)] w (PutPost base b v bs (itNs x) w) := by
 have HP : Hp w w [bldV w.heap.size base b v v bs] [boxK br 125 [.pointer (some ⟨b, 0, none⟩)]] := (Hp.ownV h).keepV (boxK br 125 [.pointer (some ⟨b, 0, none⟩)]) hbr (boxK_ok _ _ _) (fun k hk => by cases hk; exact hbr.lt) hns
 refine w_enter 16 [(0, (itV x)), (1, (pt br 0))] Tryz.func85 rfl Tryz.ntmps85 (by kernel_rfl) (by kernel_rfl) fun a H => ?_
 refine sq (rg ?_)
 refine H.al HP 2 38 (itL x) fun b_1 w_2 a H HP => ?_
 refine nl (tn (rg ?_))
 refine H.u 3 (pt b 0) (ex_l1 ((HP.fact 0 rfl : Box _ br 125 _).cell (i := 0) rfl)) fun a H => H.v 4 (pt b_1 0) fun a H => H.u 5 (ii x.id) (ex_l1 (HP.cell 0 rfl 0 rfl)) fun a H => H.v 6 (pt b_1 1) fun a H => H.u 7 (ii x.kind) (ex_l1 (HP.cell 0 rfl 1 rfl)) fun a H => H.v 8 (pt b_1 2) fun a H => H.u 9 (ii x.frames) (ex_l1 (HP.cell 0 rfl 2 rfl)) fun a H => H.v 10 (pt b_1 3) fun a H => H.u 11 (ii x.sponsor) (ex_l1 (HP.cell 0 rfl 3 rfl)) fun a H => H.v 12 (pt b_1 4) fun a H => H.u 13 (ii x.rating) (ex_l1 (HP.cell 0 rfl 4 rfl)) fun a H => H.alloc HP 14 (fun b => (.slice (some ⟨b, 0, none⟩) 5 5)) 3 (itL x) (by kernel_rfl) (fun w => by kernel_rfl) fun b_3 w_4 a H HP => ?_
 refine H.cl 15 (Tryz.call81 _ _) (put_any base b v bs b_3 [x.id, x.kind, x.frames, x.sponsor, x.rating] w_4 (HP.held 2 rfl).1 (HP.at_ 0 rfl) (fun k hk => HP.notBld 2 0 rfl rfl (by decide) k hk) hz hlen) ?_
 rintro e w_9 ⟨rfl, v_5, hF_6, hag_7, hv_8⟩
 refine ⟨_, rfl, ?_⟩
 intro a H
 have HP := HP.putV 2 rfl _ rfl hF_6 hag_7 hv_8
 refine nl ?_
 refine H.end0 (fn := Tryz.f85) Tryz.results85  ?_
 exact HP.endV 2 rfl (rfl) (by simp [bx])
theorem cloA_any (base b : Nat) (v : Value) (bs : List UInt8) (br : Nat) (x : Int × Int) (w : World) (h : (bldW base b v bs).F w) (hbr : Box w br 125 #[.pointer (some ⟨b, 0, none⟩)]) (hns : ∀ k, k = br → ¬ (bldW base b v bs).fp k) (hz : ∀ z ∈ altNs x, -wmax ≤ z ∧ z ≤ wmax) (hlen : bs.length + 9 * (altNs x).length ≤ 100000000000000) : Calls Tryz.prog 89 #[(alV x), .pointer (some ⟨br, 0, none⟩)] w (PutPost base b v bs (altNs x) w) := by
 have HP : Hp w w [bldV w.heap.size base b v v bs] [boxK br 125 [.pointer (some ⟨b, 0, none⟩)]] := (Hp.ownV h).keepV (boxK br 125 [.pointer (some ⟨b, 0, none⟩)]) hbr (boxK_ok _ _ _) (fun k hk => by cases hk; exact hbr.lt) hns
 refine w_enter 10 [(0, (alV x)), (1, (pt br 0))] Tryz.func89 rfl Tryz.ntmps89 (by kernel_rfl) (by kernel_rfl) fun a H => ?_
 refine sq (rg ?_)
 refine H.al HP 2 62 (alL x) fun b_1 w_2 a H HP => ?_
 refine nl (tn (rg ?_))
 refine H.u 3 (pt b 0) (ex_l1 ((HP.fact 0 rfl : Box _ br 125 _).cell (i := 0) rfl)) fun a H => H.v 4 (pt b_1 0) fun a H => H.u 5 (ii x.1) (ex_l1 (HP.cell 0 rfl 0 rfl)) fun a H => H.v 6 (pt b_1 1) fun a H => H.u 7 (ii x.2) (ex_l1 (HP.cell 0 rfl 1 rfl)) fun a H => H.alloc HP 8 (fun b => (.slice (some ⟨b, 0, none⟩) 2 2)) 3 (alL x) (by kernel_rfl) (fun w => by kernel_rfl) fun b_3 w_4 a H HP => ?_
 refine H.cl 9 (Tryz.call81 _ _) (put_any base b v bs b_3 [x.1, x.2] w_4 (HP.held 2 rfl).1 (HP.at_ 0 rfl) (fun k hk => HP.notBld 2 0 rfl rfl (by decide) k hk) hz hlen) ?_
 rintro e w_9 ⟨rfl, v_5, hF_6, hag_7, hv_8⟩
 refine ⟨_, rfl, ?_⟩
 intro a H
 have HP := HP.putV 2 rfl _ rfl hF_6 hag_7 hv_8
 refine nl ?_
 refine H.end0 (fn := Tryz.f89) Tryz.results89  ?_
 exact HP.endV 2 rfl (rfl) (by simp [bx])
theorem cloB_any (base b : Nat) (v : Value) (bs : List UInt8) (br : Nat) (x : Bkg) (w : World) (h : (bldW base b v bs).F w) (hbr : Box w br 125 #[.pointer (some ⟨b, 0, none⟩)]) (hns : ∀ k, k = br → ¬ (bldW base b v bs).fp k) (hz : ∀ z ∈ bkNs x, -wmax ≤ z ∧ z ≤ wmax) (hlen : bs.length + 9 * (bkNs x).length ≤ 100000000000000) : Calls Tryz.prog 91 #[(bkV x), .pointer (some ⟨br, 0, none⟩)] w (PutPost base b v bs (bkNs x) w) := by
 have HP : Hp w w [bldV w.heap.size base b v v bs] [boxK br 125 [.pointer (some ⟨b, 0, none⟩)]] := (Hp.ownV h).keepV (boxK br 125 [.pointer (some ⟨b, 0, none⟩)]) hbr (boxK_ok _ _ _) (fun k hk => by cases hk; exact hbr.lt) hns
 refine w_enter 20 [(0, (bkV x)), (1, (pt br 0))] Tryz.func91 rfl Tryz.ntmps91 (by kernel_rfl) (by kernel_rfl) fun a H => ?_
 refine sq (rg ?_)
 refine H.al HP 2 47 (bkL x) fun b_1 w_2 a H HP => ?_
 refine nl (tn (rg ?_))
 refine H.u 3 (pt b 0) (ex_l1 ((HP.fact 0 rfl : Box _ br 125 _).cell (i := 0) rfl)) fun a H => H.v 4 (pt b_1 0) fun a H => H.u 5 (ii x.id) (ex_l1 (HP.cell 0 rfl 0 rfl)) fun a H => H.v 6 (pt b_1 1) fun a H => H.u 7 (ii x.item) (ex_l1 (HP.cell 0 rfl 1 rfl)) fun a H => H.v 8 (pt b_1 2) fun a H => H.u 9 (ii x.region) (ex_l1 (HP.cell 0 rfl 2 rfl)) fun a H => H.v 10 (pt b_1 3) fun a H => H.u 11 (ii x.from_) (ex_l1 (HP.cell 0 rfl 3 rfl)) fun a H => H.v 12 (pt b_1 4) fun a H => H.u 13 (ii x.to_) (ex_l1 (HP.cell 0 rfl 4 rfl)) fun a H => H.v 14 (pt b_1 5) fun a H => H.u 15 (ii x.until_) (ex_l1 (HP.cell 0 rfl 5 rfl)) fun a H => H.v 16 (pt b_1 6) fun a H => H.u 17 (ii x.price) (ex_l1 (HP.cell 0 rfl 6 rfl)) fun a H => H.alloc HP 18 (fun b => (.slice (some ⟨b, 0, none⟩) 7 7)) 3 (bkL x) (by kernel_rfl) (fun w => by kernel_rfl) fun b_3 w_4 a H HP => ?_
 refine H.cl 19 (Tryz.call81 _ _) (put_any base b v bs b_3 [x.id, x.item, x.region, x.from_, x.to_, x.until_, x.price] w_4 (HP.held 2 rfl).1 (HP.at_ 0 rfl) (fun k hk => HP.notBld 2 0 rfl rfl (by decide) k hk) hz hlen) ?_
 rintro e w_9 ⟨rfl, v_5, hF_6, hag_7, hv_8⟩
 refine ⟨_, rfl, ?_⟩
 intro a H
 have HP := HP.putV 2 rfl _ rfl hF_6 hag_7 hv_8
 refine nl ?_
 refine H.end0 (fn := Tryz.f91) Tryz.results91  ?_
 exact HP.endV 2 rfl (rfl) (by simp [bx])
theorem cloC_any (base b : Nat) (v : Value) (bs : List UInt8) (br : Nat) (x : Cls) (w : World) (h : (bldW base b v bs).F w) (hbr : Box w br 125 #[.pointer (some ⟨b, 0, none⟩)]) (hns : ∀ k, k = br → ¬ (bldW base b v bs).fp k) (hz : ∀ z ∈ clNs x, -wmax ≤ z ∧ z ≤ wmax) (hlen : bs.length + 9 * (clNs x).length ≤ 100000000000000) : Calls Tryz.prog 93 #[(clV x), .pointer (some ⟨br, 0, none⟩)] w (PutPost base b v bs (clNs x) w) := by
 have HP : Hp w w [bldV w.heap.size base b v v bs] [boxK br 125 [.pointer (some ⟨b, 0, none⟩)]] := (Hp.ownV h).keepV (boxK br 125 [.pointer (some ⟨b, 0, none⟩)]) hbr (boxK_ok _ _ _) (fun k hk => by cases hk; exact hbr.lt) hns
 refine w_enter 22 [(0, (clV x)), (1, (pt br 0))] Tryz.func93 rfl Tryz.ntmps93 (by kernel_rfl) (by kernel_rfl) fun a H => ?_
 refine sq (rg ?_)
 refine H.al HP 2 73 (clL x) fun b_1 w_2 a H HP => ?_
 refine nl (tn (rg ?_))
 refine H.u 3 (pt b 0) (ex_l1 ((HP.fact 0 rfl : Box _ br 125 _).cell (i := 0) rfl)) fun a H => H.v 4 (pt b_1 0) fun a H => H.u 5 (ii x.kind) (ex_l1 (HP.cell 0 rfl 0 rfl)) fun a H => H.v 6 (pt b_1 1) fun a H => H.u 7 (ii x.item) (ex_l1 (HP.cell 0 rfl 1 rfl)) fun a H => H.v 8 (pt b_1 2) fun a H => H.u 9 (ii x.from_) (ex_l1 (HP.cell 0 rfl 2 rfl)) fun a H => H.v 10 (pt b_1 3) fun a H => H.u 11 (ii x.to_) (ex_l1 (HP.cell 0 rfl 3 rfl)) fun a H => H.v 12 (pt b_1 4) fun a H => H.u 13 (ii x.regions) (ex_l1 (HP.cell 0 rfl 4 rfl)) fun a H => H.v 14 (pt b_1 5) fun a H => H.u 15 (ii x.n) (ex_l1 (HP.cell 0 rfl 5 rfl)) fun a H => H.v 16 (pt b_1 6) fun a H => H.u 17 (ii x.a) (ex_l1 (HP.cell 0 rfl 6 rfl)) fun a H => H.v 18 (pt b_1 7) fun a H => ?_
 refine H.u 19 (ii x.b) (ex_l1 (HP.cell 0 rfl 7 rfl)) fun a H => H.alloc HP 20 (fun b => (.slice (some ⟨b, 0, none⟩) 8 8)) 3 (clL x) (by kernel_rfl) (fun w => by kernel_rfl) fun b_3 w_4 a H HP => ?_
 refine H.cl 21 (Tryz.call81 _ _) (put_any base b v bs b_3 [x.kind, x.item, x.from_, x.to_, x.regions, x.n, x.a, x.b] w_4 (HP.held 2 rfl).1 (HP.at_ 0 rfl) (fun k hk => HP.notBld 2 0 rfl rfl (by decide) k hk) hz hlen) ?_
 rintro e w_9 ⟨rfl, v_5, hF_6, hag_7, hv_8⟩
 refine ⟨_, rfl, ?_⟩
 intro a H
 have HP := HP.putV 2 rfl _ rfl hF_6 hag_7 hv_8
 refine nl ?_
 refine H.end0 (fn := Tryz.f93) Tryz.results93  ?_
 exact HP.endV 2 rfl (rfl) (by simp [bx])
theorem writeS_any (base b : Nat) (v : Value) (bs : List UInt8) (br : Nat) (A : Option Addr) (c : Nat) (l : List (Int × Int)) (w : World) (h : (bldW base b v bs).F w) (hbr : Box w br 125 #[.pointer (some ⟨b, 0, none⟩)]) (hns : ∀ k, k = br → ¬ (bldW base b v bs).fp k) (hr : IsAl w A l) (hnr : ∀ k, rowFp l.length A k → ¬ (bldW base b v bs).fp k) (hl : l.length ≤ maxLen) (hz : ∀ z ∈ (l.length : Int) :: l.flatMap altNs, -wmax ≤ z ∧ z ≤ wmax) (hlen : bs.length + 9 * ((l.length : Int) :: l.flatMap altNs).length ≤ 100000000000000) : Calls Tryz.prog 82 #[.pointer (some ⟨b, 0, none⟩), .slice A l.length c, .func (.func 83) #[] #[.pointer (some ⟨br, 0, none⟩)]] w (PutPost base b v bs ((l.length : Int) :: l.flatMap altNs) w) := by
 unfold maxLen at hl
 have HP : Hp w w [bldV w.heap.size base b v v bs] [rowF 2 altC A l, boxK br 125 [.pointer (some ⟨b, 0, none⟩)]] := ((Hp.ownV h).keepV (boxK br 125 [.pointer (some ⟨b, 0, none⟩)]) hbr (boxK_ok _ _ _) (fun k hk => by cases hk; exact hbr.lt) hns).keepV (rowF 2 altC A l) hr (rowF_ok _ _ _ _) (fun k hk => hr.lt k hk) hnr
 refine w_enter 23 [(0, (pt b 0)), (1, (.slice A l.length c)), (2, (.func (.func 83) #[] #[(pt br 0)]))] Tryz.func82 rfl Tryz.ntmps82 (by kernel_rfl) (by kernel_rfl) fun a H => ?_
 refine sq (rg ?_)
 refine H.v 8 (pt b 0) fun a H => H.v 9 (.slice A l.length c) fun a H => H.v 10 (ii l.length) fun a H => H.alloc HP 11 (fun b => (.slice (some ⟨b, 0, none⟩) 1 1)) 3 [(ii l.length)] (by kernel_rfl) (fun w => by kernel_rfl) fun b_1 w_2 a H HP => ?_
 refine H.cl 12 (Tryz.call81 _ _) (put_any base b v bs b_1 [(l.length : Int)] w_2 (HP.held 1 rfl).1 (HP.at_ 0 rfl) (fun k hk => HP.notBld 1 0 rfl rfl (by decide) k hk) (one_mem (hz _ (List.mem_cons_self ..))) (one_len hlen)) ?_
 rintro e w_7 ⟨rfl, v_3, hF_4, hag_5, hv_6⟩
 refine ⟨_, rfl, ?_⟩
 intro a H
 have HP := HP.putV 1 rfl _ rfl hF_4 hag_5 hv_6
 refine nl ?_
 have HP := HP.tail rfl
 have HP : Hp w w_7 [(bldV w.heap.size base b v v_3 (bs ++ encInts ((l.length : Int) :: (l.take 0).flatMap altNs)))] [rowF 2 altC A l, boxK br 125 [.pointer (some ⟨b, 0, none⟩)]] := HP
 refine tn (sq (rg ?_))
 refine H.v 13 (.slice A l.length c) fun a H => H.v 14 (ii l.length) fun a H => H.v 15 (ii 0) fun a H => ?_
 refine nl (tn (bk ?_))
 refine w_loop (fun mm a wv => ∃ (i : Nat), ∃ (vv : Value), l.length - i = mm ∧ Sl 23 [(15, (ii i)), (14, (ii l.length)), (13, (.slice A l.length c)), (12, (.tuple #[])), (11, (.slice (some ⟨b_1, 0, none⟩) 1 1)), (10, (ii l.length)), (9, (.slice A l.length c)), (8, (pt b 0)), (0, (pt b 0)), (1, (.slice A l.length c)), (2, (.func (.func 83) #[] #[(pt br 0)]))] a ∧ Hp w wv [(bldV w.heap.size base b v vv (bs ++ encInts ((l.length : Int) :: (l.take i).flatMap altNs)))] [rowF 2 altC A l, boxK br 125 [.pointer (some ⟨b, 0, none⟩)]] ∧ (i ≤ l.length)) (l.length - 0) ?_ ?_
 ·exact ⟨0, v_3, (by omega), H.keep (by kernel_rfl), HP, (Nat.zero_le _)⟩
 rintro mm a w_8 ⟨i, vv, hmeas, H, HP, hib⟩
 refine sq (rg ?_)
 refine H.v 16 (.bool (decide ((i : Int) < (l.length : Int)))) fun a H => ?_
 refine nl (tn (sq ?_))
 refine w_if H rfl (fun g16 => ?_) (fun g16 => ?_)
 ·have g16p := of_decide_eq_true g16
  refine sk (tn (sq (bk (sq ?_))))
  obtain ⟨bu_10, ou_11, x_9, hA_12, _, hd_14, hx_13, hm_15, _⟩ := IsRow.get altC_size (HP.fact 0 rfl) (i := i) (by omega)
  refine rg ?_
  refine H.u 17 (.pointer (some ⟨bu_10, ou_11 + i * 2, none⟩)) (ex_indexA (b := bu_10) (off := ou_11) (len := l.length) (cap := c) (e := 76) (k := 2) (ik := .i64) (i := (i : Int)) (m := i) hA_12 (by kernel_rfl) (by kernel_rfl) (by omega) (by omega) (by kernel_rfl) (by kernel_rfl)) fun a H => H.u 18 (alV x_9) (ex_lN (alL x_9) (IsRow.cells altC_size (HP.fact 0 rfl) hA_12 hx_13)) fun a H => H.al HP 7 76 [(ii 0), (ii 0)] fun b_16 w_17 a H HP => H.st HP 0 b_16 0 2 76 true (alV x_9) [bx b_16 76 (alL x_9) true, (bldV w.heap.size base b v vv (bs ++ encInts ((l.length : Int) :: (l.take i).flatMap altNs)))] rfl fun w_18 a H HP => ?_
  refine nl (tn (rg ?_))
  refine H.v 19 (.func (.func 83) #[] #[(pt br 0)]) fun a H => H.u 20 (alV x_9) (ex_lN (alL x_9) (HP.cells 0 rfl 0 2 (by kernel_rfl))) fun a H => ?_
  refine H.cl 21 (Tryz.call83 _ _) (cloS_any base b vv (bs ++ encInts ((l.length : Int) :: (l.take i).flatMap altNs)) br x_9 w_18 (HP.held 1 rfl).1 (HP.fact 1 rfl) (fun k hk => HP.factBld 1 1 rfl rfl k hk) (fun z hz1 => hz z (List.mem_cons_of_mem _ (List.mem_flatMap.2 ⟨_, hm_15, hz1⟩))) (wr_len hx_13 hlen)) ?_
  rintro e w_23 ⟨rfl, v_19, hF_20, hag_21, hv_22⟩
  refine ⟨_, rfl, ?_⟩
  intro a H
  have HP := HP.putV 1 rfl _ rfl hF_20 hag_21 hv_22
  refine nl (ibn (tn (rg ?_)))
  refine H.valE 22 (ii (IntKind.i64.wrap ((i : Int) + 1))) (ii ((i : Int) + 1)) (by kernel_rfl) (by kernel_rfl) ((by rw [wrap_ini64 _ (by omega)])) fun a H => H.v 15 (ii ((i : Int) + 1)) fun a H => ?_
  refine nl (tn ?_)
  have H := H.as 15 (ii ((i + 1 : Nat) : Int)) rfl rfl
  refine ⟨_, ?_, i + 1, v_19, rfl, H.keep (by kernel_rfl), (by rw [wr_snoc hx_13]; exact (HP.tail rfl)), (by omega)⟩
  omega
 have g16p := of_decide_eq_false g16
 refine wp_exit (then_exit (then_exit ?_))
 refine w_exit_here ?_
 refine H.end0 (fn := Tryz.f82) Tryz.results82  ?_
 exact HP.endV 0 rfl (by rw [List.take_of_length_le (by omega)]) (by simp [bx])
theorem writeI_any (base b : Nat) (v : Value) (bs : List UInt8) (br : Nat) (A : Option Addr) (c : Nat) (l : List (Itm)) (w : World) (h : (bldW base b v bs).F w) (hbr : Box w br 125 #[.pointer (some ⟨b, 0, none⟩)]) (hns : ∀ k, k = br → ¬ (bldW base b v bs).fp k) (hr : IsIt w A l) (hnr : ∀ k, rowFp l.length A k → ¬ (bldW base b v bs).fp k) (hl : l.length ≤ maxLen) (hz : ∀ z ∈ (l.length : Int) :: l.flatMap itNs, -wmax ≤ z ∧ z ≤ wmax) (hlen : bs.length + 9 * ((l.length : Int) :: l.flatMap itNs).length ≤ 100000000000000) : Calls Tryz.prog 84 #[.pointer (some ⟨b, 0, none⟩), .slice A l.length c, .func (.func 85) #[] #[.pointer (some ⟨br, 0, none⟩)]] w (PutPost base b v bs ((l.length : Int) :: l.flatMap itNs) w) := by
 unfold maxLen at hl
 have HP : Hp w w [bldV w.heap.size base b v v bs] [rowF 5 itC A l, boxK br 125 [.pointer (some ⟨b, 0, none⟩)]] := ((Hp.ownV h).keepV (boxK br 125 [.pointer (some ⟨b, 0, none⟩)]) hbr (boxK_ok _ _ _) (fun k hk => by cases hk; exact hbr.lt) hns).keepV (rowF 5 itC A l) hr (rowF_ok _ _ _ _) (fun k hk => hr.lt k hk) hnr
 refine w_enter 23 [(0, (pt b 0)), (1, (.slice A l.length c)), (2, (.func (.func 85) #[] #[(pt br 0)]))] Tryz.func84 rfl Tryz.ntmps84 (by kernel_rfl) (by kernel_rfl) fun a H => ?_
 refine sq (rg ?_)
 refine H.v 8 (pt b 0) fun a H => H.v 9 (.slice A l.length c) fun a H => H.v 10 (ii l.length) fun a H => H.alloc HP 11 (fun b => (.slice (some ⟨b, 0, none⟩) 1 1)) 3 [(ii l.length)] (by kernel_rfl) (fun w => by kernel_rfl) fun b_1 w_2 a H HP => ?_
 refine H.cl 12 (Tryz.call81 _ _) (put_any base b v bs b_1 [(l.length : Int)] w_2 (HP.held 1 rfl).1 (HP.at_ 0 rfl) (fun k hk => HP.notBld 1 0 rfl rfl (by decide) k hk) (one_mem (hz _ (List.mem_cons_self ..))) (one_len hlen)) ?_
 rintro e w_7 ⟨rfl, v_3, hF_4, hag_5, hv_6⟩
 refine ⟨_, rfl, ?_⟩
 intro a H
 have HP := HP.putV 1 rfl _ rfl hF_4 hag_5 hv_6
 refine nl ?_
 have HP := HP.tail rfl
 have HP : Hp w w_7 [(bldV w.heap.size base b v v_3 (bs ++ encInts ((l.length : Int) :: (l.take 0).flatMap itNs)))] [rowF 5 itC A l, boxK br 125 [.pointer (some ⟨b, 0, none⟩)]] := HP
 refine tn (sq (rg ?_))
 refine H.v 13 (.slice A l.length c) fun a H => H.v 14 (ii l.length) fun a H => H.v 15 (ii 0) fun a H => ?_
 refine nl (tn (bk ?_))
 refine w_loop (fun mm a wv => ∃ (i : Nat), ∃ (vv : Value), l.length - i = mm ∧ Sl 23 [(15, (ii i)), (14, (ii l.length)), (13, (.slice A l.length c)), (12, (.tuple #[])), (11, (.slice (some ⟨b_1, 0, none⟩) 1 1)), (10, (ii l.length)), (9, (.slice A l.length c)), (8, (pt b 0)), (0, (pt b 0)), (1, (.slice A l.length c)), (2, (.func (.func 85) #[] #[(pt br 0)]))] a ∧ Hp w wv [(bldV w.heap.size base b v vv (bs ++ encInts ((l.length : Int) :: (l.take i).flatMap itNs)))] [rowF 5 itC A l, boxK br 125 [.pointer (some ⟨b, 0, none⟩)]] ∧ (i ≤ l.length)) (l.length - 0) ?_ ?_
 ·exact ⟨0, v_3, (by omega), H.keep (by kernel_rfl), HP, (Nat.zero_le _)⟩
 rintro mm a w_8 ⟨i, vv, hmeas, H, HP, hib⟩
 refine sq (rg ?_)
 refine H.v 16 (.bool (decide ((i : Int) < (l.length : Int)))) fun a H => ?_
 refine nl (tn (sq ?_))
 refine w_if H rfl (fun g16 => ?_) (fun g16 => ?_)
 ·have g16p := of_decide_eq_true g16
  refine sk (tn (sq (bk (sq ?_))))
  obtain ⟨bu_10, ou_11, x_9, hA_12, _, hd_14, hx_13, hm_15, _⟩ := IsRow.get itC_size (HP.fact 0 rfl) (i := i) (by omega)
  refine rg ?_
  refine H.u 17 (.pointer (some ⟨bu_10, ou_11 + i * 5, none⟩)) (ex_indexA (b := bu_10) (off := ou_11) (len := l.length) (cap := c) (e := 38) (k := 5) (ik := .i64) (i := (i : Int)) (m := i) hA_12 (by kernel_rfl) (by kernel_rfl) (by omega) (by omega) (by kernel_rfl) (by kernel_rfl)) fun a H => H.u 18 (itV x_9) (ex_lN (itL x_9) (IsRow.cells itC_size (HP.fact 0 rfl) hA_12 hx_13)) fun a H => H.al HP 7 38 [(ii 0), (ii 0), (ii 0), (ii 0), (ii 0)] fun b_16 w_17 a H HP => H.st HP 0 b_16 0 5 38 true (itV x_9) [bx b_16 38 (itL x_9) true, (bldV w.heap.size base b v vv (bs ++ encInts ((l.length : Int) :: (l.take i).flatMap itNs)))] rfl fun w_18 a H HP => ?_
  refine nl (tn (rg ?_))
  refine H.v 19 (.func (.func 85) #[] #[(pt br 0)]) fun a H => H.u 20 (itV x_9) (ex_lN (itL x_9) (HP.cells 0 rfl 0 5 (by kernel_rfl))) fun a H => ?_
  refine H.cl 21 (Tryz.call85 _ _) (cloI_any base b vv (bs ++ encInts ((l.length : Int) :: (l.take i).flatMap itNs)) br x_9 w_18 (HP.held 1 rfl).1 (HP.fact 1 rfl) (fun k hk => HP.factBld 1 1 rfl rfl k hk) (fun z hz1 => hz z (List.mem_cons_of_mem _ (List.mem_flatMap.2 ⟨_, hm_15, hz1⟩))) (wr_len hx_13 hlen)) ?_
  rintro e w_23 ⟨rfl, v_19, hF_20, hag_21, hv_22⟩
  refine ⟨_, rfl, ?_⟩
  intro a H
  have HP := HP.putV 1 rfl _ rfl hF_20 hag_21 hv_22
  refine nl (ibn (tn (rg ?_)))
  refine H.valE 22 (ii (IntKind.i64.wrap ((i : Int) + 1))) (ii ((i : Int) + 1)) (by kernel_rfl) (by kernel_rfl) ((by rw [wrap_ini64 _ (by omega)])) fun a H => H.v 15 (ii ((i : Int) + 1)) fun a H => ?_
  refine nl (tn ?_)
  have H := H.as 15 (ii ((i + 1 : Nat) : Int)) rfl rfl
  refine ⟨_, ?_, i + 1, v_19, rfl, H.keep (by kernel_rfl), (by rw [wr_snoc hx_13]; exact (HP.tail rfl)), (by omega)⟩
  omega
 have g16p := of_decide_eq_false g16
 refine wp_exit (then_exit (then_exit ?_))
 refine w_exit_here ?_
 refine H.end0 (fn := Tryz.f84) Tryz.results84  ?_
 exact HP.endV 0 rfl (by rw [List.take_of_length_le (by omega)]) (by simp [bx])
theorem writeA_any (base b : Nat) (v : Value) (bs : List UInt8) (br : Nat) (A : Option Addr) (c : Nat) (l : List (Int × Int)) (w : World) (h : (bldW base b v bs).F w) (hbr : Box w br 125 #[.pointer (some ⟨b, 0, none⟩)]) (hns : ∀ k, k = br → ¬ (bldW base b v bs).fp k) (hr : IsAl w A l) (hnr : ∀ k, rowFp l.length A k → ¬ (bldW base b v bs).fp k) (hl : l.length ≤ maxLen) (hz : ∀ z ∈ (l.length : Int) :: l.flatMap altNs, -wmax ≤ z ∧ z ≤ wmax) (hlen : bs.length + 9 * ((l.length : Int) :: l.flatMap altNs).length ≤ 100000000000000) : Calls Tryz.prog 88 #[.pointer (some ⟨b, 0, none⟩), .slice A l.length c, .func (.func 89) #[] #[.pointer (some ⟨br, 0, none⟩)]] w (PutPost base b v bs ((l.length : Int) :: l.flatMap altNs) w) := by
 unfold maxLen at hl
 have HP : Hp w w [bldV w.heap.size base b v v bs] [rowF 2 altC A l, boxK br 125 [.pointer (some ⟨b, 0, none⟩)]] := ((Hp.ownV h).keepV (boxK br 125 [.pointer (some ⟨b, 0, none⟩)]) hbr (boxK_ok _ _ _) (fun k hk => by cases hk; exact hbr.lt) hns).keepV (rowF 2 altC A l) hr (rowF_ok _ _ _ _) (fun k hk => hr.lt k hk) hnr
 refine w_enter 23 [(0, (pt b 0)), (1, (.slice A l.length c)), (2, (.func (.func 89) #[] #[(pt br 0)]))] Tryz.func88 rfl Tryz.ntmps88 (by kernel_rfl) (by kernel_rfl) fun a H => ?_
 refine sq (rg ?_)
 refine H.v 8 (pt b 0) fun a H => H.v 9 (.slice A l.length c) fun a H => H.v 10 (ii l.length) fun a H => H.alloc HP 11 (fun b => (.slice (some ⟨b, 0, none⟩) 1 1)) 3 [(ii l.length)] (by kernel_rfl) (fun w => by kernel_rfl) fun b_1 w_2 a H HP => ?_
 refine H.cl 12 (Tryz.call81 _ _) (put_any base b v bs b_1 [(l.length : Int)] w_2 (HP.held 1 rfl).1 (HP.at_ 0 rfl) (fun k hk => HP.notBld 1 0 rfl rfl (by decide) k hk) (one_mem (hz _ (List.mem_cons_self ..))) (one_len hlen)) ?_
 rintro e w_7 ⟨rfl, v_3, hF_4, hag_5, hv_6⟩
 refine ⟨_, rfl, ?_⟩
 intro a H
 have HP := HP.putV 1 rfl _ rfl hF_4 hag_5 hv_6
 refine nl ?_
 have HP := HP.tail rfl
 have HP : Hp w w_7 [(bldV w.heap.size base b v v_3 (bs ++ encInts ((l.length : Int) :: (l.take 0).flatMap altNs)))] [rowF 2 altC A l, boxK br 125 [.pointer (some ⟨b, 0, none⟩)]] := HP
 refine tn (sq (rg ?_))
 refine H.v 13 (.slice A l.length c) fun a H => H.v 14 (ii l.length) fun a H => H.v 15 (ii 0) fun a H => ?_
 refine nl (tn (bk ?_))
 refine w_loop (fun mm a wv => ∃ (i : Nat), ∃ (vv : Value), l.length - i = mm ∧ Sl 23 [(15, (ii i)), (14, (ii l.length)), (13, (.slice A l.length c)), (12, (.tuple #[])), (11, (.slice (some ⟨b_1, 0, none⟩) 1 1)), (10, (ii l.length)), (9, (.slice A l.length c)), (8, (pt b 0)), (0, (pt b 0)), (1, (.slice A l.length c)), (2, (.func (.func 89) #[] #[(pt br 0)]))] a ∧ Hp w wv [(bldV w.heap.size base b v vv (bs ++ encInts ((l.length : Int) :: (l.take i).flatMap altNs)))] [rowF 2 altC A l, boxK br 125 [.pointer (some ⟨b, 0, none⟩)]] ∧ (i ≤ l.length)) (l.length - 0) ?_ ?_
 ·exact ⟨0, v_3, (by omega), H.keep (by kernel_rfl), HP, (Nat.zero_le _)⟩
 rintro mm a w_8 ⟨i, vv, hmeas, H, HP, hib⟩
 refine sq (rg ?_)
 refine H.v 16 (.bool (decide ((i : Int) < (l.length : Int)))) fun a H => ?_
 refine nl (tn (sq ?_))
 refine w_if H rfl (fun g16 => ?_) (fun g16 => ?_)
 ·have g16p := of_decide_eq_true g16
  refine sk (tn (sq (bk (sq ?_))))
  obtain ⟨bu_10, ou_11, x_9, hA_12, _, hd_14, hx_13, hm_15, _⟩ := IsRow.get altC_size (HP.fact 0 rfl) (i := i) (by omega)
  refine rg ?_
  refine H.u 17 (.pointer (some ⟨bu_10, ou_11 + i * 2, none⟩)) (ex_indexA (b := bu_10) (off := ou_11) (len := l.length) (cap := c) (e := 62) (k := 2) (ik := .i64) (i := (i : Int)) (m := i) hA_12 (by kernel_rfl) (by kernel_rfl) (by omega) (by omega) (by kernel_rfl) (by kernel_rfl)) fun a H => H.u 18 (alV x_9) (ex_lN (alL x_9) (IsRow.cells altC_size (HP.fact 0 rfl) hA_12 hx_13)) fun a H => H.al HP 7 62 [(ii 0), (ii 0)] fun b_16 w_17 a H HP => H.st HP 0 b_16 0 2 62 true (alV x_9) [bx b_16 62 (alL x_9) true, (bldV w.heap.size base b v vv (bs ++ encInts ((l.length : Int) :: (l.take i).flatMap altNs)))] rfl fun w_18 a H HP => ?_
  refine nl (tn (rg ?_))
  refine H.v 19 (.func (.func 89) #[] #[(pt br 0)]) fun a H => H.u 20 (alV x_9) (ex_lN (alL x_9) (HP.cells 0 rfl 0 2 (by kernel_rfl))) fun a H => ?_
  refine H.cl 21 (Tryz.call89 _ _) (cloA_any base b vv (bs ++ encInts ((l.length : Int) :: (l.take i).flatMap altNs)) br x_9 w_18 (HP.held 1 rfl).1 (HP.fact 1 rfl) (fun k hk => HP.factBld 1 1 rfl rfl k hk) (fun z hz1 => hz z (List.mem_cons_of_mem _ (List.mem_flatMap.2 ⟨_, hm_15, hz1⟩))) (wr_len hx_13 hlen)) ?_
  rintro e w_23 ⟨rfl, v_19, hF_20, hag_21, hv_22⟩
  refine ⟨_, rfl, ?_⟩
  intro a H
  have HP := HP.putV 1 rfl _ rfl hF_20 hag_21 hv_22
  refine nl (ibn (tn (rg ?_)))
  refine H.valE 22 (ii (IntKind.i64.wrap ((i : Int) + 1))) (ii ((i : Int) + 1)) (by kernel_rfl) (by kernel_rfl) ((by rw [wrap_ini64 _ (by omega)])) fun a H => H.v 15 (ii ((i : Int) + 1)) fun a H => ?_
  refine nl (tn ?_)
  have H := H.as 15 (ii ((i + 1 : Nat) : Int)) rfl rfl
  refine ⟨_, ?_, i + 1, v_19, rfl, H.keep (by kernel_rfl), (by rw [wr_snoc hx_13]; exact (HP.tail rfl)), (by omega)⟩
  omega
 have g16p := of_decide_eq_false g16
 refine wp_exit (then_exit (then_exit ?_))
 refine w_exit_here ?_
 refine H.end0 (fn := Tryz.f88) Tryz.results88  ?_
 exact HP.endV 0 rfl (by rw [List.take_of_length_le (by omega)]) (by simp [bx])
theorem cloE_any (base b : Nat) (v : Value) (bs : List UInt8) (br : Nat) (x : Ent) (w : World) (h : (bldW base b v bs).F w) (hbr : Box w br 125 #[.pointer (some ⟨b, 0, none⟩)]) (hns : ∀ k, k = br → ¬ (bldW base b v bs).fp k) (hx : x.ok w) (hnx : ∀ k, x.fp k → ¬ (bldW base b v bs).fp k) (hz : ∀ z ∈ enNs x, -wmax ≤ z ∧ z ≤ wmax) (hlen : bs.length + 9 * (enNs x).length ≤ 100000000000000) : Calls Tryz.prog 87 #[(enV x), .pointer (some ⟨br, 0, none⟩)] w (PutPost base b v bs (enNs x) w) := by
 have HP : Hp w w [bldV w.heap.size base b v v bs] [rowF 2 altC x.A x.al, boxK br 125 [.pointer (some ⟨b, 0, none⟩)]] := ((Hp.ownV h).keepV (boxK br 125 [.pointer (some ⟨b, 0, none⟩)]) hbr (boxK_ok _ _ _) (fun k hk => by cases hk; exact hbr.lt) hns).keepV (rowF 2 altC x.A x.al) hx.1 (rowF_ok _ _ _ _) (fun k hk => hx.1.lt k hk) hnx
 refine w_enter 23 [(0, (enV x)), (1, (pt br 0))] Tryz.func87 rfl Tryz.ntmps87 (by kernel_rfl) (by kernel_rfl) fun a H => ?_
 refine sq (rg ?_)
 refine H.al HP 2 43 (enL x) fun b_1 w_2 a H HP => ?_
 refine nl (tn (sq (rg ?_)))
 refine H.u 3 (pt b 0) (ex_l1 ((HP.fact 1 rfl : Box _ br 125 _).cell (i := 0) rfl)) fun a H => H.v 4 (pt b_1 0) fun a H => H.u 5 (ii x.id) (ex_l1 (HP.cell 0 rfl 0 rfl)) fun a H => H.v 6 (pt b_1 1) fun a H => H.u 7 (ii x.item) (ex_l1 (HP.cell 0 rfl 1 rfl)) fun a H => H.v 8 (pt b_1 2) fun a H => H.u 9 (ii x.frames) (ex_l1 (HP.cell 0 rfl 2 rfl)) fun a H => H.v 10 (pt b_1 3) fun a H => H.u 11 (ii x.earliest) (ex_l1 (HP.cell 0 rfl 3 rfl)) fun a H => H.v 12 (pt b_1 4) fun a H => H.u 13 (ii x.latest) (ex_l1 (HP.cell 0 rfl 4 rfl)) fun a H => H.v 14 (pt b_1 5) fun a H => H.u 15 (ii x.booking) (ex_l1 (HP.cell 0 rfl 5 rfl)) fun a H => H.alloc HP 16 (fun b => (.slice (some ⟨b, 0, none⟩) 6 6)) 3 [(ii x.id), (ii x.item), (ii x.frames), (ii x.earliest), (ii x.latest), (ii x.booking)] (by kernel_rfl) (fun w => by kernel_rfl) fun b_3 w_4 a H HP => ?_
 refine H.cl 17 (Tryz.call81 _ _) (put_any base b v bs b_3 [x.id, x.item, x.frames, x.earliest, x.latest, x.booking] w_4 (HP.held 2 rfl).1 (HP.at_ 0 rfl) (fun k hk => HP.notBld 2 0 rfl rfl (by decide) k hk) (fun z hz1 => hz z (List.mem_append_left _ hz1)) (by simp only [enNs, List.length_append] at hlen; omega)) ?_
 rintro e w_9 ⟨rfl, v_5, hF_6, hag_7, hv_8⟩
 refine ⟨_, rfl, ?_⟩
 intro a H
 have HP := HP.putV 2 rfl _ rfl hF_6 hag_7 hv_8
 refine nl (tn (rg ?_))
 refine H.u 18 (pt b 0) (ex_l1 ((HP.fact 1 rfl : Box _ br 125 _).cell (i := 0) rfl)) fun a H => H.v 19 (pt b_1 6) fun a H => H.u 20 (.slice x.A x.al.length x.c) (ex_l1 (HP.cell 1 rfl 6 rfl)) fun a H => H.v 21 (.func (.func 89) #[] #[(pt br 0)]) fun a H => ?_
 refine H.cl 22 (Tryz.call88 _ _) (writeA_any base b v_5 (bs ++ encInts ([x.id, x.item, x.frames, x.earliest, x.latest, x.booking])) br x.A x.c x.al w_9 (HP.held 2 rfl).1 (HP.fact 1 rfl) (fun k hk => HP.factBld 2 1 rfl rfl k hk) (HP.fact 0 rfl : IsRow 2 altC _ x.A x.al) (fun k hk => HP.factBld 2 0 rfl rfl k hk) hx.2 (fun z hz1 => hz z (List.mem_append_right _ hz1)) (app_len hlen)) ?_
 rintro e w_14 ⟨rfl, v_10, hF_11, hag_12, hv_13⟩
 refine ⟨_, rfl, ?_⟩
 intro a H
 have HP := HP.putV 2 rfl _ rfl hF_11 hag_12 hv_13
 refine nl ?_
 refine H.end0 (fn := Tryz.f87) Tryz.results87  ?_
 exact HP.endV 2 rfl (by rw [List.append_assoc, ← encInts_append]; rfl) (by simp [bx])
theorem writeE_any (base b : Nat) (v : Value) (bs : List UInt8) (br : Nat) (A : Option Addr) (c : Nat) (l : List (Ent)) (w : World) (h : (bldW base b v bs).F w) (hbr : Box w br 125 #[.pointer (some ⟨b, 0, none⟩)]) (hns : ∀ k, k = br → ¬ (bldW base b v bs).fp k) (hr : IsEn w A l) (hnr : ∀ k, enFp A l k → ¬ (bldW base b v bs).fp k) (hl : l.length ≤ maxLen) (hz : ∀ z ∈ (l.length : Int) :: l.flatMap enNs, -wmax ≤ z ∧ z ≤ wmax) (hlen : bs.length + 9 * ((l.length : Int) :: l.flatMap enNs).length ≤ 100000000000000) : Calls Tryz.prog 86 #[.pointer (some ⟨b, 0, none⟩), .slice A l.length c, .func (.func 87) #[] #[.pointer (some ⟨br, 0, none⟩)]] w (PutPost base b v bs ((l.length : Int) :: l.flatMap enNs) w) := by
 unfold maxLen at hl
 have HP : Hp w w [bldV w.heap.size base b v v bs] [enF A l, boxK br 125 [.pointer (some ⟨b, 0, none⟩)]] := ((Hp.ownV h).keepV (boxK br 125 [.pointer (some ⟨b, 0, none⟩)]) hbr (boxK_ok _ _ _) (fun k hk => by cases hk; exact hbr.lt) hns).keepV (enF A l) hr (enF_ok _ _) (fun k hk => hr.lt k hk) hnr
 refine w_enter 23 [(0, (pt b 0)), (1, (.slice A l.length c)), (2, (.func (.func 87) #[] #[(pt br 0)]))] Tryz.func86 rfl Tryz.ntmps86 (by kernel_rfl) (by kernel_rfl) fun a H => ?_
 refine sq (rg ?_)
 refine H.v 8 (pt b 0) fun a H => H.v 9 (.slice A l.length c) fun a H => H.v 10 (ii l.length) fun a H => H.alloc HP 11 (fun b => (.slice (some ⟨b, 0, none⟩) 1 1)) 3 [(ii l.length)] (by kernel_rfl) (fun w => by kernel_rfl) fun b_1 w_2 a H HP => ?_
 refine H.cl 12 (Tryz.call81 _ _) (put_any base b v bs b_1 [(l.length : Int)] w_2 (HP.held 1 rfl).1 (HP.at_ 0 rfl) (fun k hk => HP.notBld 1 0 rfl rfl (by decide) k hk) (one_mem (hz _ (List.mem_cons_self ..))) (one_len hlen)) ?_
 rintro e w_7 ⟨rfl, v_3, hF_4, hag_5, hv_6⟩
 refine ⟨_, rfl, ?_⟩
 intro a H
 have HP := HP.putV 1 rfl _ rfl hF_4 hag_5 hv_6
 refine nl ?_
 have HP := HP.tail rfl
 have HP : Hp w w_7 [(bldV w.heap.size base b v v_3 (bs ++ encInts ((l.length : Int) :: (l.take 0).flatMap enNs)))] [enF A l, boxK br 125 [.pointer (some ⟨b, 0, none⟩)]] := HP
 refine tn (sq (rg ?_))
 refine H.v 13 (.slice A l.length c) fun a H => H.v 14 (ii l.length) fun a H => H.v 15 (ii 0) fun a H => ?_
 refine nl (tn (bk ?_))
 refine w_loop (fun mm a wv => ∃ (i : Nat), ∃ (vv : Value), l.length - i = mm ∧ Sl 23 [(15, (ii i)), (14, (ii l.length)), (13, (.slice A l.length c)), (12, (.tuple #[])), (11, (.slice (some ⟨b_1, 0, none⟩) 1 1)), (10, (ii l.length)), (9, (.slice A l.length c)), (8, (pt b 0)), (0, (pt b 0)), (1, (.slice A l.length c)), (2, (.func (.func 87) #[] #[(pt br 0)]))] a ∧ Hp w wv [(bldV w.heap.size base b v vv (bs ++ encInts ((l.length : Int) :: (l.take i).flatMap enNs)))] [enF A l, boxK br 125 [.pointer (some ⟨b, 0, none⟩)]] ∧ (i ≤ l.length)) (l.length - 0) ?_ ?_
 ·exact ⟨0, v_3, (by omega), H.keep (by kernel_rfl), HP, (Nat.zero_le _)⟩
 rintro mm a w_8 ⟨i, vv, hmeas, H, HP, hib⟩
 refine sq (rg ?_)
 refine H.v 16 (.bool (decide ((i : Int) < (l.length : Int)))) fun a H => ?_
 refine nl (tn (sq ?_))
 refine w_if H rfl (fun g16 => ?_) (fun g16 => ?_)
 ·have g16p := of_decide_eq_true g16
  refine sk (tn (sq (bk (sq ?_))))
  obtain ⟨bu_10, ou_11, x_9, hA_12, _, hd_14, hx_13, hm_15, _⟩ := IsRow.get enC_size (HP.fact 0 rfl : IsEn _ A l).row (i := i) (by omega)
  refine rg ?_
  refine H.u 17 (.pointer (some ⟨bu_10, ou_11 + i * 7, none⟩)) (ex_indexA (b := bu_10) (off := ou_11) (len := l.length) (cap := c) (e := 43) (k := 7) (ik := .i64) (i := (i : Int)) (m := i) hA_12 (by kernel_rfl) (by kernel_rfl) (by omega) (by omega) (by kernel_rfl) (by kernel_rfl)) fun a H => H.u 18 (enV x_9) (ex_lN (enL x_9) (IsRow.cells enC_size (HP.fact 0 rfl : IsEn _ A l).row hA_12 hx_13)) fun a H => H.al HP 7 43 [(ii 0), (ii 0), (ii 0), (ii 0), (ii 0), (ii 0), (.slice none 0 0)] fun b_16 w_17 a H HP => H.st HP 0 b_16 0 7 43 true (enV x_9) [bx b_16 43 (enL x_9) true, (bldV w.heap.size base b v vv (bs ++ encInts ((l.length : Int) :: (l.take i).flatMap enNs)))] rfl fun w_18 a H HP => ?_
  refine nl (tn (rg ?_))
  refine H.v 19 (.func (.func 87) #[] #[(pt br 0)]) fun a H => H.u 20 (enV x_9) (ex_lN (enL x_9) (HP.cells 0 rfl 0 7 (by kernel_rfl))) fun a H => ?_
  refine H.cl 21 (Tryz.call87 _ _) (cloE_any base b vv (bs ++ encInts ((l.length : Int) :: (l.take i).flatMap enNs)) br x_9 w_18 (HP.held 1 rfl).1 (HP.fact 1 rfl) (fun k hk => HP.factBld 1 1 rfl rfl k hk) ((HP.fact 0 rfl : IsEn _ A l).ok _ hm_15) (fun k hk => HP.factBld 1 0 rfl rfl k (.inr ⟨_, hm_15, hk⟩)) (fun z hz1 => hz z (List.mem_cons_of_mem _ (List.mem_flatMap.2 ⟨_, hm_15, hz1⟩))) (wr_len hx_13 hlen)) ?_
  rintro e w_23 ⟨rfl, v_19, hF_20, hag_21, hv_22⟩
  refine ⟨_, rfl, ?_⟩
  intro a H
  have HP := HP.putV 1 rfl _ rfl hF_20 hag_21 hv_22
  refine nl (ibn (tn (rg ?_)))
  refine H.valE 22 (ii (IntKind.i64.wrap ((i : Int) + 1))) (ii ((i : Int) + 1)) (by kernel_rfl) (by kernel_rfl) ((by rw [wrap_ini64 _ (by omega)])) fun a H => H.v 15 (ii ((i : Int) + 1)) fun a H => ?_
  refine nl (tn ?_)
  have H := H.as 15 (ii ((i + 1 : Nat) : Int)) rfl rfl
  refine ⟨_, ?_, i + 1, v_19, rfl, H.keep (by kernel_rfl), (by rw [wr_snoc hx_13]; exact (HP.tail rfl)), (by omega)⟩
  omega
 have g16p := of_decide_eq_false g16
 refine wp_exit (then_exit (then_exit ?_))
 refine w_exit_here ?_
 refine H.end0 (fn := Tryz.f86) Tryz.results86  ?_
 exact HP.endV 0 rfl (by rw [List.take_of_length_le (by omega)]) (by simp [bx])
theorem writeB_any (base b : Nat) (v : Value) (bs : List UInt8) (br : Nat) (A : Option Addr) (c : Nat) (l : List (Bkg)) (w : World) (h : (bldW base b v bs).F w) (hbr : Box w br 125 #[.pointer (some ⟨b, 0, none⟩)]) (hns : ∀ k, k = br → ¬ (bldW base b v bs).fp k) (hr : IsBk w A l) (hnr : ∀ k, rowFp l.length A k → ¬ (bldW base b v bs).fp k) (hl : l.length ≤ maxLen) (hz : ∀ z ∈ (l.length : Int) :: l.flatMap bkNs, -wmax ≤ z ∧ z ≤ wmax) (hlen : bs.length + 9 * ((l.length : Int) :: l.flatMap bkNs).length ≤ 100000000000000) : Calls Tryz.prog 90 #[.pointer (some ⟨b, 0, none⟩), .slice A l.length c, .func (.func 91) #[] #[.pointer (some ⟨br, 0, none⟩)]] w (PutPost base b v bs ((l.length : Int) :: l.flatMap bkNs) w) := by
 unfold maxLen at hl
 have HP : Hp w w [bldV w.heap.size base b v v bs] [rowF 7 bkC A l, boxK br 125 [.pointer (some ⟨b, 0, none⟩)]] := ((Hp.ownV h).keepV (boxK br 125 [.pointer (some ⟨b, 0, none⟩)]) hbr (boxK_ok _ _ _) (fun k hk => by cases hk; exact hbr.lt) hns).keepV (rowF 7 bkC A l) hr (rowF_ok _ _ _ _) (fun k hk => hr.lt k hk) hnr
 refine w_enter 23 [(0, (pt b 0)), (1, (.slice A l.length c)), (2, (.func (.func 91) #[] #[(pt br 0)]))] Tryz.func90 rfl Tryz.ntmps90 (by kernel_rfl) (by kernel_rfl) fun a H => ?_
 refine sq (rg ?_)
 refine H.v 8 (pt b 0) fun a H => H.v 9 (.slice A l.length c) fun a H => H.v 10 (ii l.length) fun a H => H.alloc HP 11 (fun b => (.slice (some ⟨b, 0, none⟩) 1 1)) 3 [(ii l.length)] (by kernel_rfl) (fun w => by kernel_rfl) fun b_1 w_2 a H HP => ?_
 refine H.cl 12 (Tryz.call81 _ _) (put_any base b v bs b_1 [(l.length : Int)] w_2 (HP.held 1 rfl).1 (HP.at_ 0 rfl) (fun k hk => HP.notBld 1 0 rfl rfl (by decide) k hk) (one_mem (hz _ (List.mem_cons_self ..))) (one_len hlen)) ?_
 rintro e w_7 ⟨rfl, v_3, hF_4, hag_5, hv_6⟩
 refine ⟨_, rfl, ?_⟩
 intro a H
 have HP := HP.putV 1 rfl _ rfl hF_4 hag_5 hv_6
 refine nl ?_
 have HP := HP.tail rfl
 have HP : Hp w w_7 [(bldV w.heap.size base b v v_3 (bs ++ encInts ((l.length : Int) :: (l.take 0).flatMap bkNs)))] [rowF 7 bkC A l, boxK br 125 [.pointer (some ⟨b, 0, none⟩)]] := HP
 refine tn (sq (rg ?_))
 refine H.v 13 (.slice A l.length c) fun a H => H.v 14 (ii l.length) fun a H => H.v 15 (ii 0) fun a H => ?_
 refine nl (tn (bk ?_))
 refine w_loop (fun mm a wv => ∃ (i : Nat), ∃ (vv : Value), l.length - i = mm ∧ Sl 23 [(15, (ii i)), (14, (ii l.length)), (13, (.slice A l.length c)), (12, (.tuple #[])), (11, (.slice (some ⟨b_1, 0, none⟩) 1 1)), (10, (ii l.length)), (9, (.slice A l.length c)), (8, (pt b 0)), (0, (pt b 0)), (1, (.slice A l.length c)), (2, (.func (.func 91) #[] #[(pt br 0)]))] a ∧ Hp w wv [(bldV w.heap.size base b v vv (bs ++ encInts ((l.length : Int) :: (l.take i).flatMap bkNs)))] [rowF 7 bkC A l, boxK br 125 [.pointer (some ⟨b, 0, none⟩)]] ∧ (i ≤ l.length)) (l.length - 0) ?_ ?_
 ·exact ⟨0, v_3, (by omega), H.keep (by kernel_rfl), HP, (Nat.zero_le _)⟩
 rintro mm a w_8 ⟨i, vv, hmeas, H, HP, hib⟩
 refine sq (rg ?_)
 refine H.v 16 (.bool (decide ((i : Int) < (l.length : Int)))) fun a H => ?_
 refine nl (tn (sq ?_))
 refine w_if H rfl (fun g16 => ?_) (fun g16 => ?_)
 ·have g16p := of_decide_eq_true g16
  refine sk (tn (sq (bk (sq ?_))))
  obtain ⟨bu_10, ou_11, x_9, hA_12, _, hd_14, hx_13, hm_15, _⟩ := IsRow.get bkC_size (HP.fact 0 rfl) (i := i) (by omega)
  refine rg ?_
  refine H.u 17 (.pointer (some ⟨bu_10, ou_11 + i * 7, none⟩)) (ex_indexA (b := bu_10) (off := ou_11) (len := l.length) (cap := c) (e := 47) (k := 7) (ik := .i64) (i := (i : Int)) (m := i) hA_12 (by kernel_rfl) (by kernel_rfl) (by omega) (by omega) (by kernel_rfl) (by kernel_rfl)) fun a H => H.u 18 (bkV x_9) (ex_lN (bkL x_9) (IsRow.cells bkC_size (HP.fact 0 rfl) hA_12 hx_13)) fun a H => H.al HP 7 47 [(ii 0), (ii 0), (ii 0), (ii 0), (ii 0), (ii 0), (ii 0)] fun b_16 w_17 a H HP => H.st HP 0 b_16 0 7 47 true (bkV x_9) [bx b_16 47 (bkL x_9) true, (bldV w.heap.size base b v vv (bs ++ encInts ((l.length : Int) :: (l.take i).flatMap bkNs)))] rfl fun w_18 a H HP => ?_
  refine nl (tn (rg ?_))
  refine H.v 19 (.func (.func 91) #[] #[(pt br 0)]) fun a H => H.u 20 (bkV x_9) (ex_lN (bkL x_9) (HP.cells 0 rfl 0 7 (by kernel_rfl))) fun a H => ?_
  refine H.cl 21 (Tryz.call91 _ _) (cloB_any base b vv (bs ++ encInts ((l.length : Int) :: (l.take i).flatMap bkNs)) br x_9 w_18 (HP.held 1 rfl).1 (HP.fact 1 rfl) (fun k hk => HP.factBld 1 1 rfl rfl k hk) (fun z hz1 => hz z (List.mem_cons_of_mem _ (List.mem_flatMap.2 ⟨_, hm_15, hz1⟩))) (wr_len hx_13 hlen)) ?_
  rintro e w_23 ⟨rfl, v_19, hF_20, hag_21, hv_22⟩
  refine ⟨_, rfl, ?_⟩
  intro a H
  have HP := HP.putV 1 rfl _ rfl hF_20 hag_21 hv_22
  refine nl (ibn (tn (rg ?_)))
  refine H.valE 22 (ii (IntKind.i64.wrap ((i : Int) + 1))) (ii ((i : Int) + 1)) (by kernel_rfl) (by kernel_rfl) ((by rw [wrap_ini64 _ (by omega)])) fun a H => H.v 15 (ii ((i : Int) + 1)) fun a H => ?_
  refine nl (tn ?_)
  have H := H.as 15 (ii ((i + 1 : Nat) : Int)) rfl rfl
  refine ⟨_, ?_, i + 1, v_19, rfl, H.keep (by kernel_rfl), (by rw [wr_snoc hx_13]; exact (HP.tail rfl)), (by omega)⟩
  omega
 have g16p := of_decide_eq_false g16
 refine wp_exit (then_exit (then_exit ?_))
 refine w_exit_here ?_
 refine H.end0 (fn := Tryz.f90) Tryz.results90  ?_
 exact HP.endV 0 rfl (by rw [List.take_of_length_le (by omega)]) (by simp [bx])
theorem writeC_any (base b : Nat) (v : Value) (bs : List UInt8) (br : Nat) (A : Option Addr) (c : Nat) (l : List (Cls)) (w : World) (h : (bldW base b v bs).F w) (hbr : Box w br 125 #[.pointer (some ⟨b, 0, none⟩)]) (hns : ∀ k, k = br → ¬ (bldW base b v bs).fp k) (hr : IsCl w A l) (hnr : ∀ k, rowFp l.length A k → ¬ (bldW base b v bs).fp k) (hl : l.length ≤ maxLen) (hz : ∀ z ∈ (l.length : Int) :: l.flatMap clNs, -wmax ≤ z ∧ z ≤ wmax) (hlen : bs.length + 9 * ((l.length : Int) :: l.flatMap clNs).length ≤ 100000000000000) : Calls Tryz.prog 92 #[.pointer (some ⟨b, 0, none⟩), .slice A l.length c, .func (.func 93) #[] #[.pointer (some ⟨br, 0, none⟩)]] w (PutPost base b v bs ((l.length : Int) :: l.flatMap clNs) w) := by
 unfold maxLen at hl
 have HP : Hp w w [bldV w.heap.size base b v v bs] [rowF 8 clC A l, boxK br 125 [.pointer (some ⟨b, 0, none⟩)]] := ((Hp.ownV h).keepV (boxK br 125 [.pointer (some ⟨b, 0, none⟩)]) hbr (boxK_ok _ _ _) (fun k hk => by cases hk; exact hbr.lt) hns).keepV (rowF 8 clC A l) hr (rowF_ok _ _ _ _) (fun k hk => hr.lt k hk) hnr
 refine w_enter 23 [(0, (pt b 0)), (1, (.slice A l.length c)), (2, (.func (.func 93) #[] #[(pt br 0)]))] Tryz.func92 rfl Tryz.ntmps92 (by kernel_rfl) (by kernel_rfl) fun a H => ?_
 refine sq (rg ?_)
 refine H.v 8 (pt b 0) fun a H => H.v 9 (.slice A l.length c) fun a H => H.v 10 (ii l.length) fun a H => H.alloc HP 11 (fun b => (.slice (some ⟨b, 0, none⟩) 1 1)) 3 [(ii l.length)] (by kernel_rfl) (fun w => by kernel_rfl) fun b_1 w_2 a H HP => ?_
 refine H.cl 12 (Tryz.call81 _ _) (put_any base b v bs b_1 [(l.length : Int)] w_2 (HP.held 1 rfl).1 (HP.at_ 0 rfl) (fun k hk => HP.notBld 1 0 rfl rfl (by decide) k hk) (one_mem (hz _ (List.mem_cons_self ..))) (one_len hlen)) ?_
 rintro e w_7 ⟨rfl, v_3, hF_4, hag_5, hv_6⟩
 refine ⟨_, rfl, ?_⟩
 intro a H
 have HP := HP.putV 1 rfl _ rfl hF_4 hag_5 hv_6
 refine nl ?_
 have HP := HP.tail rfl
 have HP : Hp w w_7 [(bldV w.heap.size base b v v_3 (bs ++ encInts ((l.length : Int) :: (l.take 0).flatMap clNs)))] [rowF 8 clC A l, boxK br 125 [.pointer (some ⟨b, 0, none⟩)]] := HP
 refine tn (sq (rg ?_))
 refine H.v 13 (.slice A l.length c) fun a H => H.v 14 (ii l.length) fun a H => H.v 15 (ii 0) fun a H => ?_
 refine nl (tn (bk ?_))
 refine w_loop (fun mm a wv => ∃ (i : Nat), ∃ (vv : Value), l.length - i = mm ∧ Sl 23 [(15, (ii i)), (14, (ii l.length)), (13, (.slice A l.length c)), (12, (.tuple #[])), (11, (.slice (some ⟨b_1, 0, none⟩) 1 1)), (10, (ii l.length)), (9, (.slice A l.length c)), (8, (pt b 0)), (0, (pt b 0)), (1, (.slice A l.length c)), (2, (.func (.func 93) #[] #[(pt br 0)]))] a ∧ Hp w wv [(bldV w.heap.size base b v vv (bs ++ encInts ((l.length : Int) :: (l.take i).flatMap clNs)))] [rowF 8 clC A l, boxK br 125 [.pointer (some ⟨b, 0, none⟩)]] ∧ (i ≤ l.length)) (l.length - 0) ?_ ?_
 ·exact ⟨0, v_3, (by omega), H.keep (by kernel_rfl), HP, (Nat.zero_le _)⟩
 rintro mm a w_8 ⟨i, vv, hmeas, H, HP, hib⟩
 refine sq (rg ?_)
 refine H.v 16 (.bool (decide ((i : Int) < (l.length : Int)))) fun a H => ?_
 refine nl (tn (sq ?_))
 refine w_if H rfl (fun g16 => ?_) (fun g16 => ?_)
 ·have g16p := of_decide_eq_true g16
  refine sk (tn (sq (bk (sq ?_))))
  obtain ⟨bu_10, ou_11, x_9, hA_12, _, hd_14, hx_13, hm_15, _⟩ := IsRow.get clC_size (HP.fact 0 rfl) (i := i) (by omega)
  refine rg ?_
  refine H.u 17 (.pointer (some ⟨bu_10, ou_11 + i * 8, none⟩)) (ex_indexA (b := bu_10) (off := ou_11) (len := l.length) (cap := c) (e := 73) (k := 8) (ik := .i64) (i := (i : Int)) (m := i) hA_12 (by kernel_rfl) (by kernel_rfl) (by omega) (by omega) (by kernel_rfl) (by kernel_rfl)) fun a H => H.u 18 (clV x_9) (ex_lN (clL x_9) (IsRow.cells clC_size (HP.fact 0 rfl) hA_12 hx_13)) fun a H => H.al HP 7 73 [(ii 0), (ii 0), (ii 0), (ii 0), (ii 0), (ii 0), (ii 0), (ii 0)] fun b_16 w_17 a H HP => H.st HP 0 b_16 0 8 73 true (clV x_9) [bx b_16 73 (clL x_9) true, (bldV w.heap.size base b v vv (bs ++ encInts ((l.length : Int) :: (l.take i).flatMap clNs)))] rfl fun w_18 a H HP => ?_
  refine nl (tn (rg ?_))
  refine H.v 19 (.func (.func 93) #[] #[(pt br 0)]) fun a H => H.u 20 (clV x_9) (ex_lN (clL x_9) (HP.cells 0 rfl 0 8 (by kernel_rfl))) fun a H => ?_
  refine H.cl 21 (Tryz.call93 _ _) (cloC_any base b vv (bs ++ encInts ((l.length : Int) :: (l.take i).flatMap clNs)) br x_9 w_18 (HP.held 1 rfl).1 (HP.fact 1 rfl) (fun k hk => HP.factBld 1 1 rfl rfl k hk) (fun z hz1 => hz z (List.mem_cons_of_mem _ (List.mem_flatMap.2 ⟨_, hm_15, hz1⟩))) (wr_len hx_13 hlen)) ?_
  rintro e w_23 ⟨rfl, v_19, hF_20, hag_21, hv_22⟩
  refine ⟨_, rfl, ?_⟩
  intro a H
  have HP := HP.putV 1 rfl _ rfl hF_20 hag_21 hv_22
  refine nl (ibn (tn (rg ?_)))
  refine H.valE 22 (ii (IntKind.i64.wrap ((i : Int) + 1))) (ii ((i : Int) + 1)) (by kernel_rfl) (by kernel_rfl) ((by rw [wrap_ini64 _ (by omega)])) fun a H => H.v 15 (ii ((i : Int) + 1)) fun a H => ?_
  refine nl (tn ?_)
  have H := H.as 15 (ii ((i + 1 : Nat) : Int)) rfl rfl
  refine ⟨_, ?_, i + 1, v_19, rfl, H.keep (by kernel_rfl), (by rw [wr_snoc hx_13]; exact (HP.tail rfl)), (by omega)⟩
  omega
 have g16p := of_decide_eq_false g16
 refine wp_exit (then_exit (then_exit ?_))
 refine w_exit_here ?_
 refine H.end0 (fn := Tryz.f92) Tryz.results92  ?_
 exact HP.endV 0 rfl (by rw [List.take_of_length_le (by omega)]) (by simp [bx])
end Go.Proofs.YteeillphhiaopaaGreatDoor
namespace Go.Proofs.YteeillphhiaopaaGreatDoor
set_option maxRecDepth 100000
set_option maxHeartbeats 4000000
open Go.ChangeShapes Go.WideShapes Go.ChangeAt Go.RowKit
set_option linter.unusedVariables false
set_option linter.unusedSimpArgs false
def numsP (p : Pln) : List Int := [p.channel, p.num, p.den, p.offset] ++ (((p.sh.length : Nat) : Int) :: p.sh.flatMap altNs) ++ [p.epoch, p.regions, p.length, p.fill] ++ (((p.its.length : Nat) : Int) :: p.its.flatMap itNs) ++ (((p.es.length : Nat) : Int) :: p.es.flatMap enNs) ++ (((p.bs.length : Nat) : Int) :: p.bs.flatMap bkNs) ++ (((p.cs.length : Nat) : Int) :: p.cs.flatMap clNs)
abbrev inW (z : Int) : Prop := -wmax ≤ z ∧ z ≤ wmax
theorem flat_in {α : Type} {f : α → List Int} {l : List α} (h : ∀ x ∈ l, ∀ z ∈ f x, inW z) : ∀ z ∈ l.flatMap f, inW z := by
  intro z hz
  obtain ⟨x, hx, hz⟩ := List.mem_flatMap.1 hz
  exact h x hx z hz
theorem flat_cnt {α : Type} {f : α → List Int} {l : List α} {n : Nat} (h : ∀ x ∈ l, (f x).length ≤ n) : (l.flatMap f).length ≤ l.length * n := by
  induction l with
  | nil => simp
  | cons x l ih =>
    have h1 := h x (List.mem_cons_self ..)
    have h2 := ih fun y hy => h y (List.mem_cons_of_mem _ hy)
    simp only [List.flatMap_cons, List.length_append, List.length_cons, Nat.succ_mul]
    omega
theorem asc_in {α : Type} {f : α → Int} {lo hi : Int} {l : List α} (h : asc lo hi (l.map f) = true) {x : α} (hx : x ∈ l) : lo < f x ∧ f x ≤ hi := asc_lt h _ (List.mem_map.2 ⟨x, hx, rfl⟩)
theorem asc_cnt {lo hi : Int} : ∀ {l : List Int}, asc lo hi l = true → lo ≤ hi ∨ l = [] → (l.length : Int) ≤ max 0 (hi - lo)
  | [], _, _ => by simp; omega
  | n :: l, h, _ => by
    simp only [asc, Bool.and_eq_true, decide_eq_true_eq] at h
    have := asc_cnt h.2 (.inl h.1.2)
    simp only [List.length_cons]
    omega
theorem hI_in {l : List Itm} {k : Int} (ha : asc 0 1000000 (l.map (fun x => x.id)) = true) (h : hI l k = true) : 0 < k ∧ k ≤ 1000000 := by
  unfold hI fI at h
  cases hf : l.find? (fun x => x.id == k) with
  | none => rw [hf] at h; cases h
  | some x =>
    have h1 := asc_in ha (List.mem_of_find?_eq_some hf)
    have h2 := List.find?_some hf
    simp only [beq_iff_eq] at h2
    omega
theorem hB_in {l : List Bkg} {k : Int} (ha : asc 0 1000000 (l.map (fun x => x.id)) = true) (h : hB l k = true) : 0 < k ∧ k ≤ 1000000 := by
  unfold hB fB at h
  cases hf : l.find? (fun x => x.id == k) with
  | none => rw [hf] at h; cases h
  | some x =>
    have h1 := asc_in ha (List.mem_of_find?_eq_some hf)
    have h2 := List.find?_some hf
    simp only [beq_iff_eq] at h2
    omega
theorem gI_in {l : List Itm} {k n : Int} (h : (gI l k).kind = n) (hn : n ≠ 0) : hI l k = true := by
  unfold gI at h
  unfold hI
  cases hf : fI l k with
  | none => rw [hf] at h; exact absurd h.symm hn
  | some x => rfl
theorem shP_in {last : Int} : ∀ {l : Alts}, shP last l = true → ∀ a ∈ l, last < a.1 ∧ a.1 ≤ 10000000000 ∧ -50400 ≤ a.2 ∧ a.2 ≤ 50400
  | [], _, a, ha => by cases ha
  | b :: l, h, a, ha => by
    simp only [shP, Bool.and_eq_true, decide_eq_true_eq, inR_iff] at h
    rcases List.mem_cons.1 ha with rfl | ha
    · exact ⟨h.1.1.1, h.1.1.2, h.1.2⟩
    · have := shP_in h.2 a ha; omega
theorem entsP_in {p : Pln} : ∀ {l : List Ent} {seen : List Int}, entsP p seen l = true → ∀ e ∈ l, entP p e = true
  | [], _, _, e, he => by cases he
  | x :: l, seen, h, e, he => by
    simp only [entsP, Bool.and_eq_true] at h
    rcases List.mem_cons.1 he with rfl | he
    · exact h.1.1
    · exact entsP_in h.2 e he
theorem clP_in {c : Cls} (h : clP c = true) : ∀ z ∈ clNs c, inW z := by
  unfold clP useP bodyC itemC timeC at h
  unfold inW wmax
  simp only [Bool.and_eq_true] at h
  obtain ⟨h1, h2⟩ := h
  intro z hz
  simp only [clNs, List.mem_cons, List.not_mem_nil, or_false] at hz
  split at h2
  · rw [if_pos (by assumption)] at h1
    simp only [Bool.and_eq_true, decide_eq_true_eq, inR_iff, beq_iff_eq] at h1 h2
    omega
  · split at h2
    · rw [if_neg (by omega), if_pos (by omega)] at h1
      simp only [Bool.and_eq_true, decide_eq_true_eq, inR_iff, beq_iff_eq] at h1 h2
      omega
    · split at h2
      · rw [if_neg (by omega), if_pos (by omega)] at h1
        simp only [Bool.and_eq_true, decide_eq_true_eq, inR_iff, beq_iff_eq] at h1 h2
        omega
      · split at h2
        · rw [if_neg (by omega), if_neg (by omega), if_pos (by omega)] at h1
          simp only [Bool.and_eq_true, decide_eq_true_eq, inR_iff, beq_iff_eq] at h1 h2
          omega
        · split at h2
          · rw [if_neg (by omega), if_neg (by omega), if_neg (by omega), if_pos (by omega)] at h1
            simp only [Bool.and_eq_true, decide_eq_true_eq, inR_iff, beq_iff_eq] at h1 h2
            omega
          · cases h2
theorem alts_in {p : Pln} {e : Ent} (ha : asc 0 1000000 (p.its.map (fun x => x.id)) = true) (hr : p.regions ≤ 8) (h : altsP p.its p.regions e = true) : e.al.length ≤ 7 ∧ ∀ a ∈ e.al, inW a.1 ∧ inW a.2 := by
  unfold altsP at h
  simp only [Bool.and_eq_true, Bool.not_eq_true'] at h
  obtain ⟨⟨h1, _⟩, h3⟩ := h
  refine ⟨?_, fun a ha' => ?_⟩
  · have := asc_cnt h1 (by cases hl : e.al with | nil => exact .inr rfl | cons a l => rw [hl] at h1; simp only [List.map_cons, asc, Bool.and_eq_true, decide_eq_true_eq] at h1; exact .inl (by omega))
    rw [List.length_map] at this
    omega
  · have h4 := asc_in (f := fun x : Int × Int => x.1) h1 ha'
    have h5 : unfitP p.its e.frames a = false := by
      rw [← Bool.not_eq_true]
      intro hu
      rw [List.any_eq_false] at h3
      exact h3 a ha' hu
    have h6 : hI p.its a.2 = true := by
      unfold unfitP at h5
      simp only [Bool.or_eq_false_iff, Bool.not_eq_false'] at h5
      exact h5.1.1.1
    have h7 := hI_in ha h6
    unfold inW wmax
    omega
theorem ent_in {p : Pln} {e : Ent} (ha : asc 0 1000000 (p.its.map (fun x => x.id)) = true) (hb : asc 0 1000000 (p.bs.map (fun x => x.id)) = true) (hi : p.its.all itemP = true) (hr : p.regions ≤ 8) (hlen : p.length ≤ 100000000) (h : entP p e = true) : (∀ z ∈ enNs e, inW z) ∧ (enNs e).length ≤ 30 := by
  unfold entP at h
  simp only [Bool.and_eq_true, inR_iff] at h
  obtain ⟨⟨⟨h1, h2⟩, h3⟩, h4⟩ := h
  obtain ⟨h5, h6⟩ := alts_in ha hr h3
  have hfr := gI_frames hi e.item
  unfold fitsP at h2
  simp only [Bool.and_eq_true, inR_iff, decide_eq_true_eq] at h2
  have h7 := hI_in ha h2.1.1.1.1
  have h8 : 0 ≤ e.booking ∧ e.booking ≤ 1000000 := by
    unfold fulP at h4
    simp only [Bool.or_eq_true, Bool.and_eq_true, beq_iff_eq] at h4
    rcases h4 with h4 | h4
    · omega
    · have := hB_in hb h4.1; omega
  refine ⟨fun z hz => ?_, ?_⟩
  · simp only [enNs, List.mem_append, List.mem_cons, List.not_mem_nil, or_false] at hz
    rcases hz with hz | hz | hz
    · unfold inW wmax; omega
    · unfold inW wmax; omega
    · refine flat_in (fun a ha z hz => ?_) z hz
      simp only [altNs, List.mem_cons, List.not_mem_nil, or_false] at hz
      rcases hz with rfl | rfl
      · exact (h6 a ha).1
      · exact (h6 a ha).2
  · have h9 := flat_cnt (f := altNs) (l := e.al) (n := 2) (fun _ _ => Nat.le_refl _)
    simp only [enNs, List.length_append, List.length_cons, List.length_nil]
    omega
theorem valid_nums {p : Pln} (h : validPl p = true) : (∀ z ∈ numsP p, -wmax ≤ z ∧ z ≤ wmax) ∧ (numsP p).length ≤ 1000000 := by
  unfold validPl at h
  simp only [Bool.and_eq_true, decide_eq_true_eq] at h
  obtain ⟨⟨⟨⟨h1, h2⟩, h3⟩, h4, h5⟩, h6⟩ := h
  rw [soundP_eq] at h1
  unfold itsP at h2
  unfold bksP at h3
  unfold clsP at h6
  simp only [Bool.and_eq_true, decide_eq_true_eq, inR_iff] at h1 h2 h3 h6
  have hrate := rateOk_bd h1.1.1.1.1.2
  have hzone := h1.1.1.1.2
  unfold zoneP at hzone
  simp only [Bool.and_eq_true, decide_eq_true_eq, inR_iff] at hzone
  have hsh := shP_in hzone.2
  have hfill := hI_in h2.1.1.2 (gI_in (eq_of_beq h2.2) (by decide))
  have hits := h2.1.2
  have hen := fun e he => ent_in h2.1.1.2 h3.1.2 hits h1.1.2.2 h1.2.2 (entsP_in h5 e he)
  have hbk : ∀ x ∈ p.bs, ∀ z ∈ bkNs x, inW z := fun x hx z hz => by
    have k1 := List.all_eq_true.1 h3.2 x hx
    have k2 := asc_in h3.1.2 hx
    unfold bookP at k1
    simp only [Bool.and_eq_true, decide_eq_true_eq, inR_iff] at k1
    have k3 := hI_in h2.1.1.2 (gI_in (eq_of_beq k1.1.1.1) (by decide))
    simp only [bkNs, List.mem_cons, List.not_mem_nil, or_false] at hz
    unfold inW wmax
    omega
  have hit : ∀ x ∈ p.its, ∀ z ∈ itNs x, inW z := fun x hx z hz => by
    have k1 := List.all_eq_true.1 hits x hx
    have k2 := asc_in h2.1.1.2 hx
    unfold itemP at k1
    simp only [Bool.and_eq_true, inR_iff] at k1
    simp only [itNs, List.mem_cons, List.not_mem_nil, or_false] at hz
    unfold inW wmax
    omega
  have hsn : ∀ x ∈ p.sh, ∀ z ∈ altNs x, inW z := fun x hx z hz => by
    have k1 := hsh x hx
    simp only [altNs, List.mem_cons, List.not_mem_nil, or_false] at hz
    unfold inW wmax
    omega
  have hcn : ∀ x ∈ p.cs, ∀ z ∈ clNs x, inW z := fun x hx => clP_in (List.all_eq_true.1 h6.2 x hx)
  refine ⟨fun z hz => ?_, ?_⟩
  · simp only [numsP, List.mem_append] at hz
    rcases hz with ((((((hz | hz) | hz) | hz) | hz) | hz) | hz)
    · simp only [List.mem_cons, List.not_mem_nil, or_false] at hz; unfold wmax; omega
    · rcases List.mem_cons.1 hz with rfl | hz
      · unfold wmax; omega
      · exact flat_in hsn z hz
    · simp only [List.mem_cons, List.not_mem_nil, or_false] at hz; unfold wmax; omega
    · rcases List.mem_cons.1 hz with rfl | hz
      · unfold wmax; omega
      · exact flat_in hit z hz
    · rcases List.mem_cons.1 hz with rfl | hz
      · unfold wmax; omega
      · exact flat_in (fun e he => (hen e he).1) z hz
    · rcases List.mem_cons.1 hz with rfl | hz
      · unfold wmax; omega
      · exact flat_in hbk z hz
    · rcases List.mem_cons.1 hz with rfl | hz
      · unfold wmax; omega
      · exact flat_in hcn z hz
  · have c1 := flat_cnt (f := altNs) (l := p.sh) (n := 2) (fun _ _ => Nat.le_refl _)
    have c2 := flat_cnt (f := itNs) (l := p.its) (n := 5) (fun _ _ => Nat.le_refl _)
    have c3 := flat_cnt (f := enNs) (l := p.es) (n := 30) (fun e he => (hen e he).2)
    have c4 := flat_cnt (f := bkNs) (l := p.bs) (n := 7) (fun _ _ => Nat.le_refl _)
    have c5 := flat_cnt (f := clNs) (l := p.cs) (n := 8) (fun _ _ => Nat.le_refl _)
    simp only [numsP, List.length_append, List.length_cons, List.length_nil]
    omega
end Go.Proofs.YteeillphhiaopaaGreatDoor
namespace Go.Proofs.YteeillphhiaopaaGreatDoor
set_option maxRecDepth 100000
set_option maxHeartbeats 4000000
open Go.ChangeShapes Go.WideShapes Go.ChangeAt Go.RowKit
set_option linter.unusedVariables false
set_option linter.unusedSimpArgs false
structure LaidP (a0 a1 : Addr) (w : World) : Prop where
  rates : LaidR w
  c0 : w.cell? ⟨0, 0, none⟩ = some (.iface 212 (.pointer (some a0)))
  c1 : w.cell? ⟨1, 0, none⟩ = some (.iface 212 (.pointer (some a1)))
  ne : a0 ≠ a1
  b0 : ∃ c t, w.heap[a0.block]? = some (.cells c t (0, 0))
  b1 : ∃ c t, w.heap[a1.block]? = some (.cells c t (0, 0))
def lpFp (a0 a1 : Addr) (k : Nat) : Prop := k = 0 ∨ k = 1 ∨ k = 2 ∨ k = a0.block ∨ k = a1.block
theorem cell_keep {w w' : World} {b off : Nat} {v : Value} (h : w.cell? ⟨b, off, none⟩ = some v) (hk : w'.heap[b]? = w.heap[b]?) : w'.cell? ⟨b, off, none⟩ = some v := by
  rw [← h]
  simp only [World.cell?, hk]
theorem LaidP.keep {a0 a1 : Addr} {w w' : World} (h : LaidP a0 a1 w) (hk : ∀ k, lpFp a0 a1 k → w'.heap[k]? = w.heap[k]?) : LaidP a0 a1 w' :=
  ⟨fun i hi => cell_keep (h.rates i hi) (hk _ (.inr (.inr (.inl rfl)))), cell_keep h.c0 (hk _ (by unfold lpFp; omega)), cell_keep h.c1 (hk _ (by unfold lpFp; omega)), h.ne,
    by rw [hk _ (.inr (.inr (.inr (.inl rfl))))]; exact h.b0, by rw [hk _ (.inr (.inr (.inr (.inr rfl))))]; exact h.b1⟩
theorem LaidP.lt {a0 a1 : Addr} {w : World} (h : LaidP a0 a1 w) : ∀ k, lpFp a0 a1 k → k < w.heap.size := by
  have k2 := World.block_lt_of_cell? _ _ (h.rates 0 (by decide))
  have k0 := World.block_lt_of_cell? _ _ h.c0
  have k1 := World.block_lt_of_cell? _ _ h.c1
  obtain ⟨_, _, h0⟩ := h.b0
  obtain ⟨_, _, h1⟩ := h.b1
  have j0 := (Array.getElem?_eq_some_iff.1 h0).1
  have j1 := (Array.getElem?_eq_some_iff.1 h1).1
  simp only at k0 k1 k2
  rintro k (rfl | rfl | rfl | rfl | rfl) <;> omega
theorem LaidP.below {a0 a1 : Addr} {w w' : World} (h : LaidP a0 a1 w) (hb : Below w.heap.size w w') : LaidP a0 a1 w' := h.keep fun k hk => hb.block k (h.lt k hk)
def laidK (a0 a1 : Addr) : FK := ⟨lpFp a0 a1, LaidP a0 a1⟩
theorem laidK_ok (a0 a1 : Addr) : (laidK a0 a1).ok := fun _ _ h hk _ => h.keep hk
abbrev errV (a : Addr) : Value := .iface 212 (.pointer (some a))
abbrev panicOf (a : Addr) : List PanicEntry := [{ v := errV a, recovered := false }]
theorem Hp.swap {w0 w w' : World} {L L' : List HB} {K : List FK} (H : Hp w0 w L K) (f : Nat → Prop) (hag : Agree w w' f) (hL : L'.length = L.length)
    (h : ∀ (n : Nat) (x' : HB), L'[n]? = some x' → ∃ x : HB, L[n]? = some x ∧ x'.fp = x.fp ∧ x'.fresh = x.fresh ∧ ((x' = x ∧ ∀ k, x.fp k → ¬ f k) ∨ (x'.F w' ∧ x'.ok))) (hf : ∀ k, f k → ∃ x ∈ L, x.fp k) : Hp w0 w' L' K := by
  have back : ∀ x ∈ L, ∃ x' ∈ L', x'.fp = x.fp := by
    intro x hx
    obtain ⟨n, hn⟩ := List.mem_iff_getElem?.1 hx
    have hlt := (List.getElem?_eq_some_iff.1 hn).1
    obtain ⟨y, hy, e, _⟩ := h n (L'[n]'(by omega)) (List.getElem?_eq_getElem (by omega))
    rw [hn] at hy
    cases hy
    exact ⟨_, List.getElem_mem _, e⟩
  have forth : ∀ x' ∈ L', ∃ x ∈ L, x'.fp = x.fp ∧ x'.fresh = x.fresh ∧ ((x' = x ∧ ∀ k, x.fp k → ¬ f k) ∨ (x'.F w' ∧ x'.ok)) := by
    intro x' hx'
    obtain ⟨n, hn⟩ := List.mem_iff_getElem?.1 hx'
    obtain ⟨x, hx, r⟩ := h n x' hn
    exact ⟨x, List.mem_of_getElem? hx, r⟩
  refine ⟨hag.os.trans H.os, hag.tape.trans H.tape, hag.output.trans H.output, Nat.le_trans H.size hag.size, fun k hk hn => ?_, fun x' hx' => ?_, ?_, fun x' hx' hfr k hk => ?_, fun p hp => ?_⟩
  · have h1 : ∀ x ∈ L, ¬ x.fp k := fun x hx hxk => by
      obtain ⟨x', hx', e⟩ := back x hx
      exact hn x' hx' (e ▸ hxk)
    rw [hag.block k (Nat.lt_of_lt_of_le hk H.size) (fun hfk => by obtain ⟨x, hx, hxk⟩ := hf k hfk; exact h1 x hx hxk)]
    exact H.old k hk h1
  · obtain ⟨x, hx, e, _, r⟩ := forth x' hx'
    obtain ⟨g1, g2, g3⟩ := H.res x hx
    rcases r with ⟨rfl, hn⟩ | ⟨r1, r2⟩
    · exact ⟨g2 _ _ g1 (fun k hk => hag.block k (g3 k hk) (hn k hk)) hag.size, g2, fun k hk => Nat.lt_of_lt_of_le (g3 k hk) hag.size⟩
    · exact ⟨r1, r2, fun k hk => Nat.lt_of_lt_of_le (g3 k (e ▸ hk)) hag.size⟩
  · rw [List.pairwise_iff_getElem]
    intro i j hi hj hij k hk hk'
    obtain ⟨x, hx, e, _⟩ := h i _ (List.getElem?_eq_getElem hi)
    obtain ⟨y, hy, e', _⟩ := h j _ (List.getElem?_eq_getElem hj)
    exact pair_at H.apart hx hy hij k (e ▸ hk) (e' ▸ hk')
  · obtain ⟨x, hx, e, e2, _⟩ := forth x' hx'
    exact H.fresh x hx (e2 ▸ hfr) k (e ▸ hk)
  · obtain ⟨k1, k2, k3⟩ := H.kept p hp
    refine ⟨k2 _ _ k1 (fun k hk => hag.block k (k3 k hk).1 fun hfk => ?_) hag.size, k2, fun k hk => ⟨Nat.lt_of_lt_of_le (k3 k hk).1 hag.size, fun x' hx' hxk => ?_⟩⟩
    · obtain ⟨x, hx, hxk⟩ := hf k hfk
      exact (k3 k hk).2 x hx hxk
    · obtain ⟨x, hx, e, _⟩ := forth x' hx'
      exact (k3 k hk).2 x hx (e ▸ hxk)
theorem Hp.changed2 {w0 w w' : World} {L : List HB} {K : List FK} (H : Hp w0 w L K) (i j : Nat) {b c t u : Nat} {vs us : List Value} {f f' : Bool} (hi : L[i]? = some (bx b t vs f)) (hj : L[j]? = some (bx c u us f')) (vs' us' : List Value) (L' : List HB)
    (hL : (L.set i (bx b t vs' f)).set j (bx c u us' f') = L') (hij : i ≠ j) (hag : Agree w w' (fun k => k = b ∨ k = c)) (h1 : Box w' b t vs'.toArray) (h2 : Box w' c u us'.toArray) : Hp w0 w' L' K := by
  subst hL
  refine H.swap _ hag (by simp) (fun n x' hx' => ?_) (fun k hk => ?_)
  · by_cases hn : j = n
    · subst hn
      rw [List.getElem?_set] at hx'
      simp only [List.length_set, (List.getElem?_eq_some_iff.1 hj).1, if_true, Option.some.injEq] at hx'
      subst hx'
      exact ⟨_, hj, rfl, rfl, .inr ⟨h2, bx_ok _ _ _ _⟩⟩
    · rw [List.getElem?_set_ne hn] at hx'
      by_cases hm : i = n
      · subst hm
        rw [List.getElem?_set] at hx'
        simp only [(List.getElem?_eq_some_iff.1 hi).1, if_true, Option.some.injEq] at hx'
        subst hx'
        exact ⟨_, hi, rfl, rfl, .inr ⟨h1, bx_ok _ _ _ _⟩⟩
      · rw [List.getElem?_set_ne hm] at hx'
        refine ⟨x', hx', rfl, rfl, .inl ⟨rfl, fun k hk hk' => ?_⟩⟩
        rcases hk' with rfl | rfl
        · rcases Nat.lt_or_gt_of_ne hm with h | h
          · exact pair_at H.apart hi hx' h k rfl hk
          · exact pair_at H.apart hx' hi h k hk rfl
        · rcases Nat.lt_or_gt_of_ne hn with h | h
          · exact pair_at H.apart hj hx' h k rfl hk
          · exact pair_at H.apart hx' hj h k hk rfl
  · rcases hk with rfl | rfl
    · exact ⟨_, List.mem_of_getElem? hi, rfl⟩
    · exact ⟨_, List.mem_of_getElem? hj, rfl⟩
theorem Hp.agree {w0 w : World} {L : List HB} {K : List FK} (H : Hp w0 w L K) (f : Nat → Prop) (hf : ∀ x ∈ L, x.fresh = true ∨ ∀ k, x.fp k → f k) : Agree w0 w f :=
  ⟨H.os, H.tape, H.output, H.size, fun k hk hn => H.old k hk fun x hx hxk => by
    rcases hf x hx with h | h
    · have := H.fresh x hx h k hxk; omega
    · exact hn (h k hxk)⟩
def putAt : List Value → List Nat → List Int → List Value
  | us, o :: os, z :: zs => putAt (us.set o (.int .i64 z)) os zs
  | us, _, _ => us
theorem putAt_len : ∀ (us : List Value) (os : List Nat) (zs : List Int), (putAt us os zs).length = us.length
  | us, o :: os, z :: zs => by rw [putAt, putAt_len]; simp
  | us, [], _ => by simp [putAt]
  | us, _ :: _, [] => by simp [putAt]
theorem putAt_snoc : ∀ (us : List Value) (os : List Nat) (zs : List Int) {o : Nat} {z : Int}, os[zs.length]? = some o → putAt us os (zs ++ [z]) = (putAt us os zs).set o (.int .i64 z)
  | us, [], _, o, z, h => by simp at h
  | us, o' :: os, [], o, z, h => by simp at h; subst h; cases os <;> rfl
  | us, o' :: os, z' :: zs, o, z, h => by
    simp only [List.cons_append, putAt]
    exact putAt_snoc _ os zs (by simpa using h)
abbrev RdR (α : Type) := Except Int (α × Nat)
def rdN (s : List UInt8) : Nat → Nat → RdR (List Int)
  | 0, k => .ok ([], k)
  | n + 1, k => match rdInt s k with
    | none => .error 10
    | some (z, k1) => match rdN s n k1 with
      | .error e => .error e
      | .ok (l, k2) => .ok (z :: l, k2)
def rdL {α : Type} (el : Nat → RdR α) : Nat → Nat → RdR (List α)
  | 0, k => .ok ([], k)
  | n + 1, k => match el k with
    | .error e => .error e
    | .ok (x, k1) => match rdL el n k1 with
      | .error e => .error e
      | .ok (l, k2) => .ok (x :: l, k2)
def rdC {α : Type} (s : List UInt8) (most : Nat) (el : Nat → RdR α) (k : Nat) : RdR (List α) := match rdInt s k with
  | none => .error 10
  | some (n, k1) => if n < 0 ∨ (most : Int) < n then .error 80 else rdL el n.toNat k1
def rdM {α : Type} (f : List Int → α) (s : List UInt8) (m k : Nat) : RdR α := match rdN s m k with
  | .error e => .error e
  | .ok (l, k1) => .ok (f l, k1)
def altOf (l : List Int) : Int × Int := (l.getD 0 0, l.getD 1 0)
def itOf (l : List Int) : Itm := ⟨l.getD 0 0, l.getD 1 0, l.getD 2 0, l.getD 3 0, l.getD 4 0⟩
def bkOf (l : List Int) : Bkg := ⟨l.getD 0 0, l.getD 1 0, l.getD 2 0, l.getD 3 0, l.getD 4 0, l.getD 5 0, l.getD 6 0⟩
def clOf (l : List Int) : Cls := ⟨l.getD 0 0, l.getD 1 0, l.getD 2 0, l.getD 3 0, l.getD 4 0, l.getD 5 0, l.getD 6 0, l.getD 7 0⟩
def rdEnt (s : List UInt8) (k : Nat) : RdR EnN := match rdN s 6 k with
  | .error e => .error e
  | .ok (l, k1) => match rdC s 7 (rdM altOf s 2) k1 with
    | .error e => .error e
    | .ok (al, k2) => .ok (⟨l.getD 0 0, l.getD 1 0, l.getD 2 0, l.getD 3 0, l.getD 4 0, l.getD 5 0, al⟩, k2)
def rdPl (s : List UInt8) : RdR PlN := match rdN s 4 0 with
  | .error e => .error e
  | .ok (h, k1) => match rdC s 40 (rdM altOf s 2) k1 with
    | .error e => .error e
    | .ok (sh, k2) => match rdN s 4 k2 with
      | .error e => .error e
      | .ok (m, k3) => match rdC s 4000 (rdM itOf s 5) k3 with
        | .error e => .error e
        | .ok (its, k4) => match rdC s 4000 (rdEnt s) k4 with
          | .error e => .error e
          | .ok (es, k5) => match rdC s 2000 (rdM bkOf s 7) k5 with
            | .error e => .error e
            | .ok (bs, k6) => match rdC s 400 (rdM clOf s 8) k6 with
              | .error e => .error e
              | .ok (cs, k7) => .ok (⟨h.getD 0 0, h.getD 1 0, h.getD 2 0, h.getD 3 0, sh, m.getD 0 0, m.getD 1 0, m.getD 2 0, m.getD 3 0, its, es, bs, cs⟩, k7)
def zeroN : PlN := ⟨0, 0, 0, 0, [], 0, 0, 0, 0, [], [], [], []⟩
def decN (s : List UInt8) : PlN × Int := match rdPl s with
  | .error e => (zeroN, e)
  | .ok (v, k) => if k < s.length then (zeroN, 10) else if validN v then (v, 0) else (zeroN, 80)
def pre {α : Type} (l : List α) : RdR (List α) → RdR (List α)
  | .error e => .error e
  | .ok (m, k) => .ok (l ++ m, k)
theorem pre_nil {α : Type} (r : RdR (List α)) : pre [] r = r := by cases r <;> rfl
theorem pre_ok {α : Type} (l : List α) (k : Nat) : pre l (.ok ([], k)) = .ok (l, k) := by simp [pre]
theorem rdN_step {s : List UInt8} {n k k1 : Nat} {z : Int} {l : List Int} (h : rdInt s k = some (z, k1)) : pre l (rdN s (n + 1) k) = pre (l ++ [z]) (rdN s n k1) := by
  simp only [rdN, h]
  cases rdN s n k1 with
  | error e => rfl
  | ok p => simp [pre]
theorem rdN_none {s : List UInt8} {n k : Nat} {l : List Int} (h : rdInt s k = none) : pre l (rdN s (n + 1) k) = .error 10 := by
  simp only [rdN, h, pre]
theorem rdL_step {α : Type} {el : Nat → RdR α} {n k k1 : Nat} {x : α} {l : List α} (h : el k = .ok (x, k1)) : pre l (rdL el (n + 1) k) = pre (l ++ [x]) (rdL el n k1) := by
  simp only [rdL, h]
  cases rdL el n k1 with
  | error e => rfl
  | ok p => simp [pre]
theorem rdL_err {α : Type} {el : Nat → RdR α} {n k : Nat} {e : Int} {l : List α} (h : el k = .error e) : pre l (rdL el (n + 1) k) = .error e := by
  simp only [rdL, h, pre]
theorem rdInt_lt {s : List UInt8} {k e : Nat} {n : Int} (hk : k ≤ s.length) (h : rdInt s k = some (n, e)) : k < e ∧ e ≤ s.length := by
  obtain ⟨_, _, h1, h2, _⟩ := rdInt_canon hk h
  have := (encInt_len n).1
  omega
theorem rdN_len {s : List UInt8} : ∀ {n k k1 : Nat} {l : List Int}, rdN s n k = .ok (l, k1) → l.length = n
  | 0, k, k1, l, h => by simp [rdN] at h; rw [h.1]; rfl
  | n + 1, k, k1, l, h => by
    simp only [rdN] at h
    cases hr : rdInt s k with
    | none => rw [hr] at h; cases h
    | some p =>
      rw [hr] at h
      simp only at h
      cases hm : rdN s n p.2 with
      | error e => rw [hm] at h; cases h
      | ok q =>
        rw [hm] at h
        simp only [Except.ok.injEq, Prod.mk.injEq] at h
        rw [← h.1, List.length_cons, rdN_len hm]
end Go.Proofs.YteeillphhiaopaaGreatDoor
namespace Go.Proofs.YteeillphhiaopaaGreatDoor
set_option maxRecDepth 100000
set_option maxHeartbeats 4000000
open Go.ChangeShapes Go.WideShapes Go.ChangeAt Go.WideMaps Go.WideElems Go.RowKit
set_option linter.unusedVariables false
def laid2 : List (String × DataW Unit) := [("onair/timecode.rates", Rows.laid_onair_timecode_rates), ("onair/plan.errBytes", Rows.laid_onair_plan_errBytes), ("onair/plan.errPlan", Rows.laid_onair_plan_errPlan)]
theorem gnRates : Tryz.prog.globalNamed "onair/timecode.rates" = some 2 := by kernel_rfl
theorem gnBytes : Tryz.prog.globalNamed "onair/plan.errBytes" = some 0 := by kernel_rfl
theorem gnPlan : Tryz.prog.globalNamed "onair/plan.errPlan" = some 1 := by kernel_rfl
theorem door_met (os : Os) (args : Array Value) : laidMetH Tryz.prog laid2 ((World.doorLaid Tryz.prog 4000 os).forCall (fun _ _ => 0) ⟨#[], args, []⟩).memory :=
  laidMetH_of_parts3 (fuel := 12) (laidMet_of_run' 12 (by kernel_rfl) (by kernel_rfl)) (by kernel_rfl) (by kernel_rfl)
theorem star : "*" ++ "errors.errorString" = "*errors.errorString" := by decide
theorem rowErr (u : TypeId) (h : Tryz.prog.typeName? 3 u = some "*errors.errorString") : u = 212 :=
  typeName_ptr_named (nm := "errors.errorString") (by rw [star]; kernel_rfl) (by kernel_rfl) (by decide) u (by rw [star]; exact h)
theorem int_cell {H : Type} {enc : TypeId × Value → H} {P : Program} {w : World} {base : Nat} {spare : Nat → Bool} {held : Bool} {fuel : Nat} {t : TypeId} {cs : List Value} {x : DataW H × List MemPlace} {k : IntKind} (ht : P.underlying t = some (.int k)) (h : DataW.trod enc P w base spare held fuel t cs = some x) :
    ∃ n, cs = [.int k n] ∧ x.1 = .lit (.int k n) := by
  obtain ⟨n, rfl, rfl, _⟩ := DataW.trod_int ht h
  exact ⟨n, rfl, rfl⟩
theorem seg_get {cs l : List Value} {o n : Nat} (h : (cs.drop o).take n = l) {j : Nat} {v : Value} (hv : l[j]? = some v) : cs[o + j]? = some v := by
  subst h
  have hj : j < n := by
    have := (List.getElem?_eq_some_iff.1 hv).1
    simp at this; omega
  rw [List.getElem?_take_of_lt hj, List.getElem?_drop] at hv
  exact hv
def litI {H : Type} : DataW H → Int
  | .lit (.int _ n) => n
  | _ => 0
def rowI {H : Type} : DataW H → List Int
  | .agg [.agg [a, b], c, d] => [litI a, litI b, litI c, litI d]
  | _ => []
def ofAgg {H : Type} : DataW H → List (DataW H)
  | .agg l => l
  | _ => []
set_option maxRecDepth 100000 in
theorem laid_of {W : World} (h : laidMetH Tryz.prog laid2 W) : ∃ a0 a1, LaidP a0 a1 W := by
  rw [MakeChecks.laidMetH_plain _ _ _ (by kernel_rfl)] at h
  obtain ⟨ps, ⟨g2, t2, cs2, f2, p2, q2, hg2, ht2, hv2, hd2, ⟨g0, t0, cs0, f0, p0, q0, hg0, ht0, hv0, hd0, ⟨g1, t1, cs1, f1, p1, q1, hg1, ht1, hv1, hd1, _, e1⟩, e0⟩, e2⟩, hnd, hrows⟩ := h
  obtain rfl := Option.some.inj (gnRates.symm.trans hg2)
  obtain rfl := Option.some.inj (gnBytes.symm.trans hg0)
  obtain rfl := Option.some.inj (gnPlan.symm.trans hg1)
  obtain rfl := Option.some.inj ((show (Tryz.prog.globals[2]?).map (·.type) = some 200 by kernel_rfl).symm.trans ht2)
  obtain rfl := Option.some.inj ((show (Tryz.prog.globals[0]?).map (·.type) = some 99 by kernel_rfl).symm.trans ht0)
  obtain rfl := Option.some.inj ((show (Tryz.prog.globals[1]?).map (·.type) = some 99 by kernel_rfl).symm.trans ht1)
  subst e1 e0 e2
  obtain ⟨l0⟩ := cs0
  obtain ⟨l1⟩ := cs1
  have ok0 : ∀ u v, l0 = [.iface u v] → Value.okWide Tryz.prog W .any 0 u v := fun u v e => by
    subst e
    exact (hrows 0 0 (by simp [MemPlace.row])).2 u v (by simpa using World.var?_cell hg0 hv0 0)
  have ok1 : ∀ u v, l1 = [.iface u v] → Value.okWide Tryz.prog W .any 0 u v := fun u v e => by
    subst e
    exact (hrows 1 0 (by simp [MemPlace.row])).2 u v (by simpa using World.var?_cell hg1 hv1 0)
  obtain ⟨a0, s0, rfl, hc0, hs0, hz0, rfl⟩ := errorString_of_trod (te := 236) Tryz.underlying99 rowErr Tryz.underlying212 Tryz.underlying236 rfl rfl Tryz.underlying9 (by kernel_rfl) (by kernel_rfl) hd0 ok0
  obtain ⟨a1, s1, rfl, hc1, hs1, hz1, rfl⟩ := errorString_of_trod (te := 236) Tryz.underlying99 rowErr Tryz.underlying212 Tryz.underlying236 rfl rfl Tryz.underlying9 (by kernel_rfl) (by kernel_rfl) hd1 ok1
  obtain ⟨c0, t0, hb0⟩ := (hrows a0.block a0.off (by simp [MemPlace.row])).1
  obtain ⟨c1, t1, hb1⟩ := (hrows a1.block a1.off (by simp [MemPlace.row])).1
  refine ⟨a0, a1, ⟨fun i hi => ?_, by simpa using World.var?_cell hg0 hv0 0, by simpa using World.var?_cell hg1 hv1 0, ?_, ⟨c0, t0, hb0⟩, ⟨c1, t1, hb1⟩⟩⟩
  · obtain ⟨xs0, m0, _, hx0, _, hn0, hel0⟩ := DataW.trod_array (n := 8) (e := 172) (by kernel_rfl) hd2
    rw [show Tryz.prog.cellsOf 172 = 4 by kernel_rfl] at hel0
    have e0 : xs0.map (fun x => rowI x.1) = (ofAgg (Rows.laid_onair_timecode_rates (H := Unit))).map rowI := by
      have := congrArg (fun x => (ofAgg x.1).map rowI) hx0
      simpa [ofAgg, Function.comp_def] using this.symm
    have hr : i / 4 < 8 := by omega
    have hxi : xs0[i / 4]? = some xs0[i / 4] := List.getElem?_eq_getElem (by omega)
    obtain ⟨y0, y1, y2, n', hy, _, h0, h1, h2⟩ := Deep.trod_struct3 Tryz.underlying172 ((hel0 (i / 4) hr).trans hxi)
    obtain ⟨z0, z1, n2, hz, _, k0, k1⟩ := trod_struct2 Tryz.underlying23 h0
    obtain ⟨a, sa, la⟩ := int_cell (k := .i64) Tryz.underlying3 k0
    obtain ⟨b, sb, lb⟩ := int_cell (k := .i64) Tryz.underlying3 k1
    obtain ⟨c, sc, lc⟩ := int_cell (k := .i64) Tryz.underlying3 h1
    obtain ⟨d, sd, ld⟩ := int_cell (k := .i64) Tryz.underlying3 h2
    have a3 := seg_get rfl (seg_get rfl (seg_get sa (j := 0) rfl))
    have b3 := seg_get rfl (seg_get rfl (seg_get sb (j := 0) rfl))
    have c3 := seg_get rfl (seg_get sc (j := 0) rfl)
    have d3 := seg_get rfl (seg_get sd (j := 0) rfl)
    have hl : (xs0.map (fun x => rowI x.1))[i / 4]? = some [a, b, c, d] := by
      rw [List.getElem?_map, hxi, hy, hz]
      simp only [Option.map_some, rowI, la, lb, lc, ld, litI]
    rw [e0] at hl
    have key : ∀ r, r < 8 → ((ofAgg (Rows.laid_onair_timecode_rates (H := Unit))).map rowI)[r]? = some [rateCells.getD (4 * r) 0, rateCells.getD (4 * r + 1) 0, rateCells.getD (4 * r + 2) 0, rateCells.getD (4 * r + 3) 0] := by decide
    rw [key _ hr] at hl
    simp only [Option.some.injEq, List.cons.injEq, and_true] at hl
    obtain ⟨rfl, rfl, rfl, rfl⟩ := hl
    have hv := World.var?_cell hg2 hv2 i
    rw [hv]
    obtain ⟨r, hr2⟩ : ∃ r, i / 4 = r := ⟨_, rfl⟩
    rw [hr2] at a3 b3 c3 d3
    have hi4 : i = 4 * r ∨ i = 4 * r + 1 ∨ i = 4 * r + 2 ∨ i = 4 * r + 3 := by omega
    rw [← Array.getElem?_toList]
    rcases hi4 with rfl | rfl | rfl | rfl
    · refine Eq.trans ?_ a3; congr 1; simp; try omega
    · refine Eq.trans ?_ b3; congr 1; simp; try omega
    · refine Eq.trans ?_ c3; congr 1; simp; try omega
    · refine Eq.trans ?_ d3; congr 1; simp; try omega
  · rintro rfl
    have h2 := (List.nodup_append.1 hnd).2.1
    simp [MemPlace.row] at h2
end Go.Proofs.YteeillphhiaopaaGreatDoor
namespace Go.Proofs.YteeillphhiaopaaGreatDoor
set_option maxRecDepth 100000
set_option maxHeartbeats 4000000
open Go.ChangeShapes Go.WideShapes Go.ChangeAt Go.RowKit Go.Shelf
set_option linter.unusedVariables false
def KeepC (n₀ n₁ n₂ : Nat) (W W' : World) : Prop := Below n₀ W W' ∧ ∀ (b : Nat) (o : Obj), n₁ ≤ b → W.heap[b]? = some o → (o.isCells = true ∨ n₂ ≤ b) → W'.heap[b]? = some o
theorem KeepC.refl (n₀ n₁ n₂ : Nat) (W : World) : KeepC n₀ n₁ n₂ W W := ⟨Below.refl _ _, fun _ _ _ h _ => h⟩
theorem KeepC.trans {n₀ n₁ n₂ : Nat} {A B C : World} (h : KeepC n₀ n₁ n₂ A B) (k : KeepC n₀ n₁ n₂ B C) : KeepC n₀ n₁ n₂ A C := ⟨h.1.trans k.1, fun b o hb ho hc => k.2 b o hb (h.2 b o hb ho hc) hc⟩
theorem KeepC.put {n₀ n₁ n₂ : Nat} {w : World} (hn : n₀ ≤ w.heap.size) (hn₂ : n₂ = w.heap.size + 2) (W : World) (l : Nat) (o o' : Obj) (hl : w.heap.size ≤ l) (hl2 : l < w.heap.size + 2) (h : W.heap[l]? = some o) (h1 : o.isCells = false) (h2 : o.isWalk = false) : KeepC n₀ n₁ n₂ W (W.putObj l o') :=
  ⟨belowK_b hn W l o o' hl h h1 h2, fun b o2 _ hb hc => by
    refine (World.putObj_heap_other ?_).trans hb
    intro e
    subst e
    rcases hc with hc | hc
    · rw [h] at hb
      cases hb
      rw [h1] at hc
      cases hc
    · omega⟩
theorem KeepC.below {n₀ n₁ n₂ : Nat} {W W' : World} (h : Below W.heap.size W W') (hn : n₀ ≤ W.heap.size) : KeepC n₀ n₁ n₂ W W' :=
  ⟨h.mono hn, fun b o _ ho _ => (h.block b (Array.getElem?_eq_some_iff.1 ho).1).trans ho⟩
theorem KeepC.set {n₀ n₁ n₂ : Nat} (W : World) {b i : Nat} (v : Value) (h0 : n₀ ≤ b) (h1 : b < n₁) : KeepC n₀ n₁ n₂ W (W.setCell ⟨b, i, none⟩ v) :=
  ⟨(Below.refl _ _).setCell h0 _, fun b' o hb ho _ => (Below.heap_setCell W ⟨b, i, none⟩ v b' (by show b' ≠ b; omega)).trans ho⟩
theorem KeepC.mono {n₀ n₁ n₂ m₁ m₂ : Nat} {W W' : World} (h : KeepC n₀ n₁ n₂ W W') (hm : n₁ ≤ m₁) (hm2 : n₂ ≤ m₂) : KeepC n₀ m₁ m₂ W W' := ⟨h.1, fun b o hb ho hc => h.2 b o (Nat.le_trans hm hb) ho (hc.imp id (Nat.le_trans hm2))⟩
theorem KeepC.box {n₀ n₁ n₂ : Nat} {W W' : World} (h : KeepC n₀ n₁ n₂ W W') {b : Nat} {t : TypeId} {vs : Array Value} (hb : n₁ ≤ b) (hx : Box W b t vs) : Box W' b t vs := h.2 b _ hb hx (.inl rfl)
theorem KeepC.from {n₀ n₁ n₂ B : Nat} {W W' : World} (h : KeepC n₀ n₁ n₂ W W') (h1 : n₁ ≤ B) (h2 : n₂ ≤ B) : KeepsFrom B W W' := ⟨h.1.size, fun k o hk ho _ => h.2 k o (by omega) ho (.inr (by omega))⟩
theorem OwnFrom.imp {β : Type} {B B' : Nat} {I : β → World → Prop} (h : OwnFrom B I) (hb : B ≤ B') : OwnFrom B' I := fun s W W' row hs hg hr => h s W W' row hs hg (fun r e => ⟨Nat.le_trans hb (hr r e).1, (hr r e).2⟩)
theorem OwnFrom.at {β γ : Type} {B : Nat} {I : β → World → Prop} (h : OwnFrom B I) (s : β) : OwnFrom B (fun (_ : γ) W => I s W) := fun _ W W' row hs hg hr => h s W W' row hs hg hr
theorem OwnFrom.below {β : Type} {B : Nat} {I : β → World → Prop} (h : OwnFrom B I) {s : β} {W W' : World} (hs : I s W) (hb : Below W.heap.size W W') : I s W' :=
  h s W W' none hs ⟨hb.os, hb.tape, hb.output, hb.size, fun k hk _ => hb.block k hk⟩ (fun r e => by cases e)
end Go.Proofs.YteeillphhiaopaaGreatDoor
namespace Go.Proofs.YteeillphhiaopaaGreatDoor
set_option maxRecDepth 100000
set_option maxHeartbeats 4000000
open Go.ChangeShapes Go.WideShapes Go.ChangeAt Go.RowKit Go.Shelf
set_option linter.unusedVariables false
set_option linter.unusedSimpArgs false
def over (l : List UInt8) (o : Nat) (s : List UInt8) : List UInt8 := l.take o ++ s ++ l.drop (o + s.length)
end Go.Proofs.YteeillphhiaopaaGreatDoor
namespace Go.Proofs.YteeillphhiaopaaGreatDoor
set_option maxRecDepth 100000
set_option maxHeartbeats 4000000
open Go.ChangeShapes Go.WideShapes Go.ChangeAt Go.RowKit Go.Shelf
set_option linter.unusedVariables false
set_option linter.unusedSimpArgs false
theorem placed_mem {L : List HB} {x : HB} : ∀ {is : List Nat}, x ∈ placed L is → ∃ i ∈ is, L[i]? = some x
  | [], h => by cases h
  | i :: is, h => by
    simp only [placed] at h
    split at h
    · rename_i y hy
      rcases List.mem_cons.1 h with rfl | h
      · exact ⟨i, List.mem_cons_self .., hy⟩
      · obtain ⟨j, hj, e⟩ := placed_mem h; exact ⟨j, List.mem_cons_of_mem _ hj, e⟩
    · obtain ⟨j, hj, e⟩ := placed_mem h; exact ⟨j, List.mem_cons_of_mem _ hj, e⟩
def distinct : List Nat → Bool
  | [] => true
  | i :: is => !is.contains i && distinct is
end Go.Proofs.YteeillphhiaopaaGreatDoor
namespace Go.Proofs.YteeillphhiaopaaGreatDoor
set_option maxRecDepth 100000
set_option maxHeartbeats 4000000
open Go.ChangeShapes Go.WideShapes Go.ChangeAt Go.RowKit
set_option linter.unusedVariables false
def int3 : Option (Int × Nat) → Value
  | none => .tuple #[.int .i64 0, .int .i64 0, .int .i64 10]
  | some (n, e) => .tuple #[.int .i64 n, .int .i64 e, .int .i64 0]
theorem pow128 (j : Nat) : (2 : Nat) ^ (7 * j) = 128 ^ j := by rw [Nat.pow_mul]
theorem pow128_lt {j : Nat} (h : j < 9) : 128 ^ j ≤ 72057594037927936 := by
  have : 128 ^ j ≤ 128 ^ 8 := Nat.pow_le_pow_right (by omega) (by omega)
  simpa using this
theorem u8_wrap64 (x : Nat) (h : x < 256) : IntKind.u64.wrap (x : Int) = x := by
  rw [IntKind.wrap_u64]; omega
theorem join_eq (y j b : Nat) (hy : y < 128 ^ j) (hj : j < 9) (hb : b < 256) :
    bits BinOp.or IntKind.u64 (y : Int) (IntKind.u64.wrap (IntKind.u64.wrap (bits BinOp.and IntKind.u8 (b : Int) 127) * 2 ^ (7 * j))) = ((y + b % 128 * 128 ^ j : Nat) : Int) := by
  have hp := pow128_lt hj
  have h1 : bits BinOp.and IntKind.u8 (b : Int) 127 = ((b % 128 : Nat) : Int) := by
    rw [show (127 : Int) = ((127 : Nat) : Int) from rfl, u8_and_nat b 127 hb (by omega)]
    congr 1
    exact Nat.and_two_pow_sub_one_eq_mod b 7
  rw [h1, u8_wrap64 _ (by omega)]
  have h2 : ((b % 128 : Nat) : Int) * 2 ^ (7 * j) = ((b % 128 * 128 ^ j : Nat) : Int) := by
    rw [← pow128]; push_cast; rfl
  have h3 : b % 128 * 128 ^ j ≤ 127 * 128 ^ j := Nat.mul_le_mul_right _ (by omega)
  rw [h2, IntKind.wrap_u64, show ((b % 128 * 128 ^ j : Nat) : Int) % 18446744073709551616 = ((b % 128 * 128 ^ j : Nat) : Int) by omega]
  rw [u64_or_nat _ _ (by omega) (by omega), Nat.or_comm, nat_join (7 * j) _ _ (by rw [pow128]; exact Nat.mul_mod_left _ _) (by rw [pow128]; exact hy)]
  congr 1
  omega
set_option maxRecDepth 100000 in
set_option maxHeartbeats 4000000 in
theorem wint_any (s : ByteArray) (k : Nat) (w : World) (hs : s.size ≤ 9000000000000000000) (hk : k ≤ s.size) :
    Calls Tryz.prog 134 #[.string s, .int .i64 k] w fun e w' => e = .returned (int3 (rdInt s.data.toList k)) ∧ w = w' := by
  have d0 : decide ((k : Int) < 0) = false := by simp
  have d1 : decide (s.size < k) = false := by simp; omega
  go_enter Tryz.func134, Tryz.ntmps134
  go_wp2_with fail
  go_loop [7, 8] (fun z i => ∃ (j y : Nat), j ≤ 9 ∧ k + j ≤ s.size ∧ i = .int .i64 j ∧ z = .int .u64 y ∧ y < 128 ^ j ∧ vget 9 0 0 (s.data.toList.drop k) = vget (9 - j) j y (s.data.toList.drop (k + j))) (fun _ i => 9 - (intOf i).toNat)
  case atStart => exact ⟨0, 0, by omega, by omega, rfl, rfl, by decide, rfl⟩
  case round =>
    obtain ⟨j, y, hj, hkj, rfl, rfl, hy, hv⟩ := hrel
    have HY := Lib.hid hy
    have HV := Lib.hid hv
    clear hy hv
    have dk : 0 ≤ (k : Int) + j := by omega
    by_cases h9 : j < 9
    · by_cases hl : k + j < s.size
      · have hl1 : (k : Int) + j < s.size := by omega
        have hb := (s[k + j]'hl).toNat_lt
        have hdrop : s.data.toList.drop (k + j) = s[k + j] :: s.data.toList.drop (k + (j + 1)) := by
          have hl' : k + j < s.data.toList.length := by simpa using hl
          rw [List.drop_eq_getElem_cons hl']
          rfl
        have HJ := Lib.hid (join_eq y j (s[k + j]'hl).toNat HY.out h9 hb)
        have HP := Lib.hid (pow128_lt h9)
        have hst : vget (9 - j) j y (s.data.toList.drop (k + j)) = (if 128 ≤ (s[k + j]'hl).toNat then vget (9 - (j + 1)) (j + 1) (y + (s[k + j]'hl).toNat % 128 * 128 ^ j) (s.data.toList.drop (k + (j + 1)))
            else if (s[k + j]'hl).toNat = 0 ∧ 0 < j then none
            else if unzig (y + (s[k + j]'hl).toNat % 128 * 128 ^ j) < -wmax then none
            else some (unzig (y + (s[k + j]'hl).toNat % 128 * 128 ^ j), j + 1)) := by
          rw [hdrop, show 9 - j = (9 - (j + 1)) + 1 by omega, vget]
        have HS := Lib.hid hst
        have hz : y + (s[k + j]'hl).toNat % 128 * 128 ^ j < 128 ^ (j + 1) := by
          rw [Nat.pow_succ]
          have h3 : (s[k + j]'hl).toNat % 128 * 128 ^ j ≤ 127 * 128 ^ j := Nat.mul_le_mul_right _ (by omega)
          have := HY.out
          omega
        have HZ := Lib.hid hz
        clear hst hz hdrop
        go_upto_region 8 with (fail)
        go_cut [7] (fun z wx => z = .int .u64 ((y + (s[k + j]'hl).toNat % 128 * 128 ^ j : Nat) : Int) ∧ w = wx)
        case first =>
          go_wp2_with fail
          go_meet
          exact ⟨congrArg _ HJ.out, rfl⟩
        case rest =>
          obtain ⟨rfl, rfl⟩ := hcut
          generalize y + (s[k + j]'hl).toNat % 128 * 128 ^ j = Z at *
          have hZb : Z < 9223372036854775808 := by
            have h1 := HZ.out
            have h2 : 128 ^ (j + 1) ≤ 128 ^ 9 := Nat.pow_le_pow_right (by omega) (by omega)
            have h3 : (128 : Nat) ^ 9 = 9223372036854775808 := by decide
            omega
          generalize hbb : (s[k + j]'hl).toNat = b at *
          clear hbb
          have fin : ∀ r, vget (9 - j) j y (s.data.toList.drop (k + j)) = r → rdInt s.data.toList k = r.map (fun p => (p.1, k + p.2)) := by
            intro r hr; unfold rdInt; rw [HV.out, hr]
          have FIN := Lib.hid fin
          clear fin
          by_cases h1 : 128 ≤ b
          · have hs1 := HS.out
            rw [if_pos h1] at hs1
            have HS1 := Lib.hid hs1
            have h1i : (128 : Int) ≤ b := by omega
            clear hs1 HS
            go_wp2_with fail
            go_round
            case rel => exact ⟨j + 1, Z, by omega, by omega, by go_num, rfl, HZ.out, HV.out.trans HS1.out⟩
            case measure => simp [intOf]; omega
          · have hs1 := HS.out
            rw [if_neg h1] at hs1
            have h1i : (b : Int) < 128 := by omega
            by_cases h2 : b = 0 ∧ 0 < j
            · rw [if_pos h2] at hs1
              have HF := Lib.hid (FIN.out _ hs1)
              obtain ⟨rfl, h2j⟩ := h2
              have h2i : (0 : Int) < j := by omega
              clear hs1 HS
              go_wp2_with fail
              go_ret3
              exact ⟨by rw [HF.out]; rfl, rfl⟩
            · rw [if_neg h2] at hs1
              have hodd : Z % 2 = 1 → unzig Z = -((Z : Int) / 2) - 1 := by intro ho; unfold unzig; rw [if_pos ho]; omega
              have heven : Z % 2 ≠ 1 → unzig Z = (Z : Int) / 2 := by intro ho; unfold unzig; rw [if_neg ho]; omega
              have F1 : unzig Z < -4611686018427387903 → Hid (rdInt s.data.toList k = none) := fun h3 => Lib.hid (by
                have h3' : unzig Z < -wmax := h3
                have := FIN.out _ hs1; rw [if_pos h3'] at this; exact this)
              have F2 : ¬ unzig Z < -4611686018427387903 → Hid (rdInt s.data.toList k = some (unzig Z, k + (j + 1))) := fun h3 => Lib.hid (by
                have h3' : ¬ unzig Z < -wmax := h3
                have := FIN.out _ hs1; rw [if_neg h3'] at this; exact this)
              have hbj : (((b : Int) == 0) = false) ∨ (b = 0 ∧ j = 0) := by
                by_cases h : b = 0
                · right; omega
                · left; simp; exact h
              have hz2 : (Z % 2 = 1 ∧ ((Z : Int) % 2 == 1) = true ∧ (Z % 2 == 1) = true) ∨ (Z % 2 ≠ 1 ∧ ((Z : Int) % 2 == 1) = false ∧ (Z % 2 == 1) = false) := by
                by_cases h : Z % 2 = 1
                · left; refine ⟨h, ?_, ?_⟩ <;> simp <;> omega
                · right; refine ⟨h, ?_, ?_⟩ <;> simp <;> omega
              clear hs1 HS h2 FIN
              rcases hz2 with ⟨ho, ho1, ho2⟩ | ⟨ho, ho1, ho2⟩
              · have hu := hodd ho
                rw [hu] at F1 F2
                have HU := Lib.hid hu
                clear hodd heven hu ho
                by_cases h3 : -((Z : Int) / 2) - 1 < -4611686018427387903
                · have HF := F1 h3
                  clear F1 F2
                  rcases hbj with hb1 | ⟨rfl, rfl⟩
                  all_goals
                    go_wp2_with fail
                    go_ret3
                    exact ⟨by rw [HF.out]; rfl, rfl⟩
                · have HF := F2 h3
                  clear F1 F2
                  rcases hbj with hb1 | ⟨rfl, rfl⟩
                  all_goals
                    go_wp2_with fail
                    go_ret3
                    exact ⟨by rw [HF.out]; unfold int3; push_cast; simp [Int.add_assoc], rfl⟩
              · have hu := heven ho
                rw [hu] at F1 F2
                have h3 : ¬ (Z : Int) / 2 < -4611686018427387903 := by omega
                have HF := F2 h3
                clear hodd heven hu ho F1 F2
                rcases hbj with hb1 | ⟨rfl, rfl⟩
                all_goals
                  go_wp2_with fail
                  go_ret3
                  exact ⟨by rw [HF.out]; unfold int3; push_cast; simp [Int.add_assoc], rfl⟩
      · have hr : rdInt s.data.toList k = none := by
          unfold rdInt
          rw [HV.out, List.drop_eq_nil_of_le (by simp; omega), show 9 - j = (9 - (j + 1)) + 1 by omega, vget]
          rfl
        have HR := Lib.hid hr
        have hl1 : ¬ (k : Int) + j < s.size := by omega
        clear hr
        go_wp2_with fail
        go_ret3
        exact ⟨by rw [HR.out]; rfl, rfl⟩
    · have hr : rdInt s.data.toList k = none := by
        unfold rdInt
        rw [HV.out, show 9 - j = 0 by omega, vget]
        rfl
      have HR := Lib.hid hr
      have h9d : decide ((j : Int) < 9) = false := by simp; omega
      clear hr
      go_wp2_with fail
      go_ret3
      exact ⟨by rw [HR.out]; rfl, rfl⟩
end Go.Proofs.YteeillphhiaopaaGreatDoor
namespace Go.Proofs.YteeillphhiaopaaGreatDoor
set_option maxRecDepth 100000
set_option maxHeartbeats 4000000
open Go.ChangeShapes Go.WideShapes Go.ChangeAt Go.RowKit
set_option linter.unusedVariables false
set_option linter.unusedSimpArgs false
theorem nums_mem {p : Pln} {P : Int → Prop} (h : ∀ z ∈ numsP p, P z) : (∀ z ∈ [p.channel, p.num, p.den, p.offset], P z) ∧ (∀ z ∈ ((p.sh.length : Nat) : Int) :: p.sh.flatMap altNs, P z) ∧ (∀ z ∈ [p.epoch, p.regions, p.length, p.fill], P z) ∧ (∀ z ∈ ((p.its.length : Nat) : Int) :: p.its.flatMap itNs, P z) ∧ (∀ z ∈ ((p.es.length : Nat) : Int) :: p.es.flatMap enNs, P z) ∧ (∀ z ∈ ((p.bs.length : Nat) : Int) :: p.bs.flatMap bkNs, P z) ∧ (∀ z ∈ ((p.cs.length : Nat) : Int) :: p.cs.flatMap clNs, P z) := by
 unfold numsP at h
 simp only [List.mem_append] at h
 exact ⟨fun z hz => h z (.inl (.inl (.inl (.inl (.inl (.inl hz)))))), fun z hz => h z (.inl (.inl (.inl (.inl (.inl (.inr hz)))))), fun z hz => h z (.inl (.inl (.inl (.inl (.inr hz))))), fun z hz => h z (.inl (.inl (.inl (.inr hz)))), fun z hz => h z (.inl (.inl (.inr hz))), fun z hz => h z (.inl (.inr hz)), fun z hz => h z (.inr hz)⟩
theorem lens7 {bs : List UInt8} {a b c d e f g : List Int} (h : bs.length + 9 * (a ++ b ++ c ++ d ++ e ++ f ++ g).length ≤ 100000000000000) : bs.length + 9 * a.length ≤ 100000000000000 ∧ (bs ++ encInts a).length + 9 * b.length ≤ 100000000000000 ∧ (bs ++ encInts a ++ encInts b).length + 9 * c.length ≤ 100000000000000 ∧ (bs ++ encInts a ++ encInts b ++ encInts c).length + 9 * d.length ≤ 100000000000000 ∧ (bs ++ encInts a ++ encInts b ++ encInts c ++ encInts d).length + 9 * e.length ≤ 100000000000000 ∧ (bs ++ encInts a ++ encInts b ++ encInts c ++ encInts d ++ encInts e).length + 9 * f.length ≤ 100000000000000 ∧ (bs ++ encInts a ++ encInts b ++ encInts c ++ encInts d ++ encInts e ++ encInts f).length + 9 * g.length ≤ 100000000000000 := by
 have h1 := encInts_len a
 have h2 := encInts_len b
 have h3 := encInts_len c
 have h4 := encInts_len d
 have h5 := encInts_len e
 have h6 := encInts_len f
 simp only [List.length_append] at *
 refine ⟨?_, ?_, ?_, ?_, ?_, ?_, ?_⟩ <;> omega
theorem nums_some (p : Pln) : [] ++ encInts (numsP p) ≠ [] := by
 unfold numsP
 simp only [List.append_assoc, List.cons_append, encInts_cons, List.nil_append]
 intro h
 have := congrArg List.length h
 have := (encInt_len p.channel).1
 simp only [List.length_append, List.length_nil] at *
 omega
theorem bld_new {base b : Nat} {v : Value} {bs : List UInt8} {w : World} (h : (bldW base b v bs).F w) : ∀ k, (bldW base b v bs).fp k → base ≤ k := by
 obtain ⟨h1, _, h3, _⟩ := h
 rintro k (rfl | hk)
 ·exact h1
 ·exact (h3.lt k hk).1
theorem Hp.oldBld {w0 w : World} {L : List HB} {K : List FK} (H : Hp w0 w L K) (i : Nat) {b : Nat} {v : Value} {bs : List UInt8} (hi : L[i]? = some (bldW w0.heap.size b v bs)) {k : Nat} (hk : k < w0.heap.size) (hf : ∀ x ∈ L, x.fresh = true) : w.heap[k]? = w0.heap[k]? :=
 H.old k hk fun x hx hxk => by have := H.fresh x hx (hf x hx) k hxk; omega
theorem Hp.belowB {w0 w : World} {L : List HB} {K : List FK} (H : Hp w0 w L K) (hf : ∀ x ∈ L, x.fresh = true) : Below w0.heap.size w0 w := H.below (List.all_eq_true.2 hf)
def encV (p : Pln) : Value := if validPl p then .tuple #[.string (bstr ([] ++ encInts (numsP p))), .int .i64 0] else .tuple #[.string (bstr []), .int .i64 80]
theorem wplan_any (base b : Nat) (v : Value) (bs : List UInt8) (p : Pln) (w : World) (h : (bldW base b v bs).F w) (hpl : IsPln w p) (hnp : ∀ k, p.fp k → ¬ (bldW base b v bs).fp k) (hz : ∀ z ∈ numsP p, -wmax ≤ z ∧ z ≤ wmax) (hlen : bs.length + 9 * (numsP p).length ≤ 100000000000000) : Calls Tryz.prog 56 #[.pointer (some ⟨b, 0, none⟩), (plV p)] w (PutPost base b v bs (numsP p) w) := by
 obtain ⟨hz1, hz2, hz3, hz4, hz5, hz6, hz7⟩ := nums_mem hz
 obtain ⟨hl1, hl2, hl3, hl4, hl5, hl6, hl7⟩ := lens7 (bs := bs) (a := [p.channel, p.num, p.den, p.offset]) (b := (p.sh.length : Int) :: p.sh.flatMap altNs) (c := [p.epoch, p.regions, p.length, p.fill]) (d := (p.its.length : Int) :: p.its.flatMap itNs) (e := (p.es.length : Int) :: p.es.flatMap enNs) (f := (p.bs.length : Int) :: p.bs.flatMap bkNs) (g := (p.cs.length : Int) :: p.cs.flatMap clNs) hlen
 have HP : Hp w w [bldV w.heap.size base b v v bs] [plnK p] := (Hp.ownV h).keepV (plnK p) hpl (plnK_ok p) (fun k hk => hpl.lt k hk) hnp
 refine w_enter 55 [(0, (pt b 0)), (1, (plV p))] Tryz.func56 rfl Tryz.ntmps56 (by kernel_rfl) (by kernel_rfl) fun a H => ?_
 refine sq (rg ?_)
 refine H.al HP 2 125 [(pt b 0)] fun b_1 w_2 a H HP => H.al HP 3 32 (plL p) fun b_3 w_4 a H HP => ?_
 refine nl (tn (sq (rg ?_)))
 refine H.u 4 (pt b 0) (ex_l1 (HP.cell 1 rfl 0 rfl)) fun a H => H.v 5 (pt b_3 0) fun a H => H.u 6 (ii p.channel) (ex_l1 (HP.cell 0 rfl 0 rfl)) fun a H => H.v 7 (pt b_3 1) fun a H => H.v 8 (pt b_3 1) fun a H => H.u 9 (ii p.num) (ex_l1 (HP.cell 0 rfl 1 rfl)) fun a H => H.v 10 (pt b_3 1) fun a H => H.v 11 (pt b_3 2) fun a H => H.u 12 (ii p.den) (ex_l1 (HP.cell 0 rfl 2 rfl)) fun a H => H.v 13 (pt b_3 3) fun a H => H.v 14 (pt b_3 3) fun a H => H.u 15 (ii p.offset) (ex_l1 (HP.cell 0 rfl 3 rfl)) fun a H => H.alloc HP 16 (fun b => (.slice (some ⟨b, 0, none⟩) 4 4)) 3 [(ii p.channel), (ii p.num), (ii p.den), (ii p.offset)] (by kernel_rfl) (fun w => by kernel_rfl) fun b_5 w_6 a H HP => ?_
 refine H.cl 17 (Tryz.call81 _ _) (put_any base b v bs b_5 [p.channel, p.num, p.den, p.offset] w_6 (HP.held 3 rfl).1 (HP.at_ 0 rfl) (fun k hk => HP.notBld 3 0 rfl rfl (by decide) k hk) hz1 hl1) ?_
 rintro e w_11 ⟨rfl, v_7, hF_8, hag_9, hv_10⟩
 refine ⟨_, rfl, ?_⟩
 intro a H
 have HP := HP.putV 3 rfl _ rfl hF_8 hag_9 hv_10
 refine nl (tn (sq (rg ?_)))
 refine H.u 18 (pt b 0) (ex_l1 (HP.cell 2 rfl 0 rfl)) fun a H => H.v 19 (pt b_3 3) fun a H => H.v 20 (pt b_3 4) fun a H => H.u 21 (.slice p.SA p.sh.length p.sc) (ex_l1 (HP.cell 1 rfl 4 rfl)) fun a H => H.v 22 (.func (.func 83) #[] #[(pt b_1 0)]) fun a H => ?_
 refine H.cl 23 (Tryz.call82 _ _) (writeS_any base b v_7 (bs ++ encInts ([p.channel, p.num, p.den, p.offset])) b_1 p.SA p.sc p.sh w_11 (HP.held 3 rfl).1 (HP.at_ 2 rfl) (fun k hk => HP.notBld 3 2 rfl rfl (by decide) k hk) (HP.fact 0 rfl : IsPln _ p).sh (fun k hk => HP.factBld 3 0 rfl rfl k (.inl hk)) hpl.lsh hz2 hl2) ?_
 rintro e w_16 ⟨rfl, v_12, hF_13, hag_14, hv_15⟩
 refine ⟨_, rfl, ?_⟩
 intro a H
 have HP := HP.putV 3 rfl _ rfl hF_13 hag_14 hv_15
 refine nl (tn (sq (rg ?_)))
 refine H.u 24 (pt b 0) (ex_l1 (HP.cell 2 rfl 0 rfl)) fun a H => H.v 25 (pt b_3 5) fun a H => H.u 26 (ii p.epoch) (ex_l1 (HP.cell 1 rfl 5 rfl)) fun a H => H.v 27 (pt b_3 6) fun a H => H.u 28 (ii p.regions) (ex_l1 (HP.cell 1 rfl 6 rfl)) fun a H => H.v 29 (pt b_3 7) fun a H => H.u 30 (ii p.length) (ex_l1 (HP.cell 1 rfl 7 rfl)) fun a H => H.v 31 (pt b_3 8) fun a H => H.u 32 (ii p.fill) (ex_l1 (HP.cell 1 rfl 8 rfl)) fun a H => H.alloc HP 33 (fun b => (.slice (some ⟨b, 0, none⟩) 4 4)) 3 [(ii p.epoch), (ii p.regions), (ii p.length), (ii p.fill)] (by kernel_rfl) (fun w => by kernel_rfl) fun b_17 w_18 a H HP => ?_
 refine H.cl 34 (Tryz.call81 _ _) (put_any base b v_12 (bs ++ encInts ([p.channel, p.num, p.den, p.offset]) ++ encInts ((p.sh.length : Int) :: p.sh.flatMap altNs)) b_17 [p.epoch, p.regions, p.length, p.fill] w_18 (HP.held 4 rfl).1 (HP.at_ 0 rfl) (fun k hk => HP.notBld 4 0 rfl rfl (by decide) k hk) hz3 hl3) ?_
 rintro e w_23 ⟨rfl, v_19, hF_20, hag_21, hv_22⟩
 refine ⟨_, rfl, ?_⟩
 intro a H
 have HP := HP.putV 4 rfl _ rfl hF_20 hag_21 hv_22
 refine nl (tn (sq (rg ?_)))
 refine H.u 35 (pt b 0) (ex_l1 (HP.cell 3 rfl 0 rfl)) fun a H => H.v 36 (pt b_3 9) fun a H => H.u 37 (.slice p.IA p.its.length p.ic) (ex_l1 (HP.cell 2 rfl 9 rfl)) fun a H => H.v 38 (.func (.func 85) #[] #[(pt b_1 0)]) fun a H => ?_
 refine H.cl 39 (Tryz.call84 _ _) (writeI_any base b v_19 (bs ++ encInts ([p.channel, p.num, p.den, p.offset]) ++ encInts ((p.sh.length : Int) :: p.sh.flatMap altNs) ++ encInts ([p.epoch, p.regions, p.length, p.fill])) b_1 p.IA p.ic p.its w_23 (HP.held 4 rfl).1 (HP.at_ 3 rfl) (fun k hk => HP.notBld 4 3 rfl rfl (by decide) k hk) (HP.fact 0 rfl : IsPln _ p).its (fun k hk => HP.factBld 4 0 rfl rfl k (.inr (.inl hk))) hpl.lits hz4 hl4) ?_
 rintro e w_28 ⟨rfl, v_24, hF_25, hag_26, hv_27⟩
 refine ⟨_, rfl, ?_⟩
 intro a H
 have HP := HP.putV 4 rfl _ rfl hF_25 hag_26 hv_27
 refine nl (tn (sq (rg ?_)))
 refine H.u 40 (pt b 0) (ex_l1 (HP.cell 3 rfl 0 rfl)) fun a H => H.v 41 (pt b_3 10) fun a H => H.u 42 (.slice p.EA p.es.length p.ec) (ex_l1 (HP.cell 2 rfl 10 rfl)) fun a H => H.v 43 (.func (.func 87) #[] #[(pt b_1 0)]) fun a H => ?_
 refine H.cl 44 (Tryz.call86 _ _) (writeE_any base b v_24 (bs ++ encInts ([p.channel, p.num, p.den, p.offset]) ++ encInts ((p.sh.length : Int) :: p.sh.flatMap altNs) ++ encInts ([p.epoch, p.regions, p.length, p.fill]) ++ encInts ((p.its.length : Int) :: p.its.flatMap itNs)) b_1 p.EA p.ec p.es w_28 (HP.held 4 rfl).1 (HP.at_ 3 rfl) (fun k hk => HP.notBld 4 3 rfl rfl (by decide) k hk) (HP.fact 0 rfl : IsPln _ p).es (fun k hk => HP.factBld 4 0 rfl rfl k (.inr (.inr (.inl hk)))) hpl.les hz5 hl5) ?_
 rintro e w_33 ⟨rfl, v_29, hF_30, hag_31, hv_32⟩
 refine ⟨_, rfl, ?_⟩
 intro a H
 have HP := HP.putV 4 rfl _ rfl hF_30 hag_31 hv_32
 refine nl (tn (sq (rg ?_)))
 refine H.u 45 (pt b 0) (ex_l1 (HP.cell 3 rfl 0 rfl)) fun a H => H.v 46 (pt b_3 11) fun a H => H.u 47 (.slice p.BA p.bs.length p.bc) (ex_l1 (HP.cell 2 rfl 11 rfl)) fun a H => H.v 48 (.func (.func 91) #[] #[(pt b_1 0)]) fun a H => ?_
 refine H.cl 49 (Tryz.call90 _ _) (writeB_any base b v_29 (bs ++ encInts ([p.channel, p.num, p.den, p.offset]) ++ encInts ((p.sh.length : Int) :: p.sh.flatMap altNs) ++ encInts ([p.epoch, p.regions, p.length, p.fill]) ++ encInts ((p.its.length : Int) :: p.its.flatMap itNs) ++ encInts ((p.es.length : Int) :: p.es.flatMap enNs)) b_1 p.BA p.bc p.bs w_33 (HP.held 4 rfl).1 (HP.at_ 3 rfl) (fun k hk => HP.notBld 4 3 rfl rfl (by decide) k hk) (HP.fact 0 rfl : IsPln _ p).bs (fun k hk => HP.factBld 4 0 rfl rfl k (.inr (.inr (.inr (.inl hk))))) hpl.lbs hz6 hl6) ?_
 rintro e w_38 ⟨rfl, v_34, hF_35, hag_36, hv_37⟩
 refine ⟨_, rfl, ?_⟩
 intro a H
 have HP := HP.putV 4 rfl _ rfl hF_35 hag_36 hv_37
 refine nl (tn (rg ?_))
 refine H.u 50 (pt b 0) (ex_l1 (HP.cell 3 rfl 0 rfl)) fun a H => H.v 51 (pt b_3 12) fun a H => H.u 52 (.slice p.CA p.cs.length p.cc) (ex_l1 (HP.cell 2 rfl 12 rfl)) fun a H => H.v 53 (.func (.func 93) #[] #[(pt b_1 0)]) fun a H => ?_
 refine H.cl 54 (Tryz.call92 _ _) (writeC_any base b v_34 (bs ++ encInts ([p.channel, p.num, p.den, p.offset]) ++ encInts ((p.sh.length : Int) :: p.sh.flatMap altNs) ++ encInts ([p.epoch, p.regions, p.length, p.fill]) ++ encInts ((p.its.length : Int) :: p.its.flatMap itNs) ++ encInts ((p.es.length : Int) :: p.es.flatMap enNs) ++ encInts ((p.bs.length : Int) :: p.bs.flatMap bkNs)) b_1 p.CA p.cc p.cs w_38 (HP.held 4 rfl).1 (HP.at_ 3 rfl) (fun k hk => HP.notBld 4 3 rfl rfl (by decide) k hk) (HP.fact 0 rfl : IsPln _ p).cs (fun k hk => HP.factBld 4 0 rfl rfl k (.inr (.inr (.inr (.inr hk))))) hpl.lcs hz7 hl7) ?_
 rintro e w_43 ⟨rfl, v_39, hF_40, hag_41, hv_42⟩
 refine ⟨_, rfl, ?_⟩
 intro a H
 have HP := HP.putV 4 rfl _ rfl hF_40 hag_41 hv_42
 refine nl ?_
 refine H.end0 (fn := Tryz.f56) Tryz.results56  ?_
 exact HP.endV 4 rfl (by simp only [numsP, encInts_append, List.append_assoc]) (by simp [bx])
theorem encode_any (p : Pln) (w : World) (hpl : IsPln w p) (hL : LaidR w) : Calls Tryz.prog 25 #[(plV p)] w fun e w' => e = .returned (encV p) ∧ Below w.heap.size w w' := by
 have HP := Hp.start w
 refine w_enter 12 [(0, (plV p))] Tryz.func25 rfl Tryz.ntmps25 (by kernel_rfl) (by kernel_rfl) fun a H => ?_
 refine sq (rg ?_)
 refine H.al HP 1 32 (plL p) fun b_1 w_2 a H HP => H.v 2 (.string (bstr ([]))) fun a H => H.v 3 (ii 0) fun a H => ?_
 refine nl (tn (sq (sq (rg ?_))))
 refine H.u 5 (plV p) (ex_lN (plL p) (HP.cells 0 rfl 0 13 (by kernel_rfl))) fun a H => H.cb HP 6 (Tryz.call14 _ _) (valid_any p w_2 (hpl.below HP.bl) (hL.below HP.bl)) fun w_3 hb a H HP => H.v 7 (.bool (!(validPl p))) fun a H => ?_
 refine nl (tn ?_)
 refine w_if H rfl (fun g7 => ?_) (fun g7 => ?_)
 ·have g7p := not_is_true g7
  refine sq (rg ?_)
  refine H.v 2 (.string (bstr ([]))) fun a H => H.v 3 (ii 80) fun a H => ?_
  refine nl (tn (rt (tr ?_)))
  refine H.ret2 (fn := Tryz.f25) Tryz.results25 (RV.tmp_ (v := (.string (bstr ([])))) (by kernel_rfl)) (RV.tmp_ (v := (ii 80)) (by kernel_rfl)) ?_
  exact ⟨by unfold encV; rw [show validPl p = false from g7p]; rfl, HP.bl⟩
 have g7p := not_is_false g7
 refine sk (tn (sq (rg ?_)))
 refine H.al HP 4 94 [(.pointer none), (.slice none 0 0)] fun b_4 w_5 a H HP => ?_
 refine nl ?_
 have HP := HP.toBld 0 5 rfl [(bldW w.heap.size b_4 (.slice none 0 0) []), bx b_1 32 (plL p) true] (by kernel_rfl)
 refine tn (sq (rg ?_))
 refine H.u 8 (plV p) (ex_lN (plL p) (HP.cells 1 rfl 0 13 (by kernel_rfl))) fun a H => ?_
 obtain ⟨hzs, hcnt⟩ := valid_nums g7p
 refine H.cl 9 (Tryz.call56 _ _) (wplan_any w.heap.size b_4 (.slice none 0 0) [] p w_5 (HP.held 0 rfl) (hpl.keep (fun k hk => HP.oldBld 0 rfl (hpl.lt k hk) (by simp [bx, bldG])) HP.size) (fun k hk hf => by have h1 := bld_new (HP.held 0 rfl) k hf; have h2 := hpl.lt k hk; omega) hzs (by simp only [List.length_nil]; omega)) ?_
 rintro e w_6 ⟨rfl, v1, hF, hag, hv⟩
 refine ⟨_, rfl, ?_⟩
 intro a H
 have HP := HP.wrote 0 rfl [(bldW w.heap.size b_4 v1 ([] ++ encInts (numsP p))), bx b_1 32 (plL p) true] (by kernel_rfl) hF hag hv
 refine nl (tn (sq (rg ?_)))
 refine H.v 10 (pt b_4 0) fun a H => ?_
 refine H.cl 11 (Tryz.call57 _ _) (strW_any w.heap.size b_4 v1 ([] ++ encInts (numsP p)) w_6 (HP.held 0 rfl) (nums_some p)) ?_
 rintro e w_7 ⟨rfl, hF2, hag2⟩
 refine ⟨_, rfl, ?_⟩
 intro a H
 have HP := HP.wrote 0 rfl [(bldW w.heap.size b_4 v1 ([] ++ encInts (numsP p))), bx b_1 32 (plL p) true] (by kernel_rfl) hF2 hag2 (fun k hk => .inl hk)
 refine H.v 2 (.string (bstr ([] ++ encInts (numsP p)))) fun a H => H.v 3 (ii 0) fun a H => ?_
 refine nl (tn (rt ?_))
 refine H.ret2 (fn := Tryz.f25) Tryz.results25 (RV.tmp_ (v := (.string (bstr ([] ++ encInts (numsP p))))) (by kernel_rfl)) (RV.tmp_ (v := (ii 0)) (by kernel_rfl)) ?_
 exact ⟨by unfold encV; rw [show validPl p = true from g7p]; rfl, HP.belowB (by simp [bx, bldG])⟩
end Go.Proofs.YteeillphhiaopaaGreatDoor
