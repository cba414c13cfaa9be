/- Contract of wire's PutInt. -/
import Derived.RangeFuncBox
import Derived.RangeFuncLeaves
import Derived.Shelf.Abstract
import Derived.OwnWalkIn
import Derived.TacticsInMore
import Derived.LoopNIn
import Derived.LoopIn
import Derived.RangeFuncFrom
import Derived.Laws.IdiomStrings
import Derived.WalkLawsBesides
import Derived.Test.YtgdjpaeclicdfaaDoorWireP
namespace Go.Proofs.YtgdjpaeclicdfaaDoor
open Go.ChangeShapes Go.WideShapes Go.ChangeAt Go.RowKit Go.Shelf
set_option linter.unusedVariables false
attribute [local go_sem] Oper.semAt_some

/-- A group of 7 bits, and whether another one follows. -/
abbrev Grp := { p : Nat × Bool // p.1 < 128 }
def grps : Nat → Nat → List Grp
  | 0, _ => []
  | f + 1, z => if h : z < 128 then [⟨(z, false), h⟩] else ⟨(z % 128, true), by omega⟩ :: grps f (z / 128)
def grpByte (g : Grp) : Nat := if g.1.2 then g.1.1 + 128 else g.1.1
theorem grps_put (f z : Nat) : (grps f z).map grpByte = vput f z := by
  induction f generalizing z with
  | zero => rfl
  | succ f ih =>
    unfold grps vput
    by_cases h : z < 128
    · rw [dif_pos h, if_pos h]; rfl
    · rw [dif_neg h, if_neg h, List.map_cons, ih]; rfl
theorem grps_len (f z : Nat) : (grps f z).length = (vput f z).length := by rw [← grps_put, List.length_map]

set_option maxHeartbeats 1000000 in
theorem groups_in (n : Nat) (z : Int) (w : World) :
    CallsIn Fence.wide n Tryd.prog 82 #[.int .u64 z] w fun e w' => e = .returned (.func (.func 85) #[] #[.pointer (some ⟨w.heap.size, 0, none⟩)]) ∧ w' = w.alloc (.cells #[.int .u64 z] 129) := by
  refine callsIn_of_wp Tryd.func82 rfl trivial ?_ rfl
  simp only [Tryd.ntmps82, List.size_toArray, List.length_cons, List.length_nil, Nat.reduceAdd, Nat.reduceSub, Array.replicate_succ, Array.replicate_zero, List.push_toArray, List.append_toArray, List.nil_append, List.cons_append]
  gi_wp2
  go_ret
  exact ⟨rfl, rfl⟩

theorem and127 (z : Nat) (h : z < 18446744073709551616) : bits BinOp.and IntKind.u64 (z : Int) 127 = ((z % 128 : Nat) : Int) := by
  rw [show (127 : Int) = ((127 : Nat) : Int) from rfl, u64_and_nat z 127 h (by omega)]
  congr 1
  exact Nat.and_two_pow_sub_one_eq_mod z 7
theorem wrap_u8 (x : Nat) (h : x < 256) : IntKind.u8.wrap (x : Int) = x := by rw [IntKind.wrap_u8']; omega

set_option maxRecDepth 100000 in
set_option maxHeartbeats 2000000 in
theorem groups1_in (n : Nat) (hn : 1 ≤ n) (l Bs : Nat) (z N : Nat) (f : Nat) (hz : z < 128 ^ f) (hf : 0 < f) (hf9 : f ≤ 9) (hN : (vput f z).length ≤ N) (Kp : World → World → Prop) (J Jx : List Grp → World → Prop)
    (hY : ∀ pre x W, J pre W → pre.length < N → YieldAt Fence.wide (n - 1) Tryd.prog l #[.int .u8 (x.1.1 : Int), .bool x.1.2] W fun e W' =>
      (e = .returned (.bool true) ∧ J (pre ++ [x]) W' ∧ Kp W W') ∨ (e = .returned (.bool false) ∧ Jx (pre ++ [x]) W'))
    (W : World) (hBs : W.cell? ⟨Bs, 0, none⟩ = some (.int .u64 (z : Int))) (h0 : J [] W) :
    CallsIn Fence.wide n Tryd.prog 85 #[.func (.yield l) #[] #[], .pointer (some ⟨Bs, 0, none⟩)] W fun e W' => (∃ v, e = .returned v) ∧
      ((∃ ys, ys = grps f z ∧ J ys W') ∨ (∃ pre, True ∧ Jx pre W')) := by
  have HZ := Lib.hid hz
  have HN := Lib.hid hN
  clear hz hN
  refine callsIn_of_wp Tryd.func85 rfl trivial ?_ rfl
  simp only [Tryd.ntmps85, List.size_toArray, List.length_cons, List.length_nil, Nat.reduceAdd, Nat.reduceSub, Array.replicate_succ, Array.replicate_zero, List.push_toArray, List.append_toArray, List.nil_append, List.cons_append]
  gi_wp2
  gi_loopw [3] (fun r wr => ∃ (pre : List Grp) (g y : Nat), g ≤ f ∧ 0 < g ∧ r = .int .u64 (y : Int) ∧ y < 128 ^ g ∧ grps f z = pre ++ grps g y ∧ J pre wr)
    (fun r _ => (intOf r).toNat)
  case atStart => exact ⟨[], f, z, Nat.le_refl _, hf, rfl, HZ.out, rfl, h0⟩
  case round =>
    obtain ⟨pre, g, y, hgf, hg, rfl, hy, hpre, hJs⟩ := hrel
    have hyb : y < 9223372036854775808 := by
      have : 128 ^ g ≤ 128 ^ 9 := Nat.pow_le_pow_right (by omega) (by omega)
      have h3 : (128 : Nat) ^ 9 = 9223372036854775808 := by decide
      omega
    have HY := Lib.hid hy
    have hlen : pre.length + (grps g y).length ≤ N := by
      have e := congrArg List.length hpre
      rw [grps_len, List.length_append] at e
      have := HN.out
      omega
    have hpos := (vput_len g y hg).1
    rw [← grps_len] at hpos
    have HP := Lib.hid hpre
    clear hy hpre
    obtain ⟨g', rfl⟩ : ∃ g', g = g' + 1 := ⟨g - 1, by omega⟩
    by_cases hlt : 128 ≤ y
    · have hlti : (128 : Int) ≤ (y : Int) := by omega
      obtain ⟨m, hm⟩ : ∃ m : Nat, y % 128 = m := ⟨_, rfl⟩
      have hm1 : m < 128 := by omega
      have hst : grps (g' + 1) y = ⟨(m, true), hm1⟩ :: grps g' (y / 128) := by
        rw [grps, dif_neg (by omega)]
        congr 1
        exact Subtype.ext (by simp [hm])
      obtain ⟨fn, tmps, assign, body, hyy, hR⟩ := hY pre ⟨(m, true), hm1⟩ wr hJs (by omega)
      dsimp only at hyy
      have hA : bits BinOp.and IntKind.u64 (y : Int) 127 = (m : Int) := by rw [and127 y (by omega), hm]
      have hA2 : (m : Int) % 256 = m := by omega
      have hp2 : grps f z = (pre ++ [⟨(m, true), hm1⟩]) ++ grps g' (y / 128) := by rw [HP.out, hst]; simp
      have HP2 := Lib.hid hp2
      have hg2 : 0 < g' := by
        rcases Nat.eq_zero_or_pos g' with h0 | h0
        · subst h0; have := HY.out; simp at this; omega
        · exact h0
      have hy2 : y / 128 < 128 ^ g' := by have := HY.out; rw [Nat.pow_succ] at this; omega
      have HY2 := Lib.hid hy2
      clear hst hp2 hy2 hm
      gi_wp2
      refine hR.mono ?_
      rintro e W3 (⟨rfl, hJ3, hk3⟩ | ⟨rfl, hJx3⟩)
      · clear hA hA2
        gi_wp2
        go_roundw
        case rel => exact ⟨pre ++ [⟨(m, true), hm1⟩], g', y / 128, by omega, hg2, congrArg (Value.int .u64) (by omega), HY2.out, HP2.out, hJ3⟩
        case measure => simp [intOf]; omega
      · clear hA hA2
        gi_wp2
        refine bodyPost_ret (results_none rfl _ _ _) rfl ?_
        exact ⟨⟨_, rfl⟩, .inr ⟨_, trivial, hJx3⟩⟩
    · have hlti : (y : Int) < 128 := by omega
      have hst : grps (g' + 1) y = [⟨(y, false), by omega⟩] := by
        rw [grps, dif_pos (by omega)]
      obtain ⟨fn, tmps, assign, body, hyy, hR⟩ := hY pre ⟨(y, false), by omega⟩ wr hJs (by omega)
      dsimp only at hyy
      have hp2 : grps f z = pre ++ [⟨(y, false), by omega⟩] := by rw [HP.out, hst]
      have HP2 := Lib.hid hp2
      have hA2 : (y : Int) % 256 = y := by omega
      clear hst hp2
      gi_wp2
      refine hR.mono ?_
      rintro e W3 (⟨rfl, hJ3, hk3⟩ | ⟨rfl, hJx3⟩)
      · clear hA2
        gi_wp2
        go_end0
        exact ⟨⟨_, rfl⟩, .inl ⟨_, HP2.out.symm, hJ3⟩⟩
      · clear hA2
        gi_wp2
        go_end0
        exact ⟨⟨_, rfl⟩, .inr ⟨_, trivial, hJx3⟩⟩

theorem groups_stops (n : Nat) (hn : 1 ≤ n) (Bs : Nat) (z N f : Nat) (hz : z < 128 ^ f) (hf : 0 < f) (hf9 : f ≤ 9) (hN : (vput f z).length ≤ N) (Kp : World → World → Prop) (w : World) (hBs : Bs < w.heap.size)
    (hc : w.cell? ⟨Bs, 0, none⟩ = some (.int .u64 (z : Int))) :
    SeqStopsK Fence.wide n Tryd.prog 85 #[.pointer (some ⟨Bs, 0, none⟩)] (fun x : Grp => #[Value.int .u8 (x.1.1 : Int), Value.bool x.1.2]) Kp (fun ys => ys = grps f z) (fun _ => True) N w := fun l J Jx W hW _ _ hY h0 =>
  groups1_in n hn l Bs z N f hz hf hf9 hN Kp J Jx hY W ((hW.cell (p := ⟨Bs, 0, none⟩) hBs).trans hc) h0

/-- What PutInt hands back. -/
def putV (n : Int) : Value := .tuple #[.string ⟨(encInt n).toArray⟩, .int .i64 0]

/-- The variables of PutInt while it runs: the array, and how many bytes it holds. -/
def PBox (B : Nat) (W : World) (pre : List Grp) : Prop :=
  (∀ i, i < 9 → W.cell? ⟨B, i, none⟩ = some (.int .u8 (((pre.map grpByte).getD i 0 : Nat) : Int)) ∧ W.frozen? ⟨B, i, none⟩ = false) ∧ W.cell? ⟨B + 1, 0, none⟩ = some (.int .i64 pre.length) ∧ W.frozen? ⟨B + 1, 0, none⟩ = false
theorem grpByte_lt (g : Grp) : grpByte g < 256 := by
  have := g.2
  unfold grpByte
  split <;> omega
theorem pbox_step {B : Nat} {W : World} {pre : List Grp} {x : Grp} (h : PBox B W pre) (hl : pre.length < 9) :
    PBox B ((W.setCell ⟨B, pre.length, none⟩ (.int .u8 (grpByte x : Int))).setCell ⟨B + 1, 0, none⟩ (.int .i64 ((pre.length : Int) + 1))) (pre ++ [x]) := by
  obtain ⟨h1, h2, h3⟩ := h
  refine ⟨fun i hi => ?_, ?_, ?_⟩
  · rw [World.frozen?_setCell, World.frozen?_setCell, World.cell?_setCell_other _ _ _ _ (by simp)]
    refine ⟨?_, (h1 i hi).2⟩
    by_cases e : i = pre.length
    · subst e
      rw [World.cell?_setCell_same' _ _ _ (by rw [(h1 _ hl).1]; rfl)]
      simp [List.getD]
    · rw [World.cell?_setCell_other _ _ _ _ (by simp), (h1 i hi).1]
      congr 3
      simp only [List.map_append, List.getD]
      by_cases hi2 : i < pre.length
      · rw [List.getElem?_append_left (by simpa using hi2)]
      · rw [List.getElem?_eq_none (by simp; omega), List.getElem?_eq_none (by simp; omega)]
  · rw [World.cell?_setCell_same' _ _ _ (by rw [World.cell?_setCell_other _ _ _ _ (by simp), h2]; rfl)]
    simp
  · rw [World.frozen?_setCell, World.frozen?_setCell]; exact h3

theorem putInt_start (w : World) (z : Nat) (W0 : World) (hW0 : ((w.alloc (Obj.cells #[.int .u8 0, .int .u8 0, .int .u8 0, .int .u8 0, .int .u8 0, .int .u8 0, .int .u8 0, .int .u8 0, .int .u8 0] 131)).alloc (Obj.cells #[Value.int IntKind.i64 0] 3)).alloc (Obj.cells #[Value.int IntKind.u64 (z : Int)] 129) = W0) :
    Below w.heap.size w W0 ∧ W0.heap.size = w.heap.size + 1 + 1 + 1 ∧ PBox w.heap.size W0 [] ∧ W0.cell? ⟨w.heap.size + 1 + 1, 0, none⟩ = some (.int .u64 (z : Int)) := by
  refine ⟨by rw [← hW0]; exact (((Below.refl _ w).alloc (Nat.le_refl _) _).alloc (by simp) _).alloc (by simp; omega) _, by rw [← hW0]; simp, ⟨fun i hi => ?_, ?_, ?_⟩, ?_⟩ <;> rw [← hW0]
  · rw [World.cell?_alloc_lt _ _ _ (by simp; omega), World.frozen?_alloc_old _ _ _ (by simp; omega)]
    match i, hi with
    | 0, _ => simp
    | 1, _ => simp
    | 2, _ => simp
    | 3, _ => simp
    | 4, _ => simp
    | 5, _ => simp
    | 6, _ => simp
    | 7, _ => simp
    | 8, _ => simp
  · rw [World.cell?_alloc_lt _ _ _ (by simp)]; simp
  · rw [World.frozen?_alloc_old _ _ _ (by simp)]; simp
  · rw [World.cell?_alloc_at _ _ _ _ (by simp)]; rfl
theorem conv_put {P : Program} {src dst e : TypeId} (W : World) (B : Nat) (n : Int) (z : Nat) (hz : zig n = z) (h : PBox B W (grps 9 z)) (hs : P.underlying src = some (.slice e)) (he : P.underlying e = some (.int .u8)) (hd : P.underlying dst = some .string) (cap : Nat) :
    (convert src dst (.slice (some ⟨B, 0, none⟩) (encInt n).length cap)).run P W = .ok (.string ⟨(encInt n).toArray⟩) W := by
  refine run_convert_bytes_back W src dst e ⟨B, 0, none⟩ cap (encInt n) hs he hd (fun j hj => ?_)
  have h9 := (encInt_len n).2
  have hadd : (⟨B, 0, none⟩ : Addr).add j = ⟨B, j, none⟩ := by unfold Addr.add; split <;> simp_all
  rw [hadd, (h.1 j (by omega)).1, grps_put]
  have hj' : j < (vput 9 z).length := by unfold encInt at hj; rw [hz, List.length_map] at hj; exact hj
  have hb := vput_bytes 9 z (vput 9 z)[j] (List.getElem_mem hj')
  congr 3
  simp only [encInt, hz, List.getElem_map]
  rw [ofNat_toNat hb]
  simp [List.getD, List.getElem?_eq_getElem hj']

set_option maxRecDepth 100000 in
set_option maxHeartbeats 4000000 in
theorem putInt_z (n : Int) (z : Nat) (w : World) (h1 : -wmax ≤ n) (h2 : n ≤ wmax) (hz : zig n = z) (hzc : (0 ≤ n ∧ (z : Int) = n * 2) ∨ (n < 0 ∧ (z : Int) = -n * 2 - 1)) :
    Calls Tryd.prog 73 #[.int .i64 n] w fun e w' => e = .returned (putV n) ∧ Below w.heap.size w w' := by
  unfold wmax at h1 h2
  have hzb : z < 128 ^ 9 := by have h3 : (128 : Nat) ^ 9 = 9223372036854775808 := by decide
                               omega
  have HZB := Lib.hid hzb
  have hzz : z < 9223372036854775808 := by omega
  have HZ := Lib.hid hz
  clear hz hzb
  refine (callsIn_wide (n := 8)).1 ?_
  refine callsIn_of_wp_marks Tryd.func73 rfl trivial ?_ rfl
  simp only [Tryd.ntmps73, List.size_toArray, List.length_cons, List.length_nil, Nat.reduceAdd, Nat.reduceSub, Array.replicate_succ, Array.replicate_zero, List.push_toArray, List.append_toArray, List.nil_append, List.cons_append]
  rcases hzc with ⟨hn, hz⟩ | ⟨hn, hz⟩
  · have d1 : decide (n < -4611686018427387903) = false := by simp; omega
    have d2 : decide (4611686018427387903 < n) = false := by simp; omega
    have HZE := Lib.hid hz
    clear hz
    gi_wp2_with (refine ⟨trivial, ?_⟩; gi_at_call 82; refine (groups_in _ _ _).mono ?_; rintro e w' ⟨rfl, rfl⟩)
    rw [← HZE.out]
    obtain ⟨W0, hW0⟩ : ∃ W0, ((w.alloc (Obj.cells #[.int .u8 0, .int .u8 0, .int .u8 0, .int .u8 0, .int .u8 0, .int .u8 0, .int .u8 0, .int .u8 0, .int .u8 0] 131)).alloc (Obj.cells #[Value.int IntKind.i64 0] 3)).alloc (Obj.cells #[Value.int IntKind.u64 (z : Int)] 129) = W0 := ⟨_, rfl⟩
    obtain ⟨hB0, hs0, hP0, hc0⟩ := putInt_start w z W0 hW0
    rw [hW0]
    have HP0 := Lib.hid hP0
    have HC0 := Lib.hid hc0
    clear hW0 hP0 hc0
    refine wpIn_rangeFunc_ownF (F := Fence.wide) rfl (by omega) (gf := 85) (lb := #[.pointer (some ⟨w.heap.size + 1 + 1, 0, none⟩)]) rfl trivial (enters_of Tryd.func85 (by kernel_rfl) rfl)
      (groups_stops _ (by omega) (w.heap.size + 1 + 1) z 9 9 HZB.out (by omega) (by omega) (vput_len 9 z (by omega)).2 (Below w.heap.size) W0 (by omega) HC0.out) belowK_t (belowK_b (by omega)) (Below.refl _ _) (fun _ => rfl)
      (fun pre W => PBox w.heap.size W pre ∧ Below w.heap.size w W)
      (fun _ _ _ => False)
      (OwnFrom.and (Own.from (fun s A B row hs hg hr => ⟨fun i hi => ⟨cell_kept (hs.1 i hi).1 hg hr, (frozen_kept (hs.1 i hi).1 hg hr).trans (hs.1 i hi).2⟩, cell_kept hs.2.1 hg hr, (frozen_kept hs.2.1 hg hr).trans hs.2.2⟩) _) (ownFrom_below (Nat.le_refl _) (by omega)))
      (fun _ _ _ _ _ hs _ _ => hs)
      ⟨HP0.out, hB0⟩
      ?act ?assign ?body ?done ?stop
    case assign =>
      intro l x W K hK
      gi_wp2
      exact hK
    case body =>
      rintro l pre ⟨⟨x, more⟩, hx⟩ W ⟨hP, hB⟩ hpre
      have HP := Lib.hid hP
      have hcs := hP.2.1
      have hfs := hP.2.2
      have hcc := (hP.1 pre.length hpre).1
      have hfc := (hP.1 pre.length hpre).2
      have h9i : (pre.length : Int) < 9 := by omega
      clear hP
      dsimp only
      dsimp only at hx
      cases more with
      | true =>
        have hst := Lib.hid (pbox_step (x := ⟨(x, true), hx⟩) HP.out hpre)
        have hby : (grpByte ⟨(x, true), hx⟩ : Int) = (x : Int) + 128 := by simp [grpByte]
        rw [hby] at hst
        clear hby
        gi_wp2
        exact ⟨(KeepsOthers.setCell _ _ _).trans (KeepsOthers.setCell _ _ _), ((Below.refl w.heap.size W).setCell (p := ⟨w.heap.size, pre.length, none⟩) (Nat.le_refl _) _).setCell (p := ⟨w.heap.size + 1, 0, none⟩) (by simp) _, hst.out, (hB.setCell (p := ⟨w.heap.size, pre.length, none⟩) (Nat.le_refl _) _).setCell (p := ⟨w.heap.size + 1, 0, none⟩) (by simp) _⟩
      | false =>
        have hst := Lib.hid (pbox_step (x := ⟨(x, false), hx⟩) HP.out hpre)
        have hby : (grpByte ⟨(x, false), hx⟩ : Int) = (x : Int) := by simp [grpByte]
        rw [hby] at hst
        clear hby
        gi_wp2
        exact ⟨(KeepsOthers.setCell _ _ _).trans (KeepsOthers.setCell _ _ _), ((Below.refl w.heap.size W).setCell (p := ⟨w.heap.size, pre.length, none⟩) (Nat.le_refl _) _).setCell (p := ⟨w.heap.size + 1, 0, none⟩) (by simp) _, hst.out, (hB.setCell (p := ⟨w.heap.size, pre.length, none⟩) (Nat.le_refl _) _).setCell (p := ⟨w.heap.size + 1, 0, none⟩) (by simp) _⟩
    case done =>
      rintro D ys W hD rfl ⟨hP, hB⟩ hK
      have hcs := hP.2.1
      have hl9 := (vput_len 9 z (by omega)).2
      have hgl : (grps 9 z).length = (encInt n).length := by rw [grps_len]; unfold encInt; rw [HZ.out, List.length_map]
      have hgl9 : (encInt n).length ≤ 9 := (encInt_len n).2
      have hgl9i : ((encInt n).length : Int) ≤ 9 := by omega
      rw [hgl] at hcs
      have hcv := conv_put (P := Tryd.prog) W w.heap.size n z HZ.out hP Tryd.underlying46 Tryd.underlying5 Tryd.underlying9
      have HK := Lib.hid hK
      clear hK hl9 hgl hP
      generalize hL : encInt n = L at *
      have HL := Lib.hid hL
      clear hL
      gi_wp2
      refine ⟨by simp, .inl ⟨_, _, rfl, run_takeDeferred HK.out, ?_⟩⟩
      refine ⟨putV n, ?_, rfl, hB.trans (belowK_b (w := w) (Nat.le_refl _) W D _ _ (by omega) HK.out rfl rfl)⟩
      simp [results, Tryd.f73, go_sem, putV, HL.out]
    case stop =>
      rintro D c pre W _ _ h _
      exact h.elim
  · have d1 : decide (n < -4611686018427387903) = false := by simp; omega
    have d2 : decide (4611686018427387903 < n) = false := by simp; omega
    have HZE := Lib.hid hz
    clear hz
    gi_wp2_with (refine ⟨trivial, ?_⟩; gi_at_call 82; refine (groups_in _ _ _).mono ?_; rintro e w' ⟨rfl, rfl⟩)
    rw [← HZE.out]
    obtain ⟨W0, hW0⟩ : ∃ W0, ((w.alloc (Obj.cells #[.int .u8 0, .int .u8 0, .int .u8 0, .int .u8 0, .int .u8 0, .int .u8 0, .int .u8 0, .int .u8 0, .int .u8 0] 131)).alloc (Obj.cells #[Value.int IntKind.i64 0] 3)).alloc (Obj.cells #[Value.int IntKind.u64 (z : Int)] 129) = W0 := ⟨_, rfl⟩
    obtain ⟨hB0, hs0, hP0, hc0⟩ := putInt_start w z W0 hW0
    rw [hW0]
    have HP0 := Lib.hid hP0
    have HC0 := Lib.hid hc0
    clear hW0 hP0 hc0
    refine wpIn_rangeFunc_ownF (F := Fence.wide) rfl (by omega) (gf := 85) (lb := #[.pointer (some ⟨w.heap.size + 1 + 1, 0, none⟩)]) rfl trivial (enters_of Tryd.func85 (by kernel_rfl) rfl)
      (groups_stops _ (by omega) (w.heap.size + 1 + 1) z 9 9 HZB.out (by omega) (by omega) (vput_len 9 z (by omega)).2 (Below w.heap.size) W0 (by omega) HC0.out) belowK_t (belowK_b (by omega)) (Below.refl _ _) (fun _ => rfl)
      (fun pre W => PBox w.heap.size W pre ∧ Below w.heap.size w W)
      (fun _ _ _ => False)
      (OwnFrom.and (Own.from (fun s A B row hs hg hr => ⟨fun i hi => ⟨cell_kept (hs.1 i hi).1 hg hr, (frozen_kept (hs.1 i hi).1 hg hr).trans (hs.1 i hi).2⟩, cell_kept hs.2.1 hg hr, (frozen_kept hs.2.1 hg hr).trans hs.2.2⟩) _) (ownFrom_below (Nat.le_refl _) (by omega)))
      (fun _ _ _ _ _ hs _ _ => hs)
      ⟨HP0.out, hB0⟩
      ?act2 ?assign2 ?body2 ?done2 ?stop2
    case assign2 =>
      intro l x W K hK
      gi_wp2
      exact hK
    case body2 =>
      rintro l pre ⟨⟨x, more⟩, hx⟩ W ⟨hP, hB⟩ hpre
      have HP := Lib.hid hP
      have hcs := hP.2.1
      have hfs := hP.2.2
      have hcc := (hP.1 pre.length hpre).1
      have hfc := (hP.1 pre.length hpre).2
      have h9i : (pre.length : Int) < 9 := by omega
      clear hP
      dsimp only
      dsimp only at hx
      cases more with
      | true =>
        have hst := Lib.hid (pbox_step (x := ⟨(x, true), hx⟩) HP.out hpre)
        have hby : (grpByte ⟨(x, true), hx⟩ : Int) = (x : Int) + 128 := by simp [grpByte]
        rw [hby] at hst
        clear hby
        gi_wp2
        exact ⟨(KeepsOthers.setCell _ _ _).trans (KeepsOthers.setCell _ _ _), ((Below.refl w.heap.size W).setCell (p := ⟨w.heap.size, pre.length, none⟩) (Nat.le_refl _) _).setCell (p := ⟨w.heap.size + 1, 0, none⟩) (by simp) _, hst.out, (hB.setCell (p := ⟨w.heap.size, pre.length, none⟩) (Nat.le_refl _) _).setCell (p := ⟨w.heap.size + 1, 0, none⟩) (by simp) _⟩
      | false =>
        have hst := Lib.hid (pbox_step (x := ⟨(x, false), hx⟩) HP.out hpre)
        have hby : (grpByte ⟨(x, false), hx⟩ : Int) = (x : Int) := by simp [grpByte]
        rw [hby] at hst
        clear hby
        gi_wp2
        exact ⟨(KeepsOthers.setCell _ _ _).trans (KeepsOthers.setCell _ _ _), ((Below.refl w.heap.size W).setCell (p := ⟨w.heap.size, pre.length, none⟩) (Nat.le_refl _) _).setCell (p := ⟨w.heap.size + 1, 0, none⟩) (by simp) _, hst.out, (hB.setCell (p := ⟨w.heap.size, pre.length, none⟩) (Nat.le_refl _) _).setCell (p := ⟨w.heap.size + 1, 0, none⟩) (by simp) _⟩
    case done2 =>
      rintro D ys W hD rfl ⟨hP, hB⟩ hK
      have hcs := hP.2.1
      have hl9 := (vput_len 9 z (by omega)).2
      have hgl : (grps 9 z).length = (encInt n).length := by rw [grps_len]; unfold encInt; rw [HZ.out, List.length_map]
      have hgl9 : (encInt n).length ≤ 9 := (encInt_len n).2
      have hgl9i : ((encInt n).length : Int) ≤ 9 := by omega
      rw [hgl] at hcs
      have hcv := conv_put (P := Tryd.prog) W w.heap.size n z HZ.out hP Tryd.underlying46 Tryd.underlying5 Tryd.underlying9
      have HK := Lib.hid hK
      clear hK hl9 hgl hP
      generalize hL : encInt n = L at *
      have HL := Lib.hid hL
      clear hL
      gi_wp2
      refine ⟨by simp, .inl ⟨_, _, rfl, run_takeDeferred HK.out, ?_⟩⟩
      refine ⟨putV n, ?_, rfl, hB.trans (belowK_b (w := w) (Nat.le_refl _) W D _ _ (by omega) HK.out rfl rfl)⟩
      simp [results, Tryd.f73, go_sem, putV, HL.out]
    case stop2 =>
      rintro D c pre W _ _ h _
      exact h.elim

theorem putInt_any (n : Int) (w : World) (h1 : -wmax ≤ n) (h2 : n ≤ wmax) :
    Calls Tryd.prog 73 #[.int .i64 n] w fun e w' => e = .returned (putV n) ∧ Below w.heap.size w w' :=
  putInt_z n (zig n) w h1 h2 rfl (by unfold zig; split <;> omega)
end Go.Proofs.YtgdjpaeclicdfaaDoor
