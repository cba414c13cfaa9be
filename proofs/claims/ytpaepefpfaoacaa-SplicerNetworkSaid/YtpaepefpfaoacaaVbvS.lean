/- Contracts of vbv's Step and Need, and of the reference's Step, Run, Need (chapter 13). -/
import Derived.RangeFuncBox
import Derived.RangeFuncLeaves
import Derived.Shelf.Abstract
import Derived.OwnWalkIn
import Derived.TacticsInMore
import Derived.LoopNIn
import Derived.LoopIn
import Derived.RangeFuncFrom
import Derived.Test.YtpaepefpfaoacaaVbvP
import Derived.Test.YtpaepefpfaoacaaBase
namespace Go.Proofs.Ytpaepefpfaoacaa
open Go.ChangeShapes Go.WideShapes Go.ChangeAt Go.RowKit Go.Shelf
set_option linter.unusedVariables false
attribute [local go_sem] Oper.semAt_some

theorem ret_pair {r r' : Option Int} (h : r = r') : Ending.returned (pairV r) = .returned (pairV r') := by rw [h]
theorem vstep_cases (f s : Int) : (vstep f s = none ∧ f < 0) ∨ (vstep f s = none ∧ 0 ≤ f ∧ 1000 < f) ∨ (vstep f s = none ∧ 0 ≤ f ∧ f ≤ 1000 ∧ s < 0) ∨
      (vstep f s = none ∧ 0 ≤ f ∧ f < 900 ∧ 0 ≤ s ∧ f + 100 < s) ∨ (vstep f s = some (f + 100 - s) ∧ 0 ≤ f ∧ f < 900 ∧ 0 ≤ s ∧ s ≤ f + 100) ∨
      (vstep f s = none ∧ 900 ≤ f ∧ f ≤ 1000 ∧ 0 ≤ s ∧ 1000 < s) ∨ (vstep f s = some (1000 - s) ∧ 900 ≤ f ∧ f ≤ 1000 ∧ 0 ≤ s ∧ s ≤ 1000) := by
  unfold vstep
  by_cases h1 : f < 0
  · left; exact ⟨by rw [if_pos (.inl h1)], h1⟩
  · by_cases h2 : 1000 < f
    · right; left; exact ⟨by rw [if_pos (by omega)], by omega, h2⟩
    · by_cases h3 : s < 0
      · right; right; left; exact ⟨by rw [if_pos (by omega)], by omega, by omega, h3⟩
      · rw [if_neg (by omega)]
        by_cases h4 : f < 900
        · by_cases h5 : f + 100 < s
          · right; right; right; left; exact ⟨by rw [if_pos (by omega)], by omega, h4, by omega, h5⟩
          · right; right; right; right; left; exact ⟨by rw [if_neg (by omega), show min 1000 (f + 100) = f + 100 by omega], by omega, h4, by omega, by omega⟩
        · by_cases h5 : 1000 < s
          · right; right; right; right; right; left; exact ⟨by rw [if_pos (by omega)], by omega, by omega, by omega, h5⟩
          · right; right; right; right; right; right; exact ⟨by rw [if_neg (by omega), show min 1000 (f + 100) = 1000 by omega], by omega, by omega, by omega, by omega⟩
set_option maxHeartbeats 400000 in
theorem vbvStep_any (f s : Int) (w : World) :
    Calls Try.prog 45 #[.int .i64 f, .int .i64 s] w fun e w' => e = .returned (pairV (vstep f s)) ∧ w = w' := by
  have key := vstep_cases f s
  generalize vstep f s = r at key ⊢
  rcases key with ⟨rfl, k1⟩ | ⟨rfl, k0, k1⟩ | ⟨rfl, k0, k1, k2⟩ | ⟨rfl, k0, k1, k2, k3⟩ | ⟨rfl, k0, k1, k2, k3⟩ | ⟨rfl, k1, k2, k3, k4⟩ | ⟨rfl, k1, k2, k3, k4⟩
  all_goals
    go_enter Try.func45, Try.ntmps45
    go_wp2
    go_ret2
    exact ⟨rfl, rfl⟩

/-- The first k pairs that Backward hands over. -/
def backTo (zs : List Int) (k : Nat) : List (Int × Int) := (List.range k).map fun (j : Nat) => ((zs.length : Int) - 1 - (j : Int), zs.getD (zs.length - 1 - j) 0)
theorem backTo_succ (zs : List Int) (k : Nat) : backTo zs (k + 1) = backTo zs k ++ [((zs.length : Int) - 1 - k, zs.getD (zs.length - 1 - k) 0)] := by
  unfold backTo; rw [List.range_succ, List.map_append]; rfl
theorem backTo_len (zs : List Int) (k : Nat) : (backTo zs k).length = k := by simp [backTo]
theorem backTo_snd (zs : List Int) (k : Nat) (hk : k ≤ zs.length) : ((backTo zs k).map (·.2)).reverse = zs.drop (zs.length - k) := by
  induction k with
  | zero => simp [backTo]
  | succ k ih =>
    rw [backTo_succ, List.map_append, List.reverse_append, ih (by omega)]
    rw [drop_getD (k := zs.length - (k + 1)) (by omega), show zs.length - (k + 1) + 1 = zs.length - k by omega, show zs.length - 1 - k = zs.length - (k + 1) by omega]
    rfl
/-- What a round that goes on keeps: what lies below n₀, and the box of the slice. -/
def KeepB (n₀ Bs : Nat) (W W' : World) : Prop := Below n₀ W W' ∧ W'.cell? ⟨Bs, 0, none⟩ = W.cell? ⟨Bs, 0, none⟩
theorem KeepB.trans {n₀ Bs : Nat} {A B C : World} (h : KeepB n₀ Bs A B) (k : KeepB n₀ Bs B C) : KeepB n₀ Bs A C := ⟨h.1.trans k.1, k.2.trans h.2⟩
theorem KeepB.put {n₀ Bs : Nat} {w : World} (hn : n₀ ≤ w.heap.size) (hs : Bs < w.heap.size) (W : World) (l : Nat) (o o' : Obj) (hl : w.heap.size ≤ l) (h : W.heap[l]? = some o) (h1 : o.isCells = false) (h2 : o.isWalk = false) : KeepB n₀ Bs W (W.putObj l o') :=
  ⟨belowK_b hn W l o o' hl h h1 h2, World.cell?_of_block (World.putObj_heap_other (by show Bs ≠ l; omega))⟩
set_option maxHeartbeats 1000000 in
theorem back_in (n : Nat) (a : Option Addr) (len cap : Nat) (w : World) :
    CallsIn Fence.wide n Try.prog 54 #[.slice a len cap] w fun e w' => e = .returned (.func (.func 57) #[] #[.pointer (some ⟨w.heap.size, 0, none⟩)]) ∧ w' = w.alloc (.cells #[.slice a len cap] 26) := by
  refine callsIn_of_wp Try.func54 rfl trivial ?_ rfl
  simp only [Try.ntmps54, List.size_toArray, List.length_cons, List.length_nil, Nat.reduceAdd, Nat.reduceSub, Array.replicate_succ, Array.replicate_zero, List.push_toArray, List.append_toArray, List.nil_append, List.cons_append]
  gi_wp2
  go_ret
  exact ⟨rfl, rfl⟩
set_option maxRecDepth 100000 in
set_option maxHeartbeats 2000000 in
theorem back1_in (n : Nat) (hn : 1 ≤ n) (l Bs n₀ : Nat) (a : Option Addr) (len cap : Nat) (zs : List Int) (hreach : len ≤ 9223372036854775807) (J Jx : List (Int × Int) → World → Prop)
    (hY : ∀ pre x W, J pre W → pre.length < len → YieldAt Fence.wide (n - 1) Try.prog l #[.int .i64 x.1, .int .i64 x.2] W fun e W' =>
      (e = .returned (.bool true) ∧ J (pre ++ [x]) W' ∧ KeepB n₀ Bs W W') ∨ (e = .returned (.bool false) ∧ Jx (pre ++ [x]) W'))
    (W : World) (hBs : W.cell? ⟨Bs, 0, none⟩ = some (.slice a len cap)) (hI : IsInts W a len zs) (hlt0 : ∀ b off, a = some ⟨b, off, none⟩ → len ≠ 0 → b < n₀) (h0 : J [] W) :
    CallsIn Fence.wide n Try.prog 57 #[.func (.yield l) #[] #[], .pointer (some ⟨Bs, 0, none⟩)] W fun e W' => (∃ v, e = .returned v) ∧
      ((∃ ys, ys = backTo zs len ∧ J ys W') ∨ (∃ pre, (∃ k, k ≤ len ∧ pre = backTo zs k) ∧ Jx pre W')) := by
  have HI := Lib.hid hI
  have HL := Lib.hid hlt0
  clear hI hlt0
  refine callsIn_of_wp Try.func57 rfl trivial ?_ rfl
  simp only [Try.ntmps57, List.size_toArray, List.length_cons, List.length_nil, Nat.reduceAdd, Nat.reduceSub, Array.replicate_succ, Array.replicate_zero, List.push_toArray, List.append_toArray, List.nil_append, List.cons_append]
  gi_wp2
  gi_loopw [3] (fun i wr => ∃ k : Nat, k ≤ len ∧ i = .int .i64 ((len : Int) - 1 - k) ∧ J (backTo zs k) wr ∧ KeepB n₀ Bs W wr)
    (fun i _ => (intOf i + 1).toNat)
  case atStart => exact ⟨0, Nat.zero_le _, by simp, h0, Below.refl _ _, rfl⟩
  case round =>
    obtain ⟨k, hk, rfl, hJs, hnx⟩ := hrel
    have hBs' : wr.cell? ⟨Bs, 0, none⟩ = some (.slice a len cap) := hnx.2.trans hBs
    by_cases hlt : k < len
    · obtain ⟨b, off, rfl, hbl, hcell⟩ := HI.out.2.resolve_left (by omega)
      have hb := HL.out b off rfl (by omega)
      have hcx : wr.cell? ⟨b, off + (len - 1 - k), none⟩ = some (.int .i64 (zs.getD (len - 1 - k) 0)) := (hnx.1.cell (p := ⟨b, off + (len - 1 - k), none⟩) hb).trans (hcell _ (by omega))
      obtain ⟨fn, tmps, assign, body, hy, hR⟩ := hY _ ((len : Int) - 1 - k, zs.getD (len - 1 - k) 0) wr hJs (by rw [backTo_len]; exact hlt)
      dsimp only at hy
      have hst : backTo zs (k + 1) = backTo zs k ++ [((len : Int) - 1 - k, zs.getD (len - 1 - k) 0)] := by
        rw [backTo_succ, HI.out.1]
      have HS := Lib.hid hst
      clear hst hcell
      have hi1 : ((len : Int) - 1 - k).toNat = len - 1 - k := by omega
      generalize zs.getD (len - 1 - k) 0 = z at *
      gi_wp2
      refine hR.mono ?_
      rintro e W3 (⟨rfl, hJ3, hk3⟩ | ⟨rfl, hJx3⟩)
      · gi_wp2
        go_roundw
        case rel => exact ⟨k + 1, by omega, congrArg (Value.int .i64) (by omega), by rw [HS.out]; exact hJ3, hnx.trans hk3⟩
        case measure => simp [intOf]; omega
      · gi_wp2
        refine bodyPost_ret (results_none rfl _ _ _) rfl ?_
        exact ⟨⟨_, rfl⟩, .inr ⟨_, ⟨k + 1, by omega, HS.out.symm⟩, hJx3⟩⟩
    · gi_wp2
      go_end0
      obtain rfl : k = len := by omega
      exact ⟨⟨_, rfl⟩, .inl ⟨_, rfl, hJs⟩⟩
theorem back_stops (n : Nat) (hn : 1 ≤ n) (Bs n₀ : Nat) (a : Option Addr) (len cap : Nat) (zs : List Int) (hreach : len ≤ 9223372036854775807) (w : World) (hBs : Bs < w.heap.size) (hn₀ : n₀ ≤ w.heap.size)
    (hc : w.cell? ⟨Bs, 0, none⟩ = some (.slice a len cap)) (hI : IsInts w a len zs) (hlt0 : ∀ b off, a = some ⟨b, off, none⟩ → len ≠ 0 → b < n₀) :
    SeqStopsK Fence.wide n Try.prog 57 #[.pointer (some ⟨Bs, 0, none⟩)] (fun x : Int × Int => #[Value.int .i64 x.1, Value.int .i64 x.2]) (KeepB n₀ Bs) (fun ys => ys = backTo zs len) (fun pre => ∃ k, k ≤ len ∧ pre = backTo zs k) len w := fun l J Jx W hW _ _ hY h0 => by
  have hc' := (hW.cell (p := ⟨Bs, 0, none⟩) hBs).trans hc
  exact back1_in n hn l Bs n₀ a len cap zs hreach J Jx hY W hc' (hI.below hW) hlt0 h0
theorem need_none_append (l m : List Int) (h : needOf m = none) : needOf (l ++ m) = none := by
  induction l with
  | nil => exact h
  | cons x l ih => simp only [List.cons_append, needOf, ih]
/-- The variables of Need while it runs: the two results, and 'need'. -/
def NBox (B : Nat) (W : World) (g : Int) : Prop := W.cell? ⟨B + 1 + 1, 0, none⟩ = some (.int .i64 g) ∧ W.frozen? ⟨B + 1 + 1, 0, none⟩ = false ∧
  W.cell? ⟨B, 0, none⟩ = some (.int .i64 0) ∧ W.frozen? ⟨B, 0, none⟩ = false ∧ W.cell? ⟨B + 1, 0, none⟩ = some (.bool false) ∧ W.frozen? ⟨B + 1, 0, none⟩ = false
def NRes (B : Nat) (W : World) : Prop := ∃ g, NBox B W g
theorem nbox_res {B : Nat} {W : World} {g : Int} (u v : Value) (h : NBox B W g) (hu : u = .int .i64 0 := by rfl) (hv : v = .bool false := by rfl) : NBox B ((W.setCell ⟨B, 0, none⟩ u).setCell ⟨B + 1, 0, none⟩ v) g := by
  obtain ⟨n1, n2, n3, n4, n5, n6⟩ := h
  subst hu
  subst hv
  refine ⟨?_, ?_, ?_, ?_, ?_, ?_⟩
  · rw [World.cell?_setCell_other _ _ _ _ (by simp), World.cell?_setCell_other _ _ _ _ (by simp)]; exact n1
  · rw [World.frozen?_setCell, World.frozen?_setCell]; exact n2
  · rw [World.cell?_setCell_other _ _ _ _ (by simp), World.cell?_setCell_same' _ _ _ (by rw [n3]; rfl)]
  · rw [World.frozen?_setCell, World.frozen?_setCell]; exact n4
  · rw [World.cell?_setCell_same' _ _ _ (by rw [World.cell?_setCell_other _ _ _ _ (by simp), n5]; rfl)]
  · rw [World.frozen?_setCell, World.frozen?_setCell]; exact n6
theorem nbox_res2 {B : Nat} {W : World} {g : Int} (u v : Value) (h : NBox B W g) :
    ((W.setCell ⟨B, 0, none⟩ u).setCell ⟨B + 1, 0, none⟩ v).cell? ⟨B, 0, none⟩ = some u ∧ ((W.setCell ⟨B, 0, none⟩ u).setCell ⟨B + 1, 0, none⟩ v).cell? ⟨B + 1, 0, none⟩ = some v := by
  obtain ⟨n1, n2, n3, n4, n5, n6⟩ := h
  refine ⟨?_, ?_⟩
  · rw [World.cell?_setCell_other _ _ _ _ (by simp), World.cell?_setCell_same' _ _ _ (by rw [n3]; rfl)]
  · rw [World.cell?_setCell_same' _ _ _ (by rw [World.cell?_setCell_other _ _ _ _ (by simp), n5]; rfl)]
theorem nbox_need {B : Nat} {W : World} {g : Int} (y : Int) (h : NBox B W g) : NBox B (W.setCell ⟨B + 1 + 1, 0, none⟩ (.int .i64 y)) y := by
  obtain ⟨n1, n2, n3, n4, n5, n6⟩ := h
  refine ⟨?_, ?_, ?_, ?_, ?_, ?_⟩
  · rw [World.cell?_setCell_same' _ _ _ (by rw [n1]; rfl)]
  · rw [World.frozen?_setCell]; exact n2
  · rw [World.cell?_setCell_other _ _ _ _ (by simp)]; exact n3
  · rw [World.frozen?_setCell]; exact n4
  · rw [World.cell?_setCell_other _ _ _ _ (by simp)]; exact n5
  · rw [World.frozen?_setCell]; exact n6
set_option maxRecDepth 100000 in
set_option maxHeartbeats 2000000 in
theorem vbvNeed_any (a : Option Addr) (len cap : Nat) (zs : List Int) (w : World) (h : IsInts w a len zs) (hlen : len ≤ 9223372036854775807) :
    Calls Try.prog 51 #[.slice a len cap] w fun e w' => e = .returned (pairV (needOf zs)) ∧ Below w.heap.size w w' := by
  have H := Lib.hid h
  clear h
  refine (callsIn_wide (n := 8)).1 ?_
  refine callsIn_of_wp_marks Try.func51 rfl trivial ?_ rfl
  simp only [Try.ntmps51, List.size_toArray, List.length_cons, List.length_nil, Nat.reduceAdd, Nat.reduceSub, Array.replicate_succ, Array.replicate_zero, List.push_toArray, List.append_toArray, List.nil_append, List.cons_append]
  gi_wp2_with (refine ⟨trivial, ?_⟩; gi_at_call 54; refine (back_in _ _ _ _ _).mono ?_; rintro e w' ⟨rfl, rfl⟩)
  obtain ⟨W0, hW0⟩ : ∃ W0, (((w.alloc (Obj.cells #[Value.int IntKind.i64 0] 3)).alloc (Obj.cells #[Value.bool false] 4)).alloc (Obj.cells #[Value.int IntKind.i64 0] 3)).alloc (Obj.cells #[Value.slice a len cap] 26) = W0 := ⟨_, rfl⟩
  have hB0 : Below w.heap.size w W0 := by rw [← hW0]; exact ((((Below.refl _ w).alloc (Nat.le_refl _) _).alloc (by simp) _).alloc (by simp; omega) _).alloc (by simp; omega) _
  have hs0 : W0.heap.size = w.heap.size + 1 + 1 + 1 + 1 := by rw [← hW0]; simp
  have hN0 : NBox w.heap.size W0 0 := by
    refine ⟨?_, ?_, ?_, ?_, ?_, ?_⟩ <;> rw [← hW0]
    · rw [World.cell?_alloc_lt _ _ _ (by simp), World.cell?_alloc_at _ _ _ _ (by simp)]; rfl
    · rw [World.frozen?_alloc_old _ _ _ (by simp)]; exact World.frozen?_alloc_at _ _ _ _ (by simp)
    · rw [World.cell?_alloc_lt _ _ _ (by simp; omega), World.cell?_alloc_lt _ _ _ (by simp; omega)]; simp
    · rw [World.frozen?_alloc_old _ _ _ (by simp; omega), World.frozen?_alloc_old _ _ _ (by simp; omega)]; simp
    · rw [World.cell?_alloc_lt _ _ _ (by simp), World.cell?_alloc_lt _ _ _ (by simp)]; simp
    · rw [World.frozen?_alloc_old _ _ _ (by simp), World.frozen?_alloc_old _ _ _ (by simp)]; simp
  have hc3 : W0.cell? ⟨w.heap.size + 1 + 1 + 1, 0, none⟩ = some (.slice a len cap) := by
    rw [← hW0, World.cell?_alloc_at _ _ _ _ (by simp)]; rfl
  rw [hW0]
  clear hW0
  have HN := Lib.hid hN0
  have HC := Lib.hid hc3
  have HI := Lib.hid (H.out.below hB0)
  have HL : Hid (∀ b off, a = some ⟨b, off, none⟩ → len ≠ 0 → b < w.heap.size) := Lib.hid (fun b off e hne => by
    obtain ⟨b', off', e', hb', _⟩ := H.out.2.resolve_left hne
    rw [e] at e'; cases e'; exact hb')
  clear hN0 hc3
  refine wpIn_rangeFunc_ownF (F := Fence.wide) rfl (by omega) (gf := 57) (lb := #[.pointer (some ⟨w.heap.size + 1 + 1 + 1, 0, none⟩)]) rfl trivial (enters_of Try.func57 (by kernel_rfl) rfl)
    (back_stops _ (by omega) (w.heap.size + 1 + 1 + 1) w.heap.size a len cap zs hlen W0 (by omega) (by omega) HC.out HI.out HL.out) KeepB.trans (KeepB.put (by omega) (by omega)) (Below.refl _ _) (fun _ => rfl)
    (fun pre W => (∃ g, (0 ≤ g ∧ g ≤ 1000) ∧ needOf (pre.map (·.2)).reverse = some g ∧ NBox w.heap.size W g) ∧ Below w.heap.size w W)
    (fun c pre W => (c = .ret ∧ needOf (pre.map (·.2)).reverse = none ∧ NRes w.heap.size W) ∧ Below w.heap.size w W)
    (OwnFrom.and (Own.from (fun s A B row hs hg hr => by
      obtain ⟨g, h1, h2, n1, n2, n3, n4, n5, n6⟩ := hs
      exact ⟨g, h1, h2, cell_kept n1 hg hr, (frozen_kept n1 hg hr).trans n2, cell_kept n3 hg hr, (frozen_kept n3 hg hr).trans n4, cell_kept n5 hg hr, (frozen_kept n5 hg hr).trans n6⟩) _) (ownFrom_below (Nat.le_refl _) (by omega)))
    (fun c => OwnFrom.and (Own.from (fun s A B row hs hg hr => by
      obtain ⟨h1, h2, g, n1, n2, n3, n4, n5, n6⟩ := hs
      exact ⟨h1, h2, g, cell_kept n1 hg hr, (frozen_kept n1 hg hr).trans n2, cell_kept n3 hg hr, (frozen_kept n3 hg hr).trans n4, cell_kept n5 hg hr, (frozen_kept n5 hg hr).trans n6⟩) _) (ownFrom_below (Nat.le_refl _) (by omega)))
    ⟨⟨0, ⟨by omega, by omega⟩, rfl, HN.out⟩, hB0⟩
    (fun x => { tmps := #[.slice a len cap, undef, .pointer (some ⟨w.heap.size, 0, none⟩), .pointer (some ⟨w.heap.size + 1, 0, none⟩), .pointer (some ⟨w.heap.size + 1 + 1, 0, none⟩), undef, .int .i64 x.2, .slice a len cap, .func (.func 57) #[] #[.pointer (some ⟨w.heap.size + 1 + 1 + 1, 0, none⟩)], .int .i64 x.1, .int .i64 x.2, undef, undef, undef, undef, undef, undef, undef, undef, undef, undef, undef, undef, undef, undef], defers := [] }) ?assign ?body ?done ?stop
  case assign =>
    intro l x W K hK
    gi_wp2
    exact hK
  case body =>
    rintro l pre ⟨i, s⟩ W ⟨⟨g, hg, hn, n1, n2, n3, n4, n5, n6⟩, hB⟩ hpre
    have hst : needOf ((pre ++ [(i, s)]).map (·.2)).reverse = if s < 0 ∨ 1000 - g < s then none else some (max 0 (g + s - 100)) := by
      rw [List.map_append, List.reverse_append]
      simp only [List.map_cons, List.map_nil, List.reverse_cons, List.reverse_nil, List.nil_append, List.cons_append]
      simp only [needOf, hn]
    have HS := Lib.hid hst
    have HNB : Hid (NBox w.heap.size W g) := Lib.hid ⟨n1, n2, n3, n4, n5, n6⟩
    clear hst hn
    dsimp only
    by_cases c1 : s < 0 ∨ 1000 - g < s
    · have hr := HS.out
      rw [if_pos c1] at hr
      have HR := Lib.hid hr
      have HK := Lib.hid ((KeepsOthers.setCell W ⟨w.heap.size, 0, none⟩ (.int .i64 0)).trans (KeepsOthers.setCell _ ⟨w.heap.size + 1, 0, none⟩ (.bool false)))
      have HB := Lib.hid ((hB.setCell (p := ⟨w.heap.size, 0, none⟩) (Nat.le_refl _) (.int .i64 0)).setCell (p := ⟨w.heap.size + 1, 0, none⟩) (by simp) (.bool false))
      have HX := Lib.hid (nbox_res (.int .i64 0) (.bool false) HNB.out)
      clear hr HS
      by_cases c2 : s < 0
      · clear c1
        gi_wp2
        exact ⟨HK.out, ⟨rfl, HR.out, ⟨g, HX.out⟩⟩, HB.out⟩
      · have c3 : 1000 - g < s := by omega
        have c4 : decide (s < 0) = false := by simpa using c2
        clear c1
        gi_wp2
        exact ⟨HK.out, ⟨rfl, HR.out, ⟨g, HX.out⟩⟩, HB.out⟩
    · have hr := HS.out
      rw [if_neg c1] at hr
      have HR := Lib.hid hr
      have c2 : 0 ≤ s := by omega
      have c3 : s ≤ 1000 - g := by omega
      have c4 : decide (s < 0) = false := by simp; omega
      clear hr HS c1
      by_cases c5 : 0 < g + s - 100
      · have e : max 0 (g + s - 100) = g + s - 100 := by omega
        rw [e] at HR
        clear e
        gi_wp2
        refine ⟨KeepsOthers.setCell _ _ _, ⟨(Below.refl w.heap.size W).setCell (p := ⟨w.heap.size + 1 + 1, 0, none⟩) (by simp; omega) _, World.cell?_setCell_other _ _ _ _ (by simp)⟩, ⟨g + s - 100, by omega, HR.out, nbox_need _ HNB.out⟩, hB.setCell (p := ⟨w.heap.size + 1 + 1, 0, none⟩) (by simp; omega) _⟩
      · have e : max 0 (g + s - 100) = 0 := by omega
        rw [e] at HR
        clear e
        gi_wp2
        refine ⟨KeepsOthers.setCell _ _ _, ⟨(Below.refl w.heap.size W).setCell (p := ⟨w.heap.size + 1 + 1, 0, none⟩) (by simp; omega) _, World.cell?_setCell_other _ _ _ _ (by simp)⟩, ⟨0, by omega, HR.out, nbox_need _ HNB.out⟩, hB.setCell (p := ⟨w.heap.size + 1 + 1, 0, none⟩) (by simp; omega) _⟩
  case done =>
    rintro D ys W hD rfl ⟨⟨g, hg, hn, n1, n2, n3, n4, n5, n6⟩, hB⟩ hK
    rw [← H.out.1, backTo_snd zs _ (Nat.le_refl _), Nat.sub_self] at hn
    have HN2 : Hid (needOf zs = some g) := Lib.hid hn
    have HK2 := Lib.hid (((KeepsOthers.setCell W ⟨w.heap.size, 0, none⟩ (.int .i64 g)).trans (KeepsOthers.setCell _ ⟨w.heap.size + 1, 0, none⟩ (.bool true))).same D _ hK rfl)
    have HB := Lib.hid ((hB.setCell (p := ⟨w.heap.size, 0, none⟩) (Nat.le_refl _) (.int .i64 g)).setCell (p := ⟨w.heap.size + 1, 0, none⟩) (by simp) (.bool true))
    have HX := Lib.hid (nbox_res2 (.int .i64 g) (.bool true) ⟨n1, n2, n3, n4, n5, n6⟩)
    clear hn hK
    gi_wp2
    refine ⟨by simp, .inl ⟨_, _, rfl, run_takeDeferred HK2.out, ?_⟩⟩
    have r0 := cell_kept HX.out.1 (grownBy_putObj' _ D (.deferred none)) (fun r e => by cases e; exact ⟨_, HK2.out, rfl⟩)
    have r1 := cell_kept HX.out.2 (grownBy_putObj' _ D (.deferred none)) (fun r e => by cases e; exact ⟨_, HK2.out, rfl⟩)
    refine ⟨pairV (some g), ?_, by rw [HN2.out], HB.out.trans (belowK_b (w := w) (Nat.le_refl _) _ D _ _ (by omega) HK2.out rfl rfl)⟩
    simp [results, Try.f51, go_sem, r0, r1, pairV]
  case stop =>
    rintro D c pre W hD ⟨k, hk, rfl⟩ ⟨⟨rfl, hn, g, n1, n2, n3, n4, n5, n6⟩, hB⟩ hK
    rw [← H.out.1] at hk
    rw [backTo_snd zs _ hk] at hn
    have hz : needOf zs = none := by
      have := need_none_append (zs.take (zs.length - k)) _ hn
      rwa [List.take_append_drop] at this
    have HZ := Lib.hid hz
    clear hn hz
    gi_wp2
    refine ⟨by simp, .inl ⟨_, _, rfl, run_takeDeferred hK, ?_⟩⟩
    have r0 := cell_kept n3 (grownBy_putObj' _ D (.deferred none)) (fun r e => by cases e; exact ⟨_, hK, rfl⟩)
    have r1 := cell_kept n5 (grownBy_putObj' _ D (.deferred none)) (fun r e => by cases e; exact ⟨_, hK, rfl⟩)
    refine ⟨pairV none, ?_, by rw [HZ.out], hB.trans (belowK_b (w := w) (Nat.le_refl _) W D _ _ (by omega) hK rfl rfl)⟩
    simp [results, Try.f51, go_sem, r0, r1, pairV]
set_option maxHeartbeats 400000 in
theorem refStep_any (f s : Int) (w : World) :
    Calls Try.prog 16 #[.int .i64 f, .int .i64 s] w fun e w' => e = .returned (pairV (vstep f s)) ∧ w = w' := by
  have key := vstep_cases f s
  generalize vstep f s = r at key ⊢
  rcases key with ⟨rfl, k1⟩ | ⟨rfl, k0, k1⟩ | ⟨rfl, k0, k1, k2⟩ | ⟨rfl, k0, k1, k2, k3⟩ | ⟨rfl, k0, k1, k2, k3⟩ | ⟨rfl, k1, k2, k3, k4⟩ | ⟨rfl, k1, k2, k3, k4⟩
  all_goals
    go_enter Try.func16, Try.ntmps16
    go_wp2
    go_ret2
    exact ⟨rfl, rfl⟩
set_option maxHeartbeats 1000000 in
theorem refRun_any (f : Int) (a : Option Addr) (len cap : Nat) (zs : List Int) (w : World) (h : IsInts w a len zs) (hlen : len ≤ 9223372036854775807) :
    Calls Try.prog 33 #[.int .i64 f, .slice a len cap] w fun e w' => e = .returned (pairV (runOf f zs)) ∧ w = w' := by
  have H := Lib.hid h
  clear h
  by_cases hf0 : f < 0
  · have : runOf f zs = none := by unfold runOf; rw [if_pos (.inl hf0)]
    rw [this]
    clear this
    go_enter Try.func33, Try.ntmps33
    go_wp2_with fail
    go_ret2
    exact ⟨rfl, rfl⟩
  · by_cases hf1 : 1000 < f
    · have : runOf f zs = none := by unfold runOf; rw [if_pos (.inr hf1)]
      rw [this]
      clear this
      go_enter Try.func33, Try.ntmps33
      go_wp2_with fail
      go_ret2
      exact ⟨rfl, rfl⟩
    · have e0 : runOf f zs = vrun f zs := by unfold runOf; rw [if_neg (by omega)]
      rw [e0]
      clear e0
      have hb0 : 0 ≤ f ∧ f ≤ 1000 := by omega
      have d0 : decide (f < 0) = false := by simpa using hf0
      have d1 : decide (1000 < f) = false := by simpa using hf1
      go_enter Try.func33, Try.ntmps33
      go_wp2_with fail
      go_loop [0, 6] (fun x i => ∃ (k : Nat) (g : Int), k ≤ len ∧ i = .int .i64 k ∧ x = .int .i64 g ∧ (0 ≤ g ∧ g ≤ 1000) ∧ vrun f (zs.take k) = some g) (fun _ i => len - (intOf i).toNat)
      case atStart => exact ⟨0, f, Nat.zero_le _, rfl, rfl, hb0, rfl⟩
      case round =>
        obtain ⟨k, g, hk, rfl, rfl, hg, hrun⟩ := hrel
        have HR := Lib.hid hrun
        clear hrun
        by_cases hlt : k < len
        · obtain ⟨b, off, rfl, hbl, hcell⟩ := H.out.2.resolve_left (by omega)
          have hc := hcell k hlt
          have hkl : k < zs.length := by have := H.out.1; omega
          have hsn : vrun f (zs.take (k + 1)) = vstep g (zs.getD k 0) := by
            rw [take_getD hkl, vrun_snoc, HR.out]; rfl
          have HS := Lib.hid hsn
          clear hsn hcell
          generalize zs.getD k 0 = s at *
          cases hv : vstep g s with
          | none =>
            have hfin : vrun f zs = none := by
              have e1 := HS.out
              rw [hv] at e1
              have := vrun_none_append (zs.drop (k + 1)) e1
              rwa [List.take_append_drop] at this
            have HF := Lib.hid hfin
            have HV := Lib.hid hv
            clear hfin hv HS
            go_wp2_with (go_at_call 16; refine (refStep_any _ _ _).mono ?_; rintro e w' ⟨rfl, rfl⟩; rw [HV.out]; unfold pairV)
            go_ret2
            exact ⟨by rw [HF.out]; rfl, rfl⟩
          | some y =>
            have hy := vstep_bd hv
            have HV := Lib.hid hv
            rw [hv] at HS
            clear hv
            have hy2 : 0 ≤ y ∧ y ≤ 1000 := ⟨by omega, by omega⟩
            clear hy
            go_wp2_with (go_at_call 16; refine (refStep_any _ _ _).mono ?_; rintro e w' ⟨rfl, rfl⟩; rw [HV.out]; unfold pairV)
            go_round
            case rel => exact ⟨k + 1, y, by omega, by go_num, rfl, hy2, HS.out⟩
            case measure => simp [intOf]; omega
        · have hz : zs.take k = zs := List.take_of_length_le (by have := H.out.1; omega)
          rw [hz] at HR
          clear hz
          go_wp2_with fail
          go_ret2
          exact ⟨by rw [HR.out]; rfl, rfl⟩
/-- What the reference's search finds. -/
theorem need_found (zs : List Int) (k : Nat) (hk : k ≤ 1000) (hno : ∀ j : Nat, j < k → (vrun j zs).isSome = false) :
    ((vrun k zs).isSome = true → needOf zs = some (k : Int)) := by
  intro h
  obtain ⟨n, hn, hle⟩ := (need_law zs k (by omega) (by omega)).1 h
  have hb := needOf_bd hn
  rw [hn]
  congr 1
  by_cases he : n = k
  · exact he
  · have h2 := hno n.toNat (by omega)
    have h3 := (need_law zs n (by omega) (by omega)).2 ⟨n, hn, Int.le_refl _⟩
    rw [show (n.toNat : Int) = n by omega] at h2
    rw [h2] at h3
    cases h3
theorem need_not_found (zs : List Int) (hno : ∀ j : Nat, j < 1001 → (vrun j zs).isSome = false) : needOf zs = none := by
  cases hn : needOf zs with
  | none => rfl
  | some n =>
    have hb := needOf_bd hn
    have h2 := hno n.toNat (by omega)
    have h3 := (need_law zs n (by omega) (by omega)).2 ⟨n, hn, Int.le_refl _⟩
    rw [show (n.toNat : Int) = n by omega] at h2
    rw [h2] at h3
    cases h3
set_option maxHeartbeats 1000000 in
theorem refNeed_any (a : Option Addr) (len cap : Nat) (zs : List Int) (w : World) (h : IsInts w a len zs) (hlen : len ≤ 9223372036854775807) :
    Calls Try.prog 19 #[.slice a len cap] w fun e w' => e = .returned (pairV (needOf zs)) ∧ w = w' := by
  have H := Lib.hid h
  clear h
  go_enter Try.func19, Try.ntmps19
  go_wp2_with fail
  go_loop [4] (fun i => ∃ k : Nat, k ≤ 1001 ∧ i = .int .i64 k ∧ ∀ j : Nat, j < k → (vrun j zs).isSome = false) (fun i => 1001 - (intOf i).toNat)
  case atStart => exact ⟨0, by omega, rfl, fun j hj => by omega⟩
  case round =>
    obtain ⟨k, hk, rfl, hno⟩ := hrel
    have HNo := Lib.hid hno
    clear hno
    by_cases hlt : k ≤ 1000
    · have hro : runOf k zs = vrun k zs := by unfold runOf; rw [if_neg (by omega)]
      cases hv : vrun k zs with
      | none =>
        have HV := Lib.hid (hro.trans hv)
        have HNo2 : Hid (∀ j : Nat, j < k + 1 → (vrun j zs).isSome = false) := Lib.hid (fun j hj => by
          by_cases e : j = k
          · rw [e, hv]; rfl
          · exact HNo.out j (by omega))
        clear hv hro
        go_wp2_with (go_at_call 33; refine (refRun_any _ _ _ _ zs _ H.out hlen).mono ?_; rintro e w' ⟨rfl, rfl⟩; rw [HV.out]; unfold pairV)
        go_round
        case rel => exact ⟨k + 1, by omega, by go_num, HNo2.out⟩
        case measure => simp [intOf]; omega
      | some g =>
        have HV := Lib.hid (hro.trans hv)
        have HF := Lib.hid (need_found zs k hlt HNo.out (by rw [hv]; rfl))
        clear hv hro
        go_wp2_with (go_at_call 33; refine (refRun_any _ _ _ _ zs _ H.out hlen).mono ?_; rintro e w' ⟨rfl, rfl⟩; rw [HV.out]; unfold pairV)
        go_ret2
        exact ⟨by rw [HF.out]; rfl, rfl⟩
    · have hk1 : k = 1001 := by omega
      have HF := Lib.hid (need_not_found zs (fun j hj => HNo.out j (by omega)))
      clear hk1
      go_wp2_with fail
      go_ret2
      exact ⟨by rw [HF.out]; rfl, rfl⟩
end Go.Proofs.Ytpaepefpfaoacaa
