/- Contracts of the iterator over the audible powers. -/
import Derived.RangeFuncBox
import Derived.RangeFuncLeaves
import Derived.Shelf.Abstract
import Derived.OwnWalkIn
import Derived.TacticsInMore
import Derived.LoopNIn
import Derived.LoopIn
import Derived.RangeFuncFrom
import Derived.Test.YteaffbipkmncmaaD
namespace Go.Proofs.Yteaffbipkmncmaa
open Go.ChangeShapes Go.WideShapes Go.ChangeAt Go.RowKit Go.Shelf

attribute [local go_sem] Oper.semAt_some

/-- A power that the iterator hands over. -/
abbrev Pw := { x : Int // 200 ≤ x ∧ x ≤ 1000000 }
def audI (zs : List Int) : List Pw := zs.filterMap fun z => if h : 200 ≤ cl z then some ⟨cl z, h, (cl_bd z).2⟩ else none
theorem audI_snoc (zs : List Int) (z : Int) : audI (zs ++ [z]) = audI zs ++ if h : 200 ≤ cl z then [⟨cl z, h, (cl_bd z).2⟩] else [] := by
  unfold audI
  rw [List.filterMap_append]
  congr 1
  by_cases h : 200 ≤ cl z <;> simp [h]
theorem audI_len (zs : List Int) : (audI zs).length ≤ zs.length := List.length_filterMap_le _ _
theorem audI_step (zs : List Int) (k : Nat) (hk : k < zs.length) : audI (zs.take (k + 1)) = audI (zs.take k) ++ if h : 200 ≤ cl (zs.getD k 0) then [⟨cl (zs.getD k 0), h, (cl_bd _).2⟩] else [] := by
  rw [List.take_succ_eq_append_getElem hk, audI_snoc]
  have : zs.getD k 0 = zs[k] := by simp [List.getD, List.getElem?_eq_getElem hk]
  rw [this]

set_option maxHeartbeats 1000000 in
theorem audible_in (n : Nat) (a : Option Addr) (len cap : Nat) (w : World) :
    CallsIn Fence.wide n Try.prog 20 #[.slice a len cap] w fun e w' => e = .returned (.func (.func 25) #[] #[.pointer (some ⟨w.heap.size, 0, none⟩)]) ∧ w' = w.alloc (.cells #[.slice a len cap] 22) := by
  refine callsIn_of_wp Try.func20 rfl trivial ?_ rfl
  simp only [Try.ntmps20, List.size_toArray, List.length_cons, List.length_nil, Nat.reduceAdd, Nat.reduceSub, Array.replicate_succ, Array.replicate_zero, List.push_toArray, List.append_toArray, List.nil_append, List.cons_append]
  gi_wp2
  go_ret
  exact ⟨rfl, rfl⟩

set_option maxRecDepth 100000 in
set_option maxHeartbeats 2000000 in
theorem audible1_in (n : Nat) (hn : 1 ≤ n) (l Bs n₀ b off len cap : Nat) (zs : List Int) (hl : zs.length = len) (hreach : len ≤ 1000) (hb : b < n₀) (J Jx : List Pw → World → Prop)
    (hY : ∀ pre x W, J pre W → pre.length < len → YieldAt Fence.wide (n - 1) Try.prog l #[.int .i64 x.1] W fun e W' =>
      (e = .returned (.bool true) ∧ J (pre ++ [x]) W' ∧ Below n₀ W W') ∨ (e = .returned (.bool false) ∧ Jx (pre ++ [x]) W'))
    (W : World) (hBs : W.cell? ⟨Bs, 0, none⟩ = some (.slice (some ⟨b, off, none⟩) len cap)) (hc : ∀ j, j < len → W.cell? ⟨b, off + j, none⟩ = some (.int .i64 (zs.getD j 0))) (h0 : J [] W) :
    CallsIn Fence.wide n Try.prog 25 #[.func (.yield l) #[] #[], .pointer (some ⟨Bs, 0, none⟩)] W fun e W' => (∃ v, e = .returned v) ∧
      ((∃ ys, ys = audI zs ∧ J ys W') ∨ (∃ pre, True ∧ Jx pre W')) := by
  have HL := Lib.hid hl
  have Hc := Lib.hid hc
  clear hl hc
  refine callsIn_of_wp Try.func25 rfl trivial ?_ rfl
  simp only [Try.ntmps25, List.size_toArray, List.length_cons, List.length_nil, Nat.reduceAdd, Nat.reduceSub, Array.replicate_succ, Array.replicate_zero, List.push_toArray, List.append_toArray, List.nil_append, List.cons_append]
  gi_wp2
  gi_loopw [7] (fun i wr => ∃ k : Nat, k ≤ len ∧ i = .int .i64 k ∧ J (audI (zs.take k)) wr ∧ Below n₀ W wr)
    (fun i _ => len - (intOf i).toNat)
  case atStart => exact ⟨0, Nat.zero_le _, rfl, h0, Below.refl _ _⟩
  case round =>
    obtain ⟨k, hk, rfl, hJs, hnx⟩ := hrel
    by_cases hlt : k < len
    · have hcx : wr.cell? ⟨b, off + k, none⟩ = some (.int .i64 (zs.getD k 0)) := (hnx.cell (p := ⟨b, off + k, none⟩) hb).trans (Hc.out k hlt)
      have hst := Lib.hid (audI_step zs k (by have := HL.out; omega))
      have hln : (audI (zs.take k)).length ≤ k := Nat.le_trans (audI_len _) (List.length_take_le _ _)
      generalize zs.getD k 0 = z at *
      by_cases hg : 200 ≤ z
      · have hcl : ∃ y, cl z = y ∧ 200 ≤ y ∧ y ≤ 1000000 ∧ ((1000000 < z ∧ y = 1000000) ∨ (z ≤ 1000000 ∧ y = z)) := ⟨_, rfl, by unfold cl; omega, by unfold cl; omega, by unfold cl; omega⟩
        obtain ⟨y, hcy, hy1, hy2, hyz⟩ := hcl
        obtain ⟨fn, tmps, assign, body, hy, hR⟩ := hY _ ⟨y, hy1, hy2⟩ wr hJs (by omega)
        dsimp only at hy
        have hst2 : audI (zs.take (k + 1)) = audI (zs.take k) ++ [⟨y, hy1, hy2⟩] := by
          rw [hst.out, dif_pos (by omega)]; congr 2; exact Subtype.ext hcy
        have HS := Lib.hid hst2
        clear hst hst2 hcy
        rcases hyz with ⟨hz1, rfl⟩ | ⟨hz1, rfl⟩
        all_goals
          gi_wp2
          refine hR.mono ?_
          rintro e W3 (⟨rfl, hJ3, hk3⟩ | ⟨rfl, hJx3⟩)
          · gi_wp2
            go_roundw
            case rel => exact ⟨k + 1, by omega, by simp, by rw [HS.out]; exact hJ3, hnx.trans hk3⟩
            case measure => simp [intOf]; omega
          · gi_wp2
            refine bodyPost_ret (results_none rfl _ _ _) rfl ?_
            exact ⟨⟨_, rfl⟩, .inr ⟨_, trivial, hJx3⟩⟩
      · have hst2 : audI (zs.take (k + 1)) = audI (zs.take k) := by
          rw [hst.out, dif_neg (by unfold cl; omega), List.append_nil]
        have HS := Lib.hid hst2
        clear hst hst2 hY
        by_cases hz : z < 0
        all_goals
          gi_wp2
          refine ⟨fun _ h => (by cases h), ?_⟩
          gi_wp2
          go_roundw
          case rel => exact ⟨k + 1, by omega, by simp, by rw [HS.out]; exact hJs, hnx⟩
          case measure => simp [intOf]; omega
    · obtain rfl : k = len := by omega
      gi_wp2
      go_end0
      exact ⟨⟨_, rfl⟩, .inl ⟨_, rfl, by rw [List.take_of_length_le (by have := HL.out; omega)] at hJs; exact hJs⟩⟩

set_option maxRecDepth 100000 in
set_option maxHeartbeats 1000000 in
theorem audible1_nil_in (n : Nat) (l Bs cap : Nat) (a : Option Addr) (J : List Pw → World → Prop) (W : World) (hBs : W.cell? ⟨Bs, 0, none⟩ = some (.slice a 0 cap)) (h0 : J [] W) :
    CallsIn Fence.wide n Try.prog 25 #[.func (.yield l) #[] #[], .pointer (some ⟨Bs, 0, none⟩)] W fun e W' => (∃ v, e = .returned v) ∧ J [] W' := by
  refine callsIn_of_wp Try.func25 rfl trivial ?_ rfl
  simp only [Try.ntmps25, List.size_toArray, List.length_cons, List.length_nil, Nat.reduceAdd, Nat.reduceSub, Array.replicate_succ, Array.replicate_zero, List.push_toArray, List.append_toArray, List.nil_append, List.cons_append]
  gi_wp2
  gi_loopw [7] (fun i wr => i = .int .i64 0 ∧ J [] wr) (fun _ _ => 0)
  case atStart => exact ⟨rfl, h0⟩
  case round =>
    obtain ⟨rfl, hJs⟩ := hrel
    gi_wp2
    go_end0
    exact ⟨⟨_, rfl⟩, hJs⟩

/-- What 'audible' hands back gives the audible powers, in order. -/
theorem audible_stops (n : Nat) (hn : 1 ≤ n) (Bs n₀ : Nat) (a : Option Addr) (len cap : Nat) (zs : List Int) (hreach : len ≤ 1000) (w : World) (hBs : Bs < w.heap.size) (hn₀ : n₀ ≤ w.heap.size)
    (hc : w.cell? ⟨Bs, 0, none⟩ = some (.slice a len cap)) (hl : zs.length = len) (hI : len = 0 ∨ ∃ b off, a = some ⟨b, off, none⟩ ∧ b < n₀ ∧ ∀ i, i < len → w.cell? ⟨b, off + i, none⟩ = some (.int .i64 (zs.getD i 0))) :
    SeqStopsK Fence.wide n Try.prog 25 #[.pointer (some ⟨Bs, 0, none⟩)] (fun x : Pw => #[Value.int .i64 x.1]) (Below n₀) (fun ys => ys = audI zs) (fun _ => True) len w := fun l J Jx W hW _ _ hY h0 => by
  have hc' := (hW.cell (p := ⟨Bs, 0, none⟩) hBs).trans hc
  rcases hI with h | ⟨b, off, rfl, hb, hcs⟩
  · subst h
    have : zs = [] := by simpa using hl
    subst this
    exact (audible1_nil_in n l Bs cap a J W hc' h0).mono fun e W' ⟨he, hj⟩ => ⟨he, .inl ⟨_, rfl, hj⟩⟩
  · exact audible1_in n hn l Bs n₀ b off len cap zs hl hreach hb J Jx hY W hc' (fun j hj => (hW.cell (p := ⟨b, off + j, none⟩) (Nat.lt_of_lt_of_le hb hn₀)).trans (hcs j hj)) h0
end Go.Proofs.Yteaffbipkmncmaa
