/- Contract of transport.packets, as the caller's range takes it. -/
import Derived.Test.YtgdjpaeclicdfaaDoorTrG
namespace Go.Proofs.YtgdjpaeclicdfaaDoor
open Go.ChangeShapes Go.WideShapes Go.ChangeAt Go.RowKit Go.Shelf
set_option linter.unusedVariables false

theorem packets_any (r u : Array Value) (w : World) :
    Calls Tryd.prog 30 #[.agg r, .agg u] w fun e w' => e = .returned (.func (.func 51) #[] #[.pointer (some ⟨w.heap.size, 0, none⟩), .pointer (some ⟨w.heap.size + 1, 0, none⟩)]) ∧ w' = (w.alloc (.cells r 23)).alloc (.cells u 28) := by
  go_enter Tryd.func30, Tryd.ntmps30
  go_wp2
  go_ret
  simp
theorem packets_seq (n : Nat) (Br Bu : Nat) (rn rd : Int) (u : Un) (w : World) (hL : Laid w) (hrv : rateOk rn rd = true) (hu : IsAlts w u.A u.al.length u.al) (hv : validU u = true)
    (hB1 : Box w Br 23 #[.int .i64 rn, .int .i64 rd]) (hB2 : Box w Bu 28 u.cells) :
    SeqO Fence.wide n Tryd.prog 51 #[.pointer (some ⟨Br, 0, none⟩), .pointer (some ⟨Bu, 0, none⟩)] (fun x : Pk => #[.agg (Lib.byteCells x.1).toArray]) (KpU Bu) (fun ys => ys.map (·.1) = pktsU rn rd u) (fun _ => True) (pktN (streamU rn rd u)) w := fun l J Jx W hW _ hJ hJx hY h0 =>
  callsIn_wide.2 ((packets1_any (n - 1) l Br Bu rn rd u J Jx W (hL.below hW) hrv (hu.below hW) hv (hB1.next hW) (hB2.next hW) hJ h0 (fun pre x W1 hj hl => by
    obtain ⟨fn, tm, asg, bo, hy, hR⟩ := hY pre x W1 hj hl
    refine ⟨fn, tm, asg, bo, hy, hR.mono fun e W' h => ?_⟩
    rcases h with ⟨rfl, h1, h2⟩ | ⟨rfl, h1, h2⟩
    · exact ⟨true, rfl, fun _ => h1, fun h => (by cases h), h2⟩
    · exact ⟨false, rfl, fun h => (by cases h), fun _ => h1, h2⟩)).mono fun e W' h => ⟨h.1, h.2.imp id fun ⟨pre, h⟩ => ⟨pre, trivial, h⟩⟩)
end Go.Proofs.YtgdjpaeclicdfaaDoor
