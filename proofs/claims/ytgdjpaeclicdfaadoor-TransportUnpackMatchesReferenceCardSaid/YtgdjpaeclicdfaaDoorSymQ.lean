/- The steps once more, with their checks behind: shorter to write. Nothing here is about one function. -/
import Derived.KernelRfl
import Derived.Test.YtgdjpaeclicdfaaDoorSymD
namespace Go.Proofs.YtgdjpaeclicdfaaDoor
open Go.ChangeShapes Go.WideShapes Go.ChangeAt Go.RowKit
set_option linter.unusedVariables false

section
variable {P : Program} {ops : Array Oper} {Q : Exit → Act → World → Prop} {a : Act} {w : World} {rest : List Oper} {o : Oper} {n : Nat} {L : List (Nat × Value)}
theorem Sl.v (H : Sl n L a) (d : Nat) (v : Value) (k : ∀ a', Sl n ((d, v) :: L) a' → wpList P ops Q rest a' w) (hc : chk ops n L o d = true := by kernel_rfl) (hx : (execOp (ev L) o).run P w = .ok (.value v) w := by kernel_rfl) : wpList P ops Q (o :: rest) a w := H.val d v hc hx k
theorem Sl.u (H : Sl n L a) (d : Nat) (v : Value) (hx : (execOp (ev L) o).run P w = .ok (.value v) w) (k : ∀ a', Sl n ((d, v) :: L) a' → wpList P ops Q rest a' w) (hc : chk ops n L o d = true := by kernel_rfl) : wpList P ops Q (o :: rest) a w := H.val d v hc hx k
theorem Sl.s (H : Sl n L a) (d : Nat) (k : ∀ a', Sl n ((d, undef) :: L) a' → wpList P ops Q rest a' w) (hc : chkSkip ops n L o d = true := by kernel_rfl) : wpList P ops Q (o :: rest) a w := H.skip d hc k
end
section
variable {P : Program} {ops : Array Oper} {Q : Exit → Act → World → Prop} {S : World → Prop} {a : Act} {w : World} {o : Oper} {n m fuel : Nat} {L : List (Nat × Value)} {listed : Array Bool}
theorem An.p (H : Sl n L a) (hS : listed.getD m false = true ∨ S w) (i d : Nat) (v : Value) (k : ∀ a', Sl n ((d, v) :: L) a' → wpAnyM P .any ops Q S m fuel (listed.setIfInBounds i true) a' w) (ho : ops[i]? = some o := by rfl) (hc : chk ops n L o d = true := by kernel_rfl) (ht : chkP ops listed m i = true := by kernel_rfl) (hQ : ∀ c a w, Q (.panic c) (a.put o.dst v) w → Q (.panic c) a w := by exact fun _ _ _ h => h)
    (hx : ∀ w, (execOp (ev L) o).run P w = .ok (.value v) w := by exact fun _ => by kernel_rfl) : wpAnyM P .any ops Q S m (fuel + 1) listed a w := An.pure H hS i d v ho hc ht hQ hx k
theorem An.s (H : Sl n L a) (hS : listed.getD m false = true ∨ S w) (i d : Nat) (k : ∀ a', Sl n ((d, undef) :: L) a' → wpAnyM P .any ops Q S m fuel (listed.setIfInBounds i true) a' w) (ho : ops[i]? = some o := by rfl) (hc : chkSkip ops n L o d = true := by kernel_rfl) (ht : chkP ops listed m i = true := by kernel_rfl) (hQ : ∀ c a w, Q (.panic c) (a.put o.dst undef) w → Q (.panic c) a w := by exact fun _ _ _ h => h) : wpAnyM P .any ops Q S m (fuel + 1) listed a w := An.skip H hS i d ho hc ht hQ k
end
end Go.Proofs.YtgdjpaeclicdfaaDoor
