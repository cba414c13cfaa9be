/- More single operations, by explicit steps: min, max, slices. Nothing here is about one function. -/
import Derived.Test.YtgdjpaeclicdfaaDoorSymA
namespace Go.Proofs.YtgdjpaeclicdfaaDoor
open Go.ChangeShapes Go.WideShapes Go.ChangeAt Go.RowKit
set_option linter.unusedVariables false
set_option linter.unusedSimpArgs false

section
variable {P : Program} {ρ : Operand → Value} {w : World} {t e : TypeId} {x y z : Operand} {dst : Option Tmp} {ty : TypeId} {pos : String} {af : Array Edge} {g : Option (Nat × Bool)} {k kk : IntKind} {ats : Array TypeId}
theorem min_if (m n : Int) : (if n < m then n else m) = min m n := by omega
theorem max_if (m n : Int) : (if n > m then n else m) = max m n := by omega
theorem sliced_h (A : Option Addr) (m cap s : Nat) : sliced A 0 m cap s = .slice A m cap := by
  unfold sliced
  have e : A.map (·.add (0 * s)) = A := by cases A <;> simp [Addr.add_zero']
  rw [e]
  simp
/-- x[:n] -/
theorem ex_sliceH {A : Option Addr} {len cap m : Nat} {n : Int} {sz : Nat} (hx : ρ x = .slice A len cap) (hy : ρ y = .int k n) (hu : P.underlying t = some (.slice (P.elem t))) (hs : sizeB P (P.elem t) = some sz) (hn : n = (m : Int)) (hm : m ≤ cap) :
    (execOp ρ ⟨dst, .slice t x none (some y) none, ty, pos, af, g⟩).run P w = .ok (.value (.slice A m cap)) w := by
  subst hn
  simp only [execOp, hx, hy, Option.map_none, Option.map_some, run_sliceAt_slice w t _ _ _ _ hu, run_slice_h w t A len cap hu k (m : Int) (by omega) (by omega), run_sizeOf hs, Sem.run_bind, Result.andThen_ok, Sem.run_pure, Int.toNat_natCast, sliced_h]
end
end Go.Proofs.YtgdjpaeclicdfaaDoor
