/- Steps: a call of yield; a block whose cells are told by a term; copy from a string. -/
import Derived.Lib.BufferWrite
import Derived.Laws.CopyOwn
import Derived.Test.YtgdjpaeclicdfaaDoorSymD
import Derived.Test.YtgdjpaeclicdfaaDoorSymS
import Derived.Test.YtgdjpaeclicdfaaDoorIter
namespace Go.Proofs.YtgdjpaeclicdfaaDoor
open Go.ChangeShapes Go.WideShapes Go.ChangeAt Go.RowKit Go.Shelf
set_option linter.unusedVariables false
set_option linter.unusedSimpArgs false

section
variable {P : Program} {ops : Array Oper} {Q : Exit → Act → World → Prop} {a : Act} {w w' : World} {rest : List Oper} {o : Oper} {n m : Nat} {L : List (Nat × Value)}
theorem wpListIn_wantedW (hw : Region.wanted o (yielded ops a.tmps) = true) (h : o.uponIn Fence.wide m P a (wpListIn Fence.wide m P ops Q rest) Q ((execOp a.eval o).run P w)) : wpListIn Fence.wide m P ops Q (o :: rest) a w := by
  unfold wpListIn
  rw [if_pos hw]
  exact ⟨fun _ _ => trivial, h⟩
theorem Sl.valI (H : Sl n L a) (d : Nat) (v : Value) (hc : chk ops n L o d = true)
    (hx : (execOp (ev L) o).run P w = .ok (.value v) w) (k : ∀ a', Sl n ((d, v) :: L) a' → wpListIn Fence.wide m P ops Q rest a' w) : wpListIn Fence.wide m P ops Q (o :: rest) a w := by
  obtain ⟨hd, hn, hk, hs, hw⟩ := chk_spec hc
  refine wpListIn_wantedW (H.wanted hw) ?_
  rw [H.exec hk hs, hx]
  show wpListIn Fence.wide m P ops Q rest (a.put o.dst v) w
  rw [hd]
  exact k _ (H.put v hn)
/-- A call of yield. -/
theorem Sl.callY (H : Sl n L a) (d : Nat) {l : Nat} {args : Array Value} {R : Ending → World → Prop} (hc : chk ops n L o d = true)
    (hx : (execOp (ev L) o).run P w = (Instr.yield l args).run P w) (hY : YieldAt Fence.wide m P l args w R)
    (k : ∀ e w'', R e w'' → ∃ v, e = .returned v ∧ ∀ a', Sl n ((d, v) :: L) a' → wpListIn Fence.wide (m + 1) P ops Q rest a' w'') : wpListIn Fence.wide (m + 1) P ops Q (o :: rest) a w := by
  obtain ⟨hd, hn, hk, hs, hw⟩ := chk_spec hc
  obtain ⟨fn, tmps, assign, body, hy, hR⟩ := hY
  refine wpListIn_wantedW (H.wanted hw) ?_
  rw [H.exec hk hs, hx, hy]
  refine ⟨fun _ => by omega, hR.mono fun e w'' he => ?_⟩
  obtain ⟨v, rfl, hv⟩ := k e w'' he
  show wpListIn Fence.wide (m + 1) P ops Q rest (a.put o.dst v) w''
  rw [hd]
  exact hv _ (H.put v hn)
theorem w_regionI (m : Nat) {id : Nat} {l : List Oper} (h : wpListIn Fence.wide m P l.toArray Q l a w) : (Code.region id l.toArray false).wp P Q a w := wpIn_wide.1 (wpIn_region_lit h)
end
theorem bstr_dataE (l : List UInt8) : (bstr l).data.toList = l := by simp [bstr]
/-- copy from a string into a held block -/
theorem Op.copyS {P : Program} {ops : Array Oper} {Q : Exit → Act → World → Prop} {a : Act} {w : World} {o : Oper} {n i : Nat} {L : List (Nat × Value)} {K : Act → World → Prop} {KB : List FK} {w0 : World} {LH : List HB} (H : Sl n L a) (HP : Hp w0 w LH KB) (ib d b off m c : Nat) (tb : TypeId) (us : List Value) (s : List UInt8) (f : Bool) (LH' : List HB) {dT sT ty e : TypeId}
    (ho : ops[i]? = some o) (hc : chk ops n L o d = true)
    (hx : execOp (ev L) o = (do pure (.value (← Builtin.copy_ #[dT, sT] ty #[.slice (some ⟨b, off, none⟩) m c, .string (bstr s)]))))
    (hu : P.underlying dT = some (.slice e)) (hs : sizeB P e = some 1) (hi : LH[ib]? = some (bx b tb us f)) (hle : s.length ≤ m) (hfit : off + s.length ≤ us.length)
    (hL : LH.set ib (bx b tb (us.take off ++ Lib.byteCells s ++ us.drop (off + s.length)) f) = LH')
    (kk : ∀ w' a', Sl n ((d, .int .i64 (s.length : Int)) :: L) a' → Hp w0 w' LH' KB → K a' w') : wpOp P ops Q i K a w := by
  obtain ⟨hd, hn, hk, hs', hw⟩ := chk_spec hc
  refine wpOp_wanted ho (H.wanted hw) ?_
  have hb := HP.at_ ib hi
  have hrun := Lib.run_copy_row_string (P := P) w dT sT ty e b off m c (bstr s) us.toArray tb hu hs hb (by rw [bstr_size]; exact hle) (by rw [bstr_size]; simpa using hfit)
  rw [bstr_size, bstr_dataE] at hrun
  unfold Oper.wp
  rw [H.exec hk hs', hx]
  simp only [Sem.run_bind, hrun, Result.andThen_ok, Sem.run_pure]
  rw [Oper.upon_value, hd]
  refine kk _ _ (H.put _ hn) (HP.mut ib hi (bx b tb (us.take off ++ Lib.byteCells s ++ us.drop (off + s.length)) f) _ hL ⟨rfl, rfl, rfl, by simp, fun k hkl hne => ?_⟩ ?_ (bx_ok _ _ _ _) (fun k hk => ?_) (fun k hk => .inl hk) (fun k _ hk => hk) rfl)
  · have : k ≠ b := hne
    simp [World.setRow, Array.getElem?_modify, Ne.symm this]
  · have := setRow_heap w b us.toArray (us.take off ++ Lib.byteCells s ++ us.drop (off + s.length)).toArray tb (0, 0) hb
    exact this
  · cases hk
    simpa using hb.lt
/-- a[k:] of an array -/
theorem byteCells_len (s : List UInt8) : (Lib.byteCells s).length = s.length := by simp [Lib.byteCells]
theorem byteCells_get (s : List UInt8) (k : Nat) : (Lib.byteCells s)[k]? = (s[k]?).map fun b => Value.int .u8 (b.toNat : Int) := by simp [Lib.byteCells]
end Go.Proofs.YtgdjpaeclicdfaaDoor
