/- Steps: a row of bytes made from a string ([]byte(s)): load, store, copy into it. -/
import Derived.Laws.IdiomStrings
import Derived.Lib.FrozenHead
import Derived.Test.YtgdjpaeclicdfaaDoorSymE
import Derived.Test.YtgdjpaeclicdfaaDoorBldF
namespace Go.Proofs.YtgdjpaeclicdfaaDoor
open Go.ChangeShapes Go.WideShapes Go.ChangeAt Go.RowKit Go.Shelf
set_option linter.unusedVariables false
set_option linter.unusedSimpArgs false

/-- A row of bytes that was made from a string: it is marked behind its end. -/
def bytesB (b : Nat) (e : TypeId) (l : List UInt8) (cap : Nat) : HB :=
  ⟨fun k => k = b, fun w => w.heap[b]? = some (.cells (Lib.byteCells l ++ List.replicate (cap - l.length) (Value.int IntKind.u8 0)).toArray e (l.length + (cap - l.length), l.length + (cap - l.length) + 1)), true⟩
theorem bytesB_ok (b : Nat) (e : TypeId) (l : List UInt8) (cap : Nat) : (bytesB b e l cap).ok := fun _ _ h hk _ => (hk b rfl).trans h
theorem bytesB_lt {b : Nat} {e : TypeId} {l : List UInt8} {cap : Nat} {w : World} (h : (bytesB b e l cap).F w) : b < w.heap.size := (Array.getElem?_eq_some_iff.1 h).1
theorem bytesB_cell {b : Nat} {e : TypeId} {l : List UInt8} {cap : Nat} {w : World} (h : (bytesB b e l cap).F w) {i : Nat} (hi : i < l.length) : w.cell? ⟨b, i, none⟩ = some (.int .u8 (((l.getD i 0).toNat : Nat) : Int)) := by
  rw [Lib.cell_of_heap (show w.heap[b]? = _ from h)]
  rw [List.getElem?_toArray, List.getElem?_append_left (by rw [byteCells_len]; exact hi), byteCells_get, List.getElem?_eq_getElem hi]
  simp [List.getD, List.getElem?_eq_getElem hi]
theorem bytesB_rd {b : Nat} {e : TypeId} {l : List UInt8} {cap : Nat} {w : World} (h : (bytesB b e l cap).F w) : Rd w 1 (some ⟨b, 0, none⟩) l.length (Lib.byteCells l) := by
  refine ⟨by rw [byteCells_len, Nat.mul_one], .inr ⟨b, 0, rfl, bytesB_lt h, fun i hi => ?_⟩⟩
  rw [Nat.mul_one] at hi
  rw [Nat.zero_add, bytesB_cell h hi, byteCells_get, List.getElem?_eq_getElem hi]
  simp [List.getD, List.getElem?_eq_getElem hi]
theorem byteCells_one (l : List UInt8) : ∀ v ∈ Lib.byteCells l, one v = true := by
  intro v hv
  simp only [Lib.byteCells, List.mem_map] at hv
  obtain ⟨a, _, rfl⟩ := hv
  rfl
theorem run_storeZ (P : Program) (g o : Nat) (t : TypeId) (fz : Nat × Nat) : ∀ (vs : List Value) (i : Nat) (cur : Array Value) (w : World), w.heap[g]? = some (.cells cur t fz) → o + i + vs.length ≤ fz.1 → o + i + vs.length ≤ cur.size → (∀ v ∈ vs, one v = true) →
    (storeCells ⟨g, o, none⟩ vs i).run P w = .ok () (w.setRow g (cur.toList.take (o + i) ++ vs ++ cur.toList.drop (o + i + vs.length)).toArray)
  | [], i, cur, w, hg, _, _, _ => by
    simp only [storeCells, List.append_nil, List.length_nil, Nat.add_zero, List.take_append_drop, Array.toArray_toList]
    rw [setRow_self w g cur t fz hg]
    rfl
  | v :: rest, i, cur, w, hg, hfz, hl, h1 => by
    have hi : o + i < cur.size := by simp at hl; omega
    have hadd : (⟨g, o, none⟩ : Addr).add i = ⟨g, o + i, none⟩ := add_plain g o i
    have hcell : w.cell? ⟨g, o + i, none⟩ = some cur[o + i] := by simp [World.cell?, hg, hi]
    have hfro : w.frozen? ⟨g, o + i, none⟩ = false := by
      obtain ⟨lo, hi'⟩ := fz
      simp only [World.frozen?, hg, Bool.and_eq_false_iff, decide_eq_false_iff_not]
      left
      simp only [List.length_cons] at hfz
      omega
    have hst : (store ((⟨g, o, none⟩ : Addr).add i) v).run P w = .ok () (w.setRow g (cur.setIfInBounds (o + i) v)) := by
      rw [hadd, Go.Proofs.YtgdjpaeclicdfaaDoor.run_store (h1 v (List.mem_cons_self ..)) hcell hfro, setCell_eq_setRow w g (o + i) cur t fz v hg]
    have ih := run_storeZ P g o t fz rest (i + 1) (cur.setIfInBounds (o + i) v) (w.setRow g (cur.setIfInBounds (o + i) v)) (setRow_heap w g cur _ t _ hg) (by simp only [List.length_cons] at hfz; omega) (by simp at hl ⊢; omega) (fun x hx => h1 x (List.mem_cons_of_mem _ hx))
    simp only [storeCells, Sem.run_bind, hst, Result.andThen_ok, ih, setRow_setRow]
    congr 3
    have e := list_seg_step cur.toList (o + i) v rest (by simp at hl ⊢; omega)
    simpa [Array.toList_setIfInBounds, Nat.add_assoc] using e
/-- l with s written over it from o on. -/
def over (l : List UInt8) (o : Nat) (s : List UInt8) : List UInt8 := l.take o ++ s ++ l.drop (o + s.length)
theorem over_len {l s : List UInt8} {o : Nat} (h : o + s.length ≤ l.length) : (over l o s).length = l.length := by
  unfold over
  simp only [List.length_append, List.length_take, List.length_drop]; omega
theorem over_one {l : List UInt8} {o : Nat} {x : UInt8} (h : o < l.length) : over l o [x] = l.set o x := by
  unfold over
  rw [List.set_eq_take_append_cons_drop, if_pos h]
  simp
theorem run_storeRow (P : Program) {w : World} {b o : Nat} {l s : List UInt8} {e : TypeId} {cap : Nat} (h : (bytesB b e l cap).F w) (hle : o + s.length ≤ l.length) :
    ∃ w', (storeCells ⟨b, o, none⟩ (Lib.byteCells s) 0).run P w = .ok () w' ∧ (bytesB b e (over l o s) cap).F w' ∧ Agree w w' (fun k => k = b) := by
  have hb : w.heap[b]? = _ := h
  have hr := run_storeZ P b o e _ (Lib.byteCells s) 0 _ w hb (by rw [byteCells_len]; simp only; omega) (by rw [byteCells_len]; simp [byteCells_len]; omega) (byteCells_one s)
  refine ⟨_, hr, ?_, ⟨rfl, rfl, rfl, by simp [World.setRow], fun k _ hk => setRow_other w b k _ (fun e => hk (by rw [e]))⟩⟩
  have := setRow_heap w b _ (((Lib.byteCells l ++ List.replicate (cap - l.length) (Value.int .u8 0)).toArray.toList.take (o + 0) ++ Lib.byteCells s ++ (Lib.byteCells l ++ List.replicate (cap - l.length) (Value.int .u8 0)).toArray.toList.drop (o + 0 + (Lib.byteCells s).length)).toArray) e _ hb
  show (World.setRow _ _ _).heap[b]? = some (.cells (Lib.byteCells (over l o s) ++ _).toArray e _)
  rw [over_len hle, this]
  congr 2
  unfold over
  rw [byteCells_append, byteCells_append, byteCells_len]
  simp only [Nat.add_zero]
  have e1 : (Lib.byteCells l ++ List.replicate (cap - l.length) (Value.int .u8 0)).take o = Lib.byteCells (l.take o) := by
    rw [List.take_append_of_le_length (by rw [byteCells_len]; omega)]
    simp [Lib.byteCells]
  have e2 : (Lib.byteCells l ++ List.replicate (cap - l.length) (Value.int .u8 0)).drop (o + s.length) = Lib.byteCells (l.drop (o + s.length)) ++ List.replicate (cap - l.length) (Value.int .u8 0) := by
    rw [List.drop_append_of_le_length (by rw [byteCells_len]; omega)]
    simp [Lib.byteCells]
  rw [e1, e2]
  simp only [List.append_assoc]
/-- x[a:b] of a slice -/
theorem ex_sliceLH {P : Program} {ρ : Operand → Value} {w : World} {t : TypeId} {x y z : Operand} {dst : Option Tmp} {ty : TypeId} {pos : String} {af : Array Edge} {g : Option (Nat × Bool)} {b off len cap i j : Nat} {lo hi : Int} (hx : ρ x = .slice (some ⟨b, off, none⟩) len cap) (hy : ρ y = .int .i64 lo) (hz : ρ z = .int .i64 hi) (hu : P.underlying t = some (.slice (P.elem t))) (hs : sizeB P (P.elem t) = some 1)
    (h1 : lo = (i : Int)) (h2 : hi = (j : Int)) (h3 : i ≤ j) (h4 : j ≤ cap) (h5 : i < cap) :
    (execOp ρ ⟨dst, .slice t x (some y) (some z) none, ty, pos, af, g⟩).run P w = .ok (.value (.slice (some ⟨b, off + i, none⟩) (j - i) (cap - i))) w := by
  subst h1 h2
  have e : sliced (some ⟨b, off, none⟩) i j cap 1 = .slice (some ⟨b, off + i, none⟩) (j - i) (cap - i) := by
    unfold sliced
    rw [if_neg (by omega), Option.map_some, add_plain, Nat.mul_one]
  simp only [execOp, hx, hy, hz, Option.map_none, Option.map_some, run_sliceAt_slice w t _ _ _ _ hu, run_slice_lh w t (some ⟨b, off, none⟩) len cap hu .i64 .i64 (i : Int) (j : Int) (by omega) (by omega) (by omega), run_sizeOf hs, Sem.run_bind, Result.andThen_ok, Sem.run_pure, Int.toNat_natCast, e]
section
variable {P : Program} {ops : Array Oper} {Q : Exit → Act → World → Prop} {a : Act} {w0 w : World} {rest : List Oper} {n : Nat} {L : List (Nat × Value)} {LH : List HB} {K : List FK} {ty e : TypeId} {pos : String} {af : Array Edge} {g : Option (Nat × Bool)}
/-- []byte(s) -/
theorem Sl.s2b (H : Sl n L a) (HP : Hp w0 w LH K) (d : Nat) (l : List UInt8) {src td : TypeId} {x : Operand} (hc : chk ops n L ⟨some d, .convert src td x, ty, pos, af, g⟩ d = true) (hx : ev L x = .string (bstr l))
    (hs : P.underlying src = some .string) (hd : P.underlying td = some (.slice e)) (he : P.underlying e = some (.int .u8))
    (k : ∀ b cap w' a', l.length ≤ cap → Sl n ((d, .slice (some ⟨b, 0, none⟩) l.length cap) :: L) a' → Hp w0 w' (bytesB b e l cap :: LH) K → wpList P ops Q rest a' w') :
    wpList P ops Q (⟨some d, .convert src td x, ty, pos, af, g⟩ :: rest) a w := by
  have hr := run_bytes_of_string (P := P) w src td e (bstr l) hs hd he
  obtain ⟨cap, hcap⟩ : ∃ c, grownCap w (bstr l).size 0 e = c := ⟨_, rfl⟩
  have hge : l.length ≤ cap := by rw [← hcap]; exact grownCap_ge w (bstr l).size 0 e
  rw [hcap] at hr
  have e1 : bytesRow (bstr l) cap = (Lib.byteCells l ++ List.replicate (cap - l.length) (Value.int IntKind.u8 0)).toArray := by
    simp [bytesRow, Lib.byteCells, bstr, ByteArray.size]
  rw [e1] at hr
  have e2 : (Lib.byteCells l ++ List.replicate (cap - l.length) (Value.int IntKind.u8 0)).toArray.size = l.length + (cap - l.length) := by simp [byteCells_len]
  rw [e2] at hr
  refine H.valW d _ hc (by simp only [execOp, hx, Sem.run_bind, hr, Result.andThen_ok, Sem.run_pure]; rfl) fun a' H' => ?_
  refine k _ _ _ a' hge H' (HP.gain (((Below.refl _ w).drew).alloc (by simp) _) _ ?_ (bytesB_ok _ _ _ _) (fun k hk => ?_) (fun k hk => by cases hk; exact Nat.le_refl _))
  · exact heap_alloc_new w.drew _
  · cases hk; simp
/-- b[i] = x -/
theorem Sl.storeB (H : Sl n L a) (HP : Hp w0 w LH K) (ib : Nat) {t : TypeId} {x y : Operand} (b i : Nat) (l : List UInt8) (cap : Nat) (v : UInt8) (hc : chk0 ops L ⟨none, .store t x y, ty, pos, af, g⟩ = true) (hx : ev L x = .pointer (some ⟨b, i, none⟩)) (hy : ev L y = .int .u8 ((v.toNat : Nat) : Int))
    (hi : LH[ib]? = some (bytesB b e l cap)) (hs : sizeB P t = some 1) (hl : i < l.length) (k : ∀ w' a', Sl n L a' → Hp w0 w' (LH.set ib (bytesB b e (l.set i v) cap)) K → wpList P ops Q rest a' w') :
    wpList P ops Q (⟨none, .store t x y, ty, pos, af, g⟩ :: rest) a w := by
  obtain ⟨hd, hk, hs', hw⟩ := chk0_spec hc
  refine wpList_wanted (H.wanted hw) ?_
  obtain ⟨w', hr, hF, hag⟩ := run_storeRow P (w := w) (o := i) (s := [v]) (HP.held ib hi) (by simp; omega)
  rw [over_one hl] at hF
  unfold Oper.wp
  rw [H.exec hk hs']
  have e1 : (Value.int IntKind.u8 ((v.toNat : Nat) : Int)).cells.toList = Lib.byteCells [v] := rfl
  simp only [execOp, hx, hy, Instr.storeAt, Instr.sureAddr, storeVar, Sem.run_bind, Sem.run_pure, Result.andThen_ok, run_sizeOf hs, e1]
  rw [if_neg (show ¬ ((Value.int IntKind.u8 ((v.toNat : Nat) : Int)).cells.size ≠ 1) from fun h => h rfl)]
  simp only [Sem.run_bind, Sem.run_pure, Result.andThen_ok, hr]
  exact k w' _ H (HP.mut ib hi _ _ rfl hag hF (bytesB_ok _ _ _ _) (fun k hk => by cases hk; exact bytesB_lt hF) (fun k hk => .inl hk) (fun k _ hk => hk) rfl)
/-- copy from a string into such a row -/
theorem Op.copyB {i : Nat} {o : Oper} {KK : Act → World → Prop} {Q' : Exit → Act → World → Prop} (H : Sl n L a) (HP : Hp w0 w LH K) (ib d b off m c cap : Nat) (l s : List UInt8) {dT sT ty' : TypeId} (ho : ops[i]? = some o) (hc : chk ops n L o d = true)
    (hx : execOp (ev L) o = (do pure (.value (← Builtin.copy_ #[dT, sT] ty' #[.slice (some ⟨b, off, none⟩) m c, .string (bstr s)]))))
    (hu : P.underlying dT = some (.slice e)) (hs : sizeB P e = some 1) (hi : LH[ib]? = some (bytesB b e l cap)) (hle : s.length ≤ m) (hfit : off + s.length ≤ l.length)
    (kk : ∀ w' a', Sl n ((d, .int .i64 (s.length : Int)) :: L) a' → Hp w0 w' (LH.set ib (bytesB b e (over l off s) cap)) K → KK a' w') : wpOp P ops Q' i KK a w := by
  obtain ⟨hd, hn, hk, hs', hw⟩ := chk_spec hc
  refine wpOp_wanted ho (H.wanted hw) ?_
  obtain ⟨w', hr, hF, hag⟩ := run_storeRow P (w := w) (o := off) (s := s) (HP.held ib hi) hfit
  have hmin : Nat.min (bstr s).size m = (bstr s).size := Nat.min_eq_left (by rw [bstr_size]; exact hle)
  have htk : List.take (bstr s).size (List.map (fun b : UInt8 => Value.int IntKind.u8 (b.toNat : Int)) (bstr s).data.toList) = Lib.byteCells s := by
    rw [bstr_dataE, bstr_size, List.take_of_length_le (by simp)]
    rfl
  have hrun : (Builtin.copy_ #[dT, sT] ty' #[.slice (some ⟨b, off, none⟩) m c, .string (bstr s)]).run P w = .ok (.int .i64 (s.length : Int)) w' := by
    unfold sizeB at hs
    cases hq : P.info? e with
    | none => simp [hq] at hs
    | some j =>
      simp [Builtin.copy_, run_underlying hu, Builtin.lenOf, Builtin.firstCells, sizeOf, typeInfo, hq, hmin]
      rw [htk, hr]
      simp [Result.andThen, bstr_size, goInt]
  unfold Oper.wp
  rw [H.exec hk hs', hx]
  simp only [Sem.run_bind, hrun, Result.andThen_ok, Sem.run_pure]
  rw [Oper.upon_value, hd]
  exact kk _ _ (H.put _ hn) (HP.mut ib hi _ _ rfl hag hF (bytesB_ok _ _ _ _) (fun k hk => by cases hk; exact bytesB_lt hF) (fun k hk => .inl hk) (fun k _ hk => hk) rfl)
end
end Go.Proofs.YtgdjpaeclicdfaaDoor
