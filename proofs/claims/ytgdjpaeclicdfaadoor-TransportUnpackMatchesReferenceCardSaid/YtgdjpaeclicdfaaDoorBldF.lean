/- Contracts of strings.Builder that say which blocks change: a builder that may have been read by String. -/
import Derived.Test.YtgdjpaeclicdfaaDoorBuild
import Derived.Test.YtgdjpaeclicdfaaDoorSymS
import Derived.Lib.FrozenHead
import Derived.Shelf.Strings.BuilderK
namespace Go.Proofs.YtgdjpaeclicdfaaDoor
open Go.ChangeShapes Go.WideShapes Go.ChangeAt Go.RowKit Go.Shelf
set_option linter.unusedVariables false
set_option linter.unusedSimpArgs false

/-- A builder: its own block and the row of its bytes. -/
def bldG (T e : TypeId) (base b : Nat) (v : Value) (bs : List UInt8) : HB :=
  ⟨fun k => k = b ∨ v.ownBlock = some k, fun w => base ≤ b ∧ (∃ p, (p = .pointer none ∨ p = .pointer (some ⟨b, 0, none⟩)) ∧ w.heap[b]? = some (.cells #[p, v] T (0, 0))) ∧ w.ownsRowF base e 1 v bs.length (Lib.byteCells bs) ∧ v.ownBlock ≠ some b, true⟩
abbrev bldR (base b : Nat) (v : Value) (bs : List UInt8) : HB := bldG 59 5 base b v bs
theorem ownF_keep {w1 w2 : World} {base : Nat} {e : TypeId} {size n : Nat} {v : Value} {xs : List Value} (h : w1.ownsRowF base e size v n xs) (hk : ∀ k, v.ownBlock = some k → w2.heap[k]? = w1.heap[k]?) : w2.ownsRowF base e size v n xs := by
  refine ⟨h.1, ?_⟩
  rcases h.2 with h2 | ⟨g, cap, cur, fz, hv, hb, hg, r⟩
  · exact .inl h2
  · exact .inr ⟨g, cap, cur, fz, hv, hb, (hk g (by rw [hv]; rfl)).trans hg, r⟩
theorem bldG_ok (T e : TypeId) (base b : Nat) (v : Value) (bs : List UInt8) : (bldG T e base b v bs).ok := fun w1 w2 h hk _ => by
  obtain ⟨h1, ⟨p, hp, hb⟩, h3, h4⟩ := h
  exact ⟨h1, ⟨p, hp, (hk b (.inl rfl)).trans hb⟩, ownF_keep h3 fun k hv => hk k (.inr hv), h4⟩
theorem bldG_lt {T e : TypeId} {base b : Nat} {v : Value} {bs : List UInt8} {w : World} (h : (bldG T e base b v bs).F w) : ∀ k, (bldG T e base b v bs).fp k → k < w.heap.size := by
  obtain ⟨h1, ⟨p, hp, hb⟩, h3, h4⟩ := h
  intro k hk
  rcases hk with rfl | hk
  · exact (Array.getElem?_eq_some_iff.1 hb).1
  · exact (h3.lt k hk).2
/-- A new builder. -/
theorem Hp.toBld {w0 w : World} {L : List HB} {K : List FK} (H : Hp w0 w L K) (i : Nat) {b : Nat} {T : TypeId} (e : TypeId) (hi : L[i]? = some (bx b T [.pointer none, .slice none 0 0] true)) (L' : List HB) (hL : L.set i (bldG T e w0.heap.size b (.slice none 0 0) []) = L') : Hp w0 w L' K := by
  have hb := H.at_ i hi
  have hf := H.fresh _ (List.mem_of_getElem? hi) rfl b rfl
  refine H.mut i hi _ L' hL ⟨rfl, rfl, rfl, Nat.le_refl _, fun _ _ _ => rfl⟩ ⟨hf, ⟨_, .inl rfl, hb⟩, World.ownsRowF_nil _ _ _ _, by simp [Value.ownBlock]⟩ (bldG_ok _ _ _ _ _ _) (fun k hk => ?_) (fun k hk => ?_) (fun k hk _ => .inl (by
    rename_i hx; exact hx)) rfl
  · rcases hk with rfl | hk
    · exact hb.lt
    · cases hk
  · rcases hk with rfl | hk
    · exact .inl rfl
    · cases hk
/-- Behind a write. -/
theorem Hp.wrote {w0 w w' : World} {L : List HB} {K : List FK} (H : Hp w0 w L K) (i : Nat) {T e : TypeId} {b : Nat} {v v' : Value} {bs bs' : List UInt8} (hi : L[i]? = some (bldG T e w0.heap.size b v bs)) (L' : List HB) (hL : L.set i (bldG T e w0.heap.size b v' bs') = L') (hF : (bldG T e w0.heap.size b v' bs').F w') (hag : Agree w w' (bldG T e w0.heap.size b v bs).fp) (hv : ∀ k, v'.ownBlock = some k → v.ownBlock = some k ∨ w.heap.size ≤ k) : Hp w0 w' L' K := by
  refine H.mut i hi _ L' hL hag hF (bldG_ok _ _ _ _ _ _) (bldG_lt hF) (fun k hk => ?_) (fun k hk hx => ?_) rfl
  · rcases hk with rfl | hk
    · exact .inl (.inl rfl)
    · rcases hv k hk with h | h
      · exact .inl (.inr h)
      · exact .inr h
  · have := H.fresh _ (List.mem_of_getElem? hi) rfl k hx
    omega
section
variable {P : Program} (w : World)
/-- append(row, string ..), behind a frozen head, and where the new row lies. -/
theorem run_append_strF (base : Nat) (t u ty e : TypeId) (i : TypeInfo) (ht : P.underlying t = some (.slice e)) (hu : P.underlying u = some .string) (hi : P.info? e = some i) (hz : i.zero = some (.int .u8 0))
    (hsize : i.size = 1) (hby : i.bytes = 1)
    (v : Value) (n : Nat) (xs : List Value) (hown : w.ownsRowF base e 1 v n xs) (s : ByteArray)
    (h63 : n + s.size ≤ maxLen) (hbytes : n + s.size ≤ 140737488355328) (hbase : base ≤ w.heap.size) :
    ∃ v' w', (Builtin.append_ #[t, u] ty #[v, .string s]).run P w = .ok v' w' ∧ w'.ownsRowF base e 1 v' (n + s.size) (xs ++ Lib.strCells s) ∧ w.grownBy w' v.ownBlock ∧ ∀ k, v'.ownBlock = some k → v.ownBlock = some k ∨ w.heap.size ≤ k := by
  rcases hown.2 with ⟨rfl, rfl⟩ | ⟨g, cap, cur, fz, rfl, hbg, hg, hfz, hnc, hcm, hcs, htake⟩
  · obtain ⟨v', w', h1, h2, h3, h4⟩ := Lib.run_append_own_stringF (P := P) w w.heap.size t u ty e i ht hu hi hz hsize hby (.slice none 0 0) 0 xs ⟨hown.1, .inl ⟨rfl, rfl⟩⟩ s h63 hbytes (Nat.le_refl _)
    refine ⟨v', w', h1, ⟨h2.1, ?_⟩, h3, fun k hk => .inr (h2.lt k hk).1⟩
    rcases h2.2 with h2 | ⟨g, cap, cur, fz, hv, hb, r⟩
    · exact .inl h2
    · exact .inr ⟨g, cap, cur, fz, hv, Nat.le_trans hbase hb, r⟩
  · have hsmall : n + s.size ≤ 9223372036854775807 := by simp only [maxLen] at h63; omega
    have hxl : xs.length = n := by simpa using hown.1
    have hlen : (xs ++ Lib.strCells s).length = (n + s.size) * 1 := by rw [List.length_append, hxl, Lib.strCells_length, Nat.mul_one]
    by_cases hroom : n + s.size ≤ cap
    · have hcs' : cur.size = cap := by simpa using hcs
      have hr := Lib.run_append_room_stringF (P := P) w t u ty e i ht hu hi hsize g n cap cur fz hg (by simpa using hfz) s hroom (by omega)
      refine ⟨_, _, hr, ⟨hlen, .inr ⟨g, cap, _, fz, rfl, hbg, setRow_heap w g cur _ e _ hg, by omega, hroom, hcm, ?_, ?_⟩⟩, ⟨rfl, rfl, rfl, by simp, fun k _ hk => setRow_other w g k _ (fun e => hk (by simp [Value.ownBlock, e]))⟩, fun k hk => .inl hk⟩
      · simp only [List.size_toArray, List.length_append, List.length_take, List.length_drop, Array.length_toList, Lib.strCells_length]
        omega
      · have ht' : cur.toList.take n = xs := by simpa using htake
        rw [ht', ← hlen]
        exact List.take_left
    · have holds : ∀ j u, xs[j]? = some u → w.cell? ((⟨g, 0, none⟩ : Addr).add j) = some u := hown.cells (g := g) rfl
      have hr := Lib.run_append_grow_string (P := P) w t u ty e i (.int .u8 0) ht hu hi hz ⟨g, 0, none⟩ n cap xs (by rw [hsize]; simpa using hxl) holds s (by omega) (by omega) (by rw [hby]; exact growslice_fits (by omega) (by omega))
      have hge := grownCap_ge w (n + s.size) cap e
      have hcm2 : grownCap w (n + s.size) cap e ≤ maxLen := grownCap_le_maxLen w (n + s.size) cap e h63
      refine ⟨_, _, hr, ⟨hlen, .inr ⟨w.heap.size, _, _, (0, 0), rfl, hbase, heap_alloc_new w.drew _, Nat.zero_le _, hge, hcm2, ?_, ?_⟩⟩, ⟨rfl, rfl, rfl, by simp, fun k hk _ => heap_alloc_old w.drew _ hk⟩, fun k hk => .inr (by cases hk; exact Nat.le_refl _)⟩
      · have hz1 : (Value.int IntKind.u8 0).cells.size = 1 := rfl
        simp only [Array.size_append, List.size_toArray, size_zeroCells, hz1, hxl, Lib.strCells_length]
        omega
      · simp only [Array.toList_append, List.append_assoc]
        rw [← List.append_assoc, ← hlen]
        exact List.take_left
theorem wpList_append_strF {ops : Array Oper} {rest : List Oper} {o : Oper} {a : Act} {Q : Exit → Act → World → Prop} (hgd : o.guard = none) (sl x : Operand) (t u : TypeId)
    (ho : o.op = .call { callee := .builtin .append, args := #[sl, x], argTypes := #[t, u] })
    (base : Nat) (e : TypeId) (i : TypeInfo) (ht : P.underlying t = some (.slice e)) (hu : P.underlying u = some .string) (hi : P.info? e = some i) (hz : i.zero = some (.int .u8 0))
    (hsize : i.size = 1) (hby : i.bytes = 1)
    (v : Value) (n : Nat) (xs : List Value) (hs : a.eval sl = v) (hown : w.ownsRowF base e 1 v n xs) (s : ByteArray) (hx : a.eval x = .string s)
    (h63 : n + s.size ≤ maxLen) (hbytes : n + s.size ≤ 140737488355328) (hbase : base ≤ w.heap.size)
    (h : ∀ v' w', w'.ownsRowF base e 1 v' (n + s.size) (xs ++ Lib.strCells s) → w.grownBy w' v.ownBlock → (∀ k, v'.ownBlock = some k → v.ownBlock = some k ∨ w.heap.size ≤ k) → wpList P ops Q rest (a.put o.dst v') w') : wpList P ops Q (o :: rest) a w := by
  refine wpList_plain hgd fun K hK => ?_
  obtain ⟨v', w', hr, h2, h3, h4⟩ := run_append_strF (P := P) w base t u o.type e i ht hu hi hz hsize hby v n xs hown s h63 hbytes hbase
  unfold Oper.wp execOp
  simp only [ho, resolve, invoke, builtin, Sem.run_bind, Sem.run_pure, Result.andThen_ok, List.map_toArray, List.map_cons, List.map_nil, hs, hx, hr]
  exact hK _ _ (h v' w' h2 h3 h4)
end
theorem byteCells_append (a b : List UInt8) : Lib.byteCells (a ++ b) = Lib.byteCells a ++ Lib.byteCells b := by simp [Lib.byteCells]
theorem strCells_bstr (s : List UInt8) : Lib.strCells (bstr s) = Lib.byteCells s := by
  simp [Lib.strCells, Lib.byteCells]
set_option maxHeartbeats 2000000 in
set_option maxRecDepth 100000 in
theorem copyCheckF (b : Nat) (p v : Value) (w : World) (hp : p = .pointer none ∨ p = .pointer (some ⟨b, 0, none⟩)) (hbk : w.heap[b]? = some (.cells #[p, v] 59 (0, 0))) :
    Calls Tryd.prog 54 #[.pointer (some ⟨b, 0, none⟩)] w fun e w' => e = .returned (.tuple #[]) ∧ w'.heap[b]? = some (.cells #[.pointer (some ⟨b, 0, none⟩), v] 59 (0, 0)) ∧ Agree w w' (fun k => k = b) ∧ w'.heap.size = w.heap.size := by
  have hx : Box w b 59 #[p, v] := hbk
  rcases hp with rfl | rfl
  · refine (copyCheck_fresh b w (hx.cell rfl) (by simp [World.shape?, hbk]) (hx.frozen 0)).mono ?_
    rintro e w' ⟨rfl, rfl⟩
    exact ⟨rfl, by have := hx.set (i := 0) (.pointer (some ⟨b, 0, none⟩)); simp at this; exact this, ⟨rfl, rfl, rfl, by simp [World.setCell], fun k _ hk => Below.heap_setCell _ _ _ _ hk⟩, by simp [World.setCell]⟩
  · refine (copyCheck_used b w (hx.cell rfl)).mono ?_
    rintro e w' ⟨rfl, rfl⟩
    exact ⟨rfl, hbk, ⟨rfl, rfl, rfl, Nat.le_refl _, fun _ _ _ => rfl⟩, rfl⟩
set_option maxHeartbeats 2000000 in
set_option maxRecDepth 100000 in
theorem writeStr_any (base b : Nat) (v : Value) (bs s : List UInt8) (w : World) (h : (bldR base b v bs).F w) (hlen : bs.length + s.length ≤ 140737488355328) (hbase : base ≤ w.heap.size) :
    Calls Tryd.prog 64 #[.pointer (some ⟨b, 0, none⟩), .string (bstr s)] w fun e w' => e = .returned (.tuple #[.int .i64 s.length, .nilIface]) ∧ ∃ v', (bldR base b v' (bs ++ s)).F w' ∧ Agree w w' (bldR base b v bs).fp ∧ ∀ k, v'.ownBlock = some k → v.ownBlock = some k ∨ w.heap.size ≤ k := by
  obtain ⟨hB, ⟨p, hp, hbk⟩, hown, hne⟩ := h
  obtain ⟨i0, hi, hz0, hz1, hz2⟩ := info_parts infoByte
  have hlt : b < w.heap.size := (Array.getElem?_eq_some_iff.1 hbk).1
  go_enter Tryd.func64, Tryd.ntmps64
  go_wp2_with fail
  refine (copyCheckF b p v _ hp hbk).mono ?_
  rintro e w1 ⟨rfl, hb1, ha1, hs1⟩
  have hown1 : w1.ownsRowF base 5 1 v bs.length (Lib.byteCells bs) := ownF_keep hown fun k hk => ha1.block k (hown.lt k hk).2 (fun e => hne (by rw [hk, e]))
  have c0 : w1.cell? ⟨b, 0, none⟩ = some (.pointer (some ⟨b, 0, none⟩)) := by rw [Lib.cell_of_heap hb1]; rfl
  have c1 : w1.cell? ⟨b, 1, none⟩ = some v := by rw [Lib.cell_of_heap hb1]; rfl
  go_wp2_with (at_builtin; refine wpList_append_strF _ rfl _ _ 46 9 rfl base 5 i0 Tryd.underlying46 Tryd.underlying9 hi hz0 hz1 hz2 _ _ _ rfl hown1 (bstr s) rfl ?c3 ?c4 ?c5 ?_)
  case c3 => rw [bstr_size]; unfold maxLen; omega
  case c4 => rw [bstr_size]; exact hlen
  case c5 => omega
  intro v' w2 hown' hgrow hat
  have hlt1 : b < w1.heap.size := by omega
  have hb2 : w2.heap[b]? = some (.cells #[.pointer (some ⟨b, 0, none⟩), v] 59 (0, 0)) := by
    rw [hgrow.block b hlt1 (fun e => hne e.symm)]
    exact hb1
  have d0 : w2.cell? ⟨b, 0, none⟩ = some (.pointer (some ⟨b, 0, none⟩)) := by rw [Lib.cell_of_heap hb2]; rfl
  have d1 : w2.cell? ⟨b, 1, none⟩ = some v := by rw [Lib.cell_of_heap hb2]; rfl
  have f1 : w2.frozen? ⟨b, 1, none⟩ = false := Lib.frozen_of_heap hb2 1
  have hvb : v'.ownBlock ≠ some b := fun e => by
    rcases hat b e with h | h
    · exact hne h
    · omega
  obtain ⟨ao, n', cap, rfl⟩ : ∃ ao n' cap, v' = .slice ao n' cap := by
    rcases hown'.2 with ⟨hv, _⟩ | ⟨g, cap, cur, fz, hv, _⟩
    · exact ⟨_, _, _, hv⟩
    · exact ⟨_, _, _, hv⟩
  go_wp2
  go_ret2
  have hx2 : Box w2 b 59 #[.pointer (some ⟨b, 0, none⟩), v] := hb2
  refine ⟨rfl, _, ⟨hB, ⟨_, .inr rfl, by have := hx2.set (i := 1) (.slice ao n' cap); simp at this; exact this⟩, ownF_keep (w1 := w2) ?_ fun k hk => Below.heap_setCell _ _ _ _ (fun e => hvb (by rw [hk, e])), hvb⟩, ⟨?_, ?_, ?_, ?_, fun k hk hf => ?_⟩, fun k hk => ?_⟩
  · rw [byteCells_append, List.length_append]
    rw [strCells_bstr] at hown'
    exact hown'
  · exact hgrow.os.trans ha1.os
  · exact hgrow.tape.trans ha1.tape
  · exact hgrow.output.trans ha1.output
  · have := hgrow.size; simp [World.setCell]; omega
  · rw [Below.heap_setCell _ _ _ _ (fun e => hf (.inl e)), hgrow.block k (by omega) (fun e => hf (.inr e.symm)), ha1.block k hk (fun e => hf (.inl e))]
  · rcases hat k hk with h | h
    · exact .inl h
    · exact .inr (by omega)
/-- A builder that String has not read. -/
def bldU (base b : Nat) (v : Value) (bs : List UInt8) : HB :=
  ⟨fun k => k = b ∨ v.ownBlock = some k, fun w => base ≤ b ∧ (∃ p, (p = .pointer none ∨ p = .pointer (some ⟨b, 0, none⟩)) ∧ w.heap[b]? = some (.cells #[p, v] 59 (0, 0))) ∧ w.ownsRow base 5 1 v bs.length (Lib.byteCells bs) ∧ v.ownBlock ≠ some b, true⟩
theorem bldU_ok (base b : Nat) (v : Value) (bs : List UInt8) : (bldU base b v bs).ok := fun w1 w2 h hk _ => by
  obtain ⟨h1, ⟨p, hp, hb⟩, h3, h4⟩ := h
  exact ⟨h1, ⟨p, hp, (hk b (.inl rfl)).trans hb⟩, own_keep h3 fun k hv => hk k (.inr hv), h4⟩
theorem bldU_R {base b : Nat} {v : Value} {bs : List UInt8} {w : World} (h : (bldU base b v bs).F w) : (bldR base b v bs).F w := ⟨h.1, h.2.1, World.ownsRowF_of h.2.2.1, h.2.2.2⟩
theorem byte_ones (s : List UInt8) : ∀ u ∈ Lib.byteCells s, u.oneCell' = true := by
  intro u hu
  simp [Lib.byteCells] at hu
  obtain ⟨a, _, rfl⟩ := hu
  rfl
theorem row_lt0 {w : World} {size n j : Nat} {A : Option Addr} {xs : List Value} (h : Rd w size A n xs) (hj : rowFp n A j) : j < w.heap.size := by
  obtain ⟨h1, h2⟩ := h
  obtain ⟨hn, off, rfl⟩ := hj
  rcases h2 with h2 | ⟨b, o, he, hlt, _⟩
  · omega
  · cases he; exact hlt
theorem rd_agree {w w1 : World} {size n b : Nat} {A : Option Addr} {xs : List Value} (h : Rd w size A n xs) (ha : Agree w w1 (fun k => k = b)) (hA : ∀ g o, A = some ⟨g, o, none⟩ → g ≠ b) : Rd w1 size A n xs :=
  h.keep (fun k hk => by obtain ⟨_, off, e⟩ := hk; exact ha.block k (row_lt0 h ⟨by assumption, off, e⟩) (hA k off e)) ha.size
set_option maxHeartbeats 2000000 in
set_option maxRecDepth 100000 in
theorem write_any (base b : Nat) (v : Value) (bs s : List UInt8) (A : Option Addr) (c : Nat) (w : World) (h : (bldU base b v bs).F w) (hA : A = none → s.length = 0 ∧ c = 0) (hr : Rd w 1 A s.length (Lib.byteCells s)) (hAb : ∀ g o, A = some ⟨g, o, none⟩ → g ≠ b) (hlen : bs.length + s.length ≤ 140737488355328) (hbase : base ≤ w.heap.size) :
    Calls Tryd.prog 31 #[.pointer (some ⟨b, 0, none⟩), .slice A s.length c] w fun e w' => e = .returned (.tuple #[.int .i64 s.length, .nilIface]) ∧ ∃ v', (bldU base b v' (bs ++ s)).F w' ∧ Agree w w' (bldU base b v bs).fp ∧ ∀ k, v'.ownBlock = some k → v.ownBlock = some k ∨ w.heap.size ≤ k := by
  obtain ⟨hB, ⟨p, hp, hbk⟩, hown, hne⟩ := h
  obtain ⟨i0, hi, hz0, hz1, hz2⟩ := info_parts infoByte
  have hlt : b < w.heap.size := (Array.getElem?_eq_some_iff.1 hbk).1
  go_enter Tryd.func31, Tryd.ntmps31
  go_wp2_with fail
  refine (copyCheckF b p v _ hp hbk).mono ?_
  rintro e w1 ⟨rfl, hb1, ha1, hs1⟩
  have hr1 : Rd w1 1 A s.length (Lib.byteCells s) := rd_agree hr ha1 hAb
  have hown1 : w1.ownsRow base 5 1 v bs.length (Lib.byteCells bs) := own_keep hown fun k hk => ha1.block k (own_lt hown k hk).1 (fun e => hne (by rw [hk, e]))
  have c0 : w1.cell? ⟨b, 0, none⟩ = some (.pointer (some ⟨b, 0, none⟩)) := by rw [Lib.cell_of_heap hb1]; rfl
  have c1 : w1.cell? ⟨b, 1, none⟩ = some v := by rw [Lib.cell_of_heap hb1]; rfl
  go_wp2_with (at_builtin; refine wpList_append_rd _ rfl _ _ 46 rfl base 5 i0 (.int .u8 0) 1 1 Tryd.underlying46 hi hz0 hz1 hz2 rfl (by decide) v bs.length (Lib.byteCells bs) rfl hown1 A s.length c (Lib.byteCells s) rfl hA hr1 (byte_ones s) ?c3 ?c4 ?c5 ?_)
  case c3 => unfold maxLen; omega
  case c4 => omega
  case c5 => omega
  intro ao n' w2 hown' hgrow hat
  have hlt1 : b < w1.heap.size := by omega
  have hb2 : w2.heap[b]? = some (.cells #[.pointer (some ⟨b, 0, none⟩), v] 59 (0, 0)) := by
    rw [hgrow.block b hlt1 (fun e => hne e.symm)]
    exact hb1
  have d0 : w2.cell? ⟨b, 0, none⟩ = some (.pointer (some ⟨b, 0, none⟩)) := by rw [Lib.cell_of_heap hb2]; rfl
  have d1 : w2.cell? ⟨b, 1, none⟩ = some v := by rw [Lib.cell_of_heap hb2]; rfl
  have f1 : w2.frozen? ⟨b, 1, none⟩ = false := Lib.frozen_of_heap hb2 1
  have hvb : (Value.slice ao (bs.length + s.length) n').ownBlock ≠ some b := fun e => by
    rcases hat with h | h
    · rw [h] at e; exact hne e
    · rw [h] at e; cases e; omega
  go_wp2
  go_ret2
  have hx2 : Box w2 b 59 #[.pointer (some ⟨b, 0, none⟩), v] := hb2
  refine ⟨rfl, _, ⟨hB, ⟨_, .inr rfl, by have := hx2.set (i := 1) (.slice ao (bs.length + s.length) n'); simp at this; exact this⟩, own_keep (w1 := w2) ?_ fun k hk => Below.heap_setCell _ _ _ _ (fun e => hvb (by rw [hk, e])), hvb⟩, ⟨?_, ?_, ?_, ?_, fun k hk hf => ?_⟩, fun k hk => ?_⟩
  · rw [byteCells_append, List.length_append]
    exact hown'
  · exact hgrow.os.trans ha1.os
  · exact hgrow.tape.trans ha1.tape
  · exact hgrow.output.trans ha1.output
  · have := hgrow.size; simp [World.setCell]; omega
  · rw [Below.heap_setCell _ _ _ _ (fun e => hf (.inl e)), hgrow.block k (by omega) (fun e => hf (.inr e.symm)), ha1.block k hk (fun e => hf (.inl e))]
  · rcases hat with h | h
    · rw [h] at hk; exact .inl hk
    · rw [h] at hk; cases hk; exact .inr (by omega)
set_option maxHeartbeats 2000000 in
set_option maxRecDepth 100000 in
theorem strG_any {P : Program} {ρ : Ren} (L : Lays.n169 P ρ) (X : Builder.Extra P ρ) (base b : Nat) (v : Value) (l : List UInt8) (w : World) (h : (bldG (ρ.t 72) (ρ.t 5) base b v l).F w) (h0 : l ≠ []) :
    Calls P (ρ.f 169) #[.pointer (some ⟨b, 0, none⟩)] w fun e w' => e = .returned (.string (bstr l)) ∧ (bldG (ρ.t 72) (ρ.t 5) base b v l).F w' ∧ Agree w w' (bldG (ρ.t 72) (ρ.t 5) base b v l).fp := by
  obtain ⟨hB, ⟨p, hp, hbk⟩, hown, hne⟩ := h
  have hl0 : l.length ≠ 0 := by simpa using h0
  obtain ⟨g, cap, cur, fz, rfl, hbg, hg, hfz, hnc, hcm, hcs, htake⟩ : ∃ g cap cur fz, v = .slice (some ⟨g, 0, none⟩) l.length cap ∧ base ≤ g ∧ w.heap[g]? = some (.cells cur (ρ.t 5) fz) ∧ fz.2 ≤ l.length * 1 ∧ l.length ≤ cap ∧ cap ≤ maxLen ∧ cur.size = cap * 1 ∧ cur.toList.take (l.length * 1) = Lib.byteCells l := by
    rcases hown.2 with ⟨_, hz⟩ | ⟨g, cap, cur, fz, hv, r⟩
    · exact absurd hz hl0
    · exact ⟨g, cap, cur, fz, hv, r⟩
  have c1 : w.drew.cell? ⟨b, 1, none⟩ = some (.slice (some ⟨g, 0, none⟩) l.length cap) := by
    have : w.drew.heap[b]? = some (.cells #[p, .slice (some ⟨g, 0, none⟩) l.length cap] (ρ.t 72) (0, 0)) := hbk
    rw [Lib.cell_of_heap this]; rfl
  have hSD : (Builtin.unsafeSliceData_ #[(ρ.t 37)] (ρ.t 127) #[.slice (some ⟨g, 0, none⟩) l.length cap]).run P w.drew = .ok (.pointer (some ⟨g, 0, none⟩)) w.drew :=
    Lib.run_unsafeSliceData_row _ _ _ _ _ _ (by omega)
  have hUS : (Builtin.unsafeString_ #[(ρ.t 127), (ρ.t 3)] (ρ.t 9) #[.pointer (some ⟨g, 0, none⟩), .int .i64 l.length]).run P w.drew = .ok (.string ⟨l.toArray⟩) (w.drew.freeze ⟨g, 0, none⟩ l.length) := by
    refine Lib.run_unsafeString_row w.drew (ρ.t 127) (ρ.t 3) (ρ.t 9) (ρ.t 5) L.t127 X.cellsByte g cur.size (by have hg' : w.drew.heap[g]? = some (.cells cur (ρ.t 5) fz) := hg; simp [World.shape?, hg']) l h0 (by omega) (by unfold maxLen at hcm; omega) ?_
    intro j x hx
    have := hown.cells (g := g) rfl j (.int .u8 x.toNat) (by simp [Lib.byteCells, hx])
    exact this
  have hA : Lib.BuilderAtF (ρ.t 72) (ρ.t 5) base b p (Lib.byteCells l) w.drew := ⟨hB, _, hbk, by rw [Lib.byteCells_length]; exact hown, hne⟩
  have hF := hA.froze (g := g) (cap := cap) (by rw [Lib.byteCells_length]; exact c1)
  rw [Lib.byteCells_length] at hF
  have hgb : b ≠ g := fun e => hne (by rw [e]; rfl)
  have hother : ∀ k, k ≠ g → (w.drew.freeze ⟨g, 0, none⟩ l.length).heap[k]? = w.heap[k]? := by
    intro k hk
    unfold World.freeze
    rw [if_neg hl0]
    simp only [Array.getElem?_modify]
    rw [if_neg (fun e => hk e.symm)]
    rfl
  have hkeep : (bldG (ρ.t 72) (ρ.t 5) base b (.slice (some ⟨g, 0, none⟩) l.length cap) l).F (w.drew.freeze ⟨g, 0, none⟩ l.length) := by
    obtain ⟨_, v2, hb2, hown2, hne2⟩ := hF
    have e : v2 = .slice (some ⟨g, 0, none⟩) l.length cap := by
      rw [hother b hgb, hbk] at hb2
      simp at hb2
      exact hb2.symm
    subst e
    rw [Lib.byteCells_length] at hown2
    exact ⟨hB, ⟨p, hp, hb2⟩, hown2, hne2⟩
  have hag : Agree w (w.drew.freeze ⟨g, 0, none⟩ l.length) (bldG (ρ.t 72) (ρ.t 5) base b (.slice (some ⟨g, 0, none⟩) l.length cap) l).fp := by
    have hb := Lib.below_freeze (Below.drew (Below.refl 0 w)) (p := ⟨g, 0, none⟩) (Nat.zero_le _) l.length
    exact ⟨hb.os, hb.tape, hb.output, hb.size, fun k hk hf => hother k fun e => hf (.inr (by rw [e]; rfl))⟩
  have mixed := L.mixed
  have t72 := L.t72; have a72 := L.a72; have z72 := L.z72; have v72 := L.v72; have u72 := run_underlying L.t72
  have t70 := L.t70; have a70 := L.a70; have z70 := L.z70; have v70 := L.v70; have u70 := run_underlying L.t70
  have t37 := L.t37; have a37 := L.a37; have z37 := L.z37; have v37 := L.v37; have u37 := run_underlying L.t37
  have t127 := L.t127; have a127 := L.a127; have z127 := L.z127; have v127 := L.v127; have u127 := run_underlying L.t127
  have t3 := L.t3; have a3 := L.a3; have z3 := L.z3; have v3 := L.v3; have u3 := run_underlying L.t3
  have t9 := L.t9; have a9 := L.a9; have z9 := L.z9; have v9 := L.v9; have u9 := run_underlying L.t9
  have t5 := X.t5; have a5 := X.a5; have z5 := X.z5; have v5 := X.v5; have u5 := run_underlying X.t5
  go_enter L.f169, Body.n169_ntmps ρ
  go_wp2
  go_region_o
  all_goals (go_wp2; go_ret; exact ⟨rfl, hkeep, hag⟩)
theorem str_any (base b : Nat) (v : Value) (l : List UInt8) (w : World) (h : (bldR base b v l).F w) (h0 : l ≠ []) :
    Calls Tryd.prog 32 #[.pointer (some ⟨b, 0, none⟩)] w fun e w' => e = .returned (.string (bstr l)) ∧ (bldR base b v l).F w' ∧ Agree w w' (bldR base b v l).fp :=
  strG_any Tryd.lays169 Tryd.Builder_Extra_169 base b v l w h h0
end Go.Proofs.YtgdjpaeclicdfaaDoor
