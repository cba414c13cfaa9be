/- Slices of structs as lists; pictures, assets; contracts of the small functions over them. -/
import Derived.Test.YtpaepefpfaoacaaOptRef
import Derived.Test.YtpaepefpfaoacaaVbvS
namespace Go.Proofs.Ytpaepefpfaoacaa
open Go.ChangeShapes Go.WideShapes Go.ChangeAt Go.RowKit
set_option linter.unusedVariables false

/-! ### A slice of structs -/
section
variable {α : Type} {k : Nat} {cs : α → Array Value}
abbrev rowCells (cs : α → Array Value) (l : List α) : List Value := l.flatMap fun e => (cs e).toList
theorem rowCells_len (hk : ∀ e, (cs e).size = k) (l : List α) : (rowCells cs l).length = l.length * k := by
  induction l with
  | nil => simp
  | cons a l ih => simp only [rowCells, List.flatMap_cons, List.length_append, List.length_cons] at *; rw [ih, Array.length_toList, hk, Nat.succ_mul, Nat.add_comm]
theorem rowCells_get (hk : ∀ e, (cs e).size = k) (l : List α) (i j : Nat) (h : i < l.length) (hj : j < k) : (rowCells cs l)[i * k + j]? = (cs l[i])[j]? := by
  induction l generalizing i with
  | nil => simp at h
  | cons a l ih =>
    have ha := hk a
    cases i with
    | zero => simp only [rowCells, List.flatMap_cons, Nat.zero_mul, Nat.zero_add]; rw [List.getElem?_append_left (by simpa [ha] using hj)]; simp
    | succ i =>
      have := ih i (by simpa using h)
      rw [show (i + 1) * k + j = (i * k + j) + k by rw [Nat.succ_mul]; omega]
      simp only [rowCells, List.flatMap_cons]
      rw [List.getElem?_append_right (by simp [ha])]
      simpa [ha] using this
def IsRow (k : Nat) (cs : α → Array Value) (w : World) (A : Option Addr) (n : Nat) (l : List α) : Prop := l.length = n ∧ Rd w k A n (rowCells cs l)
theorem IsRow.below {w w' : World} {A : Option Addr} {n : Nat} {l : List α} (h : IsRow k cs w A n l) (hb : Below w.heap.size w w') : IsRow k cs w' A n l := ⟨h.1, h.2.below hb⟩
theorem IsRow.nil (w : World) (A : Option Addr) : IsRow k cs w A 0 [] := ⟨rfl, Rd.nil _ _ _⟩
theorem IsRow.at_ (hk : ∀ e, (cs e).size = k) {w : World} {A : Option Addr} {n : Nat} {l : List α} (h : IsRow k cs w A n l) {i : Nat} (hi : i < n) :
    ∃ b off e, A = some ⟨b, off, none⟩ ∧ b < w.heap.size ∧ l[i]? = some e ∧ ∀ j v, (cs e)[j]? = some v → w.cell? ⟨b, off + (i * k + j), none⟩ = some v := by
  obtain ⟨h1, h2, h3⟩ := h
  have hl : i < l.length := by omega
  have h0 : 0 < n := by omega
  obtain ⟨b, off, rfl, hb, hc⟩ := h3.resolve_left (by omega)
  refine ⟨b, off, l[i], rfl, hb, List.getElem?_eq_getElem hl, fun j v hv => ?_⟩
  have hj : j < k := by
    have := (Array.getElem?_eq_some_iff.1 hv).1
    rwa [hk] at this
  have hm : i * k + j < n * k := by
    have : (i + 1) * k ≤ n * k := Nat.mul_le_mul_right _ (by omega)
    rw [Nat.succ_mul] at this
    omega
  rw [hc (i * k + j) hm, rowCells_get hk l i j hl hj, hv]
theorem rowCells_take (hk : ∀ e, (cs e).size = k) (l : List α) (j : Nat) : (rowCells cs l).take (j * k) = rowCells cs (l.take j) := by
  induction l generalizing j with
  | nil => simp
  | cons a l ih =>
    cases j with
    | zero => simp
    | succ j =>
      simp only [rowCells, List.flatMap_cons, List.take_succ_cons] at *
      rw [List.take_append, ← ih j, Array.length_toList, hk, Nat.succ_mul, Nat.add_sub_cancel, List.take_of_length_le (by rw [Array.length_toList, hk]; omega)]
theorem IsRow.take (hk : ∀ e, (cs e).size = k) {w : World} {A : Option Addr} {n : Nat} {l : List α} (h : IsRow k cs w A n l) {j : Nat} (hj : j ≤ n) : IsRow k cs w A j (l.take j) := by
  refine ⟨by rw [List.length_take, h.1]; omega, ?_⟩
  rw [← rowCells_take hk]
  exact h.2.take hj
/-- Not in a block. -/
def Off (b : Nat) (A : Option Addr) : Prop := ∀ b' off, A = some ⟨b', off, none⟩ → b' ≠ b
theorem Rd.grown {w w' : World} {size : Nat} {A : Option Addr} {n : Nat} {xs : List Value} (h : Rd w size A n xs) {b : Nat} (hg : w.grownBy w' (some b)) (hb : Off b A) : Rd w' size A n xs := by
  obtain ⟨h1, h2⟩ := h
  refine ⟨h1, ?_⟩
  rcases h2 with h2 | ⟨b', off, rfl, hlt, hc⟩
  · exact .inl h2
  · have hne := hb b' off rfl
    have hbk := hg.block b' hlt (fun e => hne (Option.some.inj e))
    refine .inr ⟨b', off, rfl, ?_, fun j hj => ?_⟩
    · exact Nat.lt_of_lt_of_le hlt hg.size
    · rw [← hc j hj]
      exact World.cell?_of_block hbk
theorem IsRow.grown {w w' : World} {A : Option Addr} {n : Nat} {l : List α} (h : IsRow k cs w A n l) {b : Nat} (hg : w.grownBy w' (some b)) (hb : Off b A) : IsRow k cs w' A n l := ⟨h.1, h.2.grown hg hb⟩
end

/-! ### Pictures and assets -/
structure PicA where
  key : Bool
  data : ByteArray
  power : Int
abbrev PicA.cells (p : PicA) : Array Value := #[.bool p.key, .string p.data, .int .i64 p.power]
abbrev PicA.val (p : PicA) : Value := .agg p.cells
def picZ : PicA := ⟨false, .empty, 0⟩
theorem PicA.cells_size (p : PicA) : p.cells.size = 3 := rfl
abbrev IsPics (w : World) (A : Option Addr) (n : Nat) (l : List PicA) : Prop := IsRow 3 PicA.cells w A n l
theorem IsPics.get {w : World} {A : Option Addr} {n : Nat} {l : List PicA} (h : IsPics w A n l) {i : Nat} (hi : i < n) :
    ∃ b off, A = some ⟨b, off, none⟩ ∧ b < w.heap.size ∧ w.cell? ⟨b, off + i * 3, none⟩ = some (.bool (l.getD i picZ).key) ∧ w.cell? ⟨b, off + i * 3 + 1, none⟩ = some (.string (l.getD i picZ).data) ∧ w.cell? ⟨b, off + i * 3 + 2, none⟩ = some (.int .i64 (l.getD i picZ).power) := by
  obtain ⟨b, off, e, rfl, hb, he, hc⟩ := IsRow.at_ PicA.cells_size h hi
  rw [show l.getD i picZ = e by simp [List.getD, he]]
  exact ⟨b, off, rfl, hb, hc 0 _ rfl, hc 1 _ rfl, hc 2 _ rfl⟩
/-- An asset as it lies in memory. -/
structure AstA where
  item : Int
  A : Option Addr
  c : Nat
  pics : List PicA
abbrev AstA.cells (a : AstA) : Array Value := #[.int .i64 a.item, .slice a.A a.pics.length a.c]
abbrev AstA.val (a : AstA) : Value := .agg a.cells
theorem AstA.cells_size (a : AstA) : a.cells.size = 2 := rfl
def AstA.ok (w : World) (a : AstA) : Prop := IsPics w a.A a.pics.length a.pics ∧ a.pics.length ≤ a.c ∧ a.c ≤ maxLen ∧ (a.A = none → a.c = 0) ∧ True
def astZ : AstA := ⟨0, none, 0, []⟩
def IsAsts (w : World) (A : Option Addr) (n : Nat) (l : List AstA) : Prop := IsRow 2 AstA.cells w A n l ∧ ∀ a ∈ l, a.ok w
theorem AstA.ok.below {w w' : World} {a : AstA} (h : a.ok w) (hb : Below w.heap.size w w') : a.ok w' := ⟨h.1.below hb, h.2⟩
theorem IsAsts.below {w w' : World} {A : Option Addr} {n : Nat} {l : List AstA} (h : IsAsts w A n l) (hb : Below w.heap.size w w') : IsAsts w' A n l := ⟨h.1.below hb, fun e he => (h.2 e he).below hb⟩
theorem IsAsts.get {w : World} {A : Option Addr} {n : Nat} {l : List AstA} (h : IsAsts w A n l) {i : Nat} (hi : i < n) :
    ∃ b off, A = some ⟨b, off, none⟩ ∧ b < w.heap.size ∧ w.cell? ⟨b, off + i * 2, none⟩ = some (.int .i64 (l.getD i astZ).item) ∧ w.cell? ⟨b, off + i * 2 + 1, none⟩ = some (.slice (l.getD i astZ).A (l.getD i astZ).pics.length (l.getD i astZ).c) ∧ (l.getD i astZ).ok w ∧ l.getD i astZ ∈ l := by
  obtain ⟨b, off, e, rfl, hb, he, hc⟩ := IsRow.at_ AstA.cells_size h.1 hi
  have hm : e ∈ l := List.mem_of_getElem? he
  rw [show l.getD i astZ = e by simp [List.getD, he]]
  exact ⟨b, off, rfl, hb, hc 0 _ rfl, hc 1 _ rfl, h.2 e hm, hm⟩
theorem drop_at {α : Type} {l : List α} {k : Nat} {d : α} (hk : k < l.length) : l.drop k = l.getD k d :: l.drop (k + 1) := by
  rw [List.drop_eq_getElem_cons hk]
  simp [List.getD, List.getElem?_eq_getElem hk]
theorem take_at {α : Type} {l : List α} {k : Nat} {d : α} (hk : k < l.length) : l.take (k + 1) = l.take k ++ [l.getD k d] := by
  rw [List.take_succ_eq_append_getElem hk]
  simp [List.getD, List.getElem?_eq_getElem hk]

/-! ### distance -/
theorem dist_any (f t : Int) (w : World) (h : f ≤ t) (h1 : -9223372036854775808 ≤ f) (h2 : t ≤ 9223372036854775807) :
    Calls Try.prog 39 #[.int .i64 f, .int .i64 t] w fun e w' => e = .returned (.int .u64 (t - f)) ∧ w = w' := by
  go_enter Try.func39, Try.ntmps39
  go_wp2_with fail
  go_ret
  refine ⟨?_, rfl⟩
  refine congrArg Ending.returned (congrArg (Value.int .u64) ?_)
  simp only [IntKind.wrap, IntKind.bits, IntKind.signed, Bool.false_and, Bool.false_eq_true, if_false]
  omega

/-! ### Find, Sizes, Valid of the reference -/
def findA (i : Int) : List AstA → Option AstA
  | [] => none
  | a :: l => if a.item = i then some a else findA i l
abbrev findV (r : Option AstA) : Value := .tuple #[((r.getD astZ).val), .bool r.isSome]
theorem findA_mem {i : Int} {l : List AstA} {a : AstA} (h : findA i l = some a) : a ∈ l ∧ a.item = i := by
  induction l with
  | nil => simp [findA] at h
  | cons x l ih =>
    simp only [findA] at h
    split at h
    · cases h; exact ⟨List.mem_cons_self .., by assumption⟩
    · exact ⟨List.mem_cons_of_mem _ (ih h).1, (ih h).2⟩
theorem ret_ast {fn : Func} {R : Ending → World → Prop} {a : Act} {w : World} {p q : Tmp} {b : Nat} {t : TypeId} {v0 v1 v : Value} (hr : fn.results = #[.cell p 49, .tmp q]) (hp : a.tmps.getD p undef = .pointer (some ⟨b, 0, none⟩)) (hq : a.tmps.getD q undef = v)
    (hb : Box w b t #[v0, v1]) (hd : a.defers = []) (h : R (.returned (.tuple #[.agg #[v0, v1], v])) w) : bodyPost Try.prog fn R .ret a w := by
  have c0 := hb.cell (i := 0) rfl
  have c1 := hb.cell (i := 1) rfl
  refine bodyPost_ret (v := .tuple #[.agg #[v0, v1], v]) ?_ hd h
  rw [Array.getD_eq_getD_getElem?] at hp hq
  simp [results, hr, hp, hq, go_sem, c0, c1]
set_option maxRecDepth 100000 in
set_option maxHeartbeats 2000000 in
theorem rfind_any (A : Option Addr) (n c : Nat) (l : List AstA) (it : Int) (w : World) (h : IsAsts w A n l) (hm : n ≤ maxLen) :
    Calls Try.prog 15 #[.slice A n c, .int .i64 it] w fun e w' => e = .returned (findV (findA it l)) ∧ Below w.heap.size w w' := by
  have b0 := Lib.hid (balloc w (.cells #[.int .i64 0, .slice none 0 0] 49))
  have x0 := Lib.hid (Box.new w 49 #[.int .i64 0, .slice none 0 0])
  have H := Lib.hid (h.below b0.out)
  have hl := h.1.1
  have hm' : n ≤ 9223372036854775807 := hm
  clear h
  go_enter Try.func15, Try.ntmps15
  go_wp2_with fail
  go_loop [6] (fun i => ∃ (k : Nat), k ≤ n ∧ i = .int .i64 k ∧ findA it l = findA it (l.drop k)) (fun i => n - (intOf i).toNat)
  case atStart => exact ⟨0, Nat.zero_le _, rfl, rfl⟩
  case round =>
    obtain ⟨k, hk, rfl, hst⟩ := hrel
    have HST := Lib.hid hst
    clear hst
    by_cases hlt : k < n
    · obtain ⟨b, off, rfl, hbl, ca, cb, hok, _⟩ := H.out.get hlt
      rw [drop_at (d := astZ) (by omega)] at HST
      have hok' := Lib.hid hok
      clear hok
      generalize l.getD k astZ = a at *
      obtain ⟨x, AA, cc, pp⟩ := a
      simp only at ca cb
      by_cases j1 : x = it
      · subst j1
        go_wp2_with fail
        refine ret_ast (b := w.heap.size) rfl rfl rfl (Box.new _ _ _) rfl ?_
        refine ⟨?_, ?_⟩
        · rw [HST.out]; simp [findA]
        · exact balloc _ _
      have j1' : (x == it) = false := by simpa using j1
      go_wp2_with fail
      go_round
      case rel => exact ⟨k + 1, by omega, by go_num, by rw [HST.out]; simp [findA, j1]⟩
      case measure => simp [intOf]; omega
    · go_wp2_with fail
      refine ret_ast (b := w.heap.size) rfl rfl rfl (Box.new _ _ _) rfl ?_
      refine ⟨?_, ?_⟩
      · rw [HST.out, List.drop_of_length_le (by omega)]; simp [findA, astZ]
      · exact balloc _ _
/-! ### Sizes -/
abbrev sizesP (l : List PicA) : List Int := l.map fun p => (p.data.size : Int)
theorem infoInt : (Try.prog.info? 3).map (fun i => (i.zero, i.size, i.bytes)) = some (some (.int .i64 0), 1, 8) := by kernel_rfl
theorem infoInt' : ∃ i, Try.prog.info? 3 = some i ∧ i.zero = some (.int .i64 0) ∧ i.size = 1 ∧ i.bytes = 8 := by
  have hf := infoInt
  cases hh : Try.prog.info? 3 with
  | none => rw [hh] at hf; cases hf
  | some i =>
    rw [hh] at hf
    simp only [Option.map_some, Option.some.injEq, Prod.mk.injEq] at hf
    exact ⟨i, rfl, hf⟩
set_option maxRecDepth 100000 in
set_option maxHeartbeats 2000000 in
theorem rsizes_any (it : Int) (A : Option Addr) (n c : Nat) (l : List PicA) (w : World) (h : IsPics w A n l) (hm : n ≤ 2000000) :
    Calls Try.prog 20 #[.agg #[.int .i64 it, .slice A n c]] w fun e w' => RetInts (sizesP l) w e w' := by
  have b0 := Lib.hid (balloc w (.cells #[.int .i64 it, .slice A n c] 49))
  have H := Lib.hid h
  have hl := h.1
  clear h
  obtain ⟨i0, hi0, hz0, hz1, hz2⟩ := infoInt'
  go_enter Try.func20, Try.ntmps20
  go_wp2_with fail
  go_loopw [3, 4] (fun s i wr => ∃ (k : Nat) (B : Option Addr) (d : Nat), k ≤ n ∧ i = .int .i64 k ∧ s = .slice B k d ∧ wr.ownsRow (w.heap.size + 1) 3 1 (.slice B k d) k (ints (sizesP (l.take k))) ∧ Below w.heap.size w wr ∧ Box wr w.heap.size 49 #[.int .i64 it, .slice A n c]) (fun _ i _ => n - (intOf i).toNat)
  case atStart => exact ⟨0, none, 0, Nat.zero_le _, rfl, rfl, World.ownsRow_nil _ _ _ _, b0.out, Box.new _ _ _⟩
  case round =>
    obtain ⟨k, B, d, hk, rfl, rfl, hown, hB, hx⟩ := hrel
    have HO := Lib.hid hown
    have HX := Lib.hid hx
    have c1 := hx.cell (i := 1) rfl
    have hlx := hx.lt
    clear hown hx
    by_cases hlt : k < n
    · obtain ⟨b, off, rfl, hbl, p0, p1, p2⟩ := IsPics.get (IsRow.below H.out hB) hlt
      have HT : Hid (ints (sizesP (l.take (k + 1))) = ints (sizesP (l.take k)) ++ ints [((l.getD k picZ).data.size : Int)]) := Lib.hid (by rw [take_at (d := picZ) (by omega)]; simp)
      generalize l.getD k picZ = p at *
      obtain ⟨ky, S, pw⟩ := p
      simp only at p0 p1 p2 HT
      have HN : Hid (Rd (wr.alloc (Obj.cells #[.int .i64 (S.size : Int)] 3)) 1 (some ⟨wr.heap.size, 0, none⟩) 1 (ints [(S.size : Int)])) := Lib.hid (ofInts (isInts_new wr 3 [(S.size : Int)] (by simp [maxLen])))
      have HOa := Lib.hid (HO.out.alloc (Obj.cells #[.int .i64 (S.size : Int)] 3))
      have HBa := Lib.hid (hB.alloc hB.size (Obj.cells #[.int .i64 (S.size : Int)] 3))
      have HXa := Lib.hid (HX.out.next (balloc wr (Obj.cells #[.int .i64 (S.size : Int)] 3)))
      go_wp2_with (at_builtin; refine wpList_append_rd (wr.alloc (Obj.cells #[.int .i64 (S.size : Int)] 3)) rfl (.tmp 12) (.tmp 20) 26 rfl (w.heap.size + 1) 3 i0 (.int .i64 0) 1 8 Try.underlying26 hi0 hz0 hz1 hz2 rfl (by decide) (.slice B k d) k (ints (sizesP (l.take k))) rfl HOa.out _ 1 _ (ints [(S.size : Int)]) rfl (fun e => by cases e) HN.out (ints_ones _) (by unfold maxLen; omega) (by omega) (by simp; omega) ?_; intro B1 c1 w4 hown1 hgrow1 hat1; have Hb1 := Lib.hid (HBa.out.grown hgrow1 HBa.out.size (fun k e => Nat.le_trans (Nat.le_add_right _ _) (own_ge HOa.out k e))); have Hx1 := Lib.hid (HXa.out.grown hgrow1 (fun e => by have := own_ge HOa.out _ e; omega)); have Hown1 := Lib.hid hown1; clear hown1 hgrow1 hat1)
      go_roundw
      case rel => exact ⟨k + 1, B1, c1, by omega, by go_num, rfl, by rw [HT.out]; exact Hown1.out, Hb1.out, Hx1.out⟩
      case measure => simp [intOf]; omega
    · obtain rfl : k = n := by omega
      go_wp2_with fail
      go_ret
      have ht : l.take k = l := List.take_of_length_le (by omega)
      have ho := HO.out
      rw [ht] at ho
      have f := own_facts ho
      have hll : (sizesP l).length = k := by simp [hl]
      unfold RetInts
      rw [hll]
      exact ⟨B, d, rfl, toInts (Rd.of_own ho), f.1, f.2.1, f.2.2, hB⟩
end Go.Proofs.Ytpaepefpfaoacaa
