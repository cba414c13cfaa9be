/- Part 5 of the proofs: Open3, OpenB, StOp. -/
import Derived.Deep.Slices
import Derived.Deep.Fields
import Derived.ChangeSame
import Derived.ChangeArms
import Derived.SizedLaws
import Derived.OpenShut
import Derived.Test.YtcifcipjndiegaaDoorZgd
namespace Go.Proofs.YtcifcipjndiegaaDoor
open Go.ChangeShapes Go.WideShapes Go.ChangeAt Go.RowKit Go.Deep
set_option linter.unusedVariables false
structure Op (P : Program) (t : TypeId) (α : Type) where
  size : Nat
  cells : α → List Value
  ok : World → α → Prop
  csize : P.cellsOf t = size
  len : ∀ a, (cells a).length = size
  opens : ∀ {H : Type} {enc : TypeId × Value → H} {w : World} {base : Nat} {held : Bool} {fuel : Nat} {cs : List Value} {x : DataW H × List MemPlace},
    DataW.trod enc P w base (fun _ => true) held fuel t cs = some x → (∀ n ∈ x.1.weights P t, n ≤ reachBytes) → ∃ a, cs = cells a ∧ ok w a
structure SlA (α : Type) where
  A : Option Addr
  c : Nat
  l : List α
section
variable {P : Program} {t e : TypeId} {α β : Type}
noncomputable def opInt (k : IntKind) (hu : P.underlying t = some (.int k)) (hc : P.cellsOf t = 1) : Op P t Int where
  size := 1
  cells n := [.int k n]
  ok _ n := (Lit.int k n).wf = true
  csize := hc
  len _ := rfl
  opens h _ := by
    obtain ⟨n, rfl, rfl, hw⟩ := DataW.trod_int hu h
    exact ⟨n, rfl, hw⟩
noncomputable def opStr (hu : P.underlying t = some .string) (hc : P.cellsOf t = 1) : Op P t ByteArray where
  size := 1
  cells s := [.string s]
  ok _ s := s.size ≤ reachBytes
  csize := hc
  len _ := rfl
  opens h hw := by
    obtain ⟨s, rfl, rfl, _⟩ := DataW.trod_string hu h
    exact ⟨s, rfl, by simpa using hw s.data.toList.length (by simp [DataW.weights])⟩
theorem weightsAll_mem {H : Type} {d : DataW H} {l : List (DataW H)} (h : d ∈ l) : ∀ n ∈ d.weights P e, n ∈ DataW.weightsAll P e l := by
  induction l with
  | nil => cases h
  | cons y l ih =>
    intro n hn
    rw [DataW.weightsAll]
    rcases List.mem_cons.1 h with rfl | h
    · exact List.mem_append_left _ hn
    · exact List.mem_append_right _ (ih h n hn)
theorem choose_list {Q : Nat → α → Prop} : ∀ n : Nat, (∀ i, i < n → ∃ a, Q i a) → ∃ l : List α, l.length = n ∧ ∀ i a, l[i]? = some a → Q i a := by
  intro n
  induction n with
  | zero => intro _; exact ⟨[], rfl, by simp⟩
  | succ n ih =>
    intro h
    obtain ⟨l, hl, hq⟩ := ih (fun i hi => h i (by omega))
    obtain ⟨a, ha⟩ := h n (by omega)
    refine ⟨l ++ [a], by simp [hl], fun i b hb => ?_⟩
    by_cases hi : i < l.length
    · rw [List.getElem?_append_left hi] at hb
      exact hq i b hb
    · rw [List.getElem?_append_right (by omega)] at hb
      have h0 : i - l.length = 0 := by
        have := (List.getElem?_eq_some_iff.1 hb).1
        simp at this
        omega
      rw [h0] at hb
      simp at hb
      subst hb
      obtain rfl : i = n := by omega
      exact ha
theorem flatO_get {f : α → List Value} {s : Nat} (hf : ∀ a, (f a).length = s) : ∀ (l : List α) (i j : Nat) (a : α), l[i]? = some a → j < s → (l.flatMap f)[i * s + j]? = (f a)[j]? := by
  intro l
  induction l with
  | nil => intro i j a h; simp at h
  | cons y l ih =>
    intro i j a h hj
    cases i with
    | zero =>
      simp at h
      subst h
      simp only [List.flatMap_cons, Nat.zero_mul, Nat.zero_add]
      rw [List.getElem?_append_left (by rw [hf]; exact hj)]
    | succ i =>
      simp only [List.flatMap_cons]
      rw [List.getElem?_append_right (by rw [hf, Nat.add_mul]; omega), hf, show (i + 1) * s + j - s = i * s + j by rw [Nat.add_mul]; omega]
      exact ih i j a (by simpa using h) hj
theorem flatO_len {f : α → List Value} {s : Nat} (hf : ∀ a, (f a).length = s) : ∀ l : List α, (l.flatMap f).length = l.length * s := by
  intro l
  induction l with
  | nil => simp
  | cons y l ih => simp only [List.flatMap_cons, List.length_append, List.length_cons, ih, hf, Nat.add_mul]; omega
theorem rd_of_cells {w : World} {a : Addr} {s : Nat} {f : α → List Value} (hf : ∀ x, (f x).length = s) (hs : 0 < s) {l : List α}
    (h : ∀ i x, l[i]? = some x → ∀ j, j < s → w.cell? ((a.add (i * s)).add j) = (f x)[j]?) : Rd w s (some a) l.length (l.flatMap f) := by
  refine ⟨flatO_len hf l, ?_⟩
  by_cases hn : l.length = 0
  · exact .inl hn
  · have hl : 0 < l.length := by omega
    have h0 := h 0 l[0] (List.getElem?_eq_getElem hl) 0 hs
    have hv : ∃ v, (f l[0])[0]? = some v := ⟨_, List.getElem?_eq_getElem (by rw [hf]; exact hs)⟩
    obtain ⟨v, hv⟩ := hv
    rw [hv] at h0
    have hsp : a.spot = none := by
      unfold World.cell? at h0
      split at h0
      · by_cases hs : a.spot.isSome = true
        · simp [Addr.add, hs] at h0
        · simpa using hs
      · simp at h0
    obtain ⟨b, off, sp⟩ := a
    simp only at hsp
    subst hsp
    have e0 : (((⟨b, off, none⟩ : Addr).add (0 * s)).add 0) = ⟨b, off, none⟩ := by simp [Addr.add]
    rw [e0] at h0
    refine .inr ⟨b, off, rfl, World.block_lt_of_cell? w _ h0, fun i hi => ?_⟩
    have hq : i / s < l.length := Nat.div_lt_of_lt_mul (by rw [Nat.mul_comm]; exact hi)
    have hm : i % s < s := Nat.mod_lt _ hs
    have hx := h (i / s) l[i / s] (List.getElem?_eq_getElem hq) (i % s) hm
    have hg := flatO_get hf l (i / s) (i % s) _ (List.getElem?_eq_getElem hq) hm
    have hi2 : i / s * s + i % s = i := by rw [Nat.mul_comm]; exact Nat.div_add_mod i s
    rw [hi2] at hg
    rw [hg, ← hx]
    congr 1
    simp only [Addr.add]
    split <;> split <;> simp <;> omega
noncomputable def opSlice (o : Op P e α) (bytes : Nat) (hu : P.underlying t = some (.slice e)) (hb : P.bytesOf e = bytes) (hc : P.cellsOf t = 1) (hs : 0 < o.size) : Op P t (SlA α) where
  size := 1
  cells s := [.slice s.A s.l.length s.c]
  ok w s := Rd w o.size s.A s.l.length (s.l.flatMap o.cells) ∧ (∀ a ∈ s.l, o.ok w a) ∧ s.l.length ≤ s.c ∧ s.c ≤ maxLen ∧ (s.A = none → s.c = 0) ∧ s.c * bytes ≤ reachBytes
  csize := hc
  len _ := rfl
  opens {H enc w base held fuel cs x} h hw := by
    rcases open_slice hu h with ⟨rfl, rfl⟩ | ⟨a, len, cap, m, n, D, Pl, rfl, hba, hl, hm, hmm, rfl, hi⟩
    · exact ⟨⟨none, 0, []⟩, rfl, Rd.nil _ _ _, by simp, Nat.le_refl _, Nat.zero_le _, fun _ => rfl, by simp⟩
    · simp only [if_true] at hmm
      subst hmm
      have hwt : ∀ k ∈ ((len + (m - len)) * bytes) :: DataW.weightsAll P e ((List.range len).map D), k ≤ reachBytes := by
        intro k hk
        simp only [DataW.weights, hu, hb] at hw
        rcases List.mem_cons.1 hk with rfl | hk
        · exact hw _ (by simp)
        · exact hw k (by simp [hk])
      obtain ⟨l, hll, hq⟩ := choose_list (Q := fun i x => (∀ j, j < o.size → w.cell? ((a.add (i * o.size)).add j) = (o.cells x)[j]?) ∧ o.ok w x) len (fun i hi' => by
        obtain ⟨cs', hcs, htr⟩ := hi i (by omega)
        obtain ⟨x, rfl, hok⟩ := o.opens htr (fun k hk => hwt k (List.mem_cons_of_mem _ (weightsAll_mem (d := D i) (List.mem_map.2 ⟨i, by simpa using hi', rfl⟩) k hk)))
        rw [o.csize] at hcs
        obtain ⟨_, _, hat⟩ := World.cells?_some hcs
        exact ⟨x, hat, hok⟩)
      subst hll
      refine ⟨⟨some a, m, l⟩, rfl, rd_of_cells o.len hs (fun i x hx => (hq i x hx).1), fun x hx => ?_, hl, hm, (fun h => by cases h), ?_⟩
      · obtain ⟨i, hi', hx'⟩ := List.getElem_of_mem hx
        exact (hq i x (by rw [List.getElem?_eq_getElem hi', hx'])).2
      · have := hwt _ (List.mem_cons_self ..)
        rwa [Nat.add_sub_cancel' hl] at this
structure OpF (P : Program) (fs : List Field) (off : Nat) (α : Type) where
  size : Nat
  cells : α → List Value
  ok : World → α → Prop
  len : ∀ a, (cells a).length = size
  opens : ∀ {H : Type} {enc : TypeId × Value → H} {w : World} {base : Nat} {held : Bool} {fuel : Nat} {cs : List Value} {ys : List (DataW H × List MemPlace)},
    cs.length = off + size → (∀ (i : Nat) (f : Field), fs[i]? = some f → DataW.trod enc P w base (fun _ => true) held fuel f.type ((cs.drop f.offset).take (P.cellsOf f.type)) = ys[i]?) → ys.length = fs.length →
    (∀ n ∈ DataW.weightsEach P (fs.map (·.type)) (ys.map (·.1)), n ≤ reachBytes) → ∃ a, cs.drop off = cells a ∧ ok w a
noncomputable def opNil (off : Nat) : OpF P [] off Unit where
  size := 0
  cells _ := []
  ok _ _ := True
  len _ := rfl
  opens h _ _ _ := ⟨(), by rw [List.drop_of_length_le (by omega)], trivial⟩
noncomputable def opCons {f : Field} {fs : List Field} {off : Nat} (o : Op P f.type α) (r : OpF P fs (off + o.size) β) (hoff : f.offset = off) : OpF P (f :: fs) off (α × β) where
  size := o.size + r.size
  cells p := o.cells p.1 ++ r.cells p.2
  ok w p := o.ok w p.1 ∧ r.ok w p.2
  len p := by rw [List.length_append, o.len, r.len]
  opens {H enc w base held fuel cs ys} h hf hl hw := by
    match ys, hl with
    | y :: ys, hl =>
      have h0 := hf 0 f rfl
      simp only [hoff, o.csize, List.getElem?_cons_zero] at h0
      obtain ⟨a, ha, hok⟩ := o.opens h0 (fun n hn => hw n (by simp [DataW.weightsEach, hn]))
      obtain ⟨b, hb, hok2⟩ := r.opens (cs := cs) (ys := ys) (by omega) (fun i g hg => by simpa using hf (i + 1) g (by simpa using hg)) (by simpa using hl) (fun n hn => hw n (by simp only [List.map_cons, DataW.weightsEach]; exact List.mem_append_right _ hn))
      refine ⟨(a, b), ?_, hok, hok2⟩
      simp only
      rw [← ha, ← hb, ← List.drop_drop]
      exact (List.take_append_drop _ _).symm
noncomputable def opStruct {fs : Array Field} (r : OpF P fs.toList 0 α) (hu : P.underlying t = some (.struct fs)) (hc : P.cellsOf t = r.size) : Op P t α where
  size := r.size
  cells := r.cells
  ok := r.ok
  csize := hc
  len := r.len
  opens {H enc w base held fuel cs x} h hw := by
    obtain ⟨xs, n, _, rfl, hlen, hxl, hg⟩ := DataW.trod_struct hu h
    obtain ⟨a, ha, hok⟩ := r.opens (cs := cs) (ys := xs) (by rw [hlen, hc]; omega) (fun i f hf => hg i f (by simpa using hf)) (by simpa using hxl) (fun k hk => hw k (by simpa [DataW.weights, hu] using hk))
    exact ⟨a, by simpa using ha, hok⟩
noncomputable def opMap (o : Op P t α) (f : α → β) (cells' : β → List Value) (ok' : World → β → Prop) (h1 : ∀ a, o.cells a = cells' (f a)) (h2 : ∀ w a, o.ok w a → ok' w (f a)) (h3 : ∀ b, (cells' b).length = o.size) : Op P t β where
  size := o.size
  cells := cells'
  ok := ok'
  csize := o.csize
  len := h3
  opens h hw := by
    obtain ⟨a, ha, hok⟩ := o.opens h hw
    exact ⟨f a, by rw [ha, h1], h2 _ _ hok⟩
end
theorem flat_range_take {cs : List Value} {n s : Nat} (h : cs.length = n * s) : (List.range n).flatMap (fun i => (cs.drop (i * s)).take s) = cs := by
  induction n generalizing cs with
  | zero => simp at h; subst h; rfl
  | succ n ih =>
    rw [List.range_succ_eq_map, List.flatMap_cons, List.flatMap_map, Nat.zero_mul, List.drop_zero]
    have hl : (cs.drop s).length = n * s := by rw [List.length_drop, h, Nat.succ_mul]; omega
    have := ih hl
    simp only [List.drop_drop] at this
    have e : (fun i => (cs.drop (i.succ * s)).take s) = fun i => (cs.drop (s + i * s)).take s := by
      funext i; rw [Nat.succ_mul, Nat.add_comm]
    rw [e, this, List.take_append_drop]
theorem flat_range_len {f : Nat → List Value} {s : Nat} (hf : ∀ a, (f a).length = s) (n : Nat) : ((List.range n).flatMap f).length = n * s := by
  rw [flatO_len (f := f) hf, List.length_range]
section
variable {P : Program} {t e : TypeId} {α β : Type}
noncomputable def opArr (o : Op P e α) (n : Nat) (hn : 0 < n) (hu : P.underlying t = some (.array n e)) (hc : P.cellsOf t = n * o.size) : Op P t (Nat → α) where
  size := n * o.size
  cells f := (List.range n).flatMap fun i => o.cells (f i)
  ok w f := ∀ i, o.ok w (f i)
  csize := hc
  len f := flat_range_len (fun i => o.len (f i)) n
  opens {H enc w base held fuel cs x} h hw := by
    obtain ⟨xs, m, _, rfl, hcl, hxl, hf⟩ := DataW.trod_array hu h
    have hwt : ∀ k ∈ DataW.weightsAll P e (xs.map (·.1)), k ≤ reachBytes := fun k hk => hw k (by simpa [DataW.weights, hu] using hk)
    obtain ⟨l, hll, hq⟩ := choose_list (Q := fun i a => (cs.drop (i * o.size)).take o.size = o.cells a ∧ o.ok w a) n (fun i hi => by
      have g := hf i hi
      rw [o.csize] at g
      rw [List.getElem?_eq_getElem (by omega)] at g
      obtain ⟨a, ha, hok⟩ := o.opens g (fun k hk => hwt k (weightsAll_mem (List.mem_map.2 ⟨xs[i]'(by omega), List.getElem_mem _, rfl⟩) k hk))
      exact ⟨a, ha, hok⟩)
    have h0 : 0 < l.length := by omega
    refine ⟨fun i => l.getD i l[0], ?_, fun i => ?_⟩
    · rw [hc] at hcl
      conv => lhs; rw [← flat_range_take hcl]
      have key : ∀ i ∈ List.range n, (cs.drop (i * o.size)).take o.size = o.cells (l.getD i l[0]) := by
        intro i hi
        have hi' : i < l.length := by rw [List.mem_range] at hi; omega
        have := (hq i l[i] (List.getElem?_eq_getElem hi')).1
        rw [this]
        simp [List.getD, List.getElem?_eq_getElem hi']
      rw [List.flatMap_def, List.flatMap_def, List.map_congr_left key]
    · by_cases hi : i < l.length
      · have := (hq i l[i] (List.getElem?_eq_getElem hi)).2
        simpa [List.getD, List.getElem?_eq_getElem hi] using this
      · have := (hq 0 l[0] (List.getElem?_eq_getElem h0)).2
        simpa [List.getD, List.getElem?_eq_none (by omega : l.length ≤ i)] using this
end
theorem in64_of {n : Int} (h : (Lit.int .i64 n).wf = true) : in64 n := by
  unfold in64
  simp [Lit.wf, IntKind.min, IntKind.max, IntKind.signed, IntKind.bits] at h
  omega
noncomputable def opI0 : Op Tryd.prog 3 Int := opInt .i64 Tryd.underlying3 (by kernel_rfl)
noncomputable def opS0 : Op Tryd.prog 9 ByteArray := opStr Tryd.underlying9 (by kernel_rfl)
noncomputable def opI : Op Tryd.prog 3 Int := opMap opI0 id (fun a => (i1C a).toList) (fun _ a => in64 a) (fun a => rfl) (fun w a h => in64_of h) (fun _ => rfl)
noncomputable def opS : Op Tryd.prog 9 Str := opMap opS0 (fun s => s.data.toList) (fun a => (strC a).toList) (fun _ a => a.length ≤ 9000000000000000000) (fun a => rfl) (fun w a h => by
  have h : a.size ≤ reachBytes := h
  have e : a.data.toList.length = a.size := Array.length_toList
  rw [e]
  exact Nat.le_trans h (by decide)) (fun _ => rfl)
noncomputable def opQ : Op Tryd.prog 53 Quad := opMap (opArr opI0 4 (by decide) Tryd.underlying53 (by kernel_rfl)) (fun f => (f 0, f 1, f 2, f 3)) (fun a => (quC a).toList) (fun _ a => qIn a) (fun a => rfl) (fun w a h => ⟨in64_of (h 0), in64_of (h 1), in64_of (h 2), in64_of (h 3)⟩) (fun _ => rfl)
noncomputable def opCue0 : Op Tryd.prog 23 (Int × (Int × (Int × (Int × (ByteArray × Unit))))) := opStruct (opCons opI0 (opCons opI0 (opCons opI0 (opCons opI0 (opCons opS0 (opNil _) rfl) rfl) rfl) rfl) rfl) Tryd.underlying23 (by kernel_rfl)
noncomputable def opCue : Op Tryd.prog 23 Cue := opMap opCue0 (fun ⟨a, b, c, d, s, _⟩ => ⟨a, b, c, d, s.data.toList⟩) (fun a => (cuC a).toList) (fun _ a => a.text.length ≤ 9000000000000000000) (fun a => rfl) (fun w a h => by
  obtain ⟨_, _, _, _, h, _⟩ := h
  have h : a.2.2.2.2.1.size ≤ reachBytes := h
  have e : a.2.2.2.2.1.data.toList.length = a.2.2.2.2.1.size := Array.length_toList
  show a.2.2.2.2.1.data.toList.length ≤ _
  rw [e]
  exact Nat.le_trans h (by decide)) (fun _ => rfl)
noncomputable def opStrs : Op Tryd.prog 29 (SlA Str) := opSlice opS 16 Tryd.underlying29 (by kernel_rfl) (by kernel_rfl) (by decide)
noncomputable def opInts : Op Tryd.prog 31 (SlA Int) := opSlice opI 8 Tryd.underlying31 (by kernel_rfl) (by kernel_rfl) (by decide)
noncomputable def opQs : Op Tryd.prog 30 (SlA Quad) := opSlice opQ 32 Tryd.underlying30 (by kernel_rfl) (by kernel_rfl) (by decide)
structure RowOk {α : Type} (k : Nat) (cs : α → Array Value) (w : World) (s : SlA α) (ok : α → Prop) (most : Nat) : Prop where
  row : IsRow k cs w s.A s.l
  all : ∀ a ∈ s.l, ok a
  len : s.l.length ≤ most
theorem strs_ok {w : World} {s : SlA Str} (h : opStrs.ok w s) : RowOk 1 strC w s (fun a => a.length ≤ 9000000000000000000) 1000000000000000 := by
  obtain ⟨h1, h2, h3, h4, h5, h6⟩ := h
  refine ⟨h1, h2, ?_⟩
  have : s.c * 16 ≤ 140737488351232 := h6
  omega
theorem ints_ok {w : World} {s : SlA Int} (h : opInts.ok w s) : RowOk 1 i1C w s in64 1000000000000000 := by
  obtain ⟨h1, h2, h3, h4, h5, h6⟩ := h
  refine ⟨h1, h2, ?_⟩
  have : s.c * 8 ≤ 140737488351232 := h6
  omega
theorem qs_ok {w : World} {s : SlA Quad} (h : opQs.ok w s) : RowOk 4 quC w s qIn 1000000000000000 := by
  obtain ⟨h1, h2, h3, h4, h5, h6⟩ := h
  refine ⟨h1, h2, ?_⟩
  have : s.c * 32 ≤ 140737488351232 := h6
  omega
end Go.Proofs.YtcifcipjndiegaaDoor
