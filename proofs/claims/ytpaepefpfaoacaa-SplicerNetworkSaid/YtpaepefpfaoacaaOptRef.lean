/- Plain words and contracts of the reference of chapter 17, and of optout's Item. -/
import Derived.Test.YtpaepefpfaoacaaIter
import Derived.Deep.QuietTactic
import Derived.BigQuiet
import Derived.Laws.StructEq
import Derived.Handy
import Derived.Deep.RegionWith
import Derived.Deep.RegionHeld3
namespace Go.Proofs.Ytpaepefpfaoacaa
open Go.ChangeShapes Go.WideShapes Go.ChangeAt Go.RowKit
set_option linter.unusedVariables false

abbrev Alts := List (Int × Int)
abbrev optV (s f : Int) (A : Option Addr) (n c : Nat) : Value := .agg #[.int .i64 s, .int .i64 f, .slice A n c]
def noneP (s f : Int) (al : Alts) : Bool := s == 0 && (f == 0 && ((al.length : Int) == 0))
def altBad (last : Int) (a : Int × Int) : Bool := decide (a.1 ≤ last) || (decide (7 < a.1) || (decide (a.2 < 1) || decide (1000000 < a.2)))
def altsOk (last : Int) : Alts → Bool
  | [] => true
  | a :: l => !altBad last a && altsOk a.1 l
def spanBad (s f : Int) : Bool := decide (s < 0) || (decide (100000000 < s) || (decide (f < 1) || decide (100000000 < f)))
def validP (s f : Int) (al : Alts) : Bool :=
  noneP s f al || (!spanBad s f && (!(decide (al.length < 1) || decide (7 < al.length)) && altsOk 0 al))
def itemP (r : Int) : Alts → Option Int
  | [] => none
  | a :: l => if a.1 = r then some a.2 else itemP r l
theorem drop_pair {al : Alts} {k : Nat} (hk : k < al.length) : al.drop k = al.getD k (0, 0) :: al.drop (k + 1) := by
  rw [List.drop_eq_getElem_cons hk]
  simp [List.getD, List.getElem?_eq_getElem hk]
set_option maxRecDepth 100000 in
set_option maxHeartbeats 2000000 in
theorem item_any (s f : Int) (A : Option Addr) (n c : Nat) (al : Alts) (r : Int) (w : World) (h : IsAlts w A n al) (hm : n ≤ maxLen) :
    Calls Try.prog 36 #[optV s f A n c, .int .i64 r] w fun e w' => e = .returned (.tuple #[.int .i64 ((itemP r al).getD 0), .bool (itemP r al).isSome]) ∧ Below w.heap.size w w' := by
  have b0 := Lib.hid (balloc w (.cells #[.int .i64 s, .int .i64 f, .slice A n c] 44))
  have H := Lib.hid h
  have hl := h.1
  have hm' : n ≤ 9223372036854775807 := hm
  clear h
  go_enter Try.func36, Try.ntmps36
  go_wp2_with fail
  go_loopw [11] (fun i wr => ∃ (k : Nat), k ≤ n ∧ i = .int .i64 k ∧ itemP r al = itemP r (al.drop k) ∧ Below w.heap.size w wr) (fun i _ => n - (intOf i).toNat)
  case atStart => exact ⟨0, Nat.zero_le _, rfl, rfl, b0.out⟩
  case round =>
    obtain ⟨k, hk, rfl, hst, hB⟩ := hrel
    have HST := Lib.hid hst
    clear hst
    by_cases hlt : k < n
    · obtain ⟨b, off, rfl, hbl, ca, cb⟩ := (H.out.below hB).at_ hlt
      rw [drop_pair (by omega)] at HST
      generalize al.getD k (0, 0) = a at *
      obtain ⟨x, i⟩ := a
      simp only at ca cb
      by_cases j1 : x = r
      · subst j1
        go_wp2_with fail
        go_ret2
        exact ⟨by rw [HST.out]; simp [itemP], (hB.alloc hB.size _)⟩
      have j1' : (x == r) = false := by simpa using j1
      go_wp2_with fail
      go_roundw
      case rel => exact ⟨k + 1, by omega, by go_num, by rw [HST.out]; simp [itemP, j1], (hB.alloc hB.size _)⟩
      case measure => simp [intOf]; omega
    · go_wp2_with fail
      go_ret2
      exact ⟨by rw [HST.out, List.drop_of_length_le (by omega)]; rfl, hB⟩

theorem below_drewN {B : Nat} {a w : World} (h : Below B a w) (n : Nat) : Below B a (w.drewN n) := ⟨h.os, h.tape, h.output, h.size, h.block⟩
theorem dropEq_cons {al bl : Alts} {k : Nat} (h1 : k < al.length) (h2 : k < bl.length) :
    decide (al.drop k = bl.drop k) = (decide (al.getD k (0, 0) = bl.getD k (0, 0)) && decide (al.drop (k + 1) = bl.drop (k + 1))) := by
  rw [drop_pair h1, drop_pair h2]
  simp
def sameP (s f : Int) (al : Alts) (t g : Int) (bl : Alts) : Bool := s == t && (f == g && decide (al = bl))

theorem pairs_ones (al : Alts) : ∀ u ∈ pairs al, u.oneCell' = true := by
  intro u hu
  simp only [List.mem_flatMap] at hu
  obtain ⟨a, _, hu⟩ := hu
  simp only [List.mem_cons, List.not_mem_nil, or_false] at hu
  rcases hu with rfl | rfl <;> rfl
theorem ret_opt {fn : Func} {R : Ending → World → Prop} {a : Act} {w : World} {p : Tmp} {b : Nat} {t : TypeId} {v0 v1 v2 : Value} (hr : fn.results = #[.cell p 44]) (hp : a.tmps.getD p undef = .pointer (some ⟨b, 0, none⟩))
    (hb : Box w b t #[v0, v1, v2]) (hd : a.defers = []) (h : R (.returned (.agg #[v0, v1, v2])) w) : bodyPost Try.prog fn R .ret a w := by
  have c0 := hb.cell (i := 0) rfl
  have c1 := hb.cell (i := 1) rfl
  have c2 := hb.cell (i := 2) rfl
  refine bodyPost_ret (v := .agg #[v0, v1, v2]) ?_ hd h
  rw [Array.getD_eq_getD_getElem?] at hp
  simp [results, hr, hp, go_sem, c0, c1, c2]
theorem infoAlt : (Try.prog.info? 69).map (fun i => (i.zero, i.size, i.bytes)) = some (some (.agg #[.int .i64 0, .int .i64 0]), 2, 16) := by kernel_rfl
/-- A call that returns an opt-out whose alternatives are new, and changes nothing that was there. -/
def RetOpt (s f : Int) (al : Alts) (w : World) (e : Ending) (w' : World) : Prop :=
  ∃ B c, e = .returned (optV s f B al.length c) ∧ IsAlts w' B al.length al ∧ al.length ≤ c ∧ c ≤ maxLen ∧ (B = none → c = 0) ∧ Below w.heap.size w w' ∧ (∀ b off, B = some ⟨b, off, none⟩ → w.heap.size ≤ b)
theorem own_base {w : World} {base : Nat} {t : TypeId} {size n c : Nat} {B : Option Addr} {xs : List Value} (h : w.ownsRow base t size (.slice B n c) n xs) : ∀ b off, B = some ⟨b, off, none⟩ → base ≤ b := by
  intro b off hb
  rcases h.2 with ⟨h2, _⟩ | ⟨g, cap, cur, hv, hg, _⟩
  · cases h2; cases hb
  · cases hv; cases hb; exact hg
theorem altsOk_mem {al : Alts} : ∀ {last : Int}, 0 ≤ last → altsOk last al = true → ∀ a ∈ al, (0 ≤ a.1 ∧ a.1 ≤ 7) ∧ 1 ≤ a.2 ∧ a.2 ≤ 1000000 := by
  induction al with
  | nil => simp
  | cons a al ih =>
    intro last hl h b hb
    simp only [altsOk, altBad, Bool.and_eq_true, Bool.not_eq_true', Bool.or_eq_false_iff, decide_eq_false_iff_not] at h
    obtain ⟨⟨h1, h2, h3, h4⟩, h5⟩ := h
    simp only [List.mem_cons] at hb
    rcases hb with rfl | hb
    · omega
    · exact ih (by omega) h5 b hb
theorem valid_facts {s f : Int} {al : Alts} (h : validP s f al = true) : (0 ≤ s ∧ s ≤ 100000000) ∧ (0 ≤ f ∧ f ≤ 100000000) ∧ al.length ≤ 7 ∧ ∀ a ∈ al, (0 ≤ a.1 ∧ a.1 ≤ 7) ∧ 1 ≤ a.2 ∧ a.2 ≤ 1000000 := by
  unfold validP at h
  by_cases hn : noneP s f al = true
  · simp [noneP] at hn
    obtain ⟨rfl, rfl, rfl⟩ := hn
    simp
  · have hn' : noneP s f al = false := by simpa using hn
    simp only [hn', Bool.false_or, Bool.and_eq_true, Bool.not_eq_true', spanBad, Bool.or_eq_false_iff, decide_eq_false_iff_not] at h
    obtain ⟨⟨h1, h2, h3, h4⟩, ⟨h5, h6⟩, h7⟩ := h
    exact ⟨by omega, by omega, by omega, altsOk_mem (Int.le_refl _) h7⟩
structure POpt where
  s : Int
  f : Int
  al : Alts
def POpt.zero : POpt := ⟨0, 0, []⟩
theorem ret_dec {fn : Func} {R : Ending → World → Prop} {a : Act} {w : World} {p q : Tmp} {b : Nat} {t : TypeId} {v0 v1 v2 v : Value} (hr : fn.results = #[.cell p 44, .tmp q]) (hp : a.tmps.getD p undef = .pointer (some ⟨b, 0, none⟩)) (hq : a.tmps.getD q undef = v)
    (hb : Box w b t #[v0, v1, v2]) (hd : a.defers = []) (h : R (.returned (.tuple #[.agg #[v0, v1, v2], v])) w) : bodyPost Try.prog fn R .ret a w := by
  have c0 := hb.cell (i := 0) rfl
  have c1 := hb.cell (i := 1) rfl
  have c2 := hb.cell (i := 2) rfl
  refine bodyPost_ret (v := .tuple #[.agg #[v0, v1, v2], v]) ?_ hd h
  rw [Array.getD_eq_getD_getElem?] at hp hq
  simp [results, hr, hp, hq, go_sem, c0, c1, c2]
abbrev zero3 : Array Value := #[.int .i64 0, .int .i64 0, .slice none 0 0]
abbrev ptrAt (b o : Nat) : Value := .pointer (some ⟨b, o, none⟩)

/-- An event; its alternatives apart. -/
structure Ev where
  entry : Int
  item : Int
  start : Int
  frames : Int
  inn : Int
  regions : Int
abbrev evCells (e : Ev) (A : Option Addr) (n c : Nat) : Array Value :=
  #[.int .i64 e.entry, .int .i64 e.item, .int .i64 e.start, .int .i64 e.frames, .int .i64 e.inn, .int .i64 e.regions, .slice A n c]
abbrev evV (e : Ev) (A : Option Addr) (n c : Nat) : Value := .agg (evCells e A n c)
def Ev.placed (e : Ev) : Bool := !spanBad e.start e.frames
def Ev.runs (e : Ev) (fr : Int) : Bool := decide (e.start ≤ fr) && decide (fr < e.start + e.frames)
def Ev.follows (e : Ev) (fr : Int) : Bool := decide (fr < e.start) && decide (e.start - 20 ≤ fr)
theorem Ev.placed_bd {e : Ev} (h : e.placed = true) : (0 ≤ e.start ∧ e.start ≤ 100000000) ∧ 1 ≤ e.frames ∧ e.frames ≤ 100000000 := by
  simp only [Ev.placed, spanBad, Bool.not_eq_true', Bool.or_eq_false_iff, decide_eq_false_iff_not] at h
  omega
def Ev.inBad (e : Ev) : Bool := decide (e.inn < 0) || decide (100000000 < e.inn)

/-- An event with its alternatives, as it lies in memory. -/
structure EvA where
  ev : Ev
  A : Option Addr
  c : Nat
  al : Alts
abbrev EvA.n (e : EvA) : Nat := e.al.length
abbrev EvA.cells (e : EvA) : Array Value := evCells e.ev e.A e.al.length e.c
def EvA.ok (e : EvA) (w : World) : Prop := IsAlts w e.A e.al.length e.al ∧ e.al.length ≤ e.c ∧ e.c ≤ maxLen ∧ (e.A = none → e.c = 0) ∧ e.al.length * 16 ≤ reachBytes
abbrev evsCells (l : List EvA) : List Value := l.flatMap fun e => e.cells.toList
theorem evsCells_len (l : List EvA) : (evsCells l).length = l.length * 7 := by
  induction l with
  | nil => rfl
  | cons a l ih => simp only [evsCells, List.flatMap_cons, List.length_append, List.length_cons] at *; rw [ih]; simp; omega
theorem evsCells_get (l : List EvA) (i j : Nat) (h : i < l.length) (hj : j < 7) : (evsCells l)[i * 7 + j]? = l[i].cells[j]? := by
  induction l generalizing i with
  | nil => simp at h
  | cons a l ih =>
    cases i with
    | zero => simp only [evsCells, List.flatMap_cons, Nat.zero_mul, Nat.zero_add]; rw [List.getElem?_append_left (by simpa using hj)]; simp
    | succ i =>
      have := ih i (by simpa using h)
      rw [show (i + 1) * 7 + j = (i * 7 + j) + 7 by omega]
      simp only [evsCells, List.flatMap_cons]
      rw [List.getElem?_append_right (by simp)]
      simpa using this
def IsEvs (w : World) (A : Option Addr) (n : Nat) (l : List EvA) : Prop := l.length = n ∧ Rd w 7 A n (evsCells l) ∧ ∀ e ∈ l, e.ok w
theorem EvA.ok.below {w w' : World} {e : EvA} (h : e.ok w) (hb : Below w.heap.size w w') : e.ok w' := ⟨h.1.below hb, h.2⟩
theorem IsEvs.below {w w' : World} {A : Option Addr} {n : Nat} {l : List EvA} (h : IsEvs w A n l) (hb : Below w.heap.size w w') : IsEvs w' A n l := ⟨h.1, h.2.1.below hb, fun e he => (h.2.2 e he).below hb⟩
theorem IsEvs.at_ {w : World} {A : Option Addr} {n : Nat} {l : List EvA} (h : IsEvs w A n l) {i : Nat} (hi : i < n) :
    ∃ b off e, A = some ⟨b, off, none⟩ ∧ b < w.heap.size ∧ l[i]? = some e ∧ ∀ j v, e.cells[j]? = some v → w.cell? ⟨b, off + (i * 7 + j), none⟩ = some v := by
  obtain ⟨h1, ⟨h2, h3⟩, h4⟩ := h
  obtain ⟨b, off, rfl, hb, hc⟩ := h3.resolve_left (by omega)
  have hl : i < l.length := by omega
  refine ⟨b, off, l[i], rfl, hb, List.getElem?_eq_getElem hl, fun j v hv => ?_⟩
  have hj : j < 7 := by
    have := (Array.getElem?_eq_some_iff.1 hv).1
    simpa using this
  rw [hc (i * 7 + j) (by omega), evsCells_get l i j hl hj, hv]
abbrev plac (l : List EvA) : List EvA := l.filter fun e => e.ev.placed
theorem plac_take {l : List EvA} {k : Nat} {e : EvA} (h : l[k]? = some e) : plac (l.take (k + 1)) = plac (l.take k) ++ (if e.ev.placed = true then [e] else []) := by
  rw [List.take_add_one, h]
  simp only [plac, List.filter_append, Option.toList_some, List.filter_cons, List.filter_nil]
theorem take_pre {l : List EvA} (k : Nat) : plac (l.take k) <+: plac l := by
  rw [show plac l = plac (l.take k ++ l.drop k) by rw [List.take_append_drop]]
  simp only [plac, List.filter_append]
  exact List.prefix_append _ _

/-- Whether an event that is placed opts out. -/
def EvA.outs (e : EvA) : Bool := !e.ev.inBad && validP (e.ev.start - e.ev.inn) (e.ev.frames + e.ev.inn) e.al
abbrev opts (l : List EvA) : List EvA := l.filter EvA.outs
abbrev optC (s f : Int) (A : Option Addr) (n c : Nat) : Array Value := #[.int .i64 s, .int .i64 f, .slice A n c]

def EvA.takes (fr : Int) (e : EvA) : Bool := e.ev.inn == 0 && e.ev.follows fr
def offerP (b : Option EvA) (e : EvA) : Option EvA :=
  match b with
  | none => some e
  | some d => if e.ev.start - e.ev.inn < d.ev.start - d.ev.inn then some e else some d
/-- The event that is announced. -/
def annP (fr : Int) (l : List EvA) : Option EvA := (l.filter (EvA.takes fr)).foldl offerP none
def nextE (fr : Int) (es : List EvA) : Option EvA :=
  match (plac es).find? fun e => e.ev.runs fr with
  | some e => if e.outs = true then some e else annP fr (opts (plac es))
  | none => annP fr (opts (plac es))
def outP : Option EvA → POpt
  | none => .zero
  | some e => ⟨e.ev.start - e.ev.inn, e.ev.frames + e.ev.inn, e.al⟩
abbrev nextP (fr : Int) (es : List EvA) : POpt := outP (nextE fr es)
theorem annP_mem {fr : Int} {l : List EvA} {e : EvA} (h : annP fr l = some e) : e ∈ l := by
  have key : ∀ (l : List EvA) (b : Option EvA) (e : EvA), l.foldl offerP b = some e → b = some e ∨ e ∈ l := by
    intro l
    induction l with
    | nil => intro b e h; exact .inl h
    | cons a l ih =>
      intro b e h
      rcases ih _ _ h with h | h
      · cases b with
        | none => simp only [offerP, Option.some.injEq] at h; subst h; exact .inr (List.mem_cons_self ..)
        | some d =>
          simp only [offerP] at h
          split at h
          · cases h; exact .inr (List.mem_cons_self ..)
          · exact .inl h
      · exact .inr (List.mem_cons_of_mem _ h)
  rcases key _ _ _ h with h | h
  · cases h
  · exact (List.mem_filter.1 h).1
abbrev nextC (b : Option EvA) : Array Value :=
  match b with
  | none => optC 0 0 none 0 0
  | some e => optC (e.ev.start - e.ev.inn) (e.ev.frames + e.ev.inn) e.A e.al.length e.c
theorem annP_snoc (fr : Int) (l : List EvA) (e : EvA) : annP fr (l ++ [e]) = if e.takes fr = true then offerP (annP fr l) e else annP fr l := by
  unfold annP
  rw [List.filter_append, List.foldl_append]
  by_cases h : e.takes fr = true <;> simp [h]
theorem find_pre {α : Type} {p : α → Bool} {l pre : List α} {x : α} (h : pre ++ [x] <+: l) (h1 : ∀ y ∈ pre, p y = false) (h2 : p x = true) : l.find? p = some x := by
  obtain ⟨r, rfl⟩ := h
  rw [List.append_assoc, List.find?_append, List.find?_eq_none.2 (by simpa using h1)]
  simp [h2]
/-- The result of Next stands in its variable, in memory of its own. -/
def NextRes (b : Nat) (o : POpt) (W : World) : Prop := ∃ B c, (Box W b 44 (optC o.s o.f B o.al.length c) ∧ Rd W 2 B o.al.length (pairs o.al)) ∧ o.al.length ≤ c ∧ c ≤ maxLen ∧ (B = none → c = 0) ∧ (∀ b' off, B = some ⟨b', off, none⟩ → b < b')
theorem nextRes_own {β : Type} (B b : Nat) (o : POpt) : OwnFrom B (fun (_ : β) W => NextRes b o W) :=
  OwnFrom.ex fun X => OwnFrom.ex fun c => OwnFrom.and (OwnFrom.and (box_own _ _ _ _) (rd_own _ _ _ _ _)) (ownFrom_pure _ _)
theorem Rd.set {w : World} {size : Nat} {A : Option Addr} {n : Nat} {xs : List Value} (h : Rd w size A n xs) {b i : Nat} (v : Value) (hb : ∀ b' off, A = some ⟨b', off, none⟩ → b < b') : Rd (w.setCell ⟨b, i, none⟩ v) size A n xs := by
  obtain ⟨h1, h2⟩ := h
  refine ⟨h1, ?_⟩
  rcases h2 with h2 | ⟨b', off, rfl, hlt, hc⟩
  · exact .inl h2
  · have hne := hb b' off rfl
    refine .inr ⟨b', off, rfl, by simpa [World.setCell] using hlt, fun j hj => ?_⟩
    rw [← hc j hj]
    exact World.cell?_of_block (Below.heap_setCell w ⟨b, i, none⟩ v b' (by show b' ≠ b; omega))
/-- What own has returned is stored in the result. -/
theorem nextRes_store {w w3 : World} {b : Nat} {o : POpt} {vs : Array Value} {B : Option Addr} {c : Nat} (hx : Box w3 b 44 vs) (hv : vs.size = 3) (hb : b < w.heap.size) (h1 : IsAlts w3 B o.al.length o.al) (h2 : o.al.length ≤ c) (h3 : c ≤ maxLen) (h4 : B = none → c = 0) (h5 : ∀ b' off, B = some ⟨b', off, none⟩ → w.heap.size ≤ b') :
    NextRes b o (((w3.setCell ⟨b, 0, none⟩ (.int .i64 o.s)).setCell ⟨b, 1, none⟩ (.int .i64 o.f)).setCell ⟨b, 2, none⟩ (.slice B o.al.length c)) := by
  have h6 : ∀ b' off, B = some ⟨b', off, none⟩ → b < b' := fun b' off e => Nat.lt_of_lt_of_le hb (h5 b' off e)
  refine ⟨B, c, ⟨?_, ((h1.2.set _ h6).set _ h6).set _ h6⟩, h2, h3, h4, h6⟩
  obtain ⟨l⟩ := vs
  match l, hv with
  | [v0, v1, v2], _ =>
    have := ((hx.set (i := 0) (.int .i64 o.s)).set (i := 1) (.int .i64 o.f)).set (i := 2) (.slice B o.al.length c)
    simpa using this
theorem nextC_facts {fr : Int} {es : List EvA} {w : World} {A : Option Addr} {m : Nat} (hI : IsEvs w A m es) {b : Option EvA} (hb : ∀ e, b = some e → e ∈ es ∧ e.outs = true) :
    ∃ s f B c al, nextC b = optC s f B al.length c ∧ outP b = ⟨s, f, al⟩ ∧ IsAlts w B al.length al ∧ al.length ≤ 7 ∧ (B = none → al.length = 0 ∧ c = 0) := by
  cases b with
  | none => exact ⟨0, 0, none, 0, [], rfl, rfl, IsAlts.nil _ _, by simp, fun _ => ⟨rfl, rfl⟩⟩
  | some e =>
    obtain ⟨h1, h2⟩ := hb e rfl
    obtain ⟨k1, k2, k3, k4, _⟩ := hI.2.2 e h1
    have hv : validP (e.ev.start - e.ev.inn) (e.ev.frames + e.ev.inn) e.al = true := by
      simp only [EvA.outs, Bool.and_eq_true] at h2
      exact h2.2
    exact ⟨_, _, e.A, e.c, e.al, rfl, rfl, k1, (valid_facts hv).2.2.1, fun h => by have := k4 h; exact ⟨by omega, this⟩⟩
theorem opts_mem {fr : Int} {es : List EvA} {e : EvA} (h : annP fr (opts (plac es)) = some e) : e ∈ es ∧ e.outs = true := by
  have h1 := annP_mem h
  simp only [opts, plac, List.mem_filter] at h1
  exact ⟨h1.1.1, h1.2⟩
end Go.Proofs.Ytpaepefpfaoacaa
