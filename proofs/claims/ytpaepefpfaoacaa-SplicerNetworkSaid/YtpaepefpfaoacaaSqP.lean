/- Plain facts for SplicerNetwork. -/
import Derived.Test.YtpaepefpfaoacaaSqL
import Derived.Test.YtpaepefpfaoacaaSymC
namespace Go.Proofs.Ytpaepefpfaoacaa
open Go.ChangeShapes Go.WideShapes Go.ChangeAt Go.RowKit
set_option linter.unusedVariables false
set_option linter.unusedSimpArgs false

def ev255 (e : Ev) : Ev := ⟨e.entry, e.item, e.start, e.frames, e.inn, 255⟩
def reg255 (e : EvA) : EvA := ⟨ev255 e.ev, e.A, e.c, e.al⟩
def noAlts (e : EvA) : EvA := ⟨e.ev, none, 0, []⟩
def bareE (e : EvA) : EvA := ⟨ev255 e.ev, none, 0, []⟩
theorem bareE_eq (e : EvA) : bareE e = reg255 (noAlts e) := rfl
theorem evs_of_row {w : World} {b n c : Nat} {A : Option Addr} {l : List EvA} (h : (rowsR b 63 7 EvA.cells evOk evFp (.slice A n c) l).F w) (hl : l.length = n) : IsEvs w A n l := by
  subst hl
  exact ⟨rfl, Rd.of_own h.1, fun a ha => (h.2 a ha).1⟩
theorem evs_of_bare {w : World} {b n c : Nat} {A : Option Addr} {l : List EvA} (h : (rowsR b 63 7 EvA.cells (fun _ _ => True) (fun _ _ => False) (.slice A n c) l).F w) (hl : l.length = n) (ha : ∀ e ∈ l, e.A = none ∧ e.c = 0 ∧ e.al = []) : IsEvs w A n l := by
  subst hl
  refine ⟨rfl, Rd.of_own h.1, fun a hm => ?_⟩
  obtain ⟨h1, h2, h3⟩ := ha a hm
  unfold EvA.ok
  rw [h1, h2, h3]
  exact ⟨IsAlts.nil _ _, by simp, Nat.zero_le _, fun _ => rfl, by simp⟩
theorem own_some0 {w : World} {base : Nat} {e : TypeId} {size n c : Nat} {A : Option Addr} {xs : List Value} (h : w.ownsRow base e size (.slice A n c) n xs) (hn : 0 < n) : ∃ g, A = some ⟨g, 0, none⟩ := by
  rcases h.2 with ⟨_, h0⟩ | ⟨g, cap, cur, hv, _⟩
  · omega
  · cases hv; exact ⟨g, rfl⟩
theorem own_nil0 {w : World} {base : Nat} {e : TypeId} {size n c : Nat} {A : Option Addr} {xs : List Value} (h : w.ownsRow base e size (.slice A n c) n xs) : A = none → n = 0 ∧ c = 0 := by
  intro hA
  subst hA
  rcases h.2 with ⟨hv, h0⟩ | ⟨g, cap, cur, hv, _⟩
  · cases hv; exact ⟨h0, rfl⟩
  · cases hv
theorem ev_ones (l : List EvA) : ∀ u ∈ flat EvA.cells l, u.oneCell' = true := by
  intro u hu
  simp only [flat, List.mem_flatMap] at hu
  obtain ⟨a, _, hu⟩ := hu
  simp [EvA.cells, evCells] at hu
  rcases hu with rfl | rfl | rfl | rfl | rfl | rfl | rfl <;> rfl
theorem EvA.len7 (a : EvA) : a.cells.toList.length = 7 := rfl
/-! ### The feeds -/
theorem hits_ev {lib : List AstA} {f : Int} {e e' : EvA} (h1 : e.ev.item = e'.ev.item) (h2 : e.ev.start = e'.ev.start) (h3 : e.ev.frames = e'.ev.frames) (h4 : e.ev.inn = e'.ev.inn) : hits lib f e = hits lib f e' := by
  unfold hits
  rw [h1, h2, h3, h4]
theorem hitP_map {lib : List AstA} {f : Int} {g : EvA → EvA} (hg : ∀ e, hits lib f (g e) = hits lib f e) : ∀ es : List EvA, hitP (es.map g) lib f = (hitP es lib f).map fun q => (g q.1, q.2)
  | [] => rfl
  | e :: es => by
    simp only [List.map_cons, hitP, hg]
    cases hits lib f e with
    | none => exact hitP_map hg es
    | some a => rfl
/-- Two units that differ in their opt-outs alone. -/
def sameNet (u v : US) : Prop := u.channel = v.channel ∧ u.frame = v.frame ∧ u.version = v.version ∧ u.item = v.item ∧ u.index = v.index ∧ u.key = v.key ∧ u.data = v.data ∧ u.regions = v.regions
theorem net_unit {es : List EvA} {lib : List AstA} {f : Int} (hal : ∀ e ∈ es, ∀ a ∈ e.al, a.1 ≠ 0) : sameNet (unitP (es.map reg255) lib f) (unitP (es.map bareE) lib f) ∧ (unitP (es.map bareE) lib f).regions = 255 ∧ (∀ r, itemP r (unitP (es.map bareE) lib f).al = none) ∧ itemP 0 (unitP (es.map reg255) lib f).al = none := by
  have g1 := hitP_map (lib := lib) (f := f) (g := reg255) (fun e => hits_ev rfl rfl rfl rfl) es
  have g2 := hitP_map (lib := lib) (f := f) (g := bareE) (fun e => hits_ev rfl rfl rfl rfl) es
  have n2 : ∀ r, itemP r (nextP f (es.map bareE)).al = none := by
    intro r
    unfold nextP
    cases he : nextE f (es.map bareE) with
    | none => simp [outP, POpt.zero, itemP]
    | some y =>
      obtain ⟨z, _, rfl⟩ := List.mem_map.1 (nextE_mem he).1
      simp [outP, bareE, itemP]
  have n1 : itemP 0 (nextP f (es.map reg255)).al = none := by
    unfold nextP
    cases he : nextE f (es.map reg255) with
    | none => simp [outP, POpt.zero, itemP]
    | some y =>
      obtain ⟨z, hz, rfl⟩ := List.mem_map.1 (nextE_mem he).1
      have := hal z hz
      simp only [outP, reg255]
      generalize z.al = al at this
      induction al with
      | nil => rfl
      | cons a al ih => simp only [itemP]; rw [if_neg (this a (List.mem_cons_self ..))]; exact ih fun b hb => this b (List.mem_cons_of_mem _ hb)
  unfold unitP
  rw [g1, g2]
  cases hitP es lib f with
  | none => exact ⟨⟨rfl, rfl, rfl, rfl, rfl, rfl, rfl, rfl⟩, rfl, fun r => rfl, rfl⟩
  | some q => exact ⟨⟨rfl, rfl, rfl, rfl, rfl, rfl, rfl, rfl⟩, rfl, n2, n1⟩
theorem net_feed {es : List EvA} {lib : List AstA} {gl : List Int} {n j : Nat} (hal : ∀ e ∈ es, ∀ a ∈ e.al, a.1 ≠ 0) (hj : j < n) :
    sameNet ((feedTo (es.map reg255) lib gl n).getD j (slateS 0)) ((feedTo (es.map bareE) lib gl n).getD j (slateS 0)) ∧ ((feedTo (es.map bareE) lib gl n).getD j (slateS 0)).regions = 255 ∧ (∀ r, itemP r ((feedTo (es.map bareE) lib gl n).getD j (slateS 0)).al = none) ∧ itemP 0 ((feedTo (es.map reg255) lib gl n).getD j (slateS 0)).al = none := by
  have e1 : ∀ es, (feedTo es lib gl n).getD j (slateS 0) = feedAt es lib gl j := fun es => by simp [feedTo, List.getD, hj]
  rw [e1, e1]
  unfold feedAt
  split
  · exact ⟨⟨rfl, rfl, rfl, rfl, rfl, rfl, rfl, rfl⟩, rfl, fun r => rfl, rfl⟩
  · exact net_unit hal
theorem endP_map {g : EvA → EvA} (hg : ∀ e, (g e).ev.start = e.ev.start ∧ (g e).ev.frames = e.ev.frames) (es : List EvA) : endP (es.map g) = endP es := by
  unfold endP
  rw [List.getLast?_map]
  cases es.getLast? with
  | none => rfl
  | some e => simp [hg]
/-! ### The steps -/
theorem enters_same {l l' : List AstA} (h : sameA l l') (f : Int) (p : P5) : entersP l f p = entersP l' f p := by
  have hf := findA_same h p.item
  unfold entersP
  cases h1 : findA p.item l with
  | none =>
    cases h2 : findA p.item l' with
    | none => rfl
    | some b => rw [h1, h2] at hf; cases hf
  | some a =>
    cases h2 : findA p.item l' with
    | none => rw [h1, h2] at hf; cases hf
    | some b =>
      rw [h1, h2] at hf
      simp only [Option.map_some, Option.some.injEq] at hf
      simp only [hf]
theorem may_same {l l' : List AstA} (h : sameA l l') {s s' : Sp} (h1 : s.full = s'.full) (h2 : s.last = s'.last) (p : P5) (ws : List Way) : mayP l s p ws = mayP l' s' p ws := by
  unfold mayP
  rw [h1]
  congr 2
  funext w
  cases w with
  | cont => simp only [Way.ok, h2]
  | ent => simp only [Way.ok, h1]; exact enters_same h _ _
theorem bit255 {r : Int} (h0 : 0 ≤ r) (h7 : r ≤ 7) : bitP 255 r = true := by
  have : r = 0 ∨ r = 1 ∨ r = 2 ∨ r = 3 ∨ r = 4 ∨ r = 5 ∨ r = 6 ∨ r = 7 := by omega
  rcases this with rfl | rfl | rfl | rfl | rfl | rfl | rfl | rfl <;> decide
theorem alt_none {k : SpK} {s : Sp} {u : UnitA} (h : itemP k.region u.al = none) : altP k s u = none := by
  unfold altP altAt
  rw [h]
/-- A unit without an opt-out for the region. -/
def netOut (st : List AstA) (f : Int) (l : P5) (u : UnitA) : P5 := if mayP st ⟨f, l, []⟩ (netP u) [.cont, .ent] = true then netP u else p5Z
theorem net_step {k : SpK} {s : Sp} {u : UnitA} (hch : u.channel = k.channel) (hn : itemP k.region u.al = none) (hr : u.regions = 255) (h0 : 0 ≤ k.region) (h7 : k.region ≤ 7) :
    (stepS k s u).1 = (if u.item = 0 then p5Z else netOut k.store s.full s.last u) ∧ (stepS k s u).2.1 = u.version ∧ (stepS k s u).2.2.full = (vstep s.full (stepS k s u).1.size).getD 0 ∧ (stepS k s u).2.2.last = (stepS k s u).1 := by
  unfold stepS
  rw [if_neg (by simp [hch])]
  split
  · exact ⟨rfl, rfl, rfl, rfl⟩
  · have hp : pickP k (s.noting k.region u) u = netOut k.store s.full s.last u := by
      unfold pickP
      rw [alt_none hn, hr, bit255 h0 h7, Bool.true_and]
      simp only
      unfold netOut
      rw [may_same (l := k.store) (l' := k.store) rfl (s := s.noting k.region u) (s' := ⟨s.full, s.last, []⟩) rfl rfl]
    refine ⟨hp, rfl, rfl, rfl⟩
/-- Two regions without opt-outs. -/
def twin (k : SpK) (s : Sp) (k' : SpK) (s' : Sp) : Prop := s.full = s'.full ∧ s.last = s'.last
theorem net_twin {k k' : SpK} {s s' : Sp} {u u' : UnitA} (ht : twin k s k' s') (hst : sameA k.store k'.store) (hch : u.channel = k.channel) (hch' : u'.channel = k'.channel) (hn : itemP k.region u.al = none) (hn' : itemP k'.region u'.al = none) (hr : u.regions = 255) (hr' : u'.regions = 255) (h0 : 0 ≤ k.region) (h7 : k.region ≤ 7) (h0' : 0 ≤ k'.region) (h7' : k'.region ≤ 7)
    (hv : u.version = u'.version) (hi : u.item = u'.item) (hp : netP u = netP u') : (stepS k s u).1 = (stepS k' s' u').1 ∧ (stepS k s u).2.1 = (stepS k' s' u').2.1 ∧ twin k (stepS k s u).2.2 k' (stepS k' s' u').2.2 := by
  obtain ⟨a1, a2, a3, a4⟩ := net_step (s := s) hch hn hr h0 h7
  obtain ⟨b1, b2, b3, b4⟩ := net_step (s := s') hch' hn' hr' h0' h7'
  have e : (stepS k s u).1 = (stepS k' s' u').1 := by
    rw [a1, b1, hi]
    unfold netOut
    rw [hp, ht.1, ht.2, may_same hst (s := ⟨s'.full, s'.last, []⟩) (s' := ⟨s'.full, s'.last, []⟩) rfl rfl]
  exact ⟨e, by rw [a2, b2, hv], by rw [a3, b3, e, ht.1], by rw [a4, b4, e]⟩
theorem net_shown {k : SpK} {s : Sp} {u : UnitA} (hch : u.channel = k.channel) (hn : itemP k.region u.al = none) (hr : u.regions = 255) (h0 : 0 ≤ k.region) (h7 : k.region ≤ 7) : (stepS k s u).1.item ≠ 0 → (stepS k s u).1.item = u.item ∧ (stepS k s u).1.index = u.index := by
  obtain ⟨a1, _⟩ := net_step (s := s) hch hn hr h0 h7
  rw [a1]
  split
  · intro h; exact absurd rfl h
  · unfold netOut
    split
    · intro _; exact ⟨rfl, rfl⟩
    · intro h; exact absurd rfl h
theorem same_trans {a b c : List AstA} (h1 : sameA a b) (h2 : sameA c b) : sameA a c := by
  unfold sameA at *
  exact h1.trans h2.symm
theorem evs_alts {L : List Pc} {l : List EvA} {m : Nat} (h : specE l = eventsTo L m) : ∀ e ∈ l, ∀ a ∈ e.al, a.1 ≠ 0 := by
  intro e he a ha
  have hmem : (e.ev, e.al) ∈ specE l := List.mem_map.2 ⟨e, he, rfl⟩
  rw [h] at hmem
  simp only [eventsTo, List.mem_map, List.mem_range] at hmem
  obtain ⟨i, hi, e1⟩ := hmem
  simp only [evSpec, Prod.mk.injEq] at e1
  rw [← e1.2] at ha
  unfold altsP at ha
  rcases List.mem_append.1 ha with ha | ha
  · split at ha
    · simp only [List.mem_singleton] at ha; subst ha; simp
    · cases ha
  · split at ha
    · simp only [List.mem_singleton] at ha; subst ha; simp
    · cases ha
end Go.Proofs.Ytpaepefpfaoacaa
