/- Plain facts: what a splicer shows of a feed. -/
import Derived.Test.YtpaepefpfaoacaaSqE
namespace Go.Proofs.Ytpaepefpfaoacaa
open Go.ChangeShapes Go.WideShapes Go.ChangeAt Go.RowKit
set_option linter.unusedVariables false
set_option linter.unusedSimpArgs false

/-- A picture that a file of the library has. -/
def PicOf (lib : List AstA) (p : P5) : Prop := ∃ a, findA p.item lib = some a ∧ 0 ≤ p.index ∧ p.index < (a.pics.length : Int) ∧ p.size = (a.pics.getD p.index.toNat picZ).data.size ∧ p.key = (a.pics.getD p.index.toNat picZ).key
theorem findA_same {l l' : List AstA} (h : sameA l l') (i : Int) : (findA i l).map AstA.pics = (findA i l').map AstA.pics := by
  induction l generalizing l' with
  | nil =>
    cases l' with
    | nil => rfl
    | cons a l' => simp [sameA] at h
  | cons a l ih =>
    cases l' with
    | nil => simp [sameA] at h
    | cons b l' =>
      simp only [sameA, List.map_cons, List.cons.injEq, Prod.mk.injEq] at h
      simp only [findA, h.1.1]
      split
      · simp [h.1.2]
      · exact ih h.2
theorem findA_some_same {l l' : List AstA} (h : sameA l l') {i : Int} {a : AstA} (ha : findA i l = some a) : ∃ b, findA i l' = some b ∧ b.pics = a.pics := by
  have := findA_same h i
  rw [ha] at this
  cases hb : findA i l' with
  | none => rw [hb] at this; cases this
  | some b => rw [hb] at this; simp at this; exact ⟨b, rfl, this.symm⟩
theorem findA_none_same {l l' : List AstA} (h : sameA l l') {i : Int} (ha : findA i l' = none) : findA i l = none := by
  have := findA_same h i
  rw [ha] at this
  cases hb : findA i l with
  | none => rfl
  | some b => rw [hb] at this; cases this
/-- What the alternative's picture is. -/
theorem altP_pic {k : SpK} {s : Sp} {u : UnitA} {p : P5} (h : altP k s u = some p) :
    (∃ n, altAt k.region k.store u = some (p, n) ∧ altOk k.store s u p n = true) ∧ PicOf k.store p ∧ p.alt = true ∧ itemP k.region u.al = some p.item ∧ p.index = u.frame - u.os ∧ p.index < u.of := by
  unfold altP at h
  cases ha : altAt k.region k.store u with
  | none => rw [ha] at h; cases h
  | some q =>
    obtain ⟨p', n⟩ := q
    rw [ha] at h
    simp only at h
    split at h
    · rename_i hok
      cases h
      refine ⟨⟨n, rfl, hok⟩, ?_⟩
      unfold altAt at ha
      split at ha
      · cases ha
      · rename_i it hit
        split at ha
        · cases ha
        · split at ha
          · cases ha
          · rename_i a hf
            split at ha
            · cases ha
            · cases ha
              exact ⟨⟨a, hf, by simp only; omega, by simp only; omega, rfl, rfl⟩, rfl, hit, rfl, by simp only; omega⟩
    · cases h
theorem mayP_some {st : List AstA} {s : Sp} {p : P5} {ws : List Way} (h : mayP st s p ws = true) : (vstep s.full p.size).isSome = true ∧ ws.any (Way.ok st s p) = true := by
  simpa [mayP] using h
theorem way_ok {st : List AstA} {s : Sp} {p : P5} {ws : List Way} (h : ws.any (Way.ok st s p) = true) : p.key = true ∨ (p.item = s.last.item ∧ p.index = s.last.index + 1) := by
  rw [List.any_eq_true] at h
  obtain ⟨w, _, hw⟩ := h
  cases w with
  | cont =>
    simp only [Way.ok, contP, Bool.and_eq_true, beq_iff_eq, decide_eq_true_eq] at hw
    exact .inr ⟨hw.1, by omega⟩
  | ent =>
    simp only [Way.ok, entersP] at hw
    split at hw
    · cases hw
    · simp only [Bool.and_eq_true] at hw
      exact .inl hw.1
theorem altOk_may {st : List AstA} {s : Sp} {u : UnitA} {p : P5} {n : Nat} (h : altOk st s u p n = true) : mayP st s p [.cont] = true ∨ (p.index = 0 ∧ u.of ≤ n ∧ mayP st s p [.ent] = true) := by
  unfold altOk at h
  simp only [Bool.or_eq_true, Bool.and_eq_true, beq_iff_eq, decide_eq_true_eq] at h
  rcases h with h | ⟨h1, h2, h3, _⟩
  · exact .inl h
  · exact .inr ⟨h1, h2, h3⟩
theorem vstep_slate {f : Int} (h : 0 ≤ f ∧ f ≤ 1000) : (vstep f 0).isSome = true := by
  unfold vstep
  rw [if_neg (by omega), if_neg (by omega)]
  rfl
theorem vstep_bd' {f s g : Int} (h : vstep f s = some g) : 0 ≤ g ∧ g ≤ 1000 := by
  unfold vstep at h
  split at h
  · cases h
  · split at h
    · cases h
    · cases h; omega
/-- What is shown: nothing, the alternative's picture, or the network's. -/
theorem pickP_cases (k : SpK) (s : Sp) (u : UnitA) : (pickP k s u = p5Z ∧ altP k s u = none) ∨ (∃ p, altP k s u = some p ∧ pickP k s u = p) ∨ (altP k s u = none ∧ pickP k s u = netP u ∧ bitP u.regions k.region = true ∧ mayP k.store s (netP u) [.cont, .ent] = true) := by
  unfold pickP
  cases ha : altP k s u with
  | some p => exact .inr (.inl ⟨p, rfl, rfl⟩)
  | none =>
    simp only
    split
    · rename_i h
      simp only [Bool.and_eq_true] at h
      exact .inr (.inr ⟨(by trivial), (by trivial), h⟩)
    · exact .inl ⟨(by trivial), (by trivial)⟩
theorem shown_ok {k : SpK} {s : Sp} {u : UnitA} {lib : List AstA} (hs : sameA k.store lib) (hu : u.item ≠ 0 → PicOf lib (netP u)) (hz : findA 0 lib = none) (hf : 0 ≤ s.full ∧ s.full ≤ 1000) :
    ((stepS k s u).1.item ≠ 0 → PicOf lib (stepS k s u).1 ∧ ((stepS k s u).1.key = true ∨ ((stepS k s u).1.item = s.last.item ∧ (stepS k s u).1.index = s.last.index + 1))) ∧ ((stepS k s u).1.item = 0 → (stepS k s u).1 = p5Z) ∧
    (vstep s.full (stepS k s u).1.size).isSome = true ∧ (stepS k s u).2.2.full = (vstep s.full (stepS k s u).1.size).getD 0 ∧ (stepS k s u).2.2.last = (stepS k s u).1 := by
  unfold stepS
  split
  · exact ⟨fun h => absurd rfl h, fun _ => rfl, vstep_slate hf, (by trivial), (by trivial)⟩
  · split
    · exact ⟨fun h => absurd rfl h, fun _ => rfl, vstep_slate hf, (by trivial), (by trivial)⟩
    · rename_i hit
      simp only
      rcases pickP_cases k (s.noting k.region u) u with ⟨h, _⟩ | ⟨p, ha, h⟩ | ⟨_, h, _, hm⟩
      · rw [h]
        exact ⟨fun h => absurd rfl h, fun _ => rfl, vstep_slate hf, (by trivial), (by trivial)⟩
      · rw [h]
        obtain ⟨⟨n, _, hok⟩, ⟨a, hp1, hp2⟩, _⟩ := altP_pic ha
        have hm : (vstep s.full p.size).isSome = true ∧ (p.key = true ∨ (p.item = s.last.item ∧ p.index = s.last.index + 1)) := by
          rcases altOk_may hok with hm | ⟨_, _, hm⟩
          · exact ⟨(mayP_some hm).1, way_ok (mayP_some hm).2⟩
          · exact ⟨(mayP_some hm).1, way_ok (mayP_some hm).2⟩
        obtain ⟨b, hb, hbp⟩ := findA_some_same hs hp1
        refine ⟨fun _ => ⟨⟨b, hb, by rw [hbp]; exact hp2⟩, hm.2⟩, fun h0 => ?_, hm.1, (by trivial), (by trivial)⟩
        rw [h0, findA_none_same hs hz] at hp1
        cases hp1
      · rw [h]
        exact ⟨fun _ => ⟨hu hit, way_ok (mayP_some hm).2⟩, fun h0 => absurd h0 hit, (mayP_some hm).1, (by trivial), (by trivial)⟩
/-! ### The run over a feed -/
def ofUS (u : US) : UnitA := ⟨u.channel, u.frame, u.version, u.item, u.index, u.key, u.data, u.regions, 0, ByteArray.mk #[], u.os, u.of, none, 0, u.al⟩
abbrev stU (k : SpK) (s : Sp) (u : US) : P5 × Int × Sp := stepS k s (ofUS u)
def spZ : Sp := ⟨500, p5Z, []⟩
def stAt (k : SpK) (us : List US) : Nat → Sp
  | 0 => spZ
  | j + 1 => (stU k (stAt k us j) (us.getD j (slateS 0))).2.2
theorem stS_eq {k : SpK} {s : Sp} {us : List US} {j : Nat} {ul : List UnitA} {u : UnitA} (h : ul.map UnitA.spec = us) (hj : j < ul.length) (hu : ul.getD j (slateA 0) = u) : stepS k s u = stU k s (us.getD j (slateS 0)) := by
  refine stepS_spec ?_
  subst h
  subst hu
  simp [List.getD, List.getElem?_eq_getElem hj, UnitA.spec, ofUS]
/-- What every unit of a feed is. -/
def FeedOk (lib : List AstA) (us : List US) : Prop := ∀ u ∈ us, (u.item ≠ 0 → PicOf lib (netP (ofUS u))) ∧ (0 ≤ u.index ∧ u.index ≤ 2000000) ∧ (0 ≤ u.frame ∧ u.frame ≤ 1000000) ∧ u.channel = 0
theorem unitP_ok {es : List EvA} {lib : List AstA} {f : Int} (hl : ∀ a ∈ lib, a.pics.length ≤ 2000000) (hb : ∀ e ∈ es, evBd e) (hf : 0 ≤ f ∧ f ≤ 1000000) : ((unitP es lib f).item ≠ 0 → PicOf lib (netP (ofUS (unitP es lib f)))) ∧ (0 ≤ (unitP es lib f).index ∧ (unitP es lib f).index ≤ 2000000) ∧ (0 ≤ (unitP es lib f).frame ∧ (unitP es lib f).frame ≤ 1000000) ∧ (unitP es lib f).channel = 0 := by
  unfold unitP
  cases hh : hitP es lib f with
  | none => exact ⟨fun h => absurd rfl h, by simp [slateS], by simp only [slateS]; exact hf, rfl⟩
  | some q =>
    obtain ⟨e, a⟩ := q
    have key : ∀ es : List EvA, hitP es lib f = some (e, a) → e ∈ es ∧ hits lib f e = some a := by
      intro es
      induction es with
      | nil => intro h; cases h
      | cons x es ih =>
        intro h
        simp only [hitP] at h
        split at h
        · cases h; exact ⟨List.mem_cons_self .., by assumption⟩
        · exact ⟨List.mem_cons_of_mem _ (ih h).1, (ih h).2⟩
    obtain ⟨hm, hx⟩ := key es hh
    have hbe := hb e hm
    unfold evBd at hbe
    unfold hits at hx
    split at hx
    · cases hx
    · rename_i a' hfa
      split at hx
      · rename_i hc
        cases hx
        have hla := hl a (findA_mem hfa).1
        exact ⟨fun _ => ⟨a, hfa, by simp only [ofUS]; omega, by simp only [ofUS]; omega, rfl, rfl⟩, by simp only; omega, by simp only; omega, rfl⟩
      · cases hx
theorem feedTo_ok {es : List EvA} {lib : List AstA} {gl : List Int} {n : Nat} (hl : ∀ a ∈ lib, a.pics.length ≤ 2000000) (hb : ∀ e ∈ es, evBd e) (hn : n ≤ 1000000) : FeedOk lib (feedTo es lib gl n) := by
  intro u hu
  simp only [feedTo, List.mem_map, List.mem_range] at hu
  obtain ⟨f, hf, rfl⟩ := hu
  unfold feedAt
  split
  · exact ⟨fun h => absurd rfl h, by simp [slateS], by simp only [slateS]; omega, rfl⟩
  · exact unitP_ok hl hb (by omega)
theorem getD_memU {us : List US} {j : Nat} (hj : j < us.length) : us.getD j (slateS 0) ∈ us := by
  simp [List.getD, List.getElem?_eq_getElem hj]
theorem stAt_ok {k : SpK} {us : List US} {lib : List AstA} (hs : sameA k.store lib) (hu : FeedOk lib us) (hz : findA 0 lib = none) (hl : ∀ a ∈ lib, a.pics.length ≤ 2000000) : ∀ j, j ≤ us.length → (0 ≤ (stAt k us j).full ∧ (stAt k us j).full ≤ 1000) ∧ (stAt k us j).inv ∧ 0 ≤ (stAt k us j).last.index ∧ (stAt k us j).last.index ≤ 2000000
  | 0, _ => ⟨by simp [stAt, spZ], ⟨by simp [stAt, spZ, p5Z], fun _ h => by cases h⟩, by simp [stAt, spZ, p5Z], by simp [stAt, spZ, p5Z]⟩
  | j + 1, hj => by
    obtain ⟨h1, h2, h3, h4⟩ := stAt_ok hs hu hz hl j (by omega)
    have hm := hu _ (getD_memU (show j < us.length by omega))
    have hsh := shown_ok (k := k) (s := stAt k us j) (u := ofUS (us.getD j (slateS 0))) hs hm.1 hz h1
    have h5 : (stAt k us (j + 1)) = (stU k (stAt k us j) (us.getD j (slateS 0))).2.2 := rfl
    rw [h5]
    obtain ⟨a1, a2, a3, a4, a5⟩ := hsh
    refine ⟨?_, stepS_inv h2 (by simp only [ofUS]; omega) (by simp only [ofUS]; omega), ?_⟩
    · rw [a4]
      cases hv : vstep (stAt k us j).full (stepS k (stAt k us j) (ofUS (us.getD j (slateS 0)))).1.size with
      | none => rw [hv] at a3; cases a3
      | some g => exact vstep_bd' hv
    · rw [a5]
      by_cases h0 : (stepS k (stAt k us j) (ofUS (us.getD j (slateS 0)))).1.item = 0
      · rw [a2 h0]; simp [p5Z]
      · obtain ⟨⟨a, ha, hp1, hp2, _⟩, _⟩ := a1 h0
        have := hl a (findA_mem ha).1
        omega
/-! ### The library -/
theorem spec_find {X : Nat → Int} {l : List AstA} (h : specA l = libTo X 5) : findA 0 l = none ∧ (∀ a ∈ l, a.pics.length ≤ 2000000) ∧ ∀ a ∈ l, validA a.item a.pics = true := by
  have key : ∀ a ∈ l, ∃ i, i < 5 ∧ (a.item, a.pics) = libAt X i := by
    intro a ha
    have : (a.item, a.pics) ∈ specA l := List.mem_map.2 ⟨a, ha, rfl⟩
    rw [h] at this
    simp only [libTo, List.mem_map, List.mem_range] at this
    obtain ⟨i, hi, e⟩ := this
    exact ⟨i, hi, e.symm⟩
  have hlen : ∀ a ∈ l, 1 ≤ a.pics.length ∧ a.pics.length ≤ 40 ∧ 1 ≤ a.item ∧ a.item ≤ 5 ∧ ∃ K Y R n, a.pics = filePics K Y R n ∧ 1 ≤ K ∧ Y ≤ 400 ∧ R ≤ 159 ∧ 1 ≤ n ∧ n ≤ 40 := by
    intro a ha
    obtain ⟨i, hi, e⟩ := key a ha
    simp only [libAt, Prod.mk.injEq] at e
    have h1 := pickN_lt (X (4 * i)) 40 (by omega)
    have h2 := pickN_lt (X (4 * i + 2)) 401 (by omega)
    have h3 := pickN_lt (X (4 * i + 3)) 160 (by omega)
    rw [e.2, filePics_len]
    refine ⟨by omega, by omega, by omega, by omega, _, _, _, _, rfl, by omega, by omega, by omega, by omega, by omega⟩
  refine ⟨?_, fun a ha => by have := hlen a ha; omega, fun a ha => ?_⟩
  · cases hf : findA 0 l with
    | none => rfl
    | some a =>
      obtain ⟨hm, hi⟩ := findA_mem hf
      have := hlen a hm
      omega
  · obtain ⟨h1, h2, h3, h4, K, Y, R, n, hp, hK, hY, hR, hn1, hn2⟩ := hlen a ha
    have hb : a.pics.all (fun p => !picBad p) = true := by
      rw [List.all_eq_true]
      intro p hpm
      rw [hp] at hpm
      simp only [filePics, List.mem_map, List.mem_range] at hpm
      obtain ⟨i, _, rfl⟩ := hpm
      simp only [picBad, picAt, zeroS_size]
      split <;> simp <;> omega
    have hk : (a.pics.getD 0 picZ).key = true := by
      rw [hp]
      cases n with
      | zero => omega
      | succ n => simp [filePics, List.range_succ_eq_map, picAt]
    have e1 : decide (a.item < 1) = false := by rw [decide_eq_false_iff_not]; omega
    have e2 : decide (4611686018427387903 < a.item) = false := by rw [decide_eq_false_iff_not]; omega
    have e3 : decide (a.pics.length < 1) = false := by rw [decide_eq_false_iff_not]; omega
    have e4 : decide (2000 < a.pics.length) = false := by rw [decide_eq_false_iff_not]; omega
    unfold validA
    rw [hb, hk, e1, e2, e3, e4]
    rfl
theorem evs_bd {L : List Pc} {l : List EvA} {m : Nat} (h : specE l = eventsTo L m) (hm : m ≤ 10) (hL : m ≤ L.length) : (∀ e ∈ l, evBd e ∧ e.ev.start + e.ev.frames ≤ 400 ∧ e.al.length ≤ 2) ∧ (0 ≤ endP l ∧ endP l ≤ 1000000) := by
  have hst : ∀ j, j ≤ m → 0 ≤ startAt L j ∧ startAt L j ≤ 40 * j := by
    intro j
    induction j with
    | zero => intro _; simp [startAt]
    | succ j ih =>
      intro hj
      have := ih (by omega)
      rw [startAt_succ (by omega)]
      have := pickI_lt (L.getD j pcZ).frames 40 (by omega)
      omega
  have key : ∀ e ∈ l, evBd e ∧ e.ev.start + e.ev.frames ≤ 400 ∧ e.al.length ≤ 2 := by
    intro e he
    have hmem : (e.ev, e.al) ∈ specE l := List.mem_map.2 ⟨e, he, rfl⟩
    rw [h] at hmem
    simp only [eventsTo, List.mem_map, List.mem_range] at hmem
    obtain ⟨i, hi, e1⟩ := hmem
    simp only [evSpec, Prod.mk.injEq] at e1
    have h1 := hst i (by omega)
    have h2 := pickI_lt (L.getD i pcZ).frames 40 (by omega)
    have h3 := pickI_lt (L.getD i pcZ).regions 4 (by omega)
    have hal : e.al.length ≤ 2 := by
      rw [← e1.2]
      unfold altsP
      split <;> split <;> simp
    have s1 : e.ev.start = startAt L i := by rw [← e1.1]
    have s2 : e.ev.frames = 1 + pickI (L.getD i pcZ).frames 40 := by rw [← e1.1]
    have s3 : e.ev.inn = 0 := by rw [← e1.1]
    have s4 : e.ev.regions = 255 - 2 * pickI (L.getD i pcZ).regions 4 := by rw [← e1.1]
    clear e1
    unfold evBd
    omega
  refine ⟨key, ?_⟩
  unfold endP
  cases hl : l.getLast? with
  | none => simp
  | some e =>
    have := key e (List.mem_of_getLast? hl)
    obtain ⟨h1, h2, _⟩ := this
    unfold evBd at h1
    simp only
    omega
end Go.Proofs.Ytpaepefpfaoacaa
