/- Plain facts for SplicerTakes: an opt-out that is announced is taken, and goes on. -/
import Derived.Test.YtpaepefpfaoacaaSqF
namespace Go.Proofs.Ytpaepefpfaoacaa
open Go.ChangeShapes Go.WideShapes Go.ChangeAt Go.RowKit
set_option linter.unusedVariables false
set_option linter.unusedSimpArgs false

theorem need_cons {x n : Int} {l : List Int} {f : Int} (h : needOf (x :: l) = some n) (hf : n ≤ f) (h1 : f ≤ 1000) : ∃ g m, vstep f x = some g ∧ needOf l = some m ∧ m ≤ g := by
  have hb := needOf_bd h
  simp only [needOf] at h
  cases hl : needOf l with
  | none => rw [hl] at h; cases h
  | some m =>
    rw [hl] at h
    have hm := needOf_bd hl
    simp only [] at h
    split at h
    · cases h
    · cases h
      have e : vstep f x = some (min 1000 (f + 100) - x) := by
        unfold vstep
        rw [if_neg (by omega), if_neg (by omega)]
      exact ⟨_, m, e, rfl, by omega⟩
theorem sizes_getD {l : List PicA} {i : Nat} (h : i < l.length) : (sizesP l).getD i 0 = (l.getD i picZ).data.size := by
  simp [sizesP, List.getD, List.getElem?_eq_getElem h]
theorem alt_go {k : SpK} {s : Sp} {u : UnitA} {b : Int} {a : AstA} {n : Int} (hch : u.channel = k.channel) (hit : u.item ≠ 0) (hb : itemP k.region u.al = some b) (ha : findA b k.store = some a) (h1 : u.os ≤ u.frame) (h2 : u.frame - u.os < u.of) (h3 : u.of ≤ (a.pics.length : Int)) (hkey : (a.pics.getD 0 picZ).key = true)
    (hn : needOf ((sizesP a.pics).drop (u.frame - u.os).toNat) = some n) (hnf : n ≤ s.full) (hf : 0 ≤ s.full ∧ s.full ≤ 1000)
    (hway : (u.frame = u.os ∧ (notedP k.region s.noted u).any (Note.known u.frame) = true) ∨ (u.os < u.frame ∧ s.last.item = b ∧ s.last.index = u.frame - u.os - 1)) :
    (stepS k s u).1.item = b ∧ (stepS k s u).1.index = u.frame - u.os ∧ (stepS k s u).2.1 = u.version ∧ ∃ m, needOf ((sizesP a.pics).drop (u.frame - u.os + 1).toNat) = some m ∧ m ≤ (stepS k s u).2.2.full := by
  have hlen : (sizesP a.pics).length = a.pics.length := by simp [sizesP]
  rw [drop_at (d := 0) (by omega), sizes_getD (by omega)] at hn
  obtain ⟨g, m, hg, hm, hmg⟩ := need_cons hn hnf hf.2
  have hat : altAt k.region k.store u = some (⟨b, u.frame - u.os, (a.pics.getD (u.frame - u.os).toNat picZ).data.size, (a.pics.getD (u.frame - u.os).toNat picZ).key, true⟩, a.pics.length) := by
    unfold altAt
    simp only [hb, ha]
    rw [if_neg (by omega), if_neg (by omega)]
  have hok : altOk k.store ⟨s.full, s.last, notedP k.region s.noted u⟩ u ⟨b, u.frame - u.os, (a.pics.getD (u.frame - u.os).toNat picZ).data.size, (a.pics.getD (u.frame - u.os).toNat picZ).key, true⟩ a.pics.length = true := by
    unfold altOk mayP
    simp only [hg, Option.isSome_some, Bool.true_and]
    rcases hway with ⟨e, hk⟩ | ⟨e, e1, e2⟩
    · have e0 : u.frame - u.os = 0 := by omega
      have hent : entersP k.store s.full ⟨b, u.frame - u.os, (a.pics.getD (u.frame - u.os).toNat picZ).data.size, (a.pics.getD (u.frame - u.os).toNat picZ).key, true⟩ = true := by
        unfold entersP
        simp only [ha]
        have hd : needOf ((sizesP a.pics).drop (u.frame - u.os).toNat) = some n := by
          rw [drop_at (d := 0) (by omega), sizes_getD (by omega)]; exact hn
        have hk0 : (a.pics.getD (u.frame - u.os).toNat picZ).key = true := by rw [e0]; exact hkey
        rw [hd, hk0]
        simp only [Bool.true_and, Bool.and_eq_true, decide_eq_true_eq]
        omega
      have hz : ((u.frame - u.os) == 0) = true := by rw [e0]; rfl
      have h3' : decide (u.of ≤ (a.pics.length : Int)) = true := decide_eq_true h3
      simp only [List.any_cons, List.any_nil, Bool.or_false, Way.ok, hent, hz, h3', hk, Bool.true_and, Bool.true_or, Bool.or_true]
    · have hc : contP s.last ⟨b, u.frame - u.os, (a.pics.getD (u.frame - u.os).toNat picZ).data.size, (a.pics.getD (u.frame - u.os).toNat picZ).key, true⟩ = true := by
        unfold contP
        simp only [e1, e2, beq_self_eq_true, Bool.true_and, Bool.and_true, decide_eq_true_eq, Bool.and_eq_true]
        omega
      simp only [List.any_cons, List.any_nil, Bool.or_false, Way.ok, hc, Bool.true_or]
  have hp : altP k ⟨s.full, s.last, notedP k.region s.noted u⟩ u = some ⟨b, u.frame - u.os, (a.pics.getD (u.frame - u.os).toNat picZ).data.size, (a.pics.getD (u.frame - u.os).toNat picZ).key, true⟩ := by
    unfold altP
    rw [hat]
    simp only
    rw [if_pos hok]
  have hst := stepS_alt k s u hch hit rfl hp rfl rfl
  rw [hst]
  refine ⟨rfl, rfl, rfl, m, ?_, ?_⟩
  · rw [show (u.frame - u.os + 1).toNat = (u.frame - u.os).toNat + 1 by omega]; exact hm
  · simp only [Option.getD_some, Sp.shown]
    rw [hg]; exact hmg
/-! ### The feed's frames, and what is noted -/
theorem feed_fr {es : List EvA} {lib : List AstA} {gl : List Int} {n i : Nat} (h : i < n) : ((feedTo es lib gl n).getD i (slateS 0)).frame = i := by
  have e : (feedTo es lib gl n).getD i (slateS 0) = feedAt es lib gl i := by simp [feedTo, List.getD, h]
  rw [e]
  unfold feedAt
  split
  · rfl
  · unfold unitP
    split <;> rfl
def ofOk (us : List US) : Prop := ∀ u ∈ us, ∀ r a, itemP r u.al = some a → 0 < u.of
theorem feed_of {es : List EvA} {lib : List AstA} {gl : List Int} {n : Nat} (hb : ∀ e ∈ es, evBd e) : ofOk (feedTo es lib gl n) := by
  intro u hu r a ha
  simp only [feedTo, List.mem_map, List.mem_range] at hu
  obtain ⟨f, hf, rfl⟩ := hu
  unfold feedAt at ha ⊢
  split at ha
  · simp [slateS, itemP] at ha
  · rename_i hh
    rw [if_neg hh]
    unfold unitP at ha ⊢
    cases hq : hitP es lib ((f : Nat) : Int) with
    | none => rw [hq] at ha; simp [slateS, itemP] at ha
    | some q =>
      obtain ⟨e, x⟩ := q
      rw [hq] at ha
      simp only at ha ⊢
      unfold nextP at ha ⊢
      cases he : nextE ((f : Nat) : Int) es with
      | none => rw [he] at ha; simp [outP, POpt.zero, itemP] at ha
      | some y =>
        have := hb y (nextE_mem he).1
        unfold evBd at this
        simp only [outP]
        omega
theorem feed_obd {es : List EvA} {lib : List AstA} {gl : List Int} {n : Nat} (hb : ∀ e ∈ es, evBd e) : ∀ u ∈ feedTo es lib gl n, (0 ≤ u.os ∧ u.os ≤ 1000000) ∧ 0 ≤ u.of ∧ u.of ≤ 1000000 := by
  intro u hu
  simp only [feedTo, List.mem_map, List.mem_range] at hu
  obtain ⟨f, hf, rfl⟩ := hu
  unfold feedAt
  split
  · simp [slateS]
  · unfold unitP
    split
    · simp [slateS]
    · simp only
      cases he : nextE ((f : Nat) : Int) es with
      | none => simp [nextP, he, outP, POpt.zero]
      | some y =>
        have := hb y (nextE_mem he).1
        unfold evBd at this
        simp only [nextP, he, outP]
        omega
theorem stepS_noted (k : SpK) (s : Sp) (u : UnitA) : (stepS k s u).2.2.noted = s.noted ∨ (stepS k s u).2.2.noted = notedP k.region s.noted u := by
  unfold stepS
  split
  · exact .inl rfl
  · split
    · exact .inl rfl
    · exact .inr rfl
theorem stepS_note (k : SpK) (s : Sp) (u : UnitA) (h : u.channel = k.channel) (hi : u.item ≠ 0) : (stepS k s u).2.2.noted = notedP k.region s.noted u := by
  unfold stepS
  rw [if_neg (by simp [h]), if_neg hi]
theorem notedP_mem {r : Int} {l : List Note} {u : UnitA} {n : Note} (h : n ∈ notedP r l u) : n ∈ l ∨ n.frame = u.frame := by
  unfold notedP at h
  split at h
  · cases h
  · split at h
    · cases h
    · split at h
      · exact .inl h
      · simp only [List.mem_singleton] at h; subst h; exact .inr rfl
theorem note_frames {k : SpK} {us : List US} (hfr : ∀ i, i < us.length → (us.getD i (slateS 0)).frame = i) : ∀ j, j ≤ us.length → ∀ n ∈ (stAt k us j).noted, n.frame < j
  | 0, _, n, hn => by cases hn
  | j + 1, hj, n, hn => by
    have ih := note_frames (k := k) hfr j (by omega)
    have h2 : n ∈ (stAt k us j).noted ∨ n.frame = (us.getD j (slateS 0)).frame := by
      change n ∈ (stepS k (stAt k us j) (ofUS (us.getD j (slateS 0)))).2.2.noted at hn
      rcases stepS_noted k (stAt k us j) (ofUS (us.getD j (slateS 0))) with e | e
      · rw [e] at hn; exact .inl hn
      · rw [e] at hn; exact notedP_mem hn
    rcases h2 with h2 | h2
    · have := ih n h2; omega
    · rw [hfr j (by omega)] at h2; omega
/-- A note of the opt-out that is not younger than a frame. -/
def hasNote (S a F0 : Int) (l : List Note) : Prop := ∃ n ∈ l, n.same S a = true ∧ n.frame ≤ F0
theorem hasNote_keep {r S a F0 : Int} {l : List Note} {u : UnitA} (h : hasNote S a F0 l) (hi : itemP r u.al = some a) (hof : 0 < u.of) (hs : u.os = S) : hasNote S a F0 (notedP r l u) := by
  obtain ⟨n, hn, hn1, hn2⟩ := h
  rw [notedP_same hi (by omega) (List.any_eq_true.2 ⟨n, hn, by rw [hs]; exact hn1⟩)]
  exact ⟨n, hn, hn1, hn2⟩
theorem hasNote_new {r S a F0 : Int} {l : List Note} {u : UnitA} (hl : ∀ n ∈ l, n.frame ≤ F0) (hf : u.frame ≤ F0) (hi : itemP r u.al = some a) (hof : 0 < u.of) (hs : u.os = S) : hasNote S a F0 (notedP r l u) := by
  by_cases hx : l.any (Note.same u.os a) = true
  · rw [notedP_same hi (by omega) hx]
    obtain ⟨n, hn, hn1⟩ := List.any_eq_true.1 hx
    exact ⟨n, hn, by rw [← hs]; exact hn1, hl n hn⟩
  · rw [notedP_new hi (by omega) (by simpa using hx)]
    exact ⟨_, List.mem_singleton_self _, by simp [Note.same, hs], hf⟩
theorem hasNote_known {S a F0 f : Int} {l : List Note} (h : hasNote S a F0 l) (hf : F0 + 10 ≤ f) : l.any (Note.known f) = true := by
  obtain ⟨n, hn, _, hn2⟩ := h
  rw [List.any_eq_true]
  refine ⟨n, hn, ?_⟩
  unfold Note.known
  simp only [Bool.and_eq_true, decide_eq_true_eq]
  omega
/-- What the law asks of a unit before the opt-out. -/
def annU (r a i : Int) (u : US) : Prop := u.item ≠ 0 ∧ itemP r u.al = some a ∧ u.os = i
theorem note_run {k : SpK} {us : List US} {a : Int} {i : Nat} (hfr : ∀ j, j < us.length → (us.getD j (slateS 0)).frame = j) (hch : ∀ u ∈ us, u.channel = k.channel) (hof : ofOk us) (hi : i ≤ us.length) (h10 : 10 ≤ i)
    (h : ∀ q, i - 10 ≤ q → q < i → annU k.region a i (us.getD q (slateS 0))) : ∀ m, m < 10 → hasNote i a ((i - 10 : Nat) : Int) (stAt k us (i - 10 + m + 1)).noted
  | 0, _ => by
    obtain ⟨h1, h2, h3⟩ := h (i - 10) (by omega) (by omega)
    have hm := getD_memU (us := us) (j := i - 10) (by omega)
    show hasNote i a _ (stepS k (stAt k us (i - 10)) (ofUS (us.getD (i - 10) (slateS 0)))).2.2.noted
    rw [stepS_note k _ _ (hch _ hm) h1]
    refine hasNote_new (fun n hn => ?_) ?_ h2 (hof _ hm _ _ h2) h3
    · have := note_frames (k := k) hfr (i - 10) (by omega) n hn; omega
    · simp only [ofUS]; rw [hfr _ (by omega)]; omega
  | m + 1, hm10 => by
    have ih := note_run hfr hch hof hi h10 h m (by omega)
    obtain ⟨h1, h2, h3⟩ := h (i - 10 + m + 1) (by omega) (by omega)
    have hm := getD_memU (us := us) (j := i - 10 + m + 1) (by omega)
    show hasNote i a _ (stepS k (stAt k us (i - 10 + m + 1)) (ofUS (us.getD (i - 10 + m + 1) (slateS 0)))).2.2.noted
    rw [stepS_note k _ _ (hch _ hm) h1]
    exact hasNote_keep ih h2 (hof _ hm _ _ h2) h3
/-! ### What is taken -/
structure Tk where
  s : Int
  f : Int
  A : Option Addr
  c : Nat
  al : Alts
def tkZ : Tk := ⟨0, 0, none, 0, []⟩
/-- An opt-out that was taken, before the unit of frame j. -/
def TkOk (k : SpK) (us : List US) (j : Nat) (T : Tk) : Prop :=
  T.f ≠ 0 → ∃ b a n, itemP k.region T.al = some b ∧ findA b k.store = some a ∧ (a.pics.getD 0 picZ).key = true ∧ T.f ≤ (a.pics.length : Int) ∧ T.s < j ∧ (stAt k us j).last.item = b ∧ (stAt k us j).last.index = (j : Int) - T.s - 1 ∧ needOf ((sizesP a.pics).drop ((j : Int) - T.s).toNat) = some n ∧ n ≤ (stAt k us j).full
/-- What is to be shown at frame j if it goes on. -/
def TkGo (k : SpK) (us : List US) (j : Nat) (u : UnitA) (T : Tk) : Prop :=
  T.f ≠ 0 → u.item ≠ 0 → u.al = T.al → u.os = T.s → u.of = T.f → (j : Int) < T.s + T.f → ∀ b, itemP k.region T.al = some b →
    ((stepS k (stAt k us j) u).1.item = b ∧ (stepS k (stAt k us j) u).1.index = (j : Int) - T.s ∧ (stepS k (stAt k us j) u).2.1 = u.version) ∧ TkOk k us (j + 1) T
theorem tk_zero {k : SpK} {us : List US} {j : Nat} : TkOk k us j tkZ := fun h => absurd rfl h
theorem stAt_succ {k : SpK} {us : List US} {j : Nat} {u : UnitA} (hst : stepS k (stAt k us j) u = stU k (stAt k us j) (us.getD j (slateS 0))) : stAt k us (j + 1) = (stepS k (stAt k us j) u).2.2 := by rw [hst]; rfl
theorem stepS_last' (k : SpK) (s : Sp) (u : UnitA) : (stepS k s u).2.2.last = (stepS k s u).1 := by
  unfold stepS
  split
  · rfl
  · split <;> rfl
theorem tk_cont {k : SpK} {us : List US} {j : Nat} {u : UnitA} {T : Tk} (h : TkOk k us j T) (hst : stepS k (stAt k us j) u = stU k (stAt k us j) (us.getD j (slateS 0))) (hch : u.channel = k.channel) (hfr : u.frame = j) (hf : 0 ≤ (stAt k us j).full ∧ (stAt k us j).full ≤ 1000) : TkGo k us j u T := by
  intro h0 hit hal hos hof hlt b hb
  obtain ⟨b', a, n, h1, h2, h3, h4, h5, h6, h7, h8, h9⟩ := h h0
  rw [hb] at h1
  cases h1
  have hgo := alt_go (k := k) (s := stAt k us j) (u := u) (b := b) (a := a) (n := n) hch hit (by rw [hal]; exact hb) h2 (by omega) (by omega) (by omega) h3 (by rw [hfr, hos]; exact h8) h9 hf (.inr ⟨by omega, h6, by omega⟩)
  obtain ⟨g1, g2, g3, m, g4, g5⟩ := hgo
  have hs := stAt_succ hst
  refine ⟨⟨g1, by omega, g3⟩, fun _ => ⟨b, a, m, hb, h2, h3, h4, by omega, ?_, ?_, ?_, ?_⟩⟩
  · rw [hs, stepS_last']; exact g1
  · rw [hs, stepS_last', g2]; omega
  · rw [← g4]; congr 2; omega
  · rw [hs]; exact g5
theorem tk_ready {k : SpK} {us : List US} {j : Nat} {u : UnitA} {A : Option Addr} {c : Nat} {b : Int} {a : AstA} {n : Int} {lib : List AstA} (hst : stepS k (stAt k us j) u = stU k (stAt k us j) (us.getD j (slateS 0))) (hch : u.channel = k.channel) (hfr : u.frame = j) (hf : 0 ≤ (stAt k us j).full ∧ (stAt k us j).full ≤ 1000)
    (hs : sameA k.store lib) (hval : ∀ a ∈ lib, validA a.item a.pics = true) (hfrs : ∀ j, j < us.length → (us.getD j (slateS 0)).frame = j) (hchs : ∀ u ∈ us, u.channel = k.channel) (hofs : ofOk us) (hj : j < us.length)
    (hb : itemP k.region u.al = some b) (ha : findA b lib = some a) (hos : u.os = j) (h10 : (10 : Int) ≤ j) (hlen : u.of ≤ (a.pics.length : Int)) (hn : needOf (sizesP a.pics) = some n) (hnf : n ≤ (stAt k us j).full)
    (hann : ∀ q, j - 10 ≤ q → q < j → annU k.region b j (us.getD q (slateS 0))) : TkGo k us j u ⟨u.os, u.of, A, c, u.al⟩ := by
  intro h0 hit hal hos' hof hlt b' hb'
  have hkey : (a.pics.getD 0 picZ).key = true := by
    have := hval a (findA_mem ha).1
    unfold validA at this
    simp at this
    simpa [List.getD] using this.2.2.1
  have hsym : sameA lib k.store := by unfold sameA at *; exact hs.symm
  obtain ⟨a', ha', hpa⟩ := findA_some_same hsym ha
  cases hb.symm.trans hb'
  have hno := note_run (k := k) (a := b) (i := j) hfrs hchs hofs (by omega) (by omega) hann 9 (by omega)
  rw [show j - 10 + 9 + 1 = j by omega] at hno
  have hgo := alt_go (k := k) (s := stAt k us j) (u := u) (b := b) (a := a') (n := n) hch hit hb ha' (by omega) (by simp only at hlt; omega) (by rw [hpa]; omega) (by rw [hpa]; exact hkey)
    (by rw [hpa, show (u.frame - u.os).toNat = 0 by omega, List.drop_zero]; exact hn) hnf hf (.inl ⟨by omega, hasNote_known (hasNote_keep hno hb (by simp only at hlt; omega) hos) (by omega)⟩)
  obtain ⟨g1, g2, g3, m, g4, g5⟩ := hgo
  have hs' := stAt_succ hst
  refine ⟨⟨g1, by omega, g3⟩, fun _ => ⟨b, a', m, hb, ha', by rw [hpa]; exact hkey, by rw [hpa]; exact hlen, by simp only; omega, ?_, ?_, ?_, ?_⟩⟩
  · rw [hs', stepS_last']; exact g1
  · rw [hs', stepS_last', g2]; simp only; omega
  · rw [← g4]; congr 2; simp only; omega
  · rw [hs']; exact g5
end Go.Proofs.Ytpaepefpfaoacaa
