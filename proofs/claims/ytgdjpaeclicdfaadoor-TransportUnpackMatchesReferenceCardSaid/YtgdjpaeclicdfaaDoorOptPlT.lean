/- Plain laws of chapter 17: encodings of opt-outs; where Next lies. -/
import Derived.Test.YtgdjpaeclicdfaaDoorOptG
import Derived.Test.YtgdjpaeclicdfaaDoorOptC
namespace Go.Proofs.YtgdjpaeclicdfaaDoor
open Go.ChangeShapes Go.WideShapes Go.ChangeAt Go.RowKit
set_option linter.unusedVariables false

/-! ### Reading on a longer list -/
theorem rdInt_ext {l r : List UInt8} {k e : Nat} {n : Int} (hk : k ≤ l.length) (h : rdInt l k = some (n, e)) : rdInt (l ++ r) k = some (n, e) := by
  obtain ⟨h1, h2, h3, h4, h5⟩ := rdInt_canon hk h
  have e1 : l = l.take k ++ encInt n ++ l.drop e := by rw [List.append_assoc, ← h5, List.take_append_drop]
  have hl : (l.take k).length = k := by rw [List.length_take]; omega
  have := rdInt_enc (l.take k) (l.drop e ++ r) n h1 h2
  rw [hl] at this
  rw [h3, ← this]
  congr 1
  rw [← List.append_assoc, ← e1]
theorem rdN_ext {l r : List UInt8} : ∀ {m k e : Nat} {zs : List Int}, k ≤ l.length → rdN l m k = (zs, some e) → rdN (l ++ r) m k = (zs, some e) := by
  intro m
  induction m with
  | zero => intro k e zs _ h; simpa [rdN] using h
  | succ m ih =>
    intro k e zs hk h
    unfold rdN at h ⊢
    cases hr : rdInt l k with
    | none => rw [hr] at h; simp at h
    | some p =>
      obtain ⟨n, e1⟩ := p
      have hle := (rdInt_canon hk hr).2.2.2.1
      rw [rdInt_ext hk hr]
      rw [hr] at h
      simp only at h ⊢
      cases hq : rdN l m e1 with
      | mk zs' o =>
        rw [hq] at h
        simp only [Prod.mk.injEq] at h
        obtain ⟨rfl, rfl⟩ := h
        rw [ih hle hq]
theorem rdN_canon {l : List UInt8} : ∀ {m k e : Nat} {zs : List Int}, k ≤ l.length → rdN l m k = (zs, some e) → zs.length = m ∧ k ≤ e ∧ e ≤ l.length ∧ l.drop k = encInts zs ++ l.drop e := by
  intro m
  induction m with
  | zero => intro k e zs hk h; simp [rdN] at h; obtain ⟨rfl, rfl⟩ := h; exact ⟨rfl, Nat.le_refl _, hk, by simp [encInts]⟩
  | succ m ih =>
    intro k e zs hk h
    unfold rdN at h
    cases hr : rdInt l k with
    | none => rw [hr] at h; simp at h
    | some p =>
      obtain ⟨n, e1⟩ := p
      obtain ⟨_, _, h3, h4, h5⟩ := rdInt_canon hk hr
      rw [hr] at h
      simp only at h
      cases hq : rdN l m e1 with
      | mk zs' o =>
        rw [hq] at h
        simp only [Prod.mk.injEq] at h
        obtain ⟨rfl, rfl⟩ := h
        obtain ⟨g1, g2, g3, g4⟩ := ih h4 hq
        refine ⟨by simp [g1], by omega, g3, ?_⟩
        rw [h5, g4]
        simp [encInts]
theorem rdN_two {l : List UInt8} {k : Nat} {p : List Int × Option Nat} (h : rdN l 2 k = p) : (∃ r i e, p = ([r, i], some e)) ∨ p.2 = none := by
  obtain ⟨zs, o⟩ := p
  cases o with
  | none => exact .inr rfl
  | some e =>
    have hl := rdN_len l 2 k e (by rw [h])
    rw [h] at hl
    match zs, hl with
    | [r, i], _ => exact .inl ⟨r, i, e, rfl⟩
theorem rdAlts_ext {l r : List UInt8} : ∀ {m k e : Nat} {al : Alts}, k ≤ l.length → rdAlts l m k = some (al, e) → rdAlts (l ++ r) m k = some (al, e) := by
  intro m
  induction m with
  | zero => intro k e al _ h; simpa [rdAlts] using h
  | succ m ih =>
    intro k e al hk h
    unfold rdAlts at h ⊢
    rcases rdN_two (l := l) (k := k) rfl with ⟨a, i, e1, hp⟩ | hp
    · have hc := rdN_canon hk hp
      rw [rdN_ext hk hp]
      rw [hp] at h
      simp only [Option.map_eq_some_iff] at h ⊢
      obtain ⟨⟨al', e'⟩, hq, hx⟩ := h
      exact ⟨(al', e'), ih hc.2.2.1 hq, hx⟩
    · cases hq : rdN l 2 k with
      | mk zs o =>
        rw [hq] at h hp
        simp only at hp
        subst hp
        match zs with
        | [] => simp at h
        | [_] => simp at h
        | [_, _] => simp at h
        | _ :: _ :: _ :: _ => simp at h
theorem rdAlts_canon {l : List UInt8} : ∀ {m k e : Nat} {al : Alts}, k ≤ l.length → rdAlts l m k = some (al, e) → al.length = m ∧ e ≤ l.length ∧ l.drop k = encInts (flatA al) ++ l.drop e := by
  intro m
  induction m with
  | zero => intro k e al hk h; simp [rdAlts] at h; obtain ⟨rfl, rfl⟩ := h; exact ⟨rfl, hk, by simp [encInts, flatA]⟩
  | succ m ih =>
    intro k e al hk h
    unfold rdAlts at h
    rcases rdN_two (l := l) (k := k) rfl with ⟨a, i, e1, hp⟩ | hp
    · obtain ⟨_, _, g3, g4⟩ := rdN_canon hk hp
      rw [hp] at h
      simp only [Option.map_eq_some_iff] at h
      obtain ⟨⟨al', e'⟩, hq, hx⟩ := h
      simp only [Prod.mk.injEq] at hx
      obtain ⟨rfl, rfl⟩ := hx
      obtain ⟨j1, j2, j3⟩ := ih g3 hq
      refine ⟨by simp [j1], j2, ?_⟩
      rw [g4, j3, ← List.append_assoc, ← encInts_append]
      simp [flatA]
    · cases hq : rdN l 2 k with
      | mk zs o =>
        rw [hq] at h hp
        simp only at hp
        subst hp
        match zs with
        | [] => simp at h
        | [_] => simp at h
        | [_, _] => simp at h
        | _ :: _ :: _ :: _ => simp at h
/-! ### What was encoded is decoded -/
def InW (zs : List Int) : Prop := ∀ z ∈ zs, -wmax ≤ z ∧ z ≤ wmax
theorem rdN_enc : ∀ (zs : List Int) (p r : List UInt8), InW zs → rdN (p ++ encInts zs ++ r) zs.length p.length = (zs, some (p.length + (encInts zs).length)) := by
  intro zs
  induction zs with
  | nil => intro p r _; simp [rdN, encInts]
  | cons z zs ih =>
    intro p r h
    have hz := h z (List.mem_cons_self ..)
    have e1 : encInts (z :: zs) = encInt z ++ encInts zs := by simp [encInts]
    have h1 := rdInt_enc p (encInts zs ++ r) z hz.1 hz.2
    have e2 : p ++ encInts (z :: zs) ++ r = p ++ encInt z ++ (encInts zs ++ r) := by rw [e1]; simp
    have h2 := ih (p ++ encInt z) r (fun x hx => h x (List.mem_cons_of_mem _ hx))
    have e3 : p ++ encInts (z :: zs) ++ r = (p ++ encInt z) ++ encInts zs ++ r := by rw [e1]; simp
    simp only [List.length_cons, rdN]
    rw [e2, h1]
    simp only
    rw [← e2, e3]
    rw [List.length_append] at h2
    rw [h2, e1]
    simp
    omega
theorem rdAlts_enc : ∀ (al : Alts) (p r : List UInt8), InW (flatA al) → rdAlts (p ++ encInts (flatA al) ++ r) al.length p.length = some (al, p.length + (encInts (flatA al)).length) := by
  intro al
  induction al with
  | nil => intro p r _; simp [rdAlts, encInts, flatA]
  | cons a al ih =>
    intro p r h
    obtain ⟨x, i⟩ := a
    have e0 : flatA ((x, i) :: al) = [x, i] ++ flatA al := by simp [flatA]
    rw [e0] at h
    have e1 : encInts (flatA ((x, i) :: al)) = encInts [x, i] ++ encInts (flatA al) := by rw [e0, encInts_append]
    have h1 := rdN_enc [x, i] p (encInts (flatA al) ++ r) (fun z hz => h z (List.mem_append_left _ hz))
    have e2 : p ++ encInts (flatA ((x, i) :: al)) ++ r = p ++ encInts [x, i] ++ (encInts (flatA al) ++ r) := by rw [e1]; simp
    have h2 := ih (p ++ encInts [x, i]) r (fun z hz => h z (List.mem_append_right _ hz))
    have e3 : p ++ encInts (flatA ((x, i) :: al)) ++ r = (p ++ encInts [x, i]) ++ encInts (flatA al) ++ r := by rw [e1]; simp
    simp only [List.length_cons, rdAlts]
    rw [e2]
    simp only [List.length_cons, List.length_nil, Nat.zero_add, Nat.reduceAdd] at h1
    rw [h1]
    simp only
    rw [← e2, e3]
    rw [List.length_append] at h2
    rw [h2, e1]
    simp
    omega
theorem flat_inW {al : Alts} (h : ∀ a ∈ al, (0 ≤ a.1 ∧ a.1 ≤ 7) ∧ 1 ≤ a.2 ∧ a.2 ≤ 1000000) : InW (flatA al) := by
  intro z hz
  simp only [flatA, List.mem_flatMap] at hz
  obtain ⟨a, ha, hz⟩ := hz
  have := h a ha
  simp only [List.mem_cons, List.not_mem_nil, or_false] at hz
  unfold wmax
  rcases hz with rfl | rfl <;> omega
theorem dec_enc {s f : Int} {al : Alts} (h : validP s f al = true) : decP (encOpt s f al) = (⟨s, f, al⟩, 0) := by
  obtain ⟨h1, h2, h3, h4⟩ := valid_facts h
  have hw : InW [s, f, (al.length : Int)] := by
    intro z hz
    simp only [List.mem_cons, List.not_mem_nil, or_false] at hz
    unfold wmax
    rcases hz with rfl | rfl | rfl <;> omega
  have e1 : encOpt s f al = [] ++ encInts [s, f, (al.length : Int)] ++ encInts (flatA al) := by unfold encOpt; rw [encInts_append]; simp
  have r1 := rdN_enc [s, f, (al.length : Int)] [] (encInts (flatA al)) hw
  have r2 := rdAlts_enc al (encInts [s, f, (al.length : Int)]) [] (flat_inW h4)
  rw [← e1] at r1
  simp only [List.append_nil] at r2
  have e2 : encOpt s f al = encInts [s, f, (al.length : Int)] ++ encInts (flatA al) := by unfold encOpt; rw [encInts_append]
  rw [← e2] at r2
  unfold decP
  simp only [List.length_cons, List.length_nil, Nat.zero_add, Nat.reduceAdd] at r1
  rw [r1]
  simp only
  rw [if_neg (by omega)]
  simp only [Int.toNat_natCast]
  rw [r2]
  unfold finP
  simp only
  rw [if_neg (by rw [e2, List.length_append]; simp), if_pos h]
/-- What is decoded was encoded. -/
theorem dec_canon {l : List UInt8} {o : POpt} (h : decP l = (o, 0)) : validP o.s o.f o.al = true ∧ encOpt o.s o.f o.al = l := by
  unfold decP at h
  cases hq : rdN l 3 0 with
  | mk zs e =>
    rw [hq] at h
    match zs, e, h, hq with
    | [s, f, n], some k, h, hq =>
      obtain ⟨_, _, g3, g4⟩ := rdN_canon (Nat.zero_le _) hq
      simp only at h
      split at h
      · cases h
      · next hn =>
        cases hr : rdAlts l n.toNat k with
        | none => rw [hr] at h; simp [finP] at h
        | some p =>
          obtain ⟨al, e⟩ := p
          obtain ⟨j1, j2, j3⟩ := rdAlts_canon g3 hr
          rw [hr] at h
          simp only [finP] at h
          split at h
          · cases h
          · next he =>
            split at h
            · next hv =>
              simp only [Prod.mk.injEq, and_true] at h
              subst h
              refine ⟨hv, ?_⟩
              have he' : e = l.length := by simpa using he
              rw [j3, he', List.drop_length, List.append_nil] at g4
              simp only [List.drop_zero] at g4
              unfold encOpt
              rw [encInts_append, g4]
              congr 2
              simp only [List.cons.injEq, and_true, true_and]
              omega
            · cases h
    | [], _, h, _ => cases h
    | [_], _, h, _ => cases h
    | [_, _], _, h, _ => cases h
    | _ :: _ :: _ :: _ :: _, _, h, _ => cases h
    | [_, _, _], none, h, _ => cases h
theorem dec_codes (l : List UInt8) : (decP l).2 = 0 ∨ ((decP l).2 = 10 ∨ (decP l).2 = 170) ∧ (decP l).1 = .zero := by
  unfold decP
  split
  · split
    · exact .inr ⟨.inr rfl, rfl⟩
    · unfold finP
      split
      · exact .inr ⟨.inl rfl, rfl⟩
      · split
        · exact .inr ⟨.inl rfl, rfl⟩
        · split
          · exact .inl rfl
          · exact .inr ⟨.inr rfl, rfl⟩
  · exact .inr ⟨.inl rfl, rfl⟩
/-- No proper prefix is accepted. -/
theorem dec_pre {s f : Int} {al : Alts} (h : validP s f al = true) (m : Nat) (hm : m < (encOpt s f al).length) : (decP ((encOpt s f al).take m)).2 = 10 := by
  have hfull := dec_enc h
  obtain ⟨h1, h2, h3, h4⟩ := valid_facts h
  have e0 : encOpt s f al = (encOpt s f al).take m ++ (encOpt s f al).drop m := (List.take_append_drop _ _).symm
  have hl : ((encOpt s f al).take m).length = m := by rw [List.length_take]; omega
  generalize hp : (encOpt s f al).take m = p at *
  generalize (encOpt s f al).drop m = r at *
  unfold decP
  cases hq : rdN p 3 0 with
  | mk zs e =>
    match zs, e, hq with
    | [s', f', n], some k, hq =>
      have hq2 := rdN_ext (r := r) (Nat.zero_le _) hq
      obtain ⟨_, _, g3, g4⟩ := rdN_canon (Nat.zero_le _) hq
      rw [← e0] at hq2
      unfold decP at hfull
      rw [hq2] at hfull
      simp only at hfull ⊢
      split at hfull
      · cases hfull
      · next hn =>
        rw [if_neg hn]
        cases hr : rdAlts p n.toNat k with
        | none => rfl
        | some q =>
          obtain ⟨al', e⟩ := q
          have hr2 := rdAlts_ext (r := r) g3 hr
          obtain ⟨_, j2, _⟩ := rdAlts_canon g3 hr
          rw [← e0] at hr2
          rw [hr2] at hfull
          unfold finP at hfull ⊢
          simp only at hfull ⊢
          split at hfull
          · cases hfull
          · next he =>
            rw [if_pos (by omega)]
    | [], _, _ => rfl
    | [_], _, _ => rfl
    | [_, _], _, _ => rfl
    | _ :: _ :: _ :: _ :: _, _, _ => rfl
    | [_, _, _], none, _ => rfl
theorem enc_inj {s f t g : Int} {al bl : Alts} (h1 : validP s f al = true) (h2 : validP t g bl = true) : encOpt s f al = encOpt t g bl ↔ sameP s f al t g bl = true := by
  constructor
  · intro h
    have e1 := dec_enc h1
    rw [h, dec_enc h2] at e1
    simp only [Prod.mk.injEq, POpt.mk.injEq, and_true] at e1
    simp [sameP, e1]
  · intro h
    simp only [sameP, Bool.and_eq_true, beq_iff_eq, decide_eq_true_eq] at h
    obtain ⟨rfl, rfl, rfl⟩ := h
    rfl
/-! ### Where Next lies -/
end Go.Proofs.YtgdjpaeclicdfaaDoor
