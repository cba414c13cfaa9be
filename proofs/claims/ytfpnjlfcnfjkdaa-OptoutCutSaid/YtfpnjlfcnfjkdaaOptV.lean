/- Plain laws of chapter 17: events one after the other. -/
import Derived.Test.YtfpnjlfcnfjkdaaOptU
namespace Go.Proofs.Ytfpnjlfcnfjkdaa
open Go.ChangeShapes Go.WideShapes Go.ChangeAt Go.RowKit
set_option linter.unusedVariables false

/-- Events one behind the other, each of one frame at least, with small Ins. -/
def Chain : Int → List EvA → Prop
  | _, [] => True
  | a, e :: l => a ≤ e.ev.start ∧ 1 ≤ e.ev.frames ∧ (0 ≤ e.ev.inn ∧ e.ev.inn ≤ 8) ∧ e.ev.start + e.ev.frames ≤ 1000 ∧ Chain (e.ev.start + e.ev.frames) l
theorem chain_mk (l : List PcA) : ∀ (i : Nat) (a : Int), 0 ≤ a → a + endOf l ≤ 1000 → Chain a (mkFrom i a l) := by
  induction l with
  | nil => intro i a _ _; trivial
  | cons p l ih =>
    intro i a h0 h1
    have hp := lenOf_bd p
    have hl := endOf_bd l
    have hi := innOf_bd a p h0
    simp only [endOf] at h1
    exact ⟨Int.le_refl _, hp.1, ⟨hi.1, hi.2.1⟩, by simp only [evOf]; omega, ih (i + 1) (a + lenOf p) (by omega) (by omega)⟩
theorem chain_mkEvs (l : List PcA) (h : l.length ≤ 12) : Chain 0 (mkEvs l) := chain_mk l 0 0 (Int.le_refl _) (by have := endOf_bd l; omega)
theorem Chain.mem {l : List EvA} : ∀ {a : Int}, Chain a l → ∀ e ∈ l, a ≤ e.ev.start ∧ 1 ≤ e.ev.frames ∧ (0 ≤ e.ev.inn ∧ e.ev.inn ≤ 8) ∧ e.ev.start + e.ev.frames ≤ 1000 := by
  induction l with
  | nil => intro a _ e he; cases he
  | cons d l ih =>
    intro a h e he
    obtain ⟨h1, h2, h3, h4, h5⟩ := h
    rcases List.mem_cons.1 he with rfl | he
    · exact ⟨h1, h2, h3, h4⟩
    · obtain ⟨g1, g2, g3, g4⟩ := ih h5 e he
      exact ⟨by omega, g2, g3, g4⟩
theorem placed_of {e : EvA} (h0 : 0 ≤ e.ev.start) (h1 : 1 ≤ e.ev.frames) (h2 : e.ev.start + e.ev.frames ≤ 1000) : e.ev.placed = true := by
  simp only [Ev.placed, spanBad, Bool.not_eq_true', Bool.or_eq_false_iff, decide_eq_false_iff_not]
  omega
theorem plac_all {l : List EvA} (h : Chain 0 l) : plac l = l := by
  unfold plac
  rw [List.filter_eq_self]
  intro e he
  obtain ⟨h1, h2, h3, h4⟩ := h.mem e he
  exact placed_of h1 h2 h4
def condE (fr : Int) (e : EvA) : Bool := e.outs && (e.takes fr || e.ev.runs fr)
/-- The first offer stays where later ones do not begin earlier. -/
theorem offers_first (fr : Int) (d : EvA) (hd : d.takes fr = true) : ∀ (l : List EvA), (∀ e ∈ l, e.takes fr = true → d.ev.start ≤ e.ev.start) → (l.filter (EvA.takes fr)).foldl offerP (some d) = some d := by
  intro l
  induction l with
  | nil => intro _; rfl
  | cons e l ih =>
    intro h
    by_cases he : e.takes fr = true
    · rw [List.filter_cons_of_pos he, List.foldl_cons]
      have h1 := h e (List.mem_cons_self ..) he
      simp only [EvA.takes, Bool.and_eq_true, beq_iff_eq] at hd he
      have : offerP (some d) e = some d := by
        simp only [offerP]
        rw [if_neg (by omega)]
      rw [this]
      exact ih (fun x hx => h x (List.mem_cons_of_mem _ hx))
    · rw [List.filter_cons_of_neg he]
      exact ih (fun x hx => h x (List.mem_cons_of_mem _ hx))
theorem ann_first (fr : Int) : ∀ (l : List EvA) (a : Int), Chain a l → annP fr (opts l) = l.find? (fun e => e.outs && e.takes fr) := by
  intro l
  induction l with
  | nil => intro a _; rfl
  | cons e l ih =>
    intro a h
    obtain ⟨h1, h2, h3, h4, h5⟩ := h
    by_cases ho : e.outs = true
    · by_cases ht : e.takes fr = true
      · rw [List.find?_cons_of_pos (by simp [ho, ht])]
        have e1 : opts (e :: l) = e :: opts l := by unfold opts; rw [List.filter_cons_of_pos ho]
        unfold annP
        rw [e1, List.filter_cons_of_pos ht, List.foldl_cons]
        refine offers_first fr e ht (opts l) (fun x hx _ => ?_)
        have := (h5.mem x (List.mem_filter.1 hx).1).1
        omega
      · rw [List.find?_cons_of_neg (by simp [ht])]
        rw [← ih _ h5]
        have e1 : opts (e :: l) = e :: opts l := by unfold opts; rw [List.filter_cons_of_pos ho]
        unfold annP
        rw [e1, List.filter_cons_of_neg ht]
    · rw [List.find?_cons_of_neg (by simp [ho])]
      rw [← ih _ h5]
      have e1 : opts (e :: l) = opts l := by unfold opts; rw [List.filter_cons_of_neg ho]
      rw [e1]
theorem late_norun {fr : Int} {l : List EvA} {a : Int} (h : Chain a l) (ha : fr < a) : (l.find? fun e => e.ev.runs fr) = none ∧ l.find? (condE fr) = l.find? (fun e => e.outs && e.takes fr) := by
  have hr : ∀ e ∈ l, e.ev.runs fr = false := fun e he => by
    have := (h.mem e he).1
    simp only [Ev.runs, Bool.and_eq_false_iff, decide_eq_false_iff_not]
    omega
  refine ⟨List.find?_eq_none.2 (fun e he => by simp [hr e he]), ?_⟩
  have : ∀ l : List EvA, (∀ e ∈ l, e.ev.runs fr = false) → l.find? (condE fr) = l.find? (fun e => e.outs && e.takes fr) := by
    intro l
    induction l with
    | nil => intro _; rfl
    | cons e l ih =>
      intro h
      have h1 := h e (List.mem_cons_self ..)
      have e1 : condE fr e = (e.outs && e.takes fr) := by simp [condE, h1]
      simp only [List.find?_cons, e1]
      rw [ih (fun x hx => h x (List.mem_cons_of_mem _ hx))]
  exact this l hr
theorem next_chain (fr : Int) : ∀ (l : List EvA) (a : Int), Chain a l → 0 ≤ a → nextE fr l = l.find? (condE fr) := by
  intro l
  induction l with
  | nil => intro a _ _; rfl
  | cons e l ih =>
    intro a h h0
    have hpl : plac (e :: l) = e :: l := by
      unfold plac
      rw [List.filter_eq_self]
      intro x hx
      obtain ⟨g1, g2, g3, g4⟩ := Chain.mem h x hx
      exact placed_of (by omega) g2 g4
    have hpl2 : plac l = l := by
      unfold plac
      rw [List.filter_eq_self]
      intro x hx
      obtain ⟨g1, g2, g3, g4⟩ := Chain.mem h x (List.mem_cons_of_mem _ hx)
      exact placed_of (by omega) g2 g4
    have hch := h
    obtain ⟨h1, h2, h3, h4, h5⟩ := h
    unfold nextE
    rw [hpl]
    by_cases hr : e.ev.runs fr = true
    · rw [List.find?_cons_of_pos (p := fun e => EvA.ev e |>.runs fr) hr]
      simp only
      by_cases ho : e.outs = true
      · rw [if_pos ho, List.find?_cons_of_pos (by simp [condE, ho, hr])]
      · rw [if_neg ho, List.find?_cons_of_neg (by simp [condE, ho])]
        have hlate : fr < e.ev.start + e.ev.frames := by
          simp only [Ev.runs, Bool.and_eq_true, decide_eq_true_eq] at hr
          exact hr.2
        rw [(late_norun h5 hlate).2, ← ann_first fr l _ h5]
        have e1 : opts (e :: l) = opts l := by unfold opts; rw [List.filter_cons_of_neg ho]
        rw [e1]
    · rw [List.find?_cons_of_neg (p := fun e => EvA.ev e |>.runs fr) hr]
      by_cases hs : fr < e.ev.start
      · have hl := late_norun (a := e.ev.start) (l := e :: l) ⟨Int.le_refl _, h2, h3, h4, h5⟩ hs
        rw [hl.2, ← ann_first fr (e :: l) a hch]
        have hl1 := hl.1
        rw [List.find?_cons_of_neg (p := fun e => EvA.ev e |>.runs fr) hr] at hl1
        rw [hl1]
      · have ht : e.takes fr = false := by
          simp only [EvA.takes, Ev.follows, Bool.and_eq_false_iff, decide_eq_false_iff_not]
          exact .inr (.inl hs)
        have hr' : e.ev.runs fr = false := by simpa using hr
        rw [List.find?_cons_of_neg (by simp [condE, ht, hr'])]
        rw [← ih _ h5 (by omega)]
        unfold nextE
        rw [hpl2]
        have e1 : annP fr (opts (e :: l)) = annP fr (opts l) := by
          by_cases ho : e.outs = true
          · have e1 : opts (e :: l) = e :: opts l := by unfold opts; rw [List.filter_cons_of_pos ho]
            unfold annP
            rw [e1, List.filter_cons_of_neg (by simp [ht])]
          · have e1 : opts (e :: l) = opts l := by unfold opts; rw [List.filter_cons_of_neg ho]
            rw [e1]
        rw [e1]
/-! ### An event cut in two -/
def cutA (e : EvA) (n : Int) : EvA := ⟨{ e.ev with frames := n }, e.A, e.c, e.al⟩
def cutB (e : EvA) (n : Int) : EvA := ⟨{ e.ev with start := e.ev.start + n, frames := e.ev.frames - n, inn := e.ev.inn + n }, e.A, e.c, e.al⟩
theorem cut_next (fr n : Int) (e : EvA) (pre post : List EvA) (h0 : 0 ≤ e.ev.start) (h1 : 1 ≤ n) (h2 : n < e.ev.frames) (h3 : 0 ≤ e.ev.inn ∧ e.ev.inn ≤ 8) (h4 : e.ev.start + e.ev.frames ≤ 1000) (hf : e.ev.start + n ≤ fr) :
    nextP fr (pre ++ [cutA e n, cutB e n] ++ post) = nextP fr (pre ++ [e] ++ post) := by
  have pe : e.ev.placed = true := placed_of h0 (by omega) h4
  have pa : (cutA e n).ev.placed = true := placed_of (by simp only [cutA]; omega) (by simp only [cutA]; omega) (by simp only [cutA]; omega)
  have pb : (cutB e n).ev.placed = true := placed_of (by simp only [cutB]; omega) (by simp only [cutB]; omega) (by simp only [cutB]; omega)
  have ra : (cutA e n).ev.runs fr = false := by
    show (decide (e.ev.start ≤ fr) && decide (fr < e.ev.start + n)) = false
    simp only [Bool.and_eq_false_iff, decide_eq_false_iff_not]
    omega
  have rb : (cutB e n).ev.runs fr = e.ev.runs fr := by
    show (decide (e.ev.start + n ≤ fr) && decide (fr < e.ev.start + n + (e.ev.frames - n))) = (decide (e.ev.start ≤ fr) && decide (fr < e.ev.start + e.ev.frames))
    rw [Bool.eq_iff_iff]
    simp only [Bool.and_eq_true, decide_eq_true_eq]
    omega
  have ta : (cutA e n).takes fr = false := by
    show (e.ev.inn == 0 && (decide (fr < e.ev.start) && decide (e.ev.start - 20 ≤ fr))) = false
    simp only [Bool.and_eq_false_iff, decide_eq_false_iff_not]
    exact .inr (.inl (by omega))
  have tb : (cutB e n).takes fr = false := by
    show (e.ev.inn + n == 0 && (decide (fr < e.ev.start + n) && decide (e.ev.start + n - 20 ≤ fr))) = false
    simp only [Bool.and_eq_false_iff, decide_eq_false_iff_not]
    exact .inr (.inl (by omega))
  have te : e.takes fr = false := by
    show (e.ev.inn == 0 && (decide (fr < e.ev.start) && decide (e.ev.start - 20 ≤ fr))) = false
    simp only [Bool.and_eq_false_iff, decide_eq_false_iff_not]
    exact .inr (.inl (by omega))
  have outb : outP (some (cutB e n)) = outP (some e) := by
    simp only [outP, cutB, POpt.mk.injEq, and_true]
    omega
  have ob : (cutB e n).outs = e.outs := by
    have i1 : (cutB e n).ev.inBad = false := by
      show (decide (e.ev.inn + n < 0) || decide (100000000 < e.ev.inn + n)) = false
      simp only [Bool.or_eq_false_iff, decide_eq_false_iff_not]
      omega
    have i2 : e.ev.inBad = false := by simp only [Ev.inBad, Bool.or_eq_false_iff, decide_eq_false_iff_not]; omega
    unfold EvA.outs
    rw [i1, i2]
    simp only [outP, POpt.mk.injEq] at outb
    rw [outb.1, outb.2.1, outb.2.2]
  have pl1 : plac (pre ++ [cutA e n, cutB e n] ++ post) = plac pre ++ [cutA e n, cutB e n] ++ plac post := by
    simp only [plac, List.filter_append, List.filter_cons, pa, pb, List.filter_nil, if_true]
  have pl2 : plac (pre ++ [e] ++ post) = plac pre ++ [e] ++ plac post := by
    simp only [plac, List.filter_append, List.filter_cons, pe, List.filter_nil, if_true]
  have ann : annP fr (opts (plac (pre ++ [cutA e n, cutB e n] ++ post))) = annP fr (opts (plac (pre ++ [e] ++ post))) := by
    rw [pl1, pl2]
    unfold annP opts
    congr 1
    simp only [List.filter_append, List.filter_filter]
    congr 2
    simp [ta, tb, te]
  unfold nextP nextE
  rw [ann, pl1, pl2]
  simp only [List.append_assoc, List.find?_append]
  cases hp : (plac pre).find? (fun e => e.ev.runs fr) with
  | some d => simp
  | none =>
    by_cases hr : e.ev.runs fr = true
    · simp [ra, rb, hr, ob]
      split
      · exact outb
      · rfl
    · have hr' : e.ev.runs fr = false := by simpa using hr
      simp [ra, rb, hr']
end Go.Proofs.Ytfpnjlfcnfjkdaa
