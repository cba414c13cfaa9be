/- Contract of New. -/
import Derived.Test.YtpaepefpfaoacaaSpM
import Derived.Test.YtpaepefpfaoacaaSymA
namespace Go.Proofs.Ytpaepefpfaoacaa
open Go.ChangeShapes Go.WideShapes Go.ChangeAt Go.RowKit
set_option linter.unusedVariables false
set_option linter.unusedSimpArgs false

def astOk (a : AstA) (w : World) : Prop := a.ok w
def astFp (a : AstA) (k : Nat) : Prop := rowFp a.pics.length a.A k
theorem elOk_ast : ElOk astOk astFp := fun _ _ _ h hk hs => ⟨⟨h.1.1, h.1.2.keep hk hs⟩, h.2⟩
/-- The same files, wherever they lie. -/
def sameA (l l' : List AstA) : Prop := (l.map fun a => (a.item, a.pics)) = l'.map fun a => (a.item, a.pics)
theorem sameA_snoc {l l' : List AstA} {X : AstA} {B : Option Addr} {d : Nat} (h : sameA l l') : sameA (l ++ [⟨X.item, B, d, X.pics⟩]) (l' ++ [X]) := by
  unfold sameA at *
  simp [h]
theorem sameA_mem {l l' : List AstA} (h : sameA l l') {a : AstA} (ha : a ∈ l) : ∃ a0 ∈ l', a.item = a0.item ∧ a.pics = a0.pics := by
  unfold sameA at h
  have hm : (a.item, a.pics) ∈ l.map fun a => (a.item, a.pics) := List.mem_map.2 ⟨a, ha, rfl⟩
  rw [h] at hm
  obtain ⟨a0, h0, e⟩ := List.mem_map.1 hm
  simp only [Prod.mk.injEq] at e
  exact ⟨a0, h0, e.1.symm, e.2.symm⟩
theorem not_is_true_eq {b : Bool} (h : b = false) : b = false := h
theorem not_is_false_eq {b : Bool} (h : b = true) : b = true := h
def newOk (ch r : Int) (l : List AstA) : Bool := decide (0 ≤ ch) && (decide (ch < 40) && (decide (0 ≤ r) && (decide (r < 8) && l.all fun a => validA a.item a.pics)))
theorem newOk_bad {ch r : Int} {l : List AstA} {X : AstA} (hm : X ∈ l) (h : validA X.item X.pics = false) : newOk ch r l = false := by
  unfold newOk
  have : (l.all fun a => validA a.item a.pics) = false := by
    rw [List.all_eq_false]
    exact ⟨X, hm, by simp [h]⟩
  simp [this]
/-- What New returns. -/
def RetNew (ch r : Int) (l : List AstA) (w : World) (e : Ending) (w' : World) : Prop :=
  (newOk ch r l = false ∧ e = .returned (.tuple #[.pointer none, .int .i64 230]) ∧ Below w.heap.size w w') ∨
  (newOk ch r l = true ∧ ∃ b k, e = .returned (.tuple #[.pointer (some ⟨b, 0, none⟩), .int .i64 0]) ∧ SpN w' b k ⟨500, p5Z, []⟩ none 0 ∧ k.channel = ch ∧ k.region = r ∧ sameA k.store l ∧ Below w.heap.size w w' ∧ ∀ j, splFp b k ⟨500, p5Z, []⟩ none j → w.heap.size ≤ j)
theorem new_end {w w' : World} {bS j : Nat} {ch r : Int} {SA : Option Addr} {sc : Nat} {l l' : List AstA} {L : List HB} {x : HB} (HP : Hp w w' L []) (hL : L = [x, bx bS 76 (spCells ⟨ch, r, l', SA, sc⟩ ⟨500, p5Z, []⟩ none 0).toList true]) (hx : x = rowsR w.heap.size 49 2 AstA.cells astOk astFp (.slice SA l'.length sc) l')
    (h1 : 0 ≤ ch) (h2 : ch < 40) (h3 : 0 ≤ r) (h4 : r < 8) (hn : l.length ≤ j ∧ j ≤ 1000000) (hll : l'.length = j) (hsame : sameA l' (l.take j)) (hval : ∀ a ∈ l.take j, validA a.item a.pics = true) (hacc : ∀ a ∈ l', a.pics.length ≤ 2000000) :
    newOk ch r l = true ∧ ∃ b k, Ending.returned (.tuple #[.pointer (some ⟨bS, 0, none⟩), .int .i64 0]) = .returned (.tuple #[.pointer (some ⟨b, 0, none⟩), .int .i64 0]) ∧ SpN w' b k ⟨500, p5Z, []⟩ none 0 ∧ k.channel = ch ∧ k.region = r ∧ sameA k.store l ∧ Below w.heap.size w w' ∧ ∀ j, splFp b k ⟨500, p5Z, []⟩ none j → w.heap.size ≤ j := by
  subst hL
  subst hx
  have ht : l.take j = l := List.take_of_length_le hn.1
  rw [ht] at hsame hval
  have hF := HP.held 0 rfl
  have hap := pairwise_at HP.apart (i := 0) (j := 1) rfl rfl (by omega)
  have hrow : ∀ b off, SA = some ⟨b, off, none⟩ → (Value.slice SA l'.length sc).ownBlock = some b := fun b off e => by rw [e]; rfl
  refine ⟨?_, bS, ⟨ch, r, l', SA, sc⟩, rfl, ⟨HP.at_ 1 rfl, IsRow.nil _ _, (fun _ _ e => by cases e), ⟨⟨rfl, Rd.of_own hF.1⟩, fun a ha => (hF.2 a ha).1⟩, ?_, ?_, ?_, hacc, by simp⟩, rfl, rfl, hsame, HP.below rfl, ?_⟩
  · unfold newOk
    have : (l.all fun a => validA a.item a.pics) = true := List.all_eq_true.2 fun a ha => hval a ha
    simp [this, h1, h2, h3, h4]
  · intro b' off e e'
    exact hap b' (.inl (hrow b' off e)) e'
  · intro a ha b' off e e'
    have hz : 0 < a.pics.length := by
      obtain ⟨a0, h0, h5, h6⟩ := sameA_mem hsame ha
      have hv := hval a0 h0
      rw [h6]
      cases hq : a0.pics with
      | nil => rw [hq] at hv; simp [validA] at hv
      | cons _ _ => simp
    exact hap b' (.inr ⟨a, ha, hz, off, e⟩) e'
  · show l'.length ≤ maxLen
    unfold maxLen; omega
  · intro i hi
    rcases hi with rfl | (⟨_, off, e⟩ | ⟨a, ha, hi⟩) | ⟨hi, _⟩
    · exact HP.fresh _ (List.mem_of_getElem? (i := 1) rfl) rfl _ rfl
    · exact HP.fresh _ (List.mem_of_getElem? (i := 0) rfl) rfl _ (.inl (hrow i off e))
    · exact HP.fresh _ (List.mem_of_getElem? (i := 0) rfl) rfl _ (.inr ⟨a, ha, hi⟩)
    · simp at hi
set_option maxRecDepth 100000 in
set_option maxHeartbeats 4000000 in
theorem new_any (ch r : Int) (A : Option Addr) (n c : Nat) (l : List AstA) (w : World) (h : IsAsts w A n l) (hm : n ≤ 1000000) (hp : ∀ a ∈ l, a.pics.length ≤ 2000000) :
    Calls Try.prog 10 #[.int .i64 ch, .int .i64 r, .slice A n c] w fun e w' => RetNew ch r l w e w' := by
  have hln := h.1.1
  have HP := Hp.start w
  refine w_enter 56 [(0, (.int .i64 ch)), (1, (.int .i64 r)), (2, (.slice A n c))] Try.func10 rfl Try.ntmps10 (by kernel_rfl) (by kernel_rfl) ?_
  intro a H
  refine wp_seq ?_
  refine w_region ?_
  refine H.val 6 (.pointer none) (by kernel_rfl) (by kernel_rfl) ?_
  intro a H
  refine H.val 7 (.int .i64 0) (by kernel_rfl) (by kernel_rfl) ?_
  intro a H
  refine wpList_nil ?_
  refine then_normal ?_
  refine wp_seq ?_
  refine wp_seq ?_
  refine w_region ?_
  refine H.val 11 (.int .i64 ch) (by kernel_rfl) (by kernel_rfl) ?_
  intro a H
  refine H.val 12 (.bool (decide (ch < 0))) (by kernel_rfl) (by kernel_rfl) ?_
  intro a H
  refine H.val 13 (.bool (decide (ch < 0))) (by kernel_rfl) (by kernel_rfl) ?_
  intro a H
  refine H.split 13 rfl (fun g13 H => ?_) (fun g13 H => ?_)
  · have g13p := of_decide_eq_true g13
    refine H.skip 14 (by kernel_rfl) ?_
    intro a H
    refine H.skip 15 (by kernel_rfl) ?_
    intro a H
    refine H.val 16 (.bool true) (by kernel_rfl) (by kernel_rfl) ?_
    intro a H
    refine H.val 17 (.bool true) (by kernel_rfl) (by kernel_rfl) ?_
    intro a H
    refine H.skip 18 (by kernel_rfl) ?_
    intro a H
    refine H.skip 19 (by kernel_rfl) ?_
    intro a H
    refine H.val 20 (.bool true) (by kernel_rfl) (by kernel_rfl) ?_
    intro a H
    refine H.val 21 (.bool true) (by kernel_rfl) (by kernel_rfl) ?_
    intro a H
    refine H.skip 22 (by kernel_rfl) ?_
    intro a H
    refine H.skip 23 (by kernel_rfl) ?_
    intro a H
    refine H.val 24 (.bool true) (by kernel_rfl) (by kernel_rfl) ?_
    intro a H
    refine wpList_nil ?_
    have H := H.keep (L' := [(24, (.bool true)), (7, (.int .i64 0)), (6, (.pointer none)), (0, (.int .i64 ch)), (1, (.int .i64 r)), (2, (.slice A n c))]) (by kernel_rfl)
    refine then_normal ?_
    refine w_ift H rfl ?_
    refine wp_seq ?_
    refine w_region ?_
    refine H.val 6 (.pointer none) (by kernel_rfl) (by kernel_rfl) ?_
    intro a H
    refine H.val 7 (.int .i64 230) (by kernel_rfl) (by kernel_rfl) ?_
    intro a H
    refine wpList_nil ?_
    refine then_normal ?_
    refine wp_ret ?_
    refine then_ret ?_
    refine H.ret2 (fn := Try.f10) Try.results10 (RV.tmp_ (v := (.pointer none)) (by kernel_rfl)) (RV.tmp_ (v := (.int .i64 230)) (by kernel_rfl)) ?_
    exact .inl ⟨by unfold newOk; simp; omega, rfl, (HP.below (by kernel_rfl))⟩
  · have g13p := of_decide_eq_false g13
    refine H.val 14 (.int .i64 ch) (by kernel_rfl) (by kernel_rfl) ?_
    intro a H
    refine H.val 15 (.bool (decide (ch ≥ 40))) (by kernel_rfl) (by kernel_rfl) ?_
    intro a H
    refine H.val 16 (.bool (decide (ch ≥ 40))) (by kernel_rfl) (by kernel_rfl) ?_
    intro a H
    refine H.val 17 (.bool (decide (ch ≥ 40))) (by kernel_rfl) (by kernel_rfl) ?_
    intro a H
    refine H.split 17 rfl (fun g17 H => ?_) (fun g17 H => ?_)
    · have g17p := of_decide_eq_true g17
      refine H.skip 18 (by kernel_rfl) ?_
      intro a H
      refine H.skip 19 (by kernel_rfl) ?_
      intro a H
      refine H.val 20 (.bool true) (by kernel_rfl) (by kernel_rfl) ?_
      intro a H
      refine H.val 21 (.bool true) (by kernel_rfl) (by kernel_rfl) ?_
      intro a H
      refine H.skip 22 (by kernel_rfl) ?_
      intro a H
      refine H.skip 23 (by kernel_rfl) ?_
      intro a H
      refine H.val 24 (.bool true) (by kernel_rfl) (by kernel_rfl) ?_
      intro a H
      refine wpList_nil ?_
      have H := H.keep (L' := [(24, (.bool true)), (7, (.int .i64 0)), (6, (.pointer none)), (0, (.int .i64 ch)), (1, (.int .i64 r)), (2, (.slice A n c))]) (by kernel_rfl)
      refine then_normal ?_
      refine w_ift H rfl ?_
      refine wp_seq ?_
      refine w_region ?_
      refine H.val 6 (.pointer none) (by kernel_rfl) (by kernel_rfl) ?_
      intro a H
      refine H.val 7 (.int .i64 230) (by kernel_rfl) (by kernel_rfl) ?_
      intro a H
      refine wpList_nil ?_
      refine then_normal ?_
      refine wp_ret ?_
      refine then_ret ?_
      refine H.ret2 (fn := Try.f10) Try.results10 (RV.tmp_ (v := (.pointer none)) (by kernel_rfl)) (RV.tmp_ (v := (.int .i64 230)) (by kernel_rfl)) ?_
      exact .inl ⟨by unfold newOk; simp; omega, rfl, (HP.below (by kernel_rfl))⟩
    · have g17p := of_decide_eq_false g17
      refine H.val 18 (.int .i64 r) (by kernel_rfl) (by kernel_rfl) ?_
      intro a H
      refine H.val 19 (.bool (decide (r < 0))) (by kernel_rfl) (by kernel_rfl) ?_
      intro a H
      refine H.val 20 (.bool (decide (r < 0))) (by kernel_rfl) (by kernel_rfl) ?_
      intro a H
      refine H.val 21 (.bool (decide (r < 0))) (by kernel_rfl) (by kernel_rfl) ?_
      intro a H
      refine H.split 21 rfl (fun g21 H => ?_) (fun g21 H => ?_)
      · have g21p := of_decide_eq_true g21
        refine H.skip 22 (by kernel_rfl) ?_
        intro a H
        refine H.skip 23 (by kernel_rfl) ?_
        intro a H
        refine H.val 24 (.bool true) (by kernel_rfl) (by kernel_rfl) ?_
        intro a H
        refine wpList_nil ?_
        have H := H.keep (L' := [(24, (.bool true)), (7, (.int .i64 0)), (6, (.pointer none)), (0, (.int .i64 ch)), (1, (.int .i64 r)), (2, (.slice A n c))]) (by kernel_rfl)
        refine then_normal ?_
        refine w_ift H rfl ?_
        refine wp_seq ?_
        refine w_region ?_
        refine H.val 6 (.pointer none) (by kernel_rfl) (by kernel_rfl) ?_
        intro a H
        refine H.val 7 (.int .i64 230) (by kernel_rfl) (by kernel_rfl) ?_
        intro a H
        refine wpList_nil ?_
        refine then_normal ?_
        refine wp_ret ?_
        refine then_ret ?_
        refine H.ret2 (fn := Try.f10) Try.results10 (RV.tmp_ (v := (.pointer none)) (by kernel_rfl)) (RV.tmp_ (v := (.int .i64 230)) (by kernel_rfl)) ?_
        exact .inl ⟨by unfold newOk; simp; omega, rfl, (HP.below (by kernel_rfl))⟩
      · have g21p := of_decide_eq_false g21
        refine H.val 22 (.int .i64 r) (by kernel_rfl) (by kernel_rfl) ?_
        intro a H
        refine H.val 23 (.bool (decide (r ≥ 8))) (by kernel_rfl) (by kernel_rfl) ?_
        intro a H
        refine H.val 24 (.bool (decide (r ≥ 8))) (by kernel_rfl) (by kernel_rfl) ?_
        intro a H
        refine wpList_nil ?_
        have H := H.keep (L' := [(24, (.bool (decide (r ≥ 8)))), (7, (.int .i64 0)), (6, (.pointer none)), (0, (.int .i64 ch)), (1, (.int .i64 r)), (2, (.slice A n c))]) (by kernel_rfl)
        refine then_normal ?_
        refine w_if H rfl (fun g24 => ?_) (fun g24 => ?_)
        · have g24p := of_decide_eq_true g24
          refine wp_seq ?_
          refine w_region ?_
          refine H.val 6 (.pointer none) (by kernel_rfl) (by kernel_rfl) ?_
          intro a H
          refine H.val 7 (.int .i64 230) (by kernel_rfl) (by kernel_rfl) ?_
          intro a H
          refine wpList_nil ?_
          refine then_normal ?_
          refine wp_ret ?_
          refine then_ret ?_
          refine H.ret2 (fn := Try.f10) Try.results10 (RV.tmp_ (v := (.pointer none)) (by kernel_rfl)) (RV.tmp_ (v := (.int .i64 230)) (by kernel_rfl)) ?_
          exact .inl ⟨by unfold newOk; simp; omega, rfl, (HP.below (by kernel_rfl))⟩
        · have g24p := of_decide_eq_false g24
          refine wp_skip ?_
          refine then_normal ?_
          refine wp_seq ?_
          refine w_region ?_
          refine H.val 25 (.agg #[(.int .i64 500), (.int .i64 0), (.int .i64 0), (.int .i64 0), (.bool false), (.bool false)]) (by kernel_rfl) (by kernel_rfl) ?_
          intro a H
          refine H.val 26 (.int .i64 ch) (by kernel_rfl) (by kernel_rfl) ?_
          intro a H
          refine H.val 27 (.int .i64 r) (by kernel_rfl) (by kernel_rfl) ?_
          intro a H
          refine H.val 28 (.agg #[(.int .i64 500), (.int .i64 0), (.int .i64 0), (.int .i64 0), (.bool false), (.bool false), (.bool true), (.int .i64 ch), (.int .i64 r), (.slice none 0 0), (.slice none 0 0)]) (by kernel_rfl) (by kernel_rfl) ?_
          intro a H
          refine H.alloc HP 29 (fun b => (.pointer (some ⟨b, 0, none⟩))) 76 [(.int .i64 500), (.int .i64 0), (.int .i64 0), (.int .i64 0), (.bool false), (.bool false), (.bool true), (.int .i64 ch), (.int .i64 r), (.slice none 0 0), (.slice none 0 0)] (by kernel_rfl) (fun w => by kernel_rfl) ?_
          intro b_1 w_2 a H HP
          refine H.val 8 (.pointer (some ⟨b_1, 0, none⟩)) (by kernel_rfl) (by kernel_rfl) ?_
          intro a H
          refine wpList_nil ?_
          refine then_normal ?_
          refine wp_seq ?_
          refine wp_seq ?_
          refine w_region ?_
          refine H.val 30 (.slice A n c) (by kernel_rfl) (by kernel_rfl) ?_
          intro a H
          refine H.val 31 (.int .i64 ((n : Nat) : Int)) (by kernel_rfl) (by kernel_rfl) ?_
          intro a H
          refine H.val 32 (.int .i64 0) (by kernel_rfl) (by kernel_rfl) ?_
          intro a H
          refine wpList_nil ?_
          refine then_normal ?_
          refine wp_block ?_
          have HP := HP.nilRow w.heap.size 49 2 AstA.cells astOk astFp elOk_ast
          refine w_loop (fun m a v => ∃ (j : Nat), n - j = m ∧ ∃ (SA : Option Addr), ∃ (sc : Nat), ∃ (l' : List AstA), Sl 56 [(32, (.int .i64 ((j : Nat) : Int))), (31, (.int .i64 ((n : Nat) : Int))), (30, (.slice A n c)), (8, (.pointer (some ⟨b_1, 0, none⟩))), (7, (.int .i64 0)), (6, (.pointer none))] a ∧ Hp w v [(rowsR w.heap.size 49 2 AstA.cells astOk astFp (.slice SA l'.length sc) l'), bx b_1 76 [(.int .i64 500), (.int .i64 0), (.int .i64 0), (.int .i64 0), (.bool false), (.bool false), (.bool true), (.int .i64 ch), (.int .i64 r), (.slice SA l'.length sc), (.slice none 0 0)] true] [] ∧ (j ≤ n) ∧ (l'.length = j) ∧ (sameA l' (l.take j)) ∧ (∀ a ∈ l.take j, validA a.item a.pics = true) ∧ (∀ a ∈ l', a.pics.length ≤ 2000000)) n ?_ ?_
          · exact ⟨0, by omega, none, 0, [], H.keep (by kernel_rfl), HP, by omega, rfl, rfl, (fun _ h => by cases h), (fun _ h => by cases h)⟩
          rintro m a w_3 ⟨j, hm', SA, sc, l', H, HP, hj, hll, hsame, hval, hacc⟩
          obtain ⟨X, hX⟩ : ∃ X, l.getD j astZ = X := ⟨_, rfl⟩
          refine wp_seq ?_
          refine w_region ?_
          refine H.val 33 (.bool (decide (((j : Nat) : Int) < ((n : Nat) : Int)))) (by kernel_rfl) (by kernel_rfl) ?_
          intro a H
          refine wpList_nil ?_
          refine then_normal ?_
          refine wp_seq ?_
          refine w_if H rfl (fun g33 => ?_) (fun g33 => ?_)
          · have g33p := of_decide_eq_true g33
            refine wp_skip ?_
            refine then_normal ?_
            refine wp_seq ?_
            refine wp_block ?_
            refine wp_seq ?_
            obtain ⟨b0, off, hA, hbl, pa, pb, hok, hmem⟩ := h.get (i := j) (by omega)
            subst hA
            rw [hX] at pa pb hok hmem
            refine w_region ?_
            refine H.val 34 (.pointer (some ⟨b0, off + j * 2, none⟩)) (by kernel_rfl) (ex_index (b := b0) (off := off) (len := n) (cap := c) (e := 49) (k := 2) (ik := .i64) (i := ((j : Nat) : Int)) (m := j) (by kernel_rfl) (by kernel_rfl) (by omega) (by omega) (by kernel_rfl) (by kernel_rfl)) ?_
            intro a H
            refine H.val 35 (.agg #[(.int .i64 X.item), (.slice X.A X.pics.length X.c)]) (by kernel_rfl) (ex_loadN (vs := [(.int .i64 X.item), (.slice X.A X.pics.length X.c)]) (by kernel_rfl) (by kernel_rfl) (by kernel_rfl) rfl (cells2 (HP.oldc (by kernel_rfl) pa) (HP.oldc (by kernel_rfl) pb))) ?_
            intro a H
            refine H.alloc HP 10 (fun b => (.pointer (some ⟨b, 0, none⟩))) 49 [(.int .i64 0), (.slice none 0 0)] (by kernel_rfl) (fun w => by kernel_rfl) ?_
            intro b_4 w_5 a H HP
            refine H.store HP 0 b_4 0 2 49 [(.int .i64 0), (.slice none 0 0)] true (.agg #[(.int .i64 X.item), (.slice X.A X.pics.length X.c)]) [bx b_4 49 [(.int .i64 X.item), (.slice X.A X.pics.length X.c)] true, (rowsR w.heap.size 49 2 AstA.cells astOk astFp (.slice SA l'.length sc) l'), bx b_1 76 [(.int .i64 500), (.int .i64 0), (.int .i64 0), (.int .i64 0), (.bool false), (.bool false), (.bool true), (.int .i64 ch), (.int .i64 r), (.slice SA l'.length sc), (.slice none 0 0)] true] (by kernel_rfl) (by kernel_rfl) (by kernel_rfl) rfl (by kernel_rfl) (by kernel_rfl) (by kernel_rfl) (by kernel_rfl) (by kernel_rfl) ?_
            intro w_6 a H HP
            refine wpList_nil ?_
            refine then_normal ?_
            refine wp_seq ?_
            refine wp_seq ?_
            refine w_region ?_
            refine H.val 36 (.agg #[(.int .i64 X.item), (.slice X.A X.pics.length X.c)]) (by kernel_rfl) (ex_loadN (vs := [(.int .i64 X.item), (.slice X.A X.pics.length X.c)]) (by kernel_rfl) (by kernel_rfl) (by kernel_rfl) rfl (HP.cells 0 rfl 0 2 (by kernel_rfl))) ?_
            intro a H
            refine H.call 37 (by kernel_rfl) (Eq.trans (by kernel_rfl : _ = (callFunc 24 #[(.agg #[(.int .i64 X.item), (.slice X.A X.pics.length X.c)])]).run Try.prog w_6) (Try.call24 _ _)) (mvalid_any X.item X.A X.pics.length X.c X.pics w_6 (hok.1.below (HP.below (by kernel_rfl))) (by have := hok.2.1; have := hok.2.2.1; omega)) ?_
            rintro e w_7 ⟨rfl, hb⟩
            refine ⟨_, rfl, ?_⟩
            intro a H
            have HP := HP.next hb
            refine H.val 38 (.bool (!(validA X.item X.pics))) (by kernel_rfl) (by kernel_rfl) ?_
            intro a H
            refine wpList_nil ?_
            refine then_normal ?_
            refine w_if H rfl (fun g38 => ?_) (fun g38 => ?_)
            · have g38p := not_is_true g38
              refine wp_seq ?_
              refine w_region ?_
              refine H.val 6 (.pointer none) (by kernel_rfl) (by kernel_rfl) ?_
              intro a H
              refine H.val 7 (.int .i64 230) (by kernel_rfl) (by kernel_rfl) ?_
              intro a H
              refine wpList_nil ?_
              refine then_normal ?_
              refine wp_ret ?_
              refine then_ret ?_
              refine inb_ret ?_
              refine then_ret ?_
              refine then_ret ?_
              refine inb_ret ?_
              refine then_ret ?_
              refine H.ret2 (fn := Try.f10) Try.results10 (RV.tmp_ (v := (.pointer none)) (by kernel_rfl)) (RV.tmp_ (v := (.int .i64 230)) (by kernel_rfl)) ?_
              exact .inl ⟨newOk_bad hmem (not_is_true_eq g38p), rfl, (HP.below (by kernel_rfl))⟩
            · have g38p := not_is_false g38
              refine wp_skip ?_
              refine then_normal ?_
              have HP := HP.front 1 rfl [(rowsR w.heap.size 49 2 AstA.cells astOk astFp (.slice SA l'.length sc) l'), bx b_4 49 [(.int .i64 X.item), (.slice X.A X.pics.length X.c)] true, bx b_1 76 [(.int .i64 500), (.int .i64 0), (.int .i64 0), (.int .i64 0), (.bool false), (.bool false), (.bool true), (.int .i64 ch), (.int .i64 r), (.slice SA l'.length sc), (.slice none 0 0)] true] (by kernel_rfl)
              refine An.start (fun v => Hp w v [bx b_4 49 [(.int .i64 X.item), (.slice X.A X.pics.length X.c)] true, bx b_1 76 [(.int .i64 500), (.int .i64 0), (.int .i64 0), (.int .i64 0), (.bool false), (.bool false), (.bool true), (.int .i64 ch), (.int .i64 r), (.slice SA l'.length sc), (.slice none 0 0)] true] []) 15 16 HP wide_follows rfl ?_
              intro w_8 HP
              refine An.pure H (.inr ((HP.tail rfl))) 0 39 (.pointer (some ⟨b_1, 0, none⟩)) rfl (by kernel_rfl) (by kernel_rfl) (fun _ _ _ h => h) (fun _ => by kernel_rfl) ?_
              intro a H
              refine An.pure H (.inr ((HP.tail rfl))) 1 40 (.pointer (some ⟨b_1, 0, none⟩)) rfl (by kernel_rfl) (by kernel_rfl) (fun _ _ _ h => h) (fun _ => by kernel_rfl) ?_
              intro a H
              refine An.pure H (.inr ((HP.tail rfl))) 2 41 (.pointer (some ⟨b_1, 0, none⟩)) rfl (by kernel_rfl) (by kernel_rfl) (fun _ _ _ h => h) (fun _ => by kernel_rfl) ?_
              intro a H
              refine An.pure H (.inr ((HP.tail rfl))) 3 42 (.pointer (some ⟨b_1, 9, none⟩)) rfl (by kernel_rfl) (by kernel_rfl) (fun _ _ _ h => h) (fun _ => by kernel_rfl) ?_
              intro a H
              refine An.val H ((HP.tail rfl)) 4 43 (.slice SA l'.length sc) rfl (by kernel_rfl) (by kernel_rfl) (fun _ _ _ h => h) (fun _ hS => ex_load1 (by kernel_rfl) (by kernel_rfl) (hS.cell 1 rfl 9 rfl)) ?_
              intro a H
              refine An.pure H (.inr ((HP.tail rfl))) 5 44 (.pointer (some ⟨b_4, 0, none⟩)) rfl (by kernel_rfl) (by kernel_rfl) (fun _ _ _ h => h) (fun _ => by kernel_rfl) ?_
              intro a H
              refine An.val H ((HP.tail rfl)) 6 45 (.int .i64 X.item) rfl (by kernel_rfl) (by kernel_rfl) (fun _ _ _ h => h) (fun _ hS => ex_load1 (by kernel_rfl) (by kernel_rfl) (hS.cell 0 rfl 0 rfl)) ?_
              intro a H
              refine An.pure H (.inr ((HP.tail rfl))) 7 46 (.pointer (some ⟨b_4, 1, none⟩)) rfl (by kernel_rfl) (by kernel_rfl) (fun _ _ _ h => h) (fun _ => by kernel_rfl) ?_
              intro a H
              refine An.val H ((HP.tail rfl)) 8 47 (.slice X.A X.pics.length X.c) rfl (by kernel_rfl) (by kernel_rfl) (fun _ _ _ h => h) (fun _ hS => ex_load1 (by kernel_rfl) (by kernel_rfl) (hS.cell 0 rfl 1 rfl)) ?_
              intro a H
              refine An.one 9 (by kernel_rfl) ?_
              refine Op.call H 48 rfl (by kernel_rfl) (Eq.trans (by kernel_rfl : _ = (callFunc 25 #[(.slice X.A X.pics.length X.c)]).run Try.prog w_8) (Try.call25 _ _)) (clone_any X.A X.pics.length X.c X.pics w_8 (hok.1.below (HP.below (by kernel_rfl))) hok.2.2.2.1 hok.2.1 (hp X hmem)) ?_
              rintro e w_9 ⟨BX, dX, rfl, q1, q2, q3, q4, hb, q5⟩
              refine ⟨_, rfl, ?_⟩
              intro a H
              have HP := HP.pend 0 rfl elOk_ast ⟨X.item, BX, dX, X.pics⟩ [(rowsP w.heap.size 49 2 AstA.cells astOk astFp (.slice SA l'.length sc) l' (⟨X.item, BX, dX, X.pics⟩)), bx b_4 49 [(.int .i64 X.item), (.slice X.A X.pics.length X.c)] true, bx b_1 76 [(.int .i64 500), (.int .i64 0), (.int .i64 0), (.int .i64 0), (.bool false), (.bool false), (.bool true), (.int .i64 ch), (.int .i64 r), (.slice SA l'.length sc), (.slice none 0 0)] true] (by kernel_rfl) hb ⟨q1, q2, q3, q4, trivial⟩ (fun k hk => ⟨hk.2.elim fun off e => q5 k off e, row_lt q1.2 hk⟩)
              refine ⟨.inr ((HP.tail rfl)), ?_⟩
              refine An.pure H (.inr ((HP.tail rfl))) 10 49 (.agg #[(.int .i64 X.item), (.slice BX X.pics.length dX)]) rfl (by kernel_rfl) (by kernel_rfl) (fun _ _ _ h => h) (fun _ => by kernel_rfl) ?_
              intro a H
              refine An.one 11 (by kernel_rfl) ?_
              refine Op.alloc H HP 50 (fun b => (.slice (some ⟨b, 0, none⟩) 1 1)) 49 [(.int .i64 X.item), (.slice BX X.pics.length dX)] rfl (by kernel_rfl) (fun w => by kernel_rfl) ?_
              intro b_10 w_11 a H HP
              refine ⟨.inr (((HP.tail rfl).tail rfl)), ?_⟩
              refine An.one 12 (by kernel_rfl) ?_
              refine Op.push H HP 51 1 0 (v := (.slice SA l'.length sc)) (e := 49) (p := ⟨X.item, BX, dX, X.pics⟩) (l := l') (cs := AstA.cells) (ok := astOk) (fe := astFp) (size := 2) (z := (.agg #[.int .i64 0, .slice none 0 0])) (bytes := 32) (bb := b_10) (tb := 49) (fb := true) rfl (by kernel_rfl) elOk_ast (by kernel_rfl) (by kernel_rfl) rfl (by kernel_rfl) (by kernel_rfl) (by kernel_rfl) (by kernel_rfl) (by kernel_rfl) rfl (by kernel_rfl) (by unfold maxLen; omega) (by omega) ?_
              intro B_12 c_13 w_14 a H HP
              have HP : Hp w w_14 [bx b_10 49 [(.int .i64 X.item), (.slice BX X.pics.length dX)] true, (rowsR w.heap.size 49 2 AstA.cells astOk astFp (.slice B_12 (l'.length + 1) c_13) (l' ++ [⟨X.item, BX, dX, X.pics⟩])), bx b_4 49 [(.int .i64 X.item), (.slice X.A X.pics.length X.c)] true, bx b_1 76 [(.int .i64 500), (.int .i64 0), (.int .i64 0), (.int .i64 0), (.bool false), (.bool false), (.bool true), (.int .i64 ch), (.int .i64 r), (.slice SA l'.length sc), (.slice none 0 0)] true] [] := HP
              refine ⟨.inr (((HP.tail rfl).tail rfl)), ?_⟩
              refine An.pure H (.inr (((HP.tail rfl).tail rfl))) 13 52 (.pointer (some ⟨b_1, 0, none⟩)) rfl (by kernel_rfl) (by kernel_rfl) (fun _ _ _ h => h) (fun _ => by kernel_rfl) ?_
              intro a H
              refine An.pure H (.inr (((HP.tail rfl).tail rfl))) 14 53 (.pointer (some ⟨b_1, 9, none⟩)) rfl (by kernel_rfl) (by kernel_rfl) (fun _ _ _ h => h) (fun _ => by kernel_rfl) ?_
              intro a H
              refine An.one 15 (by kernel_rfl) ?_
              refine Op.store H HP 3 b_1 9 1 76 [(.int .i64 500), (.int .i64 0), (.int .i64 0), (.int .i64 0), (.bool false), (.bool false), (.bool true), (.int .i64 ch), (.int .i64 r), (.slice SA l'.length sc), (.slice none 0 0)] true (.slice B_12 (l'.length + 1) c_13) [bx b_10 49 [(.int .i64 X.item), (.slice BX X.pics.length dX)] true, (rowsR w.heap.size 49 2 AstA.cells astOk astFp (.slice B_12 (l'.length + 1) c_13) (l' ++ [⟨X.item, BX, dX, X.pics⟩])), bx b_4 49 [(.int .i64 X.item), (.slice X.A X.pics.length X.c)] true, bx b_1 76 [(.int .i64 500), (.int .i64 0), (.int .i64 0), (.int .i64 0), (.bool false), (.bool false), (.bool true), (.int .i64 ch), (.int .i64 r), (.slice B_12 (l'.length + 1) c_13), (.slice none 0 0)] true] rfl (by kernel_rfl) (by kernel_rfl) (by kernel_rfl) rfl (by kernel_rfl) (by kernel_rfl) (by kernel_rfl) (by kernel_rfl) (by kernel_rfl) ?_
              intro w_15 a H HP
              refine ⟨.inl (by kernel_rfl), ?_⟩
              refine An.done (by kernel_rfl) ?_
              have H := H.keep (L' := [(38, (.bool (!(validA X.item X.pics)))), (37, (.bool (validA X.item X.pics))), (36, (.agg #[(.int .i64 X.item), (.slice X.A X.pics.length X.c)])), (10, (.pointer (some ⟨b_4, 0, none⟩))), (35, (.agg #[(.int .i64 X.item), (.slice X.A X.pics.length X.c)])), (34, (.pointer (some ⟨b0, off + j * 2, none⟩))), (33, (.bool (decide (((j : Nat) : Int) < ((n : Nat) : Int))))), (32, (.int .i64 ((j : Nat) : Int))), (31, (.int .i64 ((n : Nat) : Int))), (30, (.slice (some ⟨b0, off, none⟩) n c)), (8, (.pointer (some ⟨b_1, 0, none⟩))), (7, (.int .i64 0)), (6, (.pointer none))]) (by kernel_rfl)
              refine inb_normal ?_
              refine then_normal ?_
              refine w_region ?_
              refine H.valE 54 (.int .i64 (IntKind.i64.wrap (((j : Nat) : Int) + 1))) (.int .i64 (((j : Nat) : Int) + 1)) (by kernel_rfl) (by kernel_rfl) ((by rw [wrap_ini64 _ (by omega)])) ?_
              intro a H
              refine H.val 32 (.int .i64 (((j : Nat) : Int) + 1)) (by kernel_rfl) (by kernel_rfl) ?_
              intro a H
              refine wpList_nil ?_
              refine then_normal ?_
              have HP := (HP.tail rfl).tail2 rfl
              exact ⟨m - 1, by omega, j + 1, by omega, B_12, c_13, l' ++ [⟨X.item, BX, dX, X.pics⟩], (H.as 32 (.int .i64 ((j + 1 : Nat) : Int)) rfl rfl).keep (by kernel_rfl), by simpa using HP, by omega, by simp [hll], by rw [take_at (d := astZ) (by omega), hX]; exact sameA_snoc hsame, by rw [take_at (d := astZ) (by omega), hX]; intro a ha; rcases List.mem_append.1 ha with ha | ha; exact hval a ha; rcases List.mem_singleton.1 ha with rfl; exact not_is_false_eq g38p, fun a ha => by rcases List.mem_append.1 ha with ha | ha; exact hacc a ha; rcases List.mem_singleton.1 ha with rfl; exact hp X hmem⟩
          · have g33p := of_decide_eq_false g33
            refine wp_exit ?_
            refine then_exit ?_
            refine then_exit ?_
            refine w_exit_here ?_
            refine then_normal ?_
            refine wp_seq ?_
            refine w_region ?_
            refine H.val 55 (.pointer (some ⟨b_1, 0, none⟩)) (by kernel_rfl) (by kernel_rfl) ?_
            intro a H
            refine H.val 6 (.pointer (some ⟨b_1, 0, none⟩)) (by kernel_rfl) (by kernel_rfl) ?_
            intro a H
            refine H.val 7 (.int .i64 0) (by kernel_rfl) (by kernel_rfl) ?_
            intro a H
            refine wpList_nil ?_
            refine then_normal ?_
            refine wp_ret ?_
            refine H.ret2 (fn := Try.f10) Try.results10 (RV.tmp_ (v := (.pointer (some ⟨b_1, 0, none⟩))) (by kernel_rfl)) (RV.tmp_ (v := (.int .i64 0)) (by kernel_rfl)) ?_
            exact .inr (new_end HP rfl rfl (by omega) (by omega) (by omega) (by omega) (by omega) hll hsame hval hacc)
end Go.Proofs.Ytpaepefpfaoacaa
