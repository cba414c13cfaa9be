/- Arrays as arguments, opened. Nothing here is about one function. -/
import Derived.Test.YtpaepefpfaoacaaOpen2
import Derived.OpenShut
namespace Go.Proofs.Ytpaepefpfaoacaa
open Go.ChangeShapes Go.WideShapes Go.ChangeAt Go.RowKit Go.Deep
set_option linter.unusedVariables false

theorem flat_range_take {cs : List Value} {n s : Nat} (h : cs.length = n * s) : (List.range n).flatMap (fun i => (cs.drop (i * s)).take s) = cs := by
  induction n generalizing cs with
  | zero => simp at h; subst h; rfl
  | succ n ih =>
    rw [List.range_succ_eq_map, List.flatMap_cons, List.flatMap_map, Nat.zero_mul, List.drop_zero]
    have hl : (cs.drop s).length = n * s := by rw [List.length_drop, h, Nat.succ_mul]; omega
    have := ih hl
    simp only [List.drop_drop] at this
    have e : (fun i => (cs.drop (i.succ * s)).take s) = fun i => (cs.drop (s + i * s)).take s := by
      funext i; rw [Nat.succ_mul, Nat.add_comm]
    rw [e, this, List.take_append_drop]
theorem flat_range_len {f : Nat → List Value} {s : Nat} (hf : ∀ a, (f a).length = s) (n : Nat) : ((List.range n).flatMap f).length = n * s := by
  rw [flat_len (f := f) hf, List.length_range]
section
variable {P : Program} {t e : TypeId} {α β : Type}
theorem okWide_array {w : World} {r : Reach} {base : Nat} {v : Value} {n : Nat} (ht : P.underlying t = some (.array n e)) (h : Value.okWide P w r base t v) : ∃ cs, v = .agg cs ∧ cs.size = P.cellsOf t := by
  simp only [Value.okWide, ht] at h
  obtain ⟨cs, h1, h2, _⟩ := h
  exact ⟨cs, h1, h2⟩
noncomputable def opArr (o : Op P e α) (n : Nat) (hn : 0 < n) (hu : P.underlying t = some (.array n e)) (hc : P.cellsOf t = n * o.size) : Op P t (Nat → α) where
  size := n * o.size
  cells f := (List.range n).flatMap fun i => o.cells (f i)
  ok w f := ∀ i, o.ok w (f i)
  csize := hc
  len f := flat_range_len (fun i => o.len (f i)) n
  opens {H enc w base held fuel cs x} h hw := by
    obtain ⟨xs, m, _, rfl, hcl, hxl, hf⟩ := DataW.trod_array hu h
    have hwt : ∀ k ∈ DataW.weightsAll P e (xs.map (·.1)), k ≤ reachBytes := fun k hk => hw k (by simpa [DataW.weights, hu] using hk)
    obtain ⟨l, hll, hq⟩ := choose_list (Q := fun i a => (cs.drop (i * o.size)).take o.size = o.cells a ∧ o.ok w a) n (fun i hi => by
      have g := hf i hi
      rw [o.csize] at g
      rw [List.getElem?_eq_getElem (by omega)] at g
      obtain ⟨a, ha, hok⟩ := o.opens g (fun k hk => hwt k (weightsAll_mem (List.mem_map.2 ⟨xs[i]'(by omega), List.getElem_mem _, rfl⟩) k hk))
      exact ⟨a, ha, hok⟩)
    have h0 : 0 < l.length := by omega
    refine ⟨fun i => l.getD i l[0], ?_, fun i => ?_⟩
    · rw [hc] at hcl
      conv => lhs; rw [← flat_range_take hcl]
      have key : ∀ i ∈ List.range n, (cs.drop (i * o.size)).take o.size = o.cells (l.getD i l[0]) := by
        intro i hi
        have hi' : i < l.length := by rw [List.mem_range] at hi; omega
        have := (hq i l[i] (List.getElem?_eq_getElem hi')).1
        rw [this]
        simp [List.getD, List.getElem?_eq_getElem hi']
      rw [List.flatMap_def, List.flatMap_def, List.map_congr_left key]
    · by_cases hi : i < l.length
      · have := (hq i l[i] (List.getElem?_eq_getElem hi)).2
        simpa [List.getD, List.getElem?_eq_getElem hi] using this
      · have := (hq 0 l[0] (List.getElem?_eq_getElem h0)).2
        simpa [List.getD, List.getElem?_eq_none (by omega : l.length ≤ i)] using this
end
end Go.Proofs.Ytpaepefpfaoacaa
