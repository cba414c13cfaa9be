/- Lists of events in memory; the iterator over those that are placed. -/
import Derived.Test.YtfpnjlfcnfjkdaaOptH
import Derived.Test.YtfpnjlfcnfjkdaaIter
namespace Go.Proofs.Ytfpnjlfcnfjkdaa
open Go.ChangeShapes Go.WideShapes Go.ChangeAt Go.RowKit Go.Shelf
set_option linter.unusedVariables false
attribute [local go_sem] Oper.semAt_some

/-- An event with its alternatives, as it lies in memory. -/
structure EvA where
  ev : Ev
  A : Option Addr
  c : Nat
  al : Alts
abbrev EvA.n (e : EvA) : Nat := e.al.length
abbrev EvA.cells (e : EvA) : Array Value := evCells e.ev e.A e.al.length e.c
def EvA.ok (e : EvA) (w : World) : Prop := IsAlts w e.A e.al.length e.al ∧ e.al.length ≤ e.c ∧ e.c ≤ maxLen ∧ (e.A = none → e.c = 0) ∧ e.c * 16 ≤ reachBytes
abbrev evsCells (l : List EvA) : List Value := l.flatMap fun e => e.cells.toList
theorem evsCells_len (l : List EvA) : (evsCells l).length = l.length * 7 := by
  induction l with
  | nil => rfl
  | cons a l ih => simp only [evsCells, List.flatMap_cons, List.length_append, List.length_cons] at *; rw [ih]; simp; omega
theorem evsCells_get (l : List EvA) (i j : Nat) (h : i < l.length) (hj : j < 7) : (evsCells l)[i * 7 + j]? = l[i].cells[j]? := by
  induction l generalizing i with
  | nil => simp at h
  | cons a l ih =>
    cases i with
    | zero => simp only [evsCells, List.flatMap_cons, Nat.zero_mul, Nat.zero_add]; rw [List.getElem?_append_left (by simpa using hj)]; simp
    | succ i =>
      have := ih i (by simpa using h)
      rw [show (i + 1) * 7 + j = (i * 7 + j) + 7 by omega]
      simp only [evsCells, List.flatMap_cons]
      rw [List.getElem?_append_right (by simp)]
      simpa using this
def IsEvs (w : World) (A : Option Addr) (n : Nat) (l : List EvA) : Prop := l.length = n ∧ Rd w 7 A n (evsCells l) ∧ ∀ e ∈ l, e.ok w
theorem EvA.ok.below {w w' : World} {e : EvA} (h : e.ok w) (hb : Below w.heap.size w w') : e.ok w' := ⟨h.1.below hb, h.2⟩
theorem IsEvs.below {w w' : World} {A : Option Addr} {n : Nat} {l : List EvA} (h : IsEvs w A n l) (hb : Below w.heap.size w w') : IsEvs w' A n l := ⟨h.1, h.2.1.below hb, fun e he => (h.2.2 e he).below hb⟩
theorem IsEvs.at_ {w : World} {A : Option Addr} {n : Nat} {l : List EvA} (h : IsEvs w A n l) {i : Nat} (hi : i < n) :
    ∃ b off e, A = some ⟨b, off, none⟩ ∧ b < w.heap.size ∧ l[i]? = some e ∧ ∀ j v, e.cells[j]? = some v → w.cell? ⟨b, off + (i * 7 + j), none⟩ = some v := by
  obtain ⟨h1, ⟨h2, h3⟩, h4⟩ := h
  obtain ⟨b, off, rfl, hb, hc⟩ := h3.resolve_left (by omega)
  have hl : i < l.length := by omega
  refine ⟨b, off, l[i], rfl, hb, List.getElem?_eq_getElem hl, fun j v hv => ?_⟩
  have hj : j < 7 := by
    have := (Array.getElem?_eq_some_iff.1 hv).1
    simpa using this
  rw [hc (i * 7 + j) (by omega), evsCells_get l i j hl hj, hv]

/-- An event of the list that is placed. -/
abbrev PEv (l : List EvA) := { e : EvA // e ∈ l ∧ e.ev.placed = true }
abbrev plac (l : List EvA) : List EvA := l.filter fun e => e.ev.placed
theorem plac_take {l : List EvA} {k : Nat} {e : EvA} (h : l[k]? = some e) : plac (l.take (k + 1)) = plac (l.take k) ++ (if e.ev.placed = true then [e] else []) := by
  rw [List.take_add_one, h]
  simp only [plac, List.filter_append, Option.toList_some, List.filter_cons, List.filter_nil]
theorem take_pre {l : List EvA} (k : Nat) : plac (l.take k) <+: plac l := by
  rw [show plac l = plac (l.take k ++ l.drop k) by rw [List.take_append_drop]]
  simp only [plac, List.filter_append]
  exact List.prefix_append _ _

set_option maxHeartbeats 1000000 in
theorem events_in (n : Nat) (A : Option Addr) (m c : Nat) (w : World) :
    CallsIn Fence.wide n Try.prog 28 #[.slice A m c] w fun e w' => e = .returned (.func (.func 39) #[] #[.pointer (some ⟨w.heap.size, 0, none⟩)]) ∧ w' = w.alloc (.cells #[.slice A m c] 31) := by
  refine callsIn_of_wp Try.func28 rfl trivial ?_ rfl
  simp only [Try.ntmps28, List.size_toArray, List.length_cons, List.length_nil, Nat.reduceAdd, Nat.reduceSub, Array.replicate_succ, Array.replicate_zero, List.push_toArray, List.append_toArray, List.nil_append, List.cons_append]
  gi_wp2
  go_ret
  exact ⟨rfl, rfl⟩

set_option maxRecDepth 100000 in
set_option maxHeartbeats 4000000 in
theorem events1_in (n : Nat) (hn : 1 ≤ n) (w₀ : World) (l Bs n₁ n₂ : Nat) (A : Option Addr) (m c : Nat) (es : List EvA) (hm : m ≤ 9223372036854775807) (J Jx : List (PEv es) → World → Prop)
    (W : World) (hJo : OwnFrom W.heap.size J)
    (hY : ∀ pre x W, J pre W → pre.length < m → YieldAt Fence.wide (n - 1) Try.prog l #[evV x.1.ev x.1.A x.1.al.length x.1.c] W fun e W' =>
      (e = .returned (.bool true) ∧ J (pre ++ [x]) W' ∧ KeepC w₀.heap.size n₁ n₂ W W') ∨ (e = .returned (.bool false) ∧ Jx (pre ++ [x]) W' ∧ KeepC w₀.heap.size n₁ n₂ W W'))
    (hBs : Box W Bs 31 #[.slice A m c]) (hBn : n₁ ≤ Bs) (hw₀ : Below w₀.heap.size w₀ W) (hI : IsEvs w₀ A m es) (h0 : J [] W) :
    CallsIn Fence.wide n Try.prog 39 #[.func (.yield l) #[] #[], .pointer (some ⟨Bs, 0, none⟩)] W fun e W' => (∃ v, e = .returned v) ∧
      ((∃ ys : List (PEv es), ys.map (·.1) = plac es ∧ J ys W') ∨ (∃ pre : List (PEv es), pre.map (·.1) <+: plac es ∧ Jx pre W')) := by
  have HI := Lib.hid hI
  have HX := Lib.hid hBs
  have hcs := hBs.cell (i := 0) rfl
  have hml := hI.1
  clear hI hBs
  refine callsIn_of_wp Try.func39 rfl trivial ?_ rfl
  simp only [Try.ntmps39, List.size_toArray, List.length_cons, List.length_nil, Nat.reduceAdd, Nat.reduceSub, Array.replicate_succ, Array.replicate_zero, List.push_toArray, List.append_toArray, List.nil_append, List.cons_append]
  gi_wp2
  gi_loopw [7] (fun i wr => ∃ k : Nat, k ≤ m ∧ i = .int .i64 k ∧ (∃ pre : List (PEv es), pre.map (·.1) = plac (es.take k) ∧ J pre wr) ∧ KeepC w₀.heap.size n₁ n₂ W wr) (fun i _ => m - (intOf i).toNat)
  case atStart => exact ⟨0, Nat.zero_le _, rfl, ⟨[], rfl, h0⟩, KeepC.refl _ _ _ _⟩
  case round =>
    obtain ⟨k, hk, rfl, ⟨pre, hpre, hJs⟩, hnx⟩ := hrel
    have HP := Lib.hid hpre
    have hlen : pre.length ≤ k := by
      have e := congrArg List.length hpre
      rw [List.length_map] at e
      rw [e]
      exact Nat.le_trans (List.length_filter_le _ _) (List.length_take_le _ _)
    clear hpre hcs
    by_cases hlt : k < m
    · obtain ⟨b, off, e, rfl, hbl, he, hcell⟩ := HI.out.at_ hlt
      have hc : ∀ j v, e.cells[j]? = some v → wr.cell? ⟨b, off + (k * 7 + j), none⟩ = some v := fun j v hv => ((hw₀.trans hnx.1).cell (p := ⟨b, off + (k * 7 + j), none⟩) hbl).trans (hcell j v hv)
      have hmem : e ∈ es := List.mem_of_getElem? he
      have hW : w₀.heap.size ≤ wr.heap.size := Nat.le_trans hw₀.size hnx.1.size
      have hJo' : OwnFrom wr.heap.size J := OwnFrom.imp hJo hnx.1.size
      have HK := Lib.hid (plac_take he)
      have HN : Hid (KeepC w₀.heap.size n₁ n₂ W (wr.alloc (.cells e.cells 45))) := Lib.hid (hnx.trans (KeepC.below (balloc _ _) hW))
      have HJ : Hid (J pre (wr.alloc (.cells e.cells 45))) := Lib.hid (hJo'.alloc _ hJs)
      obtain ⟨ev, A', c', al⟩ := e
      obtain ⟨x1, x2, s, f, i, x4⟩ := ev
      have c0 := hc 0 _ rfl
      have c1 := hc 1 _ rfl
      have c2 := hc 2 _ rfl
      have c3 := hc 3 _ rfl
      have c4 := hc 4 _ rfl
      have c5 := hc 5 _ rfl
      have c6 := hc 6 _ rfl
      simp only [Nat.add_zero, ← Nat.add_assoc] at c0 c1 c2 c3 c4 c5 c6
      have end0 : spanBad s f = true → ∃ pre' : List (PEv es), pre'.map (·.1) = plac (es.take (k + 1)) ∧ J pre' (wr.alloc (.cells (EvA.cells ⟨⟨x1, x2, s, f, i, x4⟩, A', c', al⟩) 45)) := fun h => ⟨pre, by
        rw [HK.out, HP.out]
        simp [Ev.placed, h], HJ.out⟩
      clear hc hcell he
      by_cases h1 : s < 0
      · gi_wp2
        go_roundw
        case rel => exact ⟨k + 1, by omega, by go_num, end0 (by simp [spanBad, h1]), HN.out⟩
        case measure => simp [intOf]; omega
      by_cases h2 : 100000000 < s
      · gi_wp2
        go_roundw
        case rel => exact ⟨k + 1, by omega, by go_num, end0 (by simp [spanBad, h2]), HN.out⟩
        case measure => simp [intOf]; omega
      by_cases h3 : f < 1
      · gi_wp2
        go_roundw
        case rel => exact ⟨k + 1, by omega, by go_num, end0 (by simp [spanBad, h3]), HN.out⟩
        case measure => simp [intOf]; omega
      by_cases h4 : 100000000 < f
      · gi_wp2
        go_roundw
        case rel => exact ⟨k + 1, by omega, by go_num, end0 (by simp [spanBad, h4]), HN.out⟩
        case measure => simp [intOf]; omega
      have hp : Ev.placed ⟨x1, x2, s, f, i, x4⟩ = true := by simp [Ev.placed, spanBad, h1, h2, h3, h4]
      have HS : Hid ((pre ++ [(⟨⟨⟨x1, x2, s, f, i, x4⟩, A', c', al⟩, hmem, hp⟩ : PEv es)]).map (·.1) = plac (es.take (k + 1))) := Lib.hid (by
        rw [HK.out, List.map_append, HP.out]
        simp [hp])
      obtain ⟨fn, tmps, assign, body, hy, hR⟩ := hY pre ⟨⟨⟨x1, x2, s, f, i, x4⟩, A', c', al⟩, hmem, hp⟩ _ HJ.out (by omega)
      dsimp only at hy
      clear end0
      gi_wp2
      refine hR.mono ?_
      rintro e W3 (⟨rfl, hJ3, hk3⟩ | ⟨rfl, hJx3, _⟩)
      · gi_wp2
        go_roundw
        case rel => exact ⟨k + 1, by omega, by go_num, ⟨_, HS.out, hJ3⟩, HN.out.trans hk3⟩
        case measure => simp [intOf]; omega
      · gi_wp2
        refine bodyPost_ret (results_none rfl _ _ _) rfl ?_
        exact ⟨⟨_, rfl⟩, .inr ⟨_, by rw [HS.out]; exact take_pre _, hJx3⟩⟩
    · gi_wp2
      go_end0
      obtain rfl : k = m := by omega
      exact ⟨⟨_, rfl⟩, .inl ⟨pre, by rw [HP.out, List.take_of_length_le (by omega)], hJs⟩⟩

theorem events_seq (n : Nat) (hn : 1 ≤ n) (w₀ : World) (Bs n₁ n₂ : Nat) (A : Option Addr) (m c : Nat) (es : List EvA) (hm : m ≤ 9223372036854775807) (w : World)
    (hBs : Box w Bs 31 #[.slice A m c]) (hBn : n₁ ≤ Bs) (hw₀ : Below w₀.heap.size w₀ w) (hI : IsEvs w₀ A m es) :
    SeqO Fence.wide n Try.prog 39 #[.pointer (some ⟨Bs, 0, none⟩)] (fun x : PEv es => #[evV x.1.ev x.1.A x.1.al.length x.1.c]) (KeepC w₀.heap.size n₁ n₂) (fun ys => ys.map (·.1) = plac es) (fun pre => pre.map (·.1) <+: plac es) m w := fun l J Jx W hW _ hJ _ hY h0 =>
  events1_in n hn w₀ l Bs n₁ n₂ A m c es hm J Jx W hJ hY (hBs.next hW) hBn (hw₀.trans (hW.mono hw₀.size)) hI h0
end Go.Proofs.Ytfpnjlfcnfjkdaa
