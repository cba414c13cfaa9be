/- Words of the laws: what is held. -/
import Derived.Test.YtpaepefpfaoacaaSqF
namespace Go.Proofs.Ytpaepefpfaoacaa
open Go.ChangeShapes Go.WideShapes Go.ChangeAt Go.RowKit
set_option linter.unusedVariables false
set_option linter.unusedSimpArgs false

def astsR (A : Option Addr) (n : Nat) (l : List AstA) : HB := ⟨(astsK A n l).fp, (astsK A n l).F, true⟩
def evsR (A : Option Addr) (n : Nat) (l : List EvA) : HB := ⟨fun j => rowFp n A j ∨ ∃ e ∈ l, rowFp e.al.length e.A j, fun w => IsEvs w A n l, true⟩
theorem evsR_ok (A : Option Addr) (n : Nat) (l : List EvA) : (evsR A n l).ok := fun _ _ h hk hs =>
  ⟨h.1, h.2.1.keep (fun j hj => hk j (.inl hj)) hs, fun e he => ⟨⟨(h.2.2 e he).1.1, (h.2.2 e he).1.2.keep (fun j hj => hk j (.inr ⟨e, he, hj⟩)) hs⟩, (h.2.2 e he).2⟩⟩
theorem evs_lt {w : World} {A : Option Addr} {n j : Nat} {l : List EvA} (h : IsEvs w A n l) (hj : rowFp n A j ∨ ∃ e ∈ l, rowFp e.al.length e.A j) : j < w.heap.size := by
  rcases hj with hj | ⟨a, ha, hj⟩
  · exact row_lt h.2.1 hj
  · exact row_lt (h.2.2 a ha).1.2 hj
def unitsR (A : Option Addr) (l : List UnitA) : HB := ⟨fun j => rowFp l.length A j ∨ ∃ u ∈ l, rowFp u.al.length u.A j, fun w => IsUnits w A l.length l, true⟩
theorem unitsR_ok (A : Option Addr) (l : List UnitA) : (unitsR A l).ok := fun _ _ h hk hs =>
  ⟨⟨h.1.1, h.1.2.keep (fun j hj => hk j (.inl hj)) hs⟩, fun u hu => ⟨⟨(h.2 u hu).1.1, (h.2 u hu).1.2.keep (fun j hj => hk j (.inr ⟨u, hu, hj⟩)) hs⟩, (h.2 u hu).2⟩⟩
theorem units_lt {w : World} {A : Option Addr} {j : Nat} {l : List UnitA} (h : IsUnits w A l.length l) (hj : rowFp l.length A j ∨ ∃ u ∈ l, rowFp u.al.length u.A j) : j < w.heap.size := by
  rcases hj with hj | ⟨a, ha, hj⟩
  · exact row_lt h.1.2 hj
  · exact row_lt (h.2 a ha).1.2 hj
theorem IsUnits.get {w : World} {A : Option Addr} {n : Nat} {l : List UnitA} (h : IsUnits w A n l) {j : Nat} (hj : j < n) :
    ∃ b off, A = some ⟨b, off, none⟩ ∧ b < w.heap.size ∧ (w.cell? ⟨b, off + j * 13, none⟩ = some (.int .i64 (l.getD j (slateA 0)).channel) ∧ w.cell? ⟨b, off + j * 13 + 1, none⟩ = some (.int .i64 (l.getD j (slateA 0)).frame) ∧ w.cell? ⟨b, off + j * 13 + 2, none⟩ = some (.int .i64 (l.getD j (slateA 0)).version) ∧ w.cell? ⟨b, off + j * 13 + 3, none⟩ = some (.int .i64 (l.getD j (slateA 0)).item) ∧ w.cell? ⟨b, off + j * 13 + 4, none⟩ = some (.int .i64 (l.getD j (slateA 0)).index) ∧ w.cell? ⟨b, off + j * 13 + 5, none⟩ = some (.bool (l.getD j (slateA 0)).key) ∧ w.cell? ⟨b, off + j * 13 + 6, none⟩ = some (.string (l.getD j (slateA 0)).data) ∧ w.cell? ⟨b, off + j * 13 + 7, none⟩ = some (.int .i64 (l.getD j (slateA 0)).regions) ∧ w.cell? ⟨b, off + j * 13 + 8, none⟩ = some (.int .i64 (l.getD j (slateA 0)).gain) ∧ w.cell? ⟨b, off + j * 13 + 9, none⟩ = some (.string (l.getD j (slateA 0)).caption) ∧ w.cell? ⟨b, off + j * 13 + 10, none⟩ = some (.int .i64 (l.getD j (slateA 0)).os) ∧ w.cell? ⟨b, off + j * 13 + 11, none⟩ = some (.int .i64 (l.getD j (slateA 0)).of) ∧ w.cell? ⟨b, off + j * 13 + 12, none⟩ = some (.slice (l.getD j (slateA 0)).A (l.getD j (slateA 0)).al.length (l.getD j (slateA 0)).c)) ∧ (l.getD j (slateA 0)).ok w ∧ l.getD j (slateA 0) ∈ l := by
  obtain ⟨b, off, e, rfl, hb, he, hc⟩ := IsRow.at_ (k := 13) (cs := UnitA.cells) (fun _ => rfl) h.1 hj
  have hm : e ∈ l := List.mem_of_getElem? he
  rw [show l.getD j (slateA 0) = e by simp [List.getD, he]]
  exact ⟨b, off, rfl, hb, ⟨hc 0 _ rfl, hc 1 _ rfl, hc 2 _ rfl, hc 3 _ rfl, hc 4 _ rfl, hc 5 _ rfl, hc 6 _ rfl, hc 7 _ rfl, hc 8 _ rfl, hc 9 _ rfl, hc 10 _ rfl, hc 11 _ rfl, hc 12 _ rfl⟩, h.2 e hm, hm⟩
theorem placed_mem {L : List HB} {x : HB} : ∀ {is : List Nat}, x ∈ placed L is → ∃ i ∈ is, L[i]? = some x
  | [], h => by cases h
  | i :: is, h => by
    simp only [placed] at h
    split at h
    · rename_i y hy
      rcases List.mem_cons.1 h with rfl | h
      · exact ⟨i, List.mem_cons_self .., hy⟩
      · obtain ⟨j, hj, e⟩ := placed_mem h; exact ⟨j, List.mem_cons_of_mem _ hj, e⟩
    · obtain ⟨j, hj, e⟩ := placed_mem h; exact ⟨j, List.mem_cons_of_mem _ hj, e⟩
def distinct : List Nat → Bool
  | [] => true
  | i :: is => !is.contains i && distinct is
/-- Some of the things that are held, in an order of their own; all are new. -/
theorem Hp.sub {w0 w : World} {L : List HB} {K : List FK} (H : Hp w0 w L K) (is : List Nat) (L' : List HB) (hL : placed L is = L') (hd : (distinct is && L.all fun x => x.fresh) = true) : Hp w0 w L' K := by
  subst hL
  simp only [Bool.and_eq_true] at hd
  have hmem : ∀ x ∈ placed L is, x ∈ L := fun x hx => let ⟨_, _, e⟩ := placed_mem hx; List.mem_of_getElem? e
  refine ⟨H.os, H.tape, H.output, H.size, fun k hk _ => H.old k hk fun x hx h => ?_, fun x hx => H.res x (hmem x hx), ?_, fun x hx => H.fresh x (hmem x hx), fun p hp => let ⟨h1, h2, h3⟩ := H.kept p hp; ⟨h1, h2, fun k hk => ⟨(h3 k hk).1, fun x hx => (h3 k hk).2 x (hmem x hx)⟩⟩⟩
  · have := H.fresh x hx (List.all_eq_true.1 hd.2 x hx) k h
    omega
  · have hd1 := hd.1
    clear hd hmem
    induction is with
    | nil => exact .nil
    | cons i is ih =>
      simp only [distinct, Bool.and_eq_true, Bool.not_eq_true', List.contains_eq_mem, decide_eq_false_iff_not] at hd1
      simp only [placed]
      split
      · rename_i x hx
        refine .cons (fun y hy => ?_) (ih hd1.2)
        obtain ⟨j, hj, e⟩ := placed_mem hy
        exact pairwise_at H.apart hx e fun h => hd1.1 (h ▸ hj)
      · exact ih hd1.2
theorem feed_net {us : List US} {ul : List UnitA} {j : Nat} {u : UnitA} (h : ul.map UnitA.spec = us) (hj : j < ul.length) (hu : ul.getD j (slateA 0) = u) : netP u = netP (ofUS (us.getD j (slateS 0))) := by
  subst h; subst hu
  simp [List.getD, List.getElem?_eq_getElem hj, UnitA.spec, ofUS]
theorem feed_item {us : List US} {ul : List UnitA} {j : Nat} {u : UnitA} (h : ul.map UnitA.spec = us) (hj : j < ul.length) (hu : ul.getD j (slateA 0) = u) : u.item = (us.getD j (slateS 0)).item := by
  subst h; subst hu
  simp [List.getD, List.getElem?_eq_getElem hj, UnitA.spec]
theorem cells13 {w : World} {b off : Nat} {v0 v1 v2 v3 v4 v5 v6 v7 v8 v9 v10 v11 v12 : Value} (h0 : w.cell? ⟨b, off, none⟩ = some v0) (h1 : w.cell? ⟨b, off + 1, none⟩ = some v1) (h2 : w.cell? ⟨b, off + 2, none⟩ = some v2) (h3 : w.cell? ⟨b, off + 3, none⟩ = some v3) (h4 : w.cell? ⟨b, off + 4, none⟩ = some v4) (h5 : w.cell? ⟨b, off + 5, none⟩ = some v5) (h6 : w.cell? ⟨b, off + 6, none⟩ = some v6) (h7 : w.cell? ⟨b, off + 7, none⟩ = some v7) (h8 : w.cell? ⟨b, off + 8, none⟩ = some v8) (h9 : w.cell? ⟨b, off + 9, none⟩ = some v9) (h10 : w.cell? ⟨b, off + 10, none⟩ = some v10) (h11 : w.cell? ⟨b, off + 11, none⟩ = some v11) (h12 : w.cell? ⟨b, off + 12, none⟩ = some v12) : cellsAt w b off [v0, v1, v2, v3, v4, v5, v6, v7, v8, v9, v10, v11, v12] := fun i x hx => by
  match i, hx with
  | 0, hx => cases hx; exact h0
  | 1, hx => cases hx; exact h1
  | 2, hx => cases hx; exact h2
  | 3, hx => cases hx; exact h3
  | 4, hx => cases hx; exact h4
  | 5, hx => cases hx; exact h5
  | 6, hx => cases hx; exact h6
  | 7, hx => cases hx; exact h7
  | 8, hx => cases hx; exact h8
  | 9, hx => cases hx; exact h9
  | 10, hx => cases hx; exact h10
  | 11, hx => cases hx; exact h11
  | 12, hx => cases hx; exact h12
  | i + 13, hx => simp at hx
theorem newOk_lib {r : Int} {l : List AstA} (h1 : 0 ≤ r) (h2 : r < 8) (h : ∀ a ∈ l, validA a.item a.pics = true) : newOk 0 r l = true := by
  unfold newOk
  have : (l.all fun a => validA a.item a.pics) = true := List.all_eq_true.2 h
  simp [this, h1, h2]
theorem eq_getD {α : Type} {F : Option α} {d fa a : α} (h1 : F.getD d = fa) (h2 : F = some a) : fa = a := by
  subst h2; exact h1.symm
end Go.Proofs.Ytpaepefpfaoacaa
