/- The statement PlanParts: for every input the law returns true and leaves its arguments as they were. No condition. -/
import Derived.Test.YteeillphhiaopaaGreatDoorCards
import Derived.Test.YteeillphhiaopaaGreatDoorTie
import Derived.WalkKit
import Derived.ProofKit
import Derived.OpenShut
import Derived.ShutString
import Derived.ChangeOld
import Derived.Below
import Derived.SizedLaws
import Derived.SevenTiedAt
import Derived.Test.YteeillphhiaopaaGreatDoorZgf
namespace Go.Proofs.YteeillphhiaopaaGreatDoor
open Go.ChangeShapes Go.WideShapes Go.ChangeAt Go.RowKit
set_option linter.unusedVariables false
theorem asc_iff {hi : Int} : ∀ {l : List Int} {last : Int}, asc last hi l = true ↔ (∀ n ∈ l, last < n ∧ n ≤ hi) ∧ l.Pairwise (· < ·)
  | [], last => ⟨fun _ => ⟨fun n hn => (by cases hn), List.Pairwise.nil⟩, fun _ => rfl⟩
  | m :: l, last => by
    rw [asc, Bool.and_eq_true, Bool.and_eq_true, decide_eq_true_eq, decide_eq_true_eq, asc_iff (l := l), List.pairwise_cons]
    constructor
    · rintro ⟨⟨h1, h2⟩, h3, h4⟩
      refine ⟨fun n hn => ?_, fun n hn => (h3 n hn).1, h4⟩
      rcases List.mem_cons.1 hn with rfl | hn
      · exact ⟨h1, h2⟩
      · have := h3 n hn; omega
    · rintro ⟨h1, h2, h3⟩
      exact ⟨h1 m List.mem_cons_self, fun n hn => ⟨h2 n hn, (h1 n (List.mem_cons_of_mem _ hn)).2⟩, h3⟩
theorem nodup_lt {l : List Int} (h : l.Pairwise (· < ·)) : l.Nodup := h.imp fun h => by omega
theorem find_id {α : Type} {f : α → Int} : ∀ {l : List α}, (l.map f).Nodup → ∀ {x : α}, x ∈ l → l.find? (fun y => f y == f x) = some x
  | [], _, x, hx => by cases hx
  | y :: l, h, x, hx => by
    rw [List.map_cons, List.nodup_cons] at h
    rcases List.mem_cons.1 hx with rfl | hx
    · rw [List.find?_cons_of_pos (by simp)]
    · have hne : ¬ f y = f x := fun he => h.1 (he ▸ List.mem_map_of_mem hx)
      rw [List.find?_cons_of_neg (by simpa using hne)]
      exact find_id h.2 hx
theorem ents_iff {p : Pln} : ∀ {l : List Ent} {seen : List Int}, entsP p seen l = true ↔ (∀ e ∈ l, entP p e = true ∧ e.id ∉ seen) ∧ (l.map fun e => e.id).Nodup
  | [], seen => ⟨fun _ => ⟨fun n hn => (by cases hn), List.Pairwise.nil⟩, fun _ => rfl⟩
  | e :: l, seen => by
    rw [entsP, Bool.and_eq_true, Bool.and_eq_true, ents_iff (l := l)]
    constructor
    · rintro ⟨⟨h1, h2⟩, h3, h4⟩
      have h2' : e.id ∉ seen := by simpa using h2
      refine ⟨fun x hx => ?_, List.nodup_cons.2 ⟨fun hm => ?_, h4⟩⟩
      · rcases List.mem_cons.1 hx with rfl | hx
        · exact ⟨h1, h2'⟩
        · exact ⟨(h3 x hx).1, fun hm => (h3 x hx).2 (List.mem_append_left _ hm)⟩
      · obtain ⟨x, hx, he⟩ := List.mem_map.1 hm
        exact (h3 x hx).2 (by rw [he]; simp)
    · rintro ⟨h1, h2⟩
      obtain ⟨h3, h4⟩ := List.nodup_cons.1 h2
      refine ⟨⟨(h1 e List.mem_cons_self).1, by simpa using (h1 e List.mem_cons_self).2⟩, fun x hx => ⟨(h1 x (List.mem_cons_of_mem _ hx)).1, fun hm => ?_⟩, h4⟩
      rcases List.mem_append.1 hm with hm | hm
      · exact (h1 x (List.mem_cons_of_mem _ hx)).2 hm
      · exact h3 (List.mem_map.2 ⟨x, hx, by simpa using hm⟩)
theorem valid_iff {p : Pln} : validPl p = true ↔ soundP p = true ∧ ((p.its.length : Int) ≤ 4000 ∧ ((∀ n ∈ p.its.map (·.id), 0 < n ∧ n ≤ 1000000) ∧ (p.its.map (·.id)).Pairwise (· < ·)) ∧ (p.its.all itemP = true) ∧ (gI p.its p.fill).kind = 5) ∧
    ((p.bs.length : Int) ≤ 2000 ∧ ((∀ n ∈ p.bs.map (·.id), 0 < n ∧ n ≤ 1000000) ∧ (p.bs.map (·.id)).Pairwise (· < ·)) ∧ ∀ b ∈ p.bs, bookP p.its p.regions b = true) ∧
    ((p.es.length : Int) ≤ 4000 ∧ (∀ e ∈ p.es, entP p e = true ∧ e.id ∉ ([] : List Int)) ∧ (p.es.map fun e => e.id).Nodup) ∧ (p.cs.length : Int) ≤ 400 ∧ ∀ c ∈ p.cs, clP c = true := by
  unfold validPl itsP bksP clsP
  simp only [Bool.and_eq_true, decide_eq_true_eq, asc_iff, ents_iff, beq_iff_eq, List.all_eq_true]
  constructor
  · rintro ⟨⟨⟨⟨h1, ⟨⟨a1, a2⟩, a3⟩, a4⟩, ⟨b1, b2⟩, b3⟩, c⟩, d⟩
    exact ⟨h1, ⟨a1, a2, a3, a4⟩, ⟨b1, b2, b3⟩, c, d⟩
  · rintro ⟨h1, ⟨a1, a2, a3, a4⟩, ⟨b1, b2, b3⟩, c, d⟩
    exact ⟨⟨⟨⟨h1, ⟨⟨a1, a2⟩, a3⟩, a4⟩, ⟨b1, b2⟩, b3⟩, c⟩, d⟩
theorem gI_of {l : List Itm} {x : Itm} (h : (l.map (·.id)).Nodup) (hx : x ∈ l) : gI l x.id = x ∧ hI l x.id = true := by
  unfold gI hI fI
  rw [find_id (f := fun y : Itm => y.id) h hx]
  exact ⟨rfl, rfl⟩
theorem gB_of {l : List Bkg} {x : Bkg} (h : (l.map (·.id)).Nodup) (hx : x ∈ l) : gB l x.id = x ∧ hB l x.id = true := by
  unfold gB hB fB
  rw [find_id (f := fun y : Bkg => y.id) h hx]
  exact ⟨rfl, rfl⟩
theorem gE_of {l : List Ent} {x : Ent} (h : (l.map fun e => e.id).Nodup) (hx : x ∈ l) : gE l x.id = x ∧ hE l x.id = true := by
  unfold gE hE fE
  rw [find_id (f := fun y : Ent => y.id) h hx]
  exact ⟨rfl, rfl⟩
theorem hI_kind {l : List Itm} {k n : Int} (h : (gI l k).kind = n) (hn : n ≠ 0) : hI l k = true := by
  unfold gI at h
  unfold hI
  cases hf : fI l k with
  | none => rw [hf] at h; exact absurd h.symm hn
  | some x => rfl
structure Goods (p : Pln) : Prop where
  it : ∀ x ∈ p.its, gI p.its x.id = x ∧ hI p.its x.id = true
  bk : ∀ x ∈ p.bs, (gB p.bs x.id = x ∧ hB p.bs x.id = true) ∧ hI p.its x.item = true ∧ (gI p.its x.item).kind = 2
  en : ∀ x ∈ p.es, (gE p.es x.id = x ∧ hE p.es x.id = true) ∧ hI p.its x.item = true ∧ ¬ (gI p.its x.item).kind = 5 ∧ x.frames ≤ (gI p.its x.item).frames ∧ (x.booking = 0 ∨ hB p.bs x.booking = true) ∧ ∀ a ∈ x.al, hI p.its a.2 = true ∧ (gI p.its a.2).frames = x.frames
theorem goods {p : Pln} (h : validPl p = true) : Goods p := by
  obtain ⟨_, ⟨_, ⟨_, a2⟩, _, _⟩, ⟨_, ⟨_, b2⟩, b3⟩, ⟨_, e1, e2⟩, _⟩ := valid_iff.1 h
  refine ⟨fun x hx => gI_of (nodup_lt a2) hx, fun x hx => ?_, fun x hx => ?_⟩
  · have hb := b3 x hx
    unfold bookP at hb
    simp only [Bool.and_eq_true, beq_iff_eq] at hb
    exact ⟨gB_of (nodup_lt b2) hx, hI_kind hb.1.1.1 (by decide), hb.1.1.1⟩
  · have he := (e1 x hx).1
    unfold entP at he
    simp only [Bool.and_eq_true] at he
    obtain ⟨⟨⟨_, hf⟩, ha⟩, hu⟩ := he
    unfold fitsP at hf
    unfold altsP at ha
    unfold fulP at hu
    simp only [Bool.and_eq_true, Bool.not_eq_true', beq_eq_false_iff_ne, ne_eq, inR_iff] at hf
    simp only [Bool.and_eq_true, Bool.not_eq_true', List.any_eq_false, Bool.not_eq_true] at ha
    simp only [Bool.or_eq_true, beq_iff_eq, Bool.and_eq_true] at hu
    refine ⟨gE_of e2 hx, hf.1.1.1.1, hf.1.1.1.2, hf.1.1.2.2, hu.imp id fun h => h.1, fun a ha' => ?_⟩
    have := ha.2 a ha'
    unfold unfitP at this
    simp only [Bool.or_eq_false_iff, Bool.not_eq_false', beq_iff_eq] at this
    exact ⟨this.1.1.1, this.1.1.2⟩
theorem none_I {l : List Itm} {k : Int} (h : (l.all fun x => x.id != k) = true) : hI l k = false := by
  unfold hI fI
  rw [List.find?_eq_none.2 (fun x hx => by have := List.all_eq_true.1 h x hx; simpa using this)]
  rfl
theorem none_B {l : List Bkg} {k : Int} (h : (l.all fun x => x.id != k) = true) : hB l k = false := by
  unfold hB fB
  rw [List.find?_eq_none.2 (fun x hx => by have := List.all_eq_true.1 h x hx; simpa using this)]
  rfl
theorem none_E {l : List Ent} {k : Int} (h : (l.all fun x => x.id != k) = true) : hE l k = false := by
  unfold hE fE
  rw [List.find?_eq_none.2 (fun x hx => by have := List.all_eq_true.1 h x hx; simpa using this)]
  rfl
theorem and_all {b : Bool} {α : Type} {l : List α} {f : α → Bool} (h : l.all f = true → b = false) : (b && l.all f) = false := by
  cases hl : l.all f with
  | true => rw [h hl]; rfl
  | false => rw [Bool.and_false]
theorem all_take {α : Type} {l : List α} {f : α → Bool} {i : Nat} {x : α} (hx : l[i]? = some x) : (l.take (i + 1)).all f = ((l.take i).all f && f x) := by
  rw [List.take_add_one, hx]
  simp [List.all_append]
def fndI (l : List Itm) (k : Int) (i : Nat) : Bool := hI l k && (l.take i).all fun x => x.id != k
def fndB (l : List Bkg) (k : Int) (i : Nat) : Bool := hB l k && (l.take i).all fun x => x.id != k
def fndE (l : List Ent) (k : Int) (i : Nat) : Bool := hE l k && (l.take i).all fun x => x.id != k
theorem fndI_0 (l : List Itm) (k : Int) : hI l k = fndI l k 0 := by unfold fndI; simp
theorem fndI_t {l : List Itm} {k : Int} {i : Nat} {x : Itm} (h : fndI l k i = true) (hx : l[i]? = some x) : (x.id != k) = fndI l k (i + 1) := by
  unfold fndI at h ⊢
  rw [all_take (f := fun x => x.id != k) hx, ← Bool.and_assoc, h, Bool.true_and]
theorem fndI_f {l : List Itm} {k : Int} {i : Nat} {x : Itm} (h : fndI l k i = false) (hx : l[i]? = some x) : false = fndI l k (i + 1) := by
  unfold fndI at h ⊢
  rw [all_take (f := fun x => x.id != k) hx, ← Bool.and_assoc, h, Bool.false_and]
theorem fndI_end {l : List Itm} {k : Int} {i : Nat} (h : l.length ≤ i) : fndI l k i = false := by
  unfold fndI
  rw [List.take_of_length_le h]
  exact and_all none_I
theorem fndB_0 (l : List Bkg) (k : Int) : hB l k = fndB l k 0 := by unfold fndB; simp
theorem fndB_t {l : List Bkg} {k : Int} {i : Nat} {x : Bkg} (h : fndB l k i = true) (hx : l[i]? = some x) : (x.id != k) = fndB l k (i + 1) := by
  unfold fndB at h ⊢
  rw [all_take (f := fun x => x.id != k) hx, ← Bool.and_assoc, h, Bool.true_and]
theorem fndB_f {l : List Bkg} {k : Int} {i : Nat} {x : Bkg} (h : fndB l k i = false) (hx : l[i]? = some x) : false = fndB l k (i + 1) := by
  unfold fndB at h ⊢
  rw [all_take (f := fun x => x.id != k) hx, ← Bool.and_assoc, h, Bool.false_and]
theorem fndB_end {l : List Bkg} {k : Int} {i : Nat} (h : l.length ≤ i) : fndB l k i = false := by
  unfold fndB
  rw [List.take_of_length_le h]
  exact and_all none_B
theorem fndE_0 (l : List Ent) (k : Int) : hE l k = fndE l k 0 := by unfold fndE; simp
theorem fndE_t {l : List Ent} {k : Int} {i : Nat} {x : Ent} (h : fndE l k i = true) (hx : l[i]? = some x) : (x.id != k) = fndE l k (i + 1) := by
  unfold fndE at h ⊢
  rw [all_take (f := fun x => x.id != k) hx, ← Bool.and_assoc, h, Bool.true_and]
theorem fndE_f {l : List Ent} {k : Int} {i : Nat} {x : Ent} (h : fndE l k i = false) (hx : l[i]? = some x) : false = fndE l k (i + 1) := by
  unfold fndE at h ⊢
  rw [all_take (f := fun x => x.id != k) hx, ← Bool.and_assoc, h, Bool.false_and]
theorem fndE_end {l : List Ent} {k : Int} {i : Nat} (h : l.length ≤ i) : fndE l k i = false := by
  unfold fndE
  rw [List.take_of_length_le h]
  exact and_all none_E
end Go.Proofs.YteeillphhiaopaaGreatDoor
namespace Go.Proofs.YteeillphhiaopaaGreatDoor
open Go.ChangeShapes Go.WideShapes Go.ChangeAt Go.RowKit
set_option linter.unusedVariables false
abbrev okT {α : Type} : α → World → Prop := fun _ _ => True
abbrev feF {α : Type} : α → Nat → Prop := fun _ _ => False
section
variable {α : Type} {cs : α → Array Value} {size : Nat} {e : TypeId}
theorem Hp.rowNew {w0 w : World} {L : List HB} {K : List FK} (H : Hp w0 w L K) (i : Nat) {bb : Nat} (hi : L[i]? = some (bx bb e [] true)) (L' : List HB) (hL : L.set i (rowsR w0.heap.size e size cs okT feF (.slice (some ⟨bb, 0, none⟩) 0 0) []) = L') : Hp w0 w L' K := by
  have hbb := H.fresh _ (List.mem_of_getElem? hi) rfl bb rfl
  have hlt := (H.at_ i hi).lt
  refine H.mut i hi _ L' hL (Agree.of_below (Below.refl _ _)) ⟨own_none0 (H.at_ i hi) hbb, fun a ha => by cases ha⟩ (rowsR_ok elOk_flat) (fun q hq => ?_) (fun q hq => ?_) (fun q hq hq' => ?_) rfl
  · rcases hq with hq | ⟨_, ha, _⟩
    · cases hq; exact hlt
    · cases ha
  · rcases hq with hq | ⟨_, ha, _⟩
    · cases hq; exact .inl rfl
    · cases ha
  · have := H.fresh _ (List.mem_of_getElem? hi) rfl q hq'
    omega
theorem Hp.rowBox {w0 w : World} {L : List HB} {K : List FK} (H : Hp w0 w L K) (i : Nat) {B : Option Addr} {n c : Nat} {l : List α} (hi : L[i]? = some (rowsR w0.heap.size e size cs okT feF (.slice B n c) l)) (hn : l.length = n) (h0 : 0 < n) :
    ∃ g tail, B = some ⟨g, 0, none⟩ ∧ n ≤ c ∧ Hp w0 w (L.set i (bx g e (flat cs l ++ tail) true)) K := by
  subst hn
  obtain ⟨⟨h1, h2⟩, _⟩ := H.held i hi
  rcases h2 with ⟨_, h2⟩ | ⟨g, cap, cur, hv, hg, hh, hc, hm, hs, ht⟩
  · omega
  · cases hv
    have hx : Box w g e cur := hh
    refine ⟨g, cur.toList.drop (l.length * size), rfl, hc, H.mut i hi _ _ rfl (Agree.of_below (Below.refl _ _)) ?_ (bx_ok _ _ _ _) (fun q hq => ?_) (fun q hq => ?_) (fun q hq hq' => ?_) rfl⟩
    · show Box w g e _
      rw [← ht, List.take_append_drop]
      exact hx
    · cases hq; exact hx.lt
    · cases hq; exact .inl (.inl rfl)
    · have := H.fresh _ (List.mem_of_getElem? hi) rfl q hq'
      omega
def dropA (A : Option Addr) (cap i sz : Nat) : Option Addr := if cap = i then A else A.map (·.add (i * sz))
theorem flat_drop (hk : ∀ x, (cs x).size = size) (l : List α) (j : Nat) : (flat cs l).drop (j * size) = flat cs (l.drop j) := by
  induction l generalizing j with
  | nil => simp
  | cons a l ih =>
    cases j with
    | zero => simp
    | succ j =>
      simp only [flat, List.flatMap_cons, List.drop_succ_cons] at *
      rw [List.drop_append, ← ih j, Array.length_toList, hk, Nat.succ_mul, Nat.add_sub_cancel, List.drop_of_length_le (by rw [Array.length_toList, hk]; omega), List.nil_append]
theorem IsRow.dropA (hk : ∀ x, (cs x).size = size) {w : World} {A : Option Addr} {l : List α} {cap i : Nat} (h : IsRow size cs w A l) (hc : l.length ≤ cap) (hi : i ≤ l.length) : Rd w size (dropA A cap i size) (l.length - i) (flat cs (l.drop i)) := by
  obtain ⟨h1, h2⟩ := h
  refine ⟨by rw [flat_len hk, List.length_drop], ?_⟩
  by_cases hz : l.length - i = 0
  · exact .inl hz
  · obtain ⟨b, off, rfl, hb, hcell⟩ := h2.resolve_left (by omega)
    refine .inr ⟨b, off + i * size, ?_, hb, fun j hj => ?_⟩
    · unfold Proofs.YteeillphhiaopaaGreatDoor.dropA
      rw [if_neg (by omega), Option.map_some, add_plain]
    · rw [Nat.add_assoc, hcell (i * size + j) (by rw [Nat.sub_mul] at hj; omega), ← flat_drop hk, List.getElem?_drop]
end
section
variable {P : Program} {ρ : Operand → Value} {w : World} {t : TypeId} {x y : Operand} {dst : Option Tmp} {ty : TypeId} {pos : String} {af : Array Edge} {g : Option (Nat × Bool)}
theorem ex_sliceLo {A : Option Addr} {len cap i sz : Nat} {lo : Int} (hx : ρ x = .slice A len cap) (hy : ρ y = .int .i64 lo) (hu : P.underlying t = some (.slice (P.elem t))) (hs : sizeB P (P.elem t) = some sz) (h1 : lo = (i : Int)) (h2 : i ≤ len) :
    (execOp ρ ⟨dst, .slice t x (some y) none none, ty, pos, af, g⟩).run P w = .ok (.value (.slice (dropA A cap i sz) (len - i) (cap - i))) w := by
  subst h1
  have e : sliced A i len cap sz = .slice (dropA A cap i sz) (len - i) (cap - i) := rfl
  simp only [execOp, hx, hy, Option.map_none, Option.map_some, run_sliceAt_slice w t _ _ _ _ hu, run_slice_l w t A len cap hu .i64 (i : Int) (by omega) (by omega), run_sizeOf hs, Sem.run_bind, Result.andThen_ok, Sem.run_pure, Int.toNat_natCast, e]
end
section
variable {α : Type} {cs : α → Array Value} {size : Nat} {P : Program} {ops : Array Oper} {Q : Exit → Act → World → Prop} {a : Act} {w0 w : World} {rest : List Oper} {n : Nat} {L : List (Nat × Value)} {LH : List HB} {K : List FK} {ty : TypeId} {pos : String} {af : Array Edge} {g : Option (Nat × Bool)} {s x : Operand} {t : TypeId}
theorem wp_appX {KK : Act → World → Prop} {o : Oper} (H : Sl n L a) (HP : Hp w0 w LH K) (d ir : Nat) {v : Value} {l : List α} (e : TypeId) {z : Value} {bytes : Nat} (A : Option Addr) (m c : Nat) (l2 : List α)
    (ho : o.op = .call { callee := .builtin .append, args := #[s, x], argTypes := #[t, t] }) (hc : chk ops n L o d = true) (ht : P.underlying t = some (.slice e)) (hinf : infoB P e = some (some z, size, bytes)) (hzs : z.cells.size = size) (hsz : Nat.blt 0 size = true)
    (hs : ev L s = v) (hi : LH[ir]? = some (rowsR w0.heap.size e size cs okT feF v l)) (hx : ev L x = .slice A m c) (hA : A = none → m = 0 ∧ c = 0) (hr : Rd w size A m (flat cs l2)) (h1 : ∀ u ∈ flat cs l2, u.oneCell' = true)
    (hl2 : l2.length = m) (h63 : l.length + m ≤ maxLen) (hbytes : (l.length + m) * bytes ≤ 140737488355328)
    (k : ∀ B c' w' a', Sl n ((d, .slice B (l.length + m) c') :: L) a' → Hp w0 w' (LH.set ir (rowsR w0.heap.size e size cs okT feF (.slice B (l.length + m) c') (l ++ l2))) K → KK a' w') : o.wp P a w KK Q := by
  obtain ⟨hd, hn, hk, hs', hw⟩ := chk_spec hc
  have k1 := knowsAll_spec hk s (by rw [ho]; simp [Op.operands, Call.operands])
  have k2 := knowsAll_spec hk x (by rw [ho]; simp [Op.operands, Call.operands])
  obtain ⟨i, hi0, hi1, hi2, hi3⟩ := infoB_spec hinf
  have hF := HP.held ir hi
  refine wp_append_rd w s x t ho w0.heap.size e i z size bytes ht hi0 hi1 hi2 hi3 hzs (by simp [Nat.blt] at hsz; omega) v l.length (flat cs l) ((H.eval k1).trans hs) hF.1 A m c (flat cs l2) ((H.eval k2).trans hx) hA hr h1 h63 hbytes HP.size ?_
  intro B c' w' hown hg hat
  rw [hd]
  refine k B c' w' _ (H.put _ hn) (HP.mut ir hi _ _ rfl (Agree.of_grown hg fun q e => .inl e) ⟨?_, fun a ha => ⟨trivial, fun q hq => hq.elim⟩⟩ (rowsR_ok elOk_flat) (fun q hq => ?_) (fun q hq => ?_) (fun q hq hq' => ?_) rfl)
  · rw [List.length_append, hl2, show flat cs (l ++ l2) = flat cs l ++ flat cs l2 from List.flatMap_append]
    exact hown
  · rcases hq with hq | ⟨_, _, hq⟩
    · exact (own_lt hown q hq).1
    · exact hq.elim
  · rcases hq with hq | ⟨_, _, hq⟩
    · rcases hat with hat | hat
      · left; left; rw [← hat]; exact hq
      · right; rw [hat] at hq; cases hq; exact Nat.le_refl _
    · exact hq.elim
  · have := HP.fresh _ (List.mem_of_getElem? hi) rfl q hq'
    omega
theorem Sl.appX (H : Sl n L a) (HP : Hp w0 w LH K) (d ir : Nat) {v : Value} {l : List α} (e : TypeId) {z : Value} {bytes : Nat} (A : Option Addr) (m c : Nat) (l2 : List α)
    (hc : chk ops n L ⟨some d, .call { callee := .builtin .append, args := #[s, x], argTypes := #[t, t] }, ty, pos, af, g⟩ d = true) (ht : P.underlying t = some (.slice e)) (hinf : infoB P e = some (some z, size, bytes)) (hzs : z.cells.size = size) (hsz : Nat.blt 0 size = true)
    (hs : ev L s = v) (hi : LH[ir]? = some (rowsR w0.heap.size e size cs okT feF v l)) (hx : ev L x = .slice A m c) (hA : A = none → m = 0 ∧ c = 0) (hr : Rd w size A m (flat cs l2)) (h1 : ∀ u ∈ flat cs l2, u.oneCell' = true)
    (hl2 : l2.length = m) (h63 : l.length + m ≤ maxLen) (hbytes : (l.length + m) * bytes ≤ 140737488355328)
    (k : ∀ B c' w' a', Sl n ((d, .slice B (l.length + m) c') :: L) a' → Hp w0 w' (LH.set ir (rowsR w0.heap.size e size cs okT feF (.slice B (l.length + m) c') (l ++ l2))) K → wpList P ops Q rest a' w') :
    wpList P ops Q (⟨some d, .call { callee := .builtin .append, args := #[s, x], argTypes := #[t, t] }, ty, pos, af, g⟩ :: rest) a w := by
  obtain ⟨_, _, _, _, hw⟩ := chk_spec hc
  exact wpList_wanted (H.wanted hw) (wp_appX H HP d ir e A m c l2 rfl hc ht hinf hzs hsz hs hi hx hA hr h1 hl2 h63 hbytes k)
theorem Op.appX {KK : Act → World → Prop} {i : Nat} (H : Sl n L a) (HP : Hp w0 w LH K) (d ir : Nat) {v : Value} {l : List α} (e : TypeId) {z : Value} {bytes : Nat} (A : Option Addr) (m c : Nat) (l2 : List α)
    (hop : ops[i]? = some ⟨some d, .call { callee := .builtin .append, args := #[s, x], argTypes := #[t, t] }, ty, pos, af, g⟩)
    (hc : chk ops n L ⟨some d, .call { callee := .builtin .append, args := #[s, x], argTypes := #[t, t] }, ty, pos, af, g⟩ d = true) (ht : P.underlying t = some (.slice e)) (hinf : infoB P e = some (some z, size, bytes)) (hzs : z.cells.size = size) (hsz : Nat.blt 0 size = true)
    (hs : ev L s = v) (hi : LH[ir]? = some (rowsR w0.heap.size e size cs okT feF v l)) (hx : ev L x = .slice A m c) (hA : A = none → m = 0 ∧ c = 0) (hr : Rd w size A m (flat cs l2)) (h1 : ∀ u ∈ flat cs l2, u.oneCell' = true)
    (hl2 : l2.length = m) (h63 : l.length + m ≤ maxLen) (hbytes : (l.length + m) * bytes ≤ 140737488355328)
    (k : ∀ B c' w' a', Sl n ((d, .slice B (l.length + m) c') :: L) a' → Hp w0 w' (LH.set ir (rowsR w0.heap.size e size cs okT feF (.slice B (l.length + m) c') (l ++ l2))) K → KK a' w') : wpOp P ops Q i KK a w := by
  obtain ⟨_, _, _, _, hw⟩ := chk_spec hc
  exact wpOp_wanted hop (H.wanted hw) (wp_appX H HP d ir e A m c l2 rfl hc ht hinf hzs hsz hs hi hx hA hr h1 hl2 h63 hbytes k)
end
theorem setAll_len {us vs : List Value} {off : Nat} : (setAll us off vs).length = us.length := by
  induction vs generalizing us off with
  | nil => rfl
  | cons v vs ih => rw [setAll, ih, List.length_set]
theorem setAll_get {us vs : List Value} {off : Nat} (h : off + vs.length ≤ us.length) (i : Nat) : (setAll us off vs)[i]? = if off ≤ i ∧ i < off + vs.length then vs[i - off]? else us[i]? := by
  induction vs generalizing us off with
  | nil => rw [setAll, if_neg (by simp only [List.length_nil]; omega)]
  | cons v vs ih =>
    rw [List.length_cons] at h
    rw [setAll, ih (by rw [List.length_set]; omega), List.length_cons, List.getElem?_set]
    by_cases h1 : i = off
    · subst h1
      rw [if_neg (by omega), if_pos rfl, if_pos (by omega), if_pos (by omega), Nat.sub_self]
      rfl
    · by_cases h2 : off + 1 ≤ i ∧ i < off + 1 + vs.length
      · rw [if_pos h2, if_pos (by omega), show i - off = (i - (off + 1)) + 1 by omega]
        rfl
      · rw [if_neg h2, if_neg (fun e => h1 e.symm), if_neg (by omega)]
theorem flat_cell {α : Type} {cs : α → Array Value} {size : Nat} (hk : ∀ x, (cs x).size = size) {l : List α} {j : Nat} {x : α} (h : l[j]? = some x) {f : Nat} (hf : f < size) : (flat cs l)[j * size + f]? = (cs x).toList[f]? := by
  obtain ⟨hj, rfl⟩ := List.getElem?_eq_some_iff.1 h
  rw [flat_get hk l j f hj hf, Array.getElem?_toList]
theorem flat_setAll {α : Type} {cs : α → Array Value} {size : Nat} (hk : ∀ x, (cs x).size = size) (h0 : 0 < size) {l : List α} {tail : List Value} {j : Nat} (hj : j < l.length) (x : α) : setAll (flat cs l ++ tail) (j * size) (cs x).toList = flat cs (l.set j x) ++ tail := by
  have hlen : (cs x).toList.length = size := by rw [Array.length_toList, hk]
  have hm : j * size + size ≤ l.length * size := by rw [← Nat.succ_mul]; exact Nat.mul_le_mul_right _ hj
  apply List.ext_getElem?
  intro i
  rw [setAll_get (by rw [List.length_append, flat_len hk, hlen]; omega), hlen]
  by_cases hi : i < l.length * size
  · rw [List.getElem?_append_left (by rw [flat_len hk]; exact hi), List.getElem?_append_left (by rw [flat_len hk, List.length_set]; exact hi)]
    have hq : i / size < l.length := (Nat.div_lt_iff_lt_mul h0).2 hi
    have hr : i % size < size := Nat.mod_lt _ h0
    have hi' : i = i / size * size + i % size := by rw [Nat.mul_comm]; exact (Nat.div_add_mod i size).symm
    by_cases hji : i / size = j
    · rw [if_pos (by rw [hji] at hi'; omega)]
      have h1 := flat_cell hk (l := l.set j x) (j := j) (x := x) (by rw [List.getElem?_set_self hj]) hr
      rw [show i - j * size = i % size by rw [hji] at hi'; omega, ← h1]
      rw [show j * size + i % size = i by rw [hji] at hi'; omega]
    · rw [if_neg (fun h => hji (Nat.div_eq_of_lt_le (by omega) (by rw [Nat.succ_mul]; omega)))]
      have h1 := flat_cell hk (l := l) (j := i / size) (x := l[i / size]) (List.getElem?_eq_getElem hq) hr
      have h2 := flat_cell hk (l := l.set j x) (j := i / size) (x := l[i / size]) (by rw [List.getElem?_set_ne (fun e => hji e.symm)]; exact List.getElem?_eq_getElem hq) hr
      rw [← hi'] at h1 h2
      rw [h1, h2]
  · rw [if_neg (by omega), List.getElem?_append_right (by rw [flat_len hk]; omega), List.getElem?_append_right (by rw [flat_len hk, List.length_set]; omega), flat_len hk, flat_len hk, List.length_set]
theorem Hp.elem {α : Type} {cs : α → Array Value} {size : Nat} (hk : ∀ x, (cs x).size = size) {w0 w : World} {L : List HB} {K : List FK} (H : Hp w0 w L K) (i : Nat) {g : Nat} {e : TypeId} {l : List α} {tail : List Value} (hi : L[i]? = some (bx g e (flat cs l ++ tail) true)) {j : Nat} {x : α} (hj : l[j]? = some x) : cellsAt w g (j * size) (cs x).toList := by
  intro f v hv
  have hf : f < size := by
    have := (List.getElem?_eq_some_iff.1 hv).1
    rwa [Array.length_toList, hk] at this
  have hjl := (List.getElem?_eq_some_iff.1 hj).1
  have hm : j * size + size ≤ l.length * size := by rw [← Nat.succ_mul]; exact Nat.mul_le_mul_right _ hjl
  exact H.cell i hi (j * size + f) (by rw [List.getElem?_append_left (by rw [flat_len hk]; omega), flat_cell hk hj hf]; exact hv)
theorem IsRow.ofBox {α : Type} {cs : α → Array Value} {size : Nat} (hk : ∀ x, (cs x).size = size) {w : World} {g : Nat} {e : TypeId} {l : List α} {tail : List Value} (h : Box w g e (flat cs l ++ tail).toArray) : IsRow size cs w (some ⟨g, 0, none⟩) l := by
  refine ⟨flat_len hk l, .inr ⟨g, 0, rfl, h.lt, fun i hi => ?_⟩⟩
  have hi' : i < (flat cs l).length := by rw [flat_len hk l]; exact hi
  rw [Nat.zero_add, List.getElem?_eq_getElem hi']
  exact h.cell (by rw [List.getElem?_toArray, List.getElem?_append_left hi', List.getElem?_eq_getElem hi'])
theorem IsRow.ofOwn {α : Type} {cs : α → Array Value} {size base n c : Nat} {e : TypeId} {w : World} {B : Option Addr} {l : List α} (h : (rowsR base e size cs okT feF (.slice B n c) l).F w) (hn : l.length = n) : IsRow size cs w B l := by
  subst hn
  exact Rd.of_own h.1
theorem flat_ones {α : Type} {cs : α → Array Value} (h : ∀ x, oneCells (cs x).toList = true) (l : List α) : ∀ u ∈ flat cs l, u.oneCell' = true := by
  intro u hu
  obtain ⟨x, _, hx⟩ := List.mem_flatMap.1 hu
  exact oneCells_spec (h x) u hx
end Go.Proofs.YteeillphhiaopaaGreatDoor
namespace Go.Proofs.YteeillphhiaopaaGreatDoor
open Go.ChangeShapes Go.WideShapes Go.ChangeAt Go.RowKit
set_option linter.unusedVariables false
def withEs (p : Pln) (B : Option Addr) (c : Nat) (l : List Ent) : Pln := ⟨p.channel, p.num, p.den, p.offset, p.SA, p.sc, p.sh, p.epoch, p.regions, p.length, p.fill, p.IA, p.ic, p.its, B, c, l, p.BA, p.bc, p.bs, p.CA, p.cc, p.cs⟩
def withBs (p : Pln) (B : Option Addr) (c : Nat) (l : List Bkg) : Pln := ⟨p.channel, p.num, p.den, p.offset, p.SA, p.sc, p.sh, p.epoch, p.regions, p.length, p.fill, p.IA, p.ic, p.its, p.EA, p.ec, p.es, B, c, l, p.CA, p.cc, p.cs⟩
def withCs (p : Pln) (B : Option Addr) (c : Nat) (l : List Cls) : Pln := ⟨p.channel, p.num, p.den, p.offset, p.SA, p.sc, p.sh, p.epoch, p.regions, p.length, p.fill, p.IA, p.ic, p.its, p.EA, p.ec, p.es, p.BA, p.bc, p.bs, B, c, l⟩
def withLen (p : Pln) (n : Int) : Pln := ⟨p.channel, p.num, p.den, p.offset, p.SA, p.sc, p.sh, p.epoch, p.regions, n, p.fill, p.IA, p.ic, p.its, p.EA, p.ec, p.es, p.BA, p.bc, p.bs, p.CA, p.cc, p.cs⟩
theorem IsPln.withEs {w : World} {p : Pln} (h : IsPln w p) {B : Option Addr} {c : Nat} {l : List Ent} (hr : IsRow 7 enC w B l) (hl : l.length ≤ maxLen) (hm : ∀ e ∈ l, e ∈ p.es) : IsPln w (withEs p B c l) :=
  ⟨h.sh, h.its, ⟨hr, fun e he => h.es.ok e (hm e he)⟩, h.bs, h.cs, h.lsh, h.lits, hl, h.lbs, h.lcs⟩
theorem IsPln.withBs {w : World} {p : Pln} (h : IsPln w p) {B : Option Addr} {c : Nat} {l : List Bkg} (hr : IsRow 7 bkC w B l) (hl : l.length ≤ maxLen) : IsPln w (withBs p B c l) :=
  ⟨h.sh, h.its, h.es, hr, h.cs, h.lsh, h.lits, h.les, hl, h.lcs⟩
theorem IsPln.withCs {w : World} {p : Pln} (h : IsPln w p) {B : Option Addr} {c : Nat} {l : List Cls} (hr : IsRow 8 clC w B l) (hl : l.length ≤ maxLen) : IsPln w (withCs p B c l) :=
  ⟨h.sh, h.its, h.es, h.bs, hr, h.lsh, h.lits, h.les, h.lbs, hl⟩
theorem IsPln.withLen {w : World} {p : Pln} (h : IsPln w p) (n : Int) : IsPln w (withLen p n) := ⟨h.sh, h.its, h.es, h.bs, h.cs, h.lsh, h.lits, h.les, h.lbs, h.lcs⟩
def cutL {α : Type} (l : List α) (a : Nat) : List α := l.take a ++ l.drop (a + 1)
theorem cutL_sub {α : Type} (l : List α) (a : Nat) : (cutL l a).Sublist l := by
  have : (l.take a ++ l.drop (a + 1)).Sublist (l.take a ++ l.drop a) := List.Sublist.append (List.Sublist.refl _) (by rw [← List.drop_drop]; exact List.drop_sublist _ _)
  rw [List.take_append_drop] at this
  exact this
theorem cutL_at {α : Type} {l : List α} {a : Nat} {x : α} (h : l[a]? = some x) : l = l.take a ++ x :: l.drop (a + 1) := by
  obtain ⟨ha, rfl⟩ := List.getElem?_eq_some_iff.1 h
  rw [← List.drop_eq_getElem_cons ha, List.take_append_drop]
theorem part_es {p : Pln} (h : validPl p = true) (B : Option Addr) (c : Nat) {l : List Ent} (hl : l.length ≤ p.es.length) (hm : ∀ e ∈ l, e ∈ p.es) (hn : (l.map fun e => e.id).Nodup) : validPl (withEs p B c l) = true := by
  obtain ⟨h1, h2, h3, ⟨h4, h5, h6⟩, h7⟩ := valid_iff.1 h
  exact valid_iff.2 ⟨h1, h2, h3, ⟨by show (l.length : Int) ≤ 4000; omega, fun e he => h5 e (hm e he), hn⟩, h7⟩
theorem es_nodup {p : Pln} (h : validPl p = true) : (p.es.map fun e => e.id).Nodup := by
  obtain ⟨h1, h2, h3, ⟨h4, h5, h6⟩, h7⟩ := valid_iff.1 h
  exact h6
theorem part_cut {p : Pln} (h : validPl p = true) (B : Option Addr) (c a : Nat) : validPl (withEs p B c (cutL p.es a)) = true :=
  part_es h B c (cutL_sub _ _).length_le (fun e he => (cutL_sub _ _).subset he) ((es_nodup h).sublist ((cutL_sub _ _).map _))
def swapL {α : Type} (l : List α) (a b : Nat) (x y : α) : List α := (l.set a y).set b x
theorem swap_perm {α : Type} {l : List α} {a b : Nat} {x y : α} (ha : l[a]? = some x) (hb : l[b]? = some y) : (swapL l a b x y).Perm l := by
  obtain ⟨ha', rfl⟩ := List.getElem?_eq_some_iff.1 ha
  obtain ⟨hb', rfl⟩ := List.getElem?_eq_some_iff.1 hb
  exact List.set_set_perm ha' hb'
theorem part_swap {p : Pln} (h : validPl p = true) (B : Option Addr) (c a b : Nat) {x y : Ent} (ha : p.es[a]? = some x) (hb : p.es[b]? = some y) : validPl (withEs p B c (swapL p.es a b x y)) = true :=
  part_es h B c (Nat.le_of_eq (swap_perm ha hb).length_eq) (fun e he => (swap_perm ha hb).mem_iff.1 he) (((swap_perm ha hb).map _).nodup_iff.2 (es_nodup h))
theorem part_cs {p : Pln} (h : validPl p = true) (B : Option Addr) (c a : Nat) : validPl (withCs p B c (cutL p.cs a)) = true := by
  obtain ⟨h1, h2, h3, h4, h5, h6⟩ := valid_iff.1 h
  have := (cutL_sub p.cs a).length_le
  exact valid_iff.2 ⟨h1, h2, h3, h4, by show ((cutL p.cs a).length : Int) ≤ 400; omega, fun x hx => h6 x ((cutL_sub _ _).subset hx)⟩
theorem part_len {p : Pln} (h : validPl p = true) {n : Int} (h1 : p.length ≤ n) (h2 : n ≤ 100000000) : validPl (withLen p n) = true := by
  obtain ⟨hs, hi, hb, ⟨h4, h5, h6⟩, h7⟩ := valid_iff.1 h
  refine valid_iff.2 ⟨?_, hi, hb, ⟨h4, fun e he => ⟨?_, (h5 e he).2⟩, h6⟩, h7⟩
  · unfold soundP at hs ⊢
    simp only [Bool.and_eq_true, inR_iff] at hs ⊢
    exact ⟨hs.1, by show 1 ≤ n; have := hs.2.1; omega, h2⟩
  · have h8 := (h5 e he).1
    unfold entP fitsP at h8 ⊢
    simp only [Bool.and_eq_true, decide_eq_true_eq] at h8 ⊢
    obtain ⟨⟨⟨g1, g2, ⟨g3, g4⟩, g5⟩, g6⟩, g7⟩ := h8
    refine ⟨⟨⟨g1, g2, ⟨g3, g4⟩, ?_⟩, g6⟩, g7⟩
    show e.latest ≤ n - e.frames
    omega
theorem part_bs {p : Pln} (h : validPl p = true) (B : Option Addr) (c : Nat) {a : Nat} {b : Bkg} (hb : p.bs[a]? = some b) : validPl (withBs p B c (cutL p.bs a)) = !(p.es.any fun e => e.booking == b.id) := by
  obtain ⟨h1, h2, ⟨h3, ⟨g1, g2⟩, g3⟩, ⟨h4, h5, h6⟩, h7⟩ := valid_iff.1 h
  have hbm : b ∈ p.bs := List.mem_of_getElem? hb
  have hid := g1 b.id (List.mem_map_of_mem hbm)
  have hsub := cutL_sub p.bs a
  have hcut := cutL_at hb
  have hnot : ∀ x ∈ cutL p.bs a, x.id ≠ b.id := by
    have hnd := nodup_lt g2
    rw [hcut, List.map_append, List.map_cons] at hnd
    have hnd2 := (List.perm_middle.nodup_iff.1 hnd)
    rw [List.nodup_cons, ← List.map_append] at hnd2
    intro x hx he
    exact hnd2.1 (he ▸ List.mem_map_of_mem hx)
  cases hany : p.es.any fun e => e.booking == b.id with
  | true =>
    obtain ⟨e, he, heb⟩ := List.any_eq_true.1 hany
    have heb' : e.booking = b.id := by simpa using heb
    rw [Bool.not_true, Bool.eq_false_iff]
    intro hv
    obtain ⟨_, _, _, ⟨_, k5, _⟩, _⟩ := valid_iff.1 hv
    have k := (k5 e he).1
    unfold entP fulP at k
    simp only [Bool.and_eq_true, Bool.or_eq_true, beq_iff_eq] at k
    rcases k.2 with k | k
    · omega
    · have hn : hB (cutL p.bs a) e.booking = false := none_B (List.all_eq_true.2 fun x hx => by rw [heb']; simpa using hnot x hx)
      have k1 : hB (cutL p.bs a) e.booking = true := k.1
      rw [hn] at k1
      cases k1
  | false =>
    refine valid_iff.2 ⟨h1, h2, ⟨by show ((cutL p.bs a).length : Int) ≤ 2000; have := hsub.length_le; omega, ⟨fun n hn => g1 n ((hsub.map _).subset hn), g2.sublist (hsub.map _)⟩, fun x hx => g3 x (hsub.subset hx)⟩, ⟨h4, fun e he => ⟨?_, (h5 e he).2⟩, h6⟩, h7⟩
    have hne : ¬ e.booking = b.id := by
      have := List.any_eq_false.1 hany e he
      simpa using this
    have hf : fB (cutL p.bs a) e.booking = fB p.bs e.booking := by
      unfold fB
      have e1 : (p.bs.find? fun x => x.id == e.booking) = ((p.bs.take a).find? fun x => x.id == e.booking).or ((b :: p.bs.drop (a + 1)).find? fun x => x.id == e.booking) := by rw [← List.find?_append, ← hcut]
      rw [e1, cutL, List.find?_append, List.find?_cons_of_neg (by simpa using fun e => hne e.symm)]
    have k := (h5 e he).1
    unfold entP fulP hB gB at k ⊢
    show (inR e.id 1 1000000 && fitsP p.its p.length e && altsP p.its p.regions e && (e.booking == 0 || ((fB (cutL p.bs a) e.booking).isSome && (if ((fB (cutL p.bs a) e.booking).getD bkZ).region = 0 then ((fB (cutL p.bs a) e.booking).getD bkZ).item == e.item else e.al.any fun x => x.1 == ((fB (cutL p.bs a) e.booking).getD bkZ).region && x.2 == ((fB (cutL p.bs a) e.booking).getD bkZ).item)))) = true
    rw [hf]
    exact k
def namedB (l : List Ent) (n : Int) (j : Nat) : Bool := (l.take j).any fun e => e.booking == n
theorem any_take {α : Type} {l : List α} {f : α → Bool} {i : Nat} {x : α} (hx : l[i]? = some x) : (l.take (i + 1)).any f = ((l.take i).any f || f x) := by
  rw [List.take_add_one, hx]
  simp [List.any_append]
theorem namedB_f {l : List Ent} {n : Int} {j : Nat} {x : Ent} (h : namedB l n j = false) (hx : l[j]? = some x) : (x.booking == n) = namedB l n (j + 1) := by
  unfold namedB at h ⊢
  rw [any_take (f := fun e => e.booking == n) hx, h, Bool.false_or]
theorem namedB_t {l : List Ent} {n : Int} {j : Nat} {x : Ent} (h : namedB l n j = true) (hx : l[j]? = some x) : true = namedB l n (j + 1) := by
  unfold namedB at h ⊢
  rw [any_take (f := fun e => e.booking == n) hx, h, Bool.true_or]
theorem namedB_end {l : List Ent} {n : Int} {j : Nat} (h : l.length ≤ j) : namedB l n j = l.any fun e => e.booking == n := by
  unfold namedB
  rw [List.take_of_length_le h]
end Go.Proofs.YteeillphhiaopaaGreatDoor
namespace Go.Proofs.YteeillphhiaopaaGreatDoor
open Go.ChangeShapes Go.WideShapes Go.ChangeAt Go.RowKit
set_option linter.unusedVariables false
set_option linter.unusedSimpArgs false
theorem oc_en (x : Ent) : oneCells (enC x).toList = true := rfl
theorem oc_bk (x : Bkg) : oneCells (bkC x).toList = true := rfl
theorem oc_cl (x : Cls) : oneCells (clC x).toList = true := rfl
theorem valid_cutE (p : Pln) (hv : validPl p = true) (B : Option Addr) (c n a : Nat) (hn : (cutL p.es a).length = n) (w : World) (hp : IsPln w p) (hr : IsRow 7 enC w B (cutL p.es a)) (hL : LaidR w) : Calls Tryz.prog 14 #[(.agg #[(.int .i64 p.channel), (.int .i64 p.num), (.int .i64 p.den), (.int .i64 p.offset), (.slice p.SA p.sh.length p.sc), (.int .i64 p.epoch), (.int .i64 p.regions), (.int .i64 p.length), (.int .i64 p.fill), (.slice p.IA p.its.length p.ic), (.slice B n c), (.slice p.BA p.bs.length p.bc), (.slice p.CA p.cs.length p.cc)])] w fun e w' => e = .returned (.bool true) ∧ Below w.heap.size w w' := by
 subst hn
 have hh := valid_any (withEs p B c (cutL p.es a)) w (hp.withEs hr (Nat.le_trans (cutL_sub _ _).length_le hp.les) fun e he => (cutL_sub _ _).subset he) hL
 rw [part_cut hv] at hh
 exact hh
theorem valid_swapE (p : Pln) (hv : validPl p = true) (B : Option Addr) (c a b : Nat) {x y : Ent} (ha : p.es[a]? = some x) (hb : p.es[b]? = some y) (w : World) (hp : IsPln w p) (hr : IsRow 7 enC w B (swapL p.es a b x y)) (hL : LaidR w) : Calls Tryz.prog 14 #[(.agg #[(.int .i64 p.channel), (.int .i64 p.num), (.int .i64 p.den), (.int .i64 p.offset), (.slice p.SA p.sh.length p.sc), (.int .i64 p.epoch), (.int .i64 p.regions), (.int .i64 p.length), (.int .i64 p.fill), (.slice p.IA p.its.length p.ic), (.slice B p.es.length c), (.slice p.BA p.bs.length p.bc), (.slice p.CA p.cs.length p.cc)])] w fun e w' => e = .returned (.bool true) ∧ Below w.heap.size w w' := by
 have hl := (swap_perm ha hb).length_eq
 have hh := valid_any (withEs p B c (swapL p.es a b x y)) w (hp.withEs hr (by rw [hl]; exact hp.les) fun e he => (swap_perm ha hb).mem_iff.1 he) hL
 rw [part_swap hv B c a b ha hb] at hh
 rw [← hl]
 exact hh
theorem valid_cutC (p : Pln) (hv : validPl p = true) (B : Option Addr) (c n a : Nat) (hn : (cutL p.cs a).length = n) (w : World) (hp : IsPln w p) (hr : IsRow 8 clC w B (cutL p.cs a)) (hL : LaidR w) : Calls Tryz.prog 14 #[(.agg #[(.int .i64 p.channel), (.int .i64 p.num), (.int .i64 p.den), (.int .i64 p.offset), (.slice p.SA p.sh.length p.sc), (.int .i64 p.epoch), (.int .i64 p.regions), (.int .i64 p.length), (.int .i64 p.fill), (.slice p.IA p.its.length p.ic), (.slice p.EA p.es.length p.ec), (.slice p.BA p.bs.length p.bc), (.slice B n c)])] w fun e w' => e = .returned (.bool true) ∧ Below w.heap.size w w' := by
 subst hn
 have hh := valid_any (withCs p B c (cutL p.cs a)) w (hp.withCs hr (Nat.le_trans (cutL_sub _ _).length_le hp.lcs)) hL
 rw [part_cs hv] at hh
 exact hh
theorem valid_cutB (p : Pln) (hv : validPl p = true) (B : Option Addr) (c n a : Nat) {b : Bkg} (hb : p.bs[a]? = some b) (hn : (cutL p.bs a).length = n) (w : World) (hp : IsPln w p) (hr : IsRow 7 bkC w B (cutL p.bs a)) (hL : LaidR w) : Calls Tryz.prog 14 #[(.agg #[(.int .i64 p.channel), (.int .i64 p.num), (.int .i64 p.den), (.int .i64 p.offset), (.slice p.SA p.sh.length p.sc), (.int .i64 p.epoch), (.int .i64 p.regions), (.int .i64 p.length), (.int .i64 p.fill), (.slice p.IA p.its.length p.ic), (.slice p.EA p.es.length p.ec), (.slice B n c), (.slice p.CA p.cs.length p.cc)])] w fun e w' => e = .returned (.bool (!(p.es.any fun e => e.booking == b.id))) ∧ Below w.heap.size w w' := by
 subst hn
 have hh := valid_any (withBs p B c (cutL p.bs a)) w (hp.withBs hr (Nat.le_trans (cutL_sub _ _).length_le hp.lbs)) hL
 rw [part_bs hv B c hb] at hh
 exact hh
theorem valid_len (p : Pln) (hv : validPl p = true) (n : Int) (h1 : p.length ≤ n ∧ n ≤ 100000000) (w : World) (hp : IsPln w p) (hL : LaidR w) : Calls Tryz.prog 14 #[(.agg #[(.int .i64 p.channel), (.int .i64 p.num), (.int .i64 p.den), (.int .i64 p.offset), (.slice p.SA p.sh.length p.sc), (.int .i64 p.epoch), (.int .i64 p.regions), (.int .i64 n), (.int .i64 p.fill), (.slice p.IA p.its.length p.ic), (.slice p.EA p.es.length p.ec), (.slice p.BA p.bs.length p.bc), (.slice p.CA p.cs.length p.cc)])] w fun e w' => e = .returned (.bool true) ∧ Below w.heap.size w w' := by
 have hh := valid_any (withLen p n) w (hp.withLen n) hL
 rw [part_len hv h1.1 h1.2] at hh
 exact hh
theorem len_ok {p : Pln} (h : validPl p = true) : 1 ≤ p.length ∧ p.length ≤ 100000000 := by
 have hs := (valid_iff.1 h).1
 unfold soundP at hs
 simp only [Bool.and_eq_true, inR_iff] at hs
 exact hs.2
theorem cutL_len {α : Type} {l : List α} {a : Nat} (h : a < l.length) : (cutL l a).length = a + (l.length - (a + 1)) := by
 unfold cutL
 rw [List.length_append, List.length_take, List.length_drop]
 omega
theorem swap_cells {l : List Ent} {tl : List Value} {a b : Nat} {x y : Ent} (ha : a < l.length) (hb : b < l.length) : setAll (setAll (flat enC l ++ tl) (0 + a * 7) (enL y)) (0 + b * 7) (enL x) = flat enC (swapL l a b x y) ++ tl := by
 rw [Nat.zero_add, Nat.zero_add, show enL y = (enC y).toList from rfl, show enL x = (enC x).toList from rfl, flat_setAll enC_size (by decide) ha, flat_setAll enC_size (by decide) (by rw [List.length_set]; exact hb)]
 rfl
theorem take_n {α : Type} {l : List α} {a : Nat} (h : a < l.length) : (l.take a).length = a := by rw [List.length_take]; omega
set_option maxRecDepth 100000 in
set_option maxHeartbeats 4000000 in
theorem parts_some (p : Pln) (i k : Int) (w : World) (a0 a1 : Addr) (hL : LaidP a0 a1 w) (hpl_p : IsPln w p) (hf_p : PlFit p) (hri : -9223372036854775808 ≤ i ∧ i ≤ 9223372036854775807) (hrk : -9223372036854775808 ≤ k ∧ k ≤ 9223372036854775807) (hv : validN (shN p.nv) = true) : Calls Tryz.prog 10 #[(plV p), .int .i64 i, .int .i64 k] w fun e w' => e = .returned (.bool true) ∧ Below w.heap.size w w' := by
 have HP := Hp.start w
 refine w_enter 175 [(0, (plV p)), (1, (ii i)), (2, (ii k))] Tryz.func10 rfl Tryz.ntmps10 (by kernel_rfl) (by kernel_rfl) fun a H => ?_
 refine wp_seq (w_region ?_)
 refine H.alloc HP 3 (fun b => (pt b 0)) 32 (plL p) (by kernel_rfl) (fun w => by kernel_rfl) fun b_1 w_2 a H HP => ?_
 refine H.v 6 (.bool false) fun a H => ?_
 refine wpList_nil (then_normal (wp_seq (w_region ?_)))
 refine H.call 19 (by kernel_rfl) (Eq.trans (by kernel_rfl : _ = (callFunc 12 #[]).run Tryz.prog w_2) (Tryz.call12 _ _)) (sane_any a0 a1 w_2 (hL.below HP.bl)) ?_
 rintro e w_3 ⟨rfl, hb⟩
 refine ⟨_, rfl, ?_⟩
 intro a H
 have HP := HP.next hb
 refine H.v 7 (.bool true) fun a H => ?_
 refine wpList_nil (then_normal (wp_seq (w_region ?_)))
 refine H.u 20 (plV p) (ex_loadN (vs := (plL p)) (by kernel_rfl) (by kernel_rfl) (by kernel_rfl) rfl (HP.cells 0 rfl 0 13 (by kernel_rfl))) fun a H => ?_
 refine H.call 21 (by kernel_rfl) (Eq.trans (by kernel_rfl : _ = (callFunc 13 #[(plV p)]).run Tryz.prog w_3) (Tryz.call13 _ _)) (short_law p w w_3 hpl_p HP.bl hf_p) ?_
 rintro e w_4 ⟨p1, rfl, hnv_p1, hq_p1, hfr_p1, hsm_p1, hb⟩
 refine ⟨_, rfl, ?_⟩
 intro a H
 have HP := HP.keepQ hb (by kernel_rfl) p1 hq_p1 hfr_p1
 refine H.store HP 0 b_1 0 13 32 _ true (plV p1) [bx b_1 32 (plL p1) true] (by kernel_rfl) (by kernel_rfl) (by kernel_rfl) rfl (by kernel_rfl) (by kernel_rfl) (by kernel_rfl) (by kernel_rfl) (by kernel_rfl) fun w_5 a H HP => ?_
 refine wpList_nil (then_normal (wp_seq (wp_seq (w_region ?_))))
 refine H.u 22 (plV p1) (ex_loadN (vs := (plL p1)) (by kernel_rfl) (by kernel_rfl) (by kernel_rfl) rfl (HP.cells 0 rfl 0 13 (by kernel_rfl))) fun a H => ?_
 refine H.call 23 (by kernel_rfl) (Eq.trans (by kernel_rfl : _ = (callFunc 14 #[(plV p1)]).run Tryz.prog w_5) (Tryz.call14 _ _)) ((by have hh := valid_any p1 w_5 (HP.fact 0 rfl : IsPln _ p1) (hL.below HP.bl).rates; rw [valid_on hnv_p1 hv] at hh; exact hh)) ?_
 rintro e w_6 ⟨rfl, hb⟩
 refine ⟨_, rfl, ?_⟩
 intro a H
 have HP := HP.next hb
 refine H.v 24 (.bool false) fun a H => ?_
 refine wpList_nil (then_normal ?_)
 refine w_iff H rfl ?_
 refine wp_skip (then_normal ?_)
 have hvp : validPl p1 = true := valid_on hnv_p1 hv
 have hz3 := hsm_p1.es
 have hz2 := hsm_p1.bs
 have hz4 := hsm_p1.cs
 obtain ⟨_, hz5, hz6, hz7⟩ := hsm_p1.cap
 refine w_cut (fun a wv => Sl 175 [(7, (.bool true)), (6, (.bool false)), (3, (pt b_1 0)), (0, (plV p)), (1, (ii i)), (2, (ii k))] a ∧ Hp w wv [bx b_1 32 (plL p1) true] [plnK p1]) ?_ ?_
 ·
  refine wp_seq (w_region ?_)
  refine H.v 26 (pt b_1 10) fun a H => ?_
  refine H.u 27 (.slice p1.EA p1.es.length p1.ec) (ex_l1 (HP.cell 0 rfl 10 rfl)) fun a H => ?_
  refine H.v 28 (ii p1.es.length) fun a H => ?_
  refine H.v 29 (.bool (decide ((p1.es.length : Int) > 0))) fun a H => ?_
  refine wpList_nil (then_normal ?_)
  refine w_if H rfl (fun g29 => ?_) (fun g29 => ?_)
  ·have g29p := of_decide_eq_true g29
   refine wp_seq (w_region ?_)
   refine H.v 30 (ii i) fun a H => ?_
   refine H.v 31 (pt b_1 10) fun a H => ?_
   refine H.u 32 (.slice p1.EA p1.es.length p1.ec) (ex_l1 (HP.cell 0 rfl 10 rfl)) fun a H => ?_
   refine H.v 33 (ii p1.es.length) fun a H => ?_
   have hp_na := pickI_lt i (p1.es.length : Int) (by omega)
   obtain ⟨na, he_na⟩ : ∃ z : Nat, pickI i (p1.es.length : Int) = (z : Int) := ⟨_, (Int.toNat_of_nonneg hp_na.1).symm⟩
   have hl_na : na < p1.es.length := by omega
   obtain ⟨xna, hx_na⟩ : ∃ z, p1.es[na]? = some z := ⟨_, List.getElem?_eq_getElem hl_na⟩
   refine H.call 34 (by kernel_rfl) (Eq.trans (by kernel_rfl : _ = (callFunc 29 #[(ii i), (ii p1.es.length)]).run Tryz.prog w_6) (Tryz.call29 _ _)) ((by have hh := pick_any i (p1.es.length : Int) w_6 hri (by omega); rw [he_na] at hh; exact hh)) ?_
   rintro e w_7 ⟨rfl, rfl⟩
   refine ⟨_, rfl, ?_⟩
   intro a H
   have HP := HP
   refine H.v 8 (ii na) fun a H => ?_
   refine wpList_nil (then_normal (wp_seq (w_region ?_)))
   refine H.v 35 (ii k) fun a H => ?_
   refine H.v 36 (pt b_1 10) fun a H => ?_
   refine H.u 37 (.slice p1.EA p1.es.length p1.ec) (ex_l1 (HP.cell 0 rfl 10 rfl)) fun a H => ?_
   refine H.v 38 (ii p1.es.length) fun a H => ?_
   have hp_nb := pickI_lt k (p1.es.length : Int) (by omega)
   obtain ⟨nb, he_nb⟩ : ∃ z : Nat, pickI k (p1.es.length : Int) = (z : Int) := ⟨_, (Int.toNat_of_nonneg hp_nb.1).symm⟩
   have hl_nb : nb < p1.es.length := by omega
   obtain ⟨xnb, hx_nb⟩ : ∃ z, p1.es[nb]? = some z := ⟨_, List.getElem?_eq_getElem hl_nb⟩
   refine H.call 39 (by kernel_rfl) (Eq.trans (by kernel_rfl : _ = (callFunc 29 #[(ii k), (ii p1.es.length)]).run Tryz.prog w_6) (Tryz.call29 _ _)) ((by have hh := pick_any k (p1.es.length : Int) w_6 hrk (by omega); rw [he_nb] at hh; exact hh)) ?_
   rintro e w_8 ⟨rfl, rfl⟩
   refine ⟨_, rfl, ?_⟩
   intro a H
   have HP := HP
   refine H.v 9 (ii nb) fun a H => ?_
   refine wpList_nil (then_normal (wp_seq (w_region ?_)))
   refine H.u 40 (plV p1) (ex_loadN (vs := (plL p1)) (by kernel_rfl) (by kernel_rfl) (by kernel_rfl) rfl (HP.cells 0 rfl 0 13 (by kernel_rfl))) fun a H => ?_
   refine H.alloc HP 10 (fun b => (pt b 0)) 32 [(ii 0), (ii 0), (ii 0), (ii 0), (.slice none 0 0), (ii 0), (ii 0), (ii 0), (ii 0), (.slice none 0 0), (.slice none 0 0), (.slice none 0 0), (.slice none 0 0)] (by kernel_rfl) (fun w => by kernel_rfl) fun b_9 w_10 a H HP => ?_
   refine H.store HP 0 b_9 0 13 32 _ true (plV p1) [bx b_9 32 (plL p1) true, bx b_1 32 (plL p1) true] (by kernel_rfl) (by kernel_rfl) (by kernel_rfl) rfl (by kernel_rfl) (by kernel_rfl) (by kernel_rfl) (by kernel_rfl) (by kernel_rfl) fun w_11 a H HP => ?_
   refine wpList_nil (then_normal (wp_seq ?_))
   have hsome_es : p1.EA ≠ none := fun h => by obtain ⟨_, _, _, hA, _⟩ := IsRow.get enC_size (((HP.fact 0 rfl : IsPln _ p1)).es.row) hl_na; rw [h] at hA; cases hA
   have hsome2_es : ∀ c i, dropA p1.EA c i 7 ≠ none := fun c i h => by unfold dropA at h; split at h <;> first | exact hsome_es h | exact hsome_es (Option.map_eq_none_iff.1 h)
   refine An.start (fun v => Hp w v [bx b_9 32 (plL p1) true, bx b_1 32 (plL p1) true] [plnK p1]) 13 14 HP wide_follows rfl fun w_12 HP => ?_
   refine An.p H (.inr HP) 1 42 (pt b_1 10) fun a H => ?_
   refine An.val H (HP) 2 43 (.slice p1.EA p1.es.length p1.ec) rfl (by kernel_rfl) (by kernel_rfl) (fun _ _ _ h => h) (fun _ hS => ex_l1 (hS.cell 1 rfl 10 rfl)) fun a H => ?_
   refine An.p H (.inr HP) 3 44 (ii na) fun a H => ?_
   refine An.pure H (.inr (HP)) 4 45 (.slice p1.EA na p1.ec) rfl (by kernel_rfl) (by kernel_rfl) (fun _ _ _ h => h) (fun _ => ex_sliceH (A := p1.EA) (len := p1.es.length) (cap := p1.ec) (k := .i64) (n := (na : Int)) (m := na) (sz := 7) (by kernel_rfl) (by kernel_rfl) (by kernel_rfl) (by kernel_rfl) rfl (by omega)) fun a H => ?_
   refine An.p H (.inr HP) 6 47 (pt b_1 10) fun a H => ?_
   refine An.val H (HP) 7 48 (.slice p1.EA p1.es.length p1.ec) rfl (by kernel_rfl) (by kernel_rfl) (fun _ _ _ h => h) (fun _ hS => ex_l1 (hS.cell 1 rfl 10 rfl)) fun a H => ?_
   refine An.p H (.inr HP) 8 49 (ii na) fun a H => ?_
   refine An.pureE H (.inr (HP)) 9 50 (ii (IntKind.i64.wrap ((na : Int) + 1))) (ii ((na : Int) + 1)) rfl (by kernel_rfl) (by kernel_rfl) (fun _ _ _ h => h) (fun _ => by kernel_rfl) ((by rw [wrap_ini64 _ (by omega)])) fun a H => ?_
   refine An.pure H (.inr (HP)) 10 51 (.slice (dropA p1.EA p1.ec (na + 1) 7) (p1.es.length - (na + 1)) (p1.ec - (na + 1))) rfl (by kernel_rfl) (by kernel_rfl) (fun _ _ _ h => h) (fun _ => ex_sliceLo (A := p1.EA) (len := p1.es.length) (cap := p1.ec) (i := na + 1) (sz := 7) (lo := (na : Int) + 1) (by kernel_rfl) (by kernel_rfl) (by kernel_rfl) (by kernel_rfl) (by omega) (by omega)) fun a H => ?_
   refine An.one 0 (by kernel_rfl) ?_
   refine Op.alloc H HP 41 (fun b => (.slice (some ⟨b, 0, none⟩) 0 0)) 43 [] rfl (by kernel_rfl) (fun w => by kernel_rfl) fun b_13 w_14 a H HP => ?_
   refine ⟨.inr ((HP.tail rfl)), ?_⟩
   refine An.one 5 (by kernel_rfl) ?_
   have HP := HP.rowNew 0 rfl (cs := enC) (size := 7) [(rowsR w.heap.size 43 7 enC okT feF (.slice (some ⟨b_13, 0, none⟩) 0 0) ([] : List Ent)), bx b_9 32 (plL p1) true, bx b_1 32 (plL p1) true] (by kernel_rfl)
   refine Op.appX H HP 46 0 (l := ([] : List Ent)) 43 (z := (.agg #[(ii 0), (ii 0), (ii 0), (ii 0), (ii 0), (ii 0), (.slice none 0 0)])) (bytes := 72) p1.EA (na) (p1.ec) (p1.es.take na) rfl (by kernel_rfl) (by kernel_rfl) (by kernel_rfl) (by kernel_rfl) (by kernel_rfl) (by kernel_rfl) rfl (by kernel_rfl) (fun h => absurd h (by intro h2; exact hsome_es h2)) (by have hh := IsRow.take enC_size (((HP.fact 0 rfl : IsPln _ p1)).es.row) (Nat.le_of_lt hl_na); unfold IsRow at hh; rw [take_n hl_na] at hh; exact hh) (flat_ones oc_en _) (take_n hl_na) (by show 0 + na ≤ maxLen; unfold maxLen; omega) (by show (0 + na) * _ ≤ _; omega) fun B_15 c_16 w_17 a H HP => ?_
   rw [show ([] : List Ent).length + na = na from Nat.zero_add _] at H HP
   rw [List.nil_append] at HP
   have HP : Hp w w_17 [(rowsR w.heap.size 43 7 enC okT feF (.slice B_15 na c_16) (p1.es.take na)), bx b_9 32 (plL p1) true, bx b_1 32 (plL p1) true] [plnK p1] := HP
   refine ⟨.inr ((HP.tail rfl)), ?_⟩
   refine An.one 11 (by kernel_rfl) ?_
   refine Op.appX H HP 52 0 (l := p1.es.take na) 43 (z := (.agg #[(ii 0), (ii 0), (ii 0), (ii 0), (ii 0), (ii 0), (.slice none 0 0)])) (bytes := 72) (dropA p1.EA p1.ec (na + 1) 7) (p1.es.length - (na + 1)) (p1.ec - (na + 1)) (p1.es.drop (na + 1)) rfl (by kernel_rfl) (by kernel_rfl) (by kernel_rfl) (by kernel_rfl) (by kernel_rfl) (by kernel_rfl) rfl (by kernel_rfl) (fun h => absurd h (by intro h2; exact hsome2_es _ _ h2)) (IsRow.dropA enC_size (((HP.fact 0 rfl : IsPln _ p1)).es.row) (by omega) hl_na) (flat_ones oc_en _) (List.length_drop) (by rw [take_n hl_na]; unfold maxLen; omega) (by rw [take_n hl_na]; omega) fun B_18 c_19 w_20 a H HP => ?_
   rw [take_n hl_na] at H HP
   have HP : Hp w w_20 [(rowsR w.heap.size 43 7 enC okT feF (.slice B_18 (na + (p1.es.length - (na + 1))) c_19) (cutL p1.es na)), bx b_9 32 (plL p1) true, bx b_1 32 (plL p1) true] [plnK p1] := HP
   refine ⟨.inr ((HP.tail rfl)), ?_⟩
   refine An.p H (.inr ((HP.tail rfl))) 12 53 (pt b_9 10) fun a H => ?_
   refine An.one 13 (by kernel_rfl) ?_
   refine Op.store H HP 1 b_9 10 1 32 (plL p1) true (.slice B_18 (na + (p1.es.length - (na + 1))) c_19) [(rowsR w.heap.size 43 7 enC okT feF (.slice B_18 (na + (p1.es.length - (na + 1))) c_19) (cutL p1.es na)), bx b_9 32 [(ii p1.channel), (ii p1.num), (ii p1.den), (ii p1.offset), (.slice p1.SA p1.sh.length p1.sc), (ii p1.epoch), (ii p1.regions), (ii p1.length), (ii p1.fill), (.slice p1.IA p1.its.length p1.ic), (.slice B_18 (na + (p1.es.length - (na + 1))) c_19), (.slice p1.BA p1.bs.length p1.bc), (.slice p1.CA p1.cs.length p1.cc)] true, bx b_1 32 (plL p1) true] rfl (by kernel_rfl) (by kernel_rfl) (by kernel_rfl) rfl (by kernel_rfl) (by kernel_rfl) (by kernel_rfl) (by kernel_rfl) (by kernel_rfl) fun w_21 a H HP => ?_
   refine ⟨.inl (by kernel_rfl), ?_⟩
   refine An.done (by kernel_rfl) ?_
   refine then_normal (wp_seq (w_region ?_))
   refine H.u 54 (plV p1) (ex_loadN (vs := (plL p1)) (by kernel_rfl) (by kernel_rfl) (by kernel_rfl) rfl (HP.cells 2 rfl 0 13 (by kernel_rfl))) fun a H => ?_
   refine H.alloc HP 11 (fun b => (pt b 0)) 32 [(ii 0), (ii 0), (ii 0), (ii 0), (.slice none 0 0), (ii 0), (ii 0), (ii 0), (ii 0), (.slice none 0 0), (.slice none 0 0), (.slice none 0 0), (.slice none 0 0)] (by kernel_rfl) (fun w => by kernel_rfl) fun b_22 w_23 a H HP => ?_
   refine H.store HP 0 b_22 0 13 32 _ true (plV p1) [bx b_22 32 (plL p1) true, (rowsR w.heap.size 43 7 enC okT feF (.slice B_18 (na + (p1.es.length - (na + 1))) c_19) (cutL p1.es na)), bx b_9 32 [(ii p1.channel), (ii p1.num), (ii p1.den), (ii p1.offset), (.slice p1.SA p1.sh.length p1.sc), (ii p1.epoch), (ii p1.regions), (ii p1.length), (ii p1.fill), (.slice p1.IA p1.its.length p1.ic), (.slice B_18 (na + (p1.es.length - (na + 1))) c_19), (.slice p1.BA p1.bs.length p1.bc), (.slice p1.CA p1.cs.length p1.cc)] true, bx b_1 32 (plL p1) true] (by kernel_rfl) (by kernel_rfl) (by kernel_rfl) rfl (by kernel_rfl) (by kernel_rfl) (by kernel_rfl) (by kernel_rfl) (by kernel_rfl) fun w_24 a H HP => ?_
   refine wpList_nil (then_normal (wp_seq (w_region ?_)))
   refine H.alloc HP 55 (fun b => (.slice (some ⟨b, 0, none⟩) 0 0)) 43 [] (by kernel_rfl) (fun w => by kernel_rfl) fun b_25 w_26 a H HP => ?_
   refine H.v 56 (pt b_1 10) fun a H => ?_
   refine H.u 57 (.slice p1.EA p1.es.length p1.ec) (ex_l1 (HP.cell 4 rfl 10 rfl)) fun a H => ?_
   have HP := HP.rowNew 0 rfl (cs := enC) (size := 7) [(rowsR w.heap.size 43 7 enC okT feF (.slice (some ⟨b_25, 0, none⟩) 0 0) ([] : List Ent)), bx b_22 32 (plL p1) true, (rowsR w.heap.size 43 7 enC okT feF (.slice B_18 (na + (p1.es.length - (na + 1))) c_19) (cutL p1.es na)), bx b_9 32 [(ii p1.channel), (ii p1.num), (ii p1.den), (ii p1.offset), (.slice p1.SA p1.sh.length p1.sc), (ii p1.epoch), (ii p1.regions), (ii p1.length), (ii p1.fill), (.slice p1.IA p1.its.length p1.ic), (.slice B_18 (na + (p1.es.length - (na + 1))) c_19), (.slice p1.BA p1.bs.length p1.bc), (.slice p1.CA p1.cs.length p1.cc)] true, bx b_1 32 (plL p1) true] (by kernel_rfl)
   refine H.appX HP 58 0 (l := ([] : List Ent)) 43 (z := (.agg #[(ii 0), (ii 0), (ii 0), (ii 0), (ii 0), (ii 0), (.slice none 0 0)])) (bytes := 72) p1.EA (p1.es.length) (p1.ec) (p1.es) (by kernel_rfl) (by kernel_rfl) (by kernel_rfl) (by kernel_rfl) (by kernel_rfl) (by kernel_rfl) rfl (by kernel_rfl) (fun h => absurd h (by intro h2; exact hsome_es h2)) (((HP.fact 0 rfl : IsPln _ p1)).es.row) (flat_ones oc_en _) (rfl) (by show 0 + p1.es.length ≤ maxLen; unfold maxLen; omega) (by show (0 + p1.es.length) * _ ≤ _; omega) fun B_27 c_28 w_29 a H HP => ?_
   rw [show ([] : List Ent).length + p1.es.length = p1.es.length from Nat.zero_add _] at H HP
   rw [List.nil_append] at HP
   have HP : Hp w w_29 [(rowsR w.heap.size 43 7 enC okT feF (.slice B_27 p1.es.length c_28) p1.es), bx b_22 32 (plL p1) true, (rowsR w.heap.size 43 7 enC okT feF (.slice B_18 (na + (p1.es.length - (na + 1))) c_19) (cutL p1.es na)), bx b_9 32 [(ii p1.channel), (ii p1.num), (ii p1.den), (ii p1.offset), (.slice p1.SA p1.sh.length p1.sc), (ii p1.epoch), (ii p1.regions), (ii p1.length), (ii p1.fill), (.slice p1.IA p1.its.length p1.ic), (.slice B_18 (na + (p1.es.length - (na + 1))) c_19), (.slice p1.BA p1.bs.length p1.bc), (.slice p1.CA p1.cs.length p1.cc)] true, bx b_1 32 (plL p1) true] [plnK p1] := HP
   refine H.v 59 (pt b_22 10) fun a H => ?_
   refine H.store HP 1 b_22 10 1 32 _ true (.slice B_27 p1.es.length c_28) [(rowsR w.heap.size 43 7 enC okT feF (.slice B_27 p1.es.length c_28) p1.es), bx b_22 32 [(ii p1.channel), (ii p1.num), (ii p1.den), (ii p1.offset), (.slice p1.SA p1.sh.length p1.sc), (ii p1.epoch), (ii p1.regions), (ii p1.length), (ii p1.fill), (.slice p1.IA p1.its.length p1.ic), (.slice B_27 p1.es.length c_28), (.slice p1.BA p1.bs.length p1.bc), (.slice p1.CA p1.cs.length p1.cc)] true, (rowsR w.heap.size 43 7 enC okT feF (.slice B_18 (na + (p1.es.length - (na + 1))) c_19) (cutL p1.es na)), bx b_9 32 [(ii p1.channel), (ii p1.num), (ii p1.den), (ii p1.offset), (.slice p1.SA p1.sh.length p1.sc), (ii p1.epoch), (ii p1.regions), (ii p1.length), (ii p1.fill), (.slice p1.IA p1.its.length p1.ic), (.slice B_18 (na + (p1.es.length - (na + 1))) c_19), (.slice p1.BA p1.bs.length p1.bc), (.slice p1.CA p1.cs.length p1.cc)] true, bx b_1 32 (plL p1) true] (by kernel_rfl) (by kernel_rfl) (by kernel_rfl) rfl (by kernel_rfl) (by kernel_rfl) (by kernel_rfl) (by kernel_rfl) (by kernel_rfl) fun w_30 a H HP => ?_
   refine wpList_nil (then_normal (wp_seq ?_))
   obtain ⟨gx, tl, hBx, hcx, HP⟩ := HP.rowBox 0 rfl rfl (by omega)
   subst hBx
   have HP : Hp w w_30 [bx gx 43 (flat enC p1.es ++ tl) true, bx b_22 32 [(ii p1.channel), (ii p1.num), (ii p1.den), (ii p1.offset), (.slice p1.SA p1.sh.length p1.sc), (ii p1.epoch), (ii p1.regions), (ii p1.length), (ii p1.fill), (.slice p1.IA p1.its.length p1.ic), (.slice (some ⟨gx, 0, none⟩) p1.es.length c_28), (.slice p1.BA p1.bs.length p1.bc), (.slice p1.CA p1.cs.length p1.cc)] true, (rowsR w.heap.size 43 7 enC okT feF (.slice B_18 (na + (p1.es.length - (na + 1))) c_19) (cutL p1.es na)), bx b_9 32 [(ii p1.channel), (ii p1.num), (ii p1.den), (ii p1.offset), (.slice p1.SA p1.sh.length p1.sc), (ii p1.epoch), (ii p1.regions), (ii p1.length), (ii p1.fill), (.slice p1.IA p1.its.length p1.ic), (.slice B_18 (na + (p1.es.length - (na + 1))) c_19), (.slice p1.BA p1.bs.length p1.bc), (.slice p1.CA p1.cs.length p1.cc)] true, bx b_1 32 (plL p1) true] [plnK p1] := HP
   have HP := HP.front 0 rfl [bx gx 43 (flat enC p1.es ++ tl) true, bx b_22 32 [(ii p1.channel), (ii p1.num), (ii p1.den), (ii p1.offset), (.slice p1.SA p1.sh.length p1.sc), (ii p1.epoch), (ii p1.regions), (ii p1.length), (ii p1.fill), (.slice p1.IA p1.its.length p1.ic), (.slice (some ⟨gx, 0, none⟩) p1.es.length c_28), (.slice p1.BA p1.bs.length p1.bc), (.slice p1.CA p1.cs.length p1.cc)] true, (rowsR w.heap.size 43 7 enC okT feF (.slice B_18 (na + (p1.es.length - (na + 1))) c_19) (cutL p1.es na)), bx b_9 32 [(ii p1.channel), (ii p1.num), (ii p1.den), (ii p1.offset), (.slice p1.SA p1.sh.length p1.sc), (ii p1.epoch), (ii p1.regions), (ii p1.length), (ii p1.fill), (.slice p1.IA p1.its.length p1.ic), (.slice B_18 (na + (p1.es.length - (na + 1))) c_19), (.slice p1.BA p1.bs.length p1.bc), (.slice p1.CA p1.cs.length p1.cc)] true, bx b_1 32 (plL p1) true] (by kernel_rfl)
   refine An.start (fun v => Hp w v [bx b_22 32 [(ii p1.channel), (ii p1.num), (ii p1.den), (ii p1.offset), (.slice p1.SA p1.sh.length p1.sc), (ii p1.epoch), (ii p1.regions), (ii p1.length), (ii p1.fill), (.slice p1.IA p1.its.length p1.ic), (.slice (some ⟨gx, 0, none⟩) p1.es.length c_28), (.slice p1.BA p1.bs.length p1.bc), (.slice p1.CA p1.cs.length p1.cc)] true, (rowsR w.heap.size 43 7 enC okT feF (.slice B_18 (na + (p1.es.length - (na + 1))) c_19) (cutL p1.es na)), bx b_9 32 [(ii p1.channel), (ii p1.num), (ii p1.den), (ii p1.offset), (.slice p1.SA p1.sh.length p1.sc), (ii p1.epoch), (ii p1.regions), (ii p1.length), (ii p1.fill), (.slice p1.IA p1.its.length p1.ic), (.slice B_18 (na + (p1.es.length - (na + 1))) c_19), (.slice p1.BA p1.bs.length p1.bc), (.slice p1.CA p1.cs.length p1.cc)] true, bx b_1 32 (plL p1) true] [plnK p1]) 19 20 HP wide_follows rfl fun w_31 HP => ?_
   refine An.p H (.inr ((HP.tail rfl))) 0 60 (pt b_22 10) fun a H => ?_
   refine An.val H ((HP.tail rfl)) 1 61 (.slice (some ⟨gx, 0, none⟩) p1.es.length c_28) rfl (by kernel_rfl) (by kernel_rfl) (fun _ _ _ h => h) (fun _ hS => ex_l1 (hS.cell 0 rfl 10 rfl)) fun a H => ?_
   refine An.p H (.inr ((HP.tail rfl))) 2 62 (ii na) fun a H => ?_
   refine An.p H (.inr ((HP.tail rfl))) 3 63 (pt b_22 10) fun a H => ?_
   refine An.val H ((HP.tail rfl)) 4 64 (.slice (some ⟨gx, 0, none⟩) p1.es.length c_28) rfl (by kernel_rfl) (by kernel_rfl) (fun _ _ _ h => h) (fun _ hS => ex_l1 (hS.cell 0 rfl 10 rfl)) fun a H => ?_
   refine An.p H (.inr ((HP.tail rfl))) 5 65 (ii nb) fun a H => ?_
   refine An.p H (.inr ((HP.tail rfl))) 6 66 (pt b_22 10) fun a H => ?_
   refine An.val H ((HP.tail rfl)) 7 67 (.slice (some ⟨gx, 0, none⟩) p1.es.length c_28) rfl (by kernel_rfl) (by kernel_rfl) (fun _ _ _ h => h) (fun _ hS => ex_l1 (hS.cell 0 rfl 10 rfl)) fun a H => ?_
   refine An.p H (.inr ((HP.tail rfl))) 8 68 (ii nb) fun a H => ?_
   refine An.pure H (.inr ((HP.tail rfl))) 9 69 (.pointer (some ⟨gx, 0 + nb * 7, none⟩)) rfl (by kernel_rfl) (by kernel_rfl) (fun _ _ _ h => h) (fun _ => ex_indexA (b := gx) (off := 0) (len := p1.es.length) (cap := c_28) (e := 43) (k := 7) (ik := .i64) (i := (nb : Int)) (m := nb) rfl (by kernel_rfl) (by kernel_rfl) (by omega) (by omega) (by kernel_rfl) (by kernel_rfl)) fun a H => ?_
   refine An.p H (.inr ((HP.tail rfl))) 11 71 (pt b_22 10) fun a H => ?_
   refine An.val H ((HP.tail rfl)) 12 72 (.slice (some ⟨gx, 0, none⟩) p1.es.length c_28) rfl (by kernel_rfl) (by kernel_rfl) (fun _ _ _ h => h) (fun _ hS => ex_l1 (hS.cell 0 rfl 10 rfl)) fun a H => ?_
   refine An.p H (.inr ((HP.tail rfl))) 13 73 (ii na) fun a H => ?_
   refine An.pure H (.inr ((HP.tail rfl))) 14 74 (.pointer (some ⟨gx, 0 + na * 7, none⟩)) rfl (by kernel_rfl) (by kernel_rfl) (fun _ _ _ h => h) (fun _ => ex_indexA (b := gx) (off := 0) (len := p1.es.length) (cap := c_28) (e := 43) (k := 7) (ik := .i64) (i := (na : Int)) (m := na) rfl (by kernel_rfl) (by kernel_rfl) (by omega) (by omega) (by kernel_rfl) (by kernel_rfl)) fun a H => ?_
   refine An.two 10 15 (by kernel_rfl) ?_ ?_
   ·refine Op.val H 70 (enV xnb) rfl (by kernel_rfl) (ex_loadN (b := gx) (off := 0 + nb * 7) (vs := (enL xnb)) (by kernel_rfl) (by kernel_rfl) (by kernel_rfl) rfl ((by rw [Nat.zero_add]; exact Hp.elem enC_size HP 0 rfl hx_nb))) fun a H => ?_
    refine ⟨.inr ((HP.tail rfl)), ?_⟩
    refine An.one 15 (by kernel_rfl) ?_
    refine Op.val H 75 (enV xna) rfl (by kernel_rfl) (ex_loadN (b := gx) (off := 0 + na * 7) (vs := (enL xna)) (by kernel_rfl) (by kernel_rfl) (by kernel_rfl) rfl ((by rw [Nat.zero_add]; exact Hp.elem enC_size HP 0 rfl hx_na))) fun a H => ?_
    refine ⟨.inr ((HP.tail rfl)), ?_⟩
    refine An.pure H (.inr ((HP.tail rfl))) 16 76 (.pointer (some ⟨gx, 0 + na * 7, none⟩)) rfl (by kernel_rfl) (by kernel_rfl) (fun _ _ _ h => h) (fun _ => ex_indexA (b := gx) (off := 0) (len := p1.es.length) (cap := c_28) (e := 43) (k := 7) (ik := .i64) (i := (na : Int)) (m := na) rfl (by kernel_rfl) (by kernel_rfl) (by omega) (by omega) (by kernel_rfl) (by kernel_rfl)) fun a H => ?_
    refine An.one 17 (by kernel_rfl) ?_
    refine Op.store H HP 0 gx (0 + na * 7) 7 43 (flat enC p1.es ++ tl) true (enV xnb) [bx gx 43 (setAll (flat enC p1.es ++ tl) (0 + na * 7) (enL xnb)) true, bx b_22 32 [(ii p1.channel), (ii p1.num), (ii p1.den), (ii p1.offset), (.slice p1.SA p1.sh.length p1.sc), (ii p1.epoch), (ii p1.regions), (ii p1.length), (ii p1.fill), (.slice p1.IA p1.its.length p1.ic), (.slice (some ⟨gx, 0, none⟩) p1.es.length c_28), (.slice p1.BA p1.bs.length p1.bc), (.slice p1.CA p1.cs.length p1.cc)] true, (rowsR w.heap.size 43 7 enC okT feF (.slice B_18 (na + (p1.es.length - (na + 1))) c_19) (cutL p1.es na)), bx b_9 32 [(ii p1.channel), (ii p1.num), (ii p1.den), (ii p1.offset), (.slice p1.SA p1.sh.length p1.sc), (ii p1.epoch), (ii p1.regions), (ii p1.length), (ii p1.fill), (.slice p1.IA p1.its.length p1.ic), (.slice B_18 (na + (p1.es.length - (na + 1))) c_19), (.slice p1.BA p1.bs.length p1.bc), (.slice p1.CA p1.cs.length p1.cc)] true, bx b_1 32 (plL p1) true] rfl (by kernel_rfl) (by kernel_rfl) (by kernel_rfl) rfl (by kernel_rfl) (by kernel_rfl) (by kernel_rfl) (by rw [Nat.ble_eq]; simp only [setAll_len, List.length_append, flat_len enC_size]; show 0 + na * 7 + 7 ≤ _; omega) (by kernel_rfl) fun w_32 a H HP => ?_
    refine ⟨.inr ((HP.tail rfl)), ?_⟩
    refine An.pure H (.inr ((HP.tail rfl))) 18 77 (.pointer (some ⟨gx, 0 + nb * 7, none⟩)) rfl (by kernel_rfl) (by kernel_rfl) (fun _ _ _ h => h) (fun _ => ex_indexA (b := gx) (off := 0) (len := p1.es.length) (cap := c_28) (e := 43) (k := 7) (ik := .i64) (i := (nb : Int)) (m := nb) rfl (by kernel_rfl) (by kernel_rfl) (by omega) (by omega) (by kernel_rfl) (by kernel_rfl)) fun a H => ?_
    refine An.one 19 (by kernel_rfl) ?_
    refine Op.store H HP 0 gx (0 + nb * 7) 7 43 (setAll (flat enC p1.es ++ tl) (0 + na * 7) (enL xnb)) true (enV xna) [bx gx 43 (setAll (setAll (flat enC p1.es ++ tl) (0 + na * 7) (enL xnb)) (0 + nb * 7) (enL xna)) true, bx b_22 32 [(ii p1.channel), (ii p1.num), (ii p1.den), (ii p1.offset), (.slice p1.SA p1.sh.length p1.sc), (ii p1.epoch), (ii p1.regions), (ii p1.length), (ii p1.fill), (.slice p1.IA p1.its.length p1.ic), (.slice (some ⟨gx, 0, none⟩) p1.es.length c_28), (.slice p1.BA p1.bs.length p1.bc), (.slice p1.CA p1.cs.length p1.cc)] true, (rowsR w.heap.size 43 7 enC okT feF (.slice B_18 (na + (p1.es.length - (na + 1))) c_19) (cutL p1.es na)), bx b_9 32 [(ii p1.channel), (ii p1.num), (ii p1.den), (ii p1.offset), (.slice p1.SA p1.sh.length p1.sc), (ii p1.epoch), (ii p1.regions), (ii p1.length), (ii p1.fill), (.slice p1.IA p1.its.length p1.ic), (.slice B_18 (na + (p1.es.length - (na + 1))) c_19), (.slice p1.BA p1.bs.length p1.bc), (.slice p1.CA p1.cs.length p1.cc)] true, bx b_1 32 (plL p1) true] rfl (by kernel_rfl) (by kernel_rfl) (by kernel_rfl) rfl (by kernel_rfl) (by kernel_rfl) (by kernel_rfl) (by rw [Nat.ble_eq]; simp only [setAll_len, List.length_append, flat_len enC_size]; show 0 + nb * 7 + 7 ≤ _; omega) (by kernel_rfl) fun w_33 a H HP => ?_
    refine ⟨.inl (by kernel_rfl), ?_⟩
    refine An.done (by kernel_rfl) ?_
    rw [swap_cells hl_na hl_nb] at HP
    refine then_normal (wp_seq (w_region ?_))
    refine H.u 78 (.agg #[(ii p1.channel), (ii p1.num), (ii p1.den), (ii p1.offset), (.slice p1.SA p1.sh.length p1.sc), (ii p1.epoch), (ii p1.regions), (ii p1.length), (ii p1.fill), (.slice p1.IA p1.its.length p1.ic), (.slice B_18 (na + (p1.es.length - (na + 1))) c_19), (.slice p1.BA p1.bs.length p1.bc), (.slice p1.CA p1.cs.length p1.cc)]) (ex_loadN (vs := [(ii p1.channel), (ii p1.num), (ii p1.den), (ii p1.offset), (.slice p1.SA p1.sh.length p1.sc), (ii p1.epoch), (ii p1.regions), (ii p1.length), (ii p1.fill), (.slice p1.IA p1.its.length p1.ic), (.slice B_18 (na + (p1.es.length - (na + 1))) c_19), (.slice p1.BA p1.bs.length p1.bc), (.slice p1.CA p1.cs.length p1.cc)]) (by kernel_rfl) (by kernel_rfl) (by kernel_rfl) rfl (HP.cells 3 rfl 0 13 (by kernel_rfl))) fun a H => ?_
    refine H.call 79 (by kernel_rfl) (Eq.trans (by kernel_rfl : _ = (callFunc 14 #[(.agg #[(ii p1.channel), (ii p1.num), (ii p1.den), (ii p1.offset), (.slice p1.SA p1.sh.length p1.sc), (ii p1.epoch), (ii p1.regions), (ii p1.length), (ii p1.fill), (.slice p1.IA p1.its.length p1.ic), (.slice B_18 (na + (p1.es.length - (na + 1))) c_19), (.slice p1.BA p1.bs.length p1.bc), (.slice p1.CA p1.cs.length p1.cc)])]).run Tryz.prog w_33) (Tryz.call14 _ _)) (valid_cutE p1 hvp B_18 c_19 _ na (cutL_len hl_na) w_33 (HP.fact 0 rfl : IsPln _ p1) (IsRow.ofOwn (HP.held 2 rfl) (cutL_len hl_na)) (hL.below HP.bl).rates) ?_
    rintro e w_34 ⟨rfl, hb⟩
    refine ⟨_, rfl, ?_⟩
    intro a H
    have HP := HP.next hb
    refine H.v 80 (.bool false) fun a H => ?_
    refine H.v 81 (.bool false) fun a H => ?_
    refine H.u 82 (.agg #[(ii p1.channel), (ii p1.num), (ii p1.den), (ii p1.offset), (.slice p1.SA p1.sh.length p1.sc), (ii p1.epoch), (ii p1.regions), (ii p1.length), (ii p1.fill), (.slice p1.IA p1.its.length p1.ic), (.slice (some ⟨gx, 0, none⟩) p1.es.length c_28), (.slice p1.BA p1.bs.length p1.bc), (.slice p1.CA p1.cs.length p1.cc)]) (ex_loadN (vs := [(ii p1.channel), (ii p1.num), (ii p1.den), (ii p1.offset), (.slice p1.SA p1.sh.length p1.sc), (ii p1.epoch), (ii p1.regions), (ii p1.length), (ii p1.fill), (.slice p1.IA p1.its.length p1.ic), (.slice (some ⟨gx, 0, none⟩) p1.es.length c_28), (.slice p1.BA p1.bs.length p1.bc), (.slice p1.CA p1.cs.length p1.cc)]) (by kernel_rfl) (by kernel_rfl) (by kernel_rfl) rfl (HP.cells 1 rfl 0 13 (by kernel_rfl))) fun a H => ?_
    refine H.call 83 (by kernel_rfl) (Eq.trans (by kernel_rfl : _ = (callFunc 14 #[(.agg #[(ii p1.channel), (ii p1.num), (ii p1.den), (ii p1.offset), (.slice p1.SA p1.sh.length p1.sc), (ii p1.epoch), (ii p1.regions), (ii p1.length), (ii p1.fill), (.slice p1.IA p1.its.length p1.ic), (.slice (some ⟨gx, 0, none⟩) p1.es.length c_28), (.slice p1.BA p1.bs.length p1.bc), (.slice p1.CA p1.cs.length p1.cc)])]).run Tryz.prog w_34) (Tryz.call14 _ _)) (valid_swapE p1 hvp (some ⟨gx, 0, none⟩) c_28 na nb hx_na hx_nb w_34 (HP.fact 0 rfl : IsPln _ p1) (IsRow.ofBox enC_size (HP.at_ 0 rfl)) (hL.below HP.bl).rates) ?_
    rintro e w_35 ⟨rfl, hb⟩
    refine ⟨_, rfl, ?_⟩
    intro a H
    have HP := HP.next hb
    refine H.v 84 (.bool false) fun a H => ?_
    refine H.v 85 (.bool false) fun a H => ?_
    refine wpList_nil (then_normal ?_)
    refine w_iff H rfl ?_
    refine wp_skip (then_normal ?_)
    exact ⟨H.keep (by kernel_rfl), ((((HP.tail rfl).tail rfl).tail rfl).tail rfl)⟩
   ·refine Op.val H 75 (enV xna) rfl (by kernel_rfl) (ex_loadN (b := gx) (off := 0 + na * 7) (vs := (enL xna)) (by kernel_rfl) (by kernel_rfl) (by kernel_rfl) rfl ((by rw [Nat.zero_add]; exact Hp.elem enC_size HP 0 rfl hx_na))) fun a H => ?_
    refine ⟨.inr ((HP.tail rfl)), ?_⟩
    refine An.one 10 (by kernel_rfl) ?_
    refine Op.val H 70 (enV xnb) rfl (by kernel_rfl) (ex_loadN (b := gx) (off := 0 + nb * 7) (vs := (enL xnb)) (by kernel_rfl) (by kernel_rfl) (by kernel_rfl) rfl ((by rw [Nat.zero_add]; exact Hp.elem enC_size HP 0 rfl hx_nb))) fun a H => ?_
    refine ⟨.inr ((HP.tail rfl)), ?_⟩
    refine An.pure H (.inr ((HP.tail rfl))) 16 76 (.pointer (some ⟨gx, 0 + na * 7, none⟩)) rfl (by kernel_rfl) (by kernel_rfl) (fun _ _ _ h => h) (fun _ => ex_indexA (b := gx) (off := 0) (len := p1.es.length) (cap := c_28) (e := 43) (k := 7) (ik := .i64) (i := (na : Int)) (m := na) rfl (by kernel_rfl) (by kernel_rfl) (by omega) (by omega) (by kernel_rfl) (by kernel_rfl)) fun a H => ?_
    refine An.one 17 (by kernel_rfl) ?_
    refine Op.store H HP 0 gx (0 + na * 7) 7 43 (flat enC p1.es ++ tl) true (enV xnb) [bx gx 43 (setAll (flat enC p1.es ++ tl) (0 + na * 7) (enL xnb)) true, bx b_22 32 [(ii p1.channel), (ii p1.num), (ii p1.den), (ii p1.offset), (.slice p1.SA p1.sh.length p1.sc), (ii p1.epoch), (ii p1.regions), (ii p1.length), (ii p1.fill), (.slice p1.IA p1.its.length p1.ic), (.slice (some ⟨gx, 0, none⟩) p1.es.length c_28), (.slice p1.BA p1.bs.length p1.bc), (.slice p1.CA p1.cs.length p1.cc)] true, (rowsR w.heap.size 43 7 enC okT feF (.slice B_18 (na + (p1.es.length - (na + 1))) c_19) (cutL p1.es na)), bx b_9 32 [(ii p1.channel), (ii p1.num), (ii p1.den), (ii p1.offset), (.slice p1.SA p1.sh.length p1.sc), (ii p1.epoch), (ii p1.regions), (ii p1.length), (ii p1.fill), (.slice p1.IA p1.its.length p1.ic), (.slice B_18 (na + (p1.es.length - (na + 1))) c_19), (.slice p1.BA p1.bs.length p1.bc), (.slice p1.CA p1.cs.length p1.cc)] true, bx b_1 32 (plL p1) true] rfl (by kernel_rfl) (by kernel_rfl) (by kernel_rfl) rfl (by kernel_rfl) (by kernel_rfl) (by kernel_rfl) (by rw [Nat.ble_eq]; simp only [setAll_len, List.length_append, flat_len enC_size]; show 0 + na * 7 + 7 ≤ _; omega) (by kernel_rfl) fun w_36 a H HP => ?_
    refine ⟨.inr ((HP.tail rfl)), ?_⟩
    refine An.pure H (.inr ((HP.tail rfl))) 18 77 (.pointer (some ⟨gx, 0 + nb * 7, none⟩)) rfl (by kernel_rfl) (by kernel_rfl) (fun _ _ _ h => h) (fun _ => ex_indexA (b := gx) (off := 0) (len := p1.es.length) (cap := c_28) (e := 43) (k := 7) (ik := .i64) (i := (nb : Int)) (m := nb) rfl (by kernel_rfl) (by kernel_rfl) (by omega) (by omega) (by kernel_rfl) (by kernel_rfl)) fun a H => ?_
    refine An.one 19 (by kernel_rfl) ?_
    refine Op.store H HP 0 gx (0 + nb * 7) 7 43 (setAll (flat enC p1.es ++ tl) (0 + na * 7) (enL xnb)) true (enV xna) [bx gx 43 (setAll (setAll (flat enC p1.es ++ tl) (0 + na * 7) (enL xnb)) (0 + nb * 7) (enL xna)) true, bx b_22 32 [(ii p1.channel), (ii p1.num), (ii p1.den), (ii p1.offset), (.slice p1.SA p1.sh.length p1.sc), (ii p1.epoch), (ii p1.regions), (ii p1.length), (ii p1.fill), (.slice p1.IA p1.its.length p1.ic), (.slice (some ⟨gx, 0, none⟩) p1.es.length c_28), (.slice p1.BA p1.bs.length p1.bc), (.slice p1.CA p1.cs.length p1.cc)] true, (rowsR w.heap.size 43 7 enC okT feF (.slice B_18 (na + (p1.es.length - (na + 1))) c_19) (cutL p1.es na)), bx b_9 32 [(ii p1.channel), (ii p1.num), (ii p1.den), (ii p1.offset), (.slice p1.SA p1.sh.length p1.sc), (ii p1.epoch), (ii p1.regions), (ii p1.length), (ii p1.fill), (.slice p1.IA p1.its.length p1.ic), (.slice B_18 (na + (p1.es.length - (na + 1))) c_19), (.slice p1.BA p1.bs.length p1.bc), (.slice p1.CA p1.cs.length p1.cc)] true, bx b_1 32 (plL p1) true] rfl (by kernel_rfl) (by kernel_rfl) (by kernel_rfl) rfl (by kernel_rfl) (by kernel_rfl) (by kernel_rfl) (by rw [Nat.ble_eq]; simp only [setAll_len, List.length_append, flat_len enC_size]; show 0 + nb * 7 + 7 ≤ _; omega) (by kernel_rfl) fun w_37 a H HP => ?_
    refine ⟨.inl (by kernel_rfl), ?_⟩
    refine An.done (by kernel_rfl) ?_
    rw [swap_cells hl_na hl_nb] at HP
    refine then_normal (wp_seq (w_region ?_))
    refine H.u 78 (.agg #[(ii p1.channel), (ii p1.num), (ii p1.den), (ii p1.offset), (.slice p1.SA p1.sh.length p1.sc), (ii p1.epoch), (ii p1.regions), (ii p1.length), (ii p1.fill), (.slice p1.IA p1.its.length p1.ic), (.slice B_18 (na + (p1.es.length - (na + 1))) c_19), (.slice p1.BA p1.bs.length p1.bc), (.slice p1.CA p1.cs.length p1.cc)]) (ex_loadN (vs := [(ii p1.channel), (ii p1.num), (ii p1.den), (ii p1.offset), (.slice p1.SA p1.sh.length p1.sc), (ii p1.epoch), (ii p1.regions), (ii p1.length), (ii p1.fill), (.slice p1.IA p1.its.length p1.ic), (.slice B_18 (na + (p1.es.length - (na + 1))) c_19), (.slice p1.BA p1.bs.length p1.bc), (.slice p1.CA p1.cs.length p1.cc)]) (by kernel_rfl) (by kernel_rfl) (by kernel_rfl) rfl (HP.cells 3 rfl 0 13 (by kernel_rfl))) fun a H => ?_
    refine H.call 79 (by kernel_rfl) (Eq.trans (by kernel_rfl : _ = (callFunc 14 #[(.agg #[(ii p1.channel), (ii p1.num), (ii p1.den), (ii p1.offset), (.slice p1.SA p1.sh.length p1.sc), (ii p1.epoch), (ii p1.regions), (ii p1.length), (ii p1.fill), (.slice p1.IA p1.its.length p1.ic), (.slice B_18 (na + (p1.es.length - (na + 1))) c_19), (.slice p1.BA p1.bs.length p1.bc), (.slice p1.CA p1.cs.length p1.cc)])]).run Tryz.prog w_37) (Tryz.call14 _ _)) (valid_cutE p1 hvp B_18 c_19 _ na (cutL_len hl_na) w_37 (HP.fact 0 rfl : IsPln _ p1) (IsRow.ofOwn (HP.held 2 rfl) (cutL_len hl_na)) (hL.below HP.bl).rates) ?_
    rintro e w_38 ⟨rfl, hb⟩
    refine ⟨_, rfl, ?_⟩
    intro a H
    have HP := HP.next hb
    refine H.v 80 (.bool false) fun a H => ?_
    refine H.v 81 (.bool false) fun a H => ?_
    refine H.u 82 (.agg #[(ii p1.channel), (ii p1.num), (ii p1.den), (ii p1.offset), (.slice p1.SA p1.sh.length p1.sc), (ii p1.epoch), (ii p1.regions), (ii p1.length), (ii p1.fill), (.slice p1.IA p1.its.length p1.ic), (.slice (some ⟨gx, 0, none⟩) p1.es.length c_28), (.slice p1.BA p1.bs.length p1.bc), (.slice p1.CA p1.cs.length p1.cc)]) (ex_loadN (vs := [(ii p1.channel), (ii p1.num), (ii p1.den), (ii p1.offset), (.slice p1.SA p1.sh.length p1.sc), (ii p1.epoch), (ii p1.regions), (ii p1.length), (ii p1.fill), (.slice p1.IA p1.its.length p1.ic), (.slice (some ⟨gx, 0, none⟩) p1.es.length c_28), (.slice p1.BA p1.bs.length p1.bc), (.slice p1.CA p1.cs.length p1.cc)]) (by kernel_rfl) (by kernel_rfl) (by kernel_rfl) rfl (HP.cells 1 rfl 0 13 (by kernel_rfl))) fun a H => ?_
    refine H.call 83 (by kernel_rfl) (Eq.trans (by kernel_rfl : _ = (callFunc 14 #[(.agg #[(ii p1.channel), (ii p1.num), (ii p1.den), (ii p1.offset), (.slice p1.SA p1.sh.length p1.sc), (ii p1.epoch), (ii p1.regions), (ii p1.length), (ii p1.fill), (.slice p1.IA p1.its.length p1.ic), (.slice (some ⟨gx, 0, none⟩) p1.es.length c_28), (.slice p1.BA p1.bs.length p1.bc), (.slice p1.CA p1.cs.length p1.cc)])]).run Tryz.prog w_38) (Tryz.call14 _ _)) (valid_swapE p1 hvp (some ⟨gx, 0, none⟩) c_28 na nb hx_na hx_nb w_38 (HP.fact 0 rfl : IsPln _ p1) (IsRow.ofBox enC_size (HP.at_ 0 rfl)) (hL.below HP.bl).rates) ?_
    rintro e w_39 ⟨rfl, hb⟩
    refine ⟨_, rfl, ?_⟩
    intro a H
    have HP := HP.next hb
    refine H.v 84 (.bool false) fun a H => ?_
    refine H.v 85 (.bool false) fun a H => ?_
    refine wpList_nil (then_normal ?_)
    refine w_iff H rfl ?_
    refine wp_skip (then_normal ?_)
    exact ⟨H.keep (by kernel_rfl), ((((HP.tail rfl).tail rfl).tail rfl).tail rfl)⟩
  ·have g29p := of_decide_eq_false g29
   refine wp_skip (then_normal ?_)
   exact ⟨H.keep (by kernel_rfl), HP⟩
 ·
  rintro a w_40 ⟨H, HP⟩
  refine w_cut (fun a wv => Sl 175 [(7, (.bool true)), (6, (.bool false)), (3, (pt b_1 0)), (0, (plV p)), (1, (ii i)), (2, (ii k))] a ∧ Hp w wv [bx b_1 32 (plL p1) true] [plnK p1]) ?_ ?_
  ·
   refine wp_seq (w_region ?_)
   refine H.v 86 (pt b_1 12) fun a H => ?_
   refine H.u 87 (.slice p1.CA p1.cs.length p1.cc) (ex_l1 (HP.cell 0 rfl 12 rfl)) fun a H => ?_
   refine H.v 88 (ii p1.cs.length) fun a H => ?_
   refine H.v 89 (.bool (decide ((p1.cs.length : Int) > 0))) fun a H => ?_
   refine wpList_nil (then_normal ?_)
   refine w_if H rfl (fun g89 => ?_) (fun g89 => ?_)
   ·have g89p := of_decide_eq_true g89
    refine wp_seq (w_region ?_)
    refine H.v 90 (ii i) fun a H => ?_
    refine H.v 91 (pt b_1 12) fun a H => ?_
    refine H.u 92 (.slice p1.CA p1.cs.length p1.cc) (ex_l1 (HP.cell 0 rfl 12 rfl)) fun a H => ?_
    refine H.v 93 (ii p1.cs.length) fun a H => ?_
    have hp_nc := pickI_lt i (p1.cs.length : Int) (by omega)
    obtain ⟨nc, he_nc⟩ : ∃ z : Nat, pickI i (p1.cs.length : Int) = (z : Int) := ⟨_, (Int.toNat_of_nonneg hp_nc.1).symm⟩
    have hl_nc : nc < p1.cs.length := by omega
    obtain ⟨xnc, hx_nc⟩ : ∃ z, p1.cs[nc]? = some z := ⟨_, List.getElem?_eq_getElem hl_nc⟩
    refine H.call 94 (by kernel_rfl) (Eq.trans (by kernel_rfl : _ = (callFunc 29 #[(ii i), (ii p1.cs.length)]).run Tryz.prog w_40) (Tryz.call29 _ _)) ((by have hh := pick_any i (p1.cs.length : Int) w_40 hri (by omega); rw [he_nc] at hh; exact hh)) ?_
    rintro e w_41 ⟨rfl, rfl⟩
    refine ⟨_, rfl, ?_⟩
    intro a H
    have HP := HP
    refine H.v 12 (ii nc) fun a H => ?_
    refine wpList_nil (then_normal (wp_seq (w_region ?_)))
    refine H.u 95 (plV p1) (ex_loadN (vs := (plL p1)) (by kernel_rfl) (by kernel_rfl) (by kernel_rfl) rfl (HP.cells 0 rfl 0 13 (by kernel_rfl))) fun a H => ?_
    refine H.alloc HP 13 (fun b => (pt b 0)) 32 [(ii 0), (ii 0), (ii 0), (ii 0), (.slice none 0 0), (ii 0), (ii 0), (ii 0), (ii 0), (.slice none 0 0), (.slice none 0 0), (.slice none 0 0), (.slice none 0 0)] (by kernel_rfl) (fun w => by kernel_rfl) fun b_42 w_43 a H HP => ?_
    refine H.store HP 0 b_42 0 13 32 _ true (plV p1) [bx b_42 32 (plL p1) true, bx b_1 32 (plL p1) true] (by kernel_rfl) (by kernel_rfl) (by kernel_rfl) rfl (by kernel_rfl) (by kernel_rfl) (by kernel_rfl) (by kernel_rfl) (by kernel_rfl) fun w_44 a H HP => ?_
    refine wpList_nil (then_normal (wp_seq ?_))
    have hsome_cs : p1.CA ≠ none := fun h => by obtain ⟨_, _, _, hA, _⟩ := IsRow.get clC_size ((HP.fact 0 rfl : IsPln _ p1)).cs hl_nc; rw [h] at hA; cases hA
    have hsome2_cs : ∀ c i, dropA p1.CA c i 8 ≠ none := fun c i h => by unfold dropA at h; split at h <;> first | exact hsome_cs h | exact hsome_cs (Option.map_eq_none_iff.1 h)
    refine An.start (fun v => Hp w v [bx b_42 32 (plL p1) true, bx b_1 32 (plL p1) true] [plnK p1]) 13 14 HP wide_follows rfl fun w_45 HP => ?_
    refine An.p H (.inr HP) 1 97 (pt b_1 12) fun a H => ?_
    refine An.val H (HP) 2 98 (.slice p1.CA p1.cs.length p1.cc) rfl (by kernel_rfl) (by kernel_rfl) (fun _ _ _ h => h) (fun _ hS => ex_l1 (hS.cell 1 rfl 12 rfl)) fun a H => ?_
    refine An.p H (.inr HP) 3 99 (ii nc) fun a H => ?_
    refine An.pure H (.inr (HP)) 4 100 (.slice p1.CA nc p1.cc) rfl (by kernel_rfl) (by kernel_rfl) (fun _ _ _ h => h) (fun _ => ex_sliceH (A := p1.CA) (len := p1.cs.length) (cap := p1.cc) (k := .i64) (n := (nc : Int)) (m := nc) (sz := 8) (by kernel_rfl) (by kernel_rfl) (by kernel_rfl) (by kernel_rfl) rfl (by omega)) fun a H => ?_
    refine An.p H (.inr HP) 6 102 (pt b_1 12) fun a H => ?_
    refine An.val H (HP) 7 103 (.slice p1.CA p1.cs.length p1.cc) rfl (by kernel_rfl) (by kernel_rfl) (fun _ _ _ h => h) (fun _ hS => ex_l1 (hS.cell 1 rfl 12 rfl)) fun a H => ?_
    refine An.p H (.inr HP) 8 104 (ii nc) fun a H => ?_
    refine An.pureE H (.inr (HP)) 9 105 (ii (IntKind.i64.wrap ((nc : Int) + 1))) (ii ((nc : Int) + 1)) rfl (by kernel_rfl) (by kernel_rfl) (fun _ _ _ h => h) (fun _ => by kernel_rfl) ((by rw [wrap_ini64 _ (by omega)])) fun a H => ?_
    refine An.pure H (.inr (HP)) 10 106 (.slice (dropA p1.CA p1.cc (nc + 1) 8) (p1.cs.length - (nc + 1)) (p1.cc - (nc + 1))) rfl (by kernel_rfl) (by kernel_rfl) (fun _ _ _ h => h) (fun _ => ex_sliceLo (A := p1.CA) (len := p1.cs.length) (cap := p1.cc) (i := nc + 1) (sz := 8) (lo := (nc : Int) + 1) (by kernel_rfl) (by kernel_rfl) (by kernel_rfl) (by kernel_rfl) (by omega) (by omega)) fun a H => ?_
    refine An.one 0 (by kernel_rfl) ?_
    refine Op.alloc H HP 96 (fun b => (.slice (some ⟨b, 0, none⟩) 0 0)) 73 [] rfl (by kernel_rfl) (fun w => by kernel_rfl) fun b_46 w_47 a H HP => ?_
    refine ⟨.inr ((HP.tail rfl)), ?_⟩
    refine An.one 5 (by kernel_rfl) ?_
    have HP := HP.rowNew 0 rfl (cs := clC) (size := 8) [(rowsR w.heap.size 73 8 clC okT feF (.slice (some ⟨b_46, 0, none⟩) 0 0) ([] : List Cls)), bx b_42 32 (plL p1) true, bx b_1 32 (plL p1) true] (by kernel_rfl)
    refine Op.appX H HP 101 0 (l := ([] : List Cls)) 73 (z := (.agg #[(ii 0), (ii 0), (ii 0), (ii 0), (ii 0), (ii 0), (ii 0), (ii 0)])) (bytes := 64) p1.CA (nc) (p1.cc) (p1.cs.take nc) rfl (by kernel_rfl) (by kernel_rfl) (by kernel_rfl) (by kernel_rfl) (by kernel_rfl) (by kernel_rfl) rfl (by kernel_rfl) (fun h => absurd h (by intro h2; exact hsome_cs h2)) (by have hh := IsRow.take clC_size ((HP.fact 0 rfl : IsPln _ p1)).cs (Nat.le_of_lt hl_nc); unfold IsRow at hh; rw [take_n hl_nc] at hh; exact hh) (flat_ones oc_cl _) (take_n hl_nc) (by show 0 + nc ≤ maxLen; unfold maxLen; omega) (by show (0 + nc) * _ ≤ _; omega) fun B_48 c_49 w_50 a H HP => ?_
    rw [show ([] : List Cls).length + nc = nc from Nat.zero_add _] at H HP
    rw [List.nil_append] at HP
    have HP : Hp w w_50 [(rowsR w.heap.size 73 8 clC okT feF (.slice B_48 nc c_49) (p1.cs.take nc)), bx b_42 32 (plL p1) true, bx b_1 32 (plL p1) true] [plnK p1] := HP
    refine ⟨.inr ((HP.tail rfl)), ?_⟩
    refine An.one 11 (by kernel_rfl) ?_
    refine Op.appX H HP 107 0 (l := p1.cs.take nc) 73 (z := (.agg #[(ii 0), (ii 0), (ii 0), (ii 0), (ii 0), (ii 0), (ii 0), (ii 0)])) (bytes := 64) (dropA p1.CA p1.cc (nc + 1) 8) (p1.cs.length - (nc + 1)) (p1.cc - (nc + 1)) (p1.cs.drop (nc + 1)) rfl (by kernel_rfl) (by kernel_rfl) (by kernel_rfl) (by kernel_rfl) (by kernel_rfl) (by kernel_rfl) rfl (by kernel_rfl) (fun h => absurd h (by intro h2; exact hsome2_cs _ _ h2)) (IsRow.dropA clC_size ((HP.fact 0 rfl : IsPln _ p1)).cs (by omega) hl_nc) (flat_ones oc_cl _) (List.length_drop) (by rw [take_n hl_nc]; unfold maxLen; omega) (by rw [take_n hl_nc]; omega) fun B_51 c_52 w_53 a H HP => ?_
    rw [take_n hl_nc] at H HP
    have HP : Hp w w_53 [(rowsR w.heap.size 73 8 clC okT feF (.slice B_51 (nc + (p1.cs.length - (nc + 1))) c_52) (cutL p1.cs nc)), bx b_42 32 (plL p1) true, bx b_1 32 (plL p1) true] [plnK p1] := HP
    refine ⟨.inr ((HP.tail rfl)), ?_⟩
    refine An.p H (.inr ((HP.tail rfl))) 12 108 (pt b_42 12) fun a H => ?_
    refine An.one 13 (by kernel_rfl) ?_
    refine Op.store H HP 1 b_42 12 1 32 (plL p1) true (.slice B_51 (nc + (p1.cs.length - (nc + 1))) c_52) [(rowsR w.heap.size 73 8 clC okT feF (.slice B_51 (nc + (p1.cs.length - (nc + 1))) c_52) (cutL p1.cs nc)), bx b_42 32 [(ii p1.channel), (ii p1.num), (ii p1.den), (ii p1.offset), (.slice p1.SA p1.sh.length p1.sc), (ii p1.epoch), (ii p1.regions), (ii p1.length), (ii p1.fill), (.slice p1.IA p1.its.length p1.ic), (.slice p1.EA p1.es.length p1.ec), (.slice p1.BA p1.bs.length p1.bc), (.slice B_51 (nc + (p1.cs.length - (nc + 1))) c_52)] true, bx b_1 32 (plL p1) true] rfl (by kernel_rfl) (by kernel_rfl) (by kernel_rfl) rfl (by kernel_rfl) (by kernel_rfl) (by kernel_rfl) (by kernel_rfl) (by kernel_rfl) fun w_54 a H HP => ?_
    refine ⟨.inl (by kernel_rfl), ?_⟩
    refine An.done (by kernel_rfl) ?_
    refine then_normal (wp_seq (w_region ?_))
    refine H.u 109 (.agg #[(ii p1.channel), (ii p1.num), (ii p1.den), (ii p1.offset), (.slice p1.SA p1.sh.length p1.sc), (ii p1.epoch), (ii p1.regions), (ii p1.length), (ii p1.fill), (.slice p1.IA p1.its.length p1.ic), (.slice p1.EA p1.es.length p1.ec), (.slice p1.BA p1.bs.length p1.bc), (.slice B_51 (nc + (p1.cs.length - (nc + 1))) c_52)]) (ex_loadN (vs := [(ii p1.channel), (ii p1.num), (ii p1.den), (ii p1.offset), (.slice p1.SA p1.sh.length p1.sc), (ii p1.epoch), (ii p1.regions), (ii p1.length), (ii p1.fill), (.slice p1.IA p1.its.length p1.ic), (.slice p1.EA p1.es.length p1.ec), (.slice p1.BA p1.bs.length p1.bc), (.slice B_51 (nc + (p1.cs.length - (nc + 1))) c_52)]) (by kernel_rfl) (by kernel_rfl) (by kernel_rfl) rfl (HP.cells 1 rfl 0 13 (by kernel_rfl))) fun a H => ?_
    refine H.call 110 (by kernel_rfl) (Eq.trans (by kernel_rfl : _ = (callFunc 14 #[(.agg #[(ii p1.channel), (ii p1.num), (ii p1.den), (ii p1.offset), (.slice p1.SA p1.sh.length p1.sc), (ii p1.epoch), (ii p1.regions), (ii p1.length), (ii p1.fill), (.slice p1.IA p1.its.length p1.ic), (.slice p1.EA p1.es.length p1.ec), (.slice p1.BA p1.bs.length p1.bc), (.slice B_51 (nc + (p1.cs.length - (nc + 1))) c_52)])]).run Tryz.prog w_54) (Tryz.call14 _ _)) (valid_cutC p1 hvp B_51 c_52 _ nc (cutL_len hl_nc) w_54 (HP.fact 0 rfl : IsPln _ p1) (IsRow.ofOwn (HP.held 0 rfl) (cutL_len hl_nc)) (hL.below HP.bl).rates) ?_
    rintro e w_55 ⟨rfl, hb⟩
    refine ⟨_, rfl, ?_⟩
    intro a H
    have HP := HP.next hb
    refine H.v 111 (.bool false) fun a H => ?_
    refine wpList_nil (then_normal ?_)
    refine w_iff H rfl ?_
    refine wp_skip (then_normal ?_)
    exact ⟨H.keep (by kernel_rfl), ((HP.tail rfl).tail rfl)⟩
   ·have g89p := of_decide_eq_false g89
    refine wp_skip (then_normal ?_)
    exact ⟨H.keep (by kernel_rfl), HP⟩
  ·
   rintro a w_56 ⟨H, HP⟩
   refine w_cut (fun a wv => Sl 175 [(7, (.bool true)), (6, (.bool false)), (3, (pt b_1 0)), (0, (plV p)), (1, (ii i)), (2, (ii k))] a ∧ Hp w wv [bx b_1 32 (plL p1) true] [plnK p1]) ?_ ?_
   ·
    refine wp_seq (w_region ?_)
    refine H.v 112 (pt b_1 11) fun a H => ?_
    refine H.u 113 (.slice p1.BA p1.bs.length p1.bc) (ex_l1 (HP.cell 0 rfl 11 rfl)) fun a H => ?_
    refine H.v 114 (ii p1.bs.length) fun a H => ?_
    refine H.v 115 (.bool (decide ((p1.bs.length : Int) > 0))) fun a H => ?_
    refine wpList_nil (then_normal ?_)
    refine w_if H rfl (fun g115 => ?_) (fun g115 => ?_)
    ·have g115p := of_decide_eq_true g115
     refine wp_seq (w_region ?_)
     refine H.v 116 (ii k) fun a H => ?_
     refine H.v 117 (pt b_1 11) fun a H => ?_
     refine H.u 118 (.slice p1.BA p1.bs.length p1.bc) (ex_l1 (HP.cell 0 rfl 11 rfl)) fun a H => ?_
     refine H.v 119 (ii p1.bs.length) fun a H => ?_
     have hp_nd := pickI_lt k (p1.bs.length : Int) (by omega)
     obtain ⟨nd, he_nd⟩ : ∃ z : Nat, pickI k (p1.bs.length : Int) = (z : Int) := ⟨_, (Int.toNat_of_nonneg hp_nd.1).symm⟩
     have hl_nd : nd < p1.bs.length := by omega
     obtain ⟨xnd, hx_nd⟩ : ∃ z, p1.bs[nd]? = some z := ⟨_, List.getElem?_eq_getElem hl_nd⟩
     refine H.call 120 (by kernel_rfl) (Eq.trans (by kernel_rfl : _ = (callFunc 29 #[(ii k), (ii p1.bs.length)]).run Tryz.prog w_56) (Tryz.call29 _ _)) ((by have hh := pick_any k (p1.bs.length : Int) w_56 hrk (by omega); rw [he_nd] at hh; exact hh)) ?_
     rintro e w_57 ⟨rfl, rfl⟩
     refine ⟨_, rfl, ?_⟩
     intro a H
     have HP := HP
     refine H.v 14 (ii nd) fun a H => ?_
     refine wpList_nil (then_normal (wp_seq (w_region ?_)))
     refine H.v 15 (.bool false) fun a H => ?_
     refine wpList_nil (then_normal (wp_seq (wp_seq ?_)))
     have H := H.as 15 (.bool (namedB p1.es xnd.id 0)) rfl rfl
     refine w_region ?_
     refine H.v 16 (ii 0) fun a H => ?_
     refine wpList_nil (then_normal (wp_block ?_))
     refine w_loop (fun mm a wv => ∃ (j : Nat), p1.es.length - j = mm ∧ Sl 175 [(16, (ii j)), (15, (.bool (namedB p1.es xnd.id j))), (14, (ii nd)), (120, (ii nd)), (119, (ii p1.bs.length)), (118, (.slice p1.BA p1.bs.length p1.bc)), (117, (pt b_1 11)), (116, (ii k)), (115, (.bool (decide ((p1.bs.length : Int) > 0)))), (114, (ii p1.bs.length)), (113, (.slice p1.BA p1.bs.length p1.bc)), (112, (pt b_1 11)), (7, (.bool true)), (6, (.bool false)), (3, (pt b_1 0)), (0, (plV p)), (1, (ii i)), (2, (ii k))] a ∧ Hp w wv [bx b_1 32 (plL p1) true] [plnK p1] ∧ (j ≤ p1.es.length)) (p1.es.length - 0) ?_ ?_
     ·exact ⟨0, (by omega), H.keep (by kernel_rfl), HP, (Nat.zero_le _)⟩
     rintro mm a w_58 ⟨j, hmeas, H, HP, hjb⟩
     refine wp_seq (wp_seq (w_region ?_))
     refine H.v 121 (ii j) fun a H => ?_
     refine H.v 122 (pt b_1 10) fun a H => ?_
     refine H.u 123 (.slice p1.EA p1.es.length p1.ec) (ex_l1 (HP.cell 0 rfl 10 rfl)) fun a H => ?_
     refine H.v 124 (ii p1.es.length) fun a H => ?_
     refine H.v 125 (.bool (decide ((j : Int) < (p1.es.length : Int)))) fun a H => ?_
     refine wpList_nil (then_normal ?_)
     refine w_if H rfl (fun g125 => ?_) (fun g125 => ?_)
     ·have g125p := of_decide_eq_true g125
      refine wp_skip (then_normal (wp_seq (wp_block ?_)))
      obtain ⟨bu_60, ou_61, x_59, hA_62, _, hd_64, hx_63, hm_65, _⟩ := IsRow.get enC_size ((HP.fact 0 rfl : IsPln _ p1).es.row) (i := j) (by omega)
      obtain ⟨bu_67, ou_68, y_66, hA_69, _, hd_71, hx_70, hm_72, _⟩ := IsRow.get bkC_size ((HP.fact 0 rfl : IsPln _ p1).bs) (i := nd) (by omega)
      have hyx : y_66 = xnd := Option.some.inj (hx_70.symm.trans hx_nd)
      refine An.start (fun v => Hp w v [bx b_1 32 (plL p1) true] [plnK p1]) 17 17 HP wide_follows rfl fun w_73 HP => ?_
      refine An.p H (.inr HP) 0 128 (.bool (namedB p1.es xnd.id j)) fun a H => ?_
      refine An.p H (.inr HP) 1 129 (.bool (namedB p1.es xnd.id j)) fun a H => ?_
      refine H.split 129 rfl (fun g129 H => ?_) (fun g129 H => ?_)
      ·have g129p := g129
       refine An.s H (.inr HP) 2 130 fun a H => ?_
       refine An.s H (.inr HP) 3 131 fun a H => ?_
       refine An.s H (.inr HP) 4 132 fun a H => ?_
       refine An.s H (.inr HP) 5 133 fun a H => ?_
       refine An.s H (.inr HP) 6 134 fun a H => ?_
       refine An.s H (.inr HP) 7 135 fun a H => ?_
       refine An.s H (.inr HP) 8 136 fun a H => ?_
       refine An.s H (.inr HP) 9 137 fun a H => ?_
       refine An.s H (.inr HP) 10 138 fun a H => ?_
       refine An.s H (.inr HP) 11 139 fun a H => ?_
       refine An.s H (.inr HP) 12 140 fun a H => ?_
       refine An.s H (.inr HP) 13 141 fun a H => ?_
       refine An.s H (.inr HP) 14 142 fun a H => ?_
       refine An.p H (.inr HP) 15 143 (.bool true) fun a H => ?_
       refine An.p H (.inr HP) 16 15 (.bool true) fun a H => ?_
       refine An.done (by kernel_rfl) ?_
       refine inb_normal (then_normal (w_region ?_))
       refine H.v 126 (ii j) fun a H => ?_
       refine H.valE 127 (ii (IntKind.i64.wrap ((j : Int) + 1))) (ii ((j : Int) + 1)) (by kernel_rfl) (by kernel_rfl) ((by rw [wrap_ini64 _ (by omega)])) fun a H => ?_
       refine H.v 16 (ii ((j : Int) + 1)) fun a H => ?_
       refine wpList_nil (then_normal ?_)
       have H := H.as 16 (ii ((j + 1 : Nat) : Int)) rfl rfl
       have H := H.as 15 (.bool (namedB p1.es xnd.id (j + 1))) rfl (congrArg Value.bool (namedB_t g129 hx_63))
       refine ⟨_, ?_, j + 1, rfl, H.keep (by kernel_rfl), HP, (by omega)⟩
       omega
      ·have g129p := g129
       refine An.p H (.inr HP) 2 130 (pt b_1 10) fun a H => ?_
       refine An.val H (HP) 3 131 (.slice p1.EA p1.es.length p1.ec) rfl (by kernel_rfl) (by kernel_rfl) (fun _ _ _ h => h) (fun _ hS => ex_l1 (hS.cell 0 rfl 10 rfl)) fun a H => ?_
       refine An.p H (.inr HP) 4 132 (ii j) fun a H => ?_
       refine An.pure H (.inr (HP)) 5 133 (.pointer (some ⟨bu_60, ou_61 + j * 7, none⟩)) rfl (by kernel_rfl) (by kernel_rfl) (fun _ _ _ h => h) (fun _ => ex_indexA (b := bu_60) (off := ou_61) (len := p1.es.length) (cap := p1.ec) (e := 43) (k := 7) (ik := .i64) (i := (j : Int)) (m := j) hA_62 (by kernel_rfl) (by kernel_rfl) (by omega) (by omega) (by kernel_rfl) (by kernel_rfl)) fun a H => ?_
       refine An.p H (.inr HP) 6 134 (.pointer (some ⟨bu_60, ou_61 + j * 7 + 5, none⟩)) fun a H => ?_
       refine An.val H (HP) 7 135 (ii x_59.booking) rfl (by kernel_rfl) (by kernel_rfl) (fun _ _ _ h => h) (fun _ hS => ex_l1 (IsRow.cells enC_size ((hS.fact 0 rfl : IsPln _ p1).es.row) hA_62 hx_63 5 _ rfl)) fun a H => ?_
       refine An.p H (.inr HP) 8 136 (pt b_1 11) fun a H => ?_
       refine An.val H (HP) 9 137 (.slice p1.BA p1.bs.length p1.bc) rfl (by kernel_rfl) (by kernel_rfl) (fun _ _ _ h => h) (fun _ hS => ex_l1 (hS.cell 0 rfl 11 rfl)) fun a H => ?_
       refine An.p H (.inr HP) 10 138 (ii nd) fun a H => ?_
       refine An.pure H (.inr (HP)) 11 139 (.pointer (some ⟨bu_67, ou_68 + nd * 7, none⟩)) rfl (by kernel_rfl) (by kernel_rfl) (fun _ _ _ h => h) (fun _ => ex_indexA (b := bu_67) (off := ou_68) (len := p1.bs.length) (cap := p1.bc) (e := 47) (k := 7) (ik := .i64) (i := (nd : Int)) (m := nd) hA_69 (by kernel_rfl) (by kernel_rfl) (by omega) (by omega) (by kernel_rfl) (by kernel_rfl)) fun a H => ?_
       refine An.p H (.inr HP) 12 140 (.pointer (some ⟨bu_67, ou_68 + nd * 7, none⟩)) fun a H => ?_
       refine An.val H (HP) 13 141 (ii y_66.id) rfl (by kernel_rfl) (by kernel_rfl) (fun _ _ _ h => h) (fun _ hS => ex_l1 (IsRow.cells bkC_size ((hS.fact 0 rfl : IsPln _ p1).bs) hA_69 hx_70 0 _ rfl)) fun a H => ?_
       refine An.pureE H (.inr (HP)) 14 142 (.bool (x_59.booking == y_66.id)) (.bool (x_59.booking == xnd.id)) rfl (by kernel_rfl) (by kernel_rfl) (fun _ _ _ h => h) (fun _ => by kernel_rfl) ((congrArg Value.bool (by rw [hyx]))) fun a H => ?_
       refine An.p H (.inr HP) 15 143 (.bool (x_59.booking == xnd.id)) fun a H => ?_
       refine An.p H (.inr HP) 16 15 (.bool (x_59.booking == xnd.id)) fun a H => ?_
       refine An.done (by kernel_rfl) ?_
       refine inb_normal (then_normal (w_region ?_))
       refine H.v 126 (ii j) fun a H => ?_
       refine H.valE 127 (ii (IntKind.i64.wrap ((j : Int) + 1))) (ii ((j : Int) + 1)) (by kernel_rfl) (by kernel_rfl) ((by rw [wrap_ini64 _ (by omega)])) fun a H => ?_
       refine H.v 16 (ii ((j : Int) + 1)) fun a H => ?_
       refine wpList_nil (then_normal ?_)
       have H := H.as 16 (ii ((j + 1 : Nat) : Int)) rfl rfl
       have H := H.as 15 (.bool (namedB p1.es xnd.id (j + 1))) rfl (congrArg Value.bool (namedB_f g129 hx_63))
       refine ⟨_, ?_, j + 1, rfl, H.keep (by kernel_rfl), HP, (by omega)⟩
       omega
     ·have g125p := of_decide_eq_false g125
      refine wp_exit (then_exit (then_exit ?_))
      refine w_exit_here ?_
      refine then_normal (wp_seq ?_)
      have hnm : namedB p1.es xnd.id j = p1.es.any fun e => e.booking == xnd.id := namedB_end (by omega)
      refine w_region ?_
      refine H.u 144 (plV p1) (ex_loadN (vs := (plL p1)) (by kernel_rfl) (by kernel_rfl) (by kernel_rfl) rfl (HP.cells 0 rfl 0 13 (by kernel_rfl))) fun a H => ?_
      refine H.alloc HP 17 (fun b => (pt b 0)) 32 [(ii 0), (ii 0), (ii 0), (ii 0), (.slice none 0 0), (ii 0), (ii 0), (ii 0), (ii 0), (.slice none 0 0), (.slice none 0 0), (.slice none 0 0), (.slice none 0 0)] (by kernel_rfl) (fun w => by kernel_rfl) fun b_74 w_75 a H HP => ?_
      refine H.store HP 0 b_74 0 13 32 _ true (plV p1) [bx b_74 32 (plL p1) true, bx b_1 32 (plL p1) true] (by kernel_rfl) (by kernel_rfl) (by kernel_rfl) rfl (by kernel_rfl) (by kernel_rfl) (by kernel_rfl) (by kernel_rfl) (by kernel_rfl) fun w_76 a H HP => ?_
      refine wpList_nil (then_normal (wp_seq ?_))
      have hsome_bs : p1.BA ≠ none := fun h => by obtain ⟨_, _, _, hA, _⟩ := IsRow.get bkC_size ((HP.fact 0 rfl : IsPln _ p1)).bs hl_nd; rw [h] at hA; cases hA
      have hsome2_bs : ∀ c i, dropA p1.BA c i 7 ≠ none := fun c i h => by unfold dropA at h; split at h <;> first | exact hsome_bs h | exact hsome_bs (Option.map_eq_none_iff.1 h)
      refine An.start (fun v => Hp w v [bx b_74 32 (plL p1) true, bx b_1 32 (plL p1) true] [plnK p1]) 13 14 HP wide_follows rfl fun w_77 HP => ?_
      refine An.p H (.inr HP) 1 146 (pt b_1 11) fun a H => ?_
      refine An.val H (HP) 2 147 (.slice p1.BA p1.bs.length p1.bc) rfl (by kernel_rfl) (by kernel_rfl) (fun _ _ _ h => h) (fun _ hS => ex_l1 (hS.cell 1 rfl 11 rfl)) fun a H => ?_
      refine An.p H (.inr HP) 3 148 (ii nd) fun a H => ?_
      refine An.pure H (.inr (HP)) 4 149 (.slice p1.BA nd p1.bc) rfl (by kernel_rfl) (by kernel_rfl) (fun _ _ _ h => h) (fun _ => ex_sliceH (A := p1.BA) (len := p1.bs.length) (cap := p1.bc) (k := .i64) (n := (nd : Int)) (m := nd) (sz := 7) (by kernel_rfl) (by kernel_rfl) (by kernel_rfl) (by kernel_rfl) rfl (by omega)) fun a H => ?_
      refine An.p H (.inr HP) 6 151 (pt b_1 11) fun a H => ?_
      refine An.val H (HP) 7 152 (.slice p1.BA p1.bs.length p1.bc) rfl (by kernel_rfl) (by kernel_rfl) (fun _ _ _ h => h) (fun _ hS => ex_l1 (hS.cell 1 rfl 11 rfl)) fun a H => ?_
      refine An.p H (.inr HP) 8 153 (ii nd) fun a H => ?_
      refine An.pureE H (.inr (HP)) 9 154 (ii (IntKind.i64.wrap ((nd : Int) + 1))) (ii ((nd : Int) + 1)) rfl (by kernel_rfl) (by kernel_rfl) (fun _ _ _ h => h) (fun _ => by kernel_rfl) ((by rw [wrap_ini64 _ (by omega)])) fun a H => ?_
      refine An.pure H (.inr (HP)) 10 155 (.slice (dropA p1.BA p1.bc (nd + 1) 7) (p1.bs.length - (nd + 1)) (p1.bc - (nd + 1))) rfl (by kernel_rfl) (by kernel_rfl) (fun _ _ _ h => h) (fun _ => ex_sliceLo (A := p1.BA) (len := p1.bs.length) (cap := p1.bc) (i := nd + 1) (sz := 7) (lo := (nd : Int) + 1) (by kernel_rfl) (by kernel_rfl) (by kernel_rfl) (by kernel_rfl) (by omega) (by omega)) fun a H => ?_
      refine An.one 0 (by kernel_rfl) ?_
      refine Op.alloc H HP 145 (fun b => (.slice (some ⟨b, 0, none⟩) 0 0)) 47 [] rfl (by kernel_rfl) (fun w => by kernel_rfl) fun b_78 w_79 a H HP => ?_
      refine ⟨.inr ((HP.tail rfl)), ?_⟩
      refine An.one 5 (by kernel_rfl) ?_
      have HP := HP.rowNew 0 rfl (cs := bkC) (size := 7) [(rowsR w.heap.size 47 7 bkC okT feF (.slice (some ⟨b_78, 0, none⟩) 0 0) ([] : List Bkg)), bx b_74 32 (plL p1) true, bx b_1 32 (plL p1) true] (by kernel_rfl)
      refine Op.appX H HP 150 0 (l := ([] : List Bkg)) 47 (z := (.agg #[(ii 0), (ii 0), (ii 0), (ii 0), (ii 0), (ii 0), (ii 0)])) (bytes := 56) p1.BA (nd) (p1.bc) (p1.bs.take nd) rfl (by kernel_rfl) (by kernel_rfl) (by kernel_rfl) (by kernel_rfl) (by kernel_rfl) (by kernel_rfl) rfl (by kernel_rfl) (fun h => absurd h (by intro h2; exact hsome_bs h2)) (by have hh := IsRow.take bkC_size ((HP.fact 0 rfl : IsPln _ p1)).bs (Nat.le_of_lt hl_nd); unfold IsRow at hh; rw [take_n hl_nd] at hh; exact hh) (flat_ones oc_bk _) (take_n hl_nd) (by show 0 + nd ≤ maxLen; unfold maxLen; omega) (by show (0 + nd) * _ ≤ _; omega) fun B_80 c_81 w_82 a H HP => ?_
      rw [show ([] : List Bkg).length + nd = nd from Nat.zero_add _] at H HP
      rw [List.nil_append] at HP
      have HP : Hp w w_82 [(rowsR w.heap.size 47 7 bkC okT feF (.slice B_80 nd c_81) (p1.bs.take nd)), bx b_74 32 (plL p1) true, bx b_1 32 (plL p1) true] [plnK p1] := HP
      refine ⟨.inr ((HP.tail rfl)), ?_⟩
      refine An.one 11 (by kernel_rfl) ?_
      refine Op.appX H HP 156 0 (l := p1.bs.take nd) 47 (z := (.agg #[(ii 0), (ii 0), (ii 0), (ii 0), (ii 0), (ii 0), (ii 0)])) (bytes := 56) (dropA p1.BA p1.bc (nd + 1) 7) (p1.bs.length - (nd + 1)) (p1.bc - (nd + 1)) (p1.bs.drop (nd + 1)) rfl (by kernel_rfl) (by kernel_rfl) (by kernel_rfl) (by kernel_rfl) (by kernel_rfl) (by kernel_rfl) rfl (by kernel_rfl) (fun h => absurd h (by intro h2; exact hsome2_bs _ _ h2)) (IsRow.dropA bkC_size ((HP.fact 0 rfl : IsPln _ p1)).bs (by omega) hl_nd) (flat_ones oc_bk _) (List.length_drop) (by rw [take_n hl_nd]; unfold maxLen; omega) (by rw [take_n hl_nd]; omega) fun B_83 c_84 w_85 a H HP => ?_
      rw [take_n hl_nd] at H HP
      have HP : Hp w w_85 [(rowsR w.heap.size 47 7 bkC okT feF (.slice B_83 (nd + (p1.bs.length - (nd + 1))) c_84) (cutL p1.bs nd)), bx b_74 32 (plL p1) true, bx b_1 32 (plL p1) true] [plnK p1] := HP
      refine ⟨.inr ((HP.tail rfl)), ?_⟩
      refine An.p H (.inr ((HP.tail rfl))) 12 157 (pt b_74 11) fun a H => ?_
      refine An.one 13 (by kernel_rfl) ?_
      refine Op.store H HP 1 b_74 11 1 32 (plL p1) true (.slice B_83 (nd + (p1.bs.length - (nd + 1))) c_84) [(rowsR w.heap.size 47 7 bkC okT feF (.slice B_83 (nd + (p1.bs.length - (nd + 1))) c_84) (cutL p1.bs nd)), bx b_74 32 [(ii p1.channel), (ii p1.num), (ii p1.den), (ii p1.offset), (.slice p1.SA p1.sh.length p1.sc), (ii p1.epoch), (ii p1.regions), (ii p1.length), (ii p1.fill), (.slice p1.IA p1.its.length p1.ic), (.slice p1.EA p1.es.length p1.ec), (.slice B_83 (nd + (p1.bs.length - (nd + 1))) c_84), (.slice p1.CA p1.cs.length p1.cc)] true, bx b_1 32 (plL p1) true] rfl (by kernel_rfl) (by kernel_rfl) (by kernel_rfl) rfl (by kernel_rfl) (by kernel_rfl) (by kernel_rfl) (by kernel_rfl) (by kernel_rfl) fun w_86 a H HP => ?_
      refine ⟨.inl (by kernel_rfl), ?_⟩
      refine An.done (by kernel_rfl) ?_
      refine then_normal (wp_seq (w_region ?_))
      refine H.u 158 (.agg #[(ii p1.channel), (ii p1.num), (ii p1.den), (ii p1.offset), (.slice p1.SA p1.sh.length p1.sc), (ii p1.epoch), (ii p1.regions), (ii p1.length), (ii p1.fill), (.slice p1.IA p1.its.length p1.ic), (.slice p1.EA p1.es.length p1.ec), (.slice B_83 (nd + (p1.bs.length - (nd + 1))) c_84), (.slice p1.CA p1.cs.length p1.cc)]) (ex_loadN (vs := [(ii p1.channel), (ii p1.num), (ii p1.den), (ii p1.offset), (.slice p1.SA p1.sh.length p1.sc), (ii p1.epoch), (ii p1.regions), (ii p1.length), (ii p1.fill), (.slice p1.IA p1.its.length p1.ic), (.slice p1.EA p1.es.length p1.ec), (.slice B_83 (nd + (p1.bs.length - (nd + 1))) c_84), (.slice p1.CA p1.cs.length p1.cc)]) (by kernel_rfl) (by kernel_rfl) (by kernel_rfl) rfl (HP.cells 1 rfl 0 13 (by kernel_rfl))) fun a H => ?_
      refine H.call 159 (by kernel_rfl) (Eq.trans (by kernel_rfl : _ = (callFunc 14 #[(.agg #[(ii p1.channel), (ii p1.num), (ii p1.den), (ii p1.offset), (.slice p1.SA p1.sh.length p1.sc), (ii p1.epoch), (ii p1.regions), (ii p1.length), (ii p1.fill), (.slice p1.IA p1.its.length p1.ic), (.slice p1.EA p1.es.length p1.ec), (.slice B_83 (nd + (p1.bs.length - (nd + 1))) c_84), (.slice p1.CA p1.cs.length p1.cc)])]).run Tryz.prog w_86) (Tryz.call14 _ _)) (valid_cutB p1 hvp B_83 c_84 _ nd hx_nd (cutL_len hl_nd) w_86 (HP.fact 0 rfl : IsPln _ p1) (IsRow.ofOwn (HP.held 0 rfl) (cutL_len hl_nd)) (hL.below HP.bl).rates) ?_
      rintro e w_87 ⟨rfl, hb⟩
      refine ⟨_, rfl, ?_⟩
      intro a H
      have HP := HP.next hb
      refine H.v 160 (.bool (namedB p1.es xnd.id j)) fun a H => ?_
      refine H.valE 161 (.bool ((!(p1.es.any fun e => e.booking == xnd.id)) == (namedB p1.es xnd.id j))) (.bool false) (by kernel_rfl) (by kernel_rfl) ((congrArg Value.bool (by rw [hnm]; cases (p1.es.any fun e => e.booking == xnd.id) <;> rfl))) fun a H => ?_
      refine wpList_nil (then_normal ?_)
      refine w_iff H rfl ?_
      refine wp_skip (then_normal ?_)
      exact ⟨H.keep (by kernel_rfl), ((HP.tail rfl).tail rfl)⟩
    ·have g115p := of_decide_eq_false g115
     refine wp_skip (then_normal ?_)
     exact ⟨H.keep (by kernel_rfl), HP⟩
   ·
    rintro a w_88 ⟨H, HP⟩
    refine wp_seq (w_region ?_)
    refine H.u 162 (plV p1) (ex_loadN (vs := (plL p1)) (by kernel_rfl) (by kernel_rfl) (by kernel_rfl) rfl (HP.cells 0 rfl 0 13 (by kernel_rfl))) fun a H => ?_
    refine H.alloc HP 18 (fun b => (pt b 0)) 32 [(ii 0), (ii 0), (ii 0), (ii 0), (.slice none 0 0), (ii 0), (ii 0), (ii 0), (ii 0), (.slice none 0 0), (.slice none 0 0), (.slice none 0 0), (.slice none 0 0)] (by kernel_rfl) (fun w => by kernel_rfl) fun b_89 w_90 a H HP => ?_
    refine H.store HP 0 b_89 0 13 32 _ true (plV p1) [bx b_89 32 (plL p1) true, bx b_1 32 (plL p1) true] (by kernel_rfl) (by kernel_rfl) (by kernel_rfl) rfl (by kernel_rfl) (by kernel_rfl) (by kernel_rfl) (by kernel_rfl) (by kernel_rfl) fun w_91 a H HP => ?_
    refine wpList_nil (then_normal (wp_seq ?_))
    have hlo := len_ok hvp
    obtain ⟨nl, hnl⟩ : ∃ z : Int, (if p1.length + pickI i 1000 < 100000000 then p1.length + pickI i 1000 else 100000000) = z := ⟨_, rfl⟩
    have hpk := pickI_lt i 1000 (by decide)
    have hnl2 : p1.length ≤ nl ∧ nl ≤ 100000000 := by rw [← hnl]; split <;> omega
    refine An.start (fun v => Hp w v [bx b_89 32 (plL p1) true, bx b_1 32 (plL p1) true] [plnK p1]) 7 8 HP wide_follows rfl fun w_92 HP => ?_
    refine An.p H (.inr HP) 0 163 (pt b_1 7) fun a H => ?_
    refine An.val H (HP) 1 164 (ii p1.length) rfl (by kernel_rfl) (by kernel_rfl) (fun _ _ _ h => h) (fun _ hS => ex_l1 (hS.cell 1 rfl 7 rfl)) fun a H => ?_
    refine An.p H (.inr HP) 2 165 (ii i) fun a H => ?_
    refine An.one 3 (by kernel_rfl) ?_
    have hpk := pickI_lt i 1000 (by decide)
    refine Op.call H 166 rfl (by kernel_rfl) (Eq.trans (by kernel_rfl : _ = (callFunc 29 #[(ii i), (ii 1000)]).run Tryz.prog w_92) (Tryz.call29 _ _)) (pick_any i 1000 w_92 hri (by decide)) ?_
    rintro e w_93 ⟨rfl, rfl⟩
    refine ⟨_, rfl, ?_⟩
    intro a H
    have HP := HP
    refine ⟨.inr (HP), ?_⟩
    refine An.pureE H (.inr (HP)) 4 167 (ii (IntKind.i64.wrap (p1.length + (pickI i 1000)))) (ii (p1.length + (pickI i 1000))) rfl (by kernel_rfl) (by kernel_rfl) (fun _ _ _ h => h) (fun _ => by kernel_rfl) ((by rw [wrap_ini64 _ (by omega)])) fun a H => ?_
    refine An.pureE H (.inr (HP)) 5 168 (ii (if p1.length + pickI i 1000 < 100000000 then p1.length + pickI i 1000 else 100000000)) (ii nl) rfl (by kernel_rfl) (by kernel_rfl) (fun _ _ _ h => h) (fun _ => by kernel_rfl) ((congrArg (Value.int .i64) hnl)) fun a H => ?_
    refine An.p H (.inr HP) 6 169 (pt b_89 7) fun a H => ?_
    refine An.one 7 (by kernel_rfl) ?_
    refine Op.store H HP 0 b_89 7 1 32 (plL p1) true (ii nl) [bx b_89 32 [(ii p1.channel), (ii p1.num), (ii p1.den), (ii p1.offset), (.slice p1.SA p1.sh.length p1.sc), (ii p1.epoch), (ii p1.regions), (ii nl), (ii p1.fill), (.slice p1.IA p1.its.length p1.ic), (.slice p1.EA p1.es.length p1.ec), (.slice p1.BA p1.bs.length p1.bc), (.slice p1.CA p1.cs.length p1.cc)] true, bx b_1 32 (plL p1) true] rfl (by kernel_rfl) (by kernel_rfl) (by kernel_rfl) rfl (by kernel_rfl) (by kernel_rfl) (by kernel_rfl) (by kernel_rfl) (by kernel_rfl) fun w_94 a H HP => ?_
    refine ⟨.inl (by kernel_rfl), ?_⟩
    refine An.done (by kernel_rfl) ?_
    refine then_normal (wp_seq (w_region ?_))
    refine H.v 170 (.bool true) fun a H => ?_
    refine H.v 171 (.bool true) fun a H => ?_
    refine H.u 172 (.agg #[(ii p1.channel), (ii p1.num), (ii p1.den), (ii p1.offset), (.slice p1.SA p1.sh.length p1.sc), (ii p1.epoch), (ii p1.regions), (ii nl), (ii p1.fill), (.slice p1.IA p1.its.length p1.ic), (.slice p1.EA p1.es.length p1.ec), (.slice p1.BA p1.bs.length p1.bc), (.slice p1.CA p1.cs.length p1.cc)]) (ex_loadN (vs := [(ii p1.channel), (ii p1.num), (ii p1.den), (ii p1.offset), (.slice p1.SA p1.sh.length p1.sc), (ii p1.epoch), (ii p1.regions), (ii nl), (ii p1.fill), (.slice p1.IA p1.its.length p1.ic), (.slice p1.EA p1.es.length p1.ec), (.slice p1.BA p1.bs.length p1.bc), (.slice p1.CA p1.cs.length p1.cc)]) (by kernel_rfl) (by kernel_rfl) (by kernel_rfl) rfl (HP.cells 0 rfl 0 13 (by kernel_rfl))) fun a H => ?_
    refine H.call 173 (by kernel_rfl) (Eq.trans (by kernel_rfl : _ = (callFunc 14 #[(.agg #[(ii p1.channel), (ii p1.num), (ii p1.den), (ii p1.offset), (.slice p1.SA p1.sh.length p1.sc), (ii p1.epoch), (ii p1.regions), (ii nl), (ii p1.fill), (.slice p1.IA p1.its.length p1.ic), (.slice p1.EA p1.es.length p1.ec), (.slice p1.BA p1.bs.length p1.bc), (.slice p1.CA p1.cs.length p1.cc)])]).run Tryz.prog w_94) (Tryz.call14 _ _)) (valid_len p1 hvp nl hnl2 w_94 (HP.fact 0 rfl : IsPln _ p1) (hL.below HP.bl).rates) ?_
    rintro e w_95 ⟨rfl, hb⟩
    refine ⟨_, rfl, ?_⟩
    intro a H
    have HP := HP.next hb
    refine H.v 174 (.bool true) fun a H => ?_
    refine H.v 6 (.bool true) fun a H => ?_
    refine wpList_nil (then_normal (wp_ret ?_))
    refine H.ret1 (fn := Tryz.f10) Tryz.results10 (RV.tmp_ (v := (.bool true)) (by kernel_rfl)) ?_
    exact ⟨rfl, HP.bl⟩
set_option maxRecDepth 100000 in
set_option maxHeartbeats 4000000 in
theorem parts_none (p : Pln) (i k : Int) (w : World) (a0 a1 : Addr) (hL : LaidP a0 a1 w) (hpl_p : IsPln w p) (hf_p : PlFit p) (hri : -9223372036854775808 ≤ i ∧ i ≤ 9223372036854775807) (hrk : -9223372036854775808 ≤ k ∧ k ≤ 9223372036854775807) (hv : validN (shN p.nv) = false) : Calls Tryz.prog 10 #[(plV p), .int .i64 i, .int .i64 k] w fun e w' => e = .returned (.bool true) ∧ Below w.heap.size w w' := by
 have HP := Hp.start w
 refine w_enter 175 [(0, (plV p)), (1, (ii i)), (2, (ii k))] Tryz.func10 rfl Tryz.ntmps10 (by kernel_rfl) (by kernel_rfl) fun a H => ?_
 refine wp_seq (w_region ?_)
 refine H.alloc HP 3 (fun b => (pt b 0)) 32 (plL p) (by kernel_rfl) (fun w => by kernel_rfl) fun b_1 w_2 a H HP => ?_
 refine H.v 6 (.bool false) fun a H => ?_
 refine wpList_nil (then_normal (wp_seq (w_region ?_)))
 refine H.call 19 (by kernel_rfl) (Eq.trans (by kernel_rfl : _ = (callFunc 12 #[]).run Tryz.prog w_2) (Tryz.call12 _ _)) (sane_any a0 a1 w_2 (hL.below HP.bl)) ?_
 rintro e w_3 ⟨rfl, hb⟩
 refine ⟨_, rfl, ?_⟩
 intro a H
 have HP := HP.next hb
 refine H.v 7 (.bool true) fun a H => ?_
 refine wpList_nil (then_normal (wp_seq (w_region ?_)))
 refine H.u 20 (plV p) (ex_loadN (vs := (plL p)) (by kernel_rfl) (by kernel_rfl) (by kernel_rfl) rfl (HP.cells 0 rfl 0 13 (by kernel_rfl))) fun a H => ?_
 refine H.call 21 (by kernel_rfl) (Eq.trans (by kernel_rfl : _ = (callFunc 13 #[(plV p)]).run Tryz.prog w_3) (Tryz.call13 _ _)) (short_law p w w_3 hpl_p HP.bl hf_p) ?_
 rintro e w_4 ⟨p1, rfl, hnv_p1, hq_p1, hfr_p1, hsm_p1, hb⟩
 refine ⟨_, rfl, ?_⟩
 intro a H
 have HP := HP.keepQ hb (by kernel_rfl) p1 hq_p1 hfr_p1
 refine H.store HP 0 b_1 0 13 32 _ true (plV p1) [bx b_1 32 (plL p1) true] (by kernel_rfl) (by kernel_rfl) (by kernel_rfl) rfl (by kernel_rfl) (by kernel_rfl) (by kernel_rfl) (by kernel_rfl) (by kernel_rfl) fun w_5 a H HP => ?_
 refine wpList_nil (then_normal (wp_seq (wp_seq (w_region ?_))))
 refine H.u 22 (plV p1) (ex_loadN (vs := (plL p1)) (by kernel_rfl) (by kernel_rfl) (by kernel_rfl) rfl (HP.cells 0 rfl 0 13 (by kernel_rfl))) fun a H => ?_
 refine H.call 23 (by kernel_rfl) (Eq.trans (by kernel_rfl : _ = (callFunc 14 #[(plV p1)]).run Tryz.prog w_5) (Tryz.call14 _ _)) ((by have hh := valid_any p1 w_5 (HP.fact 0 rfl : IsPln _ p1) (hL.below HP.bl).rates; rw [valid_on hnv_p1 hv] at hh; exact hh)) ?_
 rintro e w_6 ⟨rfl, hb⟩
 refine ⟨_, rfl, ?_⟩
 intro a H
 have HP := HP.next hb
 refine H.v 24 (.bool true) fun a H => ?_
 refine wpList_nil (then_normal ?_)
 refine w_ift H rfl ?_
 refine wp_seq (w_region ?_)
 refine H.v 25 (.bool true) fun a H => ?_
 refine H.v 6 (.bool true) fun a H => ?_
 refine wpList_nil (then_normal (wp_ret (then_ret ?_)))
 refine H.ret1 (fn := Tryz.f10) Tryz.results10 (RV.tmp_ (v := (.bool true)) (by kernel_rfl)) ?_
 exact ⟨rfl, HP.bl⟩
theorem parts_law (p : Pln) (i k : Int) (w : World) (a0 a1 : Addr) (hL : LaidP a0 a1 w) (hpl_p : IsPln w p) (hf_p : PlFit p) (hri : -9223372036854775808 ≤ i ∧ i ≤ 9223372036854775807) (hrk : -9223372036854775808 ≤ k ∧ k ≤ 9223372036854775807) : Calls Tryz.prog 10 #[plV p, .int .i64 i, .int .i64 k] w fun e w' => e = .returned (.bool true) ∧ Below w.heap.size w w' := by
 cases hv : validN (shN p.nv) with
 | true => exact parts_some p i k w a0 a1 hL hpl_p hf_p hri hrk hv
 | false => exact parts_none p i k w a0 a1 hL hpl_p hf_p hri hrk hv
end Go.Proofs.YteeillphhiaopaaGreatDoor
namespace Go.Proofs.YteeillphhiaopaaGreatDoor.planParts
open Go.ChangeShapes Go.WideShapes Go.ChangeAt Go.RowKit
set_option linter.unusedVariables false
theorem walk (x0 : Pln) (x1 : Int) (x2 : Int) (w : World) (h : ∃ a0 a1, LaidP a0 a1 w) (hx0 : opPl.ok w x0) (hx1 : (Lit.int .i64 x1).wf = true) (hx2 : (Lit.int .i64 x2).wf = true) : Calls Tryz.prog 10 #[plV x0, .int .i64 x1, .int .i64 x2] w fun e w' => e = .returned (.bool true) ∧ Below w.heap.size w w' := by
  obtain ⟨a0, a1, hL⟩ := h
  have kx0 : IsPln w x0 ∧ PlFit x0 := hx0
  exact parts_law x0 x1 x2 w a0 a1 hL kx0.1 kx0.2 (i64_of hx1) (i64_of hx2)
end Go.Proofs.YteeillphhiaopaaGreatDoor.planParts
namespace Go.Proofs.YteeillphhiaopaaGreatDoor.planParts
open Go.ChangeShapes Go.WideShapes Go.ChangeAt Go.RowKit
open Go.ChangeMaps (open_string shut_string)
set_option linter.unusedVariables false
theorem own : ownKnob Tryz.prog.godebug = none := by kernel_rfl
theorem laidOut : laidOutB Tryz.prog = true := by kernel_rfl
set_option maxRecDepth 100000 in
theorem lifted (os : Os) (started : os.Started) (H : Type) (enc : TypeId × Value → H) :
    ReturnsInHanded {} Tryz.checked os 10 .any (fun w args => (Rows.planPartsSpec.pre enc Tryz.prog Tryz.f10 [] false w args ∧ laidMetH Tryz.prog laid2 w) ∧ sizedMet enc Tryz.prog Tryz.f10 (OpenSpec.ofChange Rows.planPartsSpec) false w args) (Rows.planPartsSpec.post enc Tryz.prog Tryz.f10 false true false false) := by
  refine returnsInHanded_of_change_and (C := Tryz.checked) (X := fun w _ => laidMetH Tryz.prog laid2 w) (fun _ _ _ hh h => h.of_heap hh) own started (by kernel_rfl) Tryz.func10
    (ChangeSpec.witness_shaped (enc := enc) (C := Tryz.checked) (os := os) (X := fun w _ => laidMetH Tryz.prog laid2 w) false (World.doorLaid Tryz.prog 4000 os) #[.agg #[.int .i64 0, .int .i64 0, .int .i64 0, .int .i64 0, .slice none 0 0, .int .i64 0, .int .i64 0, .int .i64 0, .int .i64 0, .slice none 0 0, .slice none 0 0, .slice none 0 0, .slice none 0 0], .int .i64 0, .int .i64 0] 12 rfl (World.shaped_of_RefB (by kernel_rfl) (by kernel_rfl)) (by kernel_rfl) (by kernel_rfl) (by kernel_rfl) (door_met os _)) ?_
  intro W base args ds gs before hval0 hW hcnd hsz0 hL _
  have hval : ∀ (j : Nat) t v, Tryz.f10.params[j]? = some t → args[j]? = some v → Value.okWide Tryz.prog W .any base t v := hval0
  have hW' := hW
  obtain ⟨p, q, hA0, hV, rfl, hfz, hnd⟩ := hW
  have hA : DataW.TrodAll enc Tryz.prog W 0 (fun _ => true) true Tryz.f10.params.toList args.toList ds p := hA0
  have hsz : (DataW.weightsEach Tryz.prog (Tryz.f10.params.toList ++ Rows.planPartsSpec.plain.varTypes Tryz.prog) (ds ++ gs)).all (· ≤ reachBytes) = true := hsz0
  rw [Tryz.params10] at hA hval hsz
  obtain ⟨v0, vs0, d0, ds0, p0, q0, hargs, rfl, rfl, h0, r0⟩ := trodAll_cons hA
  obtain ⟨v1, vs1, d1, ds1, p1, q1, rfl, rfl, rfl, h1, r1⟩ := trodAll_cons r0
  obtain ⟨v2, vs2, d2, ds2, p2, q2, rfl, rfl, rfl, h2, r2⟩ := trodAll_cons r1
  obtain ⟨rfl, rfl, rfl⟩ := trodAll_nil r2
  obtain rfl : args = #[v0, v1, v2] := by cases args; simp_all
  obtain ⟨rfl, rfl⟩ := trodVars_none hV
  obtain ⟨cs0, rfl, _⟩ := okWide_struct Tryz.underlying32 (hval 0 32 v0 rfl rfl)
  have k0 := h0
  have lt0 : ∀ x ∈ p0, x.block < W.heap.size := by obtain ⟨m, hm⟩ := k0; exact DataW.trod_lt m _ _ _ hm
  obtain ⟨a0, w0, e0⟩ : ∃ a, opPl.ok W a ∧ cs0 = (opPl.cells a).toArray := by
    obtain ⟨fuel, hf⟩ := h0
    obtain ⟨a, ha, hok⟩ := opPl.opens hf (fun n hn => of_decide_eq_true (List.all_eq_true.1 hsz n (DataW.weights_mem_each (j := 0) (t := 32) (by rfl) (by rfl) n hn)))
    refine ⟨a, hok, ?_⟩
    have : cs0.toList = opPl.cells a := ha
    rw [← this]
  subst e0
  obtain ⟨a1, rfl, rfl, rfl, w1⟩ := open_int Tryz.underlying3 (hval 1 3 v1 rfl rfl) h1
  obtain ⟨a2, rfl, rfl, rfl, w2⟩ := open_int Tryz.underlying3 (hval 2 3 v2 rfl rfl) h2
  clear hA0 hval0 hsz0
  refine (walk a0 a1 a2 W (laid_of hL) w0 w1 w2).mono fun e W' ⟨he, bel⟩ => ?_
  subst he
  exact ⟨_, rfl, _, _, _, [], _, [], hW', trodAll_mk1 (shut_bool Tryz.underlying4 _), (trodAll_cons_mk (Below.trod laidOut (by kernel_rfl) (of_decide_eq_true (by kernel_rfl)) k0 bel lt0) (trodAll_cons_mk (shut_int Tryz.underlying3 w1) (trodAll_cons_mk (shut_int Tryz.underlying3 w2) trodAll_mk0))), rfl, bel.frame _, fun h => by cases h⟩
theorem over : Rows.planPartsRow.holds Tryz.pinned (OpenSpec.ofChange Rows.planPartsSpec) :=
  OpenClaim.holds_of_wide 10 Tryz.f10 rfl rfl rfl rfl rfl rfl rfl ⟨rfl, rfl, rfl, rfl, rfl⟩ rfl rfl rfl rfl rfl (by kernel_rfl) Tryz.func10 (by kernel_rfl)
    (of_decide_eq_true (by kernel_rfl)) (by unfold Func.isWrapper; first | (rw [if_pos (by decide +kernel)]; kernel_rfl) | (rw [if_neg (by decide +kernel)]; exact ⟨rfl, rfl⟩))
    (fun os started H enc _ => lifted os started H enc)
theorem proved : Rows.PlanPartsCardSaid :=
  Claim7.holds_tied_plain_at .later [] [.data, .sentinel, .sentinel] true (true, "0920b850dcc38d1adf8ac1a12a8052cedc72f0c93030e4301d2dcc84e7d73c35") true
    over (fun _ h => by cases h) (by kernel_rfl) (fun _ h => by cases h) planParts_row_tie rfl ⟨rfl, rfl⟩ (by kernel_rfl) rfl
    (fun f fn hf hfn => by
      obtain rfl : f = 10 := Option.some.inj ((show Tryz.prog.funcNamed "onair/onairlaw08.PlanParts" = some 10 by kernel_rfl).symm.trans hf) |>.symm
      obtain rfl : fn = Tryz.f10 := (Option.some.inj (Tryz.func10.symm.trans hfn)).symm
      exact ⟨by kernel_rfl, fun j t ht => by
        rw [Tryz.params10] at ht
        have hm : t ∈ [32, 3, 3] := by simpa using Array.mem_of_getElem? ht
        have hall : ([32, 3, 3].all fun u => !Tryz.prog.wantsStandIn u) = true := by kernel_rfl
        exact (show Tryz.prog.wantsStandIn t = false by simpa using List.all_eq_true.1 hall t hm)⟩)
    (by kernel_rfl)
#print axioms proved
end Go.Proofs.YteeillphhiaopaaGreatDoor.planParts
