/- The statement PlanFinds: for every input the law returns true and leaves its arguments as they were. No condition. -/
import Derived.Test.YteeillphhiaopaaGreatDoorCards
import Derived.Test.YteeillphhiaopaaGreatDoorTie
import Derived.WalkKit
import Derived.ProofKit
import Derived.OpenShut
import Derived.ShutString
import Derived.ChangeOld
import Derived.Below
import Derived.SizedLaws
import Derived.SevenTiedAt
import Derived.Test.YteeillphhiaopaaGreatDoorZgf
namespace Go.Proofs.YteeillphhiaopaaGreatDoor
open Go.ChangeShapes Go.WideShapes Go.ChangeAt Go.RowKit
set_option linter.unusedVariables false
theorem asc_iff {hi : Int} : ∀ {l : List Int} {last : Int}, asc last hi l = true ↔ (∀ n ∈ l, last < n ∧ n ≤ hi) ∧ l.Pairwise (· < ·)
  | [], last => ⟨fun _ => ⟨fun n hn => (by cases hn), List.Pairwise.nil⟩, fun _ => rfl⟩
  | m :: l, last => by
    rw [asc, Bool.and_eq_true, Bool.and_eq_true, decide_eq_true_eq, decide_eq_true_eq, asc_iff (l := l), List.pairwise_cons]
    constructor
    · rintro ⟨⟨h1, h2⟩, h3, h4⟩
      refine ⟨fun n hn => ?_, fun n hn => (h3 n hn).1, h4⟩
      rcases List.mem_cons.1 hn with rfl | hn
      · exact ⟨h1, h2⟩
      · have := h3 n hn; omega
    · rintro ⟨h1, h2, h3⟩
      exact ⟨h1 m List.mem_cons_self, fun n hn => ⟨h2 n hn, (h1 n (List.mem_cons_of_mem _ hn)).2⟩, h3⟩
theorem nodup_lt {l : List Int} (h : l.Pairwise (· < ·)) : l.Nodup := h.imp fun h => by omega
theorem find_id {α : Type} {f : α → Int} : ∀ {l : List α}, (l.map f).Nodup → ∀ {x : α}, x ∈ l → l.find? (fun y => f y == f x) = some x
  | [], _, x, hx => by cases hx
  | y :: l, h, x, hx => by
    rw [List.map_cons, List.nodup_cons] at h
    rcases List.mem_cons.1 hx with rfl | hx
    · rw [List.find?_cons_of_pos (by simp)]
    · have hne : ¬ f y = f x := fun he => h.1 (he ▸ List.mem_map_of_mem hx)
      rw [List.find?_cons_of_neg (by simpa using hne)]
      exact find_id h.2 hx
theorem ents_iff {p : Pln} : ∀ {l : List Ent} {seen : List Int}, entsP p seen l = true ↔ (∀ e ∈ l, entP p e = true ∧ e.id ∉ seen) ∧ (l.map fun e => e.id).Nodup
  | [], seen => ⟨fun _ => ⟨fun n hn => (by cases hn), List.Pairwise.nil⟩, fun _ => rfl⟩
  | e :: l, seen => by
    rw [entsP, Bool.and_eq_true, Bool.and_eq_true, ents_iff (l := l)]
    constructor
    · rintro ⟨⟨h1, h2⟩, h3, h4⟩
      have h2' : e.id ∉ seen := by simpa using h2
      refine ⟨fun x hx => ?_, List.nodup_cons.2 ⟨fun hm => ?_, h4⟩⟩
      · rcases List.mem_cons.1 hx with rfl | hx
        · exact ⟨h1, h2'⟩
        · exact ⟨(h3 x hx).1, fun hm => (h3 x hx).2 (List.mem_append_left _ hm)⟩
      · obtain ⟨x, hx, he⟩ := List.mem_map.1 hm
        exact (h3 x hx).2 (by rw [he]; simp)
    · rintro ⟨h1, h2⟩
      obtain ⟨h3, h4⟩ := List.nodup_cons.1 h2
      refine ⟨⟨(h1 e List.mem_cons_self).1, by simpa using (h1 e List.mem_cons_self).2⟩, fun x hx => ⟨(h1 x (List.mem_cons_of_mem _ hx)).1, fun hm => ?_⟩, h4⟩
      rcases List.mem_append.1 hm with hm | hm
      · exact (h1 x (List.mem_cons_of_mem _ hx)).2 hm
      · exact h3 (List.mem_map.2 ⟨x, hx, by simpa using hm⟩)
theorem valid_iff {p : Pln} : validPl p = true ↔ soundP p = true ∧ ((p.its.length : Int) ≤ 4000 ∧ ((∀ n ∈ p.its.map (·.id), 0 < n ∧ n ≤ 1000000) ∧ (p.its.map (·.id)).Pairwise (· < ·)) ∧ (p.its.all itemP = true) ∧ (gI p.its p.fill).kind = 5) ∧
    ((p.bs.length : Int) ≤ 2000 ∧ ((∀ n ∈ p.bs.map (·.id), 0 < n ∧ n ≤ 1000000) ∧ (p.bs.map (·.id)).Pairwise (· < ·)) ∧ ∀ b ∈ p.bs, bookP p.its p.regions b = true) ∧
    ((p.es.length : Int) ≤ 4000 ∧ (∀ e ∈ p.es, entP p e = true ∧ e.id ∉ ([] : List Int)) ∧ (p.es.map fun e => e.id).Nodup) ∧ (p.cs.length : Int) ≤ 400 ∧ ∀ c ∈ p.cs, clP c = true := by
  unfold validPl itsP bksP clsP
  simp only [Bool.and_eq_true, decide_eq_true_eq, asc_iff, ents_iff, beq_iff_eq, List.all_eq_true]
  constructor
  · rintro ⟨⟨⟨⟨h1, ⟨⟨a1, a2⟩, a3⟩, a4⟩, ⟨b1, b2⟩, b3⟩, c⟩, d⟩
    exact ⟨h1, ⟨a1, a2, a3, a4⟩, ⟨b1, b2, b3⟩, c, d⟩
  · rintro ⟨h1, ⟨a1, a2, a3, a4⟩, ⟨b1, b2, b3⟩, c, d⟩
    exact ⟨⟨⟨⟨h1, ⟨⟨a1, a2⟩, a3⟩, a4⟩, ⟨b1, b2⟩, b3⟩, c⟩, d⟩
theorem gI_of {l : List Itm} {x : Itm} (h : (l.map (·.id)).Nodup) (hx : x ∈ l) : gI l x.id = x ∧ hI l x.id = true := by
  unfold gI hI fI
  rw [find_id (f := fun y : Itm => y.id) h hx]
  exact ⟨rfl, rfl⟩
theorem gB_of {l : List Bkg} {x : Bkg} (h : (l.map (·.id)).Nodup) (hx : x ∈ l) : gB l x.id = x ∧ hB l x.id = true := by
  unfold gB hB fB
  rw [find_id (f := fun y : Bkg => y.id) h hx]
  exact ⟨rfl, rfl⟩
theorem gE_of {l : List Ent} {x : Ent} (h : (l.map fun e => e.id).Nodup) (hx : x ∈ l) : gE l x.id = x ∧ hE l x.id = true := by
  unfold gE hE fE
  rw [find_id (f := fun y : Ent => y.id) h hx]
  exact ⟨rfl, rfl⟩
theorem hI_kind {l : List Itm} {k n : Int} (h : (gI l k).kind = n) (hn : n ≠ 0) : hI l k = true := by
  unfold gI at h
  unfold hI
  cases hf : fI l k with
  | none => rw [hf] at h; exact absurd h.symm hn
  | some x => rfl
structure Goods (p : Pln) : Prop where
  it : ∀ x ∈ p.its, gI p.its x.id = x ∧ hI p.its x.id = true
  bk : ∀ x ∈ p.bs, (gB p.bs x.id = x ∧ hB p.bs x.id = true) ∧ hI p.its x.item = true ∧ (gI p.its x.item).kind = 2
  en : ∀ x ∈ p.es, (gE p.es x.id = x ∧ hE p.es x.id = true) ∧ hI p.its x.item = true ∧ ¬ (gI p.its x.item).kind = 5 ∧ x.frames ≤ (gI p.its x.item).frames ∧ (x.booking = 0 ∨ hB p.bs x.booking = true) ∧ ∀ a ∈ x.al, hI p.its a.2 = true ∧ (gI p.its a.2).frames = x.frames
theorem goods {p : Pln} (h : validPl p = true) : Goods p := by
  obtain ⟨_, ⟨_, ⟨_, a2⟩, _, _⟩, ⟨_, ⟨_, b2⟩, b3⟩, ⟨_, e1, e2⟩, _⟩ := valid_iff.1 h
  refine ⟨fun x hx => gI_of (nodup_lt a2) hx, fun x hx => ?_, fun x hx => ?_⟩
  · have hb := b3 x hx
    unfold bookP at hb
    simp only [Bool.and_eq_true, beq_iff_eq] at hb
    exact ⟨gB_of (nodup_lt b2) hx, hI_kind hb.1.1.1 (by decide), hb.1.1.1⟩
  · have he := (e1 x hx).1
    unfold entP at he
    simp only [Bool.and_eq_true] at he
    obtain ⟨⟨⟨_, hf⟩, ha⟩, hu⟩ := he
    unfold fitsP at hf
    unfold altsP at ha
    unfold fulP at hu
    simp only [Bool.and_eq_true, Bool.not_eq_true', beq_eq_false_iff_ne, ne_eq, inR_iff] at hf
    simp only [Bool.and_eq_true, Bool.not_eq_true', List.any_eq_false, Bool.not_eq_true] at ha
    simp only [Bool.or_eq_true, beq_iff_eq, Bool.and_eq_true] at hu
    refine ⟨gE_of e2 hx, hf.1.1.1.1, hf.1.1.1.2, hf.1.1.2.2, hu.imp id fun h => h.1, fun a ha' => ?_⟩
    have := ha.2 a ha'
    unfold unfitP at this
    simp only [Bool.or_eq_false_iff, Bool.not_eq_false', beq_iff_eq] at this
    exact ⟨this.1.1.1, this.1.1.2⟩
theorem none_I {l : List Itm} {k : Int} (h : (l.all fun x => x.id != k) = true) : hI l k = false := by
  unfold hI fI
  rw [List.find?_eq_none.2 (fun x hx => by have := List.all_eq_true.1 h x hx; simpa using this)]
  rfl
theorem none_B {l : List Bkg} {k : Int} (h : (l.all fun x => x.id != k) = true) : hB l k = false := by
  unfold hB fB
  rw [List.find?_eq_none.2 (fun x hx => by have := List.all_eq_true.1 h x hx; simpa using this)]
  rfl
theorem none_E {l : List Ent} {k : Int} (h : (l.all fun x => x.id != k) = true) : hE l k = false := by
  unfold hE fE
  rw [List.find?_eq_none.2 (fun x hx => by have := List.all_eq_true.1 h x hx; simpa using this)]
  rfl
theorem and_all {b : Bool} {α : Type} {l : List α} {f : α → Bool} (h : l.all f = true → b = false) : (b && l.all f) = false := by
  cases hl : l.all f with
  | true => rw [h hl]; rfl
  | false => rw [Bool.and_false]
theorem all_take {α : Type} {l : List α} {f : α → Bool} {i : Nat} {x : α} (hx : l[i]? = some x) : (l.take (i + 1)).all f = ((l.take i).all f && f x) := by
  rw [List.take_add_one, hx]
  simp [List.all_append]
def fndI (l : List Itm) (k : Int) (i : Nat) : Bool := hI l k && (l.take i).all fun x => x.id != k
def fndB (l : List Bkg) (k : Int) (i : Nat) : Bool := hB l k && (l.take i).all fun x => x.id != k
def fndE (l : List Ent) (k : Int) (i : Nat) : Bool := hE l k && (l.take i).all fun x => x.id != k
theorem fndI_0 (l : List Itm) (k : Int) : hI l k = fndI l k 0 := by unfold fndI; simp
theorem fndI_t {l : List Itm} {k : Int} {i : Nat} {x : Itm} (h : fndI l k i = true) (hx : l[i]? = some x) : (x.id != k) = fndI l k (i + 1) := by
  unfold fndI at h ⊢
  rw [all_take (f := fun x => x.id != k) hx, ← Bool.and_assoc, h, Bool.true_and]
theorem fndI_f {l : List Itm} {k : Int} {i : Nat} {x : Itm} (h : fndI l k i = false) (hx : l[i]? = some x) : false = fndI l k (i + 1) := by
  unfold fndI at h ⊢
  rw [all_take (f := fun x => x.id != k) hx, ← Bool.and_assoc, h, Bool.false_and]
theorem fndI_end {l : List Itm} {k : Int} {i : Nat} (h : l.length ≤ i) : fndI l k i = false := by
  unfold fndI
  rw [List.take_of_length_le h]
  exact and_all none_I
theorem fndB_0 (l : List Bkg) (k : Int) : hB l k = fndB l k 0 := by unfold fndB; simp
theorem fndB_t {l : List Bkg} {k : Int} {i : Nat} {x : Bkg} (h : fndB l k i = true) (hx : l[i]? = some x) : (x.id != k) = fndB l k (i + 1) := by
  unfold fndB at h ⊢
  rw [all_take (f := fun x => x.id != k) hx, ← Bool.and_assoc, h, Bool.true_and]
theorem fndB_f {l : List Bkg} {k : Int} {i : Nat} {x : Bkg} (h : fndB l k i = false) (hx : l[i]? = some x) : false = fndB l k (i + 1) := by
  unfold fndB at h ⊢
  rw [all_take (f := fun x => x.id != k) hx, ← Bool.and_assoc, h, Bool.false_and]
theorem fndB_end {l : List Bkg} {k : Int} {i : Nat} (h : l.length ≤ i) : fndB l k i = false := by
  unfold fndB
  rw [List.take_of_length_le h]
  exact and_all none_B
theorem fndE_0 (l : List Ent) (k : Int) : hE l k = fndE l k 0 := by unfold fndE; simp
theorem fndE_t {l : List Ent} {k : Int} {i : Nat} {x : Ent} (h : fndE l k i = true) (hx : l[i]? = some x) : (x.id != k) = fndE l k (i + 1) := by
  unfold fndE at h ⊢
  rw [all_take (f := fun x => x.id != k) hx, ← Bool.and_assoc, h, Bool.true_and]
theorem fndE_f {l : List Ent} {k : Int} {i : Nat} {x : Ent} (h : fndE l k i = false) (hx : l[i]? = some x) : false = fndE l k (i + 1) := by
  unfold fndE at h ⊢
  rw [all_take (f := fun x => x.id != k) hx, ← Bool.and_assoc, h, Bool.false_and]
theorem fndE_end {l : List Ent} {k : Int} {i : Nat} (h : l.length ≤ i) : fndE l k i = false := by
  unfold fndE
  rw [List.take_of_length_le h]
  exact and_all none_E
end Go.Proofs.YteeillphhiaopaaGreatDoor
namespace Go.Proofs.YteeillphhiaopaaGreatDoor
open Go.ChangeShapes Go.WideShapes Go.ChangeAt Go.RowKit
set_option linter.unusedVariables false
set_option linter.unusedSimpArgs false
set_option maxRecDepth 100000 in
set_option maxHeartbeats 4000000 in
theorem finds_some (p : Pln) (k : Int) (w : World) (a0 a1 : Addr) (hL : LaidP a0 a1 w) (hpl_p : IsPln w p) (hf_p : PlFit p) (hv : validN (shN p.nv) = true) : Calls Tryz.prog 11 #[(plV p), .int .i64 k] w fun e w' => e = .returned (.bool true) ∧ Below w.heap.size w w' := by
 have HP := Hp.start w
 refine w_enter 273 [(0, (plV p)), (1, (ii k))] Tryz.func11 rfl Tryz.ntmps11 (by kernel_rfl) (by kernel_rfl) fun a H => ?_
 refine wp_seq (w_region ?_)
 refine H.alloc HP 2 (fun b => (pt b 0)) 32 (plL p) (by kernel_rfl) (fun w => by kernel_rfl) fun b_1 w_2 a H HP => ?_
 refine H.v 4 (.bool false) fun a H => ?_
 refine wpList_nil (then_normal (wp_seq (w_region ?_)))
 refine H.call 31 (by kernel_rfl) (Eq.trans (by kernel_rfl : _ = (callFunc 12 #[]).run Tryz.prog w_2) (Tryz.call12 _ _)) (sane_any a0 a1 w_2 (hL.below HP.bl)) ?_
 rintro e w_3 ⟨rfl, hb⟩
 refine ⟨_, rfl, ?_⟩
 intro a H
 have HP := HP.next hb
 refine H.v 5 (.bool true) fun a H => ?_
 refine wpList_nil (then_normal (wp_seq (w_region ?_)))
 refine H.u 32 (plV p) (ex_loadN (vs := (plL p)) (by kernel_rfl) (by kernel_rfl) (by kernel_rfl) rfl (HP.cells 0 rfl 0 13 (by kernel_rfl))) fun a H => ?_
 refine H.call 33 (by kernel_rfl) (Eq.trans (by kernel_rfl : _ = (callFunc 13 #[(plV p)]).run Tryz.prog w_3) (Tryz.call13 _ _)) (short_law p w w_3 hpl_p HP.bl hf_p) ?_
 rintro e w_4 ⟨p1, rfl, hnv_p1, hq_p1, hfr_p1, hsm_p1, hb⟩
 refine ⟨_, rfl, ?_⟩
 intro a H
 have HP := HP.keepQ hb (by kernel_rfl) p1 hq_p1 hfr_p1
 refine H.store HP 0 b_1 0 13 32 _ true (plV p1) [bx b_1 32 (plL p1) true] (by kernel_rfl) (by kernel_rfl) (by kernel_rfl) rfl (by kernel_rfl) (by kernel_rfl) (by kernel_rfl) (by kernel_rfl) (by kernel_rfl) fun w_5 a H HP => ?_
 refine wpList_nil (then_normal (wp_seq (wp_seq (w_region ?_))))
 refine H.u 34 (plV p1) (ex_loadN (vs := (plL p1)) (by kernel_rfl) (by kernel_rfl) (by kernel_rfl) rfl (HP.cells 0 rfl 0 13 (by kernel_rfl))) fun a H => ?_
 refine H.call 35 (by kernel_rfl) (Eq.trans (by kernel_rfl : _ = (callFunc 14 #[(plV p1)]).run Tryz.prog w_5) (Tryz.call14 _ _)) ((by have hh := valid_any p1 w_5 (HP.fact 0 rfl : IsPln _ p1) (hL.below HP.bl).rates; rw [valid_on hnv_p1 hv] at hh; exact hh)) ?_
 rintro e w_6 ⟨rfl, hb⟩
 refine ⟨_, rfl, ?_⟩
 intro a H
 have HP := HP.next hb
 refine H.v 36 (.bool false) fun a H => ?_
 refine wpList_nil (then_normal ?_)
 refine w_iff H rfl ?_
 refine wp_skip (then_normal (wp_seq ?_))
 have gd := goods (valid_on hnv_p1 hv)
 have hz1 := hsm_p1.its
 have hz2 := hsm_p1.bs
 have hz3 := hsm_p1.es
 refine w_region ?_
 refine H.u 39 (plV p1) (ex_loadN (vs := (plL p1)) (by kernel_rfl) (by kernel_rfl) (by kernel_rfl) rfl (HP.cells 0 rfl 0 13 (by kernel_rfl))) fun a H => ?_
 refine H.v 40 (ii k) fun a H => ?_
 refine H.call 41 (by kernel_rfl) (Eq.trans (by kernel_rfl : _ = (callFunc 18 #[(plV p1), (ii k)]).run Tryz.prog w_6) (Tryz.call18 _ _)) (item_any p1 k w_6 (HP.fact 0 rfl : IsPln _ p1)) ?_
 rintro e w_7 ⟨rfl, hb⟩
 refine ⟨_, rfl, ?_⟩
 intro a H
 have HP := HP.next hb
 refine H.v 38 (.tuple #[(itV (gI p1.its k)), (.bool (hI p1.its k))]) fun a H => ?_
 refine H.v 42 (itV (gI p1.its k)) fun a H => ?_
 refine H.v 43 (.bool (hI p1.its k)) fun a H => ?_
 refine H.alloc HP 6 (fun b => (pt b 0)) 38 [(ii 0), (ii 0), (ii 0), (ii 0), (ii 0)] (by kernel_rfl) (fun w => by kernel_rfl) fun b_8 w_9 a H HP => ?_
 refine H.store HP 0 b_8 0 5 38 _ true (itV (gI p1.its k)) [bx b_8 38 (itL (gI p1.its k)) true, bx b_1 32 (plL p1) true] (by kernel_rfl) (by kernel_rfl) (by kernel_rfl) rfl (by kernel_rfl) (by kernel_rfl) (by kernel_rfl) (by kernel_rfl) (by kernel_rfl) fun w_10 a H HP => ?_
 refine H.v 7 (.bool (hI p1.its k)) fun a H => ?_
 refine wpList_nil (then_normal (wp_seq (w_region ?_)))
 refine H.u 45 (plV p1) (ex_loadN (vs := (plL p1)) (by kernel_rfl) (by kernel_rfl) (by kernel_rfl) rfl (HP.cells 1 rfl 0 13 (by kernel_rfl))) fun a H => ?_
 refine H.v 46 (ii k) fun a H => ?_
 refine H.call 47 (by kernel_rfl) (Eq.trans (by kernel_rfl : _ = (callFunc 22 #[(plV p1), (ii k)]).run Tryz.prog w_10) (Tryz.call22 _ _)) (booking_any p1 k w_10 (HP.fact 0 rfl : IsPln _ p1)) ?_
 rintro e w_11 ⟨rfl, hb⟩
 refine ⟨_, rfl, ?_⟩
 intro a H
 have HP := HP.next hb
 refine H.v 44 (.tuple #[(bkV (gB p1.bs k)), (.bool (hB p1.bs k))]) fun a H => ?_
 refine H.v 48 (bkV (gB p1.bs k)) fun a H => ?_
 refine H.v 49 (.bool (hB p1.bs k)) fun a H => ?_
 refine H.alloc HP 8 (fun b => (pt b 0)) 47 [(ii 0), (ii 0), (ii 0), (ii 0), (ii 0), (ii 0), (ii 0)] (by kernel_rfl) (fun w => by kernel_rfl) fun b_12 w_13 a H HP => ?_
 refine H.store HP 0 b_12 0 7 47 _ true (bkV (gB p1.bs k)) [bx b_12 47 (bkL (gB p1.bs k)) true, bx b_8 38 (itL (gI p1.its k)) true, bx b_1 32 (plL p1) true] (by kernel_rfl) (by kernel_rfl) (by kernel_rfl) rfl (by kernel_rfl) (by kernel_rfl) (by kernel_rfl) (by kernel_rfl) (by kernel_rfl) fun w_14 a H HP => ?_
 refine H.v 9 (.bool (hB p1.bs k)) fun a H => ?_
 refine wpList_nil (then_normal (wp_seq (w_region ?_)))
 refine H.u 51 (plV p1) (ex_loadN (vs := (plL p1)) (by kernel_rfl) (by kernel_rfl) (by kernel_rfl) rfl (HP.cells 2 rfl 0 13 (by kernel_rfl))) fun a H => ?_
 refine H.v 52 (ii k) fun a H => ?_
 refine H.call 53 (by kernel_rfl) (Eq.trans (by kernel_rfl : _ = (callFunc 20 #[(plV p1), (ii k)]).run Tryz.prog w_14) (Tryz.call20 _ _)) (entry_any p1 k w_14 (HP.fact 0 rfl : IsPln _ p1) (small_gE hsm_p1 k)) ?_
 rintro e w_15 ⟨Be, cBe, rfl, ⟨hrBe, hnBe⟩, hb⟩
 refine ⟨_, rfl, ?_⟩
 intro a H
 have HP := HP.keepA hb Be (gE p1.es k).al hrBe hnBe
 refine H.v 50 (.tuple #[(.agg #[(ii ((gE p1.es k).id)), (ii ((gE p1.es k).item)), (ii ((gE p1.es k).frames)), (ii ((gE p1.es k).earliest)), (ii ((gE p1.es k).latest)), (ii ((gE p1.es k).booking)), (.slice Be ((gE p1.es k).al.length) cBe)]), (.bool (hE p1.es k))]) fun a H => ?_
 refine H.v 54 (.agg #[(ii ((gE p1.es k).id)), (ii ((gE p1.es k).item)), (ii ((gE p1.es k).frames)), (ii ((gE p1.es k).earliest)), (ii ((gE p1.es k).latest)), (ii ((gE p1.es k).booking)), (.slice Be ((gE p1.es k).al.length) cBe)]) fun a H => ?_
 refine H.v 55 (.bool (hE p1.es k)) fun a H => ?_
 refine H.alloc HP 10 (fun b => (pt b 0)) 43 [(ii 0), (ii 0), (ii 0), (ii 0), (ii 0), (ii 0), (.slice none 0 0)] (by kernel_rfl) (fun w => by kernel_rfl) fun b_16 w_17 a H HP => ?_
 refine H.store HP 0 b_16 0 7 43 _ true (.agg #[(ii ((gE p1.es k).id)), (ii ((gE p1.es k).item)), (ii ((gE p1.es k).frames)), (ii ((gE p1.es k).earliest)), (ii ((gE p1.es k).latest)), (ii ((gE p1.es k).booking)), (.slice Be ((gE p1.es k).al.length) cBe)]) [bx b_16 43 [(ii ((gE p1.es k).id)), (ii ((gE p1.es k).item)), (ii ((gE p1.es k).frames)), (ii ((gE p1.es k).earliest)), (ii ((gE p1.es k).latest)), (ii ((gE p1.es k).booking)), (.slice Be ((gE p1.es k).al.length) cBe)] true, bx b_12 47 (bkL (gB p1.bs k)) true, bx b_8 38 (itL (gI p1.its k)) true, bx b_1 32 (plL p1) true] (by kernel_rfl) (by kernel_rfl) (by kernel_rfl) rfl (by kernel_rfl) (by kernel_rfl) (by kernel_rfl) (by kernel_rfl) (by kernel_rfl) fun w_18 a H HP => ?_
 refine H.v 11 (.bool (hE p1.es k)) fun a H => ?_
 refine wpList_nil (then_normal (wp_seq (wp_seq ?_)))
 have H := H.as 7 (.bool (fndI p1.its k 0)) rfl (congrArg Value.bool (fndI_0 _ _))
 refine w_region ?_
 refine H.v 12 (ii 0) fun a H => ?_
 refine wpList_nil (then_normal (wp_block ?_))
 refine w_loop (fun mm a wv => ∃ (i1 : Nat), p1.its.length - i1 = mm ∧ Sl 273 [(12, (ii i1)), (7, (.bool (fndI p1.its k i1))), (11, (.bool (hE p1.es k))), (10, (pt b_16 0)), (55, (.bool (hE p1.es k))), (54, (.agg #[(ii ((gE p1.es k).id)), (ii ((gE p1.es k).item)), (ii ((gE p1.es k).frames)), (ii ((gE p1.es k).earliest)), (ii ((gE p1.es k).latest)), (ii ((gE p1.es k).booking)), (.slice Be ((gE p1.es k).al.length) cBe)])), (50, (.tuple #[(.agg #[(ii ((gE p1.es k).id)), (ii ((gE p1.es k).item)), (ii ((gE p1.es k).frames)), (ii ((gE p1.es k).earliest)), (ii ((gE p1.es k).latest)), (ii ((gE p1.es k).booking)), (.slice Be ((gE p1.es k).al.length) cBe)]), (.bool (hE p1.es k))])), (53, (.tuple #[(.agg #[(ii ((gE p1.es k).id)), (ii ((gE p1.es k).item)), (ii ((gE p1.es k).frames)), (ii ((gE p1.es k).earliest)), (ii ((gE p1.es k).latest)), (ii ((gE p1.es k).booking)), (.slice Be ((gE p1.es k).al.length) cBe)]), (.bool (hE p1.es k))])), (52, (ii k)), (51, (plV p1)), (9, (.bool (hB p1.bs k))), (8, (pt b_12 0)), (49, (.bool (hB p1.bs k))), (48, (bkV (gB p1.bs k))), (44, (.tuple #[(bkV (gB p1.bs k)), (.bool (hB p1.bs k))])), (47, (.tuple #[(bkV (gB p1.bs k)), (.bool (hB p1.bs k))])), (46, (ii k)), (45, (plV p1)), (6, (pt b_8 0)), (43, (.bool (hI p1.its k))), (42, (itV (gI p1.its k))), (38, (.tuple #[(itV (gI p1.its k)), (.bool (hI p1.its k))])), (41, (.tuple #[(itV (gI p1.its k)), (.bool (hI p1.its k))])), (40, (ii k)), (39, (plV p1)), (36, (.bool false)), (35, (.bool true)), (34, (plV p1)), (33, (plV p1)), (32, (plV p)), (5, (.bool true)), (31, (.bool true)), (2, (pt b_1 0)), (0, (plV p)), (1, (ii k))] a ∧ Hp w wv [bx b_16 43 [(ii ((gE p1.es k).id)), (ii ((gE p1.es k).item)), (ii ((gE p1.es k).frames)), (ii ((gE p1.es k).earliest)), (ii ((gE p1.es k).latest)), (ii ((gE p1.es k).booking)), (.slice Be ((gE p1.es k).al.length) cBe)] true, bx b_12 47 (bkL (gB p1.bs k)) true, bx b_8 38 (itL (gI p1.its k)) true, bx b_1 32 (plL p1) true] [alK Be (gE p1.es k).al, plnK p1] ∧ (i1 ≤ p1.its.length)) (p1.its.length - 0) ?_ ?_
 ·exact ⟨0, (by omega), H.keep (by kernel_rfl), HP, (Nat.zero_le _)⟩
 rintro mm a w_19 ⟨i1, hmeas, H, HP, hibi1⟩
 refine wp_seq (wp_seq (w_region ?_))
 refine H.v 56 (ii i1) fun a H => ?_
 refine H.v 57 (pt b_1 9) fun a H => ?_
 refine H.u 58 (.slice p1.IA p1.its.length p1.ic) (ex_l1 (HP.cell 3 rfl 9 rfl)) fun a H => ?_
 refine H.v 59 (ii p1.its.length) fun a H => ?_
 refine H.v 60 (.bool (decide ((i1 : Int) < (p1.its.length : Int)))) fun a H => ?_
 refine wpList_nil (then_normal ?_)
 refine w_if H rfl (fun g60 => ?_) (fun g60 => ?_)
 ·have g60p := of_decide_eq_true g60
  refine wp_skip (then_normal (wp_seq (wp_block (wp_seq ?_))))
  obtain ⟨bu_21, ou_22, x_20, hA_23, _, hd_25, hx_24, hm_26, _⟩ := IsRow.get itC_size ((HP.fact 1 rfl : IsPln _ p1).its) (i := i1) (by omega)
  have g1 := gd.it x_20 hm_26
  refine An.start (fun v => Hp w v [bx b_16 43 [(ii ((gE p1.es k).id)), (ii ((gE p1.es k).item)), (ii ((gE p1.es k).frames)), (ii ((gE p1.es k).earliest)), (ii ((gE p1.es k).latest)), (ii ((gE p1.es k).booking)), (.slice Be ((gE p1.es k).al.length) cBe)] true, bx b_12 47 (bkL (gB p1.bs k)) true, bx b_8 38 (itL (gI p1.its k)) true, bx b_1 32 (plL p1) true] [alK Be (gE p1.es k).al, plnK p1]) 14 14 HP wide_follows rfl fun w_27 HP => ?_
  refine An.val H (HP) 0 64 (plV p1) rfl (by kernel_rfl) (by kernel_rfl) (fun _ _ _ h => h) (fun _ hS => ex_loadN (vs := (plL p1)) (by kernel_rfl) (by kernel_rfl) (by kernel_rfl) rfl (hS.cells 3 rfl 0 13 (by kernel_rfl))) fun a H => ?_
  refine An.p H (.inr HP) 1 65 (pt b_1 9) fun a H => ?_
  refine An.val H (HP) 2 66 (.slice p1.IA p1.its.length p1.ic) rfl (by kernel_rfl) (by kernel_rfl) (fun _ _ _ h => h) (fun _ hS => ex_l1 (hS.cell 3 rfl 9 rfl)) fun a H => ?_
  refine An.p H (.inr HP) 3 67 (ii i1) fun a H => ?_
  refine An.pure H (.inr (HP)) 4 68 (.pointer (some ⟨bu_21, ou_22 + i1 * 5, none⟩)) rfl (by kernel_rfl) (by kernel_rfl) (fun _ _ _ h => h) (fun _ => ex_indexA (b := bu_21) (off := ou_22) (len := p1.its.length) (cap := p1.ic) (e := 38) (k := 5) (ik := .i64) (i := (i1 : Int)) (m := i1) hA_23 (by kernel_rfl) (by kernel_rfl) (by omega) (by omega) (by kernel_rfl) (by kernel_rfl)) fun a H => ?_
  refine An.p H (.inr HP) 5 69 (.pointer (some ⟨bu_21, ou_22 + i1 * 5, none⟩)) fun a H => ?_
  refine An.val H (HP) 6 70 (ii x_20.id) rfl (by kernel_rfl) (by kernel_rfl) (fun _ _ _ h => h) (fun _ hS => ex_l1 (IsRow.cells itC_size ((hS.fact 1 rfl : IsPln _ p1).its) hA_23 hx_24 0 _ rfl)) fun a H => ?_
  refine An.two 7 11 (by kernel_rfl) ?_ ?_
  ·refine Op.call H 71 rfl (by kernel_rfl) (Eq.trans (by kernel_rfl : _ = (callFunc 18 #[(plV p1), (ii x_20.id)]).run Tryz.prog w_27) (Tryz.call18 _ _)) ((by have hh := item_any p1 x_20.id w_27 (HP.fact 1 rfl : IsPln _ p1); rw [g1.1, g1.2] at hh; exact hh)) ?_
   rintro e w_28 ⟨rfl, hb⟩
   refine ⟨_, rfl, ?_⟩
   intro a H
   have HP := HP.next hb
   refine ⟨.inr (HP), ?_⟩
   refine An.pure H (.inr (HP)) 8 63 (.tuple #[(itV x_20), (.bool true)]) rfl (by kernel_rfl) (by kernel_rfl) (fun _ _ _ h => h) (fun _ => by kernel_rfl) fun a H => ?_
   refine An.pure H (.inr (HP)) 9 72 (itV x_20) rfl (by kernel_rfl) (by kernel_rfl) (fun _ _ _ h => h) (fun _ => by kernel_rfl) fun a H => ?_
   refine An.p H (.inr HP) 10 73 (.bool true) fun a H => ?_
   refine An.one 11 (by kernel_rfl) ?_
   refine Op.alloc H HP 13 (fun b => (pt b 0)) 38 [(ii 0), (ii 0), (ii 0), (ii 0), (ii 0)] rfl (by kernel_rfl) (fun w => by kernel_rfl) fun b_29 w_30 a H HP => ?_
   refine ⟨.inr ((HP.tail rfl)), ?_⟩
   refine An.one 12 (by kernel_rfl) ?_
   refine Op.store H HP 0 b_29 0 5 38 [(ii 0), (ii 0), (ii 0), (ii 0), (ii 0)] true (itV x_20) [bx b_29 38 (itL x_20) true, bx b_16 43 [(ii ((gE p1.es k).id)), (ii ((gE p1.es k).item)), (ii ((gE p1.es k).frames)), (ii ((gE p1.es k).earliest)), (ii ((gE p1.es k).latest)), (ii ((gE p1.es k).booking)), (.slice Be ((gE p1.es k).al.length) cBe)] true, bx b_12 47 (bkL (gB p1.bs k)) true, bx b_8 38 (itL (gI p1.its k)) true, bx b_1 32 (plL p1) true] rfl (by kernel_rfl) (by kernel_rfl) (by kernel_rfl) rfl (by kernel_rfl) (by kernel_rfl) (by kernel_rfl) (by kernel_rfl) (by kernel_rfl) fun w_31 a H HP => ?_
   refine ⟨.inr ((HP.tail rfl)), ?_⟩
   refine An.p H (.inr ((HP.tail rfl))) 13 14 (.bool true) fun a H => ?_
   refine An.done (by kernel_rfl) ?_
   refine then_normal (wp_seq (wp_seq ?_))
   refine An.start (fun v => Hp w v [bx b_29 38 (itL x_20) true, bx b_16 43 [(ii ((gE p1.es k).id)), (ii ((gE p1.es k).item)), (ii ((gE p1.es k).frames)), (ii ((gE p1.es k).earliest)), (ii ((gE p1.es k).latest)), (ii ((gE p1.es k).booking)), (.slice Be ((gE p1.es k).al.length) cBe)] true, bx b_12 47 (bkL (gB p1.bs k)) true, bx b_8 38 (itL (gI p1.its k)) true, bx b_1 32 (plL p1) true] [alK Be (gE p1.es k).al, plnK p1]) 11 11 HP wide_follows rfl fun w_32 HP => ?_
   refine An.p H (.inr HP) 0 74 (.bool true) fun a H => ?_
   refine An.p H (.inr HP) 1 75 (.bool false) fun a H => ?_
   refine An.p H (.inr HP) 2 76 (.bool false) fun a H => ?_
   refine An.val H (HP) 3 77 (itV x_20) rfl (by kernel_rfl) (by kernel_rfl) (fun _ _ _ h => h) (fun _ hS => ex_loadN (vs := (itL x_20)) (by kernel_rfl) (by kernel_rfl) (by kernel_rfl) rfl (hS.cells 0 rfl 0 5 (by kernel_rfl))) fun a H => ?_
   refine An.p H (.inr HP) 4 78 (pt b_1 9) fun a H => ?_
   refine An.val H (HP) 5 79 (.slice p1.IA p1.its.length p1.ic) rfl (by kernel_rfl) (by kernel_rfl) (fun _ _ _ h => h) (fun _ hS => ex_l1 (hS.cell 4 rfl 9 rfl)) fun a H => ?_
   refine An.p H (.inr HP) 6 80 (ii i1) fun a H => ?_
   refine An.pure H (.inr (HP)) 7 81 (.pointer (some ⟨bu_21, ou_22 + i1 * 5, none⟩)) rfl (by kernel_rfl) (by kernel_rfl) (fun _ _ _ h => h) (fun _ => ex_indexA (b := bu_21) (off := ou_22) (len := p1.its.length) (cap := p1.ic) (e := 38) (k := 5) (ik := .i64) (i := (i1 : Int)) (m := i1) hA_23 (by kernel_rfl) (by kernel_rfl) (by omega) (by omega) (by kernel_rfl) (by kernel_rfl)) fun a H => ?_
   refine An.val H (HP) 8 82 (itV x_20) rfl (by kernel_rfl) (by kernel_rfl) (fun _ _ _ h => h) (fun _ hS => ex_loadN (b := bu_21) (off := ou_22 + i1 * 5) (vs := (itL x_20)) (by kernel_rfl) (by kernel_rfl) (by kernel_rfl) rfl (IsRow.cells itC_size ((hS.fact 1 rfl : IsPln _ p1).its) hA_23 hx_24)) fun a H => ?_
   refine An.pureE H (.inr (HP)) 9 83 (.bool (!(([x_20.id, x_20.kind, x_20.frames, x_20.sponsor, x_20.rating] : List Int) == [x_20.id, x_20.kind, x_20.frames, x_20.sponsor, x_20.rating]))) (.bool false) rfl (by kernel_rfl) (by kernel_rfl) (fun _ _ _ h => h) (fun _ => ex_neL (a := [x_20.id, x_20.kind, x_20.frames, x_20.sponsor, x_20.rating]) (b := [x_20.id, x_20.kind, x_20.frames, x_20.sponsor, x_20.rating]) (by kernel_rfl) (by kernel_rfl) (by kernel_rfl) rfl) ((congrArg Value.bool (by simp))) fun a H => ?_
   refine An.p H (.inr HP) 10 84 (.bool false) fun a H => ?_
   refine An.done (by kernel_rfl) ?_
   refine then_normal ?_
   refine w_iff H rfl ?_
   refine wp_skip (then_normal (w_region ?_))
   refine H.v 85 (.bool (fndI p1.its k i1)) fun a H => ?_
   refine H.v 86 (.bool (fndI p1.its k i1)) fun a H => ?_
   refine H.split 86 rfl (fun g86 H => ?_) (fun g86 H => ?_)
   ·have g86p := g86
    refine H.v 87 (pt b_1 9) fun a H => ?_
    refine H.u 88 (.slice p1.IA p1.its.length p1.ic) (ex_l1 (HP.cell 4 rfl 9 rfl)) fun a H => ?_
    refine H.v 89 (ii i1) fun a H => ?_
    refine H.u 90 (.pointer (some ⟨bu_21, ou_22 + i1 * 5, none⟩)) (ex_indexA (b := bu_21) (off := ou_22) (len := p1.its.length) (cap := p1.ic) (e := 38) (k := 5) (ik := .i64) (i := (i1 : Int)) (m := i1) hA_23 (by kernel_rfl) (by kernel_rfl) (by omega) (by omega) (by kernel_rfl) (by kernel_rfl)) fun a H => ?_
    refine H.v 91 (.pointer (some ⟨bu_21, ou_22 + i1 * 5, none⟩)) fun a H => ?_
    refine H.u 92 (ii x_20.id) (ex_l1 (IsRow.cells itC_size ((HP.fact 1 rfl : IsPln _ p1).its) hA_23 hx_24 0 _ rfl)) fun a H => ?_
    refine H.v 93 (ii k) fun a H => ?_
    refine H.v 94 (.bool (x_20.id != k)) fun a H => ?_
    refine H.v 95 (.bool (x_20.id != k)) fun a H => ?_
    refine H.v 7 (.bool (x_20.id != k)) fun a H => ?_
    refine wpList_nil (inb_normal (then_normal (w_region ?_)))
    refine H.v 61 (ii i1) fun a H => ?_
    refine H.valE 62 (ii (IntKind.i64.wrap ((i1 : Int) + 1))) (ii ((i1 : Int) + 1)) (by kernel_rfl) (by kernel_rfl) ((by rw [wrap_ini64 _ (by omega)])) fun a H => ?_
    refine H.v 12 (ii ((i1 : Int) + 1)) fun a H => ?_
    refine wpList_nil (then_normal ?_)
    have H := H.as 12 (ii ((i1 + 1 : Nat) : Int)) rfl rfl
    have H := H.as 7 (.bool (fndI p1.its k (i1 + 1))) rfl (congrArg Value.bool (fndI_t g86 hx_24))
    refine ⟨_, ?_, i1 + 1, rfl, H.keep (by kernel_rfl), (HP.tail rfl), (by omega)⟩
    omega
   ·have g86p := g86
    iterate 8 refine H.sx rfl fun a H => ?_
    refine H.v 95 (.bool false) fun a H => ?_
    refine H.v 7 (.bool false) fun a H => ?_
    refine wpList_nil (inb_normal (then_normal (w_region ?_)))
    refine H.v 61 (ii i1) fun a H => ?_
    refine H.valE 62 (ii (IntKind.i64.wrap ((i1 : Int) + 1))) (ii ((i1 : Int) + 1)) (by kernel_rfl) (by kernel_rfl) ((by rw [wrap_ini64 _ (by omega)])) fun a H => ?_
    refine H.v 12 (ii ((i1 : Int) + 1)) fun a H => ?_
    refine wpList_nil (then_normal ?_)
    have H := H.as 12 (ii ((i1 + 1 : Nat) : Int)) rfl rfl
    have H := H.as 7 (.bool (fndI p1.its k (i1 + 1))) rfl (congrArg Value.bool (fndI_f g86 hx_24))
    refine ⟨_, ?_, i1 + 1, rfl, H.keep (by kernel_rfl), (HP.tail rfl), (by omega)⟩
    omega
  ·refine Op.alloc H HP 13 (fun b => (pt b 0)) 38 [(ii 0), (ii 0), (ii 0), (ii 0), (ii 0)] rfl (by kernel_rfl) (fun w => by kernel_rfl) fun b_33 w_34 a H HP => ?_
   refine ⟨.inr ((HP.tail rfl)), ?_⟩
   refine An.one 7 (by kernel_rfl) ?_
   refine Op.call H 71 rfl (by kernel_rfl) (Eq.trans (by kernel_rfl : _ = (callFunc 18 #[(plV p1), (ii x_20.id)]).run Tryz.prog w_34) (Tryz.call18 _ _)) ((by have hh := item_any p1 x_20.id w_34 (HP.fact 1 rfl : IsPln _ p1); rw [g1.1, g1.2] at hh; exact hh)) ?_
   rintro e w_35 ⟨rfl, hb⟩
   refine ⟨_, rfl, ?_⟩
   intro a H
   have HP := HP.next hb
   refine ⟨.inr ((HP.tail rfl)), ?_⟩
   refine An.pure H (.inr ((HP.tail rfl))) 8 63 (.tuple #[(itV x_20), (.bool true)]) rfl (by kernel_rfl) (by kernel_rfl) (fun _ _ _ h => h) (fun _ => by kernel_rfl) fun a H => ?_
   refine An.pure H (.inr ((HP.tail rfl))) 9 72 (itV x_20) rfl (by kernel_rfl) (by kernel_rfl) (fun _ _ _ h => h) (fun _ => by kernel_rfl) fun a H => ?_
   refine An.p H (.inr ((HP.tail rfl))) 10 73 (.bool true) fun a H => ?_
   refine An.one 12 (by kernel_rfl) ?_
   refine Op.store H HP 0 b_33 0 5 38 [(ii 0), (ii 0), (ii 0), (ii 0), (ii 0)] true (itV x_20) [bx b_33 38 (itL x_20) true, bx b_16 43 [(ii ((gE p1.es k).id)), (ii ((gE p1.es k).item)), (ii ((gE p1.es k).frames)), (ii ((gE p1.es k).earliest)), (ii ((gE p1.es k).latest)), (ii ((gE p1.es k).booking)), (.slice Be ((gE p1.es k).al.length) cBe)] true, bx b_12 47 (bkL (gB p1.bs k)) true, bx b_8 38 (itL (gI p1.its k)) true, bx b_1 32 (plL p1) true] rfl (by kernel_rfl) (by kernel_rfl) (by kernel_rfl) rfl (by kernel_rfl) (by kernel_rfl) (by kernel_rfl) (by kernel_rfl) (by kernel_rfl) fun w_36 a H HP => ?_
   refine ⟨.inr ((HP.tail rfl)), ?_⟩
   refine An.p H (.inr ((HP.tail rfl))) 13 14 (.bool true) fun a H => ?_
   refine An.done (by kernel_rfl) ?_
   refine then_normal (wp_seq (wp_seq ?_))
   refine An.start (fun v => Hp w v [bx b_33 38 (itL x_20) true, bx b_16 43 [(ii ((gE p1.es k).id)), (ii ((gE p1.es k).item)), (ii ((gE p1.es k).frames)), (ii ((gE p1.es k).earliest)), (ii ((gE p1.es k).latest)), (ii ((gE p1.es k).booking)), (.slice Be ((gE p1.es k).al.length) cBe)] true, bx b_12 47 (bkL (gB p1.bs k)) true, bx b_8 38 (itL (gI p1.its k)) true, bx b_1 32 (plL p1) true] [alK Be (gE p1.es k).al, plnK p1]) 11 11 HP wide_follows rfl fun w_37 HP => ?_
   refine An.p H (.inr HP) 0 74 (.bool true) fun a H => ?_
   refine An.p H (.inr HP) 1 75 (.bool false) fun a H => ?_
   refine An.p H (.inr HP) 2 76 (.bool false) fun a H => ?_
   refine An.val H (HP) 3 77 (itV x_20) rfl (by kernel_rfl) (by kernel_rfl) (fun _ _ _ h => h) (fun _ hS => ex_loadN (vs := (itL x_20)) (by kernel_rfl) (by kernel_rfl) (by kernel_rfl) rfl (hS.cells 0 rfl 0 5 (by kernel_rfl))) fun a H => ?_
   refine An.p H (.inr HP) 4 78 (pt b_1 9) fun a H => ?_
   refine An.val H (HP) 5 79 (.slice p1.IA p1.its.length p1.ic) rfl (by kernel_rfl) (by kernel_rfl) (fun _ _ _ h => h) (fun _ hS => ex_l1 (hS.cell 4 rfl 9 rfl)) fun a H => ?_
   refine An.p H (.inr HP) 6 80 (ii i1) fun a H => ?_
   refine An.pure H (.inr (HP)) 7 81 (.pointer (some ⟨bu_21, ou_22 + i1 * 5, none⟩)) rfl (by kernel_rfl) (by kernel_rfl) (fun _ _ _ h => h) (fun _ => ex_indexA (b := bu_21) (off := ou_22) (len := p1.its.length) (cap := p1.ic) (e := 38) (k := 5) (ik := .i64) (i := (i1 : Int)) (m := i1) hA_23 (by kernel_rfl) (by kernel_rfl) (by omega) (by omega) (by kernel_rfl) (by kernel_rfl)) fun a H => ?_
   refine An.val H (HP) 8 82 (itV x_20) rfl (by kernel_rfl) (by kernel_rfl) (fun _ _ _ h => h) (fun _ hS => ex_loadN (b := bu_21) (off := ou_22 + i1 * 5) (vs := (itL x_20)) (by kernel_rfl) (by kernel_rfl) (by kernel_rfl) rfl (IsRow.cells itC_size ((hS.fact 1 rfl : IsPln _ p1).its) hA_23 hx_24)) fun a H => ?_
   refine An.pureE H (.inr (HP)) 9 83 (.bool (!(([x_20.id, x_20.kind, x_20.frames, x_20.sponsor, x_20.rating] : List Int) == [x_20.id, x_20.kind, x_20.frames, x_20.sponsor, x_20.rating]))) (.bool false) rfl (by kernel_rfl) (by kernel_rfl) (fun _ _ _ h => h) (fun _ => ex_neL (a := [x_20.id, x_20.kind, x_20.frames, x_20.sponsor, x_20.rating]) (b := [x_20.id, x_20.kind, x_20.frames, x_20.sponsor, x_20.rating]) (by kernel_rfl) (by kernel_rfl) (by kernel_rfl) rfl) ((congrArg Value.bool (by simp))) fun a H => ?_
   refine An.p H (.inr HP) 10 84 (.bool false) fun a H => ?_
   refine An.done (by kernel_rfl) ?_
   refine then_normal ?_
   refine w_iff H rfl ?_
   refine wp_skip (then_normal (w_region ?_))
   refine H.v 85 (.bool (fndI p1.its k i1)) fun a H => ?_
   refine H.v 86 (.bool (fndI p1.its k i1)) fun a H => ?_
   refine H.split 86 rfl (fun g86 H => ?_) (fun g86 H => ?_)
   ·have g86p := g86
    refine H.v 87 (pt b_1 9) fun a H => ?_
    refine H.u 88 (.slice p1.IA p1.its.length p1.ic) (ex_l1 (HP.cell 4 rfl 9 rfl)) fun a H => ?_
    refine H.v 89 (ii i1) fun a H => ?_
    refine H.u 90 (.pointer (some ⟨bu_21, ou_22 + i1 * 5, none⟩)) (ex_indexA (b := bu_21) (off := ou_22) (len := p1.its.length) (cap := p1.ic) (e := 38) (k := 5) (ik := .i64) (i := (i1 : Int)) (m := i1) hA_23 (by kernel_rfl) (by kernel_rfl) (by omega) (by omega) (by kernel_rfl) (by kernel_rfl)) fun a H => ?_
    refine H.v 91 (.pointer (some ⟨bu_21, ou_22 + i1 * 5, none⟩)) fun a H => ?_
    refine H.u 92 (ii x_20.id) (ex_l1 (IsRow.cells itC_size ((HP.fact 1 rfl : IsPln _ p1).its) hA_23 hx_24 0 _ rfl)) fun a H => ?_
    refine H.v 93 (ii k) fun a H => ?_
    refine H.v 94 (.bool (x_20.id != k)) fun a H => ?_
    refine H.v 95 (.bool (x_20.id != k)) fun a H => ?_
    refine H.v 7 (.bool (x_20.id != k)) fun a H => ?_
    refine wpList_nil (inb_normal (then_normal (w_region ?_)))
    refine H.v 61 (ii i1) fun a H => ?_
    refine H.valE 62 (ii (IntKind.i64.wrap ((i1 : Int) + 1))) (ii ((i1 : Int) + 1)) (by kernel_rfl) (by kernel_rfl) ((by rw [wrap_ini64 _ (by omega)])) fun a H => ?_
    refine H.v 12 (ii ((i1 : Int) + 1)) fun a H => ?_
    refine wpList_nil (then_normal ?_)
    have H := H.as 12 (ii ((i1 + 1 : Nat) : Int)) rfl rfl
    have H := H.as 7 (.bool (fndI p1.its k (i1 + 1))) rfl (congrArg Value.bool (fndI_t g86 hx_24))
    refine ⟨_, ?_, i1 + 1, rfl, H.keep (by kernel_rfl), (HP.tail rfl), (by omega)⟩
    omega
   ·have g86p := g86
    iterate 8 refine H.sx rfl fun a H => ?_
    refine H.v 95 (.bool false) fun a H => ?_
    refine H.v 7 (.bool false) fun a H => ?_
    refine wpList_nil (inb_normal (then_normal (w_region ?_)))
    refine H.v 61 (ii i1) fun a H => ?_
    refine H.valE 62 (ii (IntKind.i64.wrap ((i1 : Int) + 1))) (ii ((i1 : Int) + 1)) (by kernel_rfl) (by kernel_rfl) ((by rw [wrap_ini64 _ (by omega)])) fun a H => ?_
    refine H.v 12 (ii ((i1 : Int) + 1)) fun a H => ?_
    refine wpList_nil (then_normal ?_)
    have H := H.as 12 (ii ((i1 + 1 : Nat) : Int)) rfl rfl
    have H := H.as 7 (.bool (fndI p1.its k (i1 + 1))) rfl (congrArg Value.bool (fndI_f g86 hx_24))
    refine ⟨_, ?_, i1 + 1, rfl, H.keep (by kernel_rfl), (HP.tail rfl), (by omega)⟩
    omega
 ·have g60p := of_decide_eq_false g60
  refine wp_exit (then_exit (then_exit ?_))
  refine w_exit_here ?_
  refine then_normal (wp_seq (wp_seq ?_))
  have ha1 : fndI p1.its k i1 = false := fndI_end (by omega)
  have H := H.as 9 (.bool (fndB p1.bs k 0)) rfl (congrArg Value.bool (fndB_0 _ _))
  refine w_region ?_
  refine H.v 15 (ii 0) fun a H => ?_
  refine wpList_nil (then_normal (wp_block ?_))
  refine w_loop (fun mm a wv => ∃ (i2 : Nat), p1.bs.length - i2 = mm ∧ Sl 273 [(15, (ii i2)), (9, (.bool (fndB p1.bs k i2))), (60, (.bool (decide ((i1 : Int) < (p1.its.length : Int))))), (59, (ii p1.its.length)), (58, (.slice p1.IA p1.its.length p1.ic)), (57, (pt b_1 9)), (56, (ii i1)), (12, (ii i1)), (7, (.bool (fndI p1.its k i1))), (11, (.bool (hE p1.es k))), (10, (pt b_16 0)), (55, (.bool (hE p1.es k))), (54, (.agg #[(ii ((gE p1.es k).id)), (ii ((gE p1.es k).item)), (ii ((gE p1.es k).frames)), (ii ((gE p1.es k).earliest)), (ii ((gE p1.es k).latest)), (ii ((gE p1.es k).booking)), (.slice Be ((gE p1.es k).al.length) cBe)])), (50, (.tuple #[(.agg #[(ii ((gE p1.es k).id)), (ii ((gE p1.es k).item)), (ii ((gE p1.es k).frames)), (ii ((gE p1.es k).earliest)), (ii ((gE p1.es k).latest)), (ii ((gE p1.es k).booking)), (.slice Be ((gE p1.es k).al.length) cBe)]), (.bool (hE p1.es k))])), (53, (.tuple #[(.agg #[(ii ((gE p1.es k).id)), (ii ((gE p1.es k).item)), (ii ((gE p1.es k).frames)), (ii ((gE p1.es k).earliest)), (ii ((gE p1.es k).latest)), (ii ((gE p1.es k).booking)), (.slice Be ((gE p1.es k).al.length) cBe)]), (.bool (hE p1.es k))])), (52, (ii k)), (51, (plV p1)), (8, (pt b_12 0)), (49, (.bool (hB p1.bs k))), (48, (bkV (gB p1.bs k))), (44, (.tuple #[(bkV (gB p1.bs k)), (.bool (hB p1.bs k))])), (47, (.tuple #[(bkV (gB p1.bs k)), (.bool (hB p1.bs k))])), (46, (ii k)), (45, (plV p1)), (6, (pt b_8 0)), (43, (.bool (hI p1.its k))), (42, (itV (gI p1.its k))), (38, (.tuple #[(itV (gI p1.its k)), (.bool (hI p1.its k))])), (41, (.tuple #[(itV (gI p1.its k)), (.bool (hI p1.its k))])), (40, (ii k)), (39, (plV p1)), (36, (.bool false)), (35, (.bool true)), (34, (plV p1)), (33, (plV p1)), (32, (plV p)), (5, (.bool true)), (31, (.bool true)), (2, (pt b_1 0)), (0, (plV p)), (1, (ii k))] a ∧ Hp w wv [bx b_16 43 [(ii ((gE p1.es k).id)), (ii ((gE p1.es k).item)), (ii ((gE p1.es k).frames)), (ii ((gE p1.es k).earliest)), (ii ((gE p1.es k).latest)), (ii ((gE p1.es k).booking)), (.slice Be ((gE p1.es k).al.length) cBe)] true, bx b_12 47 (bkL (gB p1.bs k)) true, bx b_8 38 (itL (gI p1.its k)) true, bx b_1 32 (plL p1) true] [alK Be (gE p1.es k).al, plnK p1] ∧ (i2 ≤ p1.bs.length)) (p1.bs.length - 0) ?_ ?_
  ·exact ⟨0, (by omega), H.keep (by kernel_rfl), HP, (Nat.zero_le _)⟩
  rintro mm a w_38 ⟨i2, hmeas, H, HP, hibi2⟩
  refine wp_seq (wp_seq (w_region ?_))
  refine H.v 96 (ii i2) fun a H => ?_
  refine H.v 97 (pt b_1 11) fun a H => ?_
  refine H.u 98 (.slice p1.BA p1.bs.length p1.bc) (ex_l1 (HP.cell 3 rfl 11 rfl)) fun a H => ?_
  refine H.v 99 (ii p1.bs.length) fun a H => ?_
  refine H.v 100 (.bool (decide ((i2 : Int) < (p1.bs.length : Int)))) fun a H => ?_
  refine wpList_nil (then_normal ?_)
  refine w_if H rfl (fun g100 => ?_) (fun g100 => ?_)
  ·have g100p := of_decide_eq_true g100
   refine wp_skip (then_normal (wp_seq (wp_block (wp_seq ?_))))
   obtain ⟨bu_40, ou_41, x_39, hA_42, _, hd_44, hx_43, hm_45, _⟩ := IsRow.get bkC_size ((HP.fact 1 rfl : IsPln _ p1).bs) (i := i2) (by omega)
   have g2 := gd.bk x_39 hm_45
   refine An.start (fun v => Hp w v [bx b_16 43 [(ii ((gE p1.es k).id)), (ii ((gE p1.es k).item)), (ii ((gE p1.es k).frames)), (ii ((gE p1.es k).earliest)), (ii ((gE p1.es k).latest)), (ii ((gE p1.es k).booking)), (.slice Be ((gE p1.es k).al.length) cBe)] true, bx b_12 47 (bkL (gB p1.bs k)) true, bx b_8 38 (itL (gI p1.its k)) true, bx b_1 32 (plL p1) true] [alK Be (gE p1.es k).al, plnK p1]) 14 14 HP wide_follows rfl fun w_46 HP => ?_
   refine An.val H (HP) 0 104 (plV p1) rfl (by kernel_rfl) (by kernel_rfl) (fun _ _ _ h => h) (fun _ hS => ex_loadN (vs := (plL p1)) (by kernel_rfl) (by kernel_rfl) (by kernel_rfl) rfl (hS.cells 3 rfl 0 13 (by kernel_rfl))) fun a H => ?_
   refine An.p H (.inr HP) 1 105 (pt b_1 11) fun a H => ?_
   refine An.val H (HP) 2 106 (.slice p1.BA p1.bs.length p1.bc) rfl (by kernel_rfl) (by kernel_rfl) (fun _ _ _ h => h) (fun _ hS => ex_l1 (hS.cell 3 rfl 11 rfl)) fun a H => ?_
   refine An.p H (.inr HP) 3 107 (ii i2) fun a H => ?_
   refine An.pure H (.inr (HP)) 4 108 (.pointer (some ⟨bu_40, ou_41 + i2 * 7, none⟩)) rfl (by kernel_rfl) (by kernel_rfl) (fun _ _ _ h => h) (fun _ => ex_indexA (b := bu_40) (off := ou_41) (len := p1.bs.length) (cap := p1.bc) (e := 47) (k := 7) (ik := .i64) (i := (i2 : Int)) (m := i2) hA_42 (by kernel_rfl) (by kernel_rfl) (by omega) (by omega) (by kernel_rfl) (by kernel_rfl)) fun a H => ?_
   refine An.p H (.inr HP) 5 109 (.pointer (some ⟨bu_40, ou_41 + i2 * 7, none⟩)) fun a H => ?_
   refine An.val H (HP) 6 110 (ii x_39.id) rfl (by kernel_rfl) (by kernel_rfl) (fun _ _ _ h => h) (fun _ hS => ex_l1 (IsRow.cells bkC_size ((hS.fact 1 rfl : IsPln _ p1).bs) hA_42 hx_43 0 _ rfl)) fun a H => ?_
   refine An.two 7 11 (by kernel_rfl) ?_ ?_
   ·refine Op.call H 111 rfl (by kernel_rfl) (Eq.trans (by kernel_rfl : _ = (callFunc 22 #[(plV p1), (ii x_39.id)]).run Tryz.prog w_46) (Tryz.call22 _ _)) ((by have hh := booking_any p1 x_39.id w_46 (HP.fact 1 rfl : IsPln _ p1); rw [g2.1.1, g2.1.2] at hh; exact hh)) ?_
    rintro e w_47 ⟨rfl, hb⟩
    refine ⟨_, rfl, ?_⟩
    intro a H
    have HP := HP.next hb
    refine ⟨.inr (HP), ?_⟩
    refine An.pure H (.inr (HP)) 8 103 (.tuple #[(bkV x_39), (.bool true)]) rfl (by kernel_rfl) (by kernel_rfl) (fun _ _ _ h => h) (fun _ => by kernel_rfl) fun a H => ?_
    refine An.pure H (.inr (HP)) 9 112 (bkV x_39) rfl (by kernel_rfl) (by kernel_rfl) (fun _ _ _ h => h) (fun _ => by kernel_rfl) fun a H => ?_
    refine An.p H (.inr HP) 10 113 (.bool true) fun a H => ?_
    refine An.one 11 (by kernel_rfl) ?_
    refine Op.alloc H HP 16 (fun b => (pt b 0)) 47 [(ii 0), (ii 0), (ii 0), (ii 0), (ii 0), (ii 0), (ii 0)] rfl (by kernel_rfl) (fun w => by kernel_rfl) fun b_48 w_49 a H HP => ?_
    refine ⟨.inr ((HP.tail rfl)), ?_⟩
    refine An.one 12 (by kernel_rfl) ?_
    refine Op.store H HP 0 b_48 0 7 47 [(ii 0), (ii 0), (ii 0), (ii 0), (ii 0), (ii 0), (ii 0)] true (bkV x_39) [bx b_48 47 (bkL x_39) true, bx b_16 43 [(ii ((gE p1.es k).id)), (ii ((gE p1.es k).item)), (ii ((gE p1.es k).frames)), (ii ((gE p1.es k).earliest)), (ii ((gE p1.es k).latest)), (ii ((gE p1.es k).booking)), (.slice Be ((gE p1.es k).al.length) cBe)] true, bx b_12 47 (bkL (gB p1.bs k)) true, bx b_8 38 (itL (gI p1.its k)) true, bx b_1 32 (plL p1) true] rfl (by kernel_rfl) (by kernel_rfl) (by kernel_rfl) rfl (by kernel_rfl) (by kernel_rfl) (by kernel_rfl) (by kernel_rfl) (by kernel_rfl) fun w_50 a H HP => ?_
    refine ⟨.inr ((HP.tail rfl)), ?_⟩
    refine An.p H (.inr ((HP.tail rfl))) 13 17 (.bool true) fun a H => ?_
    refine An.done (by kernel_rfl) ?_
    refine then_normal (wp_seq (w_region ?_))
    refine H.u 115 (plV p1) (ex_loadN (vs := (plL p1)) (by kernel_rfl) (by kernel_rfl) (by kernel_rfl) rfl (HP.cells 4 rfl 0 13 (by kernel_rfl))) fun a H => ?_
    refine H.v 116 (pt b_48 1) fun a H => ?_
    refine H.u 117 (ii x_39.item) (ex_l1 (HP.cell 0 rfl 1 rfl)) fun a H => ?_
    refine H.call 118 (by kernel_rfl) (Eq.trans (by kernel_rfl : _ = (callFunc 18 #[(plV p1), (ii x_39.item)]).run Tryz.prog w_50) (Tryz.call18 _ _)) ((by have hh := item_any p1 x_39.item w_50 (HP.fact 1 rfl : IsPln _ p1); rw [g2.2.1] at hh; exact hh)) ?_
    rintro e w_51 ⟨rfl, hb⟩
    refine ⟨_, rfl, ?_⟩
    intro a H
    have HP := HP.next hb
    refine H.v 114 (.tuple #[(itV (gI p1.its x_39.item)), (.bool true)]) fun a H => ?_
    refine H.v 119 (itV (gI p1.its x_39.item)) fun a H => ?_
    refine H.v 120 (.bool true) fun a H => ?_
    refine H.alloc HP 18 (fun b => (pt b 0)) 38 [(ii 0), (ii 0), (ii 0), (ii 0), (ii 0)] (by kernel_rfl) (fun w => by kernel_rfl) fun b_52 w_53 a H HP => ?_
    refine H.store HP 0 b_52 0 5 38 _ true (itV (gI p1.its x_39.item)) [bx b_52 38 (itL (gI p1.its x_39.item)) true, bx b_48 47 (bkL x_39) true, bx b_16 43 [(ii ((gE p1.es k).id)), (ii ((gE p1.es k).item)), (ii ((gE p1.es k).frames)), (ii ((gE p1.es k).earliest)), (ii ((gE p1.es k).latest)), (ii ((gE p1.es k).booking)), (.slice Be ((gE p1.es k).al.length) cBe)] true, bx b_12 47 (bkL (gB p1.bs k)) true, bx b_8 38 (itL (gI p1.its k)) true, bx b_1 32 (plL p1) true] (by kernel_rfl) (by kernel_rfl) (by kernel_rfl) rfl (by kernel_rfl) (by kernel_rfl) (by kernel_rfl) (by kernel_rfl) (by kernel_rfl) fun w_54 a H HP => ?_
    refine H.v 19 (.bool true) fun a H => ?_
    refine wpList_nil (then_normal (wp_seq (wp_seq ?_)))
    refine An.start (fun v => Hp w v [bx b_52 38 (itL (gI p1.its x_39.item)) true, bx b_48 47 (bkL x_39) true, bx b_16 43 [(ii ((gE p1.es k).id)), (ii ((gE p1.es k).item)), (ii ((gE p1.es k).frames)), (ii ((gE p1.es k).earliest)), (ii ((gE p1.es k).latest)), (ii ((gE p1.es k).booking)), (.slice Be ((gE p1.es k).al.length) cBe)] true, bx b_12 47 (bkL (gB p1.bs k)) true, bx b_8 38 (itL (gI p1.its k)) true, bx b_1 32 (plL p1) true] [alK Be (gE p1.es k).al, plnK p1]) 20 20 HP wide_follows rfl fun w_55 HP => ?_
    refine An.p H (.inr HP) 0 121 (.bool true) fun a H => ?_
    refine An.p H (.inr HP) 1 122 (.bool false) fun a H => ?_
    refine An.p H (.inr HP) 2 123 (.bool false) fun a H => ?_
    refine An.val H (HP) 3 124 (bkV x_39) rfl (by kernel_rfl) (by kernel_rfl) (fun _ _ _ h => h) (fun _ hS => ex_loadN (vs := (bkL x_39)) (by kernel_rfl) (by kernel_rfl) (by kernel_rfl) rfl (hS.cells 1 rfl 0 7 (by kernel_rfl))) fun a H => ?_
    refine An.p H (.inr HP) 4 125 (pt b_1 11) fun a H => ?_
    refine An.val H (HP) 5 126 (.slice p1.BA p1.bs.length p1.bc) rfl (by kernel_rfl) (by kernel_rfl) (fun _ _ _ h => h) (fun _ hS => ex_l1 (hS.cell 5 rfl 11 rfl)) fun a H => ?_
    refine An.p H (.inr HP) 6 127 (ii i2) fun a H => ?_
    refine An.pure H (.inr (HP)) 7 128 (.pointer (some ⟨bu_40, ou_41 + i2 * 7, none⟩)) rfl (by kernel_rfl) (by kernel_rfl) (fun _ _ _ h => h) (fun _ => ex_indexA (b := bu_40) (off := ou_41) (len := p1.bs.length) (cap := p1.bc) (e := 47) (k := 7) (ik := .i64) (i := (i2 : Int)) (m := i2) hA_42 (by kernel_rfl) (by kernel_rfl) (by omega) (by omega) (by kernel_rfl) (by kernel_rfl)) fun a H => ?_
    refine An.val H (HP) 8 129 (bkV x_39) rfl (by kernel_rfl) (by kernel_rfl) (fun _ _ _ h => h) (fun _ hS => ex_loadN (b := bu_40) (off := ou_41 + i2 * 7) (vs := (bkL x_39)) (by kernel_rfl) (by kernel_rfl) (by kernel_rfl) rfl (IsRow.cells bkC_size ((hS.fact 1 rfl : IsPln _ p1).bs) hA_42 hx_43)) fun a H => ?_
    refine An.pureE H (.inr (HP)) 9 130 (.bool (!(([x_39.id, x_39.item, x_39.region, x_39.from_, x_39.to_, x_39.until_, x_39.price] : List Int) == [x_39.id, x_39.item, x_39.region, x_39.from_, x_39.to_, x_39.until_, x_39.price]))) (.bool false) rfl (by kernel_rfl) (by kernel_rfl) (fun _ _ _ h => h) (fun _ => ex_neL (a := [x_39.id, x_39.item, x_39.region, x_39.from_, x_39.to_, x_39.until_, x_39.price]) (b := [x_39.id, x_39.item, x_39.region, x_39.from_, x_39.to_, x_39.until_, x_39.price]) (by kernel_rfl) (by kernel_rfl) (by kernel_rfl) rfl) ((congrArg Value.bool (by simp))) fun a H => ?_
    refine An.p H (.inr HP) 10 131 (.bool false) fun a H => ?_
    refine An.p H (.inr HP) 11 132 (.bool false) fun a H => ?_
    refine An.p H (.inr HP) 12 133 (.bool true) fun a H => ?_
    refine An.p H (.inr HP) 13 134 (.bool false) fun a H => ?_
    refine An.p H (.inr HP) 14 135 (.bool false) fun a H => ?_
    refine An.p H (.inr HP) 15 136 (.bool false) fun a H => ?_
    refine An.p H (.inr HP) 16 137 (pt b_52 1) fun a H => ?_
    refine An.val H (HP) 17 138 (ii ((gI p1.its x_39.item).kind)) rfl (by kernel_rfl) (by kernel_rfl) (fun _ _ _ h => h) (fun _ hS => ex_l1 (hS.cell 0 rfl 1 rfl)) fun a H => ?_
    refine An.pureE H (.inr (HP)) 18 139 (.bool (((gI p1.its x_39.item).kind) != 2)) (.bool false) rfl (by kernel_rfl) (by kernel_rfl) (fun _ _ _ h => h) (fun _ => by kernel_rfl) ((congrArg Value.bool (by rw [g2.2.2]; rfl))) fun a H => ?_
    refine An.p H (.inr HP) 19 140 (.bool false) fun a H => ?_
    refine An.done (by kernel_rfl) ?_
    refine then_normal ?_
    refine w_iff H rfl ?_
    refine wp_skip (then_normal (w_region ?_))
    refine H.v 141 (.bool (fndB p1.bs k i2)) fun a H => ?_
    refine H.v 142 (.bool (fndB p1.bs k i2)) fun a H => ?_
    refine H.split 142 rfl (fun g142 H => ?_) (fun g142 H => ?_)
    ·have g142p := g142
     refine H.v 143 (pt b_1 11) fun a H => ?_
     refine H.u 144 (.slice p1.BA p1.bs.length p1.bc) (ex_l1 (HP.cell 5 rfl 11 rfl)) fun a H => ?_
     refine H.v 145 (ii i2) fun a H => ?_
     refine H.u 146 (.pointer (some ⟨bu_40, ou_41 + i2 * 7, none⟩)) (ex_indexA (b := bu_40) (off := ou_41) (len := p1.bs.length) (cap := p1.bc) (e := 47) (k := 7) (ik := .i64) (i := (i2 : Int)) (m := i2) hA_42 (by kernel_rfl) (by kernel_rfl) (by omega) (by omega) (by kernel_rfl) (by kernel_rfl)) fun a H => ?_
     refine H.v 147 (.pointer (some ⟨bu_40, ou_41 + i2 * 7, none⟩)) fun a H => ?_
     refine H.u 148 (ii x_39.id) (ex_l1 (IsRow.cells bkC_size ((HP.fact 1 rfl : IsPln _ p1).bs) hA_42 hx_43 0 _ rfl)) fun a H => ?_
     refine H.v 149 (ii k) fun a H => ?_
     refine H.v 150 (.bool (x_39.id != k)) fun a H => ?_
     refine H.v 151 (.bool (x_39.id != k)) fun a H => ?_
     refine H.v 9 (.bool (x_39.id != k)) fun a H => ?_
     refine wpList_nil (inb_normal (then_normal (w_region ?_)))
     refine H.v 101 (ii i2) fun a H => ?_
     refine H.valE 102 (ii (IntKind.i64.wrap ((i2 : Int) + 1))) (ii ((i2 : Int) + 1)) (by kernel_rfl) (by kernel_rfl) ((by rw [wrap_ini64 _ (by omega)])) fun a H => ?_
     refine H.v 15 (ii ((i2 : Int) + 1)) fun a H => ?_
     refine wpList_nil (then_normal ?_)
     have H := H.as 15 (ii ((i2 + 1 : Nat) : Int)) rfl rfl
     have H := H.as 9 (.bool (fndB p1.bs k (i2 + 1))) rfl (congrArg Value.bool (fndB_t g142 hx_43))
     refine ⟨_, ?_, i2 + 1, rfl, H.keep (by kernel_rfl), ((HP.tail rfl).tail rfl), (by omega)⟩
     omega
    ·have g142p := g142
     iterate 8 refine H.sx rfl fun a H => ?_
     refine H.v 151 (.bool false) fun a H => ?_
     refine H.v 9 (.bool false) fun a H => ?_
     refine wpList_nil (inb_normal (then_normal (w_region ?_)))
     refine H.v 101 (ii i2) fun a H => ?_
     refine H.valE 102 (ii (IntKind.i64.wrap ((i2 : Int) + 1))) (ii ((i2 : Int) + 1)) (by kernel_rfl) (by kernel_rfl) ((by rw [wrap_ini64 _ (by omega)])) fun a H => ?_
     refine H.v 15 (ii ((i2 : Int) + 1)) fun a H => ?_
     refine wpList_nil (then_normal ?_)
     have H := H.as 15 (ii ((i2 + 1 : Nat) : Int)) rfl rfl
     have H := H.as 9 (.bool (fndB p1.bs k (i2 + 1))) rfl (congrArg Value.bool (fndB_f g142 hx_43))
     refine ⟨_, ?_, i2 + 1, rfl, H.keep (by kernel_rfl), ((HP.tail rfl).tail rfl), (by omega)⟩
     omega
   ·refine Op.alloc H HP 16 (fun b => (pt b 0)) 47 [(ii 0), (ii 0), (ii 0), (ii 0), (ii 0), (ii 0), (ii 0)] rfl (by kernel_rfl) (fun w => by kernel_rfl) fun b_56 w_57 a H HP => ?_
    refine ⟨.inr ((HP.tail rfl)), ?_⟩
    refine An.one 7 (by kernel_rfl) ?_
    refine Op.call H 111 rfl (by kernel_rfl) (Eq.trans (by kernel_rfl : _ = (callFunc 22 #[(plV p1), (ii x_39.id)]).run Tryz.prog w_57) (Tryz.call22 _ _)) ((by have hh := booking_any p1 x_39.id w_57 (HP.fact 1 rfl : IsPln _ p1); rw [g2.1.1, g2.1.2] at hh; exact hh)) ?_
    rintro e w_58 ⟨rfl, hb⟩
    refine ⟨_, rfl, ?_⟩
    intro a H
    have HP := HP.next hb
    refine ⟨.inr ((HP.tail rfl)), ?_⟩
    refine An.pure H (.inr ((HP.tail rfl))) 8 103 (.tuple #[(bkV x_39), (.bool true)]) rfl (by kernel_rfl) (by kernel_rfl) (fun _ _ _ h => h) (fun _ => by kernel_rfl) fun a H => ?_
    refine An.pure H (.inr ((HP.tail rfl))) 9 112 (bkV x_39) rfl (by kernel_rfl) (by kernel_rfl) (fun _ _ _ h => h) (fun _ => by kernel_rfl) fun a H => ?_
    refine An.p H (.inr ((HP.tail rfl))) 10 113 (.bool true) fun a H => ?_
    refine An.one 12 (by kernel_rfl) ?_
    refine Op.store H HP 0 b_56 0 7 47 [(ii 0), (ii 0), (ii 0), (ii 0), (ii 0), (ii 0), (ii 0)] true (bkV x_39) [bx b_56 47 (bkL x_39) true, bx b_16 43 [(ii ((gE p1.es k).id)), (ii ((gE p1.es k).item)), (ii ((gE p1.es k).frames)), (ii ((gE p1.es k).earliest)), (ii ((gE p1.es k).latest)), (ii ((gE p1.es k).booking)), (.slice Be ((gE p1.es k).al.length) cBe)] true, bx b_12 47 (bkL (gB p1.bs k)) true, bx b_8 38 (itL (gI p1.its k)) true, bx b_1 32 (plL p1) true] rfl (by kernel_rfl) (by kernel_rfl) (by kernel_rfl) rfl (by kernel_rfl) (by kernel_rfl) (by kernel_rfl) (by kernel_rfl) (by kernel_rfl) fun w_59 a H HP => ?_
    refine ⟨.inr ((HP.tail rfl)), ?_⟩
    refine An.p H (.inr ((HP.tail rfl))) 13 17 (.bool true) fun a H => ?_
    refine An.done (by kernel_rfl) ?_
    refine then_normal (wp_seq (w_region ?_))
    refine H.u 115 (plV p1) (ex_loadN (vs := (plL p1)) (by kernel_rfl) (by kernel_rfl) (by kernel_rfl) rfl (HP.cells 4 rfl 0 13 (by kernel_rfl))) fun a H => ?_
    refine H.v 116 (pt b_56 1) fun a H => ?_
    refine H.u 117 (ii x_39.item) (ex_l1 (HP.cell 0 rfl 1 rfl)) fun a H => ?_
    refine H.call 118 (by kernel_rfl) (Eq.trans (by kernel_rfl : _ = (callFunc 18 #[(plV p1), (ii x_39.item)]).run Tryz.prog w_59) (Tryz.call18 _ _)) ((by have hh := item_any p1 x_39.item w_59 (HP.fact 1 rfl : IsPln _ p1); rw [g2.2.1] at hh; exact hh)) ?_
    rintro e w_60 ⟨rfl, hb⟩
    refine ⟨_, rfl, ?_⟩
    intro a H
    have HP := HP.next hb
    refine H.v 114 (.tuple #[(itV (gI p1.its x_39.item)), (.bool true)]) fun a H => ?_
    refine H.v 119 (itV (gI p1.its x_39.item)) fun a H => ?_
    refine H.v 120 (.bool true) fun a H => ?_
    refine H.alloc HP 18 (fun b => (pt b 0)) 38 [(ii 0), (ii 0), (ii 0), (ii 0), (ii 0)] (by kernel_rfl) (fun w => by kernel_rfl) fun b_61 w_62 a H HP => ?_
    refine H.store HP 0 b_61 0 5 38 _ true (itV (gI p1.its x_39.item)) [bx b_61 38 (itL (gI p1.its x_39.item)) true, bx b_56 47 (bkL x_39) true, bx b_16 43 [(ii ((gE p1.es k).id)), (ii ((gE p1.es k).item)), (ii ((gE p1.es k).frames)), (ii ((gE p1.es k).earliest)), (ii ((gE p1.es k).latest)), (ii ((gE p1.es k).booking)), (.slice Be ((gE p1.es k).al.length) cBe)] true, bx b_12 47 (bkL (gB p1.bs k)) true, bx b_8 38 (itL (gI p1.its k)) true, bx b_1 32 (plL p1) true] (by kernel_rfl) (by kernel_rfl) (by kernel_rfl) rfl (by kernel_rfl) (by kernel_rfl) (by kernel_rfl) (by kernel_rfl) (by kernel_rfl) fun w_63 a H HP => ?_
    refine H.v 19 (.bool true) fun a H => ?_
    refine wpList_nil (then_normal (wp_seq (wp_seq ?_)))
    refine An.start (fun v => Hp w v [bx b_61 38 (itL (gI p1.its x_39.item)) true, bx b_56 47 (bkL x_39) true, bx b_16 43 [(ii ((gE p1.es k).id)), (ii ((gE p1.es k).item)), (ii ((gE p1.es k).frames)), (ii ((gE p1.es k).earliest)), (ii ((gE p1.es k).latest)), (ii ((gE p1.es k).booking)), (.slice Be ((gE p1.es k).al.length) cBe)] true, bx b_12 47 (bkL (gB p1.bs k)) true, bx b_8 38 (itL (gI p1.its k)) true, bx b_1 32 (plL p1) true] [alK Be (gE p1.es k).al, plnK p1]) 20 20 HP wide_follows rfl fun w_64 HP => ?_
    refine An.p H (.inr HP) 0 121 (.bool true) fun a H => ?_
    refine An.p H (.inr HP) 1 122 (.bool false) fun a H => ?_
    refine An.p H (.inr HP) 2 123 (.bool false) fun a H => ?_
    refine An.val H (HP) 3 124 (bkV x_39) rfl (by kernel_rfl) (by kernel_rfl) (fun _ _ _ h => h) (fun _ hS => ex_loadN (vs := (bkL x_39)) (by kernel_rfl) (by kernel_rfl) (by kernel_rfl) rfl (hS.cells 1 rfl 0 7 (by kernel_rfl))) fun a H => ?_
    refine An.p H (.inr HP) 4 125 (pt b_1 11) fun a H => ?_
    refine An.val H (HP) 5 126 (.slice p1.BA p1.bs.length p1.bc) rfl (by kernel_rfl) (by kernel_rfl) (fun _ _ _ h => h) (fun _ hS => ex_l1 (hS.cell 5 rfl 11 rfl)) fun a H => ?_
    refine An.p H (.inr HP) 6 127 (ii i2) fun a H => ?_
    refine An.pure H (.inr (HP)) 7 128 (.pointer (some ⟨bu_40, ou_41 + i2 * 7, none⟩)) rfl (by kernel_rfl) (by kernel_rfl) (fun _ _ _ h => h) (fun _ => ex_indexA (b := bu_40) (off := ou_41) (len := p1.bs.length) (cap := p1.bc) (e := 47) (k := 7) (ik := .i64) (i := (i2 : Int)) (m := i2) hA_42 (by kernel_rfl) (by kernel_rfl) (by omega) (by omega) (by kernel_rfl) (by kernel_rfl)) fun a H => ?_
    refine An.val H (HP) 8 129 (bkV x_39) rfl (by kernel_rfl) (by kernel_rfl) (fun _ _ _ h => h) (fun _ hS => ex_loadN (b := bu_40) (off := ou_41 + i2 * 7) (vs := (bkL x_39)) (by kernel_rfl) (by kernel_rfl) (by kernel_rfl) rfl (IsRow.cells bkC_size ((hS.fact 1 rfl : IsPln _ p1).bs) hA_42 hx_43)) fun a H => ?_
    refine An.pureE H (.inr (HP)) 9 130 (.bool (!(([x_39.id, x_39.item, x_39.region, x_39.from_, x_39.to_, x_39.until_, x_39.price] : List Int) == [x_39.id, x_39.item, x_39.region, x_39.from_, x_39.to_, x_39.until_, x_39.price]))) (.bool false) rfl (by kernel_rfl) (by kernel_rfl) (fun _ _ _ h => h) (fun _ => ex_neL (a := [x_39.id, x_39.item, x_39.region, x_39.from_, x_39.to_, x_39.until_, x_39.price]) (b := [x_39.id, x_39.item, x_39.region, x_39.from_, x_39.to_, x_39.until_, x_39.price]) (by kernel_rfl) (by kernel_rfl) (by kernel_rfl) rfl) ((congrArg Value.bool (by simp))) fun a H => ?_
    refine An.p H (.inr HP) 10 131 (.bool false) fun a H => ?_
    refine An.p H (.inr HP) 11 132 (.bool false) fun a H => ?_
    refine An.p H (.inr HP) 12 133 (.bool true) fun a H => ?_
    refine An.p H (.inr HP) 13 134 (.bool false) fun a H => ?_
    refine An.p H (.inr HP) 14 135 (.bool false) fun a H => ?_
    refine An.p H (.inr HP) 15 136 (.bool false) fun a H => ?_
    refine An.p H (.inr HP) 16 137 (pt b_61 1) fun a H => ?_
    refine An.val H (HP) 17 138 (ii ((gI p1.its x_39.item).kind)) rfl (by kernel_rfl) (by kernel_rfl) (fun _ _ _ h => h) (fun _ hS => ex_l1 (hS.cell 0 rfl 1 rfl)) fun a H => ?_
    refine An.pureE H (.inr (HP)) 18 139 (.bool (((gI p1.its x_39.item).kind) != 2)) (.bool false) rfl (by kernel_rfl) (by kernel_rfl) (fun _ _ _ h => h) (fun _ => by kernel_rfl) ((congrArg Value.bool (by rw [g2.2.2]; rfl))) fun a H => ?_
    refine An.p H (.inr HP) 19 140 (.bool false) fun a H => ?_
    refine An.done (by kernel_rfl) ?_
    refine then_normal ?_
    refine w_iff H rfl ?_
    refine wp_skip (then_normal (w_region ?_))
    refine H.v 141 (.bool (fndB p1.bs k i2)) fun a H => ?_
    refine H.v 142 (.bool (fndB p1.bs k i2)) fun a H => ?_
    refine H.split 142 rfl (fun g142 H => ?_) (fun g142 H => ?_)
    ·have g142p := g142
     refine H.v 143 (pt b_1 11) fun a H => ?_
     refine H.u 144 (.slice p1.BA p1.bs.length p1.bc) (ex_l1 (HP.cell 5 rfl 11 rfl)) fun a H => ?_
     refine H.v 145 (ii i2) fun a H => ?_
     refine H.u 146 (.pointer (some ⟨bu_40, ou_41 + i2 * 7, none⟩)) (ex_indexA (b := bu_40) (off := ou_41) (len := p1.bs.length) (cap := p1.bc) (e := 47) (k := 7) (ik := .i64) (i := (i2 : Int)) (m := i2) hA_42 (by kernel_rfl) (by kernel_rfl) (by omega) (by omega) (by kernel_rfl) (by kernel_rfl)) fun a H => ?_
     refine H.v 147 (.pointer (some ⟨bu_40, ou_41 + i2 * 7, none⟩)) fun a H => ?_
     refine H.u 148 (ii x_39.id) (ex_l1 (IsRow.cells bkC_size ((HP.fact 1 rfl : IsPln _ p1).bs) hA_42 hx_43 0 _ rfl)) fun a H => ?_
     refine H.v 149 (ii k) fun a H => ?_
     refine H.v 150 (.bool (x_39.id != k)) fun a H => ?_
     refine H.v 151 (.bool (x_39.id != k)) fun a H => ?_
     refine H.v 9 (.bool (x_39.id != k)) fun a H => ?_
     refine wpList_nil (inb_normal (then_normal (w_region ?_)))
     refine H.v 101 (ii i2) fun a H => ?_
     refine H.valE 102 (ii (IntKind.i64.wrap ((i2 : Int) + 1))) (ii ((i2 : Int) + 1)) (by kernel_rfl) (by kernel_rfl) ((by rw [wrap_ini64 _ (by omega)])) fun a H => ?_
     refine H.v 15 (ii ((i2 : Int) + 1)) fun a H => ?_
     refine wpList_nil (then_normal ?_)
     have H := H.as 15 (ii ((i2 + 1 : Nat) : Int)) rfl rfl
     have H := H.as 9 (.bool (fndB p1.bs k (i2 + 1))) rfl (congrArg Value.bool (fndB_t g142 hx_43))
     refine ⟨_, ?_, i2 + 1, rfl, H.keep (by kernel_rfl), ((HP.tail rfl).tail rfl), (by omega)⟩
     omega
    ·have g142p := g142
     iterate 8 refine H.sx rfl fun a H => ?_
     refine H.v 151 (.bool false) fun a H => ?_
     refine H.v 9 (.bool false) fun a H => ?_
     refine wpList_nil (inb_normal (then_normal (w_region ?_)))
     refine H.v 101 (ii i2) fun a H => ?_
     refine H.valE 102 (ii (IntKind.i64.wrap ((i2 : Int) + 1))) (ii ((i2 : Int) + 1)) (by kernel_rfl) (by kernel_rfl) ((by rw [wrap_ini64 _ (by omega)])) fun a H => ?_
     refine H.v 15 (ii ((i2 : Int) + 1)) fun a H => ?_
     refine wpList_nil (then_normal ?_)
     have H := H.as 15 (ii ((i2 + 1 : Nat) : Int)) rfl rfl
     have H := H.as 9 (.bool (fndB p1.bs k (i2 + 1))) rfl (congrArg Value.bool (fndB_f g142 hx_43))
     refine ⟨_, ?_, i2 + 1, rfl, H.keep (by kernel_rfl), ((HP.tail rfl).tail rfl), (by omega)⟩
     omega
  ·have g100p := of_decide_eq_false g100
   refine wp_exit (then_exit (then_exit ?_))
   refine w_exit_here ?_
   refine then_normal (wp_seq (wp_seq ?_))
   have ha2 : fndB p1.bs k i2 = false := fndB_end (by omega)
   have H := H.as 11 (.bool (fndE p1.es k 0)) rfl (congrArg Value.bool (fndE_0 _ _))
   refine w_region ?_
   refine H.v 20 (ii 0) fun a H => ?_
   refine wpList_nil (then_normal (wp_block ?_))
   refine w_loop (fun mm a wv => ∃ (i3 : Nat), p1.es.length - i3 = mm ∧ Sl 273 [(20, (ii i3)), (11, (.bool (fndE p1.es k i3))), (100, (.bool (decide ((i2 : Int) < (p1.bs.length : Int))))), (99, (ii p1.bs.length)), (98, (.slice p1.BA p1.bs.length p1.bc)), (97, (pt b_1 11)), (96, (ii i2)), (15, (ii i2)), (9, (.bool (fndB p1.bs k i2))), (60, (.bool (decide ((i1 : Int) < (p1.its.length : Int))))), (59, (ii p1.its.length)), (58, (.slice p1.IA p1.its.length p1.ic)), (57, (pt b_1 9)), (56, (ii i1)), (12, (ii i1)), (7, (.bool (fndI p1.its k i1))), (10, (pt b_16 0)), (55, (.bool (hE p1.es k))), (54, (.agg #[(ii ((gE p1.es k).id)), (ii ((gE p1.es k).item)), (ii ((gE p1.es k).frames)), (ii ((gE p1.es k).earliest)), (ii ((gE p1.es k).latest)), (ii ((gE p1.es k).booking)), (.slice Be ((gE p1.es k).al.length) cBe)])), (50, (.tuple #[(.agg #[(ii ((gE p1.es k).id)), (ii ((gE p1.es k).item)), (ii ((gE p1.es k).frames)), (ii ((gE p1.es k).earliest)), (ii ((gE p1.es k).latest)), (ii ((gE p1.es k).booking)), (.slice Be ((gE p1.es k).al.length) cBe)]), (.bool (hE p1.es k))])), (53, (.tuple #[(.agg #[(ii ((gE p1.es k).id)), (ii ((gE p1.es k).item)), (ii ((gE p1.es k).frames)), (ii ((gE p1.es k).earliest)), (ii ((gE p1.es k).latest)), (ii ((gE p1.es k).booking)), (.slice Be ((gE p1.es k).al.length) cBe)]), (.bool (hE p1.es k))])), (52, (ii k)), (51, (plV p1)), (8, (pt b_12 0)), (49, (.bool (hB p1.bs k))), (48, (bkV (gB p1.bs k))), (44, (.tuple #[(bkV (gB p1.bs k)), (.bool (hB p1.bs k))])), (47, (.tuple #[(bkV (gB p1.bs k)), (.bool (hB p1.bs k))])), (46, (ii k)), (45, (plV p1)), (6, (pt b_8 0)), (43, (.bool (hI p1.its k))), (42, (itV (gI p1.its k))), (38, (.tuple #[(itV (gI p1.its k)), (.bool (hI p1.its k))])), (41, (.tuple #[(itV (gI p1.its k)), (.bool (hI p1.its k))])), (40, (ii k)), (39, (plV p1)), (36, (.bool false)), (35, (.bool true)), (34, (plV p1)), (33, (plV p1)), (32, (plV p)), (5, (.bool true)), (31, (.bool true)), (2, (pt b_1 0)), (0, (plV p)), (1, (ii k))] a ∧ Hp w wv [bx b_16 43 [(ii ((gE p1.es k).id)), (ii ((gE p1.es k).item)), (ii ((gE p1.es k).frames)), (ii ((gE p1.es k).earliest)), (ii ((gE p1.es k).latest)), (ii ((gE p1.es k).booking)), (.slice Be ((gE p1.es k).al.length) cBe)] true, bx b_12 47 (bkL (gB p1.bs k)) true, bx b_8 38 (itL (gI p1.its k)) true, bx b_1 32 (plL p1) true] [alK Be (gE p1.es k).al, plnK p1] ∧ (i3 ≤ p1.es.length)) (p1.es.length - 0) ?_ ?_
   ·exact ⟨0, (by omega), H.keep (by kernel_rfl), HP, (Nat.zero_le _)⟩
   rintro mm a w_65 ⟨i3, hmeas, H, HP, hibi3⟩
   refine wp_seq (wp_seq (w_region ?_))
   refine H.v 152 (ii i3) fun a H => ?_
   refine H.v 153 (pt b_1 10) fun a H => ?_
   refine H.u 154 (.slice p1.EA p1.es.length p1.ec) (ex_l1 (HP.cell 3 rfl 10 rfl)) fun a H => ?_
   refine H.v 155 (ii p1.es.length) fun a H => ?_
   refine H.v 156 (.bool (decide ((i3 : Int) < (p1.es.length : Int)))) fun a H => ?_
   refine wpList_nil (then_normal ?_)
   refine w_if H rfl (fun g156 => ?_) (fun g156 => ?_)
   ·have g156p := of_decide_eq_true g156
    refine wp_skip (then_normal (wp_seq (wp_block (wp_seq ?_))))
    obtain ⟨bu_67, ou_68, x_66, hA_69, _, hd_71, hx_70, hm_72, _⟩ := IsRow.get enC_size ((HP.fact 1 rfl : IsPln _ p1).es.row) (i := i3) (by omega)
    obtain ⟨g3, g4, g5, g6, g7, g8⟩ := gd.en x_66 hm_72
    have g7h := Lib.hid g7
    clear g7
    have g8l := hsm_p1.al x_66 hm_72
    refine An.start (fun v => Hp w v [bx b_16 43 [(ii ((gE p1.es k).id)), (ii ((gE p1.es k).item)), (ii ((gE p1.es k).frames)), (ii ((gE p1.es k).earliest)), (ii ((gE p1.es k).latest)), (ii ((gE p1.es k).booking)), (.slice Be ((gE p1.es k).al.length) cBe)] true, bx b_12 47 (bkL (gB p1.bs k)) true, bx b_8 38 (itL (gI p1.its k)) true, bx b_1 32 (plL p1) true] [alK Be (gE p1.es k).al, plnK p1]) 14 14 HP wide_follows rfl fun w_73 HP => ?_
    refine An.val H (HP) 0 160 (plV p1) rfl (by kernel_rfl) (by kernel_rfl) (fun _ _ _ h => h) (fun _ hS => ex_loadN (vs := (plL p1)) (by kernel_rfl) (by kernel_rfl) (by kernel_rfl) rfl (hS.cells 3 rfl 0 13 (by kernel_rfl))) fun a H => ?_
    refine An.p H (.inr HP) 1 161 (pt b_1 10) fun a H => ?_
    refine An.val H (HP) 2 162 (.slice p1.EA p1.es.length p1.ec) rfl (by kernel_rfl) (by kernel_rfl) (fun _ _ _ h => h) (fun _ hS => ex_l1 (hS.cell 3 rfl 10 rfl)) fun a H => ?_
    refine An.p H (.inr HP) 3 163 (ii i3) fun a H => ?_
    refine An.pure H (.inr (HP)) 4 164 (.pointer (some ⟨bu_67, ou_68 + i3 * 7, none⟩)) rfl (by kernel_rfl) (by kernel_rfl) (fun _ _ _ h => h) (fun _ => ex_indexA (b := bu_67) (off := ou_68) (len := p1.es.length) (cap := p1.ec) (e := 43) (k := 7) (ik := .i64) (i := (i3 : Int)) (m := i3) hA_69 (by kernel_rfl) (by kernel_rfl) (by omega) (by omega) (by kernel_rfl) (by kernel_rfl)) fun a H => ?_
    refine An.p H (.inr HP) 5 165 (.pointer (some ⟨bu_67, ou_68 + i3 * 7, none⟩)) fun a H => ?_
    refine An.val H (HP) 6 166 (ii x_66.id) rfl (by kernel_rfl) (by kernel_rfl) (fun _ _ _ h => h) (fun _ hS => ex_l1 (IsRow.cells enC_size ((hS.fact 1 rfl : IsPln _ p1).es.row) hA_69 hx_70 0 _ rfl)) fun a H => ?_
    refine An.two 7 11 (by kernel_rfl) ?_ ?_
    ·refine Op.call H 167 rfl (by kernel_rfl) (Eq.trans (by kernel_rfl : _ = (callFunc 20 #[(plV p1), (ii x_66.id)]).run Tryz.prog w_73) (Tryz.call20 _ _)) ((by have hh := entry_any p1 x_66.id w_73 (HP.fact 1 rfl : IsPln _ p1) (small_gE hsm_p1 _); rw [g3.1, g3.2] at hh; exact hh)) ?_
     rintro e w_74 ⟨Be2, cBe2, rfl, ⟨hrBe2, hnBe2⟩, hb⟩
     refine ⟨_, rfl, ?_⟩
     intro a H
     have HP := HP.keepA hb Be2 x_66.al hrBe2 hnBe2
     refine ⟨.inr (HP.untop), ?_⟩
     refine An.pure H (.inr (HP.untop)) 8 159 (.tuple #[(.agg #[(ii x_66.id), (ii x_66.item), (ii x_66.frames), (ii x_66.earliest), (ii x_66.latest), (ii x_66.booking), (.slice Be2 x_66.al.length cBe2)]), (.bool true)]) rfl (by kernel_rfl) (by kernel_rfl) (fun _ _ _ h => h) (fun _ => by kernel_rfl) fun a H => ?_
     refine An.pure H (.inr (HP.untop)) 9 168 (.agg #[(ii x_66.id), (ii x_66.item), (ii x_66.frames), (ii x_66.earliest), (ii x_66.latest), (ii x_66.booking), (.slice Be2 x_66.al.length cBe2)]) rfl (by kernel_rfl) (by kernel_rfl) (fun _ _ _ h => h) (fun _ => by kernel_rfl) fun a H => ?_
     refine An.p H (.inr (HP.untop)) 10 169 (.bool true) fun a H => ?_
     refine An.one 11 (by kernel_rfl) ?_
     refine Op.alloc H HP 21 (fun b => (pt b 0)) 43 [(ii 0), (ii 0), (ii 0), (ii 0), (ii 0), (ii 0), (.slice none 0 0)] rfl (by kernel_rfl) (fun w => by kernel_rfl) fun b_75 w_76 a H HP => ?_
     refine ⟨.inr ((HP.tail rfl).untop), ?_⟩
     refine An.one 12 (by kernel_rfl) ?_
     refine Op.store H HP 0 b_75 0 7 43 [(ii 0), (ii 0), (ii 0), (ii 0), (ii 0), (ii 0), (.slice none 0 0)] true (.agg #[(ii x_66.id), (ii x_66.item), (ii x_66.frames), (ii x_66.earliest), (ii x_66.latest), (ii x_66.booking), (.slice Be2 x_66.al.length cBe2)]) [bx b_75 43 [(ii x_66.id), (ii x_66.item), (ii x_66.frames), (ii x_66.earliest), (ii x_66.latest), (ii x_66.booking), (.slice Be2 x_66.al.length cBe2)] true, bx b_16 43 [(ii ((gE p1.es k).id)), (ii ((gE p1.es k).item)), (ii ((gE p1.es k).frames)), (ii ((gE p1.es k).earliest)), (ii ((gE p1.es k).latest)), (ii ((gE p1.es k).booking)), (.slice Be ((gE p1.es k).al.length) cBe)] true, bx b_12 47 (bkL (gB p1.bs k)) true, bx b_8 38 (itL (gI p1.its k)) true, bx b_1 32 (plL p1) true] rfl (by kernel_rfl) (by kernel_rfl) (by kernel_rfl) rfl (by kernel_rfl) (by kernel_rfl) (by kernel_rfl) (by kernel_rfl) (by kernel_rfl) fun w_77 a H HP => ?_
     refine ⟨.inr ((HP.tail rfl).untop), ?_⟩
     refine An.p H (.inr ((HP.tail rfl).untop)) 13 22 (.bool true) fun a H => ?_
     refine An.done (by kernel_rfl) ?_
     refine then_normal (wp_seq (w_region ?_))
     refine H.u 171 (plV p1) (ex_loadN (vs := (plL p1)) (by kernel_rfl) (by kernel_rfl) (by kernel_rfl) rfl (HP.cells 4 rfl 0 13 (by kernel_rfl))) fun a H => ?_
     refine H.v 172 (pt b_75 1) fun a H => ?_
     refine H.u 173 (ii x_66.item) (ex_l1 (HP.cell 0 rfl 1 rfl)) fun a H => ?_
     refine H.call 174 (by kernel_rfl) (Eq.trans (by kernel_rfl : _ = (callFunc 18 #[(plV p1), (ii x_66.item)]).run Tryz.prog w_77) (Tryz.call18 _ _)) ((by have hh := item_any p1 x_66.item w_77 (HP.fact 2 rfl : IsPln _ p1); rw [g4] at hh; exact hh)) ?_
     rintro e w_78 ⟨rfl, hb⟩
     refine ⟨_, rfl, ?_⟩
     intro a H
     have HP := HP.next hb
     refine H.v 170 (.tuple #[(itV (gI p1.its x_66.item)), (.bool true)]) fun a H => ?_
     refine H.v 175 (itV (gI p1.its x_66.item)) fun a H => ?_
     refine H.v 176 (.bool true) fun a H => ?_
     refine H.alloc HP 23 (fun b => (pt b 0)) 38 [(ii 0), (ii 0), (ii 0), (ii 0), (ii 0)] (by kernel_rfl) (fun w => by kernel_rfl) fun b_79 w_80 a H HP => ?_
     refine H.store HP 0 b_79 0 5 38 _ true (itV (gI p1.its x_66.item)) [bx b_79 38 (itL (gI p1.its x_66.item)) true, bx b_75 43 [(ii x_66.id), (ii x_66.item), (ii x_66.frames), (ii x_66.earliest), (ii x_66.latest), (ii x_66.booking), (.slice Be2 x_66.al.length cBe2)] true, bx b_16 43 [(ii ((gE p1.es k).id)), (ii ((gE p1.es k).item)), (ii ((gE p1.es k).frames)), (ii ((gE p1.es k).earliest)), (ii ((gE p1.es k).latest)), (ii ((gE p1.es k).booking)), (.slice Be ((gE p1.es k).al.length) cBe)] true, bx b_12 47 (bkL (gB p1.bs k)) true, bx b_8 38 (itL (gI p1.its k)) true, bx b_1 32 (plL p1) true] (by kernel_rfl) (by kernel_rfl) (by kernel_rfl) rfl (by kernel_rfl) (by kernel_rfl) (by kernel_rfl) (by kernel_rfl) (by kernel_rfl) fun w_81 a H HP => ?_
     refine H.v 24 (.bool true) fun a H => ?_
     refine wpList_nil (then_normal (wp_seq (w_region ?_)))
     refine H.u 178 (plV p1) (ex_loadN (vs := (plL p1)) (by kernel_rfl) (by kernel_rfl) (by kernel_rfl) rfl (HP.cells 5 rfl 0 13 (by kernel_rfl))) fun a H => ?_
     refine H.v 179 (pt b_75 5) fun a H => ?_
     refine H.u 180 (ii x_66.booking) (ex_l1 (HP.cell 1 rfl 5 rfl)) fun a H => ?_
     refine H.call 181 (by kernel_rfl) (Eq.trans (by kernel_rfl : _ = (callFunc 22 #[(plV p1), (ii x_66.booking)]).run Tryz.prog w_81) (Tryz.call22 _ _)) (booking_any p1 x_66.booking w_81 (HP.fact 2 rfl : IsPln _ p1)) ?_
     rintro e w_82 ⟨rfl, hb⟩
     refine ⟨_, rfl, ?_⟩
     intro a H
     have HP := HP.next hb
     refine H.v 177 (.tuple #[(bkV (gB p1.bs x_66.booking)), (.bool (hB p1.bs x_66.booking))]) fun a H => ?_
     refine H.v 182 (bkV (gB p1.bs x_66.booking)) fun a H => ?_
     refine H.v 183 (.bool (hB p1.bs x_66.booking)) fun a H => ?_
     refine H.alloc HP 25 (fun b => (pt b 0)) 47 [(ii 0), (ii 0), (ii 0), (ii 0), (ii 0), (ii 0), (ii 0)] (by kernel_rfl) (fun w => by kernel_rfl) fun b_83 w_84 a H HP => ?_
     refine H.store HP 0 b_83 0 7 47 _ true (bkV (gB p1.bs x_66.booking)) [bx b_83 47 (bkL (gB p1.bs x_66.booking)) true, bx b_79 38 (itL (gI p1.its x_66.item)) true, bx b_75 43 [(ii x_66.id), (ii x_66.item), (ii x_66.frames), (ii x_66.earliest), (ii x_66.latest), (ii x_66.booking), (.slice Be2 x_66.al.length cBe2)] true, bx b_16 43 [(ii ((gE p1.es k).id)), (ii ((gE p1.es k).item)), (ii ((gE p1.es k).frames)), (ii ((gE p1.es k).earliest)), (ii ((gE p1.es k).latest)), (ii ((gE p1.es k).booking)), (.slice Be ((gE p1.es k).al.length) cBe)] true, bx b_12 47 (bkL (gB p1.bs k)) true, bx b_8 38 (itL (gI p1.its k)) true, bx b_1 32 (plL p1) true] (by kernel_rfl) (by kernel_rfl) (by kernel_rfl) rfl (by kernel_rfl) (by kernel_rfl) (by kernel_rfl) (by kernel_rfl) (by kernel_rfl) fun w_85 a H HP => ?_
     refine H.v 26 (.bool (hB p1.bs x_66.booking)) fun a H => ?_
     refine wpList_nil (then_normal (wp_seq ?_))
     refine An.start (fun v => Hp w v [bx b_83 47 (bkL (gB p1.bs x_66.booking)) true, bx b_79 38 (itL (gI p1.its x_66.item)) true, bx b_75 43 [(ii x_66.id), (ii x_66.item), (ii x_66.frames), (ii x_66.earliest), (ii x_66.latest), (ii x_66.booking), (.slice Be2 x_66.al.length cBe2)] true, bx b_16 43 [(ii ((gE p1.es k).id)), (ii ((gE p1.es k).item)), (ii ((gE p1.es k).frames)), (ii ((gE p1.es k).earliest)), (ii ((gE p1.es k).latest)), (ii ((gE p1.es k).booking)), (.slice Be ((gE p1.es k).al.length) cBe)] true, bx b_12 47 (bkL (gB p1.bs k)) true, bx b_8 38 (itL (gI p1.its k)) true, bx b_1 32 (plL p1) true] [alK Be2 x_66.al, alK Be (gE p1.es k).al, plnK p1]) 8 8 HP wide_follows rfl fun w_86 HP => ?_
     refine An.val H (HP) 0 184 (.agg #[(ii x_66.id), (ii x_66.item), (ii x_66.frames), (ii x_66.earliest), (ii x_66.latest), (ii x_66.booking), (.slice Be2 x_66.al.length cBe2)]) rfl (by kernel_rfl) (by kernel_rfl) (fun _ _ _ h => h) (fun _ hS => ex_loadN (vs := [(ii x_66.id), (ii x_66.item), (ii x_66.frames), (ii x_66.earliest), (ii x_66.latest), (ii x_66.booking), (.slice Be2 x_66.al.length cBe2)]) (by kernel_rfl) (by kernel_rfl) (by kernel_rfl) rfl (hS.cells 2 rfl 0 7 (by kernel_rfl))) fun a H => ?_
     refine An.p H (.inr HP) 1 185 (pt b_1 10) fun a H => ?_
     refine An.val H (HP) 2 186 (.slice p1.EA p1.es.length p1.ec) rfl (by kernel_rfl) (by kernel_rfl) (fun _ _ _ h => h) (fun _ hS => ex_l1 (hS.cell 6 rfl 10 rfl)) fun a H => ?_
     refine An.p H (.inr HP) 3 187 (ii i3) fun a H => ?_
     refine An.pure H (.inr (HP)) 4 188 (.pointer (some ⟨bu_67, ou_68 + i3 * 7, none⟩)) rfl (by kernel_rfl) (by kernel_rfl) (fun _ _ _ h => h) (fun _ => ex_indexA (b := bu_67) (off := ou_68) (len := p1.es.length) (cap := p1.ec) (e := 43) (k := 7) (ik := .i64) (i := (i3 : Int)) (m := i3) hA_69 (by kernel_rfl) (by kernel_rfl) (by omega) (by omega) (by kernel_rfl) (by kernel_rfl)) fun a H => ?_
     refine An.val H (HP) 5 189 (enV x_66) rfl (by kernel_rfl) (by kernel_rfl) (fun _ _ _ h => h) (fun _ hS => ex_loadN (b := bu_67) (off := ou_68 + i3 * 7) (vs := (enL x_66)) (by kernel_rfl) (by kernel_rfl) (by kernel_rfl) rfl (IsRow.cells enC_size ((hS.fact 2 rfl : IsPln _ p1).es.row) hA_69 hx_70)) fun a H => ?_
     refine An.one 6 (by kernel_rfl) ?_
     refine Op.call H 190 rfl (by kernel_rfl) (Eq.trans (by kernel_rfl : _ = (callFunc 24 #[(.agg #[(ii x_66.id), (ii x_66.item), (ii x_66.frames), (ii x_66.earliest), (ii x_66.latest), (ii x_66.booking), (.slice Be2 x_66.al.length cBe2)]), (enV x_66)]).run Tryz.prog w_86) (Tryz.call24 _ _)) ((by have hh := rsameE_any ({ x_66 with A := Be2, c := cBe2 } : Ent) x_66 w_86 ⟨HP.fact 0 rfl, ((HP.fact 2 rfl : IsPln _ p1).es.ok _ hm_72).2⟩ ((HP.fact 2 rfl : IsPln _ p1).es.ok _ hm_72); rw [show decide (({ x_66 with A := Be2, c := cBe2 } : Ent).nv = x_66.nv) = true from decide_eq_true rfl] at hh; exact hh)) ?_
     rintro e w_87 ⟨rfl, hb⟩
     refine ⟨_, rfl, ?_⟩
     intro a H
     have HP := HP.next hb
     refine ⟨.inr (HP), ?_⟩
     refine An.p H (.inr HP) 7 27 (.bool true) fun a H => ?_
     refine An.done (by kernel_rfl) ?_
     refine then_normal (wp_seq ?_)
     refine w_cut (fun a wv => Sl 273 [(221, (.bool false)), (27, (.bool true)), (190, (.bool true)), (189, (enV x_66)), (188, (.pointer (some ⟨bu_67, ou_68 + i3 * 7, none⟩))), (187, (ii i3)), (186, (.slice p1.EA p1.es.length p1.ec)), (185, (pt b_1 10)), (184, (.agg #[(ii x_66.id), (ii x_66.item), (ii x_66.frames), (ii x_66.earliest), (ii x_66.latest), (ii x_66.booking), (.slice Be2 x_66.al.length cBe2)])), (26, (.bool (hB p1.bs x_66.booking))), (25, (pt b_83 0)), (183, (.bool (hB p1.bs x_66.booking))), (182, (bkV (gB p1.bs x_66.booking))), (177, (.tuple #[(bkV (gB p1.bs x_66.booking)), (.bool (hB p1.bs x_66.booking))])), (181, (.tuple #[(bkV (gB p1.bs x_66.booking)), (.bool (hB p1.bs x_66.booking))])), (180, (ii x_66.booking)), (179, (pt b_75 5)), (178, (plV p1)), (24, (.bool true)), (23, (pt b_79 0)), (176, (.bool true)), (175, (itV (gI p1.its x_66.item))), (170, (.tuple #[(itV (gI p1.its x_66.item)), (.bool true)])), (174, (.tuple #[(itV (gI p1.its x_66.item)), (.bool true)])), (173, (ii x_66.item)), (172, (pt b_75 1)), (171, (plV p1)), (22, (.bool true)), (21, (pt b_75 0)), (169, (.bool true)), (168, (.agg #[(ii x_66.id), (ii x_66.item), (ii x_66.frames), (ii x_66.earliest), (ii x_66.latest), (ii x_66.booking), (.slice Be2 x_66.al.length cBe2)])), (159, (.tuple #[(.agg #[(ii x_66.id), (ii x_66.item), (ii x_66.frames), (ii x_66.earliest), (ii x_66.latest), (ii x_66.booking), (.slice Be2 x_66.al.length cBe2)]), (.bool true)])), (167, (.tuple #[(.agg #[(ii x_66.id), (ii x_66.item), (ii x_66.frames), (ii x_66.earliest), (ii x_66.latest), (ii x_66.booking), (.slice Be2 x_66.al.length cBe2)]), (.bool true)])), (166, (ii x_66.id)), (165, (.pointer (some ⟨bu_67, ou_68 + i3 * 7, none⟩))), (164, (.pointer (some ⟨bu_67, ou_68 + i3 * 7, none⟩))), (163, (ii i3)), (162, (.slice p1.EA p1.es.length p1.ec)), (161, (pt b_1 10)), (160, (plV p1)), (156, (.bool (decide ((i3 : Int) < (p1.es.length : Int))))), (155, (ii p1.es.length)), (154, (.slice p1.EA p1.es.length p1.ec)), (153, (pt b_1 10)), (152, (ii i3)), (20, (ii i3)), (11, (.bool (fndE p1.es k i3))), (100, (.bool (decide ((i2 : Int) < (p1.bs.length : Int))))), (99, (ii p1.bs.length)), (98, (.slice p1.BA p1.bs.length p1.bc)), (97, (pt b_1 11)), (96, (ii i2)), (15, (ii i2)), (9, (.bool (fndB p1.bs k i2))), (60, (.bool (decide ((i1 : Int) < (p1.its.length : Int))))), (59, (ii p1.its.length)), (58, (.slice p1.IA p1.its.length p1.ic)), (57, (pt b_1 9)), (56, (ii i1)), (12, (ii i1)), (7, (.bool (fndI p1.its k i1))), (10, (pt b_16 0)), (55, (.bool (hE p1.es k))), (54, (.agg #[(ii ((gE p1.es k).id)), (ii ((gE p1.es k).item)), (ii ((gE p1.es k).frames)), (ii ((gE p1.es k).earliest)), (ii ((gE p1.es k).latest)), (ii ((gE p1.es k).booking)), (.slice Be ((gE p1.es k).al.length) cBe)])), (50, (.tuple #[(.agg #[(ii ((gE p1.es k).id)), (ii ((gE p1.es k).item)), (ii ((gE p1.es k).frames)), (ii ((gE p1.es k).earliest)), (ii ((gE p1.es k).latest)), (ii ((gE p1.es k).booking)), (.slice Be ((gE p1.es k).al.length) cBe)]), (.bool (hE p1.es k))])), (53, (.tuple #[(.agg #[(ii ((gE p1.es k).id)), (ii ((gE p1.es k).item)), (ii ((gE p1.es k).frames)), (ii ((gE p1.es k).earliest)), (ii ((gE p1.es k).latest)), (ii ((gE p1.es k).booking)), (.slice Be ((gE p1.es k).al.length) cBe)]), (.bool (hE p1.es k))])), (52, (ii k)), (51, (plV p1)), (8, (pt b_12 0)), (49, (.bool (hB p1.bs k))), (48, (bkV (gB p1.bs k))), (44, (.tuple #[(bkV (gB p1.bs k)), (.bool (hB p1.bs k))])), (47, (.tuple #[(bkV (gB p1.bs k)), (.bool (hB p1.bs k))])), (46, (ii k)), (45, (plV p1)), (6, (pt b_8 0)), (43, (.bool (hI p1.its k))), (42, (itV (gI p1.its k))), (38, (.tuple #[(itV (gI p1.its k)), (.bool (hI p1.its k))])), (41, (.tuple #[(itV (gI p1.its k)), (.bool (hI p1.its k))])), (40, (ii k)), (39, (plV p1)), (36, (.bool false)), (35, (.bool true)), (34, (plV p1)), (33, (plV p1)), (32, (plV p)), (5, (.bool true)), (31, (.bool true)), (2, (pt b_1 0)), (0, (plV p)), (1, (ii k))] a ∧ Hp w wv [bx b_83 47 (bkL (gB p1.bs x_66.booking)) true, bx b_79 38 (itL (gI p1.its x_66.item)) true, bx b_75 43 [(ii x_66.id), (ii x_66.item), (ii x_66.frames), (ii x_66.earliest), (ii x_66.latest), (ii x_66.booking), (.slice Be2 x_66.al.length cBe2)] true, bx b_16 43 [(ii ((gE p1.es k).id)), (ii ((gE p1.es k).item)), (ii ((gE p1.es k).frames)), (ii ((gE p1.es k).earliest)), (ii ((gE p1.es k).latest)), (ii ((gE p1.es k).booking)), (.slice Be ((gE p1.es k).al.length) cBe)] true, bx b_12 47 (bkL (gB p1.bs k)) true, bx b_8 38 (itL (gI p1.its k)) true, bx b_1 32 (plL p1) true] [alK Be2 x_66.al, alK Be (gE p1.es k).al, plnK p1]) ?_ ?_
     ·
      refine w_region ?_
      refine H.v 191 (.bool true) fun a H => ?_
      refine H.v 192 (.bool false) fun a H => ?_
      refine H.v 193 (.bool false) fun a H => ?_
      refine H.v 194 (.bool true) fun a H => ?_
      refine H.v 195 (.bool false) fun a H => ?_
      refine H.v 196 (.bool false) fun a H => ?_
      refine H.v 197 (.bool false) fun a H => ?_
      refine H.v 198 (.bool true) fun a H => ?_
      refine H.v 199 (.bool false) fun a H => ?_
      refine H.v 200 (.bool false) fun a H => ?_
      refine H.v 201 (.bool false) fun a H => ?_
      refine H.v 202 (pt b_79 1) fun a H => ?_
      refine H.u 203 (ii ((gI p1.its x_66.item).kind)) (ex_l1 (HP.cell 1 rfl 1 rfl)) fun a H => ?_
      refine H.valE 204 (.bool (((gI p1.its x_66.item).kind) == 5)) (.bool false) (by kernel_rfl) (by kernel_rfl) ((congrArg Value.bool (beq_eq_false_iff_ne.2 g5))) fun a H => ?_
      refine H.v 205 (.bool false) fun a H => ?_
      refine H.v 206 (.bool false) fun a H => ?_
      refine H.v 207 (pt b_75 2) fun a H => ?_
      refine H.u 208 (ii x_66.frames) (ex_l1 (HP.cell 2 rfl 2 rfl)) fun a H => ?_
      refine H.v 209 (pt b_79 2) fun a H => ?_
      refine H.u 210 (ii ((gI p1.its x_66.item).frames)) (ex_l1 (HP.cell 1 rfl 2 rfl)) fun a H => ?_
      refine H.valE 211 (.bool (decide (x_66.frames > ((gI p1.its x_66.item).frames)))) (.bool false) (by kernel_rfl) (by kernel_rfl) ((congrArg Value.bool (decide_eq_false (Int.not_lt.2 g6)))) fun a H => ?_
      refine H.v 212 (.bool false) fun a H => ?_
      refine H.v 213 (.bool false) fun a H => ?_
      refine H.v 214 (.bool (hB p1.bs x_66.booking)) fun a H => ?_
      refine H.v 215 (.bool (!(hB p1.bs x_66.booking))) fun a H => ?_
      refine H.v 216 (.bool (!(hB p1.bs x_66.booking))) fun a H => ?_
      refine H.split 216 rfl (fun g216 H => ?_) (fun g216 H => ?_)
      ·have g216p := not_is_true g216
       refine H.v 217 (pt b_75 5) fun a H => ?_
       refine H.u 218 (ii x_66.booking) (ex_l1 (HP.cell 2 rfl 5 rfl)) fun a H => ?_
       refine H.valE 219 (.bool (x_66.booking != 0)) (.bool false) (by kernel_rfl) (by kernel_rfl) ((congrArg Value.bool (by have h7 := g7h.out; exact h7.elim (fun h7 => by rw [h7]; rfl) (fun h7 => absurd h7 (by rw [(not_is_true g216 : _)]; decide))))) fun a H => ?_
       refine H.v 220 (.bool false) fun a H => ?_
       refine H.v 221 (.bool false) fun a H => ?_
       refine wpList_nil (then_normal ?_)
       exact ⟨H.keep (by kernel_rfl), HP⟩
      ·have g216p := not_is_false g216
       iterate 3 refine H.sx rfl fun a H => ?_
       refine H.v 220 (.bool false) fun a H => ?_
       refine H.v 221 (.bool false) fun a H => ?_
       refine wpList_nil (then_normal ?_)
       exact ⟨H.keep (by kernel_rfl), HP⟩
     ·
      rintro a w_88 ⟨H, HP⟩
      refine w_iff H rfl ?_
      refine wp_skip (then_normal (wp_seq (wp_seq (w_region ?_))))
      refine H.v 28 (ii 0) fun a H => ?_
      refine wpList_nil (then_normal (wp_block ?_))
      refine w_loop (fun mm a wv => ∃ (j : Nat), x_66.al.length - j = mm ∧ Sl 273 [(28, (ii j)), (221, (.bool false)), (27, (.bool true)), (190, (.bool true)), (189, (enV x_66)), (188, (.pointer (some ⟨bu_67, ou_68 + i3 * 7, none⟩))), (187, (ii i3)), (186, (.slice p1.EA p1.es.length p1.ec)), (185, (pt b_1 10)), (184, (.agg #[(ii x_66.id), (ii x_66.item), (ii x_66.frames), (ii x_66.earliest), (ii x_66.latest), (ii x_66.booking), (.slice Be2 x_66.al.length cBe2)])), (26, (.bool (hB p1.bs x_66.booking))), (25, (pt b_83 0)), (183, (.bool (hB p1.bs x_66.booking))), (182, (bkV (gB p1.bs x_66.booking))), (177, (.tuple #[(bkV (gB p1.bs x_66.booking)), (.bool (hB p1.bs x_66.booking))])), (181, (.tuple #[(bkV (gB p1.bs x_66.booking)), (.bool (hB p1.bs x_66.booking))])), (180, (ii x_66.booking)), (179, (pt b_75 5)), (178, (plV p1)), (24, (.bool true)), (23, (pt b_79 0)), (176, (.bool true)), (175, (itV (gI p1.its x_66.item))), (170, (.tuple #[(itV (gI p1.its x_66.item)), (.bool true)])), (174, (.tuple #[(itV (gI p1.its x_66.item)), (.bool true)])), (173, (ii x_66.item)), (172, (pt b_75 1)), (171, (plV p1)), (22, (.bool true)), (21, (pt b_75 0)), (169, (.bool true)), (168, (.agg #[(ii x_66.id), (ii x_66.item), (ii x_66.frames), (ii x_66.earliest), (ii x_66.latest), (ii x_66.booking), (.slice Be2 x_66.al.length cBe2)])), (159, (.tuple #[(.agg #[(ii x_66.id), (ii x_66.item), (ii x_66.frames), (ii x_66.earliest), (ii x_66.latest), (ii x_66.booking), (.slice Be2 x_66.al.length cBe2)]), (.bool true)])), (167, (.tuple #[(.agg #[(ii x_66.id), (ii x_66.item), (ii x_66.frames), (ii x_66.earliest), (ii x_66.latest), (ii x_66.booking), (.slice Be2 x_66.al.length cBe2)]), (.bool true)])), (166, (ii x_66.id)), (165, (.pointer (some ⟨bu_67, ou_68 + i3 * 7, none⟩))), (164, (.pointer (some ⟨bu_67, ou_68 + i3 * 7, none⟩))), (163, (ii i3)), (162, (.slice p1.EA p1.es.length p1.ec)), (161, (pt b_1 10)), (160, (plV p1)), (156, (.bool (decide ((i3 : Int) < (p1.es.length : Int))))), (155, (ii p1.es.length)), (154, (.slice p1.EA p1.es.length p1.ec)), (153, (pt b_1 10)), (152, (ii i3)), (20, (ii i3)), (11, (.bool (fndE p1.es k i3))), (100, (.bool (decide ((i2 : Int) < (p1.bs.length : Int))))), (99, (ii p1.bs.length)), (98, (.slice p1.BA p1.bs.length p1.bc)), (97, (pt b_1 11)), (96, (ii i2)), (15, (ii i2)), (9, (.bool (fndB p1.bs k i2))), (60, (.bool (decide ((i1 : Int) < (p1.its.length : Int))))), (59, (ii p1.its.length)), (58, (.slice p1.IA p1.its.length p1.ic)), (57, (pt b_1 9)), (56, (ii i1)), (12, (ii i1)), (7, (.bool (fndI p1.its k i1))), (10, (pt b_16 0)), (55, (.bool (hE p1.es k))), (54, (.agg #[(ii ((gE p1.es k).id)), (ii ((gE p1.es k).item)), (ii ((gE p1.es k).frames)), (ii ((gE p1.es k).earliest)), (ii ((gE p1.es k).latest)), (ii ((gE p1.es k).booking)), (.slice Be ((gE p1.es k).al.length) cBe)])), (50, (.tuple #[(.agg #[(ii ((gE p1.es k).id)), (ii ((gE p1.es k).item)), (ii ((gE p1.es k).frames)), (ii ((gE p1.es k).earliest)), (ii ((gE p1.es k).latest)), (ii ((gE p1.es k).booking)), (.slice Be ((gE p1.es k).al.length) cBe)]), (.bool (hE p1.es k))])), (53, (.tuple #[(.agg #[(ii ((gE p1.es k).id)), (ii ((gE p1.es k).item)), (ii ((gE p1.es k).frames)), (ii ((gE p1.es k).earliest)), (ii ((gE p1.es k).latest)), (ii ((gE p1.es k).booking)), (.slice Be ((gE p1.es k).al.length) cBe)]), (.bool (hE p1.es k))])), (52, (ii k)), (51, (plV p1)), (8, (pt b_12 0)), (49, (.bool (hB p1.bs k))), (48, (bkV (gB p1.bs k))), (44, (.tuple #[(bkV (gB p1.bs k)), (.bool (hB p1.bs k))])), (47, (.tuple #[(bkV (gB p1.bs k)), (.bool (hB p1.bs k))])), (46, (ii k)), (45, (plV p1)), (6, (pt b_8 0)), (43, (.bool (hI p1.its k))), (42, (itV (gI p1.its k))), (38, (.tuple #[(itV (gI p1.its k)), (.bool (hI p1.its k))])), (41, (.tuple #[(itV (gI p1.its k)), (.bool (hI p1.its k))])), (40, (ii k)), (39, (plV p1)), (36, (.bool false)), (35, (.bool true)), (34, (plV p1)), (33, (plV p1)), (32, (plV p)), (5, (.bool true)), (31, (.bool true)), (2, (pt b_1 0)), (0, (plV p)), (1, (ii k))] a ∧ Hp w wv [bx b_83 47 (bkL (gB p1.bs x_66.booking)) true, bx b_79 38 (itL (gI p1.its x_66.item)) true, bx b_75 43 [(ii x_66.id), (ii x_66.item), (ii x_66.frames), (ii x_66.earliest), (ii x_66.latest), (ii x_66.booking), (.slice Be2 x_66.al.length cBe2)] true, bx b_16 43 [(ii ((gE p1.es k).id)), (ii ((gE p1.es k).item)), (ii ((gE p1.es k).frames)), (ii ((gE p1.es k).earliest)), (ii ((gE p1.es k).latest)), (ii ((gE p1.es k).booking)), (.slice Be ((gE p1.es k).al.length) cBe)] true, bx b_12 47 (bkL (gB p1.bs k)) true, bx b_8 38 (itL (gI p1.its k)) true, bx b_1 32 (plL p1) true] [alK Be2 x_66.al, alK Be (gE p1.es k).al, plnK p1] ∧ (j ≤ x_66.al.length)) (x_66.al.length - 0) ?_ ?_
      ·exact ⟨0, (by omega), H.keep (by kernel_rfl), HP, (Nat.zero_le _)⟩
      rintro mm a w_89 ⟨j, hmeas, H, HP, hjb⟩
      refine wp_seq (wp_seq (w_region ?_))
      refine H.v 222 (ii j) fun a H => ?_
      refine H.v 223 (pt b_75 6) fun a H => ?_
      refine H.u 224 (.slice Be2 x_66.al.length cBe2) (ex_l1 (HP.cell 2 rfl 6 rfl)) fun a H => ?_
      refine H.v 225 (ii x_66.al.length) fun a H => ?_
      refine H.v 226 (.bool (decide ((j : Int) < (x_66.al.length : Int)))) fun a H => ?_
      refine wpList_nil (then_normal ?_)
      refine w_if H rfl (fun g226 => ?_) (fun g226 => ?_)
      ·have g226p := of_decide_eq_true g226
       refine wp_skip (then_normal (wp_seq (wp_block (wp_seq ?_))))
       obtain ⟨bu_91, ou_92, x_90, hA_93, _, hd_95, hx_94, hm_96, _⟩ := IsRow.get altC_size ((HP.fact 0 rfl : IsAl _ Be2 x_66.al)) (i := j) (by omega)
       have g9 := g8 x_90 hm_96
       refine An.start (fun v => Hp w v [bx b_83 47 (bkL (gB p1.bs x_66.booking)) true, bx b_79 38 (itL (gI p1.its x_66.item)) true, bx b_75 43 [(ii x_66.id), (ii x_66.item), (ii x_66.frames), (ii x_66.earliest), (ii x_66.latest), (ii x_66.booking), (.slice Be2 x_66.al.length cBe2)] true, bx b_16 43 [(ii ((gE p1.es k).id)), (ii ((gE p1.es k).item)), (ii ((gE p1.es k).frames)), (ii ((gE p1.es k).earliest)), (ii ((gE p1.es k).latest)), (ii ((gE p1.es k).booking)), (.slice Be ((gE p1.es k).al.length) cBe)] true, bx b_12 47 (bkL (gB p1.bs k)) true, bx b_8 38 (itL (gI p1.its k)) true, bx b_1 32 (plL p1) true] [alK Be2 x_66.al, alK Be (gE p1.es k).al, plnK p1]) 14 14 HP wide_follows rfl fun w_97 HP => ?_
       refine An.val H (HP) 0 230 (plV p1) rfl (by kernel_rfl) (by kernel_rfl) (fun _ _ _ h => h) (fun _ hS => ex_loadN (vs := (plL p1)) (by kernel_rfl) (by kernel_rfl) (by kernel_rfl) rfl (hS.cells 6 rfl 0 13 (by kernel_rfl))) fun a H => ?_
       refine An.p H (.inr HP) 1 231 (pt b_75 6) fun a H => ?_
       refine An.val H (HP) 2 232 (.slice Be2 x_66.al.length cBe2) rfl (by kernel_rfl) (by kernel_rfl) (fun _ _ _ h => h) (fun _ hS => ex_l1 (hS.cell 2 rfl 6 rfl)) fun a H => ?_
       refine An.p H (.inr HP) 3 233 (ii j) fun a H => ?_
       refine An.pure H (.inr (HP)) 4 234 (.pointer (some ⟨bu_91, ou_92 + j * 2, none⟩)) rfl (by kernel_rfl) (by kernel_rfl) (fun _ _ _ h => h) (fun _ => ex_indexA (b := bu_91) (off := ou_92) (len := x_66.al.length) (cap := cBe2) (e := 62) (k := 2) (ik := .i64) (i := (j : Int)) (m := j) hA_93 (by kernel_rfl) (by kernel_rfl) (by omega) (by omega) (by kernel_rfl) (by kernel_rfl)) fun a H => ?_
       refine An.p H (.inr HP) 5 235 (.pointer (some ⟨bu_91, ou_92 + j * 2 + 1, none⟩)) fun a H => ?_
       refine An.val H (HP) 6 236 (ii x_90.2) rfl (by kernel_rfl) (by kernel_rfl) (fun _ _ _ h => h) (fun _ hS => ex_l1 (IsRow.cells altC_size ((hS.fact 0 rfl : IsAl _ Be2 x_66.al)) hA_93 hx_94 1 _ rfl)) fun a H => ?_
       refine An.two 7 11 (by kernel_rfl) ?_ ?_
       ·refine Op.call H 237 rfl (by kernel_rfl) (Eq.trans (by kernel_rfl : _ = (callFunc 18 #[(plV p1), (ii x_90.2)]).run Tryz.prog w_97) (Tryz.call18 _ _)) ((by have hh := item_any p1 x_90.2 w_97 (HP.fact 2 rfl : IsPln _ p1); rw [g9.1] at hh; exact hh)) ?_
        rintro e w_98 ⟨rfl, hb⟩
        refine ⟨_, rfl, ?_⟩
        intro a H
        have HP := HP.next hb
        refine ⟨.inr (HP), ?_⟩
        refine An.pure H (.inr (HP)) 8 229 (.tuple #[(itV (gI p1.its x_90.2)), (.bool true)]) rfl (by kernel_rfl) (by kernel_rfl) (fun _ _ _ h => h) (fun _ => by kernel_rfl) fun a H => ?_
        refine An.pure H (.inr (HP)) 9 238 (itV (gI p1.its x_90.2)) rfl (by kernel_rfl) (by kernel_rfl) (fun _ _ _ h => h) (fun _ => by kernel_rfl) fun a H => ?_
        refine An.p H (.inr HP) 10 239 (.bool true) fun a H => ?_
        refine An.one 11 (by kernel_rfl) ?_
        refine Op.alloc H HP 29 (fun b => (pt b 0)) 38 [(ii 0), (ii 0), (ii 0), (ii 0), (ii 0)] rfl (by kernel_rfl) (fun w => by kernel_rfl) fun b_99 w_100 a H HP => ?_
        refine ⟨.inr ((HP.tail rfl)), ?_⟩
        refine An.one 12 (by kernel_rfl) ?_
        refine Op.store H HP 0 b_99 0 5 38 [(ii 0), (ii 0), (ii 0), (ii 0), (ii 0)] true (itV (gI p1.its x_90.2)) [bx b_99 38 (itL (gI p1.its x_90.2)) true, bx b_83 47 (bkL (gB p1.bs x_66.booking)) true, bx b_79 38 (itL (gI p1.its x_66.item)) true, bx b_75 43 [(ii x_66.id), (ii x_66.item), (ii x_66.frames), (ii x_66.earliest), (ii x_66.latest), (ii x_66.booking), (.slice Be2 x_66.al.length cBe2)] true, bx b_16 43 [(ii ((gE p1.es k).id)), (ii ((gE p1.es k).item)), (ii ((gE p1.es k).frames)), (ii ((gE p1.es k).earliest)), (ii ((gE p1.es k).latest)), (ii ((gE p1.es k).booking)), (.slice Be ((gE p1.es k).al.length) cBe)] true, bx b_12 47 (bkL (gB p1.bs k)) true, bx b_8 38 (itL (gI p1.its k)) true, bx b_1 32 (plL p1) true] rfl (by kernel_rfl) (by kernel_rfl) (by kernel_rfl) rfl (by kernel_rfl) (by kernel_rfl) (by kernel_rfl) (by kernel_rfl) (by kernel_rfl) fun w_101 a H HP => ?_
        refine ⟨.inr ((HP.tail rfl)), ?_⟩
        refine An.p H (.inr ((HP.tail rfl))) 13 30 (.bool true) fun a H => ?_
        refine An.done (by kernel_rfl) ?_
        refine then_normal (wp_seq (w_region ?_))
        refine H.v 240 (.bool true) fun a H => ?_
        refine H.v 241 (.bool false) fun a H => ?_
        refine H.v 242 (.bool false) fun a H => ?_
        refine H.v 243 (pt b_99 2) fun a H => ?_
        refine H.u 244 (ii ((gI p1.its x_90.2).frames)) (ex_l1 (HP.cell 0 rfl 2 rfl)) fun a H => ?_
        refine H.v 245 (pt b_75 2) fun a H => ?_
        refine H.u 246 (ii x_66.frames) (ex_l1 (HP.cell 3 rfl 2 rfl)) fun a H => ?_
        refine H.valE 247 (.bool (((gI p1.its x_90.2).frames) != x_66.frames)) (.bool false) (by kernel_rfl) (by kernel_rfl) ((congrArg Value.bool (by rw [g9.2]; simp))) fun a H => ?_
        refine H.v 248 (.bool false) fun a H => ?_
        refine wpList_nil (then_normal ?_)
        refine w_iff H rfl ?_
        refine wp_skip (inb_normal (then_normal (w_region ?_)))
        refine H.v 227 (ii j) fun a H => ?_
        refine H.valE 228 (ii (IntKind.i64.wrap ((j : Int) + 1))) (ii ((j : Int) + 1)) (by kernel_rfl) (by kernel_rfl) ((by rw [wrap_ini64 _ (by omega)])) fun a H => ?_
        refine H.v 28 (ii ((j : Int) + 1)) fun a H => ?_
        refine wpList_nil (then_normal ?_)
        have H := H.as 28 (ii ((j + 1 : Nat) : Int)) rfl rfl
        refine ⟨_, ?_, j + 1, rfl, H.keep (by kernel_rfl), (HP.tail rfl), (by omega)⟩
        omega
       ·refine Op.alloc H HP 29 (fun b => (pt b 0)) 38 [(ii 0), (ii 0), (ii 0), (ii 0), (ii 0)] rfl (by kernel_rfl) (fun w => by kernel_rfl) fun b_102 w_103 a H HP => ?_
        refine ⟨.inr ((HP.tail rfl)), ?_⟩
        refine An.one 7 (by kernel_rfl) ?_
        refine Op.call H 237 rfl (by kernel_rfl) (Eq.trans (by kernel_rfl : _ = (callFunc 18 #[(plV p1), (ii x_90.2)]).run Tryz.prog w_103) (Tryz.call18 _ _)) ((by have hh := item_any p1 x_90.2 w_103 (HP.fact 2 rfl : IsPln _ p1); rw [g9.1] at hh; exact hh)) ?_
        rintro e w_104 ⟨rfl, hb⟩
        refine ⟨_, rfl, ?_⟩
        intro a H
        have HP := HP.next hb
        refine ⟨.inr ((HP.tail rfl)), ?_⟩
        refine An.pure H (.inr ((HP.tail rfl))) 8 229 (.tuple #[(itV (gI p1.its x_90.2)), (.bool true)]) rfl (by kernel_rfl) (by kernel_rfl) (fun _ _ _ h => h) (fun _ => by kernel_rfl) fun a H => ?_
        refine An.pure H (.inr ((HP.tail rfl))) 9 238 (itV (gI p1.its x_90.2)) rfl (by kernel_rfl) (by kernel_rfl) (fun _ _ _ h => h) (fun _ => by kernel_rfl) fun a H => ?_
        refine An.p H (.inr ((HP.tail rfl))) 10 239 (.bool true) fun a H => ?_
        refine An.one 12 (by kernel_rfl) ?_
        refine Op.store H HP 0 b_102 0 5 38 [(ii 0), (ii 0), (ii 0), (ii 0), (ii 0)] true (itV (gI p1.its x_90.2)) [bx b_102 38 (itL (gI p1.its x_90.2)) true, bx b_83 47 (bkL (gB p1.bs x_66.booking)) true, bx b_79 38 (itL (gI p1.its x_66.item)) true, bx b_75 43 [(ii x_66.id), (ii x_66.item), (ii x_66.frames), (ii x_66.earliest), (ii x_66.latest), (ii x_66.booking), (.slice Be2 x_66.al.length cBe2)] true, bx b_16 43 [(ii ((gE p1.es k).id)), (ii ((gE p1.es k).item)), (ii ((gE p1.es k).frames)), (ii ((gE p1.es k).earliest)), (ii ((gE p1.es k).latest)), (ii ((gE p1.es k).booking)), (.slice Be ((gE p1.es k).al.length) cBe)] true, bx b_12 47 (bkL (gB p1.bs k)) true, bx b_8 38 (itL (gI p1.its k)) true, bx b_1 32 (plL p1) true] rfl (by kernel_rfl) (by kernel_rfl) (by kernel_rfl) rfl (by kernel_rfl) (by kernel_rfl) (by kernel_rfl) (by kernel_rfl) (by kernel_rfl) fun w_105 a H HP => ?_
        refine ⟨.inr ((HP.tail rfl)), ?_⟩
        refine An.p H (.inr ((HP.tail rfl))) 13 30 (.bool true) fun a H => ?_
        refine An.done (by kernel_rfl) ?_
        refine then_normal (wp_seq (w_region ?_))
        refine H.v 240 (.bool true) fun a H => ?_
        refine H.v 241 (.bool false) fun a H => ?_
        refine H.v 242 (.bool false) fun a H => ?_
        refine H.v 243 (pt b_102 2) fun a H => ?_
        refine H.u 244 (ii ((gI p1.its x_90.2).frames)) (ex_l1 (HP.cell 0 rfl 2 rfl)) fun a H => ?_
        refine H.v 245 (pt b_75 2) fun a H => ?_
        refine H.u 246 (ii x_66.frames) (ex_l1 (HP.cell 3 rfl 2 rfl)) fun a H => ?_
        refine H.valE 247 (.bool (((gI p1.its x_90.2).frames) != x_66.frames)) (.bool false) (by kernel_rfl) (by kernel_rfl) ((congrArg Value.bool (by rw [g9.2]; simp))) fun a H => ?_
        refine H.v 248 (.bool false) fun a H => ?_
        refine wpList_nil (then_normal ?_)
        refine w_iff H rfl ?_
        refine wp_skip (inb_normal (then_normal (w_region ?_)))
        refine H.v 227 (ii j) fun a H => ?_
        refine H.valE 228 (ii (IntKind.i64.wrap ((j : Int) + 1))) (ii ((j : Int) + 1)) (by kernel_rfl) (by kernel_rfl) ((by rw [wrap_ini64 _ (by omega)])) fun a H => ?_
        refine H.v 28 (ii ((j : Int) + 1)) fun a H => ?_
        refine wpList_nil (then_normal ?_)
        have H := H.as 28 (ii ((j + 1 : Nat) : Int)) rfl rfl
        refine ⟨_, ?_, j + 1, rfl, H.keep (by kernel_rfl), (HP.tail rfl), (by omega)⟩
        omega
      ·have g226p := of_decide_eq_false g226
       refine wp_exit (then_exit (then_exit ?_))
       refine w_exit_here ?_
       refine then_normal (w_region ?_)
       refine H.v 249 (.bool (fndE p1.es k i3)) fun a H => ?_
       refine H.v 250 (.bool (fndE p1.es k i3)) fun a H => ?_
       refine H.split 250 rfl (fun g250 H => ?_) (fun g250 H => ?_)
       ·have g250p := g250
        refine H.v 251 (pt b_1 10) fun a H => ?_
        refine H.u 252 (.slice p1.EA p1.es.length p1.ec) (ex_l1 (HP.cell 6 rfl 10 rfl)) fun a H => ?_
        refine H.v 253 (ii i3) fun a H => ?_
        refine H.u 254 (.pointer (some ⟨bu_67, ou_68 + i3 * 7, none⟩)) (ex_indexA (b := bu_67) (off := ou_68) (len := p1.es.length) (cap := p1.ec) (e := 43) (k := 7) (ik := .i64) (i := (i3 : Int)) (m := i3) hA_69 (by kernel_rfl) (by kernel_rfl) (by omega) (by omega) (by kernel_rfl) (by kernel_rfl)) fun a H => ?_
        refine H.v 255 (.pointer (some ⟨bu_67, ou_68 + i3 * 7, none⟩)) fun a H => ?_
        refine H.u 256 (ii x_66.id) (ex_l1 (IsRow.cells enC_size ((HP.fact 2 rfl : IsPln _ p1).es.row) hA_69 hx_70 0 _ rfl)) fun a H => ?_
        refine H.v 257 (ii k) fun a H => ?_
        refine H.v 258 (.bool (x_66.id != k)) fun a H => ?_
        refine H.v 259 (.bool (x_66.id != k)) fun a H => ?_
        refine H.v 11 (.bool (x_66.id != k)) fun a H => ?_
        refine wpList_nil (inb_normal (then_normal (w_region ?_)))
        refine H.v 157 (ii i3) fun a H => ?_
        refine H.valE 158 (ii (IntKind.i64.wrap ((i3 : Int) + 1))) (ii ((i3 : Int) + 1)) (by kernel_rfl) (by kernel_rfl) ((by rw [wrap_ini64 _ (by omega)])) fun a H => ?_
        refine H.v 20 (ii ((i3 : Int) + 1)) fun a H => ?_
        refine wpList_nil (then_normal ?_)
        have H := H.as 20 (ii ((i3 + 1 : Nat) : Int)) rfl rfl
        have H := H.as 11 (.bool (fndE p1.es k (i3 + 1))) rfl (congrArg Value.bool (fndE_t g250 hx_70))
        refine ⟨_, ?_, i3 + 1, rfl, H.keep (by kernel_rfl), ((((HP.tail rfl).tail rfl).tail rfl).untop), (by omega)⟩
        omega
       ·have g250p := g250
        iterate 8 refine H.sx rfl fun a H => ?_
        refine H.v 259 (.bool false) fun a H => ?_
        refine H.v 11 (.bool false) fun a H => ?_
        refine wpList_nil (inb_normal (then_normal (w_region ?_)))
        refine H.v 157 (ii i3) fun a H => ?_
        refine H.valE 158 (ii (IntKind.i64.wrap ((i3 : Int) + 1))) (ii ((i3 : Int) + 1)) (by kernel_rfl) (by kernel_rfl) ((by rw [wrap_ini64 _ (by omega)])) fun a H => ?_
        refine H.v 20 (ii ((i3 : Int) + 1)) fun a H => ?_
        refine wpList_nil (then_normal ?_)
        have H := H.as 20 (ii ((i3 + 1 : Nat) : Int)) rfl rfl
        have H := H.as 11 (.bool (fndE p1.es k (i3 + 1))) rfl (congrArg Value.bool (fndE_f g250 hx_70))
        refine ⟨_, ?_, i3 + 1, rfl, H.keep (by kernel_rfl), ((((HP.tail rfl).tail rfl).tail rfl).untop), (by omega)⟩
        omega
    ·refine Op.alloc H HP 21 (fun b => (pt b 0)) 43 [(ii 0), (ii 0), (ii 0), (ii 0), (ii 0), (ii 0), (.slice none 0 0)] rfl (by kernel_rfl) (fun w => by kernel_rfl) fun b_106 w_107 a H HP => ?_
     refine ⟨.inr ((HP.tail rfl)), ?_⟩
     refine An.one 7 (by kernel_rfl) ?_
     refine Op.call H 167 rfl (by kernel_rfl) (Eq.trans (by kernel_rfl : _ = (callFunc 20 #[(plV p1), (ii x_66.id)]).run Tryz.prog w_107) (Tryz.call20 _ _)) ((by have hh := entry_any p1 x_66.id w_107 (HP.fact 1 rfl : IsPln _ p1) (small_gE hsm_p1 _); rw [g3.1, g3.2] at hh; exact hh)) ?_
     rintro e w_108 ⟨Be3, cBe3, rfl, ⟨hrBe3, hnBe3⟩, hb⟩
     refine ⟨_, rfl, ?_⟩
     intro a H
     have HP := HP.keepA hb Be3 x_66.al hrBe3 hnBe3
     refine ⟨.inr ((HP.tail rfl).untop), ?_⟩
     refine An.pure H (.inr ((HP.tail rfl).untop)) 8 159 (.tuple #[(.agg #[(ii x_66.id), (ii x_66.item), (ii x_66.frames), (ii x_66.earliest), (ii x_66.latest), (ii x_66.booking), (.slice Be3 x_66.al.length cBe3)]), (.bool true)]) rfl (by kernel_rfl) (by kernel_rfl) (fun _ _ _ h => h) (fun _ => by kernel_rfl) fun a H => ?_
     refine An.pure H (.inr ((HP.tail rfl).untop)) 9 168 (.agg #[(ii x_66.id), (ii x_66.item), (ii x_66.frames), (ii x_66.earliest), (ii x_66.latest), (ii x_66.booking), (.slice Be3 x_66.al.length cBe3)]) rfl (by kernel_rfl) (by kernel_rfl) (fun _ _ _ h => h) (fun _ => by kernel_rfl) fun a H => ?_
     refine An.p H (.inr ((HP.tail rfl).untop)) 10 169 (.bool true) fun a H => ?_
     refine An.one 12 (by kernel_rfl) ?_
     refine Op.store H HP 0 b_106 0 7 43 [(ii 0), (ii 0), (ii 0), (ii 0), (ii 0), (ii 0), (.slice none 0 0)] true (.agg #[(ii x_66.id), (ii x_66.item), (ii x_66.frames), (ii x_66.earliest), (ii x_66.latest), (ii x_66.booking), (.slice Be3 x_66.al.length cBe3)]) [bx b_106 43 [(ii x_66.id), (ii x_66.item), (ii x_66.frames), (ii x_66.earliest), (ii x_66.latest), (ii x_66.booking), (.slice Be3 x_66.al.length cBe3)] true, bx b_16 43 [(ii ((gE p1.es k).id)), (ii ((gE p1.es k).item)), (ii ((gE p1.es k).frames)), (ii ((gE p1.es k).earliest)), (ii ((gE p1.es k).latest)), (ii ((gE p1.es k).booking)), (.slice Be ((gE p1.es k).al.length) cBe)] true, bx b_12 47 (bkL (gB p1.bs k)) true, bx b_8 38 (itL (gI p1.its k)) true, bx b_1 32 (plL p1) true] rfl (by kernel_rfl) (by kernel_rfl) (by kernel_rfl) rfl (by kernel_rfl) (by kernel_rfl) (by kernel_rfl) (by kernel_rfl) (by kernel_rfl) fun w_109 a H HP => ?_
     refine ⟨.inr ((HP.tail rfl).untop), ?_⟩
     refine An.p H (.inr ((HP.tail rfl).untop)) 13 22 (.bool true) fun a H => ?_
     refine An.done (by kernel_rfl) ?_
     refine then_normal (wp_seq (w_region ?_))
     refine H.u 171 (plV p1) (ex_loadN (vs := (plL p1)) (by kernel_rfl) (by kernel_rfl) (by kernel_rfl) rfl (HP.cells 4 rfl 0 13 (by kernel_rfl))) fun a H => ?_
     refine H.v 172 (pt b_106 1) fun a H => ?_
     refine H.u 173 (ii x_66.item) (ex_l1 (HP.cell 0 rfl 1 rfl)) fun a H => ?_
     refine H.call 174 (by kernel_rfl) (Eq.trans (by kernel_rfl : _ = (callFunc 18 #[(plV p1), (ii x_66.item)]).run Tryz.prog w_109) (Tryz.call18 _ _)) ((by have hh := item_any p1 x_66.item w_109 (HP.fact 2 rfl : IsPln _ p1); rw [g4] at hh; exact hh)) ?_
     rintro e w_110 ⟨rfl, hb⟩
     refine ⟨_, rfl, ?_⟩
     intro a H
     have HP := HP.next hb
     refine H.v 170 (.tuple #[(itV (gI p1.its x_66.item)), (.bool true)]) fun a H => ?_
     refine H.v 175 (itV (gI p1.its x_66.item)) fun a H => ?_
     refine H.v 176 (.bool true) fun a H => ?_
     refine H.alloc HP 23 (fun b => (pt b 0)) 38 [(ii 0), (ii 0), (ii 0), (ii 0), (ii 0)] (by kernel_rfl) (fun w => by kernel_rfl) fun b_111 w_112 a H HP => ?_
     refine H.store HP 0 b_111 0 5 38 _ true (itV (gI p1.its x_66.item)) [bx b_111 38 (itL (gI p1.its x_66.item)) true, bx b_106 43 [(ii x_66.id), (ii x_66.item), (ii x_66.frames), (ii x_66.earliest), (ii x_66.latest), (ii x_66.booking), (.slice Be3 x_66.al.length cBe3)] true, bx b_16 43 [(ii ((gE p1.es k).id)), (ii ((gE p1.es k).item)), (ii ((gE p1.es k).frames)), (ii ((gE p1.es k).earliest)), (ii ((gE p1.es k).latest)), (ii ((gE p1.es k).booking)), (.slice Be ((gE p1.es k).al.length) cBe)] true, bx b_12 47 (bkL (gB p1.bs k)) true, bx b_8 38 (itL (gI p1.its k)) true, bx b_1 32 (plL p1) true] (by kernel_rfl) (by kernel_rfl) (by kernel_rfl) rfl (by kernel_rfl) (by kernel_rfl) (by kernel_rfl) (by kernel_rfl) (by kernel_rfl) fun w_113 a H HP => ?_
     refine H.v 24 (.bool true) fun a H => ?_
     refine wpList_nil (then_normal (wp_seq (w_region ?_)))
     refine H.u 178 (plV p1) (ex_loadN (vs := (plL p1)) (by kernel_rfl) (by kernel_rfl) (by kernel_rfl) rfl (HP.cells 5 rfl 0 13 (by kernel_rfl))) fun a H => ?_
     refine H.v 179 (pt b_106 5) fun a H => ?_
     refine H.u 180 (ii x_66.booking) (ex_l1 (HP.cell 1 rfl 5 rfl)) fun a H => ?_
     refine H.call 181 (by kernel_rfl) (Eq.trans (by kernel_rfl : _ = (callFunc 22 #[(plV p1), (ii x_66.booking)]).run Tryz.prog w_113) (Tryz.call22 _ _)) (booking_any p1 x_66.booking w_113 (HP.fact 2 rfl : IsPln _ p1)) ?_
     rintro e w_114 ⟨rfl, hb⟩
     refine ⟨_, rfl, ?_⟩
     intro a H
     have HP := HP.next hb
     refine H.v 177 (.tuple #[(bkV (gB p1.bs x_66.booking)), (.bool (hB p1.bs x_66.booking))]) fun a H => ?_
     refine H.v 182 (bkV (gB p1.bs x_66.booking)) fun a H => ?_
     refine H.v 183 (.bool (hB p1.bs x_66.booking)) fun a H => ?_
     refine H.alloc HP 25 (fun b => (pt b 0)) 47 [(ii 0), (ii 0), (ii 0), (ii 0), (ii 0), (ii 0), (ii 0)] (by kernel_rfl) (fun w => by kernel_rfl) fun b_115 w_116 a H HP => ?_
     refine H.store HP 0 b_115 0 7 47 _ true (bkV (gB p1.bs x_66.booking)) [bx b_115 47 (bkL (gB p1.bs x_66.booking)) true, bx b_111 38 (itL (gI p1.its x_66.item)) true, bx b_106 43 [(ii x_66.id), (ii x_66.item), (ii x_66.frames), (ii x_66.earliest), (ii x_66.latest), (ii x_66.booking), (.slice Be3 x_66.al.length cBe3)] true, bx b_16 43 [(ii ((gE p1.es k).id)), (ii ((gE p1.es k).item)), (ii ((gE p1.es k).frames)), (ii ((gE p1.es k).earliest)), (ii ((gE p1.es k).latest)), (ii ((gE p1.es k).booking)), (.slice Be ((gE p1.es k).al.length) cBe)] true, bx b_12 47 (bkL (gB p1.bs k)) true, bx b_8 38 (itL (gI p1.its k)) true, bx b_1 32 (plL p1) true] (by kernel_rfl) (by kernel_rfl) (by kernel_rfl) rfl (by kernel_rfl) (by kernel_rfl) (by kernel_rfl) (by kernel_rfl) (by kernel_rfl) fun w_117 a H HP => ?_
     refine H.v 26 (.bool (hB p1.bs x_66.booking)) fun a H => ?_
     refine wpList_nil (then_normal (wp_seq ?_))
     refine An.start (fun v => Hp w v [bx b_115 47 (bkL (gB p1.bs x_66.booking)) true, bx b_111 38 (itL (gI p1.its x_66.item)) true, bx b_106 43 [(ii x_66.id), (ii x_66.item), (ii x_66.frames), (ii x_66.earliest), (ii x_66.latest), (ii x_66.booking), (.slice Be3 x_66.al.length cBe3)] true, bx b_16 43 [(ii ((gE p1.es k).id)), (ii ((gE p1.es k).item)), (ii ((gE p1.es k).frames)), (ii ((gE p1.es k).earliest)), (ii ((gE p1.es k).latest)), (ii ((gE p1.es k).booking)), (.slice Be ((gE p1.es k).al.length) cBe)] true, bx b_12 47 (bkL (gB p1.bs k)) true, bx b_8 38 (itL (gI p1.its k)) true, bx b_1 32 (plL p1) true] [alK Be3 x_66.al, alK Be (gE p1.es k).al, plnK p1]) 8 8 HP wide_follows rfl fun w_118 HP => ?_
     refine An.val H (HP) 0 184 (.agg #[(ii x_66.id), (ii x_66.item), (ii x_66.frames), (ii x_66.earliest), (ii x_66.latest), (ii x_66.booking), (.slice Be3 x_66.al.length cBe3)]) rfl (by kernel_rfl) (by kernel_rfl) (fun _ _ _ h => h) (fun _ hS => ex_loadN (vs := [(ii x_66.id), (ii x_66.item), (ii x_66.frames), (ii x_66.earliest), (ii x_66.latest), (ii x_66.booking), (.slice Be3 x_66.al.length cBe3)]) (by kernel_rfl) (by kernel_rfl) (by kernel_rfl) rfl (hS.cells 2 rfl 0 7 (by kernel_rfl))) fun a H => ?_
     refine An.p H (.inr HP) 1 185 (pt b_1 10) fun a H => ?_
     refine An.val H (HP) 2 186 (.slice p1.EA p1.es.length p1.ec) rfl (by kernel_rfl) (by kernel_rfl) (fun _ _ _ h => h) (fun _ hS => ex_l1 (hS.cell 6 rfl 10 rfl)) fun a H => ?_
     refine An.p H (.inr HP) 3 187 (ii i3) fun a H => ?_
     refine An.pure H (.inr (HP)) 4 188 (.pointer (some ⟨bu_67, ou_68 + i3 * 7, none⟩)) rfl (by kernel_rfl) (by kernel_rfl) (fun _ _ _ h => h) (fun _ => ex_indexA (b := bu_67) (off := ou_68) (len := p1.es.length) (cap := p1.ec) (e := 43) (k := 7) (ik := .i64) (i := (i3 : Int)) (m := i3) hA_69 (by kernel_rfl) (by kernel_rfl) (by omega) (by omega) (by kernel_rfl) (by kernel_rfl)) fun a H => ?_
     refine An.val H (HP) 5 189 (enV x_66) rfl (by kernel_rfl) (by kernel_rfl) (fun _ _ _ h => h) (fun _ hS => ex_loadN (b := bu_67) (off := ou_68 + i3 * 7) (vs := (enL x_66)) (by kernel_rfl) (by kernel_rfl) (by kernel_rfl) rfl (IsRow.cells enC_size ((hS.fact 2 rfl : IsPln _ p1).es.row) hA_69 hx_70)) fun a H => ?_
     refine An.one 6 (by kernel_rfl) ?_
     refine Op.call H 190 rfl (by kernel_rfl) (Eq.trans (by kernel_rfl : _ = (callFunc 24 #[(.agg #[(ii x_66.id), (ii x_66.item), (ii x_66.frames), (ii x_66.earliest), (ii x_66.latest), (ii x_66.booking), (.slice Be3 x_66.al.length cBe3)]), (enV x_66)]).run Tryz.prog w_118) (Tryz.call24 _ _)) ((by have hh := rsameE_any ({ x_66 with A := Be3, c := cBe3 } : Ent) x_66 w_118 ⟨HP.fact 0 rfl, ((HP.fact 2 rfl : IsPln _ p1).es.ok _ hm_72).2⟩ ((HP.fact 2 rfl : IsPln _ p1).es.ok _ hm_72); rw [show decide (({ x_66 with A := Be3, c := cBe3 } : Ent).nv = x_66.nv) = true from decide_eq_true rfl] at hh; exact hh)) ?_
     rintro e w_119 ⟨rfl, hb⟩
     refine ⟨_, rfl, ?_⟩
     intro a H
     have HP := HP.next hb
     refine ⟨.inr (HP), ?_⟩
     refine An.p H (.inr HP) 7 27 (.bool true) fun a H => ?_
     refine An.done (by kernel_rfl) ?_
     refine then_normal (wp_seq ?_)
     refine w_cut (fun a wv => Sl 273 [(221, (.bool false)), (27, (.bool true)), (190, (.bool true)), (189, (enV x_66)), (188, (.pointer (some ⟨bu_67, ou_68 + i3 * 7, none⟩))), (187, (ii i3)), (186, (.slice p1.EA p1.es.length p1.ec)), (185, (pt b_1 10)), (184, (.agg #[(ii x_66.id), (ii x_66.item), (ii x_66.frames), (ii x_66.earliest), (ii x_66.latest), (ii x_66.booking), (.slice Be3 x_66.al.length cBe3)])), (26, (.bool (hB p1.bs x_66.booking))), (25, (pt b_115 0)), (183, (.bool (hB p1.bs x_66.booking))), (182, (bkV (gB p1.bs x_66.booking))), (177, (.tuple #[(bkV (gB p1.bs x_66.booking)), (.bool (hB p1.bs x_66.booking))])), (181, (.tuple #[(bkV (gB p1.bs x_66.booking)), (.bool (hB p1.bs x_66.booking))])), (180, (ii x_66.booking)), (179, (pt b_106 5)), (178, (plV p1)), (24, (.bool true)), (23, (pt b_111 0)), (176, (.bool true)), (175, (itV (gI p1.its x_66.item))), (170, (.tuple #[(itV (gI p1.its x_66.item)), (.bool true)])), (174, (.tuple #[(itV (gI p1.its x_66.item)), (.bool true)])), (173, (ii x_66.item)), (172, (pt b_106 1)), (171, (plV p1)), (22, (.bool true)), (169, (.bool true)), (168, (.agg #[(ii x_66.id), (ii x_66.item), (ii x_66.frames), (ii x_66.earliest), (ii x_66.latest), (ii x_66.booking), (.slice Be3 x_66.al.length cBe3)])), (159, (.tuple #[(.agg #[(ii x_66.id), (ii x_66.item), (ii x_66.frames), (ii x_66.earliest), (ii x_66.latest), (ii x_66.booking), (.slice Be3 x_66.al.length cBe3)]), (.bool true)])), (167, (.tuple #[(.agg #[(ii x_66.id), (ii x_66.item), (ii x_66.frames), (ii x_66.earliest), (ii x_66.latest), (ii x_66.booking), (.slice Be3 x_66.al.length cBe3)]), (.bool true)])), (21, (pt b_106 0)), (166, (ii x_66.id)), (165, (.pointer (some ⟨bu_67, ou_68 + i3 * 7, none⟩))), (164, (.pointer (some ⟨bu_67, ou_68 + i3 * 7, none⟩))), (163, (ii i3)), (162, (.slice p1.EA p1.es.length p1.ec)), (161, (pt b_1 10)), (160, (plV p1)), (156, (.bool (decide ((i3 : Int) < (p1.es.length : Int))))), (155, (ii p1.es.length)), (154, (.slice p1.EA p1.es.length p1.ec)), (153, (pt b_1 10)), (152, (ii i3)), (20, (ii i3)), (11, (.bool (fndE p1.es k i3))), (100, (.bool (decide ((i2 : Int) < (p1.bs.length : Int))))), (99, (ii p1.bs.length)), (98, (.slice p1.BA p1.bs.length p1.bc)), (97, (pt b_1 11)), (96, (ii i2)), (15, (ii i2)), (9, (.bool (fndB p1.bs k i2))), (60, (.bool (decide ((i1 : Int) < (p1.its.length : Int))))), (59, (ii p1.its.length)), (58, (.slice p1.IA p1.its.length p1.ic)), (57, (pt b_1 9)), (56, (ii i1)), (12, (ii i1)), (7, (.bool (fndI p1.its k i1))), (10, (pt b_16 0)), (55, (.bool (hE p1.es k))), (54, (.agg #[(ii ((gE p1.es k).id)), (ii ((gE p1.es k).item)), (ii ((gE p1.es k).frames)), (ii ((gE p1.es k).earliest)), (ii ((gE p1.es k).latest)), (ii ((gE p1.es k).booking)), (.slice Be ((gE p1.es k).al.length) cBe)])), (50, (.tuple #[(.agg #[(ii ((gE p1.es k).id)), (ii ((gE p1.es k).item)), (ii ((gE p1.es k).frames)), (ii ((gE p1.es k).earliest)), (ii ((gE p1.es k).latest)), (ii ((gE p1.es k).booking)), (.slice Be ((gE p1.es k).al.length) cBe)]), (.bool (hE p1.es k))])), (53, (.tuple #[(.agg #[(ii ((gE p1.es k).id)), (ii ((gE p1.es k).item)), (ii ((gE p1.es k).frames)), (ii ((gE p1.es k).earliest)), (ii ((gE p1.es k).latest)), (ii ((gE p1.es k).booking)), (.slice Be ((gE p1.es k).al.length) cBe)]), (.bool (hE p1.es k))])), (52, (ii k)), (51, (plV p1)), (8, (pt b_12 0)), (49, (.bool (hB p1.bs k))), (48, (bkV (gB p1.bs k))), (44, (.tuple #[(bkV (gB p1.bs k)), (.bool (hB p1.bs k))])), (47, (.tuple #[(bkV (gB p1.bs k)), (.bool (hB p1.bs k))])), (46, (ii k)), (45, (plV p1)), (6, (pt b_8 0)), (43, (.bool (hI p1.its k))), (42, (itV (gI p1.its k))), (38, (.tuple #[(itV (gI p1.its k)), (.bool (hI p1.its k))])), (41, (.tuple #[(itV (gI p1.its k)), (.bool (hI p1.its k))])), (40, (ii k)), (39, (plV p1)), (36, (.bool false)), (35, (.bool true)), (34, (plV p1)), (33, (plV p1)), (32, (plV p)), (5, (.bool true)), (31, (.bool true)), (2, (pt b_1 0)), (0, (plV p)), (1, (ii k))] a ∧ Hp w wv [bx b_115 47 (bkL (gB p1.bs x_66.booking)) true, bx b_111 38 (itL (gI p1.its x_66.item)) true, bx b_106 43 [(ii x_66.id), (ii x_66.item), (ii x_66.frames), (ii x_66.earliest), (ii x_66.latest), (ii x_66.booking), (.slice Be3 x_66.al.length cBe3)] true, bx b_16 43 [(ii ((gE p1.es k).id)), (ii ((gE p1.es k).item)), (ii ((gE p1.es k).frames)), (ii ((gE p1.es k).earliest)), (ii ((gE p1.es k).latest)), (ii ((gE p1.es k).booking)), (.slice Be ((gE p1.es k).al.length) cBe)] true, bx b_12 47 (bkL (gB p1.bs k)) true, bx b_8 38 (itL (gI p1.its k)) true, bx b_1 32 (plL p1) true] [alK Be3 x_66.al, alK Be (gE p1.es k).al, plnK p1]) ?_ ?_
     ·
      refine w_region ?_
      refine H.v 191 (.bool true) fun a H => ?_
      refine H.v 192 (.bool false) fun a H => ?_
      refine H.v 193 (.bool false) fun a H => ?_
      refine H.v 194 (.bool true) fun a H => ?_
      refine H.v 195 (.bool false) fun a H => ?_
      refine H.v 196 (.bool false) fun a H => ?_
      refine H.v 197 (.bool false) fun a H => ?_
      refine H.v 198 (.bool true) fun a H => ?_
      refine H.v 199 (.bool false) fun a H => ?_
      refine H.v 200 (.bool false) fun a H => ?_
      refine H.v 201 (.bool false) fun a H => ?_
      refine H.v 202 (pt b_111 1) fun a H => ?_
      refine H.u 203 (ii ((gI p1.its x_66.item).kind)) (ex_l1 (HP.cell 1 rfl 1 rfl)) fun a H => ?_
      refine H.valE 204 (.bool (((gI p1.its x_66.item).kind) == 5)) (.bool false) (by kernel_rfl) (by kernel_rfl) ((congrArg Value.bool (beq_eq_false_iff_ne.2 g5))) fun a H => ?_
      refine H.v 205 (.bool false) fun a H => ?_
      refine H.v 206 (.bool false) fun a H => ?_
      refine H.v 207 (pt b_106 2) fun a H => ?_
      refine H.u 208 (ii x_66.frames) (ex_l1 (HP.cell 2 rfl 2 rfl)) fun a H => ?_
      refine H.v 209 (pt b_111 2) fun a H => ?_
      refine H.u 210 (ii ((gI p1.its x_66.item).frames)) (ex_l1 (HP.cell 1 rfl 2 rfl)) fun a H => ?_
      refine H.valE 211 (.bool (decide (x_66.frames > ((gI p1.its x_66.item).frames)))) (.bool false) (by kernel_rfl) (by kernel_rfl) ((congrArg Value.bool (decide_eq_false (Int.not_lt.2 g6)))) fun a H => ?_
      refine H.v 212 (.bool false) fun a H => ?_
      refine H.v 213 (.bool false) fun a H => ?_
      refine H.v 214 (.bool (hB p1.bs x_66.booking)) fun a H => ?_
      refine H.v 215 (.bool (!(hB p1.bs x_66.booking))) fun a H => ?_
      refine H.v 216 (.bool (!(hB p1.bs x_66.booking))) fun a H => ?_
      refine H.split 216 rfl (fun g216 H => ?_) (fun g216 H => ?_)
      ·have g216p := not_is_true g216
       refine H.v 217 (pt b_106 5) fun a H => ?_
       refine H.u 218 (ii x_66.booking) (ex_l1 (HP.cell 2 rfl 5 rfl)) fun a H => ?_
       refine H.valE 219 (.bool (x_66.booking != 0)) (.bool false) (by kernel_rfl) (by kernel_rfl) ((congrArg Value.bool (by have h7 := g7h.out; exact h7.elim (fun h7 => by rw [h7]; rfl) (fun h7 => absurd h7 (by rw [(not_is_true g216 : _)]; decide))))) fun a H => ?_
       refine H.v 220 (.bool false) fun a H => ?_
       refine H.v 221 (.bool false) fun a H => ?_
       refine wpList_nil (then_normal ?_)
       exact ⟨H.keep (by kernel_rfl), HP⟩
      ·have g216p := not_is_false g216
       iterate 3 refine H.sx rfl fun a H => ?_
       refine H.v 220 (.bool false) fun a H => ?_
       refine H.v 221 (.bool false) fun a H => ?_
       refine wpList_nil (then_normal ?_)
       exact ⟨H.keep (by kernel_rfl), HP⟩
     ·
      rintro a w_120 ⟨H, HP⟩
      refine w_iff H rfl ?_
      refine wp_skip (then_normal (wp_seq (wp_seq (w_region ?_))))
      refine H.v 28 (ii 0) fun a H => ?_
      refine wpList_nil (then_normal (wp_block ?_))
      refine w_loop (fun mm a wv => ∃ (j : Nat), x_66.al.length - j = mm ∧ Sl 273 [(28, (ii j)), (221, (.bool false)), (27, (.bool true)), (190, (.bool true)), (189, (enV x_66)), (188, (.pointer (some ⟨bu_67, ou_68 + i3 * 7, none⟩))), (187, (ii i3)), (186, (.slice p1.EA p1.es.length p1.ec)), (185, (pt b_1 10)), (184, (.agg #[(ii x_66.id), (ii x_66.item), (ii x_66.frames), (ii x_66.earliest), (ii x_66.latest), (ii x_66.booking), (.slice Be3 x_66.al.length cBe3)])), (26, (.bool (hB p1.bs x_66.booking))), (25, (pt b_115 0)), (183, (.bool (hB p1.bs x_66.booking))), (182, (bkV (gB p1.bs x_66.booking))), (177, (.tuple #[(bkV (gB p1.bs x_66.booking)), (.bool (hB p1.bs x_66.booking))])), (181, (.tuple #[(bkV (gB p1.bs x_66.booking)), (.bool (hB p1.bs x_66.booking))])), (180, (ii x_66.booking)), (179, (pt b_106 5)), (178, (plV p1)), (24, (.bool true)), (23, (pt b_111 0)), (176, (.bool true)), (175, (itV (gI p1.its x_66.item))), (170, (.tuple #[(itV (gI p1.its x_66.item)), (.bool true)])), (174, (.tuple #[(itV (gI p1.its x_66.item)), (.bool true)])), (173, (ii x_66.item)), (172, (pt b_106 1)), (171, (plV p1)), (22, (.bool true)), (169, (.bool true)), (168, (.agg #[(ii x_66.id), (ii x_66.item), (ii x_66.frames), (ii x_66.earliest), (ii x_66.latest), (ii x_66.booking), (.slice Be3 x_66.al.length cBe3)])), (159, (.tuple #[(.agg #[(ii x_66.id), (ii x_66.item), (ii x_66.frames), (ii x_66.earliest), (ii x_66.latest), (ii x_66.booking), (.slice Be3 x_66.al.length cBe3)]), (.bool true)])), (167, (.tuple #[(.agg #[(ii x_66.id), (ii x_66.item), (ii x_66.frames), (ii x_66.earliest), (ii x_66.latest), (ii x_66.booking), (.slice Be3 x_66.al.length cBe3)]), (.bool true)])), (21, (pt b_106 0)), (166, (ii x_66.id)), (165, (.pointer (some ⟨bu_67, ou_68 + i3 * 7, none⟩))), (164, (.pointer (some ⟨bu_67, ou_68 + i3 * 7, none⟩))), (163, (ii i3)), (162, (.slice p1.EA p1.es.length p1.ec)), (161, (pt b_1 10)), (160, (plV p1)), (156, (.bool (decide ((i3 : Int) < (p1.es.length : Int))))), (155, (ii p1.es.length)), (154, (.slice p1.EA p1.es.length p1.ec)), (153, (pt b_1 10)), (152, (ii i3)), (20, (ii i3)), (11, (.bool (fndE p1.es k i3))), (100, (.bool (decide ((i2 : Int) < (p1.bs.length : Int))))), (99, (ii p1.bs.length)), (98, (.slice p1.BA p1.bs.length p1.bc)), (97, (pt b_1 11)), (96, (ii i2)), (15, (ii i2)), (9, (.bool (fndB p1.bs k i2))), (60, (.bool (decide ((i1 : Int) < (p1.its.length : Int))))), (59, (ii p1.its.length)), (58, (.slice p1.IA p1.its.length p1.ic)), (57, (pt b_1 9)), (56, (ii i1)), (12, (ii i1)), (7, (.bool (fndI p1.its k i1))), (10, (pt b_16 0)), (55, (.bool (hE p1.es k))), (54, (.agg #[(ii ((gE p1.es k).id)), (ii ((gE p1.es k).item)), (ii ((gE p1.es k).frames)), (ii ((gE p1.es k).earliest)), (ii ((gE p1.es k).latest)), (ii ((gE p1.es k).booking)), (.slice Be ((gE p1.es k).al.length) cBe)])), (50, (.tuple #[(.agg #[(ii ((gE p1.es k).id)), (ii ((gE p1.es k).item)), (ii ((gE p1.es k).frames)), (ii ((gE p1.es k).earliest)), (ii ((gE p1.es k).latest)), (ii ((gE p1.es k).booking)), (.slice Be ((gE p1.es k).al.length) cBe)]), (.bool (hE p1.es k))])), (53, (.tuple #[(.agg #[(ii ((gE p1.es k).id)), (ii ((gE p1.es k).item)), (ii ((gE p1.es k).frames)), (ii ((gE p1.es k).earliest)), (ii ((gE p1.es k).latest)), (ii ((gE p1.es k).booking)), (.slice Be ((gE p1.es k).al.length) cBe)]), (.bool (hE p1.es k))])), (52, (ii k)), (51, (plV p1)), (8, (pt b_12 0)), (49, (.bool (hB p1.bs k))), (48, (bkV (gB p1.bs k))), (44, (.tuple #[(bkV (gB p1.bs k)), (.bool (hB p1.bs k))])), (47, (.tuple #[(bkV (gB p1.bs k)), (.bool (hB p1.bs k))])), (46, (ii k)), (45, (plV p1)), (6, (pt b_8 0)), (43, (.bool (hI p1.its k))), (42, (itV (gI p1.its k))), (38, (.tuple #[(itV (gI p1.its k)), (.bool (hI p1.its k))])), (41, (.tuple #[(itV (gI p1.its k)), (.bool (hI p1.its k))])), (40, (ii k)), (39, (plV p1)), (36, (.bool false)), (35, (.bool true)), (34, (plV p1)), (33, (plV p1)), (32, (plV p)), (5, (.bool true)), (31, (.bool true)), (2, (pt b_1 0)), (0, (plV p)), (1, (ii k))] a ∧ Hp w wv [bx b_115 47 (bkL (gB p1.bs x_66.booking)) true, bx b_111 38 (itL (gI p1.its x_66.item)) true, bx b_106 43 [(ii x_66.id), (ii x_66.item), (ii x_66.frames), (ii x_66.earliest), (ii x_66.latest), (ii x_66.booking), (.slice Be3 x_66.al.length cBe3)] true, bx b_16 43 [(ii ((gE p1.es k).id)), (ii ((gE p1.es k).item)), (ii ((gE p1.es k).frames)), (ii ((gE p1.es k).earliest)), (ii ((gE p1.es k).latest)), (ii ((gE p1.es k).booking)), (.slice Be ((gE p1.es k).al.length) cBe)] true, bx b_12 47 (bkL (gB p1.bs k)) true, bx b_8 38 (itL (gI p1.its k)) true, bx b_1 32 (plL p1) true] [alK Be3 x_66.al, alK Be (gE p1.es k).al, plnK p1] ∧ (j ≤ x_66.al.length)) (x_66.al.length - 0) ?_ ?_
      ·exact ⟨0, (by omega), H.keep (by kernel_rfl), HP, (Nat.zero_le _)⟩
      rintro mm a w_121 ⟨j, hmeas, H, HP, hjb⟩
      refine wp_seq (wp_seq (w_region ?_))
      refine H.v 222 (ii j) fun a H => ?_
      refine H.v 223 (pt b_106 6) fun a H => ?_
      refine H.u 224 (.slice Be3 x_66.al.length cBe3) (ex_l1 (HP.cell 2 rfl 6 rfl)) fun a H => ?_
      refine H.v 225 (ii x_66.al.length) fun a H => ?_
      refine H.v 226 (.bool (decide ((j : Int) < (x_66.al.length : Int)))) fun a H => ?_
      refine wpList_nil (then_normal ?_)
      refine w_if H rfl (fun g226 => ?_) (fun g226 => ?_)
      ·have g226p := of_decide_eq_true g226
       refine wp_skip (then_normal (wp_seq (wp_block (wp_seq ?_))))
       obtain ⟨bu_123, ou_124, x_122, hA_125, _, hd_127, hx_126, hm_128, _⟩ := IsRow.get altC_size ((HP.fact 0 rfl : IsAl _ Be3 x_66.al)) (i := j) (by omega)
       have g9 := g8 x_122 hm_128
       refine An.start (fun v => Hp w v [bx b_115 47 (bkL (gB p1.bs x_66.booking)) true, bx b_111 38 (itL (gI p1.its x_66.item)) true, bx b_106 43 [(ii x_66.id), (ii x_66.item), (ii x_66.frames), (ii x_66.earliest), (ii x_66.latest), (ii x_66.booking), (.slice Be3 x_66.al.length cBe3)] true, bx b_16 43 [(ii ((gE p1.es k).id)), (ii ((gE p1.es k).item)), (ii ((gE p1.es k).frames)), (ii ((gE p1.es k).earliest)), (ii ((gE p1.es k).latest)), (ii ((gE p1.es k).booking)), (.slice Be ((gE p1.es k).al.length) cBe)] true, bx b_12 47 (bkL (gB p1.bs k)) true, bx b_8 38 (itL (gI p1.its k)) true, bx b_1 32 (plL p1) true] [alK Be3 x_66.al, alK Be (gE p1.es k).al, plnK p1]) 14 14 HP wide_follows rfl fun w_129 HP => ?_
       refine An.val H (HP) 0 230 (plV p1) rfl (by kernel_rfl) (by kernel_rfl) (fun _ _ _ h => h) (fun _ hS => ex_loadN (vs := (plL p1)) (by kernel_rfl) (by kernel_rfl) (by kernel_rfl) rfl (hS.cells 6 rfl 0 13 (by kernel_rfl))) fun a H => ?_
       refine An.p H (.inr HP) 1 231 (pt b_106 6) fun a H => ?_
       refine An.val H (HP) 2 232 (.slice Be3 x_66.al.length cBe3) rfl (by kernel_rfl) (by kernel_rfl) (fun _ _ _ h => h) (fun _ hS => ex_l1 (hS.cell 2 rfl 6 rfl)) fun a H => ?_
       refine An.p H (.inr HP) 3 233 (ii j) fun a H => ?_
       refine An.pure H (.inr (HP)) 4 234 (.pointer (some ⟨bu_123, ou_124 + j * 2, none⟩)) rfl (by kernel_rfl) (by kernel_rfl) (fun _ _ _ h => h) (fun _ => ex_indexA (b := bu_123) (off := ou_124) (len := x_66.al.length) (cap := cBe3) (e := 62) (k := 2) (ik := .i64) (i := (j : Int)) (m := j) hA_125 (by kernel_rfl) (by kernel_rfl) (by omega) (by omega) (by kernel_rfl) (by kernel_rfl)) fun a H => ?_
       refine An.p H (.inr HP) 5 235 (.pointer (some ⟨bu_123, ou_124 + j * 2 + 1, none⟩)) fun a H => ?_
       refine An.val H (HP) 6 236 (ii x_122.2) rfl (by kernel_rfl) (by kernel_rfl) (fun _ _ _ h => h) (fun _ hS => ex_l1 (IsRow.cells altC_size ((hS.fact 0 rfl : IsAl _ Be3 x_66.al)) hA_125 hx_126 1 _ rfl)) fun a H => ?_
       refine An.two 7 11 (by kernel_rfl) ?_ ?_
       ·refine Op.call H 237 rfl (by kernel_rfl) (Eq.trans (by kernel_rfl : _ = (callFunc 18 #[(plV p1), (ii x_122.2)]).run Tryz.prog w_129) (Tryz.call18 _ _)) ((by have hh := item_any p1 x_122.2 w_129 (HP.fact 2 rfl : IsPln _ p1); rw [g9.1] at hh; exact hh)) ?_
        rintro e w_130 ⟨rfl, hb⟩
        refine ⟨_, rfl, ?_⟩
        intro a H
        have HP := HP.next hb
        refine ⟨.inr (HP), ?_⟩
        refine An.pure H (.inr (HP)) 8 229 (.tuple #[(itV (gI p1.its x_122.2)), (.bool true)]) rfl (by kernel_rfl) (by kernel_rfl) (fun _ _ _ h => h) (fun _ => by kernel_rfl) fun a H => ?_
        refine An.pure H (.inr (HP)) 9 238 (itV (gI p1.its x_122.2)) rfl (by kernel_rfl) (by kernel_rfl) (fun _ _ _ h => h) (fun _ => by kernel_rfl) fun a H => ?_
        refine An.p H (.inr HP) 10 239 (.bool true) fun a H => ?_
        refine An.one 11 (by kernel_rfl) ?_
        refine Op.alloc H HP 29 (fun b => (pt b 0)) 38 [(ii 0), (ii 0), (ii 0), (ii 0), (ii 0)] rfl (by kernel_rfl) (fun w => by kernel_rfl) fun b_131 w_132 a H HP => ?_
        refine ⟨.inr ((HP.tail rfl)), ?_⟩
        refine An.one 12 (by kernel_rfl) ?_
        refine Op.store H HP 0 b_131 0 5 38 [(ii 0), (ii 0), (ii 0), (ii 0), (ii 0)] true (itV (gI p1.its x_122.2)) [bx b_131 38 (itL (gI p1.its x_122.2)) true, bx b_115 47 (bkL (gB p1.bs x_66.booking)) true, bx b_111 38 (itL (gI p1.its x_66.item)) true, bx b_106 43 [(ii x_66.id), (ii x_66.item), (ii x_66.frames), (ii x_66.earliest), (ii x_66.latest), (ii x_66.booking), (.slice Be3 x_66.al.length cBe3)] true, bx b_16 43 [(ii ((gE p1.es k).id)), (ii ((gE p1.es k).item)), (ii ((gE p1.es k).frames)), (ii ((gE p1.es k).earliest)), (ii ((gE p1.es k).latest)), (ii ((gE p1.es k).booking)), (.slice Be ((gE p1.es k).al.length) cBe)] true, bx b_12 47 (bkL (gB p1.bs k)) true, bx b_8 38 (itL (gI p1.its k)) true, bx b_1 32 (plL p1) true] rfl (by kernel_rfl) (by kernel_rfl) (by kernel_rfl) rfl (by kernel_rfl) (by kernel_rfl) (by kernel_rfl) (by kernel_rfl) (by kernel_rfl) fun w_133 a H HP => ?_
        refine ⟨.inr ((HP.tail rfl)), ?_⟩
        refine An.p H (.inr ((HP.tail rfl))) 13 30 (.bool true) fun a H => ?_
        refine An.done (by kernel_rfl) ?_
        refine then_normal (wp_seq (w_region ?_))
        refine H.v 240 (.bool true) fun a H => ?_
        refine H.v 241 (.bool false) fun a H => ?_
        refine H.v 242 (.bool false) fun a H => ?_
        refine H.v 243 (pt b_131 2) fun a H => ?_
        refine H.u 244 (ii ((gI p1.its x_122.2).frames)) (ex_l1 (HP.cell 0 rfl 2 rfl)) fun a H => ?_
        refine H.v 245 (pt b_106 2) fun a H => ?_
        refine H.u 246 (ii x_66.frames) (ex_l1 (HP.cell 3 rfl 2 rfl)) fun a H => ?_
        refine H.valE 247 (.bool (((gI p1.its x_122.2).frames) != x_66.frames)) (.bool false) (by kernel_rfl) (by kernel_rfl) ((congrArg Value.bool (by rw [g9.2]; simp))) fun a H => ?_
        refine H.v 248 (.bool false) fun a H => ?_
        refine wpList_nil (then_normal ?_)
        refine w_iff H rfl ?_
        refine wp_skip (inb_normal (then_normal (w_region ?_)))
        refine H.v 227 (ii j) fun a H => ?_
        refine H.valE 228 (ii (IntKind.i64.wrap ((j : Int) + 1))) (ii ((j : Int) + 1)) (by kernel_rfl) (by kernel_rfl) ((by rw [wrap_ini64 _ (by omega)])) fun a H => ?_
        refine H.v 28 (ii ((j : Int) + 1)) fun a H => ?_
        refine wpList_nil (then_normal ?_)
        have H := H.as 28 (ii ((j + 1 : Nat) : Int)) rfl rfl
        refine ⟨_, ?_, j + 1, rfl, H.keep (by kernel_rfl), (HP.tail rfl), (by omega)⟩
        omega
       ·refine Op.alloc H HP 29 (fun b => (pt b 0)) 38 [(ii 0), (ii 0), (ii 0), (ii 0), (ii 0)] rfl (by kernel_rfl) (fun w => by kernel_rfl) fun b_134 w_135 a H HP => ?_
        refine ⟨.inr ((HP.tail rfl)), ?_⟩
        refine An.one 7 (by kernel_rfl) ?_
        refine Op.call H 237 rfl (by kernel_rfl) (Eq.trans (by kernel_rfl : _ = (callFunc 18 #[(plV p1), (ii x_122.2)]).run Tryz.prog w_135) (Tryz.call18 _ _)) ((by have hh := item_any p1 x_122.2 w_135 (HP.fact 2 rfl : IsPln _ p1); rw [g9.1] at hh; exact hh)) ?_
        rintro e w_136 ⟨rfl, hb⟩
        refine ⟨_, rfl, ?_⟩
        intro a H
        have HP := HP.next hb
        refine ⟨.inr ((HP.tail rfl)), ?_⟩
        refine An.pure H (.inr ((HP.tail rfl))) 8 229 (.tuple #[(itV (gI p1.its x_122.2)), (.bool true)]) rfl (by kernel_rfl) (by kernel_rfl) (fun _ _ _ h => h) (fun _ => by kernel_rfl) fun a H => ?_
        refine An.pure H (.inr ((HP.tail rfl))) 9 238 (itV (gI p1.its x_122.2)) rfl (by kernel_rfl) (by kernel_rfl) (fun _ _ _ h => h) (fun _ => by kernel_rfl) fun a H => ?_
        refine An.p H (.inr ((HP.tail rfl))) 10 239 (.bool true) fun a H => ?_
        refine An.one 12 (by kernel_rfl) ?_
        refine Op.store H HP 0 b_134 0 5 38 [(ii 0), (ii 0), (ii 0), (ii 0), (ii 0)] true (itV (gI p1.its x_122.2)) [bx b_134 38 (itL (gI p1.its x_122.2)) true, bx b_115 47 (bkL (gB p1.bs x_66.booking)) true, bx b_111 38 (itL (gI p1.its x_66.item)) true, bx b_106 43 [(ii x_66.id), (ii x_66.item), (ii x_66.frames), (ii x_66.earliest), (ii x_66.latest), (ii x_66.booking), (.slice Be3 x_66.al.length cBe3)] true, bx b_16 43 [(ii ((gE p1.es k).id)), (ii ((gE p1.es k).item)), (ii ((gE p1.es k).frames)), (ii ((gE p1.es k).earliest)), (ii ((gE p1.es k).latest)), (ii ((gE p1.es k).booking)), (.slice Be ((gE p1.es k).al.length) cBe)] true, bx b_12 47 (bkL (gB p1.bs k)) true, bx b_8 38 (itL (gI p1.its k)) true, bx b_1 32 (plL p1) true] rfl (by kernel_rfl) (by kernel_rfl) (by kernel_rfl) rfl (by kernel_rfl) (by kernel_rfl) (by kernel_rfl) (by kernel_rfl) (by kernel_rfl) fun w_137 a H HP => ?_
        refine ⟨.inr ((HP.tail rfl)), ?_⟩
        refine An.p H (.inr ((HP.tail rfl))) 13 30 (.bool true) fun a H => ?_
        refine An.done (by kernel_rfl) ?_
        refine then_normal (wp_seq (w_region ?_))
        refine H.v 240 (.bool true) fun a H => ?_
        refine H.v 241 (.bool false) fun a H => ?_
        refine H.v 242 (.bool false) fun a H => ?_
        refine H.v 243 (pt b_134 2) fun a H => ?_
        refine H.u 244 (ii ((gI p1.its x_122.2).frames)) (ex_l1 (HP.cell 0 rfl 2 rfl)) fun a H => ?_
        refine H.v 245 (pt b_106 2) fun a H => ?_
        refine H.u 246 (ii x_66.frames) (ex_l1 (HP.cell 3 rfl 2 rfl)) fun a H => ?_
        refine H.valE 247 (.bool (((gI p1.its x_122.2).frames) != x_66.frames)) (.bool false) (by kernel_rfl) (by kernel_rfl) ((congrArg Value.bool (by rw [g9.2]; simp))) fun a H => ?_
        refine H.v 248 (.bool false) fun a H => ?_
        refine wpList_nil (then_normal ?_)
        refine w_iff H rfl ?_
        refine wp_skip (inb_normal (then_normal (w_region ?_)))
        refine H.v 227 (ii j) fun a H => ?_
        refine H.valE 228 (ii (IntKind.i64.wrap ((j : Int) + 1))) (ii ((j : Int) + 1)) (by kernel_rfl) (by kernel_rfl) ((by rw [wrap_ini64 _ (by omega)])) fun a H => ?_
        refine H.v 28 (ii ((j : Int) + 1)) fun a H => ?_
        refine wpList_nil (then_normal ?_)
        have H := H.as 28 (ii ((j + 1 : Nat) : Int)) rfl rfl
        refine ⟨_, ?_, j + 1, rfl, H.keep (by kernel_rfl), (HP.tail rfl), (by omega)⟩
        omega
      ·have g226p := of_decide_eq_false g226
       refine wp_exit (then_exit (then_exit ?_))
       refine w_exit_here ?_
       refine then_normal (w_region ?_)
       refine H.v 249 (.bool (fndE p1.es k i3)) fun a H => ?_
       refine H.v 250 (.bool (fndE p1.es k i3)) fun a H => ?_
       refine H.split 250 rfl (fun g250 H => ?_) (fun g250 H => ?_)
       ·have g250p := g250
        refine H.v 251 (pt b_1 10) fun a H => ?_
        refine H.u 252 (.slice p1.EA p1.es.length p1.ec) (ex_l1 (HP.cell 6 rfl 10 rfl)) fun a H => ?_
        refine H.v 253 (ii i3) fun a H => ?_
        refine H.u 254 (.pointer (some ⟨bu_67, ou_68 + i3 * 7, none⟩)) (ex_indexA (b := bu_67) (off := ou_68) (len := p1.es.length) (cap := p1.ec) (e := 43) (k := 7) (ik := .i64) (i := (i3 : Int)) (m := i3) hA_69 (by kernel_rfl) (by kernel_rfl) (by omega) (by omega) (by kernel_rfl) (by kernel_rfl)) fun a H => ?_
        refine H.v 255 (.pointer (some ⟨bu_67, ou_68 + i3 * 7, none⟩)) fun a H => ?_
        refine H.u 256 (ii x_66.id) (ex_l1 (IsRow.cells enC_size ((HP.fact 2 rfl : IsPln _ p1).es.row) hA_69 hx_70 0 _ rfl)) fun a H => ?_
        refine H.v 257 (ii k) fun a H => ?_
        refine H.v 258 (.bool (x_66.id != k)) fun a H => ?_
        refine H.v 259 (.bool (x_66.id != k)) fun a H => ?_
        refine H.v 11 (.bool (x_66.id != k)) fun a H => ?_
        refine wpList_nil (inb_normal (then_normal (w_region ?_)))
        refine H.v 157 (ii i3) fun a H => ?_
        refine H.valE 158 (ii (IntKind.i64.wrap ((i3 : Int) + 1))) (ii ((i3 : Int) + 1)) (by kernel_rfl) (by kernel_rfl) ((by rw [wrap_ini64 _ (by omega)])) fun a H => ?_
        refine H.v 20 (ii ((i3 : Int) + 1)) fun a H => ?_
        refine wpList_nil (then_normal ?_)
        have H := H.as 20 (ii ((i3 + 1 : Nat) : Int)) rfl rfl
        have H := H.as 11 (.bool (fndE p1.es k (i3 + 1))) rfl (congrArg Value.bool (fndE_t g250 hx_70))
        refine ⟨_, ?_, i3 + 1, rfl, H.keep (by kernel_rfl), ((((HP.tail rfl).tail rfl).tail rfl).untop), (by omega)⟩
        omega
       ·have g250p := g250
        iterate 8 refine H.sx rfl fun a H => ?_
        refine H.v 259 (.bool false) fun a H => ?_
        refine H.v 11 (.bool false) fun a H => ?_
        refine wpList_nil (inb_normal (then_normal (w_region ?_)))
        refine H.v 157 (ii i3) fun a H => ?_
        refine H.valE 158 (ii (IntKind.i64.wrap ((i3 : Int) + 1))) (ii ((i3 : Int) + 1)) (by kernel_rfl) (by kernel_rfl) ((by rw [wrap_ini64 _ (by omega)])) fun a H => ?_
        refine H.v 20 (ii ((i3 : Int) + 1)) fun a H => ?_
        refine wpList_nil (then_normal ?_)
        have H := H.as 20 (ii ((i3 + 1 : Nat) : Int)) rfl rfl
        have H := H.as 11 (.bool (fndE p1.es k (i3 + 1))) rfl (congrArg Value.bool (fndE_f g250 hx_70))
        refine ⟨_, ?_, i3 + 1, rfl, H.keep (by kernel_rfl), ((((HP.tail rfl).tail rfl).tail rfl).untop), (by omega)⟩
        omega
   ·have g156p := of_decide_eq_false g156
    refine wp_exit (then_exit (then_exit ?_))
    refine w_exit_here ?_
    refine then_normal (wp_seq ?_)
    have ha3 : fndE p1.es k i3 = false := fndE_end (by omega)
    refine w_region ?_
    refine H.v 260 (.bool true) fun a H => ?_
    refine H.v 261 (.bool true) fun a H => ?_
    refine H.v 262 (.bool (fndI p1.its k i1)) fun a H => ?_
    refine H.valE 263 (.bool (!(fndI p1.its k i1))) (.bool true) (by kernel_rfl) (by kernel_rfl) ((congrArg Value.bool (by rw [ha1]; rfl))) fun a H => ?_
    refine H.v 264 (.bool true) fun a H => ?_
    refine H.v 265 (.bool true) fun a H => ?_
    refine H.v 266 (.bool (fndB p1.bs k i2)) fun a H => ?_
    refine H.valE 267 (.bool (!(fndB p1.bs k i2))) (.bool true) (by kernel_rfl) (by kernel_rfl) ((congrArg Value.bool (by rw [ha2]; rfl))) fun a H => ?_
    refine H.v 268 (.bool true) fun a H => ?_
    refine H.v 269 (.bool true) fun a H => ?_
    refine H.v 270 (.bool (fndE p1.es k i3)) fun a H => ?_
    refine H.valE 271 (.bool (!(fndE p1.es k i3))) (.bool true) (by kernel_rfl) (by kernel_rfl) ((congrArg Value.bool (by rw [ha3]; rfl))) fun a H => ?_
    refine H.v 272 (.bool true) fun a H => ?_
    refine H.v 4 (.bool true) fun a H => ?_
    refine wpList_nil (then_normal (wp_ret ?_))
    refine H.ret1 (fn := Tryz.f11) Tryz.results11 (RV.tmp_ (v := (.bool true)) (by kernel_rfl)) ?_
    exact ⟨rfl, HP.bl⟩
set_option maxRecDepth 100000 in
set_option maxHeartbeats 4000000 in
theorem finds_none (p : Pln) (k : Int) (w : World) (a0 a1 : Addr) (hL : LaidP a0 a1 w) (hpl_p : IsPln w p) (hf_p : PlFit p) (hv : validN (shN p.nv) = false) : Calls Tryz.prog 11 #[(plV p), .int .i64 k] w fun e w' => e = .returned (.bool true) ∧ Below w.heap.size w w' := by
 have HP := Hp.start w
 refine w_enter 273 [(0, (plV p)), (1, (ii k))] Tryz.func11 rfl Tryz.ntmps11 (by kernel_rfl) (by kernel_rfl) fun a H => ?_
 refine wp_seq (w_region ?_)
 refine H.alloc HP 2 (fun b => (pt b 0)) 32 (plL p) (by kernel_rfl) (fun w => by kernel_rfl) fun b_1 w_2 a H HP => ?_
 refine H.v 4 (.bool false) fun a H => ?_
 refine wpList_nil (then_normal (wp_seq (w_region ?_)))
 refine H.call 31 (by kernel_rfl) (Eq.trans (by kernel_rfl : _ = (callFunc 12 #[]).run Tryz.prog w_2) (Tryz.call12 _ _)) (sane_any a0 a1 w_2 (hL.below HP.bl)) ?_
 rintro e w_3 ⟨rfl, hb⟩
 refine ⟨_, rfl, ?_⟩
 intro a H
 have HP := HP.next hb
 refine H.v 5 (.bool true) fun a H => ?_
 refine wpList_nil (then_normal (wp_seq (w_region ?_)))
 refine H.u 32 (plV p) (ex_loadN (vs := (plL p)) (by kernel_rfl) (by kernel_rfl) (by kernel_rfl) rfl (HP.cells 0 rfl 0 13 (by kernel_rfl))) fun a H => ?_
 refine H.call 33 (by kernel_rfl) (Eq.trans (by kernel_rfl : _ = (callFunc 13 #[(plV p)]).run Tryz.prog w_3) (Tryz.call13 _ _)) (short_law p w w_3 hpl_p HP.bl hf_p) ?_
 rintro e w_4 ⟨p1, rfl, hnv_p1, hq_p1, hfr_p1, hsm_p1, hb⟩
 refine ⟨_, rfl, ?_⟩
 intro a H
 have HP := HP.keepQ hb (by kernel_rfl) p1 hq_p1 hfr_p1
 refine H.store HP 0 b_1 0 13 32 _ true (plV p1) [bx b_1 32 (plL p1) true] (by kernel_rfl) (by kernel_rfl) (by kernel_rfl) rfl (by kernel_rfl) (by kernel_rfl) (by kernel_rfl) (by kernel_rfl) (by kernel_rfl) fun w_5 a H HP => ?_
 refine wpList_nil (then_normal (wp_seq (wp_seq (w_region ?_))))
 refine H.u 34 (plV p1) (ex_loadN (vs := (plL p1)) (by kernel_rfl) (by kernel_rfl) (by kernel_rfl) rfl (HP.cells 0 rfl 0 13 (by kernel_rfl))) fun a H => ?_
 refine H.call 35 (by kernel_rfl) (Eq.trans (by kernel_rfl : _ = (callFunc 14 #[(plV p1)]).run Tryz.prog w_5) (Tryz.call14 _ _)) ((by have hh := valid_any p1 w_5 (HP.fact 0 rfl : IsPln _ p1) (hL.below HP.bl).rates; rw [valid_on hnv_p1 hv] at hh; exact hh)) ?_
 rintro e w_6 ⟨rfl, hb⟩
 refine ⟨_, rfl, ?_⟩
 intro a H
 have HP := HP.next hb
 refine H.v 36 (.bool true) fun a H => ?_
 refine wpList_nil (then_normal ?_)
 refine w_ift H rfl ?_
 refine wp_seq (w_region ?_)
 refine H.v 37 (.bool true) fun a H => ?_
 refine H.v 4 (.bool true) fun a H => ?_
 refine wpList_nil (then_normal (wp_ret (then_ret ?_)))
 refine H.ret1 (fn := Tryz.f11) Tryz.results11 (RV.tmp_ (v := (.bool true)) (by kernel_rfl)) ?_
 exact ⟨rfl, HP.bl⟩
theorem finds_law (p : Pln) (k : Int) (w : World) (a0 a1 : Addr) (hL : LaidP a0 a1 w) (hpl_p : IsPln w p) (hf_p : PlFit p) : Calls Tryz.prog 11 #[plV p, .int .i64 k] w fun e w' => e = .returned (.bool true) ∧ Below w.heap.size w w' := by
 cases hv : validN (shN p.nv) with
 | true => exact finds_some p k w a0 a1 hL hpl_p hf_p hv
 | false => exact finds_none p k w a0 a1 hL hpl_p hf_p hv
end Go.Proofs.YteeillphhiaopaaGreatDoor
namespace Go.Proofs.YteeillphhiaopaaGreatDoor.planFinds
open Go.ChangeShapes Go.WideShapes Go.ChangeAt Go.RowKit
set_option linter.unusedVariables false
theorem walk (x0 : Pln) (x1 : Int) (w : World) (h : ∃ a0 a1, LaidP a0 a1 w) (hx0 : opPl.ok w x0) (hx1 : (Lit.int .i64 x1).wf = true) : Calls Tryz.prog 11 #[plV x0, .int .i64 x1] w fun e w' => e = .returned (.bool true) ∧ Below w.heap.size w w' := by
  obtain ⟨a0, a1, hL⟩ := h
  have kx0 : IsPln w x0 ∧ PlFit x0 := hx0
  exact finds_law x0 x1 w a0 a1 hL kx0.1 kx0.2
end Go.Proofs.YteeillphhiaopaaGreatDoor.planFinds
namespace Go.Proofs.YteeillphhiaopaaGreatDoor.planFinds
open Go.ChangeShapes Go.WideShapes Go.ChangeAt Go.RowKit
open Go.ChangeMaps (open_string shut_string)
set_option linter.unusedVariables false
theorem own : ownKnob Tryz.prog.godebug = none := by kernel_rfl
theorem laidOut : laidOutB Tryz.prog = true := by kernel_rfl
set_option maxRecDepth 100000 in
theorem lifted (os : Os) (started : os.Started) (H : Type) (enc : TypeId × Value → H) :
    ReturnsInHanded {} Tryz.checked os 11 .any (fun w args => (Rows.planFindsSpec.pre enc Tryz.prog Tryz.f11 [] false w args ∧ laidMetH Tryz.prog laid2 w) ∧ sizedMet enc Tryz.prog Tryz.f11 (OpenSpec.ofChange Rows.planFindsSpec) false w args) (Rows.planFindsSpec.post enc Tryz.prog Tryz.f11 false true false false) := by
  refine returnsInHanded_of_change_and (C := Tryz.checked) (X := fun w _ => laidMetH Tryz.prog laid2 w) (fun _ _ _ hh h => h.of_heap hh) own started (by kernel_rfl) Tryz.func11
    (ChangeSpec.witness_shaped (enc := enc) (C := Tryz.checked) (os := os) (X := fun w _ => laidMetH Tryz.prog laid2 w) false (World.doorLaid Tryz.prog 4000 os) #[.agg #[.int .i64 0, .int .i64 0, .int .i64 0, .int .i64 0, .slice none 0 0, .int .i64 0, .int .i64 0, .int .i64 0, .int .i64 0, .slice none 0 0, .slice none 0 0, .slice none 0 0, .slice none 0 0], .int .i64 0] 12 rfl (World.shaped_of_RefB (by kernel_rfl) (by kernel_rfl)) (by kernel_rfl) (by kernel_rfl) (by kernel_rfl) (door_met os _)) ?_
  intro W base args ds gs before hval0 hW hcnd hsz0 hL _
  have hval : ∀ (j : Nat) t v, Tryz.f11.params[j]? = some t → args[j]? = some v → Value.okWide Tryz.prog W .any base t v := hval0
  have hW' := hW
  obtain ⟨p, q, hA0, hV, rfl, hfz, hnd⟩ := hW
  have hA : DataW.TrodAll enc Tryz.prog W 0 (fun _ => true) true Tryz.f11.params.toList args.toList ds p := hA0
  have hsz : (DataW.weightsEach Tryz.prog (Tryz.f11.params.toList ++ Rows.planFindsSpec.plain.varTypes Tryz.prog) (ds ++ gs)).all (· ≤ reachBytes) = true := hsz0
  rw [Tryz.params11] at hA hval hsz
  obtain ⟨v0, vs0, d0, ds0, p0, q0, hargs, rfl, rfl, h0, r0⟩ := trodAll_cons hA
  obtain ⟨v1, vs1, d1, ds1, p1, q1, rfl, rfl, rfl, h1, r1⟩ := trodAll_cons r0
  obtain ⟨rfl, rfl, rfl⟩ := trodAll_nil r1
  obtain rfl : args = #[v0, v1] := by cases args; simp_all
  obtain ⟨rfl, rfl⟩ := trodVars_none hV
  obtain ⟨cs0, rfl, _⟩ := okWide_struct Tryz.underlying32 (hval 0 32 v0 rfl rfl)
  have k0 := h0
  have lt0 : ∀ x ∈ p0, x.block < W.heap.size := by obtain ⟨m, hm⟩ := k0; exact DataW.trod_lt m _ _ _ hm
  obtain ⟨a0, w0, e0⟩ : ∃ a, opPl.ok W a ∧ cs0 = (opPl.cells a).toArray := by
    obtain ⟨fuel, hf⟩ := h0
    obtain ⟨a, ha, hok⟩ := opPl.opens hf (fun n hn => of_decide_eq_true (List.all_eq_true.1 hsz n (DataW.weights_mem_each (j := 0) (t := 32) (by rfl) (by rfl) n hn)))
    refine ⟨a, hok, ?_⟩
    have : cs0.toList = opPl.cells a := ha
    rw [← this]
  subst e0
  obtain ⟨a1, rfl, rfl, rfl, w1⟩ := open_int Tryz.underlying3 (hval 1 3 v1 rfl rfl) h1
  clear hA0 hval0 hsz0
  refine (walk a0 a1 W (laid_of hL) w0 w1).mono fun e W' ⟨he, bel⟩ => ?_
  subst he
  exact ⟨_, rfl, _, _, _, [], _, [], hW', trodAll_mk1 (shut_bool Tryz.underlying4 _), (trodAll_cons_mk (Below.trod laidOut (by kernel_rfl) (of_decide_eq_true (by kernel_rfl)) k0 bel lt0) (trodAll_cons_mk (shut_int Tryz.underlying3 w1) trodAll_mk0)), rfl, bel.frame _, fun h => by cases h⟩
theorem over : Rows.planFindsRow.holds Tryz.pinned (OpenSpec.ofChange Rows.planFindsSpec) :=
  OpenClaim.holds_of_wide 11 Tryz.f11 rfl rfl rfl rfl rfl rfl rfl ⟨rfl, rfl, rfl, rfl, rfl⟩ rfl rfl rfl rfl rfl (by kernel_rfl) Tryz.func11 (by kernel_rfl)
    (of_decide_eq_true (by kernel_rfl)) (by unfold Func.isWrapper; first | (rw [if_pos (by decide +kernel)]; kernel_rfl) | (rw [if_neg (by decide +kernel)]; exact ⟨rfl, rfl⟩))
    (fun os started H enc _ => lifted os started H enc)
theorem proved : Rows.PlanFindsCardSaid :=
  Claim7.holds_tied_plain_at .later [] [.data, .sentinel, .sentinel] true (true, "0920b850dcc38d1adf8ac1a12a8052cedc72f0c93030e4301d2dcc84e7d73c35") true
    over (fun _ h => by cases h) (by kernel_rfl) (fun _ h => by cases h) planFinds_row_tie rfl ⟨rfl, rfl⟩ (by kernel_rfl) rfl
    (fun f fn hf hfn => by
      obtain rfl : f = 11 := Option.some.inj ((show Tryz.prog.funcNamed "onair/onairlaw08.PlanFinds" = some 11 by kernel_rfl).symm.trans hf) |>.symm
      obtain rfl : fn = Tryz.f11 := (Option.some.inj (Tryz.func11.symm.trans hfn)).symm
      exact ⟨by kernel_rfl, fun j t ht => by
        rw [Tryz.params11] at ht
        have hm : t ∈ [32, 3] := by simpa using Array.mem_of_getElem? ht
        have hall : ([32, 3].all fun u => !Tryz.prog.wantsStandIn u) = true := by kernel_rfl
        exact (show Tryz.prog.wantsStandIn t = false by simpa using List.all_eq_true.1 hall t hm)⟩)
    (by kernel_rfl)
#print axioms proved
end Go.Proofs.YteeillphhiaopaaGreatDoor.planFinds
