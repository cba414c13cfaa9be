/- Part 3 of the proofs: PlG, WireP, WireW, WrA, PlN, WrB, WrP, DeA, CrdP, Iter, SymE, SymG. -/
import Derived.Laws.BitsAllLaws
import Derived.RangeFuncBox
import Derived.RangeFuncLeaves
import Derived.Shelf.Abstract
import Derived.OwnWalkIn
import Derived.TacticsInMore
import Derived.LoopNIn
import Derived.LoopIn
import Derived.RangeFuncFrom
import Derived.Laws.IdiomStrings
import Derived.WalkLawsBesides
import Derived.Test.YteeillphhiaopaaGreatDoorRows
import Derived.ProofKit
import Derived.LaidMore
import Derived.OpenShut
import Derived.Stop.Joined
import Derived.Stop.LaidTwo
import Derived.Deep.Strs
import Derived.RangeFuncNested
import Derived.RangeFuncBound
import Derived.RangeFuncCalls
import Derived.Shelf.RegionOpen
import Derived.WalkKit
import Derived.Scope
import Derived.Lib.BufferWrite
import Derived.Laws.CopyOwn
import Derived.Lib.FrozenHead
import Derived.Test.YteeillphhiaopaaGreatDoorZsb
namespace Go.Proofs.YteeillphhiaopaaGreatDoor
set_option maxRecDepth 100000
set_option maxHeartbeats 4000000
open Go.ChangeShapes Go.WideShapes Go.ChangeAt Go.RowKit
set_option linter.unusedVariables false
set_option linter.unusedSimpArgs false
def boxK (b : Nat) (t : TypeId) (vs : List Value) : FK := ⟨fun k => k = b, fun w => Box w b t vs.toArray⟩
theorem boxK_ok (b : Nat) (t : TypeId) (vs : List Value) : (boxK b t vs).ok := fun _ _ h hk _ => (hk b rfl).trans h
def mapK (b : Nat) (l : List (Int × Value)) : FK := ⟨fun k => k = b, fun w => MapAt w b l⟩
theorem mapK_ok (b : Nat) (l : List (Int × Value)) : (mapK b l).ok := fun _ _ h hk _ => (hk b rfl).trans h
theorem box_map {w : World} {b m : Nat} {t : TypeId} {vs : Array Value} {l : List (Int × Value)} (h : Box w b t vs) (h' : MapAt w m l) : b ≠ m := fun e => by
 subst e
 unfold Box at h
 unfold MapAt at h'
 rw [h] at h'
 cases h'
theorem rateP_eq (n d : Int) : rateP n d = rateOk n d := by
 unfold rateP rateOk
 rw [show rateL = rateTab from rfl, List.contains_eq_any_beq]
 congr 1
 funext p
 rw [Bool.eq_iff_iff]
 simp only [beq_iff_eq, Bool.and_eq_true, Prod.ext_iff]
 exact ⟨fun h => ⟨h.1.symm, h.2.symm⟩, fun h => ⟨h.1.symm, h.2.symm⟩⟩
theorem soundP_eq (p : Pln) : soundP p = (inR p.channel 0 39 && rateOk p.num p.den && zoneP p.offset p.sh && inR p.epoch 0 9000000000 && inR p.regions 1 8 && inR p.length 1 100000000) := by
 unfold soundP; rw [rateP_eq]
theorem sound_facts {p : Pln} (h : soundP p = true) : (1 ≤ p.regions ∧ p.regions ≤ 8) ∧ (1 ≤ p.length ∧ p.length ≤ 100000000) := by
 unfold soundP at h
 simp only [Bool.and_eq_true, inR_iff] at h
 exact ⟨h.1.2, h.2⟩
theorem its_facts {l : List Itm} {fill : Int} (h : itsP l fill = true) : l.all itemP = true := by
 unfold itsP at h
 simp only [Bool.and_eq_true] at h
 exact h.1.2
theorem asc_fresh {α : Type} {f : α → Int} {lo hi : Int} {l : List α} (h : asc lo hi (l.map f) = true) {i : Nat} {x : α} (hx : l[i]? = some x) : ∀ y ∈ l.take i, f y ≠ f x := by
 intro y hy
 have hp := asc_pair h
 rw [List.pairwise_map] at hp
 have hi := (List.getElem?_eq_some_iff.1 hx).1
 have hs : l = l.take i ++ x :: l.drop (i + 1) := by
  have : x = l[i] := ((List.getElem?_eq_some_iff.1 hx).2).symm
  rw [this, List.getElem_cons_drop, List.take_append_drop]
 rw [hs, List.pairwise_append] at hp
 have := hp.2.2 y hy x (List.mem_cons_self ..)
 omega
theorem take_snoc {α : Type} {l : List α} {i : Nat} {x : α} (hx : l[i]? = some x) : l.take (i + 1) = l.take i ++ [x] := by
 rw [List.take_add_one, hx]; rfl
theorem itM_snoc {l : List Itm} {i : Nat} {x : Itm} (hx : l[i]? = some x) : itM (l.take i) ++ [(x.id, .agg (itC x))] = itM (l.take (i + 1)) := by
 rw [take_snoc hx]; simp [itM]
theorem bkM_snoc {l : List Bkg} {i : Nat} {x : Bkg} (hx : l[i]? = some x) : bkM (l.take i) ++ [(x.id, .agg (bkC x))] = bkM (l.take (i + 1)) := by
 rw [take_snoc hx]; simp [bkM]
theorem ids_snoc {l : List Ent} {i : Nat} {x : Ent} (hx : l[i]? = some x) : (l.take i).map (fun x => x.id) ++ [x.id] = (l.take (i + 1)).map (fun x => x.id) := by
 rw [take_snoc hx]; simp
theorem se_snoc {l : List Ent} {i : Nat} {x : Ent} (hx : l[i]? = some x) : seM ((l.take i).map (fun x => x.id)) ++ [(x.id, .bool true)] = seM ((l.take (i + 1)).map (fun x => x.id)) := by
 rw [take_snoc hx]; simp [seM]
theorem fr_it {l : List Itm} {k : Int} (h : ∀ y ∈ l, y.id ≠ k) : ∀ z ∈ itM l, z.1 ≠ k := by
 intro z hz
 simp only [itM, List.mem_map] at hz
 obtain ⟨y, hy, rfl⟩ := hz
 exact h y hy
theorem fr_bk {l : List Bkg} {k : Int} (h : ∀ y ∈ l, y.id ≠ k) : ∀ z ∈ bkM l, z.1 ≠ k := by
 intro z hz
 simp only [bkM, List.mem_map] at hz
 obtain ⟨y, hy, rfl⟩ := hz
 exact h y hy
theorem se_none {l : List Int} {k : Int} (h : l.contains k = false) : mget k (seM l) = none := by
 have := (mget_se l k).2
 rw [h] at this
 cases hm : mget k (seM l) with
 | none => rfl
 | some v => rw [hm] at this; cases this
theorem Hp.fp_new {w0 w : World} {L : List HB} {K : List FK} (H : Hp w0 w L K) (i : Nat) {b : Nat} {l : List (Int × Value)} (hi : L[i]? = some (mapB b l true)) {k : Nat} (hk : k < w0.heap.size) : k ≠ b := fun e => by
 have := H.fresh _ (List.mem_of_getElem? hi) rfl b rfl
 omega
theorem pair_at {α : Type} {R : α → α → Prop} {L : List α} (h : L.Pairwise R) : ∀ {i j : Nat} {x y : α}, L[i]? = some x → L[j]? = some y → i < j → R x y := by
 intro i j x y hx hy hij
 obtain ⟨h1, rfl⟩ := List.getElem?_eq_some_iff.1 hx
 obtain ⟨h2, rfl⟩ := List.getElem?_eq_some_iff.1 hy
 exact List.pairwise_iff_getElem.1 h i j h1 h2 hij
theorem Hp.two {w0 w : World} {L : List HB} {K : List FK} (H : Hp w0 w L K) (i j : Nat) {b c : Nat} {l l' : List (Int × Value)} {f f' : Bool} (hi : L[i]? = some (mapB b l f)) (hj : L[j]? = some (mapB c l' f')) (hij : i < j) : b ≠ c := fun e => pair_at H.apart hi hj hij b rfl e
theorem sound_any (b m1 m2 : Nat) (p : Pln) (w : World) (hbx : Box w b 67 (bookC p m1 m2).toArray) (hpl : IsPln w p) (hL : LaidR w) : Calls Tryz.prog 31 #[.pointer (some ⟨b, 0, none⟩)] w fun e w' => e = .returned (.bool (soundP p)) ∧ Below w.heap.size w w' := by
 have HP := Hp.start w
 refine w_enter 49 [(0, (pt b 0))] Tryz.func31 rfl Tryz.ntmps31 (by kernel_rfl) (by kernel_rfl) fun a H => ?_
 refine sq (rg ?_)
 refine H.v 2 (.bool false) fun a H => ?_
 refine nl (tn (sq (rg ?_)))
 refine H.v 3 (pt b 0) fun a H => H.v 4 (pt b 0) fun a H => H.v 5 (pt b 0) fun a H => H.v 6 (pt b 0) fun a H => H.u 7 (ii p.channel) (ex_l1 ((hbx.next HP.bl).cell (i := 0) rfl)) fun a H => H.cb HP 8 (Tryz.call67 _ _) (within_any p.channel 0 39 w) fun w_1 hb a H HP => H.v 9 (.bool (inR p.channel 0 39)) fun a H => ?_
 refine H.split 9 rfl (fun g9 H => ?_) (fun g9 H => ?_)
 ·have g9p := inR_iff.1 g9
  refine H.v 10 (pt b 0) fun a H => H.v 11 (pt b 0) fun a H => H.v 12 (pt b 0) fun a H => H.v 13 (pt b 1) fun a H => H.u 14 (.agg #[(ii p.num), (ii p.den)]) (ex_lN [(ii p.num), (ii p.den)] (cells2 ((hbx.next HP.bl).cell (i := 1) rfl) ((hbx.next HP.bl).cell (i := 2) rfl))) fun a H => H.cb HP 15 (Tryz.call68 _ _) (tvalid_any p.num p.den w_1 (hL.below HP.bl)) fun w_2 hb a H HP => H.v 16 (.bool (rateOk p.num p.den)) fun a H => H.v 17 (.bool (rateOk p.num p.den)) fun a H => ?_
  refine H.split 17 rfl (fun g17 H => ?_) (fun g17 H => ?_)
  ·have g17p := g17
   refine H.v 18 (pt b 0) fun a H => H.v 19 (pt b 0) fun a H => H.v 20 (pt b 0) fun a H => H.v 21 (pt b 3) fun a H => H.u 22 (.agg #[(ii p.offset), (.slice p.SA p.sh.length p.sc)]) (ex_lN [(ii p.offset), (.slice p.SA p.sh.length p.sc)] (cells2 ((hbx.next HP.bl).cell (i := 3) rfl) ((hbx.next HP.bl).cell (i := 4) rfl))) fun a H => H.cb HP 23 (Tryz.call69 _ _) (zone_any p.offset p.SA p.sc p.sh w_2 (hpl.sh.below HP.bl) hpl.lsh) fun w_3 hb a H HP => H.v 24 (.bool (zoneP p.offset p.sh)) fun a H => H.v 25 (.bool (zoneP p.offset p.sh)) fun a H => ?_
   refine H.split 25 rfl (fun g25 H => ?_) (fun g25 H => ?_)
   ·have g25p := g25
    refine H.v 26 (pt b 0) fun a H => H.v 27 (pt b 0) fun a H => H.v 28 (pt b 0) fun a H => H.v 29 (pt b 5) fun a H => H.u 30 (ii p.epoch) (ex_l1 ((hbx.next HP.bl).cell (i := 5) rfl)) fun a H => H.cb HP 31 (Tryz.call67 _ _) (within_any p.epoch 0 9000000000 w_3) fun w_4 hb a H HP => H.v 32 (.bool (inR p.epoch 0 9000000000)) fun a H => H.v 33 (.bool (inR p.epoch 0 9000000000)) fun a H => ?_
    refine H.split 33 rfl (fun g33 H => ?_) (fun g33 H => ?_)
    ·have g33p := inR_iff.1 g33
     refine H.v 34 (pt b 0) fun a H => H.v 35 (pt b 0) fun a H => H.v 36 (pt b 0) fun a H => H.v 37 (pt b 6) fun a H => H.u 38 (ii p.regions) (ex_l1 ((hbx.next HP.bl).cell (i := 6) rfl)) fun a H => H.cb HP 39 (Tryz.call67 _ _) (within_any p.regions 1 8 w_4) fun w_5 hb a H HP => H.v 40 (.bool (inR p.regions 1 8)) fun a H => H.v 41 (.bool (inR p.regions 1 8)) fun a H => ?_
     refine H.split 41 rfl (fun g41 H => ?_) (fun g41 H => ?_)
     ·have g41p := inR_iff.1 g41
      refine H.v 42 (pt b 0) fun a H => H.v 43 (pt b 0) fun a H => H.v 44 (pt b 0) fun a H => H.v 45 (pt b 7) fun a H => H.u 46 (ii p.length) (ex_l1 ((hbx.next HP.bl).cell (i := 7) rfl)) fun a H => H.cb HP 47 (Tryz.call67 _ _) (within_any p.length 1 100000000 w_5) fun w_6 hb a H HP => H.v 48 (.bool (inR p.length 1 100000000)) fun a H => H.v 2 (.bool (inR p.length 1 100000000)) fun a H => ?_
      refine nl (tn (rt ?_))
      refine H.r1 (.bool (inR p.length 1 100000000)) Tryz.results31 ?_
      exact ⟨by rw [show soundP p = (inR p.length 1 100000000) from by simp [soundP_eq, g9, g17, g25, g33, g41]], HP.bl⟩
     have g41p := inR_not.1 g41
     iterate 6 refine H.sx rfl fun a H => ?_
     refine H.v 48 (.bool false) fun a H => H.v 2 (.bool false) fun a H => ?_
     refine nl (tn (rt ?_))
     refine H.r1 (.bool false) Tryz.results31 ?_
     exact ⟨by rw [show soundP p = (false) from by simp [soundP_eq, g9, g17, g25, g33, g41]], HP.bl⟩
    have g33p := inR_not.1 g33
    iterate 6 refine H.sx rfl fun a H => ?_
    refine H.v 40 (.bool false) fun a H => H.v 41 (.bool false) fun a H => ?_
    iterate 6 refine H.sx rfl fun a H => ?_
    refine H.v 48 (.bool false) fun a H => H.v 2 (.bool false) fun a H => ?_
    refine nl (tn (rt ?_))
    refine H.r1 (.bool false) Tryz.results31 ?_
    exact ⟨by rw [show soundP p = (false) from by simp [soundP_eq, g9, g17, g25, g33]], HP.bl⟩
   have g25p := g25
   iterate 6 refine H.sx rfl fun a H => ?_
   refine H.v 32 (.bool false) fun a H => H.v 33 (.bool false) fun a H => ?_
   iterate 6 refine H.sx rfl fun a H => ?_
   refine H.v 40 (.bool false) fun a H => H.v 41 (.bool false) fun a H => ?_
   iterate 6 refine H.sx rfl fun a H => ?_
   refine H.v 48 (.bool false) fun a H => H.v 2 (.bool false) fun a H => ?_
   refine nl (tn (rt ?_))
   refine H.r1 (.bool false) Tryz.results31 ?_
   exact ⟨by rw [show soundP p = (false) from by simp [soundP_eq, g9, g17, g25]], HP.bl⟩
  have g17p := g17
  iterate 6 refine H.sx rfl fun a H => ?_
  refine H.v 24 (.bool false) fun a H => H.v 25 (.bool false) fun a H => ?_
  iterate 6 refine H.sx rfl fun a H => ?_
  refine H.v 32 (.bool false) fun a H => H.v 33 (.bool false) fun a H => ?_
  iterate 6 refine H.sx rfl fun a H => ?_
  refine H.v 40 (.bool false) fun a H => H.v 41 (.bool false) fun a H => ?_
  iterate 6 refine H.sx rfl fun a H => ?_
  refine H.v 48 (.bool false) fun a H => H.v 2 (.bool false) fun a H => ?_
  refine nl (tn (rt ?_))
  refine H.r1 (.bool false) Tryz.results31 ?_
  exact ⟨by rw [show soundP p = (false) from by simp [soundP_eq, g9, g17]], HP.bl⟩
 have g9p := inR_not.1 g9
 iterate 6 refine H.sx rfl fun a H => ?_
 refine H.v 16 (.bool false) fun a H => H.v 17 (.bool false) fun a H => ?_
 iterate 6 refine H.sx rfl fun a H => ?_
 refine H.v 24 (.bool false) fun a H => H.v 25 (.bool false) fun a H => ?_
 iterate 6 refine H.sx rfl fun a H => ?_
 refine H.v 32 (.bool false) fun a H => H.v 33 (.bool false) fun a H => ?_
 iterate 6 refine H.sx rfl fun a H => ?_
 refine H.v 40 (.bool false) fun a H => H.v 41 (.bool false) fun a H => ?_
 iterate 6 refine H.sx rfl fun a H => ?_
 refine H.v 48 (.bool false) fun a H => H.v 2 (.bool false) fun a H => ?_
 refine nl (tn (rt ?_))
 refine H.r1 (.bool false) Tryz.results31 ?_
 exact ⟨by rw [show soundP p = (false) from by simp [soundP_eq, g9]], HP.bl⟩
theorem hasItems_any (b m1 m2 : Nat) (p : Pln) (w : World) (hbx : Box w b 67 (bookC p m1 m2).toArray) (hm : MapAt w m1 []) (hpl : IsPln w p) (hfp : ∀ k, p.fp k → k ≠ m1) : Calls Tryz.prog 32 #[.pointer (some ⟨b, 0, none⟩)] w fun e w' => e = .returned (.bool (itsP p.its p.fill)) ∧ ∃ l, MapAt w' m1 l ∧ (itsP p.its p.fill = true → l = itM p.its) ∧ w.grownBy w' (some m1) := by
 have hlI := hpl.lits
 unfold maxLen at hlI
 have hne : b ≠ m1 := box_map hbx hm
 have HP : Hp w w [mapB m1 (itM []) false] [boxK b 67 (bookC p m1 m2), plnK p] := ((Hp.ownM hm).keepF (plnK p) hpl (plnK_ok p) (fun k hk => ⟨hpl.lt k hk, by simpa [mapB] using hfp k hk⟩)).keepF (boxK b 67 (bookC p m1 m2)) hbx (boxK_ok _ _ _) (fun k hk => ⟨by cases hk; exact hbx.lt, by cases hk; simpa [mapB] using hne⟩)
 refine w_enter 73 [(0, (pt b 0))] Tryz.func32 rfl Tryz.ntmps32 (by kernel_rfl) (by kernel_rfl) fun a H => ?_
 refine sq (rg ?_)
 refine H.v 2 (.bool false) fun a H => ?_
 refine nl (tn (sq (sq (rg ?_))))
 refine H.v 5 (pt b 0) fun a H => H.v 6 (pt b 0) fun a H => H.v 7 (pt b 0) fun a H => H.v 8 (pt b 9) fun a H => H.u 9 (.slice p.IA p.its.length p.ic) (ex_l1 (((HP.fact 0 rfl : Box _ b 67 _)).cell (i := 9) rfl)) fun a H => H.v 10 (ii p.its.length) fun a H => H.v 11 (.bool (decide ((p.its.length : Int) > 4000))) fun a H => H.v 12 (.bool (decide ((p.its.length : Int) > 4000))) fun a H => ?_
 refine H.split 12 rfl (fun g12 H => ?_) (fun g12 H => ?_)
 ·have g12p := of_decide_eq_true g12
  iterate 7 refine H.sx rfl fun a H => ?_
  refine H.vx rfl (.bool true) fun a H => ?_
  refine nl (tn ?_)
  refine w_ift H rfl ?_
  refine sq (rg ?_)
  refine H.v 2 (.bool false) fun a H => ?_
  refine nl (tn (rt (tr ?_)))
  refine H.r1 (.bool false) Tryz.results32 ?_
  have hv : itsP p.its p.fill = false := by simp [itsP, show ¬ (p.its.length : Int) ≤ 4000 by omega]
  exact ⟨by rw [hv], _, HP.mapAt 0 rfl, (fun h => by rw [hv] at h; cases h), HP.only m1 (by simp [bx, mapB])⟩
 have g12p := of_decide_eq_false g12
 refine H.v 13 (pt b 0) fun a H => H.v 14 (pt b 0) fun a H => H.v 15 (pt b 0) fun a H => H.v 16 (pt b 9) fun a H => H.u 17 (.slice p.IA p.its.length p.ic) (ex_l1 (((HP.fact 0 rfl : Box _ b 67 _)).cell (i := 9) rfl)) fun a H => H.cb HP 18 (Tryz.call70 _ _) (ascI_any p.IA p.ic p.its 1 1000000 w ((HP.fact 1 rfl : IsPln _ p).its) (by unfold maxLen; omega) (by omega)) fun w_1 hb a H HP => H.v 19 (.bool (!(asc (1 - 1) 1000000 (p.its.map (fun x => x.id))))) fun a H => H.v 20 (.bool (!(asc (1 - 1) 1000000 (p.its.map (fun x => x.id))))) fun a H => ?_
 refine nl (tn ?_)
 refine w_if H rfl (fun g20 => ?_) (fun g20 => ?_)
 ·have g20p := not_is_true g20
  refine sq (rg ?_)
  refine H.v 2 (.bool false) fun a H => ?_
  refine nl (tn (rt (tr ?_)))
  refine H.r1 (.bool false) Tryz.results32 ?_
  have hv : itsP p.its p.fill = false := by simp [itsP, show asc 0 1000000 (p.its.map (fun x => x.id)) = false from g20p]
  exact ⟨by rw [hv], _, HP.mapAt 0 rfl, (fun h => by rw [hv] at h; cases h), HP.only m1 (by simp [bx, mapB])⟩
 have g20p := not_is_false g20
 refine sk (tn (sq (sq (rg ?_))))
 refine H.v 21 (pt b 0) fun a H => H.v 22 (pt b 0) fun a H => H.v 23 (pt b 0) fun a H => H.v 24 (pt b 9) fun a H => H.u 25 (.slice p.IA p.its.length p.ic) (ex_l1 (((HP.fact 0 rfl : Box _ b 67 _)).cell (i := 9) rfl)) fun a H => H.v 26 (ii p.its.length) fun a H => H.v 27 (ii 0) fun a H => ?_
 refine nl (tn (bk ?_))
 refine w_loop (fun mm a wv => ∃ (i : Nat), p.its.length - i = mm ∧ Sl 73 [(27, (ii i)), (26, (ii p.its.length)), (25, (.slice p.IA p.its.length p.ic)), (24, (pt b 9)), (23, (pt b 0)), (22, (pt b 0)), (21, (pt b 0)), (20, (.bool (!(asc (1 - 1) 1000000 (p.its.map (fun x => x.id)))))), (19, (.bool (!(asc (1 - 1) 1000000 (p.its.map (fun x => x.id)))))), (18, (.bool (asc (1 - 1) 1000000 (p.its.map (fun x => x.id))))), (17, (.slice p.IA p.its.length p.ic)), (16, (pt b 9)), (15, (pt b 0)), (14, (pt b 0)), (13, (pt b 0)), (12, (.bool false)), (11, (.bool (decide ((p.its.length : Int) > 4000)))), (10, (ii p.its.length)), (9, (.slice p.IA p.its.length p.ic)), (8, (pt b 9)), (7, (pt b 0)), (6, (pt b 0)), (5, (pt b 0)), (0, (pt b 0))] a ∧ Hp w wv [(mapB m1 (itM (p.its.take i)) false)] [boxK b 67 (bookC p m1 m2), plnK p] ∧ (i ≤ p.its.length) ∧ (p.its.all itemP = (p.its.drop i).all itemP)) (p.its.length - 0) ?_ ?_
 ·exact ⟨0, (by omega), H.keep (by kernel_rfl), HP, (Nat.zero_le _), rfl⟩
 rintro mm a w_2 ⟨i, hmeas, H, HP, hib, hrel⟩
 refine sq (rg ?_)
 refine H.v 28 (.bool (decide ((i : Int) < (p.its.length : Int)))) fun a H => ?_
 refine nl (tn (sq ?_))
 refine w_if H rfl (fun g28 => ?_) (fun g28 => ?_)
 ·have g28p := of_decide_eq_true g28
  refine sk (tn (sq (bk (sq ?_))))
  obtain ⟨bu_4, ou_5, x_3, hA_6, _, hd_8, hx_7, hm_9, _⟩ := IsRow.get itC_size (HP.fact 1 rfl : IsPln _ p).its (i := i) (by omega)
  have hfr := asc_fresh g20p hx_7
  refine rg ?_
  refine H.u 29 (.pointer (some ⟨bu_4, ou_5 + i * 5, none⟩)) (ex_indexA (b := bu_4) (off := ou_5) (len := p.its.length) (cap := p.ic) (e := 38) (k := 5) (ik := .i64) (i := (i : Int)) (m := i) hA_6 (by kernel_rfl) (by kernel_rfl) (by omega) (by omega) (by kernel_rfl) (by kernel_rfl)) fun a H => H.u 30 (itV x_3) (ex_lN (itL x_3) (IsRow.cells itC_size (HP.fact 1 rfl : IsPln _ p).its hA_6 hx_7)) fun a H => H.al HP 4 38 [(ii 0), (ii 0), (ii 0), (ii 0), (ii 0)] fun b_10 w_11 a H HP => H.st HP 0 b_10 0 5 38 true (itV x_3) [bx b_10 38 (itL x_3) true, (mapB m1 (itM (p.its.take i)) false)] rfl fun w_12 a H HP => ?_
  refine nl (tn (sq (sq (rg ?_))))
  refine H.v 31 (pt b_10 1) fun a H => H.u 32 (ii x_3.kind) (ex_l1 (HP.cell 0 rfl 1 rfl)) fun a H => H.cb HP 33 (Tryz.call67 _ _) (within_any x_3.kind 1 5 w_12) fun w_13 hb a H HP => H.v 34 (.bool (!(inR x_3.kind 1 5))) fun a H => H.v 35 (.bool (!(inR x_3.kind 1 5))) fun a H => ?_
  refine H.split 35 rfl (fun g35 H => ?_) (fun g35 H => ?_)
  ·have g35p := inR_not.1 (not_is_true g35)
   iterate 2 ((iterate 4 refine H.sx rfl fun a H => ?_); (iterate 2 refine H.vx rfl (.bool true) fun a H => ?_))
   iterate 4 refine H.sx rfl fun a H => ?_
   refine H.vx rfl (.bool true) fun a H => ?_
   refine nl (tn ?_)
   refine w_ift H rfl ?_
   refine sq (rg ?_)
   refine H.v 2 (.bool false) fun a H => ?_
   refine nl (tn (rt (tr (ibr (tr (tr (ibr (tr ?_))))))))
   refine H.r1 (.bool false) Tryz.results32 ?_
   have hv : itsP p.its p.fill = false := by unfold itsP; rw [hrel, hd_8, List.all_cons, show itemP x_3 = false from by (first | (rw [Bool.eq_iff_iff]; (try simp only [itemP, g12, g12p, g20, g20p, g28, g28p, g35, g35p]); (try simp only [Bool.and_eq_true, Bool.or_eq_true, Bool.not_eq_true', Bool.false_eq_true, decide_eq_true_eq, decide_eq_false_iff_not, inR_iff, inR_not, beq_iff_eq, bne_iff_ne, beq_eq_false_iff_ne, ne_eq, Bool.true_and, Bool.and_true, Bool.false_and, Bool.and_false, Bool.true_or, Bool.or_true, Bool.false_or, Bool.or_false, Bool.not_true, Bool.not_false, and_true, true_and, iff_true, true_iff, iff_false, false_iff, or_true, true_or, or_false, false_or, not_true_eq_false, not_false_eq_true, and_false, false_and]); first | omega | (simp; done) | (simp; omega)) | (simp [itemP, g12, g12p, g20, g20p, g28, g28p, g35, g35p]; done) | (simp [itemP, g12, g12p, g20, g20p, g28, g28p, g35, g35p] <;> simp [bne]))]; simp
   exact ⟨by rw [hv], _, HP.mapAt 1 rfl, (fun h => by rw [hv] at h; cases h), HP.only m1 (by simp [bx, mapB])⟩
  have g35p := inR_iff.1 (not_is_false g35)
  refine H.v 36 (pt b_10 2) fun a H => H.u 37 (ii x_3.frames) (ex_l1 (HP.cell 0 rfl 2 rfl)) fun a H => H.cb HP 38 (Tryz.call67 _ _) (within_any x_3.frames 1 100000000 w_13) fun w_14 hb a H HP => H.v 39 (.bool (!(inR x_3.frames 1 100000000))) fun a H => H.v 40 (.bool (!(inR x_3.frames 1 100000000))) fun a H => H.v 41 (.bool (!(inR x_3.frames 1 100000000))) fun a H => ?_
  refine H.split 41 rfl (fun g41 H => ?_) (fun g41 H => ?_)
  ·have g41p := inR_not.1 (not_is_true g41)
   iterate 4 refine H.sx rfl fun a H => ?_
   iterate 2 refine H.vx rfl (.bool true) fun a H => ?_
   iterate 4 refine H.sx rfl fun a H => ?_
   refine H.vx rfl (.bool true) fun a H => ?_
   refine nl (tn ?_)
   refine w_ift H rfl ?_
   refine sq (rg ?_)
   refine H.v 2 (.bool false) fun a H => ?_
   refine nl (tn (rt (tr (ibr (tr (tr (ibr (tr ?_))))))))
   refine H.r1 (.bool false) Tryz.results32 ?_
   have hv : itsP p.its p.fill = false := by unfold itsP; rw [hrel, hd_8, List.all_cons, show itemP x_3 = false from by (first | (rw [Bool.eq_iff_iff]; (try simp only [itemP, g12, g12p, g20, g20p, g28, g28p, g35, g35p, g41, g41p]); (try simp only [Bool.and_eq_true, Bool.or_eq_true, Bool.not_eq_true', Bool.false_eq_true, decide_eq_true_eq, decide_eq_false_iff_not, inR_iff, inR_not, beq_iff_eq, bne_iff_ne, beq_eq_false_iff_ne, ne_eq, Bool.true_and, Bool.and_true, Bool.false_and, Bool.and_false, Bool.true_or, Bool.or_true, Bool.false_or, Bool.or_false, Bool.not_true, Bool.not_false, and_true, true_and, iff_true, true_iff, iff_false, false_iff, or_true, true_or, or_false, false_or, not_true_eq_false, not_false_eq_true, and_false, false_and]); first | omega | (simp; done) | (simp; omega)) | (simp [itemP, g12, g12p, g20, g20p, g28, g28p, g35, g35p, g41, g41p]; done) | (simp [itemP, g12, g12p, g20, g20p, g28, g28p, g35, g35p, g41, g41p] <;> simp [bne]))]; simp
   exact ⟨by rw [hv], _, HP.mapAt 1 rfl, (fun h => by rw [hv] at h; cases h), HP.only m1 (by simp [bx, mapB])⟩
  have g41p := inR_iff.1 (not_is_false g41)
  refine H.v 42 (pt b_10 3) fun a H => H.u 43 (ii x_3.sponsor) (ex_l1 (HP.cell 0 rfl 3 rfl)) fun a H => H.cb HP 44 (Tryz.call67 _ _) (within_any x_3.sponsor 0 200 w_14) fun w_15 hb a H HP => H.v 45 (.bool (!(inR x_3.sponsor 0 200))) fun a H => H.v 46 (.bool (!(inR x_3.sponsor 0 200))) fun a H => H.v 47 (.bool (!(inR x_3.sponsor 0 200))) fun a H => ?_
  refine H.split 47 rfl (fun g47 H => ?_) (fun g47 H => ?_)
  ·have g47p := inR_not.1 (not_is_true g47)
   iterate 4 refine H.sx rfl fun a H => ?_
   refine H.vx rfl (.bool true) fun a H => ?_
   refine nl (tn ?_)
   refine w_ift H rfl ?_
   refine sq (rg ?_)
   refine H.v 2 (.bool false) fun a H => ?_
   refine nl (tn (rt (tr (ibr (tr (tr (ibr (tr ?_))))))))
   refine H.r1 (.bool false) Tryz.results32 ?_
   have hv : itsP p.its p.fill = false := by unfold itsP; rw [hrel, hd_8, List.all_cons, show itemP x_3 = false from by (first | (rw [Bool.eq_iff_iff]; (try simp only [itemP, g12, g12p, g20, g20p, g28, g28p, g35, g35p, g41, g41p, g47, g47p]); (try simp only [Bool.and_eq_true, Bool.or_eq_true, Bool.not_eq_true', Bool.false_eq_true, decide_eq_true_eq, decide_eq_false_iff_not, inR_iff, inR_not, beq_iff_eq, bne_iff_ne, beq_eq_false_iff_ne, ne_eq, Bool.true_and, Bool.and_true, Bool.false_and, Bool.and_false, Bool.true_or, Bool.or_true, Bool.false_or, Bool.or_false, Bool.not_true, Bool.not_false, and_true, true_and, iff_true, true_iff, iff_false, false_iff, or_true, true_or, or_false, false_or, not_true_eq_false, not_false_eq_true, and_false, false_and]); first | omega | (simp; done) | (simp; omega)) | (simp [itemP, g12, g12p, g20, g20p, g28, g28p, g35, g35p, g41, g41p, g47, g47p]; done) | (simp [itemP, g12, g12p, g20, g20p, g28, g28p, g35, g35p, g41, g41p, g47, g47p] <;> simp [bne]))]; simp
   exact ⟨by rw [hv], _, HP.mapAt 1 rfl, (fun h => by rw [hv] at h; cases h), HP.only m1 (by simp [bx, mapB])⟩
  have g47p := inR_iff.1 (not_is_false g47)
  refine H.v 48 (pt b_10 4) fun a H => H.u 49 (ii x_3.rating) (ex_l1 (HP.cell 0 rfl 4 rfl)) fun a H => H.cb HP 50 (Tryz.call67 _ _) (within_any x_3.rating 0 3 w_15) fun w_16 hb a H HP => H.v 51 (.bool (!(inR x_3.rating 0 3))) fun a H => H.v 52 (.bool (!(inR x_3.rating 0 3))) fun a H => ?_
  refine nl (tn ?_)
  refine w_if H rfl (fun g52 => ?_) (fun g52 => ?_)
  ·have g52p := inR_not.1 (not_is_true g52)
   refine sq (rg ?_)
   refine H.v 2 (.bool false) fun a H => ?_
   refine nl (tn (rt (tr (ibr (tr (tr (ibr (tr ?_))))))))
   refine H.r1 (.bool false) Tryz.results32 ?_
   have hv : itsP p.its p.fill = false := by unfold itsP; rw [hrel, hd_8, List.all_cons, show itemP x_3 = false from by (first | (rw [Bool.eq_iff_iff]; (try simp only [itemP, g12, g12p, g20, g20p, g28, g28p, g35, g35p, g41, g41p, g47, g47p, g52, g52p]); (try simp only [Bool.and_eq_true, Bool.or_eq_true, Bool.not_eq_true', Bool.false_eq_true, decide_eq_true_eq, decide_eq_false_iff_not, inR_iff, inR_not, beq_iff_eq, bne_iff_ne, beq_eq_false_iff_ne, ne_eq, Bool.true_and, Bool.and_true, Bool.false_and, Bool.and_false, Bool.true_or, Bool.or_true, Bool.false_or, Bool.or_false, Bool.not_true, Bool.not_false, and_true, true_and, iff_true, true_iff, iff_false, false_iff, or_true, true_or, or_false, false_or, not_true_eq_false, not_false_eq_true, and_false, false_and]); first | omega | (simp; done) | (simp; omega)) | (simp [itemP, g12, g12p, g20, g20p, g28, g28p, g35, g35p, g41, g41p, g47, g47p, g52, g52p]; done) | (simp [itemP, g12, g12p, g20, g20p, g28, g28p, g35, g35p, g41, g41p, g47, g47p, g52, g52p] <;> simp [bne]))]; simp
   exact ⟨by rw [hv], _, HP.mapAt 1 rfl, (fun h => by rw [hv] at h; cases h), HP.only m1 (by simp [bx, mapB])⟩
  have g52p := inR_iff.1 (not_is_false g52)
  refine sk (tn ?_)
  refine An.start (fun v => Hp w v [bx b_10 38 (itL x_3) true, (mapB m1 (itM (p.its.take i)) false)] [boxK b 67 (bookC p m1 m2), plnK p]) 7 8 HP wide_follows rfl fun w_17 HP => ?_
  refine An.p H (.inr HP) 0 53 (pt b 0) fun a H => ?_
  refine An.p H (.inr HP) 1 54 (pt b 0) fun a H => ?_
  refine An.p H (.inr HP) 2 55 (pt b 13) fun a H => ?_
  refine An.vw H (HP) 3 56 (.map (some m1)) (fun _ hS => ex_l1 (((hS.fact 0 rfl : Box _ b 67 _)).cell (i := 13) rfl)) fun a H => ?_
  refine An.p H (.inr HP) 4 57 (pt b_10 0) fun a H => ?_
  refine An.vw H (HP) 5 58 (ii x_3.id) (fun _ hS => ex_l1 (hS.cell 0 rfl 0 rfl)) fun a H => ?_
  refine An.vw H (HP) 6 59 (itV x_3) (fun _ hS => ex_lN (itL x_3) (hS.cells 0 rfl 0 5 (by kernel_rfl))) fun a H => ?_
  refine An.one 7 (by kernel_rfl) ?_
  refine Op.pushM (kt := 3) (et := 38) (k := x_3.id) (v := (itV x_3)) H HP 1 [bx b_10 38 (itL x_3) true, (mapB m1 ((itM (p.its.take i)) ++ [(x_3.id, (itV x_3))]) false)] rfl (by kernel_rfl) (by kernel_rfl) (by kernel_rfl) (by kernel_rfl) (by kernel_rfl) (by kernel_rfl) rfl (mget_none (fr_it hfr)) (by kernel_rfl) fun w_18 a H HP => ?_
  have HP : Hp w w_18 [bx b_10 38 (itL x_3) true, (mapB m1 (itM (p.its.take (i + 1))) false)] [boxK b 67 (bookC p m1 m2), plnK p] := by have hh := HP; rw [show (itM (p.its.take i)) ++ [(x_3.id, (itV x_3))] = (itM (p.its.take (i + 1))) from itM_snoc hx_7] at hh; exact hh
  refine ⟨.inl (by kernel_rfl), ?_⟩
  refine An.done (by kernel_rfl) ?_
  refine ibn (tn (rg ?_))
  refine H.valE 60 (ii (IntKind.i64.wrap ((i : Int) + 1))) (ii ((i : Int) + 1)) (by kernel_rfl) (by kernel_rfl) ((by rw [wrap_ini64 _ (by omega)])) fun a H => H.v 27 (ii ((i : Int) + 1)) fun a H => ?_
  refine nl (tn ?_)
  have H := H.as 27 (ii ((i + 1 : Nat) : Int)) rfl rfl
  refine ⟨_, ?_, i + 1, rfl, H.keep (by kernel_rfl), (HP.tail rfl), (by omega), (by rw [hrel, hd_8, List.all_cons, show itemP x_3 = true from by (first | (rw [Bool.eq_iff_iff]; (try simp only [itemP, g12, g12p, g20, g20p, g28, g28p, g35, g35p, g41, g41p, g47, g47p, g52, g52p]); (try simp only [Bool.and_eq_true, Bool.or_eq_true, Bool.not_eq_true', Bool.false_eq_true, decide_eq_true_eq, decide_eq_false_iff_not, inR_iff, inR_not, beq_iff_eq, bne_iff_ne, beq_eq_false_iff_ne, ne_eq, Bool.true_and, Bool.and_true, Bool.false_and, Bool.and_false, Bool.true_or, Bool.or_true, Bool.false_or, Bool.or_false, Bool.not_true, Bool.not_false, and_true, true_and, iff_true, true_iff, iff_false, false_iff, or_true, true_or, or_false, false_or, not_true_eq_false, not_false_eq_true, and_false, false_and]); first | omega | (simp; done) | (simp; omega)) | (simp [itemP, g12, g12p, g20, g20p, g28, g28p, g35, g35p, g41, g41p, g47, g47p, g52, g52p]; done) | (simp [itemP, g12, g12p, g20, g20p, g28, g28p, g35, g35p, g41, g41p, g47, g47p, g52, g52p] <;> simp [bne]))]; rfl)⟩
  omega
 have g28p := of_decide_eq_false g28
 refine wp_exit (then_exit (then_exit ?_))
 refine w_exit_here ?_
 refine tn (sq ?_)
 have ht : p.its.take i = p.its := List.take_of_length_le (by omega)
 rw [ht] at HP
 refine An.start (fun v => Hp w v [(mapB m1 (itM p.its) false)] [boxK b 67 (bookC p m1 m2), plnK p]) 13 13 HP wide_follows rfl fun w_19 HP => ?_
 refine An.p H (.inr HP) 0 61 (pt b 0) fun a H => ?_
 refine An.p H (.inr HP) 1 62 (pt b 0) fun a H => ?_
 refine An.p H (.inr HP) 2 63 (pt b 13) fun a H => ?_
 refine An.vw H (HP) 3 64 (.map (some m1)) (fun _ hS => ex_l1 (((hS.fact 0 rfl : Box _ b 67 _)).cell (i := 13) rfl)) fun a H => ?_
 refine An.p H (.inr HP) 4 65 (pt b 0) fun a H => ?_
 refine An.p H (.inr HP) 5 66 (pt b 0) fun a H => ?_
 refine An.p H (.inr HP) 6 67 (pt b 0) fun a H => ?_
 refine An.p H (.inr HP) 7 68 (pt b 8) fun a H => ?_
 refine An.vw H (HP) 8 69 (ii p.fill) (fun _ hS => ex_l1 (((hS.fact 0 rfl : Box _ b 67 _)).cell (i := 8) rfl)) fun a H => ?_
 refine An.vw H (HP) 9 70 (itV (gI p.its p.fill)) (fun _ hS => ex_lookI (l := p.its) (kt := 3) (et := 38) (s1 := 5) (s2 := 40) (by kernel_rfl) (by kernel_rfl) (by kernel_rfl) (by kernel_rfl) (by kernel_rfl) (hS.mapAt 0 rfl)) fun a H => ?_
 refine An.p H (.inr HP) 10 71 (ii ((gI p.its p.fill).kind)) fun a H => ?_
 refine An.p H (.inr HP) 11 72 (.bool (((gI p.its p.fill).kind) == 5)) fun a H => ?_
 refine An.p H (.inr HP) 12 2 (.bool (((gI p.its p.fill).kind) == 5)) fun a H => ?_
 refine An.done (by kernel_rfl) ?_
 refine tn (rt ?_)
 refine H.r1 (.bool (((gI p.its p.fill).kind) == 5)) Tryz.results32 ?_
 have hall : p.its.all itemP = true := by rw [hrel, List.drop_eq_nil_of_le (by omega)]; rfl
 have hasc : asc 0 1000000 (p.its.map (fun x => x.id)) = true := g20p
 have hlen : (p.its.length : Int) ≤ 4000 := by omega
 exact ⟨by rw [show itsP p.its p.fill = (((gI p.its p.fill).kind) == 5) from by unfold itsP; rw [hall, hasc]; simp [hlen]], _, HP.mapAt 0 rfl, (fun _ => rfl), HP.only m1 (by simp [bx, mapB])⟩
theorem hasBookings_any (b m1 m2 : Nat) (p : Pln) (w : World) (hbx : Box w b 67 (bookC p m1 m2).toArray) (hm1 : MapAt w m1 (itM p.its)) (hm : MapAt w m2 []) (hpl : IsPln w p) (hfp : ∀ k, p.fp k → k ≠ m2) (hmm : m1 ≠ m2) (hreg : 1 ≤ p.regions ∧ p.regions ≤ 8) : Calls Tryz.prog 33 #[.pointer (some ⟨b, 0, none⟩)] w fun e w' => e = .returned (.bool (bksP p.its p.regions p.bs)) ∧ ∃ l, MapAt w' m2 l ∧ (bksP p.its p.regions p.bs = true → l = bkM p.bs) ∧ w.grownBy w' (some m2) := by
 have hlI := hpl.lbs
 unfold maxLen at hlI
 have hne : b ≠ m2 := box_map hbx hm
 have HP0 : Hp w w [mapB m2 (bkM []) false] [mapK m1 (itM p.its)] := (Hp.ownM hm).keepF (mapK m1 (itM p.its)) hm1 (mapK_ok _ _) (fun k hk => ⟨by cases hk; exact hm1.lt, by cases hk; simpa [mapB] using hmm⟩)
 have HP : Hp w w [mapB m2 (bkM []) false] [boxK b 67 (bookC p m1 m2), plnK p, mapK m1 (itM p.its)] := (HP0.keepF (plnK p) hpl (plnK_ok p) (fun k hk => ⟨hpl.lt k hk, by simpa [mapB] using hfp k hk⟩)).keepF (boxK b 67 (bookC p m1 m2)) hbx (boxK_ok _ _ _) (fun k hk => ⟨by cases hk; exact hbx.lt, by cases hk; simpa [mapB] using hne⟩)
 refine w_enter 93 [(0, (pt b 0))] Tryz.func33 rfl Tryz.ntmps33 (by kernel_rfl) (by kernel_rfl) fun a H => ?_
 refine sq (rg ?_)
 refine H.v 2 (.bool false) fun a H => ?_
 refine nl (tn (sq (sq (rg ?_))))
 refine H.v 6 (pt b 0) fun a H => H.v 7 (pt b 0) fun a H => H.v 8 (pt b 0) fun a H => H.v 9 (pt b 11) fun a H => H.u 10 (.slice p.BA p.bs.length p.bc) (ex_l1 (((HP.fact 0 rfl : Box _ b 67 _)).cell (i := 11) rfl)) fun a H => H.v 11 (ii p.bs.length) fun a H => H.v 12 (.bool (decide ((p.bs.length : Int) > 2000))) fun a H => H.v 13 (.bool (decide ((p.bs.length : Int) > 2000))) fun a H => ?_
 refine H.split 13 rfl (fun g13 H => ?_) (fun g13 H => ?_)
 ·have g13p := of_decide_eq_true g13
  iterate 7 refine H.sx rfl fun a H => ?_
  refine H.vx rfl (.bool true) fun a H => ?_
  refine nl (tn ?_)
  refine w_ift H rfl ?_
  refine sq (rg ?_)
  refine H.v 2 (.bool false) fun a H => ?_
  refine nl (tn (rt (tr ?_)))
  refine H.r1 (.bool false) Tryz.results33 ?_
  have hv : bksP p.its p.regions p.bs = false := by simp [bksP, show ¬ (p.bs.length : Int) ≤ 2000 by omega]
  exact ⟨by rw [hv], _, HP.mapAt 0 rfl, (fun h => by rw [hv] at h; cases h), HP.only m2 (by simp [bx, mapB])⟩
 have g13p := of_decide_eq_false g13
 refine H.v 14 (pt b 0) fun a H => H.v 15 (pt b 0) fun a H => H.v 16 (pt b 0) fun a H => H.v 17 (pt b 11) fun a H => H.u 18 (.slice p.BA p.bs.length p.bc) (ex_l1 (((HP.fact 0 rfl : Box _ b 67 _)).cell (i := 11) rfl)) fun a H => H.cb HP 19 (Tryz.call71 _ _) (ascB_any p.BA p.bc p.bs 1 1000000 w ((HP.fact 1 rfl : IsPln _ p).bs) (by unfold maxLen; omega) (by omega)) fun w_1 hb a H HP => H.v 20 (.bool (!(asc (1 - 1) 1000000 (p.bs.map (fun x => x.id))))) fun a H => H.v 21 (.bool (!(asc (1 - 1) 1000000 (p.bs.map (fun x => x.id))))) fun a H => ?_
 refine nl (tn ?_)
 refine w_if H rfl (fun g21 => ?_) (fun g21 => ?_)
 ·have g21p := not_is_true g21
  refine sq (rg ?_)
  refine H.v 2 (.bool false) fun a H => ?_
  refine nl (tn (rt (tr ?_)))
  refine H.r1 (.bool false) Tryz.results33 ?_
  have hv : bksP p.its p.regions p.bs = false := by simp [bksP, show asc 0 1000000 (p.bs.map (fun x => x.id)) = false from g21p]
  exact ⟨by rw [hv], _, HP.mapAt 0 rfl, (fun h => by rw [hv] at h; cases h), HP.only m2 (by simp [bx, mapB])⟩
 have g21p := not_is_false g21
 refine sk (tn (sq (sq (rg ?_))))
 refine H.v 22 (pt b 0) fun a H => H.v 23 (pt b 0) fun a H => H.v 24 (pt b 0) fun a H => H.v 25 (pt b 11) fun a H => H.u 26 (.slice p.BA p.bs.length p.bc) (ex_l1 (((HP.fact 0 rfl : Box _ b 67 _)).cell (i := 11) rfl)) fun a H => H.v 27 (ii p.bs.length) fun a H => H.v 28 (ii 0) fun a H => ?_
 refine nl (tn (bk ?_))
 refine w_loop (fun mm a wv => ∃ (i : Nat), p.bs.length - i = mm ∧ Sl 93 [(28, (ii i)), (27, (ii p.bs.length)), (26, (.slice p.BA p.bs.length p.bc)), (25, (pt b 11)), (24, (pt b 0)), (23, (pt b 0)), (22, (pt b 0)), (21, (.bool (!(asc (1 - 1) 1000000 (p.bs.map (fun x => x.id)))))), (20, (.bool (!(asc (1 - 1) 1000000 (p.bs.map (fun x => x.id)))))), (19, (.bool (asc (1 - 1) 1000000 (p.bs.map (fun x => x.id))))), (18, (.slice p.BA p.bs.length p.bc)), (17, (pt b 11)), (16, (pt b 0)), (15, (pt b 0)), (14, (pt b 0)), (13, (.bool false)), (12, (.bool (decide ((p.bs.length : Int) > 2000)))), (11, (ii p.bs.length)), (10, (.slice p.BA p.bs.length p.bc)), (9, (pt b 11)), (8, (pt b 0)), (7, (pt b 0)), (6, (pt b 0)), (0, (pt b 0))] a ∧ Hp w wv [(mapB m2 (bkM (p.bs.take i)) false)] [boxK b 67 (bookC p m1 m2), plnK p, mapK m1 (itM p.its)] ∧ (i ≤ p.bs.length) ∧ (p.bs.all (bookP p.its p.regions) = (p.bs.drop i).all (bookP p.its p.regions))) (p.bs.length - 0) ?_ ?_
 ·exact ⟨0, (by omega), H.keep (by kernel_rfl), HP, (Nat.zero_le _), rfl⟩
 rintro mm a w_2 ⟨i, hmeas, H, HP, hib, hrel⟩
 refine sq (rg ?_)
 refine H.v 29 (.bool (decide ((i : Int) < (p.bs.length : Int)))) fun a H => ?_
 refine nl (tn (sq ?_))
 refine w_if H rfl (fun g29 => ?_) (fun g29 => ?_)
 ·have g29p := of_decide_eq_true g29
  refine sk (tn (sq (bk (sq ?_))))
  obtain ⟨bu_4, ou_5, x_3, hA_6, _, hd_8, hx_7, hm_9, _⟩ := IsRow.get bkC_size (HP.fact 1 rfl : IsPln _ p).bs (i := i) (by omega)
  have hfr := asc_fresh g21p hx_7
  refine rg ?_
  refine H.u 30 (.pointer (some ⟨bu_4, ou_5 + i * 7, none⟩)) (ex_indexA (b := bu_4) (off := ou_5) (len := p.bs.length) (cap := p.bc) (e := 47) (k := 7) (ik := .i64) (i := (i : Int)) (m := i) hA_6 (by kernel_rfl) (by kernel_rfl) (by omega) (by omega) (by kernel_rfl) (by kernel_rfl)) fun a H => H.u 31 (bkV x_3) (ex_lN (bkL x_3) (IsRow.cells bkC_size (HP.fact 1 rfl : IsPln _ p).bs hA_6 hx_7)) fun a H => H.al HP 4 47 [(ii 0), (ii 0), (ii 0), (ii 0), (ii 0), (ii 0), (ii 0)] fun b_10 w_11 a H HP => H.st HP 0 b_10 0 7 47 true (bkV x_3) [bx b_10 47 (bkL x_3) true, (mapB m2 (bkM (p.bs.take i)) false)] rfl fun w_12 a H HP => ?_
  refine nl (tn (sq (rg ?_)))
  refine H.v 32 (pt b_10 3) fun a H => H.u 33 (ii x_3.from_) (ex_l1 (HP.cell 0 rfl 3 rfl)) fun a H => H.v 34 (.bool (decide (0 ≤ x_3.from_))) fun a H => H.v 35 (.bool (decide (0 ≤ x_3.from_))) fun a H => ?_
  refine H.split 35 rfl (fun g35 H => ?_) (fun g35 H => ?_)
  ·have g35p := of_decide_eq_true g35
   refine H.v 36 (pt b_10 3) fun a H => H.u 37 (ii x_3.from_) (ex_l1 (HP.cell 0 rfl 3 rfl)) fun a H => H.v 38 (pt b_10 4) fun a H => H.u 39 (ii x_3.to_) (ex_l1 (HP.cell 0 rfl 4 rfl)) fun a H => H.v 40 (.bool (decide (x_3.from_ < x_3.to_))) fun a H => H.v 41 (.bool (decide (x_3.from_ < x_3.to_))) fun a H => H.v 42 (.bool (decide (x_3.from_ < x_3.to_))) fun a H => ?_
   refine H.split 42 rfl (fun g42 H => ?_) (fun g42 H => ?_)
   ·have g42p := of_decide_eq_true g42
    refine H.v 43 (pt b_10 4) fun a H => H.u 44 (ii x_3.to_) (ex_l1 (HP.cell 0 rfl 4 rfl)) fun a H => H.v 45 (pt b_10 5) fun a H => H.u 46 (ii x_3.until_) (ex_l1 (HP.cell 0 rfl 5 rfl)) fun a H => H.v 47 (.bool (decide (x_3.to_ ≤ x_3.until_))) fun a H => H.v 48 (.bool (decide (x_3.to_ ≤ x_3.until_))) fun a H => H.v 49 (.bool (decide (x_3.to_ ≤ x_3.until_))) fun a H => ?_
    refine H.split 49 rfl (fun g49 H => ?_) (fun g49 H => ?_)
    ·have g49p := of_decide_eq_true g49
     refine H.v 50 (pt b_10 5) fun a H => H.u 51 (ii x_3.until_) (ex_l1 (HP.cell 0 rfl 5 rfl)) fun a H => H.v 52 (.bool (decide (x_3.until_ ≤ 100000000))) fun a H => H.v 53 (.bool (decide (x_3.until_ ≤ 100000000))) fun a H => H.v 5 (.bool (decide (x_3.until_ ≤ 100000000))) fun a H => ?_
     refine nl (tn (sq (sq ?_)))
     refine An.start (fun v => Hp w v [bx b_10 47 (bkL x_3) true, (mapB m2 (bkM (p.bs.take i)) false)] [boxK b 67 (bookC p m1 m2), plnK p, mapK m1 (itM p.its)]) 31 31 HP wide_follows rfl fun w_13 HP => ?_
     refine An.p H (.inr HP) 0 54 (pt b 0) fun a H => ?_
     refine An.p H (.inr HP) 1 55 (pt b 0) fun a H => ?_
     refine An.p H (.inr HP) 2 56 (pt b 13) fun a H => ?_
     refine An.vw H (HP) 3 57 (.map (some m1)) (fun _ hS => ex_l1 (((hS.fact 0 rfl : Box _ b 67 _)).cell (i := 13) rfl)) fun a H => ?_
     refine An.p H (.inr HP) 4 58 (pt b_10 1) fun a H => ?_
     refine An.vw H (HP) 5 59 (ii x_3.item) (fun _ hS => ex_l1 (hS.cell 0 rfl 1 rfl)) fun a H => ?_
     refine An.vw H (HP) 6 60 (itV (gI p.its x_3.item)) (fun _ hS => ex_lookI (l := p.its) (kt := 3) (et := 38) (s1 := 5) (s2 := 40) (by kernel_rfl) (by kernel_rfl) (by kernel_rfl) (by kernel_rfl) (by kernel_rfl) ((hS.fact 2 rfl : MapAt _ m1 (itM p.its)))) fun a H => ?_
     refine An.p H (.inr HP) 7 61 (ii ((gI p.its x_3.item).kind)) fun a H => ?_
     refine An.p H (.inr HP) 8 62 (.bool (((gI p.its x_3.item).kind) != 2)) fun a H => ?_
     refine An.p H (.inr HP) 9 63 (.bool (((gI p.its x_3.item).kind) != 2)) fun a H => ?_
     refine H.split 63 rfl (fun g63 H => ?_) (fun g63 H => ?_)
     ·have g63p := bne_iff_ne.1 g63
      refine An.s H (.inr HP) 10 64 fun a H => ?_
      refine An.s H (.inr HP) 11 65 fun a H => ?_
      refine An.s H (.inr HP) 12 66 fun a H => ?_
      refine An.s H (.inr HP) 13 67 fun a H => ?_
      refine An.s H (.inr HP) 14 68 fun a H => ?_
      refine An.s H (.inr HP) 15 69 fun a H => ?_
      refine An.s H (.inr HP) 16 70 fun a H => ?_
      refine An.s H (.inr HP) 17 71 fun a H => ?_
      refine An.s H (.inr HP) 18 72 fun a H => ?_
      refine An.s H (.inr HP) 19 73 fun a H => ?_
      refine An.p H (.inr HP) 20 74 (.bool true) fun a H => ?_
      refine An.p H (.inr HP) 21 75 (.bool true) fun a H => ?_
      refine An.s H (.inr HP) 22 76 fun a H => ?_
      refine An.s H (.inr HP) 23 77 fun a H => ?_
      refine An.p H (.inr HP) 24 78 (.bool true) fun a H => ?_
      refine An.p H (.inr HP) 25 79 (.bool true) fun a H => ?_
      refine An.s H (.inr HP) 26 80 fun a H => ?_
      refine An.s H (.inr HP) 27 81 fun a H => ?_
      refine An.s H (.inr HP) 28 82 fun a H => ?_
      refine An.s H (.inr HP) 29 83 fun a H => ?_
      refine An.p H (.inr HP) 30 84 (.bool true) fun a H => ?_
      refine An.done (by kernel_rfl) ?_
      refine tn ?_
      refine w_ift H rfl ?_
      refine sq (rg ?_)
      refine H.v 2 (.bool false) fun a H => ?_
      refine nl (tn (rt (tr (ibr (tr (tr (ibr (tr ?_))))))))
      refine H.r1 (.bool false) Tryz.results33 ?_
      have hv : bksP p.its p.regions p.bs = false := by unfold bksP; rw [hrel, hd_8, List.all_cons, show (bookP p.its p.regions) x_3 = false from by (first | (rw [Bool.eq_iff_iff]; (try simp only [bookP, g13, g13p, g21, g21p, g29, g29p, g35, g35p, g42, g42p, g49, g49p, g63, g63p]); (try simp only [Bool.and_eq_true, Bool.or_eq_true, Bool.not_eq_true', Bool.false_eq_true, decide_eq_true_eq, decide_eq_false_iff_not, inR_iff, inR_not, beq_iff_eq, bne_iff_ne, beq_eq_false_iff_ne, ne_eq, Bool.true_and, Bool.and_true, Bool.false_and, Bool.and_false, Bool.true_or, Bool.or_true, Bool.false_or, Bool.or_false, Bool.not_true, Bool.not_false, and_true, true_and, iff_true, true_iff, iff_false, false_iff, or_true, true_or, or_false, false_or, not_true_eq_false, not_false_eq_true, and_false, false_and]); first | omega | (simp; done) | (simp; omega)) | (simp [bookP, g13, g13p, g21, g21p, g29, g29p, g35, g35p, g42, g42p, g49, g49p, g63, g63p]; done) | (simp [bookP, g13, g13p, g21, g21p, g29, g29p, g35, g35p, g42, g42p, g49, g49p, g63, g63p] <;> simp [bne]))]; simp
      exact ⟨by rw [hv], _, HP.mapAt 1 rfl, (fun h => by rw [hv] at h; cases h), HP.only m2 (by simp [bx, mapB])⟩
     have g63p := eq_of_bne_false g63
     refine An.p H (.inr HP) 10 64 (pt b_10 2) fun a H => ?_
     refine An.vw H (HP) 11 65 (ii x_3.region) (fun _ hS => ex_l1 (hS.cell 0 rfl 2 rfl)) fun a H => ?_
     refine An.p H (.inr HP) 12 66 (pt b 0) fun a H => ?_
     refine An.p H (.inr HP) 13 67 (pt b 0) fun a H => ?_
     refine An.p H (.inr HP) 14 68 (pt b 0) fun a H => ?_
     refine An.p H (.inr HP) 15 69 (pt b 6) fun a H => ?_
     refine An.vw H (HP) 16 70 (ii p.regions) (fun _ hS => ex_l1 (((hS.fact 0 rfl : Box _ b 67 _)).cell (i := 6) rfl)) fun a H => ?_
     refine An.pureE H (.inr (HP)) 17 71 (ii (IntKind.i64.wrap (p.regions - 1))) (ii (p.regions - 1)) rfl (by kernel_rfl) (by kernel_rfl) (fun _ _ _ h => h) (fun _ => by kernel_rfl) ((by rw [wrap_ini64 _ (by omega)])) fun a H => ?_
     refine An.one 18 (by kernel_rfl) ?_
     refine Op.call H 72 rfl (by kernel_rfl) (Eq.trans (by kernel_rfl : _ = (callFunc 67 #[(ii x_3.region), (ii 0), (ii (p.regions - 1))]).run Tryz.prog w_13) (Tryz.call67 _ _)) (within_any x_3.region 0 (p.regions - 1) w_13) ?_
     rintro e w_14 ⟨rfl, hb⟩
     refine ⟨_, rfl, ?_⟩
     intro a H
     have HP := HP.next hb
     refine ⟨.inr (HP), ?_⟩
     refine An.p H (.inr HP) 19 73 (.bool (!(inR x_3.region 0 (p.regions - 1)))) fun a H => ?_
     refine An.p H (.inr HP) 20 74 (.bool (!(inR x_3.region 0 (p.regions - 1)))) fun a H => ?_
     refine An.p H (.inr HP) 21 75 (.bool (!(inR x_3.region 0 (p.regions - 1)))) fun a H => ?_
     refine H.split 75 rfl (fun g75 H => ?_) (fun g75 H => ?_)
     ·have g75p := inR_not.1 (not_is_true g75)
      refine An.s H (.inr HP) 22 76 fun a H => ?_
      refine An.s H (.inr HP) 23 77 fun a H => ?_
      refine An.p H (.inr HP) 24 78 (.bool true) fun a H => ?_
      refine An.p H (.inr HP) 25 79 (.bool true) fun a H => ?_
      refine An.s H (.inr HP) 26 80 fun a H => ?_
      refine An.s H (.inr HP) 27 81 fun a H => ?_
      refine An.s H (.inr HP) 28 82 fun a H => ?_
      refine An.s H (.inr HP) 29 83 fun a H => ?_
      refine An.p H (.inr HP) 30 84 (.bool true) fun a H => ?_
      refine An.done (by kernel_rfl) ?_
      refine tn ?_
      refine w_ift H rfl ?_
      refine sq (rg ?_)
      refine H.v 2 (.bool false) fun a H => ?_
      refine nl (tn (rt (tr (ibr (tr (tr (ibr (tr ?_))))))))
      refine H.r1 (.bool false) Tryz.results33 ?_
      have hv : bksP p.its p.regions p.bs = false := by unfold bksP; rw [hrel, hd_8, List.all_cons, show (bookP p.its p.regions) x_3 = false from by (first | (rw [Bool.eq_iff_iff]; (try simp only [bookP, g13, g13p, g21, g21p, g29, g29p, g35, g35p, g42, g42p, g49, g49p, g63, g63p, g75, g75p]); (try simp only [Bool.and_eq_true, Bool.or_eq_true, Bool.not_eq_true', Bool.false_eq_true, decide_eq_true_eq, decide_eq_false_iff_not, inR_iff, inR_not, beq_iff_eq, bne_iff_ne, beq_eq_false_iff_ne, ne_eq, Bool.true_and, Bool.and_true, Bool.false_and, Bool.and_false, Bool.true_or, Bool.or_true, Bool.false_or, Bool.or_false, Bool.not_true, Bool.not_false, and_true, true_and, iff_true, true_iff, iff_false, false_iff, or_true, true_or, or_false, false_or, not_true_eq_false, not_false_eq_true, and_false, false_and]); first | omega | (simp; done) | (simp; omega)) | (simp [bookP, g13, g13p, g21, g21p, g29, g29p, g35, g35p, g42, g42p, g49, g49p, g63, g63p, g75, g75p]; done) | (simp [bookP, g13, g13p, g21, g21p, g29, g29p, g35, g35p, g42, g42p, g49, g49p, g63, g63p, g75, g75p] <;> simp [bne]))]; simp
      exact ⟨by rw [hv], _, HP.mapAt 1 rfl, (fun h => by rw [hv] at h; cases h), HP.only m2 (by simp [bx, mapB])⟩
     have g75p := inR_iff.1 (not_is_false g75)
     refine An.p H (.inr HP) 22 76 (.bool (decide (x_3.until_ ≤ 100000000))) fun a H => ?_
     refine An.p H (.inr HP) 23 77 (.bool (!(decide (x_3.until_ ≤ 100000000)))) fun a H => ?_
     refine An.p H (.inr HP) 24 78 (.bool (!(decide (x_3.until_ ≤ 100000000)))) fun a H => ?_
     refine An.p H (.inr HP) 25 79 (.bool (!(decide (x_3.until_ ≤ 100000000)))) fun a H => ?_
     refine H.split 79 rfl (fun g79 H => ?_) (fun g79 H => ?_)
     ·have g79p := not_is_true g79
      refine An.s H (.inr HP) 26 80 fun a H => ?_
      refine An.s H (.inr HP) 27 81 fun a H => ?_
      refine An.s H (.inr HP) 28 82 fun a H => ?_
      refine An.s H (.inr HP) 29 83 fun a H => ?_
      refine An.p H (.inr HP) 30 84 (.bool true) fun a H => ?_
      refine An.done (by kernel_rfl) ?_
      refine tn ?_
      refine w_ift H rfl ?_
      refine sq (rg ?_)
      refine H.v 2 (.bool false) fun a H => ?_
      refine nl (tn (rt (tr (ibr (tr (tr (ibr (tr ?_))))))))
      refine H.r1 (.bool false) Tryz.results33 ?_
      have hv : bksP p.its p.regions p.bs = false := by unfold bksP; rw [hrel, hd_8, List.all_cons, show (bookP p.its p.regions) x_3 = false from by (first | (rw [Bool.eq_iff_iff]; (try simp only [bookP, g13, g13p, g21, g21p, g29, g29p, g35, g35p, g42, g42p, g49, g49p, g63, g63p, g75, g75p, g79, g79p]); (try simp only [Bool.and_eq_true, Bool.or_eq_true, Bool.not_eq_true', Bool.false_eq_true, decide_eq_true_eq, decide_eq_false_iff_not, inR_iff, inR_not, beq_iff_eq, bne_iff_ne, beq_eq_false_iff_ne, ne_eq, Bool.true_and, Bool.and_true, Bool.false_and, Bool.and_false, Bool.true_or, Bool.or_true, Bool.false_or, Bool.or_false, Bool.not_true, Bool.not_false, and_true, true_and, iff_true, true_iff, iff_false, false_iff, or_true, true_or, or_false, false_or, not_true_eq_false, not_false_eq_true, and_false, false_and]); first | omega | (simp; done) | (simp; omega)) | (simp [bookP, g13, g13p, g21, g21p, g29, g29p, g35, g35p, g42, g42p, g49, g49p, g63, g63p, g75, g75p, g79, g79p]; done) | (simp [bookP, g13, g13p, g21, g21p, g29, g29p, g35, g35p, g42, g42p, g49, g49p, g63, g63p, g75, g75p, g79, g79p] <;> simp [bne]))]; simp
      exact ⟨by rw [hv], _, HP.mapAt 1 rfl, (fun h => by rw [hv] at h; cases h), HP.only m2 (by simp [bx, mapB])⟩
     have g79p := not_is_false g79
     refine An.p H (.inr HP) 26 80 (pt b_10 6) fun a H => ?_
     refine An.vw H (HP) 27 81 (ii x_3.price) (fun _ hS => ex_l1 (hS.cell 0 rfl 6 rfl)) fun a H => ?_
     refine An.one 28 (by kernel_rfl) ?_
     refine Op.call H 82 rfl (by kernel_rfl) (Eq.trans (by kernel_rfl : _ = (callFunc 67 #[(ii x_3.price), (ii 0), (ii 1000000000)]).run Tryz.prog w_14) (Tryz.call67 _ _)) (within_any x_3.price 0 1000000000 w_14) ?_
     rintro e w_15 ⟨rfl, hb⟩
     refine ⟨_, rfl, ?_⟩
     intro a H
     have HP := HP.next hb
     refine ⟨.inr (HP), ?_⟩
     refine An.p H (.inr HP) 29 83 (.bool (!(inR x_3.price 0 1000000000))) fun a H => ?_
     refine An.p H (.inr HP) 30 84 (.bool (!(inR x_3.price 0 1000000000))) fun a H => ?_
     refine An.done (by kernel_rfl) ?_
     refine tn ?_
     refine w_if H rfl (fun g84 => ?_) (fun g84 => ?_)
     ·have g84p := inR_not.1 (not_is_true g84)
      refine sq (rg ?_)
      refine H.v 2 (.bool false) fun a H => ?_
      refine nl (tn (rt (tr (ibr (tr (tr (ibr (tr ?_))))))))
      refine H.r1 (.bool false) Tryz.results33 ?_
      have hv : bksP p.its p.regions p.bs = false := by unfold bksP; rw [hrel, hd_8, List.all_cons, show (bookP p.its p.regions) x_3 = false from by (first | (rw [Bool.eq_iff_iff]; (try simp only [bookP, g13, g13p, g21, g21p, g29, g29p, g35, g35p, g42, g42p, g49, g49p, g63, g63p, g75, g75p, g79, g79p, g84, g84p]); (try simp only [Bool.and_eq_true, Bool.or_eq_true, Bool.not_eq_true', Bool.false_eq_true, decide_eq_true_eq, decide_eq_false_iff_not, inR_iff, inR_not, beq_iff_eq, bne_iff_ne, beq_eq_false_iff_ne, ne_eq, Bool.true_and, Bool.and_true, Bool.false_and, Bool.and_false, Bool.true_or, Bool.or_true, Bool.false_or, Bool.or_false, Bool.not_true, Bool.not_false, and_true, true_and, iff_true, true_iff, iff_false, false_iff, or_true, true_or, or_false, false_or, not_true_eq_false, not_false_eq_true, and_false, false_and]); first | omega | (simp; done) | (simp; omega)) | (simp [bookP, g13, g13p, g21, g21p, g29, g29p, g35, g35p, g42, g42p, g49, g49p, g63, g63p, g75, g75p, g79, g79p, g84, g84p]; done) | (simp [bookP, g13, g13p, g21, g21p, g29, g29p, g35, g35p, g42, g42p, g49, g49p, g63, g63p, g75, g75p, g79, g79p, g84, g84p] <;> simp [bne]))]; simp
      exact ⟨by rw [hv], _, HP.mapAt 1 rfl, (fun h => by rw [hv] at h; cases h), HP.only m2 (by simp [bx, mapB])⟩
     have g84p := inR_iff.1 (not_is_false g84)
     refine sk (tn ?_)
     refine An.start (fun v => Hp w v [bx b_10 47 (bkL x_3) true, (mapB m2 (bkM (p.bs.take i)) false)] [boxK b 67 (bookC p m1 m2), plnK p, mapK m1 (itM p.its)]) 7 8 HP wide_follows rfl fun w_16 HP => ?_
     refine An.p H (.inr HP) 0 85 (pt b 0) fun a H => ?_
     refine An.p H (.inr HP) 1 86 (pt b 0) fun a H => ?_
     refine An.p H (.inr HP) 2 87 (pt b 14) fun a H => ?_
     refine An.vw H (HP) 3 88 (.map (some m2)) (fun _ hS => ex_l1 (((hS.fact 0 rfl : Box _ b 67 _)).cell (i := 14) rfl)) fun a H => ?_
     refine An.p H (.inr HP) 4 89 (pt b_10 0) fun a H => ?_
     refine An.vw H (HP) 5 90 (ii x_3.id) (fun _ hS => ex_l1 (hS.cell 0 rfl 0 rfl)) fun a H => ?_
     refine An.vw H (HP) 6 91 (bkV x_3) (fun _ hS => ex_lN (bkL x_3) (hS.cells 0 rfl 0 7 (by kernel_rfl))) fun a H => ?_
     refine An.one 7 (by kernel_rfl) ?_
     refine Op.pushM (kt := 3) (et := 47) (k := x_3.id) (v := (bkV x_3)) H HP 1 [bx b_10 47 (bkL x_3) true, (mapB m2 ((bkM (p.bs.take i)) ++ [(x_3.id, (bkV x_3))]) false)] rfl (by kernel_rfl) (by kernel_rfl) (by kernel_rfl) (by kernel_rfl) (by kernel_rfl) (by kernel_rfl) rfl (mget_none (fr_bk hfr)) (by kernel_rfl) fun w_17 a H HP => ?_
     have HP : Hp w w_17 [bx b_10 47 (bkL x_3) true, (mapB m2 (bkM (p.bs.take (i + 1))) false)] [boxK b 67 (bookC p m1 m2), plnK p, mapK m1 (itM p.its)] := by have hh := HP; rw [show (bkM (p.bs.take i)) ++ [(x_3.id, (bkV x_3))] = (bkM (p.bs.take (i + 1))) from bkM_snoc hx_7] at hh; exact hh
     refine ⟨.inl (by kernel_rfl), ?_⟩
     refine An.done (by kernel_rfl) ?_
     refine ibn (tn (rg ?_))
     refine H.valE 92 (ii (IntKind.i64.wrap ((i : Int) + 1))) (ii ((i : Int) + 1)) (by kernel_rfl) (by kernel_rfl) ((by rw [wrap_ini64 _ (by omega)])) fun a H => H.v 28 (ii ((i : Int) + 1)) fun a H => ?_
     refine nl (tn ?_)
     have H := H.as 28 (ii ((i + 1 : Nat) : Int)) rfl rfl
     refine ⟨_, ?_, i + 1, rfl, H.keep (by kernel_rfl), (HP.tail rfl), (by omega), (by rw [hrel, hd_8, List.all_cons, show (bookP p.its p.regions) x_3 = true from by (first | (rw [Bool.eq_iff_iff]; (try simp only [bookP, g13, g13p, g21, g21p, g29, g29p, g35, g35p, g42, g42p, g49, g49p, g63, g63p, g75, g75p, g79, g79p, g84, g84p]); (try simp only [Bool.and_eq_true, Bool.or_eq_true, Bool.not_eq_true', Bool.false_eq_true, decide_eq_true_eq, decide_eq_false_iff_not, inR_iff, inR_not, beq_iff_eq, bne_iff_ne, beq_eq_false_iff_ne, ne_eq, Bool.true_and, Bool.and_true, Bool.false_and, Bool.and_false, Bool.true_or, Bool.or_true, Bool.false_or, Bool.or_false, Bool.not_true, Bool.not_false, and_true, true_and, iff_true, true_iff, iff_false, false_iff, or_true, true_or, or_false, false_or, not_true_eq_false, not_false_eq_true, and_false, false_and]); first | omega | (simp; done) | (simp; omega)) | (simp [bookP, g13, g13p, g21, g21p, g29, g29p, g35, g35p, g42, g42p, g49, g49p, g63, g63p, g75, g75p, g79, g79p, g84, g84p]; done) | (simp [bookP, g13, g13p, g21, g21p, g29, g29p, g35, g35p, g42, g42p, g49, g49p, g63, g63p, g75, g75p, g79, g79p, g84, g84p] <;> simp [bne]))]; rfl)⟩
     omega
    have g49p := of_decide_eq_false g49
    iterate 3 refine H.sx rfl fun a H => ?_
    refine H.v 53 (.bool false) fun a H => H.v 5 (.bool false) fun a H => ?_
    refine nl (tn (sq (sq ?_)))
    refine An.start (fun v => Hp w v [bx b_10 47 (bkL x_3) true, (mapB m2 (bkM (p.bs.take i)) false)] [boxK b 67 (bookC p m1 m2), plnK p, mapK m1 (itM p.its)]) 31 31 HP wide_follows rfl fun w_18 HP => ?_
    refine An.p H (.inr HP) 0 54 (pt b 0) fun a H => ?_
    refine An.p H (.inr HP) 1 55 (pt b 0) fun a H => ?_
    refine An.p H (.inr HP) 2 56 (pt b 13) fun a H => ?_
    refine An.vw H (HP) 3 57 (.map (some m1)) (fun _ hS => ex_l1 (((hS.fact 0 rfl : Box _ b 67 _)).cell (i := 13) rfl)) fun a H => ?_
    refine An.p H (.inr HP) 4 58 (pt b_10 1) fun a H => ?_
    refine An.vw H (HP) 5 59 (ii x_3.item) (fun _ hS => ex_l1 (hS.cell 0 rfl 1 rfl)) fun a H => ?_
    refine An.vw H (HP) 6 60 (itV (gI p.its x_3.item)) (fun _ hS => ex_lookI (l := p.its) (kt := 3) (et := 38) (s1 := 5) (s2 := 40) (by kernel_rfl) (by kernel_rfl) (by kernel_rfl) (by kernel_rfl) (by kernel_rfl) ((hS.fact 2 rfl : MapAt _ m1 (itM p.its)))) fun a H => ?_
    refine An.p H (.inr HP) 7 61 (ii ((gI p.its x_3.item).kind)) fun a H => ?_
    refine An.p H (.inr HP) 8 62 (.bool (((gI p.its x_3.item).kind) != 2)) fun a H => ?_
    refine An.p H (.inr HP) 9 63 (.bool (((gI p.its x_3.item).kind) != 2)) fun a H => ?_
    refine H.split 63 rfl (fun g63 H => ?_) (fun g63 H => ?_)
    ·have g63p := bne_iff_ne.1 g63
     refine An.s H (.inr HP) 10 64 fun a H => ?_
     refine An.s H (.inr HP) 11 65 fun a H => ?_
     refine An.s H (.inr HP) 12 66 fun a H => ?_
     refine An.s H (.inr HP) 13 67 fun a H => ?_
     refine An.s H (.inr HP) 14 68 fun a H => ?_
     refine An.s H (.inr HP) 15 69 fun a H => ?_
     refine An.s H (.inr HP) 16 70 fun a H => ?_
     refine An.s H (.inr HP) 17 71 fun a H => ?_
     refine An.s H (.inr HP) 18 72 fun a H => ?_
     refine An.s H (.inr HP) 19 73 fun a H => ?_
     refine An.p H (.inr HP) 20 74 (.bool true) fun a H => ?_
     refine An.p H (.inr HP) 21 75 (.bool true) fun a H => ?_
     refine An.s H (.inr HP) 22 76 fun a H => ?_
     refine An.s H (.inr HP) 23 77 fun a H => ?_
     refine An.p H (.inr HP) 24 78 (.bool true) fun a H => ?_
     refine An.p H (.inr HP) 25 79 (.bool true) fun a H => ?_
     refine An.s H (.inr HP) 26 80 fun a H => ?_
     refine An.s H (.inr HP) 27 81 fun a H => ?_
     refine An.s H (.inr HP) 28 82 fun a H => ?_
     refine An.s H (.inr HP) 29 83 fun a H => ?_
     refine An.p H (.inr HP) 30 84 (.bool true) fun a H => ?_
     refine An.done (by kernel_rfl) ?_
     refine tn ?_
     refine w_ift H rfl ?_
     refine sq (rg ?_)
     refine H.v 2 (.bool false) fun a H => ?_
     refine nl (tn (rt (tr (ibr (tr (tr (ibr (tr ?_))))))))
     refine H.r1 (.bool false) Tryz.results33 ?_
     have hv : bksP p.its p.regions p.bs = false := by unfold bksP; rw [hrel, hd_8, List.all_cons, show (bookP p.its p.regions) x_3 = false from by (first | (rw [Bool.eq_iff_iff]; (try simp only [bookP, g13, g13p, g21, g21p, g29, g29p, g35, g35p, g42, g42p, g49, g49p, g63, g63p]); (try simp only [Bool.and_eq_true, Bool.or_eq_true, Bool.not_eq_true', Bool.false_eq_true, decide_eq_true_eq, decide_eq_false_iff_not, inR_iff, inR_not, beq_iff_eq, bne_iff_ne, beq_eq_false_iff_ne, ne_eq, Bool.true_and, Bool.and_true, Bool.false_and, Bool.and_false, Bool.true_or, Bool.or_true, Bool.false_or, Bool.or_false, Bool.not_true, Bool.not_false, and_true, true_and, iff_true, true_iff, iff_false, false_iff, or_true, true_or, or_false, false_or, not_true_eq_false, not_false_eq_true, and_false, false_and]); first | omega | (simp; done) | (simp; omega)) | (simp [bookP, g13, g13p, g21, g21p, g29, g29p, g35, g35p, g42, g42p, g49, g49p, g63, g63p]; done) | (simp [bookP, g13, g13p, g21, g21p, g29, g29p, g35, g35p, g42, g42p, g49, g49p, g63, g63p] <;> simp [bne]))]; simp
     exact ⟨by rw [hv], _, HP.mapAt 1 rfl, (fun h => by rw [hv] at h; cases h), HP.only m2 (by simp [bx, mapB])⟩
    have g63p := eq_of_bne_false g63
    refine An.p H (.inr HP) 10 64 (pt b_10 2) fun a H => ?_
    refine An.vw H (HP) 11 65 (ii x_3.region) (fun _ hS => ex_l1 (hS.cell 0 rfl 2 rfl)) fun a H => ?_
    refine An.p H (.inr HP) 12 66 (pt b 0) fun a H => ?_
    refine An.p H (.inr HP) 13 67 (pt b 0) fun a H => ?_
    refine An.p H (.inr HP) 14 68 (pt b 0) fun a H => ?_
    refine An.p H (.inr HP) 15 69 (pt b 6) fun a H => ?_
    refine An.vw H (HP) 16 70 (ii p.regions) (fun _ hS => ex_l1 (((hS.fact 0 rfl : Box _ b 67 _)).cell (i := 6) rfl)) fun a H => ?_
    refine An.pureE H (.inr (HP)) 17 71 (ii (IntKind.i64.wrap (p.regions - 1))) (ii (p.regions - 1)) rfl (by kernel_rfl) (by kernel_rfl) (fun _ _ _ h => h) (fun _ => by kernel_rfl) ((by rw [wrap_ini64 _ (by omega)])) fun a H => ?_
    refine An.one 18 (by kernel_rfl) ?_
    refine Op.call H 72 rfl (by kernel_rfl) (Eq.trans (by kernel_rfl : _ = (callFunc 67 #[(ii x_3.region), (ii 0), (ii (p.regions - 1))]).run Tryz.prog w_18) (Tryz.call67 _ _)) (within_any x_3.region 0 (p.regions - 1) w_18) ?_
    rintro e w_19 ⟨rfl, hb⟩
    refine ⟨_, rfl, ?_⟩
    intro a H
    have HP := HP.next hb
    refine ⟨.inr (HP), ?_⟩
    refine An.p H (.inr HP) 19 73 (.bool (!(inR x_3.region 0 (p.regions - 1)))) fun a H => ?_
    refine An.p H (.inr HP) 20 74 (.bool (!(inR x_3.region 0 (p.regions - 1)))) fun a H => ?_
    refine An.p H (.inr HP) 21 75 (.bool (!(inR x_3.region 0 (p.regions - 1)))) fun a H => ?_
    refine H.split 75 rfl (fun g75 H => ?_) (fun g75 H => ?_)
    ·have g75p := inR_not.1 (not_is_true g75)
     refine An.s H (.inr HP) 22 76 fun a H => ?_
     refine An.s H (.inr HP) 23 77 fun a H => ?_
     refine An.p H (.inr HP) 24 78 (.bool true) fun a H => ?_
     refine An.p H (.inr HP) 25 79 (.bool true) fun a H => ?_
     refine An.s H (.inr HP) 26 80 fun a H => ?_
     refine An.s H (.inr HP) 27 81 fun a H => ?_
     refine An.s H (.inr HP) 28 82 fun a H => ?_
     refine An.s H (.inr HP) 29 83 fun a H => ?_
     refine An.p H (.inr HP) 30 84 (.bool true) fun a H => ?_
     refine An.done (by kernel_rfl) ?_
     refine tn ?_
     refine w_ift H rfl ?_
     refine sq (rg ?_)
     refine H.v 2 (.bool false) fun a H => ?_
     refine nl (tn (rt (tr (ibr (tr (tr (ibr (tr ?_))))))))
     refine H.r1 (.bool false) Tryz.results33 ?_
     have hv : bksP p.its p.regions p.bs = false := by unfold bksP; rw [hrel, hd_8, List.all_cons, show (bookP p.its p.regions) x_3 = false from by (first | (rw [Bool.eq_iff_iff]; (try simp only [bookP, g13, g13p, g21, g21p, g29, g29p, g35, g35p, g42, g42p, g49, g49p, g63, g63p, g75, g75p]); (try simp only [Bool.and_eq_true, Bool.or_eq_true, Bool.not_eq_true', Bool.false_eq_true, decide_eq_true_eq, decide_eq_false_iff_not, inR_iff, inR_not, beq_iff_eq, bne_iff_ne, beq_eq_false_iff_ne, ne_eq, Bool.true_and, Bool.and_true, Bool.false_and, Bool.and_false, Bool.true_or, Bool.or_true, Bool.false_or, Bool.or_false, Bool.not_true, Bool.not_false, and_true, true_and, iff_true, true_iff, iff_false, false_iff, or_true, true_or, or_false, false_or, not_true_eq_false, not_false_eq_true, and_false, false_and]); first | omega | (simp; done) | (simp; omega)) | (simp [bookP, g13, g13p, g21, g21p, g29, g29p, g35, g35p, g42, g42p, g49, g49p, g63, g63p, g75, g75p]; done) | (simp [bookP, g13, g13p, g21, g21p, g29, g29p, g35, g35p, g42, g42p, g49, g49p, g63, g63p, g75, g75p] <;> simp [bne]))]; simp
     exact ⟨by rw [hv], _, HP.mapAt 1 rfl, (fun h => by rw [hv] at h; cases h), HP.only m2 (by simp [bx, mapB])⟩
    have g75p := inR_iff.1 (not_is_false g75)
    refine An.p H (.inr HP) 22 76 (.bool false) fun a H => ?_
    refine An.p H (.inr HP) 23 77 (.bool true) fun a H => ?_
    refine An.p H (.inr HP) 24 78 (.bool true) fun a H => ?_
    refine An.p H (.inr HP) 25 79 (.bool true) fun a H => ?_
    refine An.s H (.inr HP) 26 80 fun a H => ?_
    refine An.s H (.inr HP) 27 81 fun a H => ?_
    refine An.s H (.inr HP) 28 82 fun a H => ?_
    refine An.s H (.inr HP) 29 83 fun a H => ?_
    refine An.p H (.inr HP) 30 84 (.bool true) fun a H => ?_
    refine An.done (by kernel_rfl) ?_
    refine tn ?_
    refine w_ift H rfl ?_
    refine sq (rg ?_)
    refine H.v 2 (.bool false) fun a H => ?_
    refine nl (tn (rt (tr (ibr (tr (tr (ibr (tr ?_))))))))
    refine H.r1 (.bool false) Tryz.results33 ?_
    have hv : bksP p.its p.regions p.bs = false := by unfold bksP; rw [hrel, hd_8, List.all_cons, show (bookP p.its p.regions) x_3 = false from by (first | (rw [Bool.eq_iff_iff]; (try simp only [bookP, g13, g13p, g21, g21p, g29, g29p, g35, g35p, g42, g42p, g49, g49p, g63, g63p, g75, g75p]); (try simp only [Bool.and_eq_true, Bool.or_eq_true, Bool.not_eq_true', Bool.false_eq_true, decide_eq_true_eq, decide_eq_false_iff_not, inR_iff, inR_not, beq_iff_eq, bne_iff_ne, beq_eq_false_iff_ne, ne_eq, Bool.true_and, Bool.and_true, Bool.false_and, Bool.and_false, Bool.true_or, Bool.or_true, Bool.false_or, Bool.or_false, Bool.not_true, Bool.not_false, and_true, true_and, iff_true, true_iff, iff_false, false_iff, or_true, true_or, or_false, false_or, not_true_eq_false, not_false_eq_true, and_false, false_and]); first | omega | (simp; done) | (simp; omega)) | (simp [bookP, g13, g13p, g21, g21p, g29, g29p, g35, g35p, g42, g42p, g49, g49p, g63, g63p, g75, g75p]; done) | (simp [bookP, g13, g13p, g21, g21p, g29, g29p, g35, g35p, g42, g42p, g49, g49p, g63, g63p, g75, g75p] <;> simp [bne]))]; simp
    exact ⟨by rw [hv], _, HP.mapAt 1 rfl, (fun h => by rw [hv] at h; cases h), HP.only m2 (by simp [bx, mapB])⟩
   have g42p := of_decide_eq_false g42
   iterate 5 refine H.sx rfl fun a H => ?_
   refine H.v 48 (.bool false) fun a H => H.v 49 (.bool false) fun a H => ?_
   iterate 3 refine H.sx rfl fun a H => ?_
   refine H.v 53 (.bool false) fun a H => H.v 5 (.bool false) fun a H => ?_
   refine nl (tn (sq (sq ?_)))
   refine An.start (fun v => Hp w v [bx b_10 47 (bkL x_3) true, (mapB m2 (bkM (p.bs.take i)) false)] [boxK b 67 (bookC p m1 m2), plnK p, mapK m1 (itM p.its)]) 31 31 HP wide_follows rfl fun w_20 HP => ?_
   refine An.p H (.inr HP) 0 54 (pt b 0) fun a H => ?_
   refine An.p H (.inr HP) 1 55 (pt b 0) fun a H => ?_
   refine An.p H (.inr HP) 2 56 (pt b 13) fun a H => ?_
   refine An.vw H (HP) 3 57 (.map (some m1)) (fun _ hS => ex_l1 (((hS.fact 0 rfl : Box _ b 67 _)).cell (i := 13) rfl)) fun a H => ?_
   refine An.p H (.inr HP) 4 58 (pt b_10 1) fun a H => ?_
   refine An.vw H (HP) 5 59 (ii x_3.item) (fun _ hS => ex_l1 (hS.cell 0 rfl 1 rfl)) fun a H => ?_
   refine An.vw H (HP) 6 60 (itV (gI p.its x_3.item)) (fun _ hS => ex_lookI (l := p.its) (kt := 3) (et := 38) (s1 := 5) (s2 := 40) (by kernel_rfl) (by kernel_rfl) (by kernel_rfl) (by kernel_rfl) (by kernel_rfl) ((hS.fact 2 rfl : MapAt _ m1 (itM p.its)))) fun a H => ?_
   refine An.p H (.inr HP) 7 61 (ii ((gI p.its x_3.item).kind)) fun a H => ?_
   refine An.p H (.inr HP) 8 62 (.bool (((gI p.its x_3.item).kind) != 2)) fun a H => ?_
   refine An.p H (.inr HP) 9 63 (.bool (((gI p.its x_3.item).kind) != 2)) fun a H => ?_
   refine H.split 63 rfl (fun g63 H => ?_) (fun g63 H => ?_)
   ·have g63p := bne_iff_ne.1 g63
    refine An.s H (.inr HP) 10 64 fun a H => ?_
    refine An.s H (.inr HP) 11 65 fun a H => ?_
    refine An.s H (.inr HP) 12 66 fun a H => ?_
    refine An.s H (.inr HP) 13 67 fun a H => ?_
    refine An.s H (.inr HP) 14 68 fun a H => ?_
    refine An.s H (.inr HP) 15 69 fun a H => ?_
    refine An.s H (.inr HP) 16 70 fun a H => ?_
    refine An.s H (.inr HP) 17 71 fun a H => ?_
    refine An.s H (.inr HP) 18 72 fun a H => ?_
    refine An.s H (.inr HP) 19 73 fun a H => ?_
    refine An.p H (.inr HP) 20 74 (.bool true) fun a H => ?_
    refine An.p H (.inr HP) 21 75 (.bool true) fun a H => ?_
    refine An.s H (.inr HP) 22 76 fun a H => ?_
    refine An.s H (.inr HP) 23 77 fun a H => ?_
    refine An.p H (.inr HP) 24 78 (.bool true) fun a H => ?_
    refine An.p H (.inr HP) 25 79 (.bool true) fun a H => ?_
    refine An.s H (.inr HP) 26 80 fun a H => ?_
    refine An.s H (.inr HP) 27 81 fun a H => ?_
    refine An.s H (.inr HP) 28 82 fun a H => ?_
    refine An.s H (.inr HP) 29 83 fun a H => ?_
    refine An.p H (.inr HP) 30 84 (.bool true) fun a H => ?_
    refine An.done (by kernel_rfl) ?_
    refine tn ?_
    refine w_ift H rfl ?_
    refine sq (rg ?_)
    refine H.v 2 (.bool false) fun a H => ?_
    refine nl (tn (rt (tr (ibr (tr (tr (ibr (tr ?_))))))))
    refine H.r1 (.bool false) Tryz.results33 ?_
    have hv : bksP p.its p.regions p.bs = false := by unfold bksP; rw [hrel, hd_8, List.all_cons, show (bookP p.its p.regions) x_3 = false from by (first | (rw [Bool.eq_iff_iff]; (try simp only [bookP, g13, g13p, g21, g21p, g29, g29p, g35, g35p, g42, g42p, g63, g63p]); (try simp only [Bool.and_eq_true, Bool.or_eq_true, Bool.not_eq_true', Bool.false_eq_true, decide_eq_true_eq, decide_eq_false_iff_not, inR_iff, inR_not, beq_iff_eq, bne_iff_ne, beq_eq_false_iff_ne, ne_eq, Bool.true_and, Bool.and_true, Bool.false_and, Bool.and_false, Bool.true_or, Bool.or_true, Bool.false_or, Bool.or_false, Bool.not_true, Bool.not_false, and_true, true_and, iff_true, true_iff, iff_false, false_iff, or_true, true_or, or_false, false_or, not_true_eq_false, not_false_eq_true, and_false, false_and]); first | omega | (simp; done) | (simp; omega)) | (simp [bookP, g13, g13p, g21, g21p, g29, g29p, g35, g35p, g42, g42p, g63, g63p]; done) | (simp [bookP, g13, g13p, g21, g21p, g29, g29p, g35, g35p, g42, g42p, g63, g63p] <;> simp [bne]))]; simp
    exact ⟨by rw [hv], _, HP.mapAt 1 rfl, (fun h => by rw [hv] at h; cases h), HP.only m2 (by simp [bx, mapB])⟩
   have g63p := eq_of_bne_false g63
   refine An.p H (.inr HP) 10 64 (pt b_10 2) fun a H => ?_
   refine An.vw H (HP) 11 65 (ii x_3.region) (fun _ hS => ex_l1 (hS.cell 0 rfl 2 rfl)) fun a H => ?_
   refine An.p H (.inr HP) 12 66 (pt b 0) fun a H => ?_
   refine An.p H (.inr HP) 13 67 (pt b 0) fun a H => ?_
   refine An.p H (.inr HP) 14 68 (pt b 0) fun a H => ?_
   refine An.p H (.inr HP) 15 69 (pt b 6) fun a H => ?_
   refine An.vw H (HP) 16 70 (ii p.regions) (fun _ hS => ex_l1 (((hS.fact 0 rfl : Box _ b 67 _)).cell (i := 6) rfl)) fun a H => ?_
   refine An.pureE H (.inr (HP)) 17 71 (ii (IntKind.i64.wrap (p.regions - 1))) (ii (p.regions - 1)) rfl (by kernel_rfl) (by kernel_rfl) (fun _ _ _ h => h) (fun _ => by kernel_rfl) ((by rw [wrap_ini64 _ (by omega)])) fun a H => ?_
   refine An.one 18 (by kernel_rfl) ?_
   refine Op.call H 72 rfl (by kernel_rfl) (Eq.trans (by kernel_rfl : _ = (callFunc 67 #[(ii x_3.region), (ii 0), (ii (p.regions - 1))]).run Tryz.prog w_20) (Tryz.call67 _ _)) (within_any x_3.region 0 (p.regions - 1) w_20) ?_
   rintro e w_21 ⟨rfl, hb⟩
   refine ⟨_, rfl, ?_⟩
   intro a H
   have HP := HP.next hb
   refine ⟨.inr (HP), ?_⟩
   refine An.p H (.inr HP) 19 73 (.bool (!(inR x_3.region 0 (p.regions - 1)))) fun a H => ?_
   refine An.p H (.inr HP) 20 74 (.bool (!(inR x_3.region 0 (p.regions - 1)))) fun a H => ?_
   refine An.p H (.inr HP) 21 75 (.bool (!(inR x_3.region 0 (p.regions - 1)))) fun a H => ?_
   refine H.split 75 rfl (fun g75 H => ?_) (fun g75 H => ?_)
   ·have g75p := inR_not.1 (not_is_true g75)
    refine An.s H (.inr HP) 22 76 fun a H => ?_
    refine An.s H (.inr HP) 23 77 fun a H => ?_
    refine An.p H (.inr HP) 24 78 (.bool true) fun a H => ?_
    refine An.p H (.inr HP) 25 79 (.bool true) fun a H => ?_
    refine An.s H (.inr HP) 26 80 fun a H => ?_
    refine An.s H (.inr HP) 27 81 fun a H => ?_
    refine An.s H (.inr HP) 28 82 fun a H => ?_
    refine An.s H (.inr HP) 29 83 fun a H => ?_
    refine An.p H (.inr HP) 30 84 (.bool true) fun a H => ?_
    refine An.done (by kernel_rfl) ?_
    refine tn ?_
    refine w_ift H rfl ?_
    refine sq (rg ?_)
    refine H.v 2 (.bool false) fun a H => ?_
    refine nl (tn (rt (tr (ibr (tr (tr (ibr (tr ?_))))))))
    refine H.r1 (.bool false) Tryz.results33 ?_
    have hv : bksP p.its p.regions p.bs = false := by unfold bksP; rw [hrel, hd_8, List.all_cons, show (bookP p.its p.regions) x_3 = false from by (first | (rw [Bool.eq_iff_iff]; (try simp only [bookP, g13, g13p, g21, g21p, g29, g29p, g35, g35p, g42, g42p, g63, g63p, g75, g75p]); (try simp only [Bool.and_eq_true, Bool.or_eq_true, Bool.not_eq_true', Bool.false_eq_true, decide_eq_true_eq, decide_eq_false_iff_not, inR_iff, inR_not, beq_iff_eq, bne_iff_ne, beq_eq_false_iff_ne, ne_eq, Bool.true_and, Bool.and_true, Bool.false_and, Bool.and_false, Bool.true_or, Bool.or_true, Bool.false_or, Bool.or_false, Bool.not_true, Bool.not_false, and_true, true_and, iff_true, true_iff, iff_false, false_iff, or_true, true_or, or_false, false_or, not_true_eq_false, not_false_eq_true, and_false, false_and]); first | omega | (simp; done) | (simp; omega)) | (simp [bookP, g13, g13p, g21, g21p, g29, g29p, g35, g35p, g42, g42p, g63, g63p, g75, g75p]; done) | (simp [bookP, g13, g13p, g21, g21p, g29, g29p, g35, g35p, g42, g42p, g63, g63p, g75, g75p] <;> simp [bne]))]; simp
    exact ⟨by rw [hv], _, HP.mapAt 1 rfl, (fun h => by rw [hv] at h; cases h), HP.only m2 (by simp [bx, mapB])⟩
   have g75p := inR_iff.1 (not_is_false g75)
   refine An.p H (.inr HP) 22 76 (.bool false) fun a H => ?_
   refine An.p H (.inr HP) 23 77 (.bool true) fun a H => ?_
   refine An.p H (.inr HP) 24 78 (.bool true) fun a H => ?_
   refine An.p H (.inr HP) 25 79 (.bool true) fun a H => ?_
   refine An.s H (.inr HP) 26 80 fun a H => ?_
   refine An.s H (.inr HP) 27 81 fun a H => ?_
   refine An.s H (.inr HP) 28 82 fun a H => ?_
   refine An.s H (.inr HP) 29 83 fun a H => ?_
   refine An.p H (.inr HP) 30 84 (.bool true) fun a H => ?_
   refine An.done (by kernel_rfl) ?_
   refine tn ?_
   refine w_ift H rfl ?_
   refine sq (rg ?_)
   refine H.v 2 (.bool false) fun a H => ?_
   refine nl (tn (rt (tr (ibr (tr (tr (ibr (tr ?_))))))))
   refine H.r1 (.bool false) Tryz.results33 ?_
   have hv : bksP p.its p.regions p.bs = false := by unfold bksP; rw [hrel, hd_8, List.all_cons, show (bookP p.its p.regions) x_3 = false from by (first | (rw [Bool.eq_iff_iff]; (try simp only [bookP, g13, g13p, g21, g21p, g29, g29p, g35, g35p, g42, g42p, g63, g63p, g75, g75p]); (try simp only [Bool.and_eq_true, Bool.or_eq_true, Bool.not_eq_true', Bool.false_eq_true, decide_eq_true_eq, decide_eq_false_iff_not, inR_iff, inR_not, beq_iff_eq, bne_iff_ne, beq_eq_false_iff_ne, ne_eq, Bool.true_and, Bool.and_true, Bool.false_and, Bool.and_false, Bool.true_or, Bool.or_true, Bool.false_or, Bool.or_false, Bool.not_true, Bool.not_false, and_true, true_and, iff_true, true_iff, iff_false, false_iff, or_true, true_or, or_false, false_or, not_true_eq_false, not_false_eq_true, and_false, false_and]); first | omega | (simp; done) | (simp; omega)) | (simp [bookP, g13, g13p, g21, g21p, g29, g29p, g35, g35p, g42, g42p, g63, g63p, g75, g75p]; done) | (simp [bookP, g13, g13p, g21, g21p, g29, g29p, g35, g35p, g42, g42p, g63, g63p, g75, g75p] <;> simp [bne]))]; simp
   exact ⟨by rw [hv], _, HP.mapAt 1 rfl, (fun h => by rw [hv] at h; cases h), HP.only m2 (by simp [bx, mapB])⟩
  have g35p := of_decide_eq_false g35
  iterate 5 refine H.sx rfl fun a H => ?_
  refine H.v 41 (.bool false) fun a H => H.v 42 (.bool false) fun a H => ?_
  iterate 5 refine H.sx rfl fun a H => ?_
  refine H.v 48 (.bool false) fun a H => H.v 49 (.bool false) fun a H => ?_
  iterate 3 refine H.sx rfl fun a H => ?_
  refine H.v 53 (.bool false) fun a H => H.v 5 (.bool false) fun a H => ?_
  refine nl (tn (sq (sq ?_)))
  refine An.start (fun v => Hp w v [bx b_10 47 (bkL x_3) true, (mapB m2 (bkM (p.bs.take i)) false)] [boxK b 67 (bookC p m1 m2), plnK p, mapK m1 (itM p.its)]) 31 31 HP wide_follows rfl fun w_22 HP => ?_
  refine An.p H (.inr HP) 0 54 (pt b 0) fun a H => ?_
  refine An.p H (.inr HP) 1 55 (pt b 0) fun a H => ?_
  refine An.p H (.inr HP) 2 56 (pt b 13) fun a H => ?_
  refine An.vw H (HP) 3 57 (.map (some m1)) (fun _ hS => ex_l1 (((hS.fact 0 rfl : Box _ b 67 _)).cell (i := 13) rfl)) fun a H => ?_
  refine An.p H (.inr HP) 4 58 (pt b_10 1) fun a H => ?_
  refine An.vw H (HP) 5 59 (ii x_3.item) (fun _ hS => ex_l1 (hS.cell 0 rfl 1 rfl)) fun a H => ?_
  refine An.vw H (HP) 6 60 (itV (gI p.its x_3.item)) (fun _ hS => ex_lookI (l := p.its) (kt := 3) (et := 38) (s1 := 5) (s2 := 40) (by kernel_rfl) (by kernel_rfl) (by kernel_rfl) (by kernel_rfl) (by kernel_rfl) ((hS.fact 2 rfl : MapAt _ m1 (itM p.its)))) fun a H => ?_
  refine An.p H (.inr HP) 7 61 (ii ((gI p.its x_3.item).kind)) fun a H => ?_
  refine An.p H (.inr HP) 8 62 (.bool (((gI p.its x_3.item).kind) != 2)) fun a H => ?_
  refine An.p H (.inr HP) 9 63 (.bool (((gI p.its x_3.item).kind) != 2)) fun a H => ?_
  refine H.split 63 rfl (fun g63 H => ?_) (fun g63 H => ?_)
  ·have g63p := bne_iff_ne.1 g63
   refine An.s H (.inr HP) 10 64 fun a H => ?_
   refine An.s H (.inr HP) 11 65 fun a H => ?_
   refine An.s H (.inr HP) 12 66 fun a H => ?_
   refine An.s H (.inr HP) 13 67 fun a H => ?_
   refine An.s H (.inr HP) 14 68 fun a H => ?_
   refine An.s H (.inr HP) 15 69 fun a H => ?_
   refine An.s H (.inr HP) 16 70 fun a H => ?_
   refine An.s H (.inr HP) 17 71 fun a H => ?_
   refine An.s H (.inr HP) 18 72 fun a H => ?_
   refine An.s H (.inr HP) 19 73 fun a H => ?_
   refine An.p H (.inr HP) 20 74 (.bool true) fun a H => ?_
   refine An.p H (.inr HP) 21 75 (.bool true) fun a H => ?_
   refine An.s H (.inr HP) 22 76 fun a H => ?_
   refine An.s H (.inr HP) 23 77 fun a H => ?_
   refine An.p H (.inr HP) 24 78 (.bool true) fun a H => ?_
   refine An.p H (.inr HP) 25 79 (.bool true) fun a H => ?_
   refine An.s H (.inr HP) 26 80 fun a H => ?_
   refine An.s H (.inr HP) 27 81 fun a H => ?_
   refine An.s H (.inr HP) 28 82 fun a H => ?_
   refine An.s H (.inr HP) 29 83 fun a H => ?_
   refine An.p H (.inr HP) 30 84 (.bool true) fun a H => ?_
   refine An.done (by kernel_rfl) ?_
   refine tn ?_
   refine w_ift H rfl ?_
   refine sq (rg ?_)
   refine H.v 2 (.bool false) fun a H => ?_
   refine nl (tn (rt (tr (ibr (tr (tr (ibr (tr ?_))))))))
   refine H.r1 (.bool false) Tryz.results33 ?_
   have hv : bksP p.its p.regions p.bs = false := by unfold bksP; rw [hrel, hd_8, List.all_cons, show (bookP p.its p.regions) x_3 = false from by (first | (rw [Bool.eq_iff_iff]; (try simp only [bookP, g13, g13p, g21, g21p, g29, g29p, g35, g35p, g63, g63p]); (try simp only [Bool.and_eq_true, Bool.or_eq_true, Bool.not_eq_true', Bool.false_eq_true, decide_eq_true_eq, decide_eq_false_iff_not, inR_iff, inR_not, beq_iff_eq, bne_iff_ne, beq_eq_false_iff_ne, ne_eq, Bool.true_and, Bool.and_true, Bool.false_and, Bool.and_false, Bool.true_or, Bool.or_true, Bool.false_or, Bool.or_false, Bool.not_true, Bool.not_false, and_true, true_and, iff_true, true_iff, iff_false, false_iff, or_true, true_or, or_false, false_or, not_true_eq_false, not_false_eq_true, and_false, false_and]); first | omega | (simp; done) | (simp; omega)) | (simp [bookP, g13, g13p, g21, g21p, g29, g29p, g35, g35p, g63, g63p]; done) | (simp [bookP, g13, g13p, g21, g21p, g29, g29p, g35, g35p, g63, g63p] <;> simp [bne]))]; simp
   exact ⟨by rw [hv], _, HP.mapAt 1 rfl, (fun h => by rw [hv] at h; cases h), HP.only m2 (by simp [bx, mapB])⟩
  have g63p := eq_of_bne_false g63
  refine An.p H (.inr HP) 10 64 (pt b_10 2) fun a H => ?_
  refine An.vw H (HP) 11 65 (ii x_3.region) (fun _ hS => ex_l1 (hS.cell 0 rfl 2 rfl)) fun a H => ?_
  refine An.p H (.inr HP) 12 66 (pt b 0) fun a H => ?_
  refine An.p H (.inr HP) 13 67 (pt b 0) fun a H => ?_
  refine An.p H (.inr HP) 14 68 (pt b 0) fun a H => ?_
  refine An.p H (.inr HP) 15 69 (pt b 6) fun a H => ?_
  refine An.vw H (HP) 16 70 (ii p.regions) (fun _ hS => ex_l1 (((hS.fact 0 rfl : Box _ b 67 _)).cell (i := 6) rfl)) fun a H => ?_
  refine An.pureE H (.inr (HP)) 17 71 (ii (IntKind.i64.wrap (p.regions - 1))) (ii (p.regions - 1)) rfl (by kernel_rfl) (by kernel_rfl) (fun _ _ _ h => h) (fun _ => by kernel_rfl) ((by rw [wrap_ini64 _ (by omega)])) fun a H => ?_
  refine An.one 18 (by kernel_rfl) ?_
  refine Op.call H 72 rfl (by kernel_rfl) (Eq.trans (by kernel_rfl : _ = (callFunc 67 #[(ii x_3.region), (ii 0), (ii (p.regions - 1))]).run Tryz.prog w_22) (Tryz.call67 _ _)) (within_any x_3.region 0 (p.regions - 1) w_22) ?_
  rintro e w_23 ⟨rfl, hb⟩
  refine ⟨_, rfl, ?_⟩
  intro a H
  have HP := HP.next hb
  refine ⟨.inr (HP), ?_⟩
  refine An.p H (.inr HP) 19 73 (.bool (!(inR x_3.region 0 (p.regions - 1)))) fun a H => ?_
  refine An.p H (.inr HP) 20 74 (.bool (!(inR x_3.region 0 (p.regions - 1)))) fun a H => ?_
  refine An.p H (.inr HP) 21 75 (.bool (!(inR x_3.region 0 (p.regions - 1)))) fun a H => ?_
  refine H.split 75 rfl (fun g75 H => ?_) (fun g75 H => ?_)
  ·have g75p := inR_not.1 (not_is_true g75)
   refine An.s H (.inr HP) 22 76 fun a H => ?_
   refine An.s H (.inr HP) 23 77 fun a H => ?_
   refine An.p H (.inr HP) 24 78 (.bool true) fun a H => ?_
   refine An.p H (.inr HP) 25 79 (.bool true) fun a H => ?_
   refine An.s H (.inr HP) 26 80 fun a H => ?_
   refine An.s H (.inr HP) 27 81 fun a H => ?_
   refine An.s H (.inr HP) 28 82 fun a H => ?_
   refine An.s H (.inr HP) 29 83 fun a H => ?_
   refine An.p H (.inr HP) 30 84 (.bool true) fun a H => ?_
   refine An.done (by kernel_rfl) ?_
   refine tn ?_
   refine w_ift H rfl ?_
   refine sq (rg ?_)
   refine H.v 2 (.bool false) fun a H => ?_
   refine nl (tn (rt (tr (ibr (tr (tr (ibr (tr ?_))))))))
   refine H.r1 (.bool false) Tryz.results33 ?_
   have hv : bksP p.its p.regions p.bs = false := by unfold bksP; rw [hrel, hd_8, List.all_cons, show (bookP p.its p.regions) x_3 = false from by (first | (rw [Bool.eq_iff_iff]; (try simp only [bookP, g13, g13p, g21, g21p, g29, g29p, g35, g35p, g63, g63p, g75, g75p]); (try simp only [Bool.and_eq_true, Bool.or_eq_true, Bool.not_eq_true', Bool.false_eq_true, decide_eq_true_eq, decide_eq_false_iff_not, inR_iff, inR_not, beq_iff_eq, bne_iff_ne, beq_eq_false_iff_ne, ne_eq, Bool.true_and, Bool.and_true, Bool.false_and, Bool.and_false, Bool.true_or, Bool.or_true, Bool.false_or, Bool.or_false, Bool.not_true, Bool.not_false, and_true, true_and, iff_true, true_iff, iff_false, false_iff, or_true, true_or, or_false, false_or, not_true_eq_false, not_false_eq_true, and_false, false_and]); first | omega | (simp; done) | (simp; omega)) | (simp [bookP, g13, g13p, g21, g21p, g29, g29p, g35, g35p, g63, g63p, g75, g75p]; done) | (simp [bookP, g13, g13p, g21, g21p, g29, g29p, g35, g35p, g63, g63p, g75, g75p] <;> simp [bne]))]; simp
   exact ⟨by rw [hv], _, HP.mapAt 1 rfl, (fun h => by rw [hv] at h; cases h), HP.only m2 (by simp [bx, mapB])⟩
  have g75p := inR_iff.1 (not_is_false g75)
  refine An.p H (.inr HP) 22 76 (.bool false) fun a H => ?_
  refine An.p H (.inr HP) 23 77 (.bool true) fun a H => ?_
  refine An.p H (.inr HP) 24 78 (.bool true) fun a H => ?_
  refine An.p H (.inr HP) 25 79 (.bool true) fun a H => ?_
  refine An.s H (.inr HP) 26 80 fun a H => ?_
  refine An.s H (.inr HP) 27 81 fun a H => ?_
  refine An.s H (.inr HP) 28 82 fun a H => ?_
  refine An.s H (.inr HP) 29 83 fun a H => ?_
  refine An.p H (.inr HP) 30 84 (.bool true) fun a H => ?_
  refine An.done (by kernel_rfl) ?_
  refine tn ?_
  refine w_ift H rfl ?_
  refine sq (rg ?_)
  refine H.v 2 (.bool false) fun a H => ?_
  refine nl (tn (rt (tr (ibr (tr (tr (ibr (tr ?_))))))))
  refine H.r1 (.bool false) Tryz.results33 ?_
  have hv : bksP p.its p.regions p.bs = false := by unfold bksP; rw [hrel, hd_8, List.all_cons, show (bookP p.its p.regions) x_3 = false from by (first | (rw [Bool.eq_iff_iff]; (try simp only [bookP, g13, g13p, g21, g21p, g29, g29p, g35, g35p, g63, g63p, g75, g75p]); (try simp only [Bool.and_eq_true, Bool.or_eq_true, Bool.not_eq_true', Bool.false_eq_true, decide_eq_true_eq, decide_eq_false_iff_not, inR_iff, inR_not, beq_iff_eq, bne_iff_ne, beq_eq_false_iff_ne, ne_eq, Bool.true_and, Bool.and_true, Bool.false_and, Bool.and_false, Bool.true_or, Bool.or_true, Bool.false_or, Bool.or_false, Bool.not_true, Bool.not_false, and_true, true_and, iff_true, true_iff, iff_false, false_iff, or_true, true_or, or_false, false_or, not_true_eq_false, not_false_eq_true, and_false, false_and]); first | omega | (simp; done) | (simp; omega)) | (simp [bookP, g13, g13p, g21, g21p, g29, g29p, g35, g35p, g63, g63p, g75, g75p]; done) | (simp [bookP, g13, g13p, g21, g21p, g29, g29p, g35, g35p, g63, g63p, g75, g75p] <;> simp [bne]))]; simp
  exact ⟨by rw [hv], _, HP.mapAt 1 rfl, (fun h => by rw [hv] at h; cases h), HP.only m2 (by simp [bx, mapB])⟩
 have g29p := of_decide_eq_false g29
 refine wp_exit (then_exit (then_exit ?_))
 refine w_exit_here ?_
 refine tn (sq ?_)
 have ht : p.bs.take i = p.bs := List.take_of_length_le (by omega)
 rw [ht] at HP
 refine rg ?_
 refine H.v 2 (.bool true) fun a H => ?_
 refine nl (tn (rt ?_))
 refine H.r1 (.bool true) Tryz.results33 ?_
 have hall : p.bs.all (bookP p.its p.regions) = true := by rw [hrel, List.drop_eq_nil_of_le (by omega)]; rfl
 have hasc : asc 0 1000000 (p.bs.map (fun x => x.id)) = true := g21p
 have hlen : (p.bs.length : Int) ≤ 2000 := by omega
 exact ⟨by rw [show bksP p.its p.regions p.bs = (true) from by unfold bksP; rw [hall, hasc]; simp [hlen]], _, HP.mapAt 0 rfl, (fun _ => rfl), HP.only m2 (by simp [bx, mapB])⟩
theorem hasEntries_any (b m1 m2 : Nat) (p : Pln) (w : World) (hBk : BookAt w b m1 m2 p) (hlen : 1 ≤ p.length ∧ p.length ≤ 100000000) (hits : p.its.all itemP = true) (hreg : 1 ≤ p.regions ∧ p.regions ≤ 8) : Calls Tryz.prog 34 #[.pointer (some ⟨b, 0, none⟩)] w fun e w' => e = .returned (.bool (decide ((p.es.length : Int) ≤ 4000) && entsP p [] p.es)) ∧ Below w.heap.size w w' := by
 have hlE := hBk.pl.les
 unfold maxLen at hlE
 have HP := Hp.start w
 refine w_enter 56 [(0, (pt b 0))] Tryz.func34 rfl Tryz.ntmps34 (by kernel_rfl) (by kernel_rfl) fun a H => ?_
 refine sq (rg ?_)
 refine H.v 2 (.bool false) fun a H => ?_
 refine nl (tn (sq (sq (rg ?_))))
 refine H.v 6 (pt b 0) fun a H => H.v 7 (pt b 0) fun a H => H.v 8 (pt b 0) fun a H => H.v 9 (pt b 10) fun a H => H.u 10 (.slice p.EA p.es.length p.ec) (ex_l1 ((hBk.below HP.bl).box.cell (i := 10) rfl)) fun a H => H.v 11 (ii p.es.length) fun a H => H.v 12 (.bool (decide ((p.es.length : Int) > 4000))) fun a H => ?_
 refine nl (tn ?_)
 refine w_if H rfl (fun g12 => ?_) (fun g12 => ?_)
 ·have g12p := of_decide_eq_true g12
  refine sq (rg ?_)
  refine H.v 2 (.bool false) fun a H => ?_
  refine nl (tn (rt (tr ?_)))
  refine H.r1 (.bool false) Tryz.results34 ?_
  exact ⟨by rw [show (decide ((p.es.length : Int) ≤ 4000) && entsP p [] p.es) = false from by simp [show ¬ (p.es.length : Int) ≤ 4000 by omega]], HP.bl⟩
 have g12p := of_decide_eq_false g12
 refine sk (tn (sq (rg ?_)))
 refine H.newMap HP 13 (by kernel_rfl) fun m_1 w_2 a H HP => ?_
 have HP : Hp w w_2 [(mapB m_1 (seM ([])) true)] [] := HP
 refine H.v 3 (.map (some m_1)) fun a H => ?_
 refine nl (tn (sq (sq (rg ?_))))
 refine H.v 14 (pt b 0) fun a H => H.v 15 (pt b 0) fun a H => H.v 16 (pt b 0) fun a H => H.v 17 (pt b 10) fun a H => H.u 18 (.slice p.EA p.es.length p.ec) (ex_l1 ((hBk.below HP.bl).box.cell (i := 10) rfl)) fun a H => H.v 19 (ii p.es.length) fun a H => H.v 20 (ii 0) fun a H => ?_
 refine nl (tn (bk ?_))
 refine w_loop (fun mm a wv => ∃ (i : Nat), p.es.length - i = mm ∧ Sl 56 [(20, (ii i)), (19, (ii p.es.length)), (18, (.slice p.EA p.es.length p.ec)), (17, (pt b 10)), (16, (pt b 0)), (15, (pt b 0)), (14, (pt b 0)), (3, (.map (some m_1))), (13, (.map (some m_1))), (12, (.bool (decide ((p.es.length : Int) > 4000)))), (11, (ii p.es.length)), (10, (.slice p.EA p.es.length p.ec)), (9, (pt b 10)), (8, (pt b 0)), (7, (pt b 0)), (6, (pt b 0)), (0, (pt b 0))] a ∧ Hp w wv [(mapB m_1 (seM ((p.es.take i).map (fun x => x.id))) true)] [] ∧ (i ≤ p.es.length) ∧ (entsP p [] p.es = entsP p ((p.es.take i).map (fun x => x.id)) (p.es.drop i))) (p.es.length - 0) ?_ ?_
 ·exact ⟨0, (by omega), H.keep (by kernel_rfl), HP, (Nat.zero_le _), rfl⟩
 rintro mm a w_3 ⟨i, hmeas, H, HP, hib, hrel⟩
 refine sq (rg ?_)
 refine H.v 21 (.bool (decide ((i : Int) < (p.es.length : Int)))) fun a H => ?_
 refine nl (tn (sq ?_))
 refine w_if H rfl (fun g21 => ?_) (fun g21 => ?_)
 ·have g21p := of_decide_eq_true g21
  refine sk (tn (sq (bk (sq ?_))))
  obtain ⟨bu_5, ou_6, x_4, hA_7, _, hd_9, hx_8, hm_10, _⟩ := IsRow.get enC_size (hBk.below HP.bl).pl.es.row (i := i) (by omega)
  refine rg ?_
  refine H.u 22 (.pointer (some ⟨bu_5, ou_6 + i * 7, none⟩)) (ex_indexA (b := bu_5) (off := ou_6) (len := p.es.length) (cap := p.ec) (e := 43) (k := 7) (ik := .i64) (i := (i : Int)) (m := i) hA_7 (by kernel_rfl) (by kernel_rfl) (by omega) (by omega) (by kernel_rfl) (by kernel_rfl)) fun a H => H.u 23 (enV x_4) (ex_lN (enL x_4) (IsRow.cells enC_size (hBk.below HP.bl).pl.es.row hA_7 hx_8)) fun a H => H.al HP 5 43 [(ii 0), (ii 0), (ii 0), (ii 0), (ii 0), (ii 0), (.slice none 0 0)] fun b_11 w_12 a H HP => H.st HP 0 b_11 0 7 43 true (enV x_4) [bx b_11 43 (enL x_4) true, (mapB m_1 (seM ((p.es.take i).map (fun x => x.id))) true)] rfl fun w_13 a H HP => ?_
  refine nl (tn (sq (sq (rg ?_))))
  refine H.v 24 (pt b_11 0) fun a H => H.u 25 (ii x_4.id) (ex_l1 (HP.cell 0 rfl 0 rfl)) fun a H => H.cb HP 26 (Tryz.call67 _ _) (within_any x_4.id 1 1000000 w_13) fun w_14 hb a H HP => H.v 27 (.bool (!(inR x_4.id 1 1000000))) fun a H => H.v 28 (.bool (!(inR x_4.id 1 1000000))) fun a H => ?_
  refine H.split 28 rfl (fun g28 H => ?_) (fun g28 H => ?_)
  ·have g28p := inR_not.1 (not_is_true g28)
   iterate 3 ((iterate 4 refine H.sx rfl fun a H => ?_); (iterate 2 refine H.vx rfl (.bool true) fun a H => ?_))
   iterate 4 refine H.sx rfl fun a H => ?_
   refine H.vx rfl (.bool true) fun a H => ?_
   refine nl (tn ?_)
   refine w_ift H rfl ?_
   refine sq (rg ?_)
   refine H.v 2 (.bool false) fun a H => ?_
   refine nl (tn (rt (tr (ibr (tr (tr (ibr (tr ?_))))))))
   refine H.r1 (.bool false) Tryz.results34 ?_
   exact ⟨by rw [show (decide ((p.es.length : Int) ≤ 4000) && entsP p [] p.es) = false from by rw [hrel, hd_9, entsP, show (entP p x_4 && !((p.es.take i).map (fun x => x.id)).contains x_4.id) = false from by have hi_ : inR x_4.id 1 1000000 = false := (by rw [inR_not]; omega); simp only [entP, hi_, g12, g12p, g21, g21p, g28, g28p, Bool.not_true, Bool.not_false, Bool.and_false, Bool.false_and, Bool.and_true, Bool.true_and]]; simp], HP.bl⟩
  have g28p := inR_iff.1 (not_is_false g28)
  refine H.v 29 (.map (some m_1)) fun a H => H.v 30 (pt b_11 0) fun a H => H.u 31 (ii x_4.id) (ex_l1 (HP.cell 0 rfl 0 rfl)) fun a H => H.u 32 (.bool (((p.es.take i).map (fun x => x.id)).contains x_4.id)) (ex_lookS (l := (p.es.take i).map (fun x => x.id)) (kt := 3) (et := 4) (s1 := 1) (s2 := 1) (by kernel_rfl) (by kernel_rfl) (by kernel_rfl) (by kernel_rfl) (by kernel_rfl) (HP.mapAt 1 rfl)) fun a H => H.v 33 (.bool (((p.es.take i).map (fun x => x.id)).contains x_4.id)) fun a H => H.v 34 (.bool (((p.es.take i).map (fun x => x.id)).contains x_4.id)) fun a H => ?_
  refine H.split 34 rfl (fun g34 H => ?_) (fun g34 H => ?_)
  ·have g34p := g34
   iterate 2 ((iterate 4 refine H.sx rfl fun a H => ?_); (iterate 2 refine H.vx rfl (.bool true) fun a H => ?_))
   iterate 4 refine H.sx rfl fun a H => ?_
   refine H.vx rfl (.bool true) fun a H => ?_
   refine nl (tn ?_)
   refine w_ift H rfl ?_
   refine sq (rg ?_)
   refine H.v 2 (.bool false) fun a H => ?_
   refine nl (tn (rt (tr (ibr (tr (tr (ibr (tr ?_))))))))
   refine H.r1 (.bool false) Tryz.results34 ?_
   exact ⟨by rw [show (decide ((p.es.length : Int) ≤ 4000) && entsP p [] p.es) = false from by rw [hrel, hd_9, entsP, show (entP p x_4 && !((p.es.take i).map (fun x => x.id)).contains x_4.id) = false from by have hi_ : inR x_4.id 1 1000000 = true := (by rw [inR_iff]; omega); simp only [entP, hi_, g12, g12p, g21, g21p, g28, g28p, g34, g34p, Bool.not_true, Bool.not_false, Bool.and_false, Bool.false_and, Bool.and_true, Bool.true_and]]; simp], HP.bl⟩
  have g34p := g34
  refine H.v 35 (pt b 0) fun a H => H.u 36 (enV x_4) (ex_lN (enL x_4) (HP.cells 0 rfl 0 7 (by kernel_rfl))) fun a H => H.cb HP 37 (Tryz.call72 _ _) (fits_any x_4 b m1 m2 p w_14 (hBk.below HP.bl) hlen hits) fun w_15 hb a H HP => H.v 38 (.bool (!(fitsP p.its p.length x_4))) fun a H => H.v 39 (.bool (!(fitsP p.its p.length x_4))) fun a H => H.v 40 (.bool (!(fitsP p.its p.length x_4))) fun a H => ?_
  refine H.split 40 rfl (fun g40 H => ?_) (fun g40 H => ?_)
  ·have g40p := not_is_true g40
   iterate 4 refine H.sx rfl fun a H => ?_
   iterate 2 refine H.vx rfl (.bool true) fun a H => ?_
   iterate 4 refine H.sx rfl fun a H => ?_
   refine H.vx rfl (.bool true) fun a H => ?_
   refine nl (tn ?_)
   refine w_ift H rfl ?_
   refine sq (rg ?_)
   refine H.v 2 (.bool false) fun a H => ?_
   refine nl (tn (rt (tr (ibr (tr (tr (ibr (tr ?_))))))))
   refine H.r1 (.bool false) Tryz.results34 ?_
   exact ⟨by rw [show (decide ((p.es.length : Int) ≤ 4000) && entsP p [] p.es) = false from by rw [hrel, hd_9, entsP, show (entP p x_4 && !((p.es.take i).map (fun x => x.id)).contains x_4.id) = false from by have hi_ : inR x_4.id 1 1000000 = true := (by rw [inR_iff]; omega); simp only [entP, hi_, g12, g12p, g21, g21p, g28, g28p, g34, g34p, g40, g40p, Bool.not_true, Bool.not_false, Bool.and_false, Bool.false_and, Bool.and_true, Bool.true_and]]; simp], HP.bl⟩
  have g40p := not_is_false g40
  refine H.v 41 (pt b 0) fun a H => H.u 42 (enV x_4) (ex_lN (enL x_4) (HP.cells 0 rfl 0 7 (by kernel_rfl))) fun a H => H.cb HP 43 (Tryz.call73 _ _) (alts_any x_4 b m1 m2 p w_15 (hBk.below HP.bl) ((hBk.below HP.bl).pl.es.ok _ hm_10) hreg) fun w_16 hb a H HP => H.v 44 (.bool (!(altsP p.its p.regions x_4))) fun a H => H.v 45 (.bool (!(altsP p.its p.regions x_4))) fun a H => H.v 46 (.bool (!(altsP p.its p.regions x_4))) fun a H => ?_
  refine H.split 46 rfl (fun g46 H => ?_) (fun g46 H => ?_)
  ·have g46p := not_is_true g46
   iterate 4 refine H.sx rfl fun a H => ?_
   refine H.vx rfl (.bool true) fun a H => ?_
   refine nl (tn ?_)
   refine w_ift H rfl ?_
   refine sq (rg ?_)
   refine H.v 2 (.bool false) fun a H => ?_
   refine nl (tn (rt (tr (ibr (tr (tr (ibr (tr ?_))))))))
   refine H.r1 (.bool false) Tryz.results34 ?_
   exact ⟨by rw [show (decide ((p.es.length : Int) ≤ 4000) && entsP p [] p.es) = false from by rw [hrel, hd_9, entsP, show (entP p x_4 && !((p.es.take i).map (fun x => x.id)).contains x_4.id) = false from by have hi_ : inR x_4.id 1 1000000 = true := (by rw [inR_iff]; omega); simp only [entP, hi_, g12, g12p, g21, g21p, g28, g28p, g34, g34p, g40, g40p, g46, g46p, Bool.not_true, Bool.not_false, Bool.and_false, Bool.false_and, Bool.and_true, Bool.true_and]]; simp], HP.bl⟩
  have g46p := not_is_false g46
  refine H.v 47 (pt b 0) fun a H => H.u 48 (enV x_4) (ex_lN (enL x_4) (HP.cells 0 rfl 0 7 (by kernel_rfl))) fun a H => H.cb HP 49 (Tryz.call74 _ _) (fulfils_any x_4 b m1 m2 p w_16 (hBk.below HP.bl) ((hBk.below HP.bl).pl.es.ok _ hm_10)) fun w_17 hb a H HP => H.v 50 (.bool (!(fulP p.bs x_4))) fun a H => H.v 51 (.bool (!(fulP p.bs x_4))) fun a H => ?_
  refine nl (tn ?_)
  refine w_if H rfl (fun g51 => ?_) (fun g51 => ?_)
  ·have g51p := not_is_true g51
   refine sq (rg ?_)
   refine H.v 2 (.bool false) fun a H => ?_
   refine nl (tn (rt (tr (ibr (tr (tr (ibr (tr ?_))))))))
   refine H.r1 (.bool false) Tryz.results34 ?_
   exact ⟨by rw [show (decide ((p.es.length : Int) ≤ 4000) && entsP p [] p.es) = false from by rw [hrel, hd_9, entsP, show (entP p x_4 && !((p.es.take i).map (fun x => x.id)).contains x_4.id) = false from by have hi_ : inR x_4.id 1 1000000 = true := (by rw [inR_iff]; omega); simp only [entP, hi_, g12, g12p, g21, g21p, g28, g28p, g34, g34p, g40, g40p, g46, g46p, g51, g51p, Bool.not_true, Bool.not_false, Bool.and_false, Bool.false_and, Bool.and_true, Bool.true_and]]; simp], HP.bl⟩
  have g51p := not_is_false g51
  refine sk (tn (rg ?_))
  refine H.v 52 (.map (some m_1)) fun a H => H.v 53 (pt b_11 0) fun a H => H.u 54 (ii x_4.id) (ex_l1 (HP.cell 0 rfl 0 rfl)) fun a H => ?_
  refine Sl.pushM (kt := 3) (et := 4) (k := x_4.id) (v := (.bool true)) H HP 1 [bx b_11 43 (enL x_4) true, (mapB m_1 ((seM ((p.es.take i).map (fun x => x.id))) ++ [(x_4.id, (.bool true))]) true)] (by kernel_rfl) (by kernel_rfl) (by kernel_rfl) (by kernel_rfl) (by kernel_rfl) (by kernel_rfl) rfl (se_none (show ((p.es.take i).map (fun x => x.id)).contains x_4.id = false from by first | assumption | exact g33p | exact g34)) (by kernel_rfl) fun w_18 a H HP => ?_
  have HP : Hp w w_18 [bx b_11 43 (enL x_4) true, (mapB m_1 (seM ((p.es.take (i + 1)).map (fun x => x.id))) true)] [] := by have hh := HP; rw [show (seM ((p.es.take i).map (fun x => x.id))) ++ [(x_4.id, (.bool true))] = (seM ((p.es.take (i + 1)).map (fun x => x.id))) from se_snoc hx_8] at hh; exact hh
  refine nl (ibn (tn (rg ?_)))
  refine H.valE 55 (ii (IntKind.i64.wrap ((i : Int) + 1))) (ii ((i : Int) + 1)) (by kernel_rfl) (by kernel_rfl) ((by rw [wrap_ini64 _ (by omega)])) fun a H => H.v 20 (ii ((i : Int) + 1)) fun a H => ?_
  refine nl (tn ?_)
  have H := H.as 20 (ii ((i + 1 : Nat) : Int)) rfl rfl
  refine ⟨_, ?_, i + 1, rfl, H.keep (by kernel_rfl), (HP.tail rfl), (by omega), (by rw [hrel, hd_9, entsP, show (entP p x_4 && !((p.es.take i).map (fun x => x.id)).contains x_4.id) = true from by have hi_ : inR x_4.id 1 1000000 = true := (by rw [inR_iff]; omega); simp only [entP, hi_, g12, g12p, g21, g21p, g28, g28p, g34, g34p, g40, g40p, g46, g46p, g51, g51p, Bool.not_true, Bool.not_false, Bool.and_false, Bool.false_and, Bool.and_true, Bool.true_and], Bool.true_and, ids_snoc hx_8])⟩
  omega
 have g21p := of_decide_eq_false g21
 refine wp_exit (then_exit (then_exit ?_))
 refine w_exit_here ?_
 refine tn (sq (rg ?_))
 refine H.v 2 (.bool true) fun a H => ?_
 refine nl (tn (rt ?_))
 refine H.r1 (.bool true) Tryz.results34 ?_
 exact ⟨by rw [show (decide ((p.es.length : Int) ≤ 4000) && entsP p [] p.es) = true from by rw [hrel, List.drop_eq_nil_of_le (by omega)]; simp [entsP, show (p.es.length : Int) ≤ 4000 by omega]], HP.bl⟩
theorem valid_any (p : Pln) (w : World) (hpl : IsPln w p) (hL : LaidR w) : Calls Tryz.prog 14 #[(plV p)] w fun e w' => e = .returned (.bool (validPl p)) ∧ Below w.heap.size w w' := by
 have HP := Hp.start w
 refine w_enter 21 [(0, (plV p))] Tryz.func14 rfl Tryz.ntmps14 (by kernel_rfl) (by kernel_rfl) fun a H => ?_
 refine sq (rg ?_)
 refine H.al HP 1 32 (plL p) fun b_1 w_2 a H HP => H.v 2 (.bool false) fun a H => ?_
 refine nl (tn (sq (rg ?_)))
 refine H.u 4 (plV p) (ex_lN (plL p) (HP.cells 0 rfl 0 13 (by kernel_rfl))) fun a H => ?_
 refine H.newMap HP 5 (by kernel_rfl) fun m_3 w_4 a H HP => ?_
 have HP : Hp w w_4 [(mapB m_3 (itM ([])) true), bx b_1 32 (plL p) true] [] := HP
 refine H.newMap HP 6 (by kernel_rfl) fun m_5 w_6 a H HP => ?_
 have HP : Hp w w_6 [(mapB m_5 (bkM ([])) true), (mapB m_3 (itM ([])) true), bx b_1 32 (plL p) true] [] := HP
 refine H.v 7 (.agg #[(ii p.channel), (ii p.num), (ii p.den), (ii p.offset), (.slice p.SA p.sh.length p.sc), (ii p.epoch), (ii p.regions), (ii p.length), (ii p.fill), (.slice p.IA p.its.length p.ic), (.slice p.EA p.es.length p.ec), (.slice p.BA p.bs.length p.bc), (.slice p.CA p.cs.length p.cc), (.map (some m_3)), (.map (some m_5))]) fun a H => H.al HP 3 67 [(ii 0), (ii 0), (ii 0), (ii 0), (.slice none 0 0), (ii 0), (ii 0), (ii 0), (ii 0), (.slice none 0 0), (.slice none 0 0), (.slice none 0 0), (.slice none 0 0), (.map none), (.map none)] fun b_7 w_8 a H HP => H.st HP 0 b_7 0 15 67 true (.agg #[(ii p.channel), (ii p.num), (ii p.den), (ii p.offset), (.slice p.SA p.sh.length p.sc), (ii p.epoch), (ii p.regions), (ii p.length), (ii p.fill), (.slice p.IA p.its.length p.ic), (.slice p.EA p.es.length p.ec), (.slice p.BA p.bs.length p.bc), (.slice p.CA p.cs.length p.cc), (.map (some m_3)), (.map (some m_5))]) [bx b_7 67 [(ii p.channel), (ii p.num), (ii p.den), (ii p.offset), (.slice p.SA p.sh.length p.sc), (ii p.epoch), (ii p.regions), (ii p.length), (ii p.fill), (.slice p.IA p.its.length p.ic), (.slice p.EA p.es.length p.ec), (.slice p.BA p.bs.length p.bc), (.slice p.CA p.cs.length p.cc), (.map (some m_3)), (.map (some m_5))] true, (mapB m_5 (bkM ([])) true), (mapB m_3 (itM ([])) true), bx b_1 32 (plL p) true] rfl fun w_9 a H HP => ?_
 refine nl (tn (sq (rg ?_)))
 refine H.cb HP 8 (Tryz.call31 _ _) (sound_any b_7 m_3 m_5 p w_9 (HP.at_ 0 rfl) (hpl.below HP.bl) (hL.below HP.bl)) fun w_10 hb a H HP => H.v 9 (.bool (soundP p)) fun a H => ?_
 refine H.split 9 rfl (fun g9 H => ?_) (fun g9 H => ?_)
 ·have g9p := g9
  refine H.cl 10 (Tryz.call32 _ _) (hasItems_any b_7 m_3 m_5 p w_10 (HP.at_ 0 rfl) (HP.mapAt 2 rfl) (hpl.below HP.bl) (fun k hk => HP.fp_new 2 rfl (hpl.lt k hk))) ?_
  rintro e w_11 ⟨rfl, l1, hml, hl1, hg⟩
  refine ⟨_, rfl, ?_⟩
  intro a H
  have HP := HP.changedM 2 rfl l1 [bx b_7 67 [(ii p.channel), (ii p.num), (ii p.den), (ii p.offset), (.slice p.SA p.sh.length p.sc), (ii p.epoch), (ii p.regions), (ii p.length), (ii p.fill), (.slice p.IA p.its.length p.ic), (.slice p.EA p.es.length p.ec), (.slice p.BA p.bs.length p.bc), (.slice p.CA p.cs.length p.cc), (.map (some m_3)), (.map (some m_5))] true, (mapB m_5 (bkM ([])) true), (mapB m_3 l1 true), bx b_1 32 (plL p) true] (by kernel_rfl) hg hml
  refine H.v 11 (.bool (itsP p.its p.fill)) fun a H => H.v 12 (.bool (itsP p.its p.fill)) fun a H => ?_
  refine H.split 12 rfl (fun g12 H => ?_) (fun g12 H => ?_)
  ·have g12p := g12
   have hl1 := hl1 g12
   subst hl1
   refine H.cl 13 (Tryz.call33 _ _) (hasBookings_any b_7 m_3 m_5 p w_11 (HP.at_ 0 rfl) (HP.mapAt 2 rfl) (HP.mapAt 1 rfl) (hpl.below HP.bl) (fun k hk => HP.fp_new 1 rfl (hpl.lt k hk)) (fun e => HP.two 1 2 rfl rfl (by decide) e.symm) (sound_facts g9).1) ?_
   rintro e w_12 ⟨rfl, l2, hml, hl2, hg⟩
   refine ⟨_, rfl, ?_⟩
   intro a H
   have HP := HP.changedM 1 rfl l2 [bx b_7 67 [(ii p.channel), (ii p.num), (ii p.den), (ii p.offset), (.slice p.SA p.sh.length p.sc), (ii p.epoch), (ii p.regions), (ii p.length), (ii p.fill), (.slice p.IA p.its.length p.ic), (.slice p.EA p.es.length p.ec), (.slice p.BA p.bs.length p.bc), (.slice p.CA p.cs.length p.cc), (.map (some m_3)), (.map (some m_5))] true, (mapB m_5 l2 true), (mapB m_3 (itM p.its) true), bx b_1 32 (plL p) true] (by kernel_rfl) hg hml
   refine H.v 14 (.bool (bksP p.its p.regions p.bs)) fun a H => H.v 15 (.bool (bksP p.its p.regions p.bs)) fun a H => ?_
   refine H.split 15 rfl (fun g15 H => ?_) (fun g15 H => ?_)
   ·have g15p := g15
    have hl2 := hl2 g15
    subst hl2
    have hBk : BookAt w_12 b_7 m_3 m_5 p := ⟨HP.at_ 0 rfl, HP.mapAt 2 rfl, HP.mapAt 1 rfl, hpl.below HP.bl⟩
    refine H.cb HP 16 (Tryz.call34 _ _) (hasEntries_any b_7 m_3 m_5 p w_12 hBk (sound_facts g9).2 (its_facts g12) (sound_facts g9).1) fun w_13 hb a H HP => ?_
    have hBk := hBk.below hb
    refine H.v 17 (.bool (decide ((p.es.length : Int) ≤ 4000) && entsP p [] p.es)) fun a H => H.v 18 (.bool (decide ((p.es.length : Int) ≤ 4000) && entsP p [] p.es)) fun a H => ?_
    refine H.split 18 rfl (fun g18 H => ?_) (fun g18 H => ?_)
    ·have g18p := g18
     refine H.cb HP 19 (Tryz.call35 _ _) (clauses_any b_7 m_3 m_5 p w_13 hBk) fun w_14 hb a H HP => H.v 20 (.bool (clsP p.cs)) fun a H => H.v 2 (.bool (clsP p.cs)) fun a H => ?_
     refine nl (tn (rt ?_))
     refine H.r1 (.bool (clsP p.cs)) Tryz.results14 ?_
     exact ⟨by rw [show validPl p = (clsP p.cs) from by unfold validPl; simp only [g9, g12, g15, g18, Bool.true_and, Bool.false_and, Bool.and_true, Bool.and_false]], HP.bl⟩
    have g18p := g18
    refine H.s 19 fun a H => ?_
    refine H.v 20 (.bool false) fun a H => H.v 2 (.bool false) fun a H => ?_
    refine nl (tn (rt ?_))
    refine H.r1 (.bool false) Tryz.results14 ?_
    exact ⟨by rw [show validPl p = (false) from by unfold validPl; simp only [g9, g12, g15, g18, Bool.true_and, Bool.false_and, Bool.and_true, Bool.and_false]], HP.bl⟩
   have g15p := g15
   refine H.s 16 fun a H => ?_
   refine H.v 17 (.bool false) fun a H => H.v 18 (.bool false) fun a H => ?_
   refine H.s 19 fun a H => ?_
   refine H.v 20 (.bool false) fun a H => H.v 2 (.bool false) fun a H => ?_
   refine nl (tn (rt ?_))
   refine H.r1 (.bool false) Tryz.results14 ?_
   exact ⟨by rw [show validPl p = (false) from by unfold validPl; simp only [g9, g12, g15, Bool.true_and, Bool.false_and, Bool.and_true, Bool.and_false]], HP.bl⟩
  have g12p := g12
  refine H.s 13 fun a H => ?_
  refine H.v 14 (.bool false) fun a H => H.v 15 (.bool false) fun a H => ?_
  refine H.s 16 fun a H => ?_
  refine H.v 17 (.bool false) fun a H => H.v 18 (.bool false) fun a H => ?_
  refine H.s 19 fun a H => ?_
  refine H.v 20 (.bool false) fun a H => H.v 2 (.bool false) fun a H => ?_
  refine nl (tn (rt ?_))
  refine H.r1 (.bool false) Tryz.results14 ?_
  exact ⟨by rw [show validPl p = (false) from by unfold validPl; simp only [g9, g12, Bool.true_and, Bool.false_and, Bool.and_true, Bool.and_false]], HP.bl⟩
 have g9p := g9
 refine H.s 10 fun a H => ?_
 refine H.v 11 (.bool false) fun a H => H.v 12 (.bool false) fun a H => ?_
 refine H.s 13 fun a H => ?_
 refine H.v 14 (.bool false) fun a H => H.v 15 (.bool false) fun a H => ?_
 refine H.s 16 fun a H => ?_
 refine H.v 17 (.bool false) fun a H => H.v 18 (.bool false) fun a H => ?_
 refine H.s 19 fun a H => ?_
 refine H.v 20 (.bool false) fun a H => H.v 2 (.bool false) fun a H => ?_
 refine nl (tn (rt ?_))
 refine H.r1 (.bool false) Tryz.results14 ?_
 exact ⟨by rw [show validPl p = (false) from by unfold validPl; simp only [g9, Bool.true_and, Bool.false_and, Bool.and_true, Bool.and_false]], HP.bl⟩
def wmax : Int := 4611686018427387903
def vput : Nat → Nat → List Nat
  | 0, _ => []
  | f + 1, z => if z < 128 then [z] else (z % 128 + 128) :: vput f (z / 128)
def zig (n : Int) : Nat := if n < 0 then ((-n) * 2 - 1).toNat else (n * 2).toNat
def unzig (z : Nat) : Int := if z % 2 = 1 then -((z / 2 : Nat) : Int) - 1 else ((z / 2 : Nat) : Int)
def encInt (n : Int) : List UInt8 := (vput 9 (zig n)).map UInt8.ofNat
def vget : Nat → Nat → Nat → List UInt8 → Option (Int × Nat)
  | 0, _, _, _ => none
  | _ + 1, _, _, [] => none
  | f + 1, j, y, b :: r =>
    if 128 ≤ b.toNat then vget f (j + 1) (y + b.toNat % 128 * 128 ^ j) r
    else if b.toNat = 0 ∧ 0 < j then none
    else if unzig (y + b.toNat % 128 * 128 ^ j) < -wmax then none
    else some (unzig (y + b.toNat % 128 * 128 ^ j), j + 1)
def rdInt (l : List UInt8) (k : Nat) : Option (Int × Nat) := (vget 9 0 0 (l.drop k)).map fun p => (p.1, k + p.2)
theorem zig_unzig (n : Int) : unzig (zig n) = n := by
  unfold zig unzig
  split <;> split <;> omega
theorem unzig_zig (z : Nat) : zig (unzig z) = z := by
  unfold zig unzig
  split <;> split <;> omega
theorem zig_lt (n : Int) (h1 : -wmax ≤ n) (h2 : n ≤ wmax) : zig n < 9223372036854775808 := by
  unfold wmax at *
  unfold zig
  split <;> omega
theorem vput_bytes (f z : Nat) : ∀ x ∈ vput f z, x < 256 := by
  induction f generalizing z with
  | zero => intro x hx; cases hx
  | succ f ih =>
    intro x hx
    unfold vput at hx
    split at hx
    · simp at hx; omega
    · rw [List.mem_cons] at hx
      rcases hx with rfl | hx
      · omega
      · exact ih _ x hx
theorem ofNat_toNat {x : Nat} (h : x < 256) : (UInt8.ofNat x).toNat = x := by
  rw [UInt8.toNat_ofNat']; exact Nat.mod_eq_of_lt h
theorem vget_put (f : Nat) : ∀ (j y z : Nat) (r : List UInt8), z < 128 ^ f → 0 < f → (0 < j → 0 < z) → -wmax ≤ unzig (y + z * 128 ^ j) →
    vget f j y ((vput f z).map UInt8.ofNat ++ r) = some (unzig (y + z * 128 ^ j), j + (vput f z).length) := by
  induction f with
  | zero => intro j y z r hz hf; omega
  | succ f ih =>
    intro j y z r hz _ hj hu
    unfold vput
    by_cases h : z < 128
    · rw [if_pos h]
      simp only [List.map_cons, List.map_nil, List.cons_append, List.nil_append, vget]
      rw [ofNat_toNat (by omega), if_neg (by omega), if_neg (by omega), Nat.mod_eq_of_lt h, if_neg (by omega)]
      simp
    · rw [if_neg h]
      simp only [List.map_cons, List.cons_append, vget]
      rw [ofNat_toNat (by omega), if_pos (by omega)]
      have hm : (z % 128 + 128) % 128 = z % 128 := by omega
      have hval : y + z % 128 * 128 ^ j + z / 128 * 128 ^ (j + 1) = y + z * 128 ^ j := by
        have : z * 128 ^ j = (z % 128 + z / 128 * 128) * 128 ^ j := by congr 1; omega
        rw [this, Nat.add_mul, Nat.pow_succ]
        have e : z / 128 * 128 * 128 ^ j = z / 128 * (128 ^ j * 128) := by rw [Nat.mul_assoc, Nat.mul_comm 128 (128 ^ j)]
        omega
      have hf : 0 < f := by
        rcases Nat.eq_zero_or_pos f with h0 | h0
        · subst h0; simp at hz; omega
        · exact h0
      rw [hm, ih (j + 1) _ (z / 128) r (by rw [Nat.pow_succ] at hz; omega) hf (fun _ => by omega) (by rw [hval]; exact hu), hval]
      simp only [List.length_cons]
      congr 2
      omega
theorem rdInt_enc (p r : List UInt8) (n : Int) (h1 : -wmax ≤ n) (h2 : n ≤ wmax) : rdInt (p ++ encInt n ++ r) p.length = some (n, p.length + (encInt n).length) := by
  unfold rdInt encInt
  rw [List.append_assoc, List.drop_left]
  have hz := zig_lt n h1 h2
  rw [vget_put 9 0 0 (zig n) r (by omega) (by omega) (by omega) (by simp [zig_unzig]; exact h1)]
  simp [zig_unzig]
theorem vget_canon (f : Nat) : ∀ (j y : Nat) (l : List UInt8) (n : Int) (k : Nat), y < 128 ^ j → vget f j y l = some (n, k) →
    ∃ z, z < 128 ^ f ∧ n = unzig (y + z * 128 ^ j) ∧ -wmax ≤ n ∧ k = j + (vput f z).length ∧ (0 < j → 0 < z) ∧ (vput f z).map UInt8.ofNat ++ l.drop (k - j) = l ∧ k - j ≤ l.length := by
  induction f with
  | zero => intro j y l n k _ h; cases l <;> cases h
  | succ f ih =>
    intro j y l n k hy h
    cases l with
    | nil => cases h
    | cons b r =>
      simp only [vget] at h
      have hb := b.toNat_lt
      by_cases h1 : 128 ≤ b.toNat
      · rw [if_pos h1] at h
        obtain ⟨z, hz, hn, hw, hk, hp, hl, hkl⟩ := ih (j + 1) _ r n k (by
          rw [Nat.pow_succ]
          have : b.toNat % 128 * 128 ^ j ≤ 127 * 128 ^ j := Nat.mul_le_mul_right _ (by omega)
          omega) h
        have hz0 := hp (by omega)
        refine ⟨b.toNat % 128 + z * 128, by rw [Nat.pow_succ]; omega, ?_, hw, ?_, fun _ => by omega, ?_, by simp; omega⟩
        · rw [hn]
          congr 1
          rw [Nat.add_mul, Nat.pow_succ, Nat.mul_assoc z 128, Nat.mul_comm 128 (128 ^ j)]
          omega
        · rw [vput, if_neg (by omega), List.length_cons, show (b.toNat % 128 + z * 128) / 128 = z by omega]
          omega
        · rw [vput, if_neg (by omega), show (b.toNat % 128 + z * 128) / 128 = z by omega, show (b.toNat % 128 + z * 128) % 128 + 128 = b.toNat by omega]
          have e : k - j = (k - (j + 1)) + 1 := by omega
          rw [e, List.drop_succ_cons, List.map_cons, List.cons_append, hl]
          congr 1
          exact UInt8.toNat_inj.1 (ofNat_toNat hb)
      · rw [if_neg h1] at h
        by_cases h2 : b.toNat = 0 ∧ 0 < j
        · rw [if_pos h2] at h; cases h
        · rw [if_neg h2] at h
          by_cases h3 : unzig (y + b.toNat % 128 * 128 ^ j) < -wmax
          · rw [if_pos h3] at h; cases h
          · rw [if_neg h3] at h
            cases h
            rw [Nat.mod_eq_of_lt (by omega)] at h3 ⊢
            refine ⟨b.toNat, by rw [Nat.pow_succ]; have := Nat.one_le_pow f 128 (by omega); omega, rfl, by omega, ?_, fun hj => by omega, ?_, by simp⟩
            · rw [vput, if_pos (by omega)]; rfl
            · rw [vput, if_pos (by omega), show j + 1 - j = 1 by omega]
              simp only [List.map_cons, List.map_nil, List.cons_append, List.nil_append, List.drop_succ_cons, List.drop_zero]
              congr 1
              exact UInt8.toNat_inj.1 (ofNat_toNat hb)
theorem unzig_le (z : Nat) (h : z < 9223372036854775808) : unzig z ≤ wmax := by
  unfold wmax unzig
  split <;> omega
theorem rdInt_canon {l : List UInt8} {k e : Nat} {n : Int} (hk : k ≤ l.length) (h : rdInt l k = some (n, e)) :
    -wmax ≤ n ∧ n ≤ wmax ∧ e = k + (encInt n).length ∧ e ≤ l.length ∧ l.drop k = encInt n ++ l.drop e := by
  unfold rdInt at h
  cases hv : vget 9 0 0 (l.drop k) with
  | none => rw [hv] at h; cases h
  | some p =>
    obtain ⟨n', c⟩ := p
    rw [hv] at h
    simp only [Option.map_some, Option.some.injEq, Prod.mk.injEq] at h
    obtain ⟨rfl, rfl⟩ := h
    obtain ⟨z, hz, hn, hw, hk', _, hl, hkl⟩ := vget_canon 9 0 0 _ _ _ (by decide) hv
    simp only [Nat.pow_zero, Nat.mul_one, Nat.zero_add, Nat.sub_zero] at hn hk' hl hkl
    have hz2 : z < 9223372036854775808 := by omega
    have he : encInt n' = (vput 9 z).map UInt8.ofNat := by unfold encInt; rw [hn, unzig_zig]
    refine ⟨hw, by rw [hn]; exact unzig_le z hz2, by rw [he, List.length_map, hk'], by rw [List.length_drop] at hkl; omega, ?_⟩
    rw [List.drop_drop] at hl
    rw [he, hl]
theorem vput_len (f z : Nat) (hf : 0 < f) : 1 ≤ (vput f z).length ∧ (vput f z).length ≤ f := by
  induction f generalizing z with
  | zero => omega
  | succ f ih =>
    unfold vput
    split
    · simp
    · simp only [List.length_cons]
      rcases Nat.eq_zero_or_pos f with h0 | h0
      · subst h0; simp [vput]
      · have := ih (z / 128) h0; omega
theorem encInt_len (n : Int) : 1 ≤ (encInt n).length ∧ (encInt n).length ≤ 9 := by
  unfold encInt; rw [List.length_map]; exact vput_len 9 _ (by omega)
open Go.Shelf
attribute [local go_sem] Oper.semAt_some
abbrev Grp := { p : Nat × Bool // p.1 < 128 }
def grps : Nat → Nat → List Grp
  | 0, _ => []
  | f + 1, z => if h : z < 128 then [⟨(z, false), h⟩] else ⟨(z % 128, true), by omega⟩ :: grps f (z / 128)
def grpByte (g : Grp) : Nat := if g.1.2 then g.1.1 + 128 else g.1.1
theorem grps_put (f z : Nat) : (grps f z).map grpByte = vput f z := by
  induction f generalizing z with
  | zero => rfl
  | succ f ih =>
    unfold grps vput
    by_cases h : z < 128
    · rw [dif_pos h, if_pos h]; rfl
    · rw [dif_neg h, if_neg h, List.map_cons, ih]; rfl
theorem grps_len (f z : Nat) : (grps f z).length = (vput f z).length := by rw [← grps_put, List.length_map]
set_option maxHeartbeats 1000000 in
theorem groups_in (n : Nat) (z : Int) (w : World) :
    CallsIn Fence.wide n Tryz.prog 131 #[.int .u64 z] w fun e w' => e = .returned (.func (.func 135) #[] #[.pointer (some ⟨w.heap.size, 0, none⟩)]) ∧ w' = w.alloc (.cells #[.int .u64 z] 199) := by
  refine callsIn_of_wp Tryz.func131 rfl trivial ?_ rfl
  simp only [Tryz.ntmps131, List.size_toArray, List.length_cons, List.length_nil, Nat.reduceAdd, Nat.reduceSub, Array.replicate_succ, Array.replicate_zero, List.push_toArray, List.append_toArray, List.nil_append, List.cons_append]
  gi_wp2
  go_ret
  exact ⟨rfl, rfl⟩
theorem and127 (z : Nat) (h : z < 18446744073709551616) : bits BinOp.and IntKind.u64 (z : Int) 127 = ((z % 128 : Nat) : Int) := by
  rw [show (127 : Int) = ((127 : Nat) : Int) from rfl, u64_and_nat z 127 h (by omega)]
  congr 1
  exact Nat.and_two_pow_sub_one_eq_mod z 7
set_option maxRecDepth 100000 in
set_option maxHeartbeats 2000000 in
theorem groups1_in (n : Nat) (hn : 1 ≤ n) (l Bs : Nat) (z N : Nat) (f : Nat) (hz : z < 128 ^ f) (hf : 0 < f) (hf9 : f ≤ 9) (hN : (vput f z).length ≤ N) (Kp : World → World → Prop) (J Jx : List Grp → World → Prop)
    (hY : ∀ pre x W, J pre W → pre.length < N → YieldAt Fence.wide (n - 1) Tryz.prog l #[.int .u8 (x.1.1 : Int), .bool x.1.2] W fun e W' =>
      (e = .returned (.bool true) ∧ J (pre ++ [x]) W' ∧ Kp W W') ∨ (e = .returned (.bool false) ∧ Jx (pre ++ [x]) W'))
    (W : World) (hBs : W.cell? ⟨Bs, 0, none⟩ = some (.int .u64 (z : Int))) (h0 : J [] W) :
    CallsIn Fence.wide n Tryz.prog 135 #[.func (.yield l) #[] #[], .pointer (some ⟨Bs, 0, none⟩)] W fun e W' => (∃ v, e = .returned v) ∧
      ((∃ ys, ys = grps f z ∧ J ys W') ∨ (∃ pre, True ∧ Jx pre W')) := by
  have HZ := Lib.hid hz
  have HN := Lib.hid hN
  clear hz hN
  refine callsIn_of_wp Tryz.func135 rfl trivial ?_ rfl
  simp only [Tryz.ntmps135, List.size_toArray, List.length_cons, List.length_nil, Nat.reduceAdd, Nat.reduceSub, Array.replicate_succ, Array.replicate_zero, List.push_toArray, List.append_toArray, List.nil_append, List.cons_append]
  gi_wp2
  gi_loopw [3] (fun r wr => ∃ (pre : List Grp) (g y : Nat), g ≤ f ∧ 0 < g ∧ r = .int .u64 (y : Int) ∧ y < 128 ^ g ∧ grps f z = pre ++ grps g y ∧ J pre wr)
    (fun r _ => (intOf r).toNat)
  case atStart => exact ⟨[], f, z, Nat.le_refl _, hf, rfl, HZ.out, rfl, h0⟩
  case round =>
    obtain ⟨pre, g, y, hgf, hg, rfl, hy, hpre, hJs⟩ := hrel
    have hyb : y < 9223372036854775808 := by
      have : 128 ^ g ≤ 128 ^ 9 := Nat.pow_le_pow_right (by omega) (by omega)
      have h3 : (128 : Nat) ^ 9 = 9223372036854775808 := by decide
      omega
    have HY := Lib.hid hy
    have hlen : pre.length + (grps g y).length ≤ N := by
      have e := congrArg List.length hpre
      rw [grps_len, List.length_append] at e
      have := HN.out
      omega
    have hpos := (vput_len g y hg).1
    rw [← grps_len] at hpos
    have HP := Lib.hid hpre
    clear hy hpre
    obtain ⟨g', rfl⟩ : ∃ g', g = g' + 1 := ⟨g - 1, by omega⟩
    by_cases hlt : 128 ≤ y
    · have hlti : (128 : Int) ≤ (y : Int) := by omega
      obtain ⟨m, hm⟩ : ∃ m : Nat, y % 128 = m := ⟨_, rfl⟩
      have hm1 : m < 128 := by omega
      have hst : grps (g' + 1) y = ⟨(m, true), hm1⟩ :: grps g' (y / 128) := by
        rw [grps, dif_neg (by omega)]
        congr 1
        exact Subtype.ext (by simp [hm])
      obtain ⟨fn, tmps, assign, body, hyy, hR⟩ := hY pre ⟨(m, true), hm1⟩ wr hJs (by omega)
      dsimp only at hyy
      have hA : bits BinOp.and IntKind.u64 (y : Int) 127 = (m : Int) := by rw [and127 y (by omega), hm]
      have hA2 : (m : Int) % 256 = m := by omega
      have hp2 : grps f z = (pre ++ [⟨(m, true), hm1⟩]) ++ grps g' (y / 128) := by rw [HP.out, hst]; simp
      have HP2 := Lib.hid hp2
      have hg2 : 0 < g' := by
        rcases Nat.eq_zero_or_pos g' with h0 | h0
        · subst h0; have := HY.out; simp at this; omega
        · exact h0
      have hy2 : y / 128 < 128 ^ g' := by have := HY.out; rw [Nat.pow_succ] at this; omega
      have HY2 := Lib.hid hy2
      clear hst hp2 hy2 hm
      gi_wp2
      refine hR.mono ?_
      rintro e W3 (⟨rfl, hJ3, hk3⟩ | ⟨rfl, hJx3⟩)
      · clear hA hA2
        gi_wp2
        go_roundw
        case rel => exact ⟨pre ++ [⟨(m, true), hm1⟩], g', y / 128, by omega, hg2, congrArg (Value.int .u64) (by omega), HY2.out, HP2.out, hJ3⟩
        case measure => simp [intOf]; omega
      · clear hA hA2
        gi_wp2
        refine bodyPost_ret (results_none rfl _ _ _) rfl ?_
        exact ⟨⟨_, rfl⟩, .inr ⟨_, trivial, hJx3⟩⟩
    · have hlti : (y : Int) < 128 := by omega
      have hst : grps (g' + 1) y = [⟨(y, false), by omega⟩] := by
        rw [grps, dif_pos (by omega)]
      obtain ⟨fn, tmps, assign, body, hyy, hR⟩ := hY pre ⟨(y, false), by omega⟩ wr hJs (by omega)
      dsimp only at hyy
      have hp2 : grps f z = pre ++ [⟨(y, false), by omega⟩] := by rw [HP.out, hst]
      have HP2 := Lib.hid hp2
      have hA2 : (y : Int) % 256 = y := by omega
      clear hst hp2
      gi_wp2
      refine hR.mono ?_
      rintro e W3 (⟨rfl, hJ3, hk3⟩ | ⟨rfl, hJx3⟩)
      · clear hA2
        gi_wp2
        go_end0
        exact ⟨⟨_, rfl⟩, .inl ⟨_, HP2.out.symm, hJ3⟩⟩
      · clear hA2
        gi_wp2
        go_end0
        exact ⟨⟨_, rfl⟩, .inr ⟨_, trivial, hJx3⟩⟩
theorem groups_stops (n : Nat) (hn : 1 ≤ n) (Bs : Nat) (z N f : Nat) (hz : z < 128 ^ f) (hf : 0 < f) (hf9 : f ≤ 9) (hN : (vput f z).length ≤ N) (Kp : World → World → Prop) (w : World) (hBs : Bs < w.heap.size)
    (hc : w.cell? ⟨Bs, 0, none⟩ = some (.int .u64 (z : Int))) :
    SeqStopsK Fence.wide n Tryz.prog 135 #[.pointer (some ⟨Bs, 0, none⟩)] (fun x : Grp => #[Value.int .u8 (x.1.1 : Int), Value.bool x.1.2]) Kp (fun ys => ys = grps f z) (fun _ => True) N w := fun l J Jx W hW _ _ hY h0 =>
  groups1_in n hn l Bs z N f hz hf hf9 hN Kp J Jx hY W ((hW.cell (p := ⟨Bs, 0, none⟩) hBs).trans hc) h0
def putV (n : Int) : Value := .tuple #[.string ⟨(encInt n).toArray⟩, .int .i64 0]
def PBox (B : Nat) (W : World) (pre : List Grp) : Prop :=
  (∀ i, i < 9 → W.cell? ⟨B, i, none⟩ = some (.int .u8 (((pre.map grpByte).getD i 0 : Nat) : Int)) ∧ W.frozen? ⟨B, i, none⟩ = false) ∧ W.cell? ⟨B + 1, 0, none⟩ = some (.int .i64 pre.length) ∧ W.frozen? ⟨B + 1, 0, none⟩ = false
theorem pbox_step {B : Nat} {W : World} {pre : List Grp} {x : Grp} (h : PBox B W pre) (hl : pre.length < 9) :
    PBox B ((W.setCell ⟨B, pre.length, none⟩ (.int .u8 (grpByte x : Int))).setCell ⟨B + 1, 0, none⟩ (.int .i64 ((pre.length : Int) + 1))) (pre ++ [x]) := by
  obtain ⟨h1, h2, h3⟩ := h
  refine ⟨fun i hi => ?_, ?_, ?_⟩
  · rw [World.frozen?_setCell, World.frozen?_setCell, World.cell?_setCell_other _ _ _ _ (by simp)]
    refine ⟨?_, (h1 i hi).2⟩
    by_cases e : i = pre.length
    · subst e
      rw [World.cell?_setCell_same' _ _ _ (by rw [(h1 _ hl).1]; rfl)]
      simp [List.getD]
    · rw [World.cell?_setCell_other _ _ _ _ (by simp), (h1 i hi).1]
      congr 3
      simp only [List.map_append, List.getD]
      by_cases hi2 : i < pre.length
      · rw [List.getElem?_append_left (by simpa using hi2)]
      · rw [List.getElem?_eq_none (by simp; omega), List.getElem?_eq_none (by simp; omega)]
  · rw [World.cell?_setCell_same' _ _ _ (by rw [World.cell?_setCell_other _ _ _ _ (by simp), h2]; rfl)]
    simp
  · rw [World.frozen?_setCell, World.frozen?_setCell]; exact h3
theorem putInt_start (w : World) (z : Nat) (W0 : World) (hW0 : ((w.alloc (Obj.cells #[.int .u8 0, .int .u8 0, .int .u8 0, .int .u8 0, .int .u8 0, .int .u8 0, .int .u8 0, .int .u8 0, .int .u8 0] 203)).alloc (Obj.cells #[Value.int IntKind.i64 0] 3)).alloc (Obj.cells #[Value.int IntKind.u64 (z : Int)] 199) = W0) :
    Below w.heap.size w W0 ∧ W0.heap.size = w.heap.size + 1 + 1 + 1 ∧ PBox w.heap.size W0 [] ∧ W0.cell? ⟨w.heap.size + 1 + 1, 0, none⟩ = some (.int .u64 (z : Int)) := by
  refine ⟨by rw [← hW0]; exact (((Below.refl _ w).alloc (Nat.le_refl _) _).alloc (by simp) _).alloc (by simp; omega) _, by rw [← hW0]; simp, ⟨fun i hi => ?_, ?_, ?_⟩, ?_⟩ <;> rw [← hW0]
  · rw [World.cell?_alloc_lt _ _ _ (by simp; omega), World.frozen?_alloc_old _ _ _ (by simp; omega)]
    match i, hi with
    | 0, _ => simp
    | 1, _ => simp
    | 2, _ => simp
    | 3, _ => simp
    | 4, _ => simp
    | 5, _ => simp
    | 6, _ => simp
    | 7, _ => simp
    | 8, _ => simp
  · rw [World.cell?_alloc_lt _ _ _ (by simp)]; simp
  · rw [World.frozen?_alloc_old _ _ _ (by simp)]; simp
  · rw [World.cell?_alloc_at _ _ _ _ (by simp)]; rfl
theorem conv_put {P : Program} {src dst e : TypeId} (W : World) (B : Nat) (n : Int) (z : Nat) (hz : zig n = z) (h : PBox B W (grps 9 z)) (hs : P.underlying src = some (.slice e)) (he : P.underlying e = some (.int .u8)) (hd : P.underlying dst = some .string) (cap : Nat) :
    (convert src dst (.slice (some ⟨B, 0, none⟩) (encInt n).length cap)).run P W = .ok (.string ⟨(encInt n).toArray⟩) W := by
  refine run_convert_bytes_back W src dst e ⟨B, 0, none⟩ cap (encInt n) hs he hd (fun j hj => ?_)
  have h9 := (encInt_len n).2
  have hadd : (⟨B, 0, none⟩ : Addr).add j = ⟨B, j, none⟩ := by unfold Addr.add; split <;> simp_all
  rw [hadd, (h.1 j (by omega)).1, grps_put]
  have hj' : j < (vput 9 z).length := by unfold encInt at hj; rw [hz, List.length_map] at hj; exact hj
  have hb := vput_bytes 9 z (vput 9 z)[j] (List.getElem_mem hj')
  congr 3
  simp only [encInt, hz, List.getElem_map]
  rw [ofNat_toNat hb]
  simp [List.getD, List.getElem?_eq_getElem hj']
set_option maxRecDepth 100000 in
set_option maxHeartbeats 4000000 in
theorem putInt_z (n : Int) (z : Nat) (w : World) (h1 : -wmax ≤ n) (h2 : n ≤ wmax) (hz : zig n = z) (hzc : (0 ≤ n ∧ (z : Int) = n * 2) ∨ (n < 0 ∧ (z : Int) = -n * 2 - 1)) :
    Calls Tryz.prog 125 #[.int .i64 n] w fun e w' => e = .returned (putV n) ∧ Below w.heap.size w w' := by
  unfold wmax at h1 h2
  have hzb : z < 128 ^ 9 := by have h3 : (128 : Nat) ^ 9 = 9223372036854775808 := by decide
                               omega
  have HZB := Lib.hid hzb
  have hzz : z < 9223372036854775808 := by omega
  have HZ := Lib.hid hz
  clear hz hzb
  refine (callsIn_wide (n := 8)).1 ?_
  refine callsIn_of_wp_marks Tryz.func125 rfl trivial ?_ rfl
  simp only [Tryz.ntmps125, List.size_toArray, List.length_cons, List.length_nil, Nat.reduceAdd, Nat.reduceSub, Array.replicate_succ, Array.replicate_zero, List.push_toArray, List.append_toArray, List.nil_append, List.cons_append]
  rcases hzc with ⟨hn, hz⟩ | ⟨hn, hz⟩
  · have d1 : decide (n < -4611686018427387903) = false := by simp; omega
    have d2 : decide (4611686018427387903 < n) = false := by simp; omega
    have HZE := Lib.hid hz
    clear hz
    gi_wp2_with (refine ⟨trivial, ?_⟩; gi_at_call 131; refine (groups_in _ _ _).mono ?_; rintro e w' ⟨rfl, rfl⟩)
    rw [← HZE.out]
    obtain ⟨W0, hW0⟩ : ∃ W0, ((w.alloc (Obj.cells #[.int .u8 0, .int .u8 0, .int .u8 0, .int .u8 0, .int .u8 0, .int .u8 0, .int .u8 0, .int .u8 0, .int .u8 0] 203)).alloc (Obj.cells #[Value.int IntKind.i64 0] 3)).alloc (Obj.cells #[Value.int IntKind.u64 (z : Int)] 199) = W0 := ⟨_, rfl⟩
    obtain ⟨hB0, hs0, hP0, hc0⟩ := putInt_start w z W0 hW0
    rw [hW0]
    have HP0 := Lib.hid hP0
    have HC0 := Lib.hid hc0
    clear hW0 hP0 hc0
    refine wpIn_rangeFunc_ownF (F := Fence.wide) rfl (by omega) (gf := 135) (lb := #[.pointer (some ⟨w.heap.size + 1 + 1, 0, none⟩)]) rfl trivial (enters_of Tryz.func135 (by kernel_rfl) rfl)
      (groups_stops _ (by omega) (w.heap.size + 1 + 1) z 9 9 HZB.out (by omega) (by omega) (vput_len 9 z (by omega)).2 (Below w.heap.size) W0 (by omega) HC0.out) belowK_t (belowK_b (by omega)) (Below.refl _ _) (fun _ => rfl)
      (fun pre W => PBox w.heap.size W pre ∧ Below w.heap.size w W)
      (fun _ _ _ => False)
      (OwnFrom.and (Own.from (fun s A B row hs hg hr => ⟨fun i hi => ⟨cell_kept (hs.1 i hi).1 hg hr, (frozen_kept (hs.1 i hi).1 hg hr).trans (hs.1 i hi).2⟩, cell_kept hs.2.1 hg hr, (frozen_kept hs.2.1 hg hr).trans hs.2.2⟩) _) (ownFrom_below (Nat.le_refl _) (by omega)))
      (fun _ _ _ _ _ hs _ _ => hs)
      ⟨HP0.out, hB0⟩
      ?act ?assign ?body ?done ?stop
    case assign =>
      intro l x W K hK
      gi_wp2
      exact hK
    case body =>
      rintro l pre ⟨⟨x, more⟩, hx⟩ W ⟨hP, hB⟩ hpre
      have HP := Lib.hid hP
      have hcs := hP.2.1
      have hfs := hP.2.2
      have hcc := (hP.1 pre.length hpre).1
      have hfc := (hP.1 pre.length hpre).2
      have h9i : (pre.length : Int) < 9 := by omega
      clear hP
      dsimp only
      dsimp only at hx
      cases more with
      | true =>
        have hst := Lib.hid (pbox_step (x := ⟨(x, true), hx⟩) HP.out hpre)
        have hby : (grpByte ⟨(x, true), hx⟩ : Int) = (x : Int) + 128 := by simp [grpByte]
        rw [hby] at hst
        clear hby
        gi_wp2
        exact ⟨(KeepsOthers.setCell _ _ _).trans (KeepsOthers.setCell _ _ _), ((Below.refl w.heap.size W).setCell (p := ⟨w.heap.size, pre.length, none⟩) (Nat.le_refl _) _).setCell (p := ⟨w.heap.size + 1, 0, none⟩) (by simp) _, hst.out, (hB.setCell (p := ⟨w.heap.size, pre.length, none⟩) (Nat.le_refl _) _).setCell (p := ⟨w.heap.size + 1, 0, none⟩) (by simp) _⟩
      | false =>
        have hst := Lib.hid (pbox_step (x := ⟨(x, false), hx⟩) HP.out hpre)
        have hby : (grpByte ⟨(x, false), hx⟩ : Int) = (x : Int) := by simp [grpByte]
        rw [hby] at hst
        clear hby
        gi_wp2
        exact ⟨(KeepsOthers.setCell _ _ _).trans (KeepsOthers.setCell _ _ _), ((Below.refl w.heap.size W).setCell (p := ⟨w.heap.size, pre.length, none⟩) (Nat.le_refl _) _).setCell (p := ⟨w.heap.size + 1, 0, none⟩) (by simp) _, hst.out, (hB.setCell (p := ⟨w.heap.size, pre.length, none⟩) (Nat.le_refl _) _).setCell (p := ⟨w.heap.size + 1, 0, none⟩) (by simp) _⟩
    case done =>
      rintro D ys W hD rfl ⟨hP, hB⟩ hK
      have hcs := hP.2.1
      have hl9 := (vput_len 9 z (by omega)).2
      have hgl : (grps 9 z).length = (encInt n).length := by rw [grps_len]; unfold encInt; rw [HZ.out, List.length_map]
      have hgl9 : (encInt n).length ≤ 9 := (encInt_len n).2
      have hgl9i : ((encInt n).length : Int) ≤ 9 := by omega
      rw [hgl] at hcs
      have hcv := conv_put (P := Tryz.prog) W w.heap.size n z HZ.out hP Tryz.underlying90 Tryz.underlying5 Tryz.underlying9
      have HK := Lib.hid hK
      clear hK hl9 hgl hP
      generalize hL : encInt n = L at *
      have HL := Lib.hid hL
      clear hL
      gi_wp2
      refine ⟨by simp, .inl ⟨_, _, rfl, run_takeDeferred HK.out, ?_⟩⟩
      refine ⟨putV n, ?_, rfl, hB.trans (belowK_b (w := w) (Nat.le_refl _) W D _ _ (by omega) HK.out rfl rfl)⟩
      simp [results, Tryz.f125, go_sem, putV, HL.out]
    case stop =>
      rintro D c pre W _ _ h _
      exact h.elim
  · have d1 : decide (n < -4611686018427387903) = false := by simp; omega
    have d2 : decide (4611686018427387903 < n) = false := by simp; omega
    have HZE := Lib.hid hz
    clear hz
    gi_wp2_with (refine ⟨trivial, ?_⟩; gi_at_call 131; refine (groups_in _ _ _).mono ?_; rintro e w' ⟨rfl, rfl⟩)
    rw [← HZE.out]
    obtain ⟨W0, hW0⟩ : ∃ W0, ((w.alloc (Obj.cells #[.int .u8 0, .int .u8 0, .int .u8 0, .int .u8 0, .int .u8 0, .int .u8 0, .int .u8 0, .int .u8 0, .int .u8 0] 203)).alloc (Obj.cells #[Value.int IntKind.i64 0] 3)).alloc (Obj.cells #[Value.int IntKind.u64 (z : Int)] 199) = W0 := ⟨_, rfl⟩
    obtain ⟨hB0, hs0, hP0, hc0⟩ := putInt_start w z W0 hW0
    rw [hW0]
    have HP0 := Lib.hid hP0
    have HC0 := Lib.hid hc0
    clear hW0 hP0 hc0
    refine wpIn_rangeFunc_ownF (F := Fence.wide) rfl (by omega) (gf := 135) (lb := #[.pointer (some ⟨w.heap.size + 1 + 1, 0, none⟩)]) rfl trivial (enters_of Tryz.func135 (by kernel_rfl) rfl)
      (groups_stops _ (by omega) (w.heap.size + 1 + 1) z 9 9 HZB.out (by omega) (by omega) (vput_len 9 z (by omega)).2 (Below w.heap.size) W0 (by omega) HC0.out) belowK_t (belowK_b (by omega)) (Below.refl _ _) (fun _ => rfl)
      (fun pre W => PBox w.heap.size W pre ∧ Below w.heap.size w W)
      (fun _ _ _ => False)
      (OwnFrom.and (Own.from (fun s A B row hs hg hr => ⟨fun i hi => ⟨cell_kept (hs.1 i hi).1 hg hr, (frozen_kept (hs.1 i hi).1 hg hr).trans (hs.1 i hi).2⟩, cell_kept hs.2.1 hg hr, (frozen_kept hs.2.1 hg hr).trans hs.2.2⟩) _) (ownFrom_below (Nat.le_refl _) (by omega)))
      (fun _ _ _ _ _ hs _ _ => hs)
      ⟨HP0.out, hB0⟩
      ?act2 ?assign2 ?body2 ?done2 ?stop2
    case assign2 =>
      intro l x W K hK
      gi_wp2
      exact hK
    case body2 =>
      rintro l pre ⟨⟨x, more⟩, hx⟩ W ⟨hP, hB⟩ hpre
      have HP := Lib.hid hP
      have hcs := hP.2.1
      have hfs := hP.2.2
      have hcc := (hP.1 pre.length hpre).1
      have hfc := (hP.1 pre.length hpre).2
      have h9i : (pre.length : Int) < 9 := by omega
      clear hP
      dsimp only
      dsimp only at hx
      cases more with
      | true =>
        have hst := Lib.hid (pbox_step (x := ⟨(x, true), hx⟩) HP.out hpre)
        have hby : (grpByte ⟨(x, true), hx⟩ : Int) = (x : Int) + 128 := by simp [grpByte]
        rw [hby] at hst
        clear hby
        gi_wp2
        exact ⟨(KeepsOthers.setCell _ _ _).trans (KeepsOthers.setCell _ _ _), ((Below.refl w.heap.size W).setCell (p := ⟨w.heap.size, pre.length, none⟩) (Nat.le_refl _) _).setCell (p := ⟨w.heap.size + 1, 0, none⟩) (by simp) _, hst.out, (hB.setCell (p := ⟨w.heap.size, pre.length, none⟩) (Nat.le_refl _) _).setCell (p := ⟨w.heap.size + 1, 0, none⟩) (by simp) _⟩
      | false =>
        have hst := Lib.hid (pbox_step (x := ⟨(x, false), hx⟩) HP.out hpre)
        have hby : (grpByte ⟨(x, false), hx⟩ : Int) = (x : Int) := by simp [grpByte]
        rw [hby] at hst
        clear hby
        gi_wp2
        exact ⟨(KeepsOthers.setCell _ _ _).trans (KeepsOthers.setCell _ _ _), ((Below.refl w.heap.size W).setCell (p := ⟨w.heap.size, pre.length, none⟩) (Nat.le_refl _) _).setCell (p := ⟨w.heap.size + 1, 0, none⟩) (by simp) _, hst.out, (hB.setCell (p := ⟨w.heap.size, pre.length, none⟩) (Nat.le_refl _) _).setCell (p := ⟨w.heap.size + 1, 0, none⟩) (by simp) _⟩
    case done2 =>
      rintro D ys W hD rfl ⟨hP, hB⟩ hK
      have hcs := hP.2.1
      have hl9 := (vput_len 9 z (by omega)).2
      have hgl : (grps 9 z).length = (encInt n).length := by rw [grps_len]; unfold encInt; rw [HZ.out, List.length_map]
      have hgl9 : (encInt n).length ≤ 9 := (encInt_len n).2
      have hgl9i : ((encInt n).length : Int) ≤ 9 := by omega
      rw [hgl] at hcs
      have hcv := conv_put (P := Tryz.prog) W w.heap.size n z HZ.out hP Tryz.underlying90 Tryz.underlying5 Tryz.underlying9
      have HK := Lib.hid hK
      clear hK hl9 hgl hP
      generalize hL : encInt n = L at *
      have HL := Lib.hid hL
      clear hL
      gi_wp2
      refine ⟨by simp, .inl ⟨_, _, rfl, run_takeDeferred HK.out, ?_⟩⟩
      refine ⟨putV n, ?_, rfl, hB.trans (belowK_b (w := w) (Nat.le_refl _) W D _ _ (by omega) HK.out rfl rfl)⟩
      simp [results, Tryz.f125, go_sem, putV, HL.out]
    case stop2 =>
      rintro D c pre W _ _ h _
      exact h.elim
theorem putInt_any (n : Int) (w : World) (h1 : -wmax ≤ n) (h2 : n ≤ wmax) :
    Calls Tryz.prog 125 #[.int .i64 n] w fun e w' => e = .returned (putV n) ∧ Below w.heap.size w w' :=
  putInt_z n (zig n) w h1 h2 rfl (by unfold zig; split <;> omega)
def bldV (n0 base b : Nat) (v0 v : Value) (bs : List UInt8) : HB :=
  ⟨fun k => k = b ∨ v.ownBlock = some k ∨ v0.ownBlock = some k, fun w => (bldW base b v bs).F w ∧ (∀ k, v0.ownBlock = some k → k < w.heap.size) ∧ ∀ k, v.ownBlock = some k → v0.ownBlock = some k ∨ n0 ≤ k, false⟩
theorem bldV_ok (n0 base b : Nat) (v0 v : Value) (bs : List UInt8) : (bldV n0 base b v0 v bs).ok := fun w1 w2 h hk hs =>
  ⟨bldG_ok _ _ _ _ _ _ w1 w2 h.1 (fun k hf => hk k (hf.elim .inl (fun h => .inr (.inl h)))) hs, fun k hv => Nat.lt_of_lt_of_le (h.2.1 k hv) hs, h.2.2⟩
theorem bldW_sub {n0 base b : Nat} {v0 v : Value} {bs : List UInt8} {k : Nat} (h : (bldW base b v bs).fp k) : (bldV n0 base b v0 v bs).fp k := h.elim .inl (fun h => .inr (.inl h))
theorem Hp.ownV {w : World} {base b : Nat} {v : Value} {bs : List UInt8} (h : (bldW base b v bs).F w) : Hp w w [bldV w.heap.size base b v v bs] [] :=
  (Hp.start w).add (bldV w.heap.size base b v v bs) ⟨h, fun k hk => bldG_lt h k (.inr hk), fun k hk => .inl hk⟩ (bldV_ok _ _ _ _ _ _) (fun k hk => by
    rcases hk with rfl | hk | hk
    · exact bldG_lt h _ (.inl rfl)
    · exact bldG_lt h _ (.inr hk)
    · exact bldG_lt h _ (.inr hk)) (fun _ _ => ⟨(fun _ h => by cases h), (fun _ h => by cases h)⟩) fun h => by cases h
theorem Agree.wider {w w' : World} {f f' : Nat → Prop} (h : Agree w w' f) (hf : ∀ k, f k → f' k) : Agree w w' f' := ⟨h.os, h.tape, h.output, h.size, fun k hk hn => h.block k hk fun hh => hn (hf k hh)⟩
theorem Hp.putV {w0 w w' : World} {L : List HB} {K : List FK} (H : Hp w0 w L K) (i : Nat) {base b : Nat} {v0 v v' : Value} {bs bs' : List UInt8} (hi : L[i]? = some (bldV w0.heap.size base b v0 v bs)) (L' : List HB) (hL : L.set i (bldV w0.heap.size base b v0 v' bs') = L') (hF : (bldW base b v' bs').F w') (hag : Agree w w' (bldW base b v bs).fp) (hv : ∀ k, v'.ownBlock = some k → v.ownBlock = some k ∨ w.heap.size ≤ k) : Hp w0 w' L' K := by
  obtain ⟨h1, h2, h3⟩ := H.held i hi
  have hs := H.size
  refine H.mut i hi _ L' hL (hag.wider fun k hk => bldW_sub hk) ⟨hF, fun k hk => Nat.lt_of_lt_of_le (h2 k hk) hag.size, fun k hk => ?_⟩ (bldV_ok _ _ _ _ _ _) (fun k hk => ?_) (fun k hk => ?_) (fun k hlt hk => ?_) rfl
  · rcases hv k hk with h | h
    · exact h3 k h
    · exact .inr (Nat.le_trans hs h)
  · rcases hk with rfl | hk | hk
    · exact bldG_lt hF _ (.inl rfl)
    · exact bldG_lt hF _ (.inr hk)
    · exact Nat.lt_of_lt_of_le (h2 k hk) hag.size
  · rcases hk with rfl | hk | hk
    · exact .inl (.inl rfl)
    · rcases hv k hk with h | h
      · exact .inl (.inr (.inl h))
      · exact .inr h
    · exact .inl (.inr (.inr hk))
  · rcases hk with rfl | hk | hk
    · exact .inl rfl
    · rcases h3 k hk with h | h
      · exact .inr (.inr h)
      · omega
    · exact .inr (.inr hk)
def encInts (zs : List Int) : List UInt8 := zs.flatMap encInt
theorem encInts_append (xs ys : List Int) : encInts (xs ++ ys) = encInts xs ++ encInts ys := by simp [encInts]
theorem encInts_cons (z : Int) (zs : List Int) : encInts (z :: zs) = encInt z ++ encInts zs := by simp [encInts]
theorem encInts_one (z : Int) : encInts [z] = encInt z := by simp [encInts]
theorem encInts_len (zs : List Int) : (encInts zs).length ≤ 9 * zs.length := by
  induction zs with
  | nil => simp [encInts]
  | cons z zs ih =>
    have := (encInt_len z).2
    simp only [encInts, List.flatMap_cons, List.length_append, List.length_cons] at *
    omega
theorem wputI_any (n : Int) (w : World) (h1 : -wmax ≤ n) (h2 : n ≤ wmax) :
    Calls Tryz.prog 125 #[.int .i64 n] w fun e w' => e = .returned (.tuple #[.string (bstr (encInt n)), .int .i64 0]) ∧ Below w.heap.size w w' := putInt_any n w h1 h2
def PutPost (base b : Nat) (v : Value) (bs : List UInt8) (zs : List Int) (w : World) (e : Ending) (w' : World) : Prop :=
  e = .returned (.tuple #[]) ∧ ∃ v', (bldW base b v' (bs ++ encInts zs)).F w' ∧ Agree w w' (bldW base b v bs).fp ∧ ∀ k, v'.ownBlock = some k → v.ownBlock = some k ∨ w.heap.size ≤ k
theorem Hp.endV {w0 w : World} {L : List HB} {K : List FK} (H : Hp w0 w L K) (i : Nat) {base b : Nat} {v0 v : Value} {bs bs0 : List UInt8} {zs : List Int} (hi : L[i]? = some (bldV w0.heap.size base b v0 v bs)) (hz : bs = bs0 ++ encInts zs) (hf : ∀ x ∈ L, x.fresh = true ∨ x = bldV w0.heap.size base b v0 v bs) : PutPost base b v0 bs0 zs w0 (.returned (.tuple #[])) w := by
  obtain ⟨h1, h2, h3⟩ := H.held i hi
  subst hz
  refine ⟨rfl, v, h1, ⟨H.os, H.tape, H.output, H.size, fun k hk hn => H.old k hk fun x hx hxk => ?_⟩, h3⟩
  rcases hf x hx with h | rfl
  · have := H.fresh x hx h k hxk; omega
  · rcases hxk with rfl | hxk | hxk
    · exact hn (.inl rfl)
    · rcases h3 k hxk with h | h
      · exact hn (.inr h)
      · omega
    · exact hn (.inr hxk)
theorem Hp.notBld {w0 w : World} {L : List HB} {K : List FK} (H : Hp w0 w L K) (i j : Nat) {n0 base b : Nat} {v0 v : Value} {bs : List UInt8} {y : HB} (hi : L[i]? = some (bldV n0 base b v0 v bs)) (hj : L[j]? = some y) (hne : i ≠ j) : ∀ k, y.fp k → ¬ (bldW base b v bs).fp k := fun k hk hb => by
  rcases Nat.lt_or_gt_of_ne hne with h | h
  · exact pair_at H.apart hi hj h k (bldW_sub hb) hk
  · exact pair_at H.apart hj hi h k hk (bldW_sub hb)
theorem Hp.factBld {w0 w : World} {L : List HB} {K : List FK} (H : Hp w0 w L K) (i j : Nat) {n0 base b : Nat} {v0 v : Value} {bs : List UInt8} {p : FK} (hi : L[i]? = some (bldV n0 base b v0 v bs)) (hj : K[j]? = some p) : ∀ k, p.fp k → ¬ (bldW base b v bs).fp k := fun k hk hb =>
  ((H.kept p (List.mem_of_getElem? hj)).2.2 k hk).2 _ (List.mem_of_getElem? hi) (bldW_sub hb)
theorem Hp.baseV {w0 w : World} {L : List HB} {K : List FK} (H : Hp w0 w L K) (i : Nat) {n0 base b : Nat} {v0 v : Value} {bs : List UInt8} (hi : L[i]? = some (bldV n0 base b v0 v bs)) : base ≤ w.heap.size := by
  obtain ⟨h1, _, _⟩ := H.held i hi
  have := bldG_lt h1 b (.inl rfl)
  have := h1.1
  omega
deriving instance DecidableEq for Itm
deriving instance DecidableEq for Bkg
deriving instance DecidableEq for Cls
structure EnN where
  id : Int
  item : Int
  frames : Int
  earliest : Int
  latest : Int
  booking : Int
  al : Alts
  deriving DecidableEq
structure PlN where
  channel : Int
  num : Int
  den : Int
  offset : Int
  sh : Alts
  epoch : Int
  regions : Int
  length : Int
  fill : Int
  its : List Itm
  es : List EnN
  bs : List Bkg
  cs : List Cls
  deriving DecidableEq
def Ent.nv (e : Ent) : EnN := ⟨e.id, e.item, e.frames, e.earliest, e.latest, e.booking, e.al⟩
def Pln.nv (p : Pln) : PlN := ⟨p.channel, p.num, p.den, p.offset, p.sh, p.epoch, p.regions, p.length, p.fill, p.its, p.es.map Ent.nv, p.bs, p.cs⟩
def EnN.en (e : EnN) : Ent := ⟨e.id, e.item, e.frames, e.earliest, e.latest, e.booking, none, 0, e.al⟩
def PlN.pl (v : PlN) : Pln := ⟨v.channel, v.num, v.den, v.offset, none, 0, v.sh, v.epoch, v.regions, v.length, v.fill, none, 0, v.its, none, 0, v.es.map EnN.en, none, 0, v.bs, none, 0, v.cs⟩
theorem PlN.nv_pl (v : PlN) : v.pl.nv = v := by
  cases v
  simp only [PlN.pl, Pln.nv, List.map_map, PlN.mk.injEq, true_and, and_true]
  induction ‹List EnN› with
  | nil => rfl
  | cons a l ih => rw [List.map_cons, ih]; rfl
def validN (v : PlN) : Bool := validPl v.pl
theorem entsP_nv (p : Pln) : ∀ (l : List Ent) (seen : List Int), entsP p seen l = entsP p.nv.pl seen ((l.map Ent.nv).map EnN.en)
  | [], _ => rfl
  | e :: l, seen => by
    simp only [List.map_cons, entsP]
    rw [← entsP_nv p l]
    rfl
theorem validPl_nv (p : Pln) : validPl p = validN p.nv := by
  unfold validN validPl
  rw [entsP_nv]
  simp only [PlN.pl, Pln.nv, List.length_map, soundP]
def enZ : Ent := ⟨0, 0, 0, 0, 0, 0, none, 0, []⟩
def gE (l : List Ent) (k : Int) : Ent := (fE l k).getD enZ
def hE (l : List Ent) (k : Int) : Bool := (fE l k).isSome
theorem itm_eq {x y : Itm} : ([x.id, x.kind, x.frames, x.sponsor, x.rating] : List Int) = [y.id, y.kind, y.frames, y.sponsor, y.rating] ↔ x = y := by
  cases x; cases y; simp
theorem bkg_eq {x y : Bkg} : ([x.id, x.item, x.region, x.from_, x.to_, x.until_, x.price] : List Int) = [y.id, y.item, y.region, y.from_, y.to_, y.until_, y.price] ↔ x = y := by
  cases x; cases y; simp
theorem cls_eq {x y : Cls} : ([x.kind, x.item, x.from_, x.to_, x.regions, x.n, x.a, x.b] : List Int) = [y.kind, y.item, y.from_, y.to_, y.regions, y.n, y.a, y.b] ↔ x = y := by
  cases x; cases y; simp
theorem alt_eq {x y : Int × Int} : ([x.1, x.2] : List Int) = [y.1, y.2] ↔ x = y := by
  cases x; cases y; simp
theorem pln_eq {p q : Pln} : p.nv = q.nv ↔ (p.channel = q.channel ∧ p.num = q.num ∧ p.den = q.den ∧ p.offset = q.offset ∧ p.sh = q.sh ∧ p.epoch = q.epoch ∧ p.regions = q.regions ∧ p.length = q.length ∧ p.fill = q.fill ∧ p.its = q.its ∧ p.es.map Ent.nv = q.es.map Ent.nv ∧ p.bs = q.bs ∧ p.cs = q.cs) := by
  simp [Pln.nv]
def altNs (a : Int × Int) : List Int := [a.1, a.2]
def itNs (x : Itm) : List Int := [x.id, x.kind, x.frames, x.sponsor, x.rating]
def bkNs (x : Bkg) : List Int := [x.id, x.item, x.region, x.from_, x.to_, x.until_, x.price]
def clNs (x : Cls) : List Int := [x.kind, x.item, x.from_, x.to_, x.regions, x.n, x.a, x.b]
def enNs (x : Ent) : List Int := [x.id, x.item, x.frames, x.earliest, x.latest, x.booking] ++ (((x.al.length : Nat) : Int) :: x.al.flatMap altNs)
def rowF {α : Type} (k : Nat) (cs : α → Array Value) (A : Option Addr) (l : List α) : FK := ⟨rowFp l.length A, fun w => IsRow k cs w A l⟩
theorem rowF_ok {α : Type} (k : Nat) (cs : α → Array Value) (A : Option Addr) (l : List α) : (rowF k cs A l).ok := fun _ _ h hk hs => IsRow.keep h hk hs
def enF (A : Option Addr) (l : List Ent) : FK := ⟨enFp A l, fun w => IsEn w A l⟩
theorem enF_ok (A : Option Addr) (l : List Ent) : (enF A l).ok := fun _ _ h hk hs => IsEn.keep h hk hs
theorem Hp.keepV {w : World} {base b : Nat} {v : Value} {bs : List UInt8} {K : List FK} (H : Hp w w [bldV w.heap.size base b v v bs] K) (p : FK) (hp : p.F w) (hok : p.ok) (hlt : ∀ k, p.fp k → k < w.heap.size) (hn : ∀ k, p.fp k → ¬ (bldW base b v bs).fp k) : Hp w w [bldV w.heap.size base b v v bs] (p :: K) :=
 H.keepF p hp hok fun k hk => ⟨hlt k hk, fun x hx hxk => by
  rcases List.mem_singleton.1 hx with rfl
  refine hn k hk ?_
  rcases hxk with h | h | h
  ·exact .inl h
  ·exact .inr h
  ·exact .inr h⟩
theorem box_int {w : World} {sb t i : Nat} {zs : List Int} {z : Int} (h : Box w sb t (zs.map (Value.int .i64)).toArray) (hz : zs[i]? = some z) : w.cell? ⟨sb, 0 + i * 1, none⟩ = some (.int .i64 z) := by
 refine h.cell ?_
 rw [Nat.zero_add, Nat.mul_one]
 simp [hz]
theorem put_len {bs : List UInt8} {zs : List Int} {i : Nat} {z : Int} (hlen : bs.length + 9 * zs.length ≤ 100000000000000) : (bs ++ encInts (zs.take i)).length + (encInt z).length ≤ 140737488355328 := by
 have h1 := encInts_len (zs.take i)
 have h2 : (zs.take i).length ≤ zs.length := by rw [List.length_take]; omega
 have h3 := (encInt_len z).2
 rw [List.length_append]
 omega
theorem put_snoc {bs : List UInt8} {zs : List Int} {i : Nat} {z : Int} (hz : zs[i]? = some z) : bs ++ encInts (zs.take (i + 1)) = bs ++ encInts (zs.take i) ++ encInt z := by
 rw [take_snoc hz, encInts_append, encInts_one, List.append_assoc]
theorem one_mem {z : Int} (h : -wmax ≤ z ∧ z ≤ wmax) : ∀ y ∈ [z], -wmax ≤ y ∧ y ≤ wmax := fun y hy => by rcases List.mem_singleton.1 hy with rfl; exact h
theorem one_len {bs : List UInt8} {z : Int} {zs : List Int} (h : bs.length + 9 * (z :: zs).length ≤ 100000000000000) : bs.length + 9 * [z].length ≤ 100000000000000 := by
 simp only [List.length_cons, List.length_nil] at *; omega
theorem wr_len {α : Type} {f : α → List Int} {l : List α} {i : Nat} {x : α} {n : Int} {bs : List UInt8} (hx : l[i]? = some x) (h : bs.length + 9 * (n :: l.flatMap f).length ≤ 100000000000000) : (bs ++ encInts (n :: (l.take i).flatMap f)).length + 9 * (f x).length ≤ 100000000000000 := by
 have h1 := encInts_len (n :: (l.take i).flatMap f)
 have h2 : ((l.take i).flatMap f).length + (f x).length ≤ (l.flatMap f).length := by
  have h3 : (l.take (i + 1)).flatMap f = (l.take i).flatMap f ++ f x := by rw [take_snoc hx, List.flatMap_append]; simp
  have h4 : l.flatMap f = (l.take (i + 1)).flatMap f ++ (l.drop (i + 1)).flatMap f := by rw [← List.flatMap_append, List.take_append_drop]
  rw [h4, h3]
  simp only [List.length_append]
  omega
 simp only [List.length_append, List.length_cons] at *
 omega
theorem wr_snoc {α : Type} {f : α → List Int} {l : List α} {i : Nat} {x : α} {n : Int} {bs : List UInt8} (hx : l[i]? = some x) : bs ++ encInts (n :: (l.take (i + 1)).flatMap f) = bs ++ encInts (n :: (l.take i).flatMap f) ++ encInts (f x) := by
 rw [List.append_assoc, ← encInts_append, take_snoc hx, List.flatMap_append]
 simp
theorem app_len {bs : List UInt8} {xs ys : List Int} (h : bs.length + 9 * (xs ++ ys).length ≤ 100000000000000) : (bs ++ encInts xs).length + 9 * ys.length ≤ 100000000000000 := by
 have h1 := encInts_len xs
 simp only [List.length_append] at *
 omega
theorem put_any (base b : Nat) (v : Value) (bs : List UInt8) (sb : Nat) (zs : List Int) (w : World) (h : (bldW base b v bs).F w) (hsb : Box w sb 3 (zs.map (Value.int .i64)).toArray) (hns : ∀ k, k = sb → ¬ (bldW base b v bs).fp k) (hzs : ∀ z ∈ zs, -wmax ≤ z ∧ z ≤ wmax) (hlen : bs.length + 9 * zs.length ≤ 100000000000000) : Calls Tryz.prog 81 #[.pointer (some ⟨b, 0, none⟩), .slice (some ⟨sb, 0, none⟩) zs.length zs.length] w (PutPost base b v bs zs w) := by
 have HP : Hp w w [bldV w.heap.size base b v v (bs ++ encInts (zs.take 0))] [boxK sb 3 (zs.map (Value.int .i64))] := by
  rw [show bs ++ encInts (zs.take 0) = bs from List.append_nil _]
  exact (Hp.ownV h).keepV (boxK sb 3 (zs.map (Value.int .i64))) hsb (boxK_ok _ _ _) (fun k hk => by cases hk; exact hsb.lt) hns
 refine w_enter 28 [(0, (pt b 0)), (1, (.slice (some ⟨sb, 0, none⟩) zs.length zs.length))] Tryz.func81 rfl Tryz.ntmps81 (by kernel_rfl) (by kernel_rfl) fun a H => ?_
 refine sq (rg ?_)
 refine H.v 8 (.slice (some ⟨sb, 0, none⟩) zs.length zs.length) fun a H => H.v 9 (ii zs.length) fun a H => H.v 10 (ii 0) fun a H => ?_
 refine nl (tn (bk ?_))
 refine w_loop (fun mm a wv => ∃ (i : Nat), ∃ (vv : Value), zs.length - i = mm ∧ Sl 28 [(10, (ii i)), (9, (ii zs.length)), (8, (.slice (some ⟨sb, 0, none⟩) zs.length zs.length)), (0, (pt b 0)), (1, (.slice (some ⟨sb, 0, none⟩) zs.length zs.length))] a ∧ Hp w wv [(bldV w.heap.size base b v vv (bs ++ encInts (zs.take i)))] [boxK sb 3 (zs.map (Value.int .i64))] ∧ (i ≤ zs.length)) (zs.length - 0) ?_ ?_
 ·exact ⟨0, v, (by omega), H.keep (by kernel_rfl), HP, (Nat.zero_le _)⟩
 rintro mm a w_1 ⟨i, vv, hmeas, H, HP, hib⟩
 refine sq (rg ?_)
 refine H.v 11 (.bool (decide ((i : Int) < (zs.length : Int)))) fun a H => ?_
 refine nl (tn (sq ?_))
 refine w_if H rfl (fun g11 => ?_) (fun g11 => ?_)
 ·have g11p := of_decide_eq_true g11
  refine sk (tn (sq (bk (sq ?_))))
  obtain ⟨z, hz⟩ : ∃ z, zs[i]? = some z := ⟨_, List.getElem?_eq_getElem (by omega)⟩
  obtain ⟨z1, z2⟩ := hzs z (List.mem_of_getElem? hz)
  refine rg ?_
  refine H.u 12 (.pointer (some ⟨sb, 0 + i * 1, none⟩)) (ex_index (b := sb) (off := 0) (len := zs.length) (cap := zs.length) (e := 3) (k := 1) (ik := .i64) (i := (i : Int)) (m := i) (by kernel_rfl) (by kernel_rfl) (by omega) (by omega) (by kernel_rfl) (by kernel_rfl)) fun a H => H.u 13 (ii z) (ex_l1 (box_int (HP.fact 0 rfl) hz)) fun a H => H.v 5 (ii z) fun a H => ?_
  refine nl (tn (sq (rg ?_)))
  refine H.v 15 (ii z) fun a H => H.cb HP 16 (Tryz.call125 _ _) (wputI_any z w_1 z1 z2) fun w_2 hb a H HP => H.v 14 (.tuple #[(.string (bstr (encInt z))), (ii 0)]) fun a H => H.v 17 (.string (bstr (encInt z))) fun a H => H.v 18 (ii 0) fun a H => H.v 6 (.string (bstr (encInt z))) fun a H => H.v 7 (ii 0) fun a H => ?_
  refine nl (tn (sq (sq (rg ?_))))
  refine H.v 19 (ii 0) fun a H => H.v 20 (.bool false) fun a H => ?_
  refine nl (tn ?_)
  refine w_iff H rfl ?_
  refine sk (tn (rg ?_))
  refine H.v 22 (pt b 0) fun a H => H.v 23 (pt b 0) fun a H => H.v 24 (pt b 0) fun a H => H.v 25 (.string (bstr (encInt z))) fun a H => ?_
  refine H.cl 26 (Tryz.call126 _ _) (writeW_any base b vv (bs ++ encInts (zs.take i)) (encInt z) w_2 (HP.held 0 rfl).1 (put_len hlen) (HP.baseV 0 rfl)) ?_
  rintro e w_3 ⟨rfl, v2, hF, hag, hv⟩
  refine ⟨_, rfl, ?_⟩
  intro a H
  have HP := HP.putV 0 rfl _ rfl hF hag hv
  refine nl (ibn (tn (rg ?_)))
  refine H.valE 27 (ii (IntKind.i64.wrap ((i : Int) + 1))) (ii ((i : Int) + 1)) (by kernel_rfl) (by kernel_rfl) ((by rw [wrap_ini64 _ (by omega)])) fun a H => H.v 10 (ii ((i : Int) + 1)) fun a H => ?_
  refine nl (tn ?_)
  have H := H.as 10 (ii ((i + 1 : Nat) : Int)) rfl rfl
  refine ⟨_, ?_, i + 1, v2, rfl, H.keep (by kernel_rfl), (by rw [put_snoc hz]; exact HP), (by omega)⟩
  omega
 have g11p := of_decide_eq_false g11
 refine wp_exit (then_exit (then_exit ?_))
 refine w_exit_here ?_
 refine H.end0 (fn := Tryz.f81) Tryz.results81  ?_
 exact HP.endV 0 rfl (by rw [List.take_of_length_le (by omega)]) (by simp [bx])
theorem cloS_any (base b : Nat) (v : Value) (bs : List UInt8) (br : Nat) (x : Int × Int) (w : World) (h : (bldW base b v bs).F w) (hbr : Box w br 125 #[.pointer (some ⟨b, 0, none⟩)]) (hns : ∀ k, k = br → ¬ (bldW base b v bs).fp k) (hz : ∀ z ∈ altNs x, -wmax ≤ z ∧ z ≤ wmax) (hlen : bs.length + 9 * (altNs x).length ≤ 100000000000000) : Calls Tryz.prog 83 #[(alV x), .pointer (some ⟨br, 0, none⟩)] w (PutPost base b v bs (altNs x) w) := by
 have HP : Hp w w [bldV w.heap.size base b v v bs] [boxK br 125 [.pointer (some ⟨b, 0, none⟩)]] := (Hp.ownV h).keepV (boxK br 125 [.pointer (some ⟨b, 0, none⟩)]) hbr (boxK_ok _ _ _) (fun k hk => by cases hk; exact hbr.lt) hns
 refine w_enter 10 [(0, (alV x)), (1, (pt br 0))] Tryz.func83 rfl Tryz.ntmps83 (by kernel_rfl) (by kernel_rfl) fun a H => ?_
 refine sq (rg ?_)
 refine H.al HP 2 76 (alL x) fun b_1 w_2 a H HP => ?_
 refine nl (tn (rg ?_))
 refine H.u 3 (pt b 0) (ex_l1 ((HP.fact 0 rfl : Box _ br 125 _).cell (i := 0) rfl)) fun a H => H.v 4 (pt b_1 0) fun a H => H.u 5 (ii x.1) (ex_l1 (HP.cell 0 rfl 0 rfl)) fun a H => H.v 6 (pt b_1 1) fun a H => H.u 7 (ii x.2) (ex_l1 (HP.cell 0 rfl 1 rfl)) fun a H => H.alloc HP 8 (fun b => (.slice (some ⟨b, 0, none⟩) 2 2)) 3 (alL x) (by kernel_rfl) (fun w => by kernel_rfl) fun b_3 w_4 a H HP => ?_
 refine H.cl 9 (Tryz.call81 _ _) (put_any base b v bs b_3 [x.1, x.2] w_4 (HP.held 2 rfl).1 (HP.at_ 0 rfl) (fun k hk => HP.notBld 2 0 rfl rfl (by decide) k hk) hz hlen) ?_
 rintro e w_9 ⟨rfl, v_5, hF_6, hag_7, hv_8⟩
 refine ⟨_, rfl, ?_⟩
 intro a H
 have HP := HP.putV 2 rfl _ rfl hF_6 hag_7 hv_8
 refine nl ?_
 refine H.end0 (fn := Tryz.f83) Tryz.results83  ?_
 exact HP.endV 2 rfl (rfl) (by simp [bx])
theorem cloI_any (base b : Nat) (v : Value) (bs : List UInt8) (br : Nat) (x : Itm) (w : World) (h : (bldW base b v bs).F w) (hbr : Box w br 125 #[.pointer (some ⟨b, 0, none⟩)]) (hns : ∀ k, k = br → ¬ (bldW base b v bs).fp k) (hz : ∀ z ∈ itNs x, -wmax ≤ z ∧ z ≤ wmax) (hlen : bs.length + 9 * (itNs x).length ≤ 100000000000000) : Calls Tryz.prog 85 #[(itV x), .pointer (some ⟨br, 0, none⟩)] w (PutPost base b v bs (itNs x) w) := by
 have HP : Hp w w [bldV w.heap.size base b v v bs] [boxK br 125 [.pointer (some ⟨b, 0, none⟩)]] := (Hp.ownV h).keepV (boxK br 125 [.pointer (some ⟨b, 0, none⟩)]) hbr (boxK_ok _ _ _) (fun k hk => by cases hk; exact hbr.lt) hns
 refine w_enter 16 [(0, (itV x)), (1, (pt br 0))] Tryz.func85 rfl Tryz.ntmps85 (by kernel_rfl) (by kernel_rfl) fun a H => ?_
 refine sq (rg ?_)
 refine H.al HP 2 38 (itL x) fun b_1 w_2 a H HP => ?_
 refine nl (tn (rg ?_))
 refine H.u 3 (pt b 0) (ex_l1 ((HP.fact 0 rfl : Box _ br 125 _).cell (i := 0) rfl)) fun a H => H.v 4 (pt b_1 0) fun a H => H.u 5 (ii x.id) (ex_l1 (HP.cell 0 rfl 0 rfl)) fun a H => H.v 6 (pt b_1 1) fun a H => H.u 7 (ii x.kind) (ex_l1 (HP.cell 0 rfl 1 rfl)) fun a H => H.v 8 (pt b_1 2) fun a H => H.u 9 (ii x.frames) (ex_l1 (HP.cell 0 rfl 2 rfl)) fun a H => H.v 10 (pt b_1 3) fun a H => H.u 11 (ii x.sponsor) (ex_l1 (HP.cell 0 rfl 3 rfl)) fun a H => H.v 12 (pt b_1 4) fun a H => H.u 13 (ii x.rating) (ex_l1 (HP.cell 0 rfl 4 rfl)) fun a H => H.alloc HP 14 (fun b => (.slice (some ⟨b, 0, none⟩) 5 5)) 3 (itL x) (by kernel_rfl) (fun w => by kernel_rfl) fun b_3 w_4 a H HP => ?_
 refine H.cl 15 (Tryz.call81 _ _) (put_any base b v bs b_3 [x.id, x.kind, x.frames, x.sponsor, x.rating] w_4 (HP.held 2 rfl).1 (HP.at_ 0 rfl) (fun k hk => HP.notBld 2 0 rfl rfl (by decide) k hk) hz hlen) ?_
 rintro e w_9 ⟨rfl, v_5, hF_6, hag_7, hv_8⟩
 refine ⟨_, rfl, ?_⟩
 intro a H
 have HP := HP.putV 2 rfl _ rfl hF_6 hag_7 hv_8
 refine nl ?_
 refine H.end0 (fn := Tryz.f85) Tryz.results85  ?_
 exact HP.endV 2 rfl (rfl) (by simp [bx])
theorem cloA_any (base b : Nat) (v : Value) (bs : List UInt8) (br : Nat) (x : Int × Int) (w : World) (h : (bldW base b v bs).F w) (hbr : Box w br 125 #[.pointer (some ⟨b, 0, none⟩)]) (hns : ∀ k, k = br → ¬ (bldW base b v bs).fp k) (hz : ∀ z ∈ altNs x, -wmax ≤ z ∧ z ≤ wmax) (hlen : bs.length + 9 * (altNs x).length ≤ 100000000000000) : Calls Tryz.prog 89 #[(alV x), .pointer (some ⟨br, 0, none⟩)] w (PutPost base b v bs (altNs x) w) := by
 have HP : Hp w w [bldV w.heap.size base b v v bs] [boxK br 125 [.pointer (some ⟨b, 0, none⟩)]] := (Hp.ownV h).keepV (boxK br 125 [.pointer (some ⟨b, 0, none⟩)]) hbr (boxK_ok _ _ _) (fun k hk => by cases hk; exact hbr.lt) hns
 refine w_enter 10 [(0, (alV x)), (1, (pt br 0))] Tryz.func89 rfl Tryz.ntmps89 (by kernel_rfl) (by kernel_rfl) fun a H => ?_
 refine sq (rg ?_)
 refine H.al HP 2 62 (alL x) fun b_1 w_2 a H HP => ?_
 refine nl (tn (rg ?_))
 refine H.u 3 (pt b 0) (ex_l1 ((HP.fact 0 rfl : Box _ br 125 _).cell (i := 0) rfl)) fun a H => H.v 4 (pt b_1 0) fun a H => H.u 5 (ii x.1) (ex_l1 (HP.cell 0 rfl 0 rfl)) fun a H => H.v 6 (pt b_1 1) fun a H => H.u 7 (ii x.2) (ex_l1 (HP.cell 0 rfl 1 rfl)) fun a H => H.alloc HP 8 (fun b => (.slice (some ⟨b, 0, none⟩) 2 2)) 3 (alL x) (by kernel_rfl) (fun w => by kernel_rfl) fun b_3 w_4 a H HP => ?_
 refine H.cl 9 (Tryz.call81 _ _) (put_any base b v bs b_3 [x.1, x.2] w_4 (HP.held 2 rfl).1 (HP.at_ 0 rfl) (fun k hk => HP.notBld 2 0 rfl rfl (by decide) k hk) hz hlen) ?_
 rintro e w_9 ⟨rfl, v_5, hF_6, hag_7, hv_8⟩
 refine ⟨_, rfl, ?_⟩
 intro a H
 have HP := HP.putV 2 rfl _ rfl hF_6 hag_7 hv_8
 refine nl ?_
 refine H.end0 (fn := Tryz.f89) Tryz.results89  ?_
 exact HP.endV 2 rfl (rfl) (by simp [bx])
theorem cloB_any (base b : Nat) (v : Value) (bs : List UInt8) (br : Nat) (x : Bkg) (w : World) (h : (bldW base b v bs).F w) (hbr : Box w br 125 #[.pointer (some ⟨b, 0, none⟩)]) (hns : ∀ k, k = br → ¬ (bldW base b v bs).fp k) (hz : ∀ z ∈ bkNs x, -wmax ≤ z ∧ z ≤ wmax) (hlen : bs.length + 9 * (bkNs x).length ≤ 100000000000000) : Calls Tryz.prog 91 #[(bkV x), .pointer (some ⟨br, 0, none⟩)] w (PutPost base b v bs (bkNs x) w) := by
 have HP : Hp w w [bldV w.heap.size base b v v bs] [boxK br 125 [.pointer (some ⟨b, 0, none⟩)]] := (Hp.ownV h).keepV (boxK br 125 [.pointer (some ⟨b, 0, none⟩)]) hbr (boxK_ok _ _ _) (fun k hk => by cases hk; exact hbr.lt) hns
 refine w_enter 20 [(0, (bkV x)), (1, (pt br 0))] Tryz.func91 rfl Tryz.ntmps91 (by kernel_rfl) (by kernel_rfl) fun a H => ?_
 refine sq (rg ?_)
 refine H.al HP 2 47 (bkL x) fun b_1 w_2 a H HP => ?_
 refine nl (tn (rg ?_))
 refine H.u 3 (pt b 0) (ex_l1 ((HP.fact 0 rfl : Box _ br 125 _).cell (i := 0) rfl)) fun a H => H.v 4 (pt b_1 0) fun a H => H.u 5 (ii x.id) (ex_l1 (HP.cell 0 rfl 0 rfl)) fun a H => H.v 6 (pt b_1 1) fun a H => H.u 7 (ii x.item) (ex_l1 (HP.cell 0 rfl 1 rfl)) fun a H => H.v 8 (pt b_1 2) fun a H => H.u 9 (ii x.region) (ex_l1 (HP.cell 0 rfl 2 rfl)) fun a H => H.v 10 (pt b_1 3) fun a H => H.u 11 (ii x.from_) (ex_l1 (HP.cell 0 rfl 3 rfl)) fun a H => H.v 12 (pt b_1 4) fun a H => H.u 13 (ii x.to_) (ex_l1 (HP.cell 0 rfl 4 rfl)) fun a H => H.v 14 (pt b_1 5) fun a H => H.u 15 (ii x.until_) (ex_l1 (HP.cell 0 rfl 5 rfl)) fun a H => H.v 16 (pt b_1 6) fun a H => H.u 17 (ii x.price) (ex_l1 (HP.cell 0 rfl 6 rfl)) fun a H => H.alloc HP 18 (fun b => (.slice (some ⟨b, 0, none⟩) 7 7)) 3 (bkL x) (by kernel_rfl) (fun w => by kernel_rfl) fun b_3 w_4 a H HP => ?_
 refine H.cl 19 (Tryz.call81 _ _) (put_any base b v bs b_3 [x.id, x.item, x.region, x.from_, x.to_, x.until_, x.price] w_4 (HP.held 2 rfl).1 (HP.at_ 0 rfl) (fun k hk => HP.notBld 2 0 rfl rfl (by decide) k hk) hz hlen) ?_
 rintro e w_9 ⟨rfl, v_5, hF_6, hag_7, hv_8⟩
 refine ⟨_, rfl, ?_⟩
 intro a H
 have HP := HP.putV 2 rfl _ rfl hF_6 hag_7 hv_8
 refine nl ?_
 refine H.end0 (fn := Tryz.f91) Tryz.results91  ?_
 exact HP.endV 2 rfl (rfl) (by simp [bx])
theorem cloC_any (base b : Nat) (v : Value) (bs : List UInt8) (br : Nat) (x : Cls) (w : World) (h : (bldW base b v bs).F w) (hbr : Box w br 125 #[.pointer (some ⟨b, 0, none⟩)]) (hns : ∀ k, k = br → ¬ (bldW base b v bs).fp k) (hz : ∀ z ∈ clNs x, -wmax ≤ z ∧ z ≤ wmax) (hlen : bs.length + 9 * (clNs x).length ≤ 100000000000000) : Calls Tryz.prog 93 #[(clV x), .pointer (some ⟨br, 0, none⟩)] w (PutPost base b v bs (clNs x) w) := by
 have HP : Hp w w [bldV w.heap.size base b v v bs] [boxK br 125 [.pointer (some ⟨b, 0, none⟩)]] := (Hp.ownV h).keepV (boxK br 125 [.pointer (some ⟨b, 0, none⟩)]) hbr (boxK_ok _ _ _) (fun k hk => by cases hk; exact hbr.lt) hns
 refine w_enter 22 [(0, (clV x)), (1, (pt br 0))] Tryz.func93 rfl Tryz.ntmps93 (by kernel_rfl) (by kernel_rfl) fun a H => ?_
 refine sq (rg ?_)
 refine H.al HP 2 73 (clL x) fun b_1 w_2 a H HP => ?_
 refine nl (tn (rg ?_))
 refine H.u 3 (pt b 0) (ex_l1 ((HP.fact 0 rfl : Box _ br 125 _).cell (i := 0) rfl)) fun a H => H.v 4 (pt b_1 0) fun a H => H.u 5 (ii x.kind) (ex_l1 (HP.cell 0 rfl 0 rfl)) fun a H => H.v 6 (pt b_1 1) fun a H => H.u 7 (ii x.item) (ex_l1 (HP.cell 0 rfl 1 rfl)) fun a H => H.v 8 (pt b_1 2) fun a H => H.u 9 (ii x.from_) (ex_l1 (HP.cell 0 rfl 2 rfl)) fun a H => H.v 10 (pt b_1 3) fun a H => H.u 11 (ii x.to_) (ex_l1 (HP.cell 0 rfl 3 rfl)) fun a H => H.v 12 (pt b_1 4) fun a H => H.u 13 (ii x.regions) (ex_l1 (HP.cell 0 rfl 4 rfl)) fun a H => H.v 14 (pt b_1 5) fun a H => H.u 15 (ii x.n) (ex_l1 (HP.cell 0 rfl 5 rfl)) fun a H => H.v 16 (pt b_1 6) fun a H => H.u 17 (ii x.a) (ex_l1 (HP.cell 0 rfl 6 rfl)) fun a H => H.v 18 (pt b_1 7) fun a H => ?_
 refine H.u 19 (ii x.b) (ex_l1 (HP.cell 0 rfl 7 rfl)) fun a H => H.alloc HP 20 (fun b => (.slice (some ⟨b, 0, none⟩) 8 8)) 3 (clL x) (by kernel_rfl) (fun w => by kernel_rfl) fun b_3 w_4 a H HP => ?_
 refine H.cl 21 (Tryz.call81 _ _) (put_any base b v bs b_3 [x.kind, x.item, x.from_, x.to_, x.regions, x.n, x.a, x.b] w_4 (HP.held 2 rfl).1 (HP.at_ 0 rfl) (fun k hk => HP.notBld 2 0 rfl rfl (by decide) k hk) hz hlen) ?_
 rintro e w_9 ⟨rfl, v_5, hF_6, hag_7, hv_8⟩
 refine ⟨_, rfl, ?_⟩
 intro a H
 have HP := HP.putV 2 rfl _ rfl hF_6 hag_7 hv_8
 refine nl ?_
 refine H.end0 (fn := Tryz.f93) Tryz.results93  ?_
 exact HP.endV 2 rfl (rfl) (by simp [bx])
theorem writeS_any (base b : Nat) (v : Value) (bs : List UInt8) (br : Nat) (A : Option Addr) (c : Nat) (l : List (Int × Int)) (w : World) (h : (bldW base b v bs).F w) (hbr : Box w br 125 #[.pointer (some ⟨b, 0, none⟩)]) (hns : ∀ k, k = br → ¬ (bldW base b v bs).fp k) (hr : IsAl w A l) (hnr : ∀ k, rowFp l.length A k → ¬ (bldW base b v bs).fp k) (hl : l.length ≤ maxLen) (hz : ∀ z ∈ (l.length : Int) :: l.flatMap altNs, -wmax ≤ z ∧ z ≤ wmax) (hlen : bs.length + 9 * ((l.length : Int) :: l.flatMap altNs).length ≤ 100000000000000) : Calls Tryz.prog 82 #[.pointer (some ⟨b, 0, none⟩), .slice A l.length c, .func (.func 83) #[] #[.pointer (some ⟨br, 0, none⟩)]] w (PutPost base b v bs ((l.length : Int) :: l.flatMap altNs) w) := by
 unfold maxLen at hl
 have HP : Hp w w [bldV w.heap.size base b v v bs] [rowF 2 altC A l, boxK br 125 [.pointer (some ⟨b, 0, none⟩)]] := ((Hp.ownV h).keepV (boxK br 125 [.pointer (some ⟨b, 0, none⟩)]) hbr (boxK_ok _ _ _) (fun k hk => by cases hk; exact hbr.lt) hns).keepV (rowF 2 altC A l) hr (rowF_ok _ _ _ _) (fun k hk => hr.lt k hk) hnr
 refine w_enter 23 [(0, (pt b 0)), (1, (.slice A l.length c)), (2, (.func (.func 83) #[] #[(pt br 0)]))] Tryz.func82 rfl Tryz.ntmps82 (by kernel_rfl) (by kernel_rfl) fun a H => ?_
 refine sq (rg ?_)
 refine H.v 8 (pt b 0) fun a H => H.v 9 (.slice A l.length c) fun a H => H.v 10 (ii l.length) fun a H => H.alloc HP 11 (fun b => (.slice (some ⟨b, 0, none⟩) 1 1)) 3 [(ii l.length)] (by kernel_rfl) (fun w => by kernel_rfl) fun b_1 w_2 a H HP => ?_
 refine H.cl 12 (Tryz.call81 _ _) (put_any base b v bs b_1 [(l.length : Int)] w_2 (HP.held 1 rfl).1 (HP.at_ 0 rfl) (fun k hk => HP.notBld 1 0 rfl rfl (by decide) k hk) (one_mem (hz _ (List.mem_cons_self ..))) (one_len hlen)) ?_
 rintro e w_7 ⟨rfl, v_3, hF_4, hag_5, hv_6⟩
 refine ⟨_, rfl, ?_⟩
 intro a H
 have HP := HP.putV 1 rfl _ rfl hF_4 hag_5 hv_6
 refine nl ?_
 have HP := HP.tail rfl
 have HP : Hp w w_7 [(bldV w.heap.size base b v v_3 (bs ++ encInts ((l.length : Int) :: (l.take 0).flatMap altNs)))] [rowF 2 altC A l, boxK br 125 [.pointer (some ⟨b, 0, none⟩)]] := HP
 refine tn (sq (rg ?_))
 refine H.v 13 (.slice A l.length c) fun a H => H.v 14 (ii l.length) fun a H => H.v 15 (ii 0) fun a H => ?_
 refine nl (tn (bk ?_))
 refine w_loop (fun mm a wv => ∃ (i : Nat), ∃ (vv : Value), l.length - i = mm ∧ Sl 23 [(15, (ii i)), (14, (ii l.length)), (13, (.slice A l.length c)), (12, (.tuple #[])), (11, (.slice (some ⟨b_1, 0, none⟩) 1 1)), (10, (ii l.length)), (9, (.slice A l.length c)), (8, (pt b 0)), (0, (pt b 0)), (1, (.slice A l.length c)), (2, (.func (.func 83) #[] #[(pt br 0)]))] a ∧ Hp w wv [(bldV w.heap.size base b v vv (bs ++ encInts ((l.length : Int) :: (l.take i).flatMap altNs)))] [rowF 2 altC A l, boxK br 125 [.pointer (some ⟨b, 0, none⟩)]] ∧ (i ≤ l.length)) (l.length - 0) ?_ ?_
 ·exact ⟨0, v_3, (by omega), H.keep (by kernel_rfl), HP, (Nat.zero_le _)⟩
 rintro mm a w_8 ⟨i, vv, hmeas, H, HP, hib⟩
 refine sq (rg ?_)
 refine H.v 16 (.bool (decide ((i : Int) < (l.length : Int)))) fun a H => ?_
 refine nl (tn (sq ?_))
 refine w_if H rfl (fun g16 => ?_) (fun g16 => ?_)
 ·have g16p := of_decide_eq_true g16
  refine sk (tn (sq (bk (sq ?_))))
  obtain ⟨bu_10, ou_11, x_9, hA_12, _, hd_14, hx_13, hm_15, _⟩ := IsRow.get altC_size (HP.fact 0 rfl) (i := i) (by omega)
  refine rg ?_
  refine H.u 17 (.pointer (some ⟨bu_10, ou_11 + i * 2, none⟩)) (ex_indexA (b := bu_10) (off := ou_11) (len := l.length) (cap := c) (e := 76) (k := 2) (ik := .i64) (i := (i : Int)) (m := i) hA_12 (by kernel_rfl) (by kernel_rfl) (by omega) (by omega) (by kernel_rfl) (by kernel_rfl)) fun a H => H.u 18 (alV x_9) (ex_lN (alL x_9) (IsRow.cells altC_size (HP.fact 0 rfl) hA_12 hx_13)) fun a H => H.al HP 7 76 [(ii 0), (ii 0)] fun b_16 w_17 a H HP => H.st HP 0 b_16 0 2 76 true (alV x_9) [bx b_16 76 (alL x_9) true, (bldV w.heap.size base b v vv (bs ++ encInts ((l.length : Int) :: (l.take i).flatMap altNs)))] rfl fun w_18 a H HP => ?_
  refine nl (tn (rg ?_))
  refine H.v 19 (.func (.func 83) #[] #[(pt br 0)]) fun a H => H.u 20 (alV x_9) (ex_lN (alL x_9) (HP.cells 0 rfl 0 2 (by kernel_rfl))) fun a H => ?_
  refine H.cl 21 (Tryz.call83 _ _) (cloS_any base b vv (bs ++ encInts ((l.length : Int) :: (l.take i).flatMap altNs)) br x_9 w_18 (HP.held 1 rfl).1 (HP.fact 1 rfl) (fun k hk => HP.factBld 1 1 rfl rfl k hk) (fun z hz1 => hz z (List.mem_cons_of_mem _ (List.mem_flatMap.2 ⟨_, hm_15, hz1⟩))) (wr_len hx_13 hlen)) ?_
  rintro e w_23 ⟨rfl, v_19, hF_20, hag_21, hv_22⟩
  refine ⟨_, rfl, ?_⟩
  intro a H
  have HP := HP.putV 1 rfl _ rfl hF_20 hag_21 hv_22
  refine nl (ibn (tn (rg ?_)))
  refine H.valE 22 (ii (IntKind.i64.wrap ((i : Int) + 1))) (ii ((i : Int) + 1)) (by kernel_rfl) (by kernel_rfl) ((by rw [wrap_ini64 _ (by omega)])) fun a H => H.v 15 (ii ((i : Int) + 1)) fun a H => ?_
  refine nl (tn ?_)
  have H := H.as 15 (ii ((i + 1 : Nat) : Int)) rfl rfl
  refine ⟨_, ?_, i + 1, v_19, rfl, H.keep (by kernel_rfl), (by rw [wr_snoc hx_13]; exact (HP.tail rfl)), (by omega)⟩
  omega
 have g16p := of_decide_eq_false g16
 refine wp_exit (then_exit (then_exit ?_))
 refine w_exit_here ?_
 refine H.end0 (fn := Tryz.f82) Tryz.results82  ?_
 exact HP.endV 0 rfl (by rw [List.take_of_length_le (by omega)]) (by simp [bx])
theorem writeI_any (base b : Nat) (v : Value) (bs : List UInt8) (br : Nat) (A : Option Addr) (c : Nat) (l : List (Itm)) (w : World) (h : (bldW base b v bs).F w) (hbr : Box w br 125 #[.pointer (some ⟨b, 0, none⟩)]) (hns : ∀ k, k = br → ¬ (bldW base b v bs).fp k) (hr : IsIt w A l) (hnr : ∀ k, rowFp l.length A k → ¬ (bldW base b v bs).fp k) (hl : l.length ≤ maxLen) (hz : ∀ z ∈ (l.length : Int) :: l.flatMap itNs, -wmax ≤ z ∧ z ≤ wmax) (hlen : bs.length + 9 * ((l.length : Int) :: l.flatMap itNs).length ≤ 100000000000000) : Calls Tryz.prog 84 #[.pointer (some ⟨b, 0, none⟩), .slice A l.length c, .func (.func 85) #[] #[.pointer (some ⟨br, 0, none⟩)]] w (PutPost base b v bs ((l.length : Int) :: l.flatMap itNs) w) := by
 unfold maxLen at hl
 have HP : Hp w w [bldV w.heap.size base b v v bs] [rowF 5 itC A l, boxK br 125 [.pointer (some ⟨b, 0, none⟩)]] := ((Hp.ownV h).keepV (boxK br 125 [.pointer (some ⟨b, 0, none⟩)]) hbr (boxK_ok _ _ _) (fun k hk => by cases hk; exact hbr.lt) hns).keepV (rowF 5 itC A l) hr (rowF_ok _ _ _ _) (fun k hk => hr.lt k hk) hnr
 refine w_enter 23 [(0, (pt b 0)), (1, (.slice A l.length c)), (2, (.func (.func 85) #[] #[(pt br 0)]))] Tryz.func84 rfl Tryz.ntmps84 (by kernel_rfl) (by kernel_rfl) fun a H => ?_
 refine sq (rg ?_)
 refine H.v 8 (pt b 0) fun a H => H.v 9 (.slice A l.length c) fun a H => H.v 10 (ii l.length) fun a H => H.alloc HP 11 (fun b => (.slice (some ⟨b, 0, none⟩) 1 1)) 3 [(ii l.length)] (by kernel_rfl) (fun w => by kernel_rfl) fun b_1 w_2 a H HP => ?_
 refine H.cl 12 (Tryz.call81 _ _) (put_any base b v bs b_1 [(l.length : Int)] w_2 (HP.held 1 rfl).1 (HP.at_ 0 rfl) (fun k hk => HP.notBld 1 0 rfl rfl (by decide) k hk) (one_mem (hz _ (List.mem_cons_self ..))) (one_len hlen)) ?_
 rintro e w_7 ⟨rfl, v_3, hF_4, hag_5, hv_6⟩
 refine ⟨_, rfl, ?_⟩
 intro a H
 have HP := HP.putV 1 rfl _ rfl hF_4 hag_5 hv_6
 refine nl ?_
 have HP := HP.tail rfl
 have HP : Hp w w_7 [(bldV w.heap.size base b v v_3 (bs ++ encInts ((l.length : Int) :: (l.take 0).flatMap itNs)))] [rowF 5 itC A l, boxK br 125 [.pointer (some ⟨b, 0, none⟩)]] := HP
 refine tn (sq (rg ?_))
 refine H.v 13 (.slice A l.length c) fun a H => H.v 14 (ii l.length) fun a H => H.v 15 (ii 0) fun a H => ?_
 refine nl (tn (bk ?_))
 refine w_loop (fun mm a wv => ∃ (i : Nat), ∃ (vv : Value), l.length - i = mm ∧ Sl 23 [(15, (ii i)), (14, (ii l.length)), (13, (.slice A l.length c)), (12, (.tuple #[])), (11, (.slice (some ⟨b_1, 0, none⟩) 1 1)), (10, (ii l.length)), (9, (.slice A l.length c)), (8, (pt b 0)), (0, (pt b 0)), (1, (.slice A l.length c)), (2, (.func (.func 85) #[] #[(pt br 0)]))] a ∧ Hp w wv [(bldV w.heap.size base b v vv (bs ++ encInts ((l.length : Int) :: (l.take i).flatMap itNs)))] [rowF 5 itC A l, boxK br 125 [.pointer (some ⟨b, 0, none⟩)]] ∧ (i ≤ l.length)) (l.length - 0) ?_ ?_
 ·exact ⟨0, v_3, (by omega), H.keep (by kernel_rfl), HP, (Nat.zero_le _)⟩
 rintro mm a w_8 ⟨i, vv, hmeas, H, HP, hib⟩
 refine sq (rg ?_)
 refine H.v 16 (.bool (decide ((i : Int) < (l.length : Int)))) fun a H => ?_
 refine nl (tn (sq ?_))
 refine w_if H rfl (fun g16 => ?_) (fun g16 => ?_)
 ·have g16p := of_decide_eq_true g16
  refine sk (tn (sq (bk (sq ?_))))
  obtain ⟨bu_10, ou_11, x_9, hA_12, _, hd_14, hx_13, hm_15, _⟩ := IsRow.get itC_size (HP.fact 0 rfl) (i := i) (by omega)
  refine rg ?_
  refine H.u 17 (.pointer (some ⟨bu_10, ou_11 + i * 5, none⟩)) (ex_indexA (b := bu_10) (off := ou_11) (len := l.length) (cap := c) (e := 38) (k := 5) (ik := .i64) (i := (i : Int)) (m := i) hA_12 (by kernel_rfl) (by kernel_rfl) (by omega) (by omega) (by kernel_rfl) (by kernel_rfl)) fun a H => H.u 18 (itV x_9) (ex_lN (itL x_9) (IsRow.cells itC_size (HP.fact 0 rfl) hA_12 hx_13)) fun a H => H.al HP 7 38 [(ii 0), (ii 0), (ii 0), (ii 0), (ii 0)] fun b_16 w_17 a H HP => H.st HP 0 b_16 0 5 38 true (itV x_9) [bx b_16 38 (itL x_9) true, (bldV w.heap.size base b v vv (bs ++ encInts ((l.length : Int) :: (l.take i).flatMap itNs)))] rfl fun w_18 a H HP => ?_
  refine nl (tn (rg ?_))
  refine H.v 19 (.func (.func 85) #[] #[(pt br 0)]) fun a H => H.u 20 (itV x_9) (ex_lN (itL x_9) (HP.cells 0 rfl 0 5 (by kernel_rfl))) fun a H => ?_
  refine H.cl 21 (Tryz.call85 _ _) (cloI_any base b vv (bs ++ encInts ((l.length : Int) :: (l.take i).flatMap itNs)) br x_9 w_18 (HP.held 1 rfl).1 (HP.fact 1 rfl) (fun k hk => HP.factBld 1 1 rfl rfl k hk) (fun z hz1 => hz z (List.mem_cons_of_mem _ (List.mem_flatMap.2 ⟨_, hm_15, hz1⟩))) (wr_len hx_13 hlen)) ?_
  rintro e w_23 ⟨rfl, v_19, hF_20, hag_21, hv_22⟩
  refine ⟨_, rfl, ?_⟩
  intro a H
  have HP := HP.putV 1 rfl _ rfl hF_20 hag_21 hv_22
  refine nl (ibn (tn (rg ?_)))
  refine H.valE 22 (ii (IntKind.i64.wrap ((i : Int) + 1))) (ii ((i : Int) + 1)) (by kernel_rfl) (by kernel_rfl) ((by rw [wrap_ini64 _ (by omega)])) fun a H => H.v 15 (ii ((i : Int) + 1)) fun a H => ?_
  refine nl (tn ?_)
  have H := H.as 15 (ii ((i + 1 : Nat) : Int)) rfl rfl
  refine ⟨_, ?_, i + 1, v_19, rfl, H.keep (by kernel_rfl), (by rw [wr_snoc hx_13]; exact (HP.tail rfl)), (by omega)⟩
  omega
 have g16p := of_decide_eq_false g16
 refine wp_exit (then_exit (then_exit ?_))
 refine w_exit_here ?_
 refine H.end0 (fn := Tryz.f84) Tryz.results84  ?_
 exact HP.endV 0 rfl (by rw [List.take_of_length_le (by omega)]) (by simp [bx])
theorem writeA_any (base b : Nat) (v : Value) (bs : List UInt8) (br : Nat) (A : Option Addr) (c : Nat) (l : List (Int × Int)) (w : World) (h : (bldW base b v bs).F w) (hbr : Box w br 125 #[.pointer (some ⟨b, 0, none⟩)]) (hns : ∀ k, k = br → ¬ (bldW base b v bs).fp k) (hr : IsAl w A l) (hnr : ∀ k, rowFp l.length A k → ¬ (bldW base b v bs).fp k) (hl : l.length ≤ maxLen) (hz : ∀ z ∈ (l.length : Int) :: l.flatMap altNs, -wmax ≤ z ∧ z ≤ wmax) (hlen : bs.length + 9 * ((l.length : Int) :: l.flatMap altNs).length ≤ 100000000000000) : Calls Tryz.prog 88 #[.pointer (some ⟨b, 0, none⟩), .slice A l.length c, .func (.func 89) #[] #[.pointer (some ⟨br, 0, none⟩)]] w (PutPost base b v bs ((l.length : Int) :: l.flatMap altNs) w) := by
 unfold maxLen at hl
 have HP : Hp w w [bldV w.heap.size base b v v bs] [rowF 2 altC A l, boxK br 125 [.pointer (some ⟨b, 0, none⟩)]] := ((Hp.ownV h).keepV (boxK br 125 [.pointer (some ⟨b, 0, none⟩)]) hbr (boxK_ok _ _ _) (fun k hk => by cases hk; exact hbr.lt) hns).keepV (rowF 2 altC A l) hr (rowF_ok _ _ _ _) (fun k hk => hr.lt k hk) hnr
 refine w_enter 23 [(0, (pt b 0)), (1, (.slice A l.length c)), (2, (.func (.func 89) #[] #[(pt br 0)]))] Tryz.func88 rfl Tryz.ntmps88 (by kernel_rfl) (by kernel_rfl) fun a H => ?_
 refine sq (rg ?_)
 refine H.v 8 (pt b 0) fun a H => H.v 9 (.slice A l.length c) fun a H => H.v 10 (ii l.length) fun a H => H.alloc HP 11 (fun b => (.slice (some ⟨b, 0, none⟩) 1 1)) 3 [(ii l.length)] (by kernel_rfl) (fun w => by kernel_rfl) fun b_1 w_2 a H HP => ?_
 refine H.cl 12 (Tryz.call81 _ _) (put_any base b v bs b_1 [(l.length : Int)] w_2 (HP.held 1 rfl).1 (HP.at_ 0 rfl) (fun k hk => HP.notBld 1 0 rfl rfl (by decide) k hk) (one_mem (hz _ (List.mem_cons_self ..))) (one_len hlen)) ?_
 rintro e w_7 ⟨rfl, v_3, hF_4, hag_5, hv_6⟩
 refine ⟨_, rfl, ?_⟩
 intro a H
 have HP := HP.putV 1 rfl _ rfl hF_4 hag_5 hv_6
 refine nl ?_
 have HP := HP.tail rfl
 have HP : Hp w w_7 [(bldV w.heap.size base b v v_3 (bs ++ encInts ((l.length : Int) :: (l.take 0).flatMap altNs)))] [rowF 2 altC A l, boxK br 125 [.pointer (some ⟨b, 0, none⟩)]] := HP
 refine tn (sq (rg ?_))
 refine H.v 13 (.slice A l.length c) fun a H => H.v 14 (ii l.length) fun a H => H.v 15 (ii 0) fun a H => ?_
 refine nl (tn (bk ?_))
 refine w_loop (fun mm a wv => ∃ (i : Nat), ∃ (vv : Value), l.length - i = mm ∧ Sl 23 [(15, (ii i)), (14, (ii l.length)), (13, (.slice A l.length c)), (12, (.tuple #[])), (11, (.slice (some ⟨b_1, 0, none⟩) 1 1)), (10, (ii l.length)), (9, (.slice A l.length c)), (8, (pt b 0)), (0, (pt b 0)), (1, (.slice A l.length c)), (2, (.func (.func 89) #[] #[(pt br 0)]))] a ∧ Hp w wv [(bldV w.heap.size base b v vv (bs ++ encInts ((l.length : Int) :: (l.take i).flatMap altNs)))] [rowF 2 altC A l, boxK br 125 [.pointer (some ⟨b, 0, none⟩)]] ∧ (i ≤ l.length)) (l.length - 0) ?_ ?_
 ·exact ⟨0, v_3, (by omega), H.keep (by kernel_rfl), HP, (Nat.zero_le _)⟩
 rintro mm a w_8 ⟨i, vv, hmeas, H, HP, hib⟩
 refine sq (rg ?_)
 refine H.v 16 (.bool (decide ((i : Int) < (l.length : Int)))) fun a H => ?_
 refine nl (tn (sq ?_))
 refine w_if H rfl (fun g16 => ?_) (fun g16 => ?_)
 ·have g16p := of_decide_eq_true g16
  refine sk (tn (sq (bk (sq ?_))))
  obtain ⟨bu_10, ou_11, x_9, hA_12, _, hd_14, hx_13, hm_15, _⟩ := IsRow.get altC_size (HP.fact 0 rfl) (i := i) (by omega)
  refine rg ?_
  refine H.u 17 (.pointer (some ⟨bu_10, ou_11 + i * 2, none⟩)) (ex_indexA (b := bu_10) (off := ou_11) (len := l.length) (cap := c) (e := 62) (k := 2) (ik := .i64) (i := (i : Int)) (m := i) hA_12 (by kernel_rfl) (by kernel_rfl) (by omega) (by omega) (by kernel_rfl) (by kernel_rfl)) fun a H => H.u 18 (alV x_9) (ex_lN (alL x_9) (IsRow.cells altC_size (HP.fact 0 rfl) hA_12 hx_13)) fun a H => H.al HP 7 62 [(ii 0), (ii 0)] fun b_16 w_17 a H HP => H.st HP 0 b_16 0 2 62 true (alV x_9) [bx b_16 62 (alL x_9) true, (bldV w.heap.size base b v vv (bs ++ encInts ((l.length : Int) :: (l.take i).flatMap altNs)))] rfl fun w_18 a H HP => ?_
  refine nl (tn (rg ?_))
  refine H.v 19 (.func (.func 89) #[] #[(pt br 0)]) fun a H => H.u 20 (alV x_9) (ex_lN (alL x_9) (HP.cells 0 rfl 0 2 (by kernel_rfl))) fun a H => ?_
  refine H.cl 21 (Tryz.call89 _ _) (cloA_any base b vv (bs ++ encInts ((l.length : Int) :: (l.take i).flatMap altNs)) br x_9 w_18 (HP.held 1 rfl).1 (HP.fact 1 rfl) (fun k hk => HP.factBld 1 1 rfl rfl k hk) (fun z hz1 => hz z (List.mem_cons_of_mem _ (List.mem_flatMap.2 ⟨_, hm_15, hz1⟩))) (wr_len hx_13 hlen)) ?_
  rintro e w_23 ⟨rfl, v_19, hF_20, hag_21, hv_22⟩
  refine ⟨_, rfl, ?_⟩
  intro a H
  have HP := HP.putV 1 rfl _ rfl hF_20 hag_21 hv_22
  refine nl (ibn (tn (rg ?_)))
  refine H.valE 22 (ii (IntKind.i64.wrap ((i : Int) + 1))) (ii ((i : Int) + 1)) (by kernel_rfl) (by kernel_rfl) ((by rw [wrap_ini64 _ (by omega)])) fun a H => H.v 15 (ii ((i : Int) + 1)) fun a H => ?_
  refine nl (tn ?_)
  have H := H.as 15 (ii ((i + 1 : Nat) : Int)) rfl rfl
  refine ⟨_, ?_, i + 1, v_19, rfl, H.keep (by kernel_rfl), (by rw [wr_snoc hx_13]; exact (HP.tail rfl)), (by omega)⟩
  omega
 have g16p := of_decide_eq_false g16
 refine wp_exit (then_exit (then_exit ?_))
 refine w_exit_here ?_
 refine H.end0 (fn := Tryz.f88) Tryz.results88  ?_
 exact HP.endV 0 rfl (by rw [List.take_of_length_le (by omega)]) (by simp [bx])
theorem cloE_any (base b : Nat) (v : Value) (bs : List UInt8) (br : Nat) (x : Ent) (w : World) (h : (bldW base b v bs).F w) (hbr : Box w br 125 #[.pointer (some ⟨b, 0, none⟩)]) (hns : ∀ k, k = br → ¬ (bldW base b v bs).fp k) (hx : x.ok w) (hnx : ∀ k, x.fp k → ¬ (bldW base b v bs).fp k) (hz : ∀ z ∈ enNs x, -wmax ≤ z ∧ z ≤ wmax) (hlen : bs.length + 9 * (enNs x).length ≤ 100000000000000) : Calls Tryz.prog 87 #[(enV x), .pointer (some ⟨br, 0, none⟩)] w (PutPost base b v bs (enNs x) w) := by
 have HP : Hp w w [bldV w.heap.size base b v v bs] [rowF 2 altC x.A x.al, boxK br 125 [.pointer (some ⟨b, 0, none⟩)]] := ((Hp.ownV h).keepV (boxK br 125 [.pointer (some ⟨b, 0, none⟩)]) hbr (boxK_ok _ _ _) (fun k hk => by cases hk; exact hbr.lt) hns).keepV (rowF 2 altC x.A x.al) hx.1 (rowF_ok _ _ _ _) (fun k hk => hx.1.lt k hk) hnx
 refine w_enter 23 [(0, (enV x)), (1, (pt br 0))] Tryz.func87 rfl Tryz.ntmps87 (by kernel_rfl) (by kernel_rfl) fun a H => ?_
 refine sq (rg ?_)
 refine H.al HP 2 43 (enL x) fun b_1 w_2 a H HP => ?_
 refine nl (tn (sq (rg ?_)))
 refine H.u 3 (pt b 0) (ex_l1 ((HP.fact 1 rfl : Box _ br 125 _).cell (i := 0) rfl)) fun a H => H.v 4 (pt b_1 0) fun a H => H.u 5 (ii x.id) (ex_l1 (HP.cell 0 rfl 0 rfl)) fun a H => H.v 6 (pt b_1 1) fun a H => H.u 7 (ii x.item) (ex_l1 (HP.cell 0 rfl 1 rfl)) fun a H => H.v 8 (pt b_1 2) fun a H => H.u 9 (ii x.frames) (ex_l1 (HP.cell 0 rfl 2 rfl)) fun a H => H.v 10 (pt b_1 3) fun a H => H.u 11 (ii x.earliest) (ex_l1 (HP.cell 0 rfl 3 rfl)) fun a H => H.v 12 (pt b_1 4) fun a H => H.u 13 (ii x.latest) (ex_l1 (HP.cell 0 rfl 4 rfl)) fun a H => H.v 14 (pt b_1 5) fun a H => H.u 15 (ii x.booking) (ex_l1 (HP.cell 0 rfl 5 rfl)) fun a H => H.alloc HP 16 (fun b => (.slice (some ⟨b, 0, none⟩) 6 6)) 3 [(ii x.id), (ii x.item), (ii x.frames), (ii x.earliest), (ii x.latest), (ii x.booking)] (by kernel_rfl) (fun w => by kernel_rfl) fun b_3 w_4 a H HP => ?_
 refine H.cl 17 (Tryz.call81 _ _) (put_any base b v bs b_3 [x.id, x.item, x.frames, x.earliest, x.latest, x.booking] w_4 (HP.held 2 rfl).1 (HP.at_ 0 rfl) (fun k hk => HP.notBld 2 0 rfl rfl (by decide) k hk) (fun z hz1 => hz z (List.mem_append_left _ hz1)) (by simp only [enNs, List.length_append] at hlen; omega)) ?_
 rintro e w_9 ⟨rfl, v_5, hF_6, hag_7, hv_8⟩
 refine ⟨_, rfl, ?_⟩
 intro a H
 have HP := HP.putV 2 rfl _ rfl hF_6 hag_7 hv_8
 refine nl (tn (rg ?_))
 refine H.u 18 (pt b 0) (ex_l1 ((HP.fact 1 rfl : Box _ br 125 _).cell (i := 0) rfl)) fun a H => H.v 19 (pt b_1 6) fun a H => H.u 20 (.slice x.A x.al.length x.c) (ex_l1 (HP.cell 1 rfl 6 rfl)) fun a H => H.v 21 (.func (.func 89) #[] #[(pt br 0)]) fun a H => ?_
 refine H.cl 22 (Tryz.call88 _ _) (writeA_any base b v_5 (bs ++ encInts ([x.id, x.item, x.frames, x.earliest, x.latest, x.booking])) br x.A x.c x.al w_9 (HP.held 2 rfl).1 (HP.fact 1 rfl) (fun k hk => HP.factBld 2 1 rfl rfl k hk) (HP.fact 0 rfl : IsRow 2 altC _ x.A x.al) (fun k hk => HP.factBld 2 0 rfl rfl k hk) hx.2 (fun z hz1 => hz z (List.mem_append_right _ hz1)) (app_len hlen)) ?_
 rintro e w_14 ⟨rfl, v_10, hF_11, hag_12, hv_13⟩
 refine ⟨_, rfl, ?_⟩
 intro a H
 have HP := HP.putV 2 rfl _ rfl hF_11 hag_12 hv_13
 refine nl ?_
 refine H.end0 (fn := Tryz.f87) Tryz.results87  ?_
 exact HP.endV 2 rfl (by rw [List.append_assoc, ← encInts_append]; rfl) (by simp [bx])
theorem writeE_any (base b : Nat) (v : Value) (bs : List UInt8) (br : Nat) (A : Option Addr) (c : Nat) (l : List (Ent)) (w : World) (h : (bldW base b v bs).F w) (hbr : Box w br 125 #[.pointer (some ⟨b, 0, none⟩)]) (hns : ∀ k, k = br → ¬ (bldW base b v bs).fp k) (hr : IsEn w A l) (hnr : ∀ k, enFp A l k → ¬ (bldW base b v bs).fp k) (hl : l.length ≤ maxLen) (hz : ∀ z ∈ (l.length : Int) :: l.flatMap enNs, -wmax ≤ z ∧ z ≤ wmax) (hlen : bs.length + 9 * ((l.length : Int) :: l.flatMap enNs).length ≤ 100000000000000) : Calls Tryz.prog 86 #[.pointer (some ⟨b, 0, none⟩), .slice A l.length c, .func (.func 87) #[] #[.pointer (some ⟨br, 0, none⟩)]] w (PutPost base b v bs ((l.length : Int) :: l.flatMap enNs) w) := by
 unfold maxLen at hl
 have HP : Hp w w [bldV w.heap.size base b v v bs] [enF A l, boxK br 125 [.pointer (some ⟨b, 0, none⟩)]] := ((Hp.ownV h).keepV (boxK br 125 [.pointer (some ⟨b, 0, none⟩)]) hbr (boxK_ok _ _ _) (fun k hk => by cases hk; exact hbr.lt) hns).keepV (enF A l) hr (enF_ok _ _) (fun k hk => hr.lt k hk) hnr
 refine w_enter 23 [(0, (pt b 0)), (1, (.slice A l.length c)), (2, (.func (.func 87) #[] #[(pt br 0)]))] Tryz.func86 rfl Tryz.ntmps86 (by kernel_rfl) (by kernel_rfl) fun a H => ?_
 refine sq (rg ?_)
 refine H.v 8 (pt b 0) fun a H => H.v 9 (.slice A l.length c) fun a H => H.v 10 (ii l.length) fun a H => H.alloc HP 11 (fun b => (.slice (some ⟨b, 0, none⟩) 1 1)) 3 [(ii l.length)] (by kernel_rfl) (fun w => by kernel_rfl) fun b_1 w_2 a H HP => ?_
 refine H.cl 12 (Tryz.call81 _ _) (put_any base b v bs b_1 [(l.length : Int)] w_2 (HP.held 1 rfl).1 (HP.at_ 0 rfl) (fun k hk => HP.notBld 1 0 rfl rfl (by decide) k hk) (one_mem (hz _ (List.mem_cons_self ..))) (one_len hlen)) ?_
 rintro e w_7 ⟨rfl, v_3, hF_4, hag_5, hv_6⟩
 refine ⟨_, rfl, ?_⟩
 intro a H
 have HP := HP.putV 1 rfl _ rfl hF_4 hag_5 hv_6
 refine nl ?_
 have HP := HP.tail rfl
 have HP : Hp w w_7 [(bldV w.heap.size base b v v_3 (bs ++ encInts ((l.length : Int) :: (l.take 0).flatMap enNs)))] [enF A l, boxK br 125 [.pointer (some ⟨b, 0, none⟩)]] := HP
 refine tn (sq (rg ?_))
 refine H.v 13 (.slice A l.length c) fun a H => H.v 14 (ii l.length) fun a H => H.v 15 (ii 0) fun a H => ?_
 refine nl (tn (bk ?_))
 refine w_loop (fun mm a wv => ∃ (i : Nat), ∃ (vv : Value), l.length - i = mm ∧ Sl 23 [(15, (ii i)), (14, (ii l.length)), (13, (.slice A l.length c)), (12, (.tuple #[])), (11, (.slice (some ⟨b_1, 0, none⟩) 1 1)), (10, (ii l.length)), (9, (.slice A l.length c)), (8, (pt b 0)), (0, (pt b 0)), (1, (.slice A l.length c)), (2, (.func (.func 87) #[] #[(pt br 0)]))] a ∧ Hp w wv [(bldV w.heap.size base b v vv (bs ++ encInts ((l.length : Int) :: (l.take i).flatMap enNs)))] [enF A l, boxK br 125 [.pointer (some ⟨b, 0, none⟩)]] ∧ (i ≤ l.length)) (l.length - 0) ?_ ?_
 ·exact ⟨0, v_3, (by omega), H.keep (by kernel_rfl), HP, (Nat.zero_le _)⟩
 rintro mm a w_8 ⟨i, vv, hmeas, H, HP, hib⟩
 refine sq (rg ?_)
 refine H.v 16 (.bool (decide ((i : Int) < (l.length : Int)))) fun a H => ?_
 refine nl (tn (sq ?_))
 refine w_if H rfl (fun g16 => ?_) (fun g16 => ?_)
 ·have g16p := of_decide_eq_true g16
  refine sk (tn (sq (bk (sq ?_))))
  obtain ⟨bu_10, ou_11, x_9, hA_12, _, hd_14, hx_13, hm_15, _⟩ := IsRow.get enC_size (HP.fact 0 rfl : IsEn _ A l).row (i := i) (by omega)
  refine rg ?_
  refine H.u 17 (.pointer (some ⟨bu_10, ou_11 + i * 7, none⟩)) (ex_indexA (b := bu_10) (off := ou_11) (len := l.length) (cap := c) (e := 43) (k := 7) (ik := .i64) (i := (i : Int)) (m := i) hA_12 (by kernel_rfl) (by kernel_rfl) (by omega) (by omega) (by kernel_rfl) (by kernel_rfl)) fun a H => H.u 18 (enV x_9) (ex_lN (enL x_9) (IsRow.cells enC_size (HP.fact 0 rfl : IsEn _ A l).row hA_12 hx_13)) fun a H => H.al HP 7 43 [(ii 0), (ii 0), (ii 0), (ii 0), (ii 0), (ii 0), (.slice none 0 0)] fun b_16 w_17 a H HP => H.st HP 0 b_16 0 7 43 true (enV x_9) [bx b_16 43 (enL x_9) true, (bldV w.heap.size base b v vv (bs ++ encInts ((l.length : Int) :: (l.take i).flatMap enNs)))] rfl fun w_18 a H HP => ?_
  refine nl (tn (rg ?_))
  refine H.v 19 (.func (.func 87) #[] #[(pt br 0)]) fun a H => H.u 20 (enV x_9) (ex_lN (enL x_9) (HP.cells 0 rfl 0 7 (by kernel_rfl))) fun a H => ?_
  refine H.cl 21 (Tryz.call87 _ _) (cloE_any base b vv (bs ++ encInts ((l.length : Int) :: (l.take i).flatMap enNs)) br x_9 w_18 (HP.held 1 rfl).1 (HP.fact 1 rfl) (fun k hk => HP.factBld 1 1 rfl rfl k hk) ((HP.fact 0 rfl : IsEn _ A l).ok _ hm_15) (fun k hk => HP.factBld 1 0 rfl rfl k (.inr ⟨_, hm_15, hk⟩)) (fun z hz1 => hz z (List.mem_cons_of_mem _ (List.mem_flatMap.2 ⟨_, hm_15, hz1⟩))) (wr_len hx_13 hlen)) ?_
  rintro e w_23 ⟨rfl, v_19, hF_20, hag_21, hv_22⟩
  refine ⟨_, rfl, ?_⟩
  intro a H
  have HP := HP.putV 1 rfl _ rfl hF_20 hag_21 hv_22
  refine nl (ibn (tn (rg ?_)))
  refine H.valE 22 (ii (IntKind.i64.wrap ((i : Int) + 1))) (ii ((i : Int) + 1)) (by kernel_rfl) (by kernel_rfl) ((by rw [wrap_ini64 _ (by omega)])) fun a H => H.v 15 (ii ((i : Int) + 1)) fun a H => ?_
  refine nl (tn ?_)
  have H := H.as 15 (ii ((i + 1 : Nat) : Int)) rfl rfl
  refine ⟨_, ?_, i + 1, v_19, rfl, H.keep (by kernel_rfl), (by rw [wr_snoc hx_13]; exact (HP.tail rfl)), (by omega)⟩
  omega
 have g16p := of_decide_eq_false g16
 refine wp_exit (then_exit (then_exit ?_))
 refine w_exit_here ?_
 refine H.end0 (fn := Tryz.f86) Tryz.results86  ?_
 exact HP.endV 0 rfl (by rw [List.take_of_length_le (by omega)]) (by simp [bx])
theorem writeB_any (base b : Nat) (v : Value) (bs : List UInt8) (br : Nat) (A : Option Addr) (c : Nat) (l : List (Bkg)) (w : World) (h : (bldW base b v bs).F w) (hbr : Box w br 125 #[.pointer (some ⟨b, 0, none⟩)]) (hns : ∀ k, k = br → ¬ (bldW base b v bs).fp k) (hr : IsBk w A l) (hnr : ∀ k, rowFp l.length A k → ¬ (bldW base b v bs).fp k) (hl : l.length ≤ maxLen) (hz : ∀ z ∈ (l.length : Int) :: l.flatMap bkNs, -wmax ≤ z ∧ z ≤ wmax) (hlen : bs.length + 9 * ((l.length : Int) :: l.flatMap bkNs).length ≤ 100000000000000) : Calls Tryz.prog 90 #[.pointer (some ⟨b, 0, none⟩), .slice A l.length c, .func (.func 91) #[] #[.pointer (some ⟨br, 0, none⟩)]] w (PutPost base b v bs ((l.length : Int) :: l.flatMap bkNs) w) := by
 unfold maxLen at hl
 have HP : Hp w w [bldV w.heap.size base b v v bs] [rowF 7 bkC A l, boxK br 125 [.pointer (some ⟨b, 0, none⟩)]] := ((Hp.ownV h).keepV (boxK br 125 [.pointer (some ⟨b, 0, none⟩)]) hbr (boxK_ok _ _ _) (fun k hk => by cases hk; exact hbr.lt) hns).keepV (rowF 7 bkC A l) hr (rowF_ok _ _ _ _) (fun k hk => hr.lt k hk) hnr
 refine w_enter 23 [(0, (pt b 0)), (1, (.slice A l.length c)), (2, (.func (.func 91) #[] #[(pt br 0)]))] Tryz.func90 rfl Tryz.ntmps90 (by kernel_rfl) (by kernel_rfl) fun a H => ?_
 refine sq (rg ?_)
 refine H.v 8 (pt b 0) fun a H => H.v 9 (.slice A l.length c) fun a H => H.v 10 (ii l.length) fun a H => H.alloc HP 11 (fun b => (.slice (some ⟨b, 0, none⟩) 1 1)) 3 [(ii l.length)] (by kernel_rfl) (fun w => by kernel_rfl) fun b_1 w_2 a H HP => ?_
 refine H.cl 12 (Tryz.call81 _ _) (put_any base b v bs b_1 [(l.length : Int)] w_2 (HP.held 1 rfl).1 (HP.at_ 0 rfl) (fun k hk => HP.notBld 1 0 rfl rfl (by decide) k hk) (one_mem (hz _ (List.mem_cons_self ..))) (one_len hlen)) ?_
 rintro e w_7 ⟨rfl, v_3, hF_4, hag_5, hv_6⟩
 refine ⟨_, rfl, ?_⟩
 intro a H
 have HP := HP.putV 1 rfl _ rfl hF_4 hag_5 hv_6
 refine nl ?_
 have HP := HP.tail rfl
 have HP : Hp w w_7 [(bldV w.heap.size base b v v_3 (bs ++ encInts ((l.length : Int) :: (l.take 0).flatMap bkNs)))] [rowF 7 bkC A l, boxK br 125 [.pointer (some ⟨b, 0, none⟩)]] := HP
 refine tn (sq (rg ?_))
 refine H.v 13 (.slice A l.length c) fun a H => H.v 14 (ii l.length) fun a H => H.v 15 (ii 0) fun a H => ?_
 refine nl (tn (bk ?_))
 refine w_loop (fun mm a wv => ∃ (i : Nat), ∃ (vv : Value), l.length - i = mm ∧ Sl 23 [(15, (ii i)), (14, (ii l.length)), (13, (.slice A l.length c)), (12, (.tuple #[])), (11, (.slice (some ⟨b_1, 0, none⟩) 1 1)), (10, (ii l.length)), (9, (.slice A l.length c)), (8, (pt b 0)), (0, (pt b 0)), (1, (.slice A l.length c)), (2, (.func (.func 91) #[] #[(pt br 0)]))] a ∧ Hp w wv [(bldV w.heap.size base b v vv (bs ++ encInts ((l.length : Int) :: (l.take i).flatMap bkNs)))] [rowF 7 bkC A l, boxK br 125 [.pointer (some ⟨b, 0, none⟩)]] ∧ (i ≤ l.length)) (l.length - 0) ?_ ?_
 ·exact ⟨0, v_3, (by omega), H.keep (by kernel_rfl), HP, (Nat.zero_le _)⟩
 rintro mm a w_8 ⟨i, vv, hmeas, H, HP, hib⟩
 refine sq (rg ?_)
 refine H.v 16 (.bool (decide ((i : Int) < (l.length : Int)))) fun a H => ?_
 refine nl (tn (sq ?_))
 refine w_if H rfl (fun g16 => ?_) (fun g16 => ?_)
 ·have g16p := of_decide_eq_true g16
  refine sk (tn (sq (bk (sq ?_))))
  obtain ⟨bu_10, ou_11, x_9, hA_12, _, hd_14, hx_13, hm_15, _⟩ := IsRow.get bkC_size (HP.fact 0 rfl) (i := i) (by omega)
  refine rg ?_
  refine H.u 17 (.pointer (some ⟨bu_10, ou_11 + i * 7, none⟩)) (ex_indexA (b := bu_10) (off := ou_11) (len := l.length) (cap := c) (e := 47) (k := 7) (ik := .i64) (i := (i : Int)) (m := i) hA_12 (by kernel_rfl) (by kernel_rfl) (by omega) (by omega) (by kernel_rfl) (by kernel_rfl)) fun a H => H.u 18 (bkV x_9) (ex_lN (bkL x_9) (IsRow.cells bkC_size (HP.fact 0 rfl) hA_12 hx_13)) fun a H => H.al HP 7 47 [(ii 0), (ii 0), (ii 0), (ii 0), (ii 0), (ii 0), (ii 0)] fun b_16 w_17 a H HP => H.st HP 0 b_16 0 7 47 true (bkV x_9) [bx b_16 47 (bkL x_9) true, (bldV w.heap.size base b v vv (bs ++ encInts ((l.length : Int) :: (l.take i).flatMap bkNs)))] rfl fun w_18 a H HP => ?_
  refine nl (tn (rg ?_))
  refine H.v 19 (.func (.func 91) #[] #[(pt br 0)]) fun a H => H.u 20 (bkV x_9) (ex_lN (bkL x_9) (HP.cells 0 rfl 0 7 (by kernel_rfl))) fun a H => ?_
  refine H.cl 21 (Tryz.call91 _ _) (cloB_any base b vv (bs ++ encInts ((l.length : Int) :: (l.take i).flatMap bkNs)) br x_9 w_18 (HP.held 1 rfl).1 (HP.fact 1 rfl) (fun k hk => HP.factBld 1 1 rfl rfl k hk) (fun z hz1 => hz z (List.mem_cons_of_mem _ (List.mem_flatMap.2 ⟨_, hm_15, hz1⟩))) (wr_len hx_13 hlen)) ?_
  rintro e w_23 ⟨rfl, v_19, hF_20, hag_21, hv_22⟩
  refine ⟨_, rfl, ?_⟩
  intro a H
  have HP := HP.putV 1 rfl _ rfl hF_20 hag_21 hv_22
  refine nl (ibn (tn (rg ?_)))
  refine H.valE 22 (ii (IntKind.i64.wrap ((i : Int) + 1))) (ii ((i : Int) + 1)) (by kernel_rfl) (by kernel_rfl) ((by rw [wrap_ini64 _ (by omega)])) fun a H => H.v 15 (ii ((i : Int) + 1)) fun a H => ?_
  refine nl (tn ?_)
  have H := H.as 15 (ii ((i + 1 : Nat) : Int)) rfl rfl
  refine ⟨_, ?_, i + 1, v_19, rfl, H.keep (by kernel_rfl), (by rw [wr_snoc hx_13]; exact (HP.tail rfl)), (by omega)⟩
  omega
 have g16p := of_decide_eq_false g16
 refine wp_exit (then_exit (then_exit ?_))
 refine w_exit_here ?_
 refine H.end0 (fn := Tryz.f90) Tryz.results90  ?_
 exact HP.endV 0 rfl (by rw [List.take_of_length_le (by omega)]) (by simp [bx])
theorem writeC_any (base b : Nat) (v : Value) (bs : List UInt8) (br : Nat) (A : Option Addr) (c : Nat) (l : List (Cls)) (w : World) (h : (bldW base b v bs).F w) (hbr : Box w br 125 #[.pointer (some ⟨b, 0, none⟩)]) (hns : ∀ k, k = br → ¬ (bldW base b v bs).fp k) (hr : IsCl w A l) (hnr : ∀ k, rowFp l.length A k → ¬ (bldW base b v bs).fp k) (hl : l.length ≤ maxLen) (hz : ∀ z ∈ (l.length : Int) :: l.flatMap clNs, -wmax ≤ z ∧ z ≤ wmax) (hlen : bs.length + 9 * ((l.length : Int) :: l.flatMap clNs).length ≤ 100000000000000) : Calls Tryz.prog 92 #[.pointer (some ⟨b, 0, none⟩), .slice A l.length c, .func (.func 93) #[] #[.pointer (some ⟨br, 0, none⟩)]] w (PutPost base b v bs ((l.length : Int) :: l.flatMap clNs) w) := by
 unfold maxLen at hl
 have HP : Hp w w [bldV w.heap.size base b v v bs] [rowF 8 clC A l, boxK br 125 [.pointer (some ⟨b, 0, none⟩)]] := ((Hp.ownV h).keepV (boxK br 125 [.pointer (some ⟨b, 0, none⟩)]) hbr (boxK_ok _ _ _) (fun k hk => by cases hk; exact hbr.lt) hns).keepV (rowF 8 clC A l) hr (rowF_ok _ _ _ _) (fun k hk => hr.lt k hk) hnr
 refine w_enter 23 [(0, (pt b 0)), (1, (.slice A l.length c)), (2, (.func (.func 93) #[] #[(pt br 0)]))] Tryz.func92 rfl Tryz.ntmps92 (by kernel_rfl) (by kernel_rfl) fun a H => ?_
 refine sq (rg ?_)
 refine H.v 8 (pt b 0) fun a H => H.v 9 (.slice A l.length c) fun a H => H.v 10 (ii l.length) fun a H => H.alloc HP 11 (fun b => (.slice (some ⟨b, 0, none⟩) 1 1)) 3 [(ii l.length)] (by kernel_rfl) (fun w => by kernel_rfl) fun b_1 w_2 a H HP => ?_
 refine H.cl 12 (Tryz.call81 _ _) (put_any base b v bs b_1 [(l.length : Int)] w_2 (HP.held 1 rfl).1 (HP.at_ 0 rfl) (fun k hk => HP.notBld 1 0 rfl rfl (by decide) k hk) (one_mem (hz _ (List.mem_cons_self ..))) (one_len hlen)) ?_
 rintro e w_7 ⟨rfl, v_3, hF_4, hag_5, hv_6⟩
 refine ⟨_, rfl, ?_⟩
 intro a H
 have HP := HP.putV 1 rfl _ rfl hF_4 hag_5 hv_6
 refine nl ?_
 have HP := HP.tail rfl
 have HP : Hp w w_7 [(bldV w.heap.size base b v v_3 (bs ++ encInts ((l.length : Int) :: (l.take 0).flatMap clNs)))] [rowF 8 clC A l, boxK br 125 [.pointer (some ⟨b, 0, none⟩)]] := HP
 refine tn (sq (rg ?_))
 refine H.v 13 (.slice A l.length c) fun a H => H.v 14 (ii l.length) fun a H => H.v 15 (ii 0) fun a H => ?_
 refine nl (tn (bk ?_))
 refine w_loop (fun mm a wv => ∃ (i : Nat), ∃ (vv : Value), l.length - i = mm ∧ Sl 23 [(15, (ii i)), (14, (ii l.length)), (13, (.slice A l.length c)), (12, (.tuple #[])), (11, (.slice (some ⟨b_1, 0, none⟩) 1 1)), (10, (ii l.length)), (9, (.slice A l.length c)), (8, (pt b 0)), (0, (pt b 0)), (1, (.slice A l.length c)), (2, (.func (.func 93) #[] #[(pt br 0)]))] a ∧ Hp w wv [(bldV w.heap.size base b v vv (bs ++ encInts ((l.length : Int) :: (l.take i).flatMap clNs)))] [rowF 8 clC A l, boxK br 125 [.pointer (some ⟨b, 0, none⟩)]] ∧ (i ≤ l.length)) (l.length - 0) ?_ ?_
 ·exact ⟨0, v_3, (by omega), H.keep (by kernel_rfl), HP, (Nat.zero_le _)⟩
 rintro mm a w_8 ⟨i, vv, hmeas, H, HP, hib⟩
 refine sq (rg ?_)
 refine H.v 16 (.bool (decide ((i : Int) < (l.length : Int)))) fun a H => ?_
 refine nl (tn (sq ?_))
 refine w_if H rfl (fun g16 => ?_) (fun g16 => ?_)
 ·have g16p := of_decide_eq_true g16
  refine sk (tn (sq (bk (sq ?_))))
  obtain ⟨bu_10, ou_11, x_9, hA_12, _, hd_14, hx_13, hm_15, _⟩ := IsRow.get clC_size (HP.fact 0 rfl) (i := i) (by omega)
  refine rg ?_
  refine H.u 17 (.pointer (some ⟨bu_10, ou_11 + i * 8, none⟩)) (ex_indexA (b := bu_10) (off := ou_11) (len := l.length) (cap := c) (e := 73) (k := 8) (ik := .i64) (i := (i : Int)) (m := i) hA_12 (by kernel_rfl) (by kernel_rfl) (by omega) (by omega) (by kernel_rfl) (by kernel_rfl)) fun a H => H.u 18 (clV x_9) (ex_lN (clL x_9) (IsRow.cells clC_size (HP.fact 0 rfl) hA_12 hx_13)) fun a H => H.al HP 7 73 [(ii 0), (ii 0), (ii 0), (ii 0), (ii 0), (ii 0), (ii 0), (ii 0)] fun b_16 w_17 a H HP => H.st HP 0 b_16 0 8 73 true (clV x_9) [bx b_16 73 (clL x_9) true, (bldV w.heap.size base b v vv (bs ++ encInts ((l.length : Int) :: (l.take i).flatMap clNs)))] rfl fun w_18 a H HP => ?_
  refine nl (tn (rg ?_))
  refine H.v 19 (.func (.func 93) #[] #[(pt br 0)]) fun a H => H.u 20 (clV x_9) (ex_lN (clL x_9) (HP.cells 0 rfl 0 8 (by kernel_rfl))) fun a H => ?_
  refine H.cl 21 (Tryz.call93 _ _) (cloC_any base b vv (bs ++ encInts ((l.length : Int) :: (l.take i).flatMap clNs)) br x_9 w_18 (HP.held 1 rfl).1 (HP.fact 1 rfl) (fun k hk => HP.factBld 1 1 rfl rfl k hk) (fun z hz1 => hz z (List.mem_cons_of_mem _ (List.mem_flatMap.2 ⟨_, hm_15, hz1⟩))) (wr_len hx_13 hlen)) ?_
  rintro e w_23 ⟨rfl, v_19, hF_20, hag_21, hv_22⟩
  refine ⟨_, rfl, ?_⟩
  intro a H
  have HP := HP.putV 1 rfl _ rfl hF_20 hag_21 hv_22
  refine nl (ibn (tn (rg ?_)))
  refine H.valE 22 (ii (IntKind.i64.wrap ((i : Int) + 1))) (ii ((i : Int) + 1)) (by kernel_rfl) (by kernel_rfl) ((by rw [wrap_ini64 _ (by omega)])) fun a H => H.v 15 (ii ((i : Int) + 1)) fun a H => ?_
  refine nl (tn ?_)
  have H := H.as 15 (ii ((i + 1 : Nat) : Int)) rfl rfl
  refine ⟨_, ?_, i + 1, v_19, rfl, H.keep (by kernel_rfl), (by rw [wr_snoc hx_13]; exact (HP.tail rfl)), (by omega)⟩
  omega
 have g16p := of_decide_eq_false g16
 refine wp_exit (then_exit (then_exit ?_))
 refine w_exit_here ?_
 refine H.end0 (fn := Tryz.f92) Tryz.results92  ?_
 exact HP.endV 0 rfl (by rw [List.take_of_length_le (by omega)]) (by simp [bx])
def numsP (p : Pln) : List Int := [p.channel, p.num, p.den, p.offset] ++ (((p.sh.length : Nat) : Int) :: p.sh.flatMap altNs) ++ [p.epoch, p.regions, p.length, p.fill] ++ (((p.its.length : Nat) : Int) :: p.its.flatMap itNs) ++ (((p.es.length : Nat) : Int) :: p.es.flatMap enNs) ++ (((p.bs.length : Nat) : Int) :: p.bs.flatMap bkNs) ++ (((p.cs.length : Nat) : Int) :: p.cs.flatMap clNs)
abbrev inW (z : Int) : Prop := -wmax ≤ z ∧ z ≤ wmax
theorem flat_in {α : Type} {f : α → List Int} {l : List α} (h : ∀ x ∈ l, ∀ z ∈ f x, inW z) : ∀ z ∈ l.flatMap f, inW z := by
  intro z hz
  obtain ⟨x, hx, hz⟩ := List.mem_flatMap.1 hz
  exact h x hx z hz
theorem flat_cnt {α : Type} {f : α → List Int} {l : List α} {n : Nat} (h : ∀ x ∈ l, (f x).length ≤ n) : (l.flatMap f).length ≤ l.length * n := by
  induction l with
  | nil => simp
  | cons x l ih =>
    have h1 := h x (List.mem_cons_self ..)
    have h2 := ih fun y hy => h y (List.mem_cons_of_mem _ hy)
    simp only [List.flatMap_cons, List.length_append, List.length_cons, Nat.succ_mul]
    omega
theorem asc_in {α : Type} {f : α → Int} {lo hi : Int} {l : List α} (h : asc lo hi (l.map f) = true) {x : α} (hx : x ∈ l) : lo < f x ∧ f x ≤ hi := asc_lt h _ (List.mem_map.2 ⟨x, hx, rfl⟩)
theorem asc_cnt {lo hi : Int} : ∀ {l : List Int}, asc lo hi l = true → lo ≤ hi ∨ l = [] → (l.length : Int) ≤ max 0 (hi - lo)
  | [], _, _ => by simp; omega
  | n :: l, h, _ => by
    simp only [asc, Bool.and_eq_true, decide_eq_true_eq] at h
    have := asc_cnt h.2 (.inl h.1.2)
    simp only [List.length_cons]
    omega
theorem hI_in {l : List Itm} {k : Int} (ha : asc 0 1000000 (l.map (fun x => x.id)) = true) (h : hI l k = true) : 0 < k ∧ k ≤ 1000000 := by
  unfold hI fI at h
  cases hf : l.find? (fun x => x.id == k) with
  | none => rw [hf] at h; cases h
  | some x =>
    have h1 := asc_in ha (List.mem_of_find?_eq_some hf)
    have h2 := List.find?_some hf
    simp only [beq_iff_eq] at h2
    omega
theorem hB_in {l : List Bkg} {k : Int} (ha : asc 0 1000000 (l.map (fun x => x.id)) = true) (h : hB l k = true) : 0 < k ∧ k ≤ 1000000 := by
  unfold hB fB at h
  cases hf : l.find? (fun x => x.id == k) with
  | none => rw [hf] at h; cases h
  | some x =>
    have h1 := asc_in ha (List.mem_of_find?_eq_some hf)
    have h2 := List.find?_some hf
    simp only [beq_iff_eq] at h2
    omega
theorem gI_in {l : List Itm} {k n : Int} (h : (gI l k).kind = n) (hn : n ≠ 0) : hI l k = true := by
  unfold gI at h
  unfold hI
  cases hf : fI l k with
  | none => rw [hf] at h; exact absurd h.symm hn
  | some x => rfl
theorem shP_in {last : Int} : ∀ {l : Alts}, shP last l = true → ∀ a ∈ l, last < a.1 ∧ a.1 ≤ 10000000000 ∧ -50400 ≤ a.2 ∧ a.2 ≤ 50400
  | [], _, a, ha => by cases ha
  | b :: l, h, a, ha => by
    simp only [shP, Bool.and_eq_true, decide_eq_true_eq, inR_iff] at h
    rcases List.mem_cons.1 ha with rfl | ha
    · exact ⟨h.1.1.1, h.1.1.2, h.1.2⟩
    · have := shP_in h.2 a ha; omega
theorem entsP_in {p : Pln} : ∀ {l : List Ent} {seen : List Int}, entsP p seen l = true → ∀ e ∈ l, entP p e = true
  | [], _, _, e, he => by cases he
  | x :: l, seen, h, e, he => by
    simp only [entsP, Bool.and_eq_true] at h
    rcases List.mem_cons.1 he with rfl | he
    · exact h.1.1
    · exact entsP_in h.2 e he
theorem clP_in {c : Cls} (h : clP c = true) : ∀ z ∈ clNs c, inW z := by
  unfold clP useP bodyC itemC timeC at h
  unfold inW wmax
  simp only [Bool.and_eq_true] at h
  obtain ⟨h1, h2⟩ := h
  intro z hz
  simp only [clNs, List.mem_cons, List.not_mem_nil, or_false] at hz
  split at h2
  · rw [if_pos (by assumption)] at h1
    simp only [Bool.and_eq_true, decide_eq_true_eq, inR_iff, beq_iff_eq] at h1 h2
    omega
  · split at h2
    · rw [if_neg (by omega), if_pos (by omega)] at h1
      simp only [Bool.and_eq_true, decide_eq_true_eq, inR_iff, beq_iff_eq] at h1 h2
      omega
    · split at h2
      · rw [if_neg (by omega), if_pos (by omega)] at h1
        simp only [Bool.and_eq_true, decide_eq_true_eq, inR_iff, beq_iff_eq] at h1 h2
        omega
      · split at h2
        · rw [if_neg (by omega), if_neg (by omega), if_pos (by omega)] at h1
          simp only [Bool.and_eq_true, decide_eq_true_eq, inR_iff, beq_iff_eq] at h1 h2
          omega
        · split at h2
          · rw [if_neg (by omega), if_neg (by omega), if_neg (by omega), if_pos (by omega)] at h1
            simp only [Bool.and_eq_true, decide_eq_true_eq, inR_iff, beq_iff_eq] at h1 h2
            omega
          · cases h2
theorem alts_in {p : Pln} {e : Ent} (ha : asc 0 1000000 (p.its.map (fun x => x.id)) = true) (hr : p.regions ≤ 8) (h : altsP p.its p.regions e = true) : e.al.length ≤ 7 ∧ ∀ a ∈ e.al, inW a.1 ∧ inW a.2 := by
  unfold altsP at h
  simp only [Bool.and_eq_true, Bool.not_eq_true'] at h
  obtain ⟨⟨h1, _⟩, h3⟩ := h
  refine ⟨?_, fun a ha' => ?_⟩
  · have := asc_cnt h1 (by cases hl : e.al with | nil => exact .inr rfl | cons a l => rw [hl] at h1; simp only [List.map_cons, asc, Bool.and_eq_true, decide_eq_true_eq] at h1; exact .inl (by omega))
    rw [List.length_map] at this
    omega
  · have h4 := asc_in (f := fun x : Int × Int => x.1) h1 ha'
    have h5 : unfitP p.its e.frames a = false := by
      rw [← Bool.not_eq_true]
      intro hu
      rw [List.any_eq_false] at h3
      exact h3 a ha' hu
    have h6 : hI p.its a.2 = true := by
      unfold unfitP at h5
      simp only [Bool.or_eq_false_iff, Bool.not_eq_false'] at h5
      exact h5.1.1.1
    have h7 := hI_in ha h6
    unfold inW wmax
    omega
theorem ent_in {p : Pln} {e : Ent} (ha : asc 0 1000000 (p.its.map (fun x => x.id)) = true) (hb : asc 0 1000000 (p.bs.map (fun x => x.id)) = true) (hi : p.its.all itemP = true) (hr : p.regions ≤ 8) (hlen : p.length ≤ 100000000) (h : entP p e = true) : (∀ z ∈ enNs e, inW z) ∧ (enNs e).length ≤ 30 := by
  unfold entP at h
  simp only [Bool.and_eq_true, inR_iff] at h
  obtain ⟨⟨⟨h1, h2⟩, h3⟩, h4⟩ := h
  obtain ⟨h5, h6⟩ := alts_in ha hr h3
  have hfr := gI_frames hi e.item
  unfold fitsP at h2
  simp only [Bool.and_eq_true, inR_iff, decide_eq_true_eq] at h2
  have h7 := hI_in ha h2.1.1.1.1
  have h8 : 0 ≤ e.booking ∧ e.booking ≤ 1000000 := by
    unfold fulP at h4
    simp only [Bool.or_eq_true, Bool.and_eq_true, beq_iff_eq] at h4
    rcases h4 with h4 | h4
    · omega
    · have := hB_in hb h4.1; omega
  refine ⟨fun z hz => ?_, ?_⟩
  · simp only [enNs, List.mem_append, List.mem_cons, List.not_mem_nil, or_false] at hz
    rcases hz with hz | hz | hz
    · unfold inW wmax; omega
    · unfold inW wmax; omega
    · refine flat_in (fun a ha z hz => ?_) z hz
      simp only [altNs, List.mem_cons, List.not_mem_nil, or_false] at hz
      rcases hz with rfl | rfl
      · exact (h6 a ha).1
      · exact (h6 a ha).2
  · have h9 := flat_cnt (f := altNs) (l := e.al) (n := 2) (fun _ _ => Nat.le_refl _)
    simp only [enNs, List.length_append, List.length_cons, List.length_nil]
    omega
theorem valid_nums {p : Pln} (h : validPl p = true) : (∀ z ∈ numsP p, -wmax ≤ z ∧ z ≤ wmax) ∧ (numsP p).length ≤ 1000000 := by
  unfold validPl at h
  simp only [Bool.and_eq_true, decide_eq_true_eq] at h
  obtain ⟨⟨⟨⟨h1, h2⟩, h3⟩, h4, h5⟩, h6⟩ := h
  rw [soundP_eq] at h1
  unfold itsP at h2
  unfold bksP at h3
  unfold clsP at h6
  simp only [Bool.and_eq_true, decide_eq_true_eq, inR_iff] at h1 h2 h3 h6
  have hrate := rateOk_bd h1.1.1.1.1.2
  have hzone := h1.1.1.1.2
  unfold zoneP at hzone
  simp only [Bool.and_eq_true, decide_eq_true_eq, inR_iff] at hzone
  have hsh := shP_in hzone.2
  have hfill := hI_in h2.1.1.2 (gI_in (eq_of_beq h2.2) (by decide))
  have hits := h2.1.2
  have hen := fun e he => ent_in h2.1.1.2 h3.1.2 hits h1.1.2.2 h1.2.2 (entsP_in h5 e he)
  have hbk : ∀ x ∈ p.bs, ∀ z ∈ bkNs x, inW z := fun x hx z hz => by
    have k1 := List.all_eq_true.1 h3.2 x hx
    have k2 := asc_in h3.1.2 hx
    unfold bookP at k1
    simp only [Bool.and_eq_true, decide_eq_true_eq, inR_iff] at k1
    have k3 := hI_in h2.1.1.2 (gI_in (eq_of_beq k1.1.1.1) (by decide))
    simp only [bkNs, List.mem_cons, List.not_mem_nil, or_false] at hz
    unfold inW wmax
    omega
  have hit : ∀ x ∈ p.its, ∀ z ∈ itNs x, inW z := fun x hx z hz => by
    have k1 := List.all_eq_true.1 hits x hx
    have k2 := asc_in h2.1.1.2 hx
    unfold itemP at k1
    simp only [Bool.and_eq_true, inR_iff] at k1
    simp only [itNs, List.mem_cons, List.not_mem_nil, or_false] at hz
    unfold inW wmax
    omega
  have hsn : ∀ x ∈ p.sh, ∀ z ∈ altNs x, inW z := fun x hx z hz => by
    have k1 := hsh x hx
    simp only [altNs, List.mem_cons, List.not_mem_nil, or_false] at hz
    unfold inW wmax
    omega
  have hcn : ∀ x ∈ p.cs, ∀ z ∈ clNs x, inW z := fun x hx => clP_in (List.all_eq_true.1 h6.2 x hx)
  refine ⟨fun z hz => ?_, ?_⟩
  · simp only [numsP, List.mem_append] at hz
    rcases hz with ((((((hz | hz) | hz) | hz) | hz) | hz) | hz)
    · simp only [List.mem_cons, List.not_mem_nil, or_false] at hz; unfold wmax; omega
    · rcases List.mem_cons.1 hz with rfl | hz
      · unfold wmax; omega
      · exact flat_in hsn z hz
    · simp only [List.mem_cons, List.not_mem_nil, or_false] at hz; unfold wmax; omega
    · rcases List.mem_cons.1 hz with rfl | hz
      · unfold wmax; omega
      · exact flat_in hit z hz
    · rcases List.mem_cons.1 hz with rfl | hz
      · unfold wmax; omega
      · exact flat_in (fun e he => (hen e he).1) z hz
    · rcases List.mem_cons.1 hz with rfl | hz
      · unfold wmax; omega
      · exact flat_in hbk z hz
    · rcases List.mem_cons.1 hz with rfl | hz
      · unfold wmax; omega
      · exact flat_in hcn z hz
  · have c1 := flat_cnt (f := altNs) (l := p.sh) (n := 2) (fun _ _ => Nat.le_refl _)
    have c2 := flat_cnt (f := itNs) (l := p.its) (n := 5) (fun _ _ => Nat.le_refl _)
    have c3 := flat_cnt (f := enNs) (l := p.es) (n := 30) (fun e he => (hen e he).2)
    have c4 := flat_cnt (f := bkNs) (l := p.bs) (n := 7) (fun _ _ => Nat.le_refl _)
    have c5 := flat_cnt (f := clNs) (l := p.cs) (n := 8) (fun _ _ => Nat.le_refl _)
    simp only [numsP, List.length_append, List.length_cons, List.length_nil]
    omega
structure LaidP (a0 a1 : Addr) (w : World) : Prop where
  rates : LaidR w
  c0 : w.cell? ⟨0, 0, none⟩ = some (.iface 212 (.pointer (some a0)))
  c1 : w.cell? ⟨1, 0, none⟩ = some (.iface 212 (.pointer (some a1)))
  ne : a0 ≠ a1
  b0 : ∃ c t, w.heap[a0.block]? = some (.cells c t (0, 0))
  b1 : ∃ c t, w.heap[a1.block]? = some (.cells c t (0, 0))
def lpFp (a0 a1 : Addr) (k : Nat) : Prop := k = 0 ∨ k = 1 ∨ k = 2 ∨ k = a0.block ∨ k = a1.block
theorem cell_keep {w w' : World} {b off : Nat} {v : Value} (h : w.cell? ⟨b, off, none⟩ = some v) (hk : w'.heap[b]? = w.heap[b]?) : w'.cell? ⟨b, off, none⟩ = some v := by
  rw [← h]
  simp only [World.cell?, hk]
theorem LaidP.keep {a0 a1 : Addr} {w w' : World} (h : LaidP a0 a1 w) (hk : ∀ k, lpFp a0 a1 k → w'.heap[k]? = w.heap[k]?) : LaidP a0 a1 w' :=
  ⟨fun i hi => cell_keep (h.rates i hi) (hk _ (.inr (.inr (.inl rfl)))), cell_keep h.c0 (hk _ (by unfold lpFp; omega)), cell_keep h.c1 (hk _ (by unfold lpFp; omega)), h.ne,
    by rw [hk _ (.inr (.inr (.inr (.inl rfl))))]; exact h.b0, by rw [hk _ (.inr (.inr (.inr (.inr rfl))))]; exact h.b1⟩
theorem LaidP.lt {a0 a1 : Addr} {w : World} (h : LaidP a0 a1 w) : ∀ k, lpFp a0 a1 k → k < w.heap.size := by
  have k2 := World.block_lt_of_cell? _ _ (h.rates 0 (by decide))
  have k0 := World.block_lt_of_cell? _ _ h.c0
  have k1 := World.block_lt_of_cell? _ _ h.c1
  obtain ⟨_, _, h0⟩ := h.b0
  obtain ⟨_, _, h1⟩ := h.b1
  have j0 := (Array.getElem?_eq_some_iff.1 h0).1
  have j1 := (Array.getElem?_eq_some_iff.1 h1).1
  simp only at k0 k1 k2
  rintro k (rfl | rfl | rfl | rfl | rfl) <;> omega
theorem LaidP.below {a0 a1 : Addr} {w w' : World} (h : LaidP a0 a1 w) (hb : Below w.heap.size w w') : LaidP a0 a1 w' := h.keep fun k hk => hb.block k (h.lt k hk)
def laidK (a0 a1 : Addr) : FK := ⟨lpFp a0 a1, LaidP a0 a1⟩
theorem laidK_ok (a0 a1 : Addr) : (laidK a0 a1).ok := fun _ _ h hk _ => h.keep hk
abbrev errV (a : Addr) : Value := .iface 212 (.pointer (some a))
abbrev panicOf (a : Addr) : List PanicEntry := [{ v := errV a, recovered := false }]
theorem Hp.swap {w0 w w' : World} {L L' : List HB} {K : List FK} (H : Hp w0 w L K) (f : Nat → Prop) (hag : Agree w w' f) (hL : L'.length = L.length)
    (h : ∀ (n : Nat) (x' : HB), L'[n]? = some x' → ∃ x : HB, L[n]? = some x ∧ x'.fp = x.fp ∧ x'.fresh = x.fresh ∧ ((x' = x ∧ ∀ k, x.fp k → ¬ f k) ∨ (x'.F w' ∧ x'.ok))) (hf : ∀ k, f k → ∃ x ∈ L, x.fp k) : Hp w0 w' L' K := by
  have back : ∀ x ∈ L, ∃ x' ∈ L', x'.fp = x.fp := by
    intro x hx
    obtain ⟨n, hn⟩ := List.mem_iff_getElem?.1 hx
    have hlt := (List.getElem?_eq_some_iff.1 hn).1
    obtain ⟨y, hy, e, _⟩ := h n (L'[n]'(by omega)) (List.getElem?_eq_getElem (by omega))
    rw [hn] at hy
    cases hy
    exact ⟨_, List.getElem_mem _, e⟩
  have forth : ∀ x' ∈ L', ∃ x ∈ L, x'.fp = x.fp ∧ x'.fresh = x.fresh ∧ ((x' = x ∧ ∀ k, x.fp k → ¬ f k) ∨ (x'.F w' ∧ x'.ok)) := by
    intro x' hx'
    obtain ⟨n, hn⟩ := List.mem_iff_getElem?.1 hx'
    obtain ⟨x, hx, r⟩ := h n x' hn
    exact ⟨x, List.mem_of_getElem? hx, r⟩
  refine ⟨hag.os.trans H.os, hag.tape.trans H.tape, hag.output.trans H.output, Nat.le_trans H.size hag.size, fun k hk hn => ?_, fun x' hx' => ?_, ?_, fun x' hx' hfr k hk => ?_, fun p hp => ?_⟩
  · have h1 : ∀ x ∈ L, ¬ x.fp k := fun x hx hxk => by
      obtain ⟨x', hx', e⟩ := back x hx
      exact hn x' hx' (e ▸ hxk)
    rw [hag.block k (Nat.lt_of_lt_of_le hk H.size) (fun hfk => by obtain ⟨x, hx, hxk⟩ := hf k hfk; exact h1 x hx hxk)]
    exact H.old k hk h1
  · obtain ⟨x, hx, e, _, r⟩ := forth x' hx'
    obtain ⟨g1, g2, g3⟩ := H.res x hx
    rcases r with ⟨rfl, hn⟩ | ⟨r1, r2⟩
    · exact ⟨g2 _ _ g1 (fun k hk => hag.block k (g3 k hk) (hn k hk)) hag.size, g2, fun k hk => Nat.lt_of_lt_of_le (g3 k hk) hag.size⟩
    · exact ⟨r1, r2, fun k hk => Nat.lt_of_lt_of_le (g3 k (e ▸ hk)) hag.size⟩
  · rw [List.pairwise_iff_getElem]
    intro i j hi hj hij k hk hk'
    obtain ⟨x, hx, e, _⟩ := h i _ (List.getElem?_eq_getElem hi)
    obtain ⟨y, hy, e', _⟩ := h j _ (List.getElem?_eq_getElem hj)
    exact pair_at H.apart hx hy hij k (e ▸ hk) (e' ▸ hk')
  · obtain ⟨x, hx, e, e2, _⟩ := forth x' hx'
    exact H.fresh x hx (e2 ▸ hfr) k (e ▸ hk)
  · obtain ⟨k1, k2, k3⟩ := H.kept p hp
    refine ⟨k2 _ _ k1 (fun k hk => hag.block k (k3 k hk).1 fun hfk => ?_) hag.size, k2, fun k hk => ⟨Nat.lt_of_lt_of_le (k3 k hk).1 hag.size, fun x' hx' hxk => ?_⟩⟩
    · obtain ⟨x, hx, hxk⟩ := hf k hfk
      exact (k3 k hk).2 x hx hxk
    · obtain ⟨x, hx, e, _⟩ := forth x' hx'
      exact (k3 k hk).2 x hx (e ▸ hxk)
theorem Hp.changed2 {w0 w w' : World} {L : List HB} {K : List FK} (H : Hp w0 w L K) (i j : Nat) {b c t u : Nat} {vs us : List Value} {f f' : Bool} (hi : L[i]? = some (bx b t vs f)) (hj : L[j]? = some (bx c u us f')) (vs' us' : List Value) (L' : List HB)
    (hL : (L.set i (bx b t vs' f)).set j (bx c u us' f') = L') (hij : i ≠ j) (hag : Agree w w' (fun k => k = b ∨ k = c)) (h1 : Box w' b t vs'.toArray) (h2 : Box w' c u us'.toArray) : Hp w0 w' L' K := by
  subst hL
  refine H.swap _ hag (by simp) (fun n x' hx' => ?_) (fun k hk => ?_)
  · by_cases hn : j = n
    · subst hn
      rw [List.getElem?_set] at hx'
      simp only [List.length_set, (List.getElem?_eq_some_iff.1 hj).1, if_true, Option.some.injEq] at hx'
      subst hx'
      exact ⟨_, hj, rfl, rfl, .inr ⟨h2, bx_ok _ _ _ _⟩⟩
    · rw [List.getElem?_set_ne hn] at hx'
      by_cases hm : i = n
      · subst hm
        rw [List.getElem?_set] at hx'
        simp only [(List.getElem?_eq_some_iff.1 hi).1, if_true, Option.some.injEq] at hx'
        subst hx'
        exact ⟨_, hi, rfl, rfl, .inr ⟨h1, bx_ok _ _ _ _⟩⟩
      · rw [List.getElem?_set_ne hm] at hx'
        refine ⟨x', hx', rfl, rfl, .inl ⟨rfl, fun k hk hk' => ?_⟩⟩
        rcases hk' with rfl | rfl
        · rcases Nat.lt_or_gt_of_ne hm with h | h
          · exact pair_at H.apart hi hx' h k rfl hk
          · exact pair_at H.apart hx' hi h k hk rfl
        · rcases Nat.lt_or_gt_of_ne hn with h | h
          · exact pair_at H.apart hj hx' h k rfl hk
          · exact pair_at H.apart hx' hj h k hk rfl
  · rcases hk with rfl | rfl
    · exact ⟨_, List.mem_of_getElem? hi, rfl⟩
    · exact ⟨_, List.mem_of_getElem? hj, rfl⟩
theorem Hp.agree {w0 w : World} {L : List HB} {K : List FK} (H : Hp w0 w L K) (f : Nat → Prop) (hf : ∀ x ∈ L, x.fresh = true ∨ ∀ k, x.fp k → f k) : Agree w0 w f :=
  ⟨H.os, H.tape, H.output, H.size, fun k hk hn => H.old k hk fun x hx hxk => by
    rcases hf x hx with h | h
    · have := H.fresh x hx h k hxk; omega
    · exact hn (h k hxk)⟩
def putAt : List Value → List Nat → List Int → List Value
  | us, o :: os, z :: zs => putAt (us.set o (.int .i64 z)) os zs
  | us, _, _ => us
theorem putAt_len : ∀ (us : List Value) (os : List Nat) (zs : List Int), (putAt us os zs).length = us.length
  | us, o :: os, z :: zs => by rw [putAt, putAt_len]; simp
  | us, [], _ => by simp [putAt]
  | us, _ :: _, [] => by simp [putAt]
theorem putAt_snoc : ∀ (us : List Value) (os : List Nat) (zs : List Int) {o : Nat} {z : Int}, os[zs.length]? = some o → putAt us os (zs ++ [z]) = (putAt us os zs).set o (.int .i64 z)
  | us, [], _, o, z, h => by simp at h
  | us, o' :: os, [], o, z, h => by simp at h; subst h; cases os <;> rfl
  | us, o' :: os, z' :: zs, o, z, h => by
    simp only [List.cons_append, putAt]
    exact putAt_snoc _ os zs (by simpa using h)
abbrev RdR (α : Type) := Except Int (α × Nat)
def rdN (s : List UInt8) : Nat → Nat → RdR (List Int)
  | 0, k => .ok ([], k)
  | n + 1, k => match rdInt s k with
    | none => .error 10
    | some (z, k1) => match rdN s n k1 with
      | .error e => .error e
      | .ok (l, k2) => .ok (z :: l, k2)
def rdL {α : Type} (el : Nat → RdR α) : Nat → Nat → RdR (List α)
  | 0, k => .ok ([], k)
  | n + 1, k => match el k with
    | .error e => .error e
    | .ok (x, k1) => match rdL el n k1 with
      | .error e => .error e
      | .ok (l, k2) => .ok (x :: l, k2)
def rdC {α : Type} (s : List UInt8) (most : Nat) (el : Nat → RdR α) (k : Nat) : RdR (List α) := match rdInt s k with
  | none => .error 10
  | some (n, k1) => if n < 0 ∨ (most : Int) < n then .error 80 else rdL el n.toNat k1
def rdM {α : Type} (f : List Int → α) (s : List UInt8) (m k : Nat) : RdR α := match rdN s m k with
  | .error e => .error e
  | .ok (l, k1) => .ok (f l, k1)
def altOf (l : List Int) : Int × Int := (l.getD 0 0, l.getD 1 0)
def itOf (l : List Int) : Itm := ⟨l.getD 0 0, l.getD 1 0, l.getD 2 0, l.getD 3 0, l.getD 4 0⟩
def bkOf (l : List Int) : Bkg := ⟨l.getD 0 0, l.getD 1 0, l.getD 2 0, l.getD 3 0, l.getD 4 0, l.getD 5 0, l.getD 6 0⟩
def clOf (l : List Int) : Cls := ⟨l.getD 0 0, l.getD 1 0, l.getD 2 0, l.getD 3 0, l.getD 4 0, l.getD 5 0, l.getD 6 0, l.getD 7 0⟩
def rdEnt (s : List UInt8) (k : Nat) : RdR EnN := match rdN s 6 k with
  | .error e => .error e
  | .ok (l, k1) => match rdC s 7 (rdM altOf s 2) k1 with
    | .error e => .error e
    | .ok (al, k2) => .ok (⟨l.getD 0 0, l.getD 1 0, l.getD 2 0, l.getD 3 0, l.getD 4 0, l.getD 5 0, al⟩, k2)
def rdPl (s : List UInt8) : RdR PlN := match rdN s 4 0 with
  | .error e => .error e
  | .ok (h, k1) => match rdC s 40 (rdM altOf s 2) k1 with
    | .error e => .error e
    | .ok (sh, k2) => match rdN s 4 k2 with
      | .error e => .error e
      | .ok (m, k3) => match rdC s 4000 (rdM itOf s 5) k3 with
        | .error e => .error e
        | .ok (its, k4) => match rdC s 4000 (rdEnt s) k4 with
          | .error e => .error e
          | .ok (es, k5) => match rdC s 2000 (rdM bkOf s 7) k5 with
            | .error e => .error e
            | .ok (bs, k6) => match rdC s 400 (rdM clOf s 8) k6 with
              | .error e => .error e
              | .ok (cs, k7) => .ok (⟨h.getD 0 0, h.getD 1 0, h.getD 2 0, h.getD 3 0, sh, m.getD 0 0, m.getD 1 0, m.getD 2 0, m.getD 3 0, its, es, bs, cs⟩, k7)
def zeroN : PlN := ⟨0, 0, 0, 0, [], 0, 0, 0, 0, [], [], [], []⟩
def decN (s : List UInt8) : PlN × Int := match rdPl s with
  | .error e => (zeroN, e)
  | .ok (v, k) => if k < s.length then (zeroN, 10) else if validN v then (v, 0) else (zeroN, 80)
def pre {α : Type} (l : List α) : RdR (List α) → RdR (List α)
  | .error e => .error e
  | .ok (m, k) => .ok (l ++ m, k)
theorem pre_nil {α : Type} (r : RdR (List α)) : pre [] r = r := by cases r <;> rfl
theorem pre_ok {α : Type} (l : List α) (k : Nat) : pre l (.ok ([], k)) = .ok (l, k) := by simp [pre]
theorem rdN_step {s : List UInt8} {n k k1 : Nat} {z : Int} {l : List Int} (h : rdInt s k = some (z, k1)) : pre l (rdN s (n + 1) k) = pre (l ++ [z]) (rdN s n k1) := by
  simp only [rdN, h]
  cases rdN s n k1 with
  | error e => rfl
  | ok p => simp [pre]
theorem rdN_none {s : List UInt8} {n k : Nat} {l : List Int} (h : rdInt s k = none) : pre l (rdN s (n + 1) k) = .error 10 := by
  simp only [rdN, h, pre]
theorem rdL_step {α : Type} {el : Nat → RdR α} {n k k1 : Nat} {x : α} {l : List α} (h : el k = .ok (x, k1)) : pre l (rdL el (n + 1) k) = pre (l ++ [x]) (rdL el n k1) := by
  simp only [rdL, h]
  cases rdL el n k1 with
  | error e => rfl
  | ok p => simp [pre]
theorem rdL_err {α : Type} {el : Nat → RdR α} {n k : Nat} {e : Int} {l : List α} (h : el k = .error e) : pre l (rdL el (n + 1) k) = .error e := by
  simp only [rdL, h, pre]
theorem rdInt_lt {s : List UInt8} {k e : Nat} {n : Int} (hk : k ≤ s.length) (h : rdInt s k = some (n, e)) : k < e ∧ e ≤ s.length := by
  obtain ⟨_, _, h1, h2, _⟩ := rdInt_canon hk h
  have := (encInt_len n).1
  omega
theorem rdN_len {s : List UInt8} : ∀ {n k k1 : Nat} {l : List Int}, rdN s n k = .ok (l, k1) → l.length = n
  | 0, k, k1, l, h => by simp [rdN] at h; rw [h.1]; rfl
  | n + 1, k, k1, l, h => by
    simp only [rdN] at h
    cases hr : rdInt s k with
    | none => rw [hr] at h; cases h
    | some p =>
      rw [hr] at h
      simp only at h
      cases hm : rdN s n p.2 with
      | error e => rw [hm] at h; cases h
      | ok q =>
        rw [hm] at h
        simp only [Except.ok.injEq, Prod.mk.injEq] at h
        rw [← h.1, List.length_cons, rdN_len hm]
open Go.WideMaps Go.WideElems
def laid2 : List (String × DataW Unit) := [("onair/timecode.rates", Rows.laid_onair_timecode_rates), ("onair/plan.errBytes", Rows.laid_onair_plan_errBytes), ("onair/plan.errPlan", Rows.laid_onair_plan_errPlan)]
theorem gnRates : Tryz.prog.globalNamed "onair/timecode.rates" = some 2 := by kernel_rfl
theorem gnBytes : Tryz.prog.globalNamed "onair/plan.errBytes" = some 0 := by kernel_rfl
theorem gnPlan : Tryz.prog.globalNamed "onair/plan.errPlan" = some 1 := by kernel_rfl
theorem door_met (os : Os) (args : Array Value) : laidMetH Tryz.prog laid2 ((World.doorLaid Tryz.prog 4000 os).forCall (fun _ _ => 0) ⟨#[], args, []⟩).memory :=
  laidMetH_of_parts3 (fuel := 12) (laidMet_of_run' 12 (by kernel_rfl) (by kernel_rfl)) (by kernel_rfl) (by kernel_rfl)
theorem star : "*" ++ "errors.errorString" = "*errors.errorString" := by decide
theorem rowErr (u : TypeId) (h : Tryz.prog.typeName? 3 u = some "*errors.errorString") : u = 212 :=
  typeName_ptr_named (nm := "errors.errorString") (by rw [star]; kernel_rfl) (by kernel_rfl) (by decide) u (by rw [star]; exact h)
theorem int_cell {H : Type} {enc : TypeId × Value → H} {P : Program} {w : World} {base : Nat} {spare : Nat → Bool} {held : Bool} {fuel : Nat} {t : TypeId} {cs : List Value} {x : DataW H × List MemPlace} {k : IntKind} (ht : P.underlying t = some (.int k)) (h : DataW.trod enc P w base spare held fuel t cs = some x) :
    ∃ n, cs = [.int k n] ∧ x.1 = .lit (.int k n) := by
  obtain ⟨n, rfl, rfl, _⟩ := DataW.trod_int ht h
  exact ⟨n, rfl, rfl⟩
theorem seg_get {cs l : List Value} {o n : Nat} (h : (cs.drop o).take n = l) {j : Nat} {v : Value} (hv : l[j]? = some v) : cs[o + j]? = some v := by
  subst h
  have hj : j < n := by
    have := (List.getElem?_eq_some_iff.1 hv).1
    simp at this; omega
  rw [List.getElem?_take_of_lt hj, List.getElem?_drop] at hv
  exact hv
def litI {H : Type} : DataW H → Int
  | .lit (.int _ n) => n
  | _ => 0
def rowI {H : Type} : DataW H → List Int
  | .agg [.agg [a, b], c, d] => [litI a, litI b, litI c, litI d]
  | _ => []
def ofAgg {H : Type} : DataW H → List (DataW H)
  | .agg l => l
  | _ => []
set_option maxRecDepth 100000 in
theorem laid_of {W : World} (h : laidMetH Tryz.prog laid2 W) : ∃ a0 a1, LaidP a0 a1 W := by
  rw [MakeChecks.laidMetH_plain _ _ _ (by kernel_rfl)] at h
  obtain ⟨ps, ⟨g2, t2, cs2, f2, p2, q2, hg2, ht2, hv2, hd2, ⟨g0, t0, cs0, f0, p0, q0, hg0, ht0, hv0, hd0, ⟨g1, t1, cs1, f1, p1, q1, hg1, ht1, hv1, hd1, _, e1⟩, e0⟩, e2⟩, hnd, hrows⟩ := h
  obtain rfl := Option.some.inj (gnRates.symm.trans hg2)
  obtain rfl := Option.some.inj (gnBytes.symm.trans hg0)
  obtain rfl := Option.some.inj (gnPlan.symm.trans hg1)
  obtain rfl := Option.some.inj ((show (Tryz.prog.globals[2]?).map (·.type) = some 200 by kernel_rfl).symm.trans ht2)
  obtain rfl := Option.some.inj ((show (Tryz.prog.globals[0]?).map (·.type) = some 99 by kernel_rfl).symm.trans ht0)
  obtain rfl := Option.some.inj ((show (Tryz.prog.globals[1]?).map (·.type) = some 99 by kernel_rfl).symm.trans ht1)
  subst e1 e0 e2
  obtain ⟨l0⟩ := cs0
  obtain ⟨l1⟩ := cs1
  have ok0 : ∀ u v, l0 = [.iface u v] → Value.okWide Tryz.prog W .any 0 u v := fun u v e => by
    subst e
    exact (hrows 0 0 (by simp [MemPlace.row])).2 u v (by simpa using World.var?_cell hg0 hv0 0)
  have ok1 : ∀ u v, l1 = [.iface u v] → Value.okWide Tryz.prog W .any 0 u v := fun u v e => by
    subst e
    exact (hrows 1 0 (by simp [MemPlace.row])).2 u v (by simpa using World.var?_cell hg1 hv1 0)
  obtain ⟨a0, s0, rfl, hc0, hs0, hz0, rfl⟩ := errorString_of_trod (te := 236) Tryz.underlying99 rowErr Tryz.underlying212 Tryz.underlying236 rfl rfl Tryz.underlying9 (by kernel_rfl) (by kernel_rfl) hd0 ok0
  obtain ⟨a1, s1, rfl, hc1, hs1, hz1, rfl⟩ := errorString_of_trod (te := 236) Tryz.underlying99 rowErr Tryz.underlying212 Tryz.underlying236 rfl rfl Tryz.underlying9 (by kernel_rfl) (by kernel_rfl) hd1 ok1
  obtain ⟨c0, t0, hb0⟩ := (hrows a0.block a0.off (by simp [MemPlace.row])).1
  obtain ⟨c1, t1, hb1⟩ := (hrows a1.block a1.off (by simp [MemPlace.row])).1
  refine ⟨a0, a1, ⟨fun i hi => ?_, by simpa using World.var?_cell hg0 hv0 0, by simpa using World.var?_cell hg1 hv1 0, ?_, ⟨c0, t0, hb0⟩, ⟨c1, t1, hb1⟩⟩⟩
  · obtain ⟨xs0, m0, _, hx0, _, hn0, hel0⟩ := DataW.trod_array (n := 8) (e := 172) (by kernel_rfl) hd2
    rw [show Tryz.prog.cellsOf 172 = 4 by kernel_rfl] at hel0
    have e0 : xs0.map (fun x => rowI x.1) = (ofAgg (Rows.laid_onair_timecode_rates (H := Unit))).map rowI := by
      have := congrArg (fun x => (ofAgg x.1).map rowI) hx0
      simpa [ofAgg, Function.comp_def] using this.symm
    have hr : i / 4 < 8 := by omega
    have hxi : xs0[i / 4]? = some xs0[i / 4] := List.getElem?_eq_getElem (by omega)
    obtain ⟨y0, y1, y2, n', hy, _, h0, h1, h2⟩ := Deep.trod_struct3 Tryz.underlying172 ((hel0 (i / 4) hr).trans hxi)
    obtain ⟨z0, z1, n2, hz, _, k0, k1⟩ := trod_struct2 Tryz.underlying23 h0
    obtain ⟨a, sa, la⟩ := int_cell (k := .i64) Tryz.underlying3 k0
    obtain ⟨b, sb, lb⟩ := int_cell (k := .i64) Tryz.underlying3 k1
    obtain ⟨c, sc, lc⟩ := int_cell (k := .i64) Tryz.underlying3 h1
    obtain ⟨d, sd, ld⟩ := int_cell (k := .i64) Tryz.underlying3 h2
    have a3 := seg_get rfl (seg_get rfl (seg_get sa (j := 0) rfl))
    have b3 := seg_get rfl (seg_get rfl (seg_get sb (j := 0) rfl))
    have c3 := seg_get rfl (seg_get sc (j := 0) rfl)
    have d3 := seg_get rfl (seg_get sd (j := 0) rfl)
    have hl : (xs0.map (fun x => rowI x.1))[i / 4]? = some [a, b, c, d] := by
      rw [List.getElem?_map, hxi, hy, hz]
      simp only [Option.map_some, rowI, la, lb, lc, ld, litI]
    rw [e0] at hl
    have key : ∀ r, r < 8 → ((ofAgg (Rows.laid_onair_timecode_rates (H := Unit))).map rowI)[r]? = some [rateCells.getD (4 * r) 0, rateCells.getD (4 * r + 1) 0, rateCells.getD (4 * r + 2) 0, rateCells.getD (4 * r + 3) 0] := by decide
    rw [key _ hr] at hl
    simp only [Option.some.injEq, List.cons.injEq, and_true] at hl
    obtain ⟨rfl, rfl, rfl, rfl⟩ := hl
    have hv := World.var?_cell hg2 hv2 i
    rw [hv]
    obtain ⟨r, hr2⟩ : ∃ r, i / 4 = r := ⟨_, rfl⟩
    rw [hr2] at a3 b3 c3 d3
    have hi4 : i = 4 * r ∨ i = 4 * r + 1 ∨ i = 4 * r + 2 ∨ i = 4 * r + 3 := by omega
    rw [← Array.getElem?_toList]
    rcases hi4 with rfl | rfl | rfl | rfl
    · refine Eq.trans ?_ a3; congr 1; simp; try omega
    · refine Eq.trans ?_ b3; congr 1; simp; try omega
    · refine Eq.trans ?_ c3; congr 1; simp; try omega
    · refine Eq.trans ?_ d3; congr 1; simp; try omega
  · rintro rfl
    have h2 := (List.nodup_append.1 hnd).2.1
    simp [MemPlace.row] at h2
def KeepC (n₀ n₁ n₂ : Nat) (W W' : World) : Prop := Below n₀ W W' ∧ ∀ (b : Nat) (o : Obj), n₁ ≤ b → W.heap[b]? = some o → (o.isCells = true ∨ n₂ ≤ b) → W'.heap[b]? = some o
theorem KeepC.refl (n₀ n₁ n₂ : Nat) (W : World) : KeepC n₀ n₁ n₂ W W := ⟨Below.refl _ _, fun _ _ _ h _ => h⟩
theorem KeepC.trans {n₀ n₁ n₂ : Nat} {A B C : World} (h : KeepC n₀ n₁ n₂ A B) (k : KeepC n₀ n₁ n₂ B C) : KeepC n₀ n₁ n₂ A C := ⟨h.1.trans k.1, fun b o hb ho hc => k.2 b o hb (h.2 b o hb ho hc) hc⟩
theorem KeepC.put {n₀ n₁ n₂ : Nat} {w : World} (hn : n₀ ≤ w.heap.size) (hn₂ : n₂ = w.heap.size + 2) (W : World) (l : Nat) (o o' : Obj) (hl : w.heap.size ≤ l) (hl2 : l < w.heap.size + 2) (h : W.heap[l]? = some o) (h1 : o.isCells = false) (h2 : o.isWalk = false) : KeepC n₀ n₁ n₂ W (W.putObj l o') :=
  ⟨belowK_b hn W l o o' hl h h1 h2, fun b o2 _ hb hc => by
    refine (World.putObj_heap_other ?_).trans hb
    intro e
    subst e
    rcases hc with hc | hc
    · rw [h] at hb
      cases hb
      rw [h1] at hc
      cases hc
    · omega⟩
theorem KeepC.below {n₀ n₁ n₂ : Nat} {W W' : World} (h : Below W.heap.size W W') (hn : n₀ ≤ W.heap.size) : KeepC n₀ n₁ n₂ W W' :=
  ⟨h.mono hn, fun b o _ ho _ => (h.block b (Array.getElem?_eq_some_iff.1 ho).1).trans ho⟩
theorem KeepC.set {n₀ n₁ n₂ : Nat} (W : World) {b i : Nat} (v : Value) (h0 : n₀ ≤ b) (h1 : b < n₁) : KeepC n₀ n₁ n₂ W (W.setCell ⟨b, i, none⟩ v) :=
  ⟨(Below.refl _ _).setCell h0 _, fun b' o hb ho _ => (Below.heap_setCell W ⟨b, i, none⟩ v b' (by show b' ≠ b; omega)).trans ho⟩
theorem KeepC.mono {n₀ n₁ n₂ m₁ m₂ : Nat} {W W' : World} (h : KeepC n₀ n₁ n₂ W W') (hm : n₁ ≤ m₁) (hm2 : n₂ ≤ m₂) : KeepC n₀ m₁ m₂ W W' := ⟨h.1, fun b o hb ho hc => h.2 b o (Nat.le_trans hm hb) ho (hc.imp id (Nat.le_trans hm2))⟩
theorem KeepC.box {n₀ n₁ n₂ : Nat} {W W' : World} (h : KeepC n₀ n₁ n₂ W W') {b : Nat} {t : TypeId} {vs : Array Value} (hb : n₁ ≤ b) (hx : Box W b t vs) : Box W' b t vs := h.2 b _ hb hx (.inl rfl)
theorem KeepC.from {n₀ n₁ n₂ B : Nat} {W W' : World} (h : KeepC n₀ n₁ n₂ W W') (h1 : n₁ ≤ B) (h2 : n₂ ≤ B) : KeepsFrom B W W' := ⟨h.1.size, fun k o hk ho _ => h.2 k o (by omega) ho (.inr (by omega))⟩
theorem OwnFrom.imp {β : Type} {B B' : Nat} {I : β → World → Prop} (h : OwnFrom B I) (hb : B ≤ B') : OwnFrom B' I := fun s W W' row hs hg hr => h s W W' row hs hg (fun r e => ⟨Nat.le_trans hb (hr r e).1, (hr r e).2⟩)
theorem OwnFrom.at {β γ : Type} {B : Nat} {I : β → World → Prop} (h : OwnFrom B I) (s : β) : OwnFrom B (fun (_ : γ) W => I s W) := fun _ W W' row hs hg hr => h s W W' row hs hg hr
theorem OwnFrom.below {β : Type} {B : Nat} {I : β → World → Prop} (h : OwnFrom B I) {s : β} {W W' : World} (hs : I s W) (hb : Below W.heap.size W W') : I s W' :=
  h s W W' none hs ⟨hb.os, hb.tape, hb.output, hb.size, fun k hk _ => hb.block k hk⟩ (fun r e => by cases e)
theorem byteCells_len (s : List UInt8) : (Lib.byteCells s).length = s.length := by simp [Lib.byteCells]
def over (l : List UInt8) (o : Nat) (s : List UInt8) : List UInt8 := l.take o ++ s ++ l.drop (o + s.length)
end Go.Proofs.YteeillphhiaopaaGreatDoor
