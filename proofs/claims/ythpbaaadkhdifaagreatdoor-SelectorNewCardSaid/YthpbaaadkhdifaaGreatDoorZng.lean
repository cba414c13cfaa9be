/- The statement SelectorNew: for every input the law returns true and leaves its arguments as they were. No condition. -/
import Derived.Deep.Slices
import Derived.Deep.Fields
import Derived.ChangeSame
import Derived.ChangeArms
import Derived.SizedLaws
import Derived.Test.YthpbaaadkhdifaaGreatDoorCards
import Derived.Test.YthpbaaadkhdifaaGreatDoorTie
import Derived.WalkKit
import Derived.ProofKit
import Derived.OpenShut
import Derived.ShutString
import Derived.ChangeOld
import Derived.Below
import Derived.SevenTiedAt
import Derived.Test.YthpbaaadkhdifaaGreatDoorZnf
namespace Go.Proofs.YthpbaaadkhdifaaGreatDoor
set_option maxRecDepth 100000
set_option maxHeartbeats 4000000
open Go.ChangeShapes Go.WideShapes Go.ChangeAt Go.RowKit Go.Shelf
set_option linter.unusedVariables false
set_option linter.unusedSimpArgs false
theorem Hp.startB {w : World} {b : Nat} {t : TypeId} {cs : Array Value} (h : Box w b t cs) : Hp w w [] [] := Hp.start w
def tgK (bm b3 b1 : Nat) (LA : Option Addr) (lc : Nat) : FK := ⟨fun k => k = bm ∨ k = b3 ∨ k = b1, fun w => MapAt w bm [] ∧ Box w b3 255 [.map (some bm)].toArray ∧ Box w b1 25 [.slice LA 1 lc].toArray⟩
theorem tgK_ok {bm b3 b1 : Nat} {LA : Option Addr} {lc : Nat} : (tgK bm b3 b1 LA lc).ok := fun w1 w2 h hk hs => ⟨mapB_ok bm [] true w1 w2 h.1 (fun k hx => hk k (.inl hx)) hs, (hk b3 (.inr (.inl rfl))).trans h.2.1, (hk b1 (.inr (.inr rfl))).trans h.2.2⟩
theorem tgK_lt {bm b3 b1 : Nat} {LA : Option Addr} {lc : Nat} {w : World} {t3 t1 : TypeId} {c3 c1 : Array Value} (hm : MapAt w bm []) (h3 : Box w b3 t3 c3) (h1 : Box w b1 t1 c1) {k : Nat} (hk : (tgK bm b3 b1 LA lc).fp k) : k < w.heap.size := by
 rcases hk with rfl | rfl | rfl
 ·exact hm.lt
 ·exact h3.lt
 ·exact h1.lt
theorem tgK_ge {bm b3 b1 : Nat} {LA : Option Addr} {lc n : Nat} (hm : n ≤ bm) (h3 : n ≤ b3) (h1 : n ≤ b1) {k : Nat} (hk : (tgK bm b3 b1 LA lc).fp k) : n ≤ k := by
 rcases hk with rfl | rfl | rfl <;> assumption
theorem begun_seq5 (n be b2 b3 : Nat) (w : World) (h2 : Box w b2 101 [(.slice (some ⟨be, 0, none⟩) 1 1)].toArray) (h3 : Box w b3 3 [.int .i64 5].toArray) (hev : Box w be 100 [(.int .i64 1), (.int .i64 7), (.int .i64 5), (.int .i64 2), (.int .i64 0), (.int .i64 3), (.slice none 0 0)].toArray) :
  SeqO Fence.wide n Tryz.prog 150 #[.pointer (some ⟨b2, 0, none⟩), .pointer (some ⟨b3, 0, none⟩)] (fun _ : Unit => #[.int .i64 7, .int .i64 1]) (fun _ _ => True) (fun ys => ys = [()]) (fun _ => True) 1 w := fun l J Jx W hW _ hJ hJx hY h0 =>
 callsIn_wide.2 ((begun1_5 be b2 b3 W (h2.next hW) (h3.next hW) (hev.next hW) (n - 1) l J Jx hJ h0 (fun pre x W1 hj hl => by
  obtain ⟨fn, tm, asg, bo, hy, hR⟩ := hY pre x W1 hj hl
  refine ⟨fn, tm, asg, bo, hy, hR.mono fun e W' h => ?_⟩
  rcases h with ⟨rfl, h1, h2⟩ | ⟨rfl, h1, h2⟩
  ·exact ⟨true, rfl, fun _ => h1, fun h => (by cases h)⟩
  ·exact ⟨false, rfl, fun h => (by cases h), fun _ => h1⟩)).mono fun e W' h => ⟨h.1, h.2.imp (fun h => ⟨[()], rfl, h⟩) fun h => ⟨[()], trivial, h⟩⟩)
theorem begun_seq6 (n be b2 b3 : Nat) (w : World) (h2 : Box w b2 101 [(.slice (some ⟨be, 0, none⟩) 1 1)].toArray) (h3 : Box w b3 3 [.int .i64 6].toArray) (hev : Box w be 100 [(.int .i64 1), (.int .i64 7), (.int .i64 5), (.int .i64 2), (.int .i64 0), (.int .i64 3), (.slice none 0 0)].toArray) :
  SeqO Fence.wide n Tryz.prog 150 #[.pointer (some ⟨b2, 0, none⟩), .pointer (some ⟨b3, 0, none⟩)] (fun _ : Unit => #[.int .i64 7, .int .i64 2]) (fun _ _ => True) (fun ys => ys = [()]) (fun _ => True) 1 w := fun l J Jx W hW _ hJ hJx hY h0 =>
 callsIn_wide.2 ((begun1_6 be b2 b3 W (h2.next hW) (h3.next hW) (hev.next hW) (n - 1) l J Jx hJ h0 (fun pre x W1 hj hl => by
  obtain ⟨fn, tm, asg, bo, hy, hR⟩ := hY pre x W1 hj hl
  refine ⟨fn, tm, asg, bo, hy, hR.mono fun e W' h => ?_⟩
  rcases h with ⟨rfl, h1, h2⟩ | ⟨rfl, h1, h2⟩
  ·exact ⟨true, rfl, fun _ => h1, fun h => (by cases h)⟩
  ·exact ⟨false, rfl, fun h => (by cases h), fun _ => h1⟩)).mono fun e W' h => ⟨h.1, h.2.imp (fun h => ⟨[()], rfl, h⟩) fun h => ⟨[()], trivial, h⟩⟩)
theorem pgain_5 (be lc pc : Nat) (LA PA : Option Addr) (w : World) (hev : Box w be 100 [(ii 1), (ii 7), (ii 5), (ii 2), (ii 0), (ii 3), (.slice none 0 0)].toArray) (hlib : IsAsts w LA 1 (libS PA pc)) :
  Calls Tryz.prog 58 #[(.agg #[(ii 0), (ii 0), (ii 0), (ii 0), (.slice none 0 0), (ii 0), (ii 0), (ii 0), (ii 0), (.slice none 0 0), (.slice none 0 0), (.slice none 0 0), (.slice none 0 0), (.slice (some ⟨be, 0, none⟩) 1 1), (.slice none 0 0), (ii 0), (.slice none 0 0), (ii 2)]), (.slice LA 1 lc), .int .i64 5] w fun e w' => e = .returned (ii 1000) ∧ Below w.heap.size w w' := by
 have HP := Hp.start w
 refine w_enterM 26 [(0, (.agg #[(ii 0), (ii 0), (ii 0), (ii 0), (.slice none 0 0), (ii 0), (ii 0), (ii 0), (ii 0), (.slice none 0 0), (.slice none 0 0), (.slice none 0 0), (.slice none 0 0), (.slice (some ⟨be, 0, none⟩) 1 1), (.slice none 0 0), (ii 0), (.slice none 0 0), (ii 2)])), (1, (.slice LA 1 lc)), (2, (ii 5))] Tryz.func58 rfl Tryz.ntmps58 (by kernel_rfl) (by kernel_rfl) fun a H => ?_
 refine zsq (zrg ?_)
 refine H.al HP 3 104 [(ii 0), (ii 0), (ii 0), (ii 0), (.slice none 0 0), (ii 0), (ii 0), (ii 0), (ii 0), (.slice none 0 0), (.slice none 0 0), (.slice none 0 0), (.slice none 0 0), (.slice (some ⟨be, 0, none⟩) 1 1), (.slice none 0 0), (ii 0), (.slice none 0 0), (ii 2)] fun b_1 w_2 a H HP => ?_
 refine H.ge HP [(6, (ii 0))] [] fun a H => ?_
 refine ztn (zsq (zrg ?_))
 refine H.go HP 1 [(12, (.slice LA 1 lc))] [] fun a H => ?_
 have hbT := HP.bl.size
 refine H.cl 13 (Tryz.call93 _ _) (targets_any LA lc w_2) ?_
 rintro e w_3 ⟨bm, b3, b1, rfl, hm, h3, h1, n3, n1, hsm, hs3, hs1, hbt⟩
 refine ⟨_, rfl, ?_⟩
 intro a H
 have HP := (HP.next hbt).keepF (tgK bm b3 b1 LA lc) ⟨hm, h3, h1⟩ tgK_ok (fun k hk => ⟨tgK_lt hm h3 h1 hk, (HP.apart_new (tgK_ge hsm hs3 hs1 hk)).1⟩)
 refine H.al HP 7 71 [.nilFunc] fun b_4 w_5 a H HP => H.sh HP 0 0 (.func (.func 145) #[] #[(pt b3 0), (pt b1 0)]) rfl fun w_6 a H HP => ?_
 refine znl (ztn (zsq (zrg ?_)))
 refine H.al HP 8 3 [(ii 0)] fun b_7 w_8 a H HP => H.sh HP 0 0 (ii 1000) rfl fun w_9 a H HP => ?_
 refine znl (ztn (zsq (zrg ?_)))
 refine H.go HP 1 [(14, (.func (.func 94) #[] #[(pt b_7 0), (pt b_4 0)]))] [] fun a H => H.al HP 9 192 [.nilFunc] fun b_10 w_11 a H HP => H.sh HP 0 0 (.func (.func 94) #[] #[(pt b_7 0), (pt b_4 0)]) rfl fun w_12 a H HP => ?_
 refine znl (ztn (zsq (zsq (zrg ?_))))
 refine H.go HP 3 [(16, (.slice (some ⟨be, 0, none⟩) 1 1)), (17, (ii 5))] [3] fun a H => ?_
 refine H.cl 18 (Tryz.call96 _ _) (begun_any be 5 w_12) ?_
 rintro e w_13 ⟨b2, bk, rfl, h2, hk3, hbg⟩
 refine ⟨_, rfl, ?_⟩
 intro a H
 have HP := HP.next hbg
 refine znl (ztn (zbk ?_))
 have hfun : a.eval (.tmp 18) = (.func (.func 150) #[] #[(pt b2 0), (pt bk 0)]) := H.eval (by kernel_rfl)
 have hbelW := HP.bl
 have htg := (HP.fact 0 rfl)
 have h8 := HP.at_ 1 rfl
 have h7 := HP.at_ 2 rfl
 have h9 := HP.at_ 0 rfl
 have hb8 := HP.fresh _ (List.mem_of_getElem? (show ([bx b_10 192 [(.func (.func 94) #[] #[(pt b_7 0), (pt b_4 0)])] true, bx b_7 3 [(ii 1000)] true, bx b_4 71 [(.func (.func 145) #[] #[(pt b3 0), (pt b1 0)])] true, bx b_1 104 [(ii 0), (ii 0), (ii 0), (ii 0), (.slice none 0 0), (ii 0), (ii 0), (ii 0), (ii 0), (.slice none 0 0), (.slice none 0 0), (.slice none 0 0), (.slice none 0 0), (.slice (some ⟨be, 0, none⟩) 1 1), (.slice none 0 0), (ii 0), (.slice none 0 0), (ii 2)] true] : List HB)[1]? = some _ from rfl)) rfl _ rfl
 have n78 := HP.ne 2 1 rfl rfl (by decide)
 have n8 : b_7 ≠ bm := fun e => ((HP.kept _ (List.mem_of_getElem? (show ([tgK bm b3 b1 LA lc] : List FK)[0]? = some _ from rfl))).2.2 bm (.inl rfl)).2 _ (List.mem_of_getElem? (show ([bx b_10 192 [(.func (.func 94) #[] #[(pt b_7 0), (pt b_4 0)])] true, bx b_7 3 [(ii 1000)] true, bx b_4 71 [(.func (.func 145) #[] #[(pt b3 0), (pt b1 0)])] true, bx b_1 104 [(ii 0), (ii 0), (ii 0), (ii 0), (.slice none 0 0), (ii 0), (ii 0), (ii 0), (ii 0), (.slice none 0 0), (.slice none 0 0), (.slice none 0 0), (.slice none 0 0), (.slice (some ⟨be, 0, none⟩) 1 1), (.slice none 0 0), (ii 0), (.slice none 0 0), (ii 2)] true] : List HB)[1]? = some _ from rfl)) e.symm
 have n7 : b_4 ≠ bm := fun e => ((HP.kept _ (List.mem_of_getElem? (show ([tgK bm b3 b1 LA lc] : List FK)[0]? = some _ from rfl))).2.2 bm (.inl rfl)).2 _ (List.mem_of_getElem? (show ([bx b_10 192 [(.func (.func 94) #[] #[(pt b_7 0), (pt b_4 0)])] true, bx b_7 3 [(ii 1000)] true, bx b_4 71 [(.func (.func 145) #[] #[(pt b3 0), (pt b1 0)])] true, bx b_1 104 [(ii 0), (ii 0), (ii 0), (ii 0), (.slice none 0 0), (ii 0), (ii 0), (ii 0), (ii 0), (.slice none 0 0), (.slice none 0 0), (.slice none 0 0), (.slice none 0 0), (.slice (some ⟨be, 0, none⟩) 1 1), (.slice none 0 0), (ii 0), (.slice none 0 0), (ii 2)] true] : List HB)[2]? = some _ from rfl)) e.symm
 have n38 : b3 ≠ b_7 := fun e => ((HP.kept _ (List.mem_of_getElem? (show ([tgK bm b3 b1 LA lc] : List FK)[0]? = some _ from rfl))).2.2 b3 (.inr (.inl rfl))).2 _ (List.mem_of_getElem? (show ([bx b_10 192 [(.func (.func 94) #[] #[(pt b_7 0), (pt b_4 0)])] true, bx b_7 3 [(ii 1000)] true, bx b_4 71 [(.func (.func 145) #[] #[(pt b3 0), (pt b1 0)])] true, bx b_1 104 [(ii 0), (ii 0), (ii 0), (ii 0), (.slice none 0 0), (ii 0), (ii 0), (ii 0), (ii 0), (.slice none 0 0), (.slice none 0 0), (.slice none 0 0), (.slice none 0 0), (.slice (some ⟨be, 0, none⟩) 1 1), (.slice none 0 0), (ii 0), (.slice none 0 0), (ii 2)] true] : List HB)[1]? = some _ from rfl)) e
 have n18 : b1 ≠ b_7 := fun e => ((HP.kept _ (List.mem_of_getElem? (show ([tgK bm b3 b1 LA lc] : List FK)[0]? = some _ from rfl))).2.2 b1 (.inr (.inr rfl))).2 _ (List.mem_of_getElem? (show ([bx b_10 192 [(.func (.func 94) #[] #[(pt b_7 0), (pt b_4 0)])] true, bx b_7 3 [(ii 1000)] true, bx b_4 71 [(.func (.func 145) #[] #[(pt b3 0), (pt b1 0)])] true, bx b_1 104 [(ii 0), (ii 0), (ii 0), (ii 0), (.slice none 0 0), (ii 0), (ii 0), (ii 0), (ii 0), (.slice none 0 0), (.slice none 0 0), (.slice none 0 0), (.slice none 0 0), (.slice (some ⟨be, 0, none⟩) 1 1), (.slice none 0 0), (ii 0), (.slice none 0 0), (ii 2)] true] : List HB)[1]? = some _ from rfl)) e
 obtain ⟨tgm, tg3, tg1⟩ := htg
 have hl8 : ¬ libFp LA (libS PA pc) b_7 := fun h => by have := IsAsts.lt hlib h; omega
 have hlm : ¬ libFp LA (libS PA pc) bm := fun h => by have := IsAsts.lt hlib h; omega
 have hbm : w.heap.size ≤ bm := by omega
 have hl8s := h8.lt
 have hlms := tgm.lt
 have H := H.keep (L' := [(9, (pt b_10 0)), (8, (pt b_7 0))]) (by kernel_rfl)
 clear HP
 refine (wpIn_wide (n := 20)).1 ?_
 refine wpIn_range1 (F := Fence.wide) rfl (by omega) (gf := 150) (lb := #[(pt b2 0), (pt bk 0)]) hfun trivial (enters_of Tryz.func150 (by kernel_rfl) rfl) (begun_seq5 19 be b2 bk w_13 h2 hk3 (hev.next hbelW)) rfl
  (fun W => Box W b_7 3 [.int .i64 1000].toArray ∧ Below w.heap.size w W) (fun _ _ => False) (OwnFrom.and (box_own _ _ _ (fun _ => _)) (ownFrom_below (Nat.le_refl _) hbelW.size)) (fun _ => ownFrom_pure _ _) (fun a' _ => Sl 26 [(10, .int .i64 7), (11, .int .i64 1), (9, (pt b_10 0)), (8, (pt b_7 0))] a') (fun _ => ownFrom_pure _ _) ?assign ?body ?done (fun _ _ _ _ h => h.elim)
 case assign =>
  intro l' W K hK
  have H := H.assigned2 19 20 (ii 7) (ii 1) (by kernel_rfl) (by kernel_rfl)
  have HP := Hp.start W
  refine wpIn_seq ?_
  refine w_regionF ?_
  refine H.ge HP [(10, (ii 7))] [] fun a H => ?_
  refine ztn ?_
  refine w_regionF ?_
  refine H.ge HP [(11, (ii 1))] [] fun a H => ?_
  exact hK _ _ (Below.refl _ _) (H.keep (by kernel_rfl))
 case body =>
  intro l' a W hbW H
  have HP := Hp.start W
  have hbWs := hbW.size
  refine wpIn_block ?_
  refine w_regionF ?_
  refine H.u 21 (.func (.func 94) #[] #[(pt b_7 0), (pt b_4 0)]) (ex_l1 ((h9.next hbW).cell (i := 0) rfl)) fun a H => H.go HP 2 [(22, (ii 7)), (23, (ii 1))] [] fun a H => ?_
  refine H.cl 24 (Tryz.call94 _ _) (gain1_any 1 b_7 b_4 bm b3 b1 lc pc LA PA W (h8.next hbW) (h7.next hbW) n8 n78 n7 n38 n18 hl8 (tgm.next hbW) (tg3.next hbW) (tg1.next hbW) n3 n1 (IsAsts.below (IsAsts.below hlib hbelW) hbW) hlm) ?_
  rintro e w_14 ⟨⟨rv, rfl⟩, hx8, hag⟩
  refine ⟨_, rfl, ?_⟩
  intro a H
  have HP := Hp.startB hx8
  refine znl (zibn ?_)
  exact ⟨⟨hag.size, fun k o hk ho hc => (hag.block k (Array.getElem?_eq_some_iff.1 ho).1 (fun e => by rcases e with e | e <;> omega)).trans ho⟩, hx8, hbelW.trans (hbW.mono hbelW.size) |>.trans ⟨hag.os, hag.tape, hag.output, hag.size, fun k hk => hag.block k (Nat.lt_of_lt_of_le hk (Nat.le_trans hbelW.size hbW.size)) (fun e => by rcases e with e | e <;> omega)⟩⟩
 case done =>
  rintro D W hD ⟨hx8, hbl⟩ hdef
  rw [moreD_of _ H.defers]
  have HP := (Hp.start w).gain hbl (bx b_7 3 [.int .i64 1000] true) hx8 (bx_ok _ _ _ _) (fun k hk => by cases hk; exact hx8.lt) (fun k hk => by cases hk; exact hb8)
  refine zibn (ztn (zsq ?_))
  refine w_regionM ?_
  refine H.ge HP [(6, (ii 1000))] [0] fun a H => ?_
  refine ztn (zrt ?_)
  have hd2 : W.heap[D]? = some (.deferred (some [])) := hdef
  have hfin : Below w.heap.size w W := HP.bl
  have hout : Below w.heap.size w (W.putObj D (.deferred none)) := hfin.trans (belowK_b (w := w) (Nat.le_refl _) _ D _ _ (by have := hbelW.size; omega) hd2 rfl rfl)
  refine H.ret1D hd2 (fn := Tryz.f58) Tryz.results58 (RV.tmp_ (v := (ii 1000)) (by kernel_rfl)) ?_
  exact ⟨rfl, hout⟩
theorem pgain_6 (be lc pc : Nat) (LA PA : Option Addr) (w : World) (hev : Box w be 100 [(ii 1), (ii 7), (ii 5), (ii 2), (ii 0), (ii 3), (.slice none 0 0)].toArray) (hlib : IsAsts w LA 1 (libS PA pc)) :
  Calls Tryz.prog 58 #[(.agg #[(ii 0), (ii 0), (ii 0), (ii 0), (.slice none 0 0), (ii 0), (ii 0), (ii 0), (ii 0), (.slice none 0 0), (.slice none 0 0), (.slice none 0 0), (.slice none 0 0), (.slice (some ⟨be, 0, none⟩) 1 1), (.slice none 0 0), (ii 0), (.slice none 0 0), (ii 2)]), (.slice LA 1 lc), .int .i64 6] w fun e w' => e = .returned (ii 1000) ∧ Below w.heap.size w w' := by
 have HP := Hp.start w
 refine w_enterM 26 [(0, (.agg #[(ii 0), (ii 0), (ii 0), (ii 0), (.slice none 0 0), (ii 0), (ii 0), (ii 0), (ii 0), (.slice none 0 0), (.slice none 0 0), (.slice none 0 0), (.slice none 0 0), (.slice (some ⟨be, 0, none⟩) 1 1), (.slice none 0 0), (ii 0), (.slice none 0 0), (ii 2)])), (1, (.slice LA 1 lc)), (2, (ii 6))] Tryz.func58 rfl Tryz.ntmps58 (by kernel_rfl) (by kernel_rfl) fun a H => ?_
 refine zsq (zrg ?_)
 refine H.al HP 3 104 [(ii 0), (ii 0), (ii 0), (ii 0), (.slice none 0 0), (ii 0), (ii 0), (ii 0), (ii 0), (.slice none 0 0), (.slice none 0 0), (.slice none 0 0), (.slice none 0 0), (.slice (some ⟨be, 0, none⟩) 1 1), (.slice none 0 0), (ii 0), (.slice none 0 0), (ii 2)] fun b_1 w_2 a H HP => ?_
 refine H.ge HP [(6, (ii 0))] [] fun a H => ?_
 refine ztn (zsq (zrg ?_))
 refine H.go HP 1 [(12, (.slice LA 1 lc))] [] fun a H => ?_
 have hbT := HP.bl.size
 refine H.cl 13 (Tryz.call93 _ _) (targets_any LA lc w_2) ?_
 rintro e w_3 ⟨bm, b3, b1, rfl, hm, h3, h1, n3, n1, hsm, hs3, hs1, hbt⟩
 refine ⟨_, rfl, ?_⟩
 intro a H
 have HP := (HP.next hbt).keepF (tgK bm b3 b1 LA lc) ⟨hm, h3, h1⟩ tgK_ok (fun k hk => ⟨tgK_lt hm h3 h1 hk, (HP.apart_new (tgK_ge hsm hs3 hs1 hk)).1⟩)
 refine H.al HP 7 71 [.nilFunc] fun b_4 w_5 a H HP => H.sh HP 0 0 (.func (.func 145) #[] #[(pt b3 0), (pt b1 0)]) rfl fun w_6 a H HP => ?_
 refine znl (ztn (zsq (zrg ?_)))
 refine H.al HP 8 3 [(ii 0)] fun b_7 w_8 a H HP => H.sh HP 0 0 (ii 1000) rfl fun w_9 a H HP => ?_
 refine znl (ztn (zsq (zrg ?_)))
 refine H.go HP 1 [(14, (.func (.func 94) #[] #[(pt b_7 0), (pt b_4 0)]))] [] fun a H => H.al HP 9 192 [.nilFunc] fun b_10 w_11 a H HP => H.sh HP 0 0 (.func (.func 94) #[] #[(pt b_7 0), (pt b_4 0)]) rfl fun w_12 a H HP => ?_
 refine znl (ztn (zsq (zsq (zrg ?_))))
 refine H.go HP 3 [(16, (.slice (some ⟨be, 0, none⟩) 1 1)), (17, (ii 6))] [3] fun a H => ?_
 refine H.cl 18 (Tryz.call96 _ _) (begun_any be 6 w_12) ?_
 rintro e w_13 ⟨b2, bk, rfl, h2, hk3, hbg⟩
 refine ⟨_, rfl, ?_⟩
 intro a H
 have HP := HP.next hbg
 refine znl (ztn (zbk ?_))
 have hfun : a.eval (.tmp 18) = (.func (.func 150) #[] #[(pt b2 0), (pt bk 0)]) := H.eval (by kernel_rfl)
 have hbelW := HP.bl
 have htg := (HP.fact 0 rfl)
 have h8 := HP.at_ 1 rfl
 have h7 := HP.at_ 2 rfl
 have h9 := HP.at_ 0 rfl
 have hb8 := HP.fresh _ (List.mem_of_getElem? (show ([bx b_10 192 [(.func (.func 94) #[] #[(pt b_7 0), (pt b_4 0)])] true, bx b_7 3 [(ii 1000)] true, bx b_4 71 [(.func (.func 145) #[] #[(pt b3 0), (pt b1 0)])] true, bx b_1 104 [(ii 0), (ii 0), (ii 0), (ii 0), (.slice none 0 0), (ii 0), (ii 0), (ii 0), (ii 0), (.slice none 0 0), (.slice none 0 0), (.slice none 0 0), (.slice none 0 0), (.slice (some ⟨be, 0, none⟩) 1 1), (.slice none 0 0), (ii 0), (.slice none 0 0), (ii 2)] true] : List HB)[1]? = some _ from rfl)) rfl _ rfl
 have n78 := HP.ne 2 1 rfl rfl (by decide)
 have n8 : b_7 ≠ bm := fun e => ((HP.kept _ (List.mem_of_getElem? (show ([tgK bm b3 b1 LA lc] : List FK)[0]? = some _ from rfl))).2.2 bm (.inl rfl)).2 _ (List.mem_of_getElem? (show ([bx b_10 192 [(.func (.func 94) #[] #[(pt b_7 0), (pt b_4 0)])] true, bx b_7 3 [(ii 1000)] true, bx b_4 71 [(.func (.func 145) #[] #[(pt b3 0), (pt b1 0)])] true, bx b_1 104 [(ii 0), (ii 0), (ii 0), (ii 0), (.slice none 0 0), (ii 0), (ii 0), (ii 0), (ii 0), (.slice none 0 0), (.slice none 0 0), (.slice none 0 0), (.slice none 0 0), (.slice (some ⟨be, 0, none⟩) 1 1), (.slice none 0 0), (ii 0), (.slice none 0 0), (ii 2)] true] : List HB)[1]? = some _ from rfl)) e.symm
 have n7 : b_4 ≠ bm := fun e => ((HP.kept _ (List.mem_of_getElem? (show ([tgK bm b3 b1 LA lc] : List FK)[0]? = some _ from rfl))).2.2 bm (.inl rfl)).2 _ (List.mem_of_getElem? (show ([bx b_10 192 [(.func (.func 94) #[] #[(pt b_7 0), (pt b_4 0)])] true, bx b_7 3 [(ii 1000)] true, bx b_4 71 [(.func (.func 145) #[] #[(pt b3 0), (pt b1 0)])] true, bx b_1 104 [(ii 0), (ii 0), (ii 0), (ii 0), (.slice none 0 0), (ii 0), (ii 0), (ii 0), (ii 0), (.slice none 0 0), (.slice none 0 0), (.slice none 0 0), (.slice none 0 0), (.slice (some ⟨be, 0, none⟩) 1 1), (.slice none 0 0), (ii 0), (.slice none 0 0), (ii 2)] true] : List HB)[2]? = some _ from rfl)) e.symm
 have n38 : b3 ≠ b_7 := fun e => ((HP.kept _ (List.mem_of_getElem? (show ([tgK bm b3 b1 LA lc] : List FK)[0]? = some _ from rfl))).2.2 b3 (.inr (.inl rfl))).2 _ (List.mem_of_getElem? (show ([bx b_10 192 [(.func (.func 94) #[] #[(pt b_7 0), (pt b_4 0)])] true, bx b_7 3 [(ii 1000)] true, bx b_4 71 [(.func (.func 145) #[] #[(pt b3 0), (pt b1 0)])] true, bx b_1 104 [(ii 0), (ii 0), (ii 0), (ii 0), (.slice none 0 0), (ii 0), (ii 0), (ii 0), (ii 0), (.slice none 0 0), (.slice none 0 0), (.slice none 0 0), (.slice none 0 0), (.slice (some ⟨be, 0, none⟩) 1 1), (.slice none 0 0), (ii 0), (.slice none 0 0), (ii 2)] true] : List HB)[1]? = some _ from rfl)) e
 have n18 : b1 ≠ b_7 := fun e => ((HP.kept _ (List.mem_of_getElem? (show ([tgK bm b3 b1 LA lc] : List FK)[0]? = some _ from rfl))).2.2 b1 (.inr (.inr rfl))).2 _ (List.mem_of_getElem? (show ([bx b_10 192 [(.func (.func 94) #[] #[(pt b_7 0), (pt b_4 0)])] true, bx b_7 3 [(ii 1000)] true, bx b_4 71 [(.func (.func 145) #[] #[(pt b3 0), (pt b1 0)])] true, bx b_1 104 [(ii 0), (ii 0), (ii 0), (ii 0), (.slice none 0 0), (ii 0), (ii 0), (ii 0), (ii 0), (.slice none 0 0), (.slice none 0 0), (.slice none 0 0), (.slice none 0 0), (.slice (some ⟨be, 0, none⟩) 1 1), (.slice none 0 0), (ii 0), (.slice none 0 0), (ii 2)] true] : List HB)[1]? = some _ from rfl)) e
 obtain ⟨tgm, tg3, tg1⟩ := htg
 have hl8 : ¬ libFp LA (libS PA pc) b_7 := fun h => by have := IsAsts.lt hlib h; omega
 have hlm : ¬ libFp LA (libS PA pc) bm := fun h => by have := IsAsts.lt hlib h; omega
 have hbm : w.heap.size ≤ bm := by omega
 have hl8s := h8.lt
 have hlms := tgm.lt
 have H := H.keep (L' := [(9, (pt b_10 0)), (8, (pt b_7 0))]) (by kernel_rfl)
 clear HP
 refine (wpIn_wide (n := 20)).1 ?_
 refine wpIn_range1 (F := Fence.wide) rfl (by omega) (gf := 150) (lb := #[(pt b2 0), (pt bk 0)]) hfun trivial (enters_of Tryz.func150 (by kernel_rfl) rfl) (begun_seq6 19 be b2 bk w_13 h2 hk3 (hev.next hbelW)) rfl
  (fun W => Box W b_7 3 [.int .i64 1000].toArray ∧ Below w.heap.size w W) (fun _ _ => False) (OwnFrom.and (box_own _ _ _ (fun _ => _)) (ownFrom_below (Nat.le_refl _) hbelW.size)) (fun _ => ownFrom_pure _ _) (fun a' _ => Sl 26 [(10, .int .i64 7), (11, .int .i64 2), (9, (pt b_10 0)), (8, (pt b_7 0))] a') (fun _ => ownFrom_pure _ _) ?assign ?body ?done (fun _ _ _ _ h => h.elim)
 case assign =>
  intro l' W K hK
  have H := H.assigned2 19 20 (ii 7) (ii 2) (by kernel_rfl) (by kernel_rfl)
  have HP := Hp.start W
  refine wpIn_seq ?_
  refine w_regionF ?_
  refine H.ge HP [(10, (ii 7))] [] fun a H => ?_
  refine ztn ?_
  refine w_regionF ?_
  refine H.ge HP [(11, (ii 2))] [] fun a H => ?_
  exact hK _ _ (Below.refl _ _) (H.keep (by kernel_rfl))
 case body =>
  intro l' a W hbW H
  have HP := Hp.start W
  have hbWs := hbW.size
  refine wpIn_block ?_
  refine w_regionF ?_
  refine H.u 21 (.func (.func 94) #[] #[(pt b_7 0), (pt b_4 0)]) (ex_l1 ((h9.next hbW).cell (i := 0) rfl)) fun a H => H.go HP 2 [(22, (ii 7)), (23, (ii 2))] [] fun a H => ?_
  refine H.cl 24 (Tryz.call94 _ _) (gain1_any 2 b_7 b_4 bm b3 b1 lc pc LA PA W (h8.next hbW) (h7.next hbW) n8 n78 n7 n38 n18 hl8 (tgm.next hbW) (tg3.next hbW) (tg1.next hbW) n3 n1 (IsAsts.below (IsAsts.below hlib hbelW) hbW) hlm) ?_
  rintro e w_14 ⟨⟨rv, rfl⟩, hx8, hag⟩
  refine ⟨_, rfl, ?_⟩
  intro a H
  have HP := Hp.startB hx8
  refine znl (zibn ?_)
  exact ⟨⟨hag.size, fun k o hk ho hc => (hag.block k (Array.getElem?_eq_some_iff.1 ho).1 (fun e => by rcases e with e | e <;> omega)).trans ho⟩, hx8, hbelW.trans (hbW.mono hbelW.size) |>.trans ⟨hag.os, hag.tape, hag.output, hag.size, fun k hk => hag.block k (Nat.lt_of_lt_of_le hk (Nat.le_trans hbelW.size hbW.size)) (fun e => by rcases e with e | e <;> omega)⟩⟩
 case done =>
  rintro D W hD ⟨hx8, hbl⟩ hdef
  rw [moreD_of _ H.defers]
  have HP := (Hp.start w).gain hbl (bx b_7 3 [.int .i64 1000] true) hx8 (bx_ok _ _ _ _) (fun k hk => by cases hk; exact hx8.lt) (fun k hk => by cases hk; exact hb8)
  refine zibn (ztn (zsq ?_))
  refine w_regionM ?_
  refine H.ge HP [(6, (ii 1000))] [0] fun a H => ?_
  refine ztn (zrt ?_)
  have hd2 : W.heap[D]? = some (.deferred (some [])) := hdef
  have hfin : Below w.heap.size w W := HP.bl
  have hout : Below w.heap.size w (W.putObj D (.deferred none)) := hfin.trans (belowK_b (w := w) (Nat.le_refl _) _ D _ _ (by have := hbelW.size; omega) hd2 rfl rfl)
  refine H.ret1D hd2 (fn := Tryz.f58) Tryz.results58 (RV.tmp_ (v := (ii 1000)) (by kernel_rfl)) ?_
  exact ⟨rfl, hout⟩
theorem origin_any (be : Nat) (w : World) :
  Calls Tryz.prog 60 #[(.agg #[(ii 0), (ii 0), (ii 0), (ii 0), (.slice none 0 0), (ii 0), (ii 0), (ii 0), (ii 0), (.slice none 0 0), (.slice none 0 0), (.slice none 0 0), (.slice none 0 0), (.slice (some ⟨be, 0, none⟩) 1 1), (.slice none 0 0), (ii 0), (.slice none 0 0), (ii 2)]), (.agg #[(ii 1), (ii 7), (ii 5), (ii 2), (ii 0), (ii 3), (.slice none 0 0)])] w fun e w' => e = .returned (ii 5) ∧ Below w.heap.size w w' := by
 have HP := Hp.start w
 refine w_enter 26 [(0, (.agg #[(ii 0), (ii 0), (ii 0), (ii 0), (.slice none 0 0), (ii 0), (ii 0), (ii 0), (ii 0), (.slice none 0 0), (.slice none 0 0), (.slice none 0 0), (.slice none 0 0), (.slice (some ⟨be, 0, none⟩) 1 1), (.slice none 0 0), (ii 0), (.slice none 0 0), (ii 2)])), (1, (.agg #[(ii 1), (ii 7), (ii 5), (ii 2), (ii 0), (ii 3), (.slice none 0 0)]))] Tryz.func60 rfl Tryz.ntmps60 (by kernel_rfl) (by kernel_rfl) fun a H => ?_
 refine zsq (zrg ?_)
 refine H.al HP 2 104 [(ii 0), (ii 0), (ii 0), (ii 0), (.slice none 0 0), (ii 0), (ii 0), (ii 0), (ii 0), (.slice none 0 0), (.slice none 0 0), (.slice none 0 0), (.slice none 0 0), (.slice (some ⟨be, 0, none⟩) 1 1), (.slice none 0 0), (ii 0), (.slice none 0 0), (ii 2)] fun b_1 w_2 a H HP => H.al HP 3 100 [(ii 1), (ii 7), (ii 5), (ii 2), (ii 0), (ii 3), (.slice none 0 0)] fun b_3 w_4 a H HP => ?_
 refine H.ge HP [(4, (ii 0))] [] fun a H => ?_
 refine ztn (zsq (zsq (zrg ?_)))
 refine H.ge HP [(5, (pt b_3 4)), (6, (ii 0)), (15, (.bool false))] [0] fun a H => ?_
 refine ztn ?_
 refine w_iff H rfl ?_
 refine zsk (ztn (zsq (zrg ?_)))
 refine H.go HP 4 [(19, (ii 5)), (21, (ii 0))] [0, 0] fun a H => H.valE 22 (ii (IntKind.i64.wrap (5 - 0))) (ii 5) (by kernel_rfl) (by kernel_rfl) (by kernel_rfl) fun a H => H.go HP 2 [(24, (ii 0))] [1] fun a H => H.v 25 (ii 5) fun a H => ?_
 refine H.ge HP [(4, (ii 5))] [] fun a H => ?_
 refine ztn (zrt ?_)
 refine H.r1 (ii 5) Tryz.results60 ?_
 exact ⟨rfl, HP.bl⟩
theorem oevents_any (be : Nat) (w : World) :
  Calls Tryz.prog 99 #[(.slice (some ⟨be, 0, none⟩) 1 1)] w fun e w' => ∃ b, e = .returned (.func (.func 154) #[] #[.pointer (some ⟨b, 0, none⟩)]) ∧ Box w' b 101 [(.slice (some ⟨be, 0, none⟩) 1 1)].toArray ∧ Below w.heap.size w w' := by
 have HP := Hp.start w
 refine w_enter 4 [(0, (.slice (some ⟨be, 0, none⟩) 1 1))] Tryz.func99 rfl Tryz.ntmps99 (by kernel_rfl) (by kernel_rfl) fun a H => ?_
 refine zsq (zrg ?_)
 refine H.al HP 1 101 [(.slice (some ⟨be, 0, none⟩) 1 1)] fun b_1 w_2 a H HP => ?_
 refine H.ge HP [(2, .nilFunc)] [] fun a H => ?_
 refine ztn (zsq (zrg ?_))
 refine H.ge HP [(3, (.func (.func 154) #[] #[(pt b_1 0)])), (2, (.func (.func 154) #[] #[(pt b_1 0)]))] [] fun a H => ?_
 refine ztn (zrt ?_)
 refine H.r1 (.func (.func 154) #[] #[(pt b_1 0)]) Tryz.results99 ?_
 exact ⟨b_1, rfl, HP.at_ 0 rfl, HP.bl⟩
theorem optionals_any (be : Nat) (w : World) :
  Calls Tryz.prog 104 #[(.slice (some ⟨be, 0, none⟩) 1 1)] w fun e w' => ∃ b, e = .returned (.func (.func 155) #[] #[.pointer (some ⟨b, 0, none⟩)]) ∧ Box w' b 101 [(.slice (some ⟨be, 0, none⟩) 1 1)].toArray ∧ Below w.heap.size w w' := by
 have HP := Hp.start w
 refine w_enter 4 [(0, (.slice (some ⟨be, 0, none⟩) 1 1))] Tryz.func104 rfl Tryz.ntmps104 (by kernel_rfl) (by kernel_rfl) fun a H => ?_
 refine zsq (zrg ?_)
 refine H.al HP 1 101 [(.slice (some ⟨be, 0, none⟩) 1 1)] fun b_1 w_2 a H HP => ?_
 refine H.ge HP [(2, .nilFunc)] [] fun a H => ?_
 refine ztn (zsq (zrg ?_))
 refine H.ge HP [(3, (.func (.func 155) #[] #[(pt b_1 0)])), (2, (.func (.func 155) #[] #[(pt b_1 0)]))] [] fun a H => ?_
 refine ztn (zrt ?_)
 refine H.r1 (.func (.func 155) #[] #[(pt b_1 0)]) Tryz.results104 ?_
 exact ⟨b_1, rfl, HP.at_ 0 rfl, HP.bl⟩
theorem oevents1_any (be b1 : Nat) (w : World) (h1 : Box w b1 101 [(.slice (some ⟨be, 0, none⟩) 1 1)].toArray) (hev : Box w be 100 [(ii 1), (ii 7), (ii 5), (ii 2), (ii 0), (ii 3), (.slice none 0 0)].toArray) (m l : Nat) (J Jx : List Unit → World → Prop) (hJo : OwnFrom w.heap.size J) (h0 : J [] w) (hY : ∀ pre x W1, J pre W1 → pre.length < 1 → YieldAt Fence.wide m Tryz.prog l #[(.agg #[(ii 1), (ii 7), (ii 5), (ii 2), (ii 0), (ii 3), (.slice none 0 0)])] W1 fun e W' => ∃ b, e = .returned (.bool b) ∧ (b = true → J (pre ++ [x]) W') ∧ (b = false → Jx (pre ++ [x]) W')) :
  Calls Tryz.prog 154 #[(.func (.yield l) #[] #[]), (pt b1 0)] w fun e w' => (∃ v, e = .returned v) ∧ (J [()] w' ∨ Jx [()] w') := by
 have HP := (((Hp.start w).keepF (boxK be 100 [(ii 1), (ii 7), (ii 5), (ii 2), (ii 0), (ii 3), (.slice none 0 0)]) hev (boxK_ok _ _ _) (fun k hk => ⟨boxK_lt hev hk, fun x hx => by cases hx⟩)).keepF (boxK b1 101 [(.slice (some ⟨be, 0, none⟩) 1 1)]) h1 (boxK_ok _ _ _) (fun k hk => ⟨boxK_lt h1 hk, fun x hx => by cases hx⟩))
 refine w_enter 35 [(0, (.func (.yield l) #[] #[])), (1, (pt b1 0))] Tryz.func154 rfl Tryz.ntmps154 (by kernel_rfl) (by kernel_rfl) fun a H => ?_
 refine zsq (zrg ?_)
 refine H.u 5 (.slice (some ⟨be, 0, none⟩) 1 1) (ex_l1 (Box.cell (i := 0) (HP.fact 0 rfl : Box _ b1 101 _) rfl)) fun a H => ?_
 refine H.ge HP [(6, (ii 1)), (7, (ii 0))] [] fun a H => ?_
 refine ztn (zbk ?_)
 refine w_loop (fun mm a wv => (mm = 1 ∧ Sl 35 [(7, .int .i64 0), (0, (.func (.yield l) #[] #[])), (5, (.slice (some ⟨be, 0, none⟩) 1 1)), (6, (ii 1))] a ∧ Hp w wv [] [boxK b1 101 [(.slice (some ⟨be, 0, none⟩) 1 1)], boxK be 100 [(ii 1), (ii 7), (ii 5), (ii 2), (ii 0), (ii 3), (.slice none 0 0)]]) ∨ (mm = 0 ∧ Sl 35 [(7, .int .i64 1), (0, (.func (.yield l) #[] #[])), (5, (.slice (some ⟨be, 0, none⟩) 1 1)), (6, (ii 1))] a ∧ J [()] wv)) 1 (.inl ⟨rfl, H.keep (by kernel_rfl), HP⟩) ?_
 rintro mm a w_1 (⟨rfl, H, HP⟩ | ⟨rfl, H, hJ1⟩)
 ·refine zsq (zrg ?_)
  refine H.ge HP [(8, (.bool true))] [] fun a H => ?_
  refine ztn (zsq ?_)
  refine w_ift H rfl ?_
  refine zsk (ztn (zsq (zbk (zsq (zrg ?_)))))
  refine H.v 9 (pt be 0) fun a H => H.u 10 (.agg #[(ii 1), (ii 7), (ii 5), (ii 2), (ii 0), (ii 3), (.slice none 0 0)]) (ex_lN [(ii 1), (ii 7), (ii 5), (ii 2), (ii 0), (ii 3), (.slice none 0 0)] (boxCells (HP.fact 1 rfl : Box _ be 100 _))) fun a H => H.al HP 4 100 [(ii 0), (ii 0), (ii 0), (ii 0), (ii 0), (ii 0), (.slice none 0 0)] fun b_2 w_3 a H HP => H.sh HP 0 0 (.agg #[(ii 1), (ii 7), (ii 5), (ii 2), (ii 0), (ii 3), (.slice none 0 0)]) rfl fun w_4 a H HP => ?_
  refine znl (ztn (zsq (zsq (zrg ?_))))
  refine H.ge HP [(28, (.bool false))] [0, 0, 0, 0] fun a H => ?_
  refine ztn ?_
  refine w_iff H rfl ?_
  refine zsk (ztn (zsq ?_))
  refine w_regionI (m + 1) ?_
  refine H.valI 29 (.func (.yield l) #[] #[]) (by kernel_rfl) (by kernel_rfl) fun a H => ?_
  refine H.valI 30 (.agg #[(ii 1), (ii 7), (ii 5), (ii 2), (ii 0), (ii 3), (.slice none 0 0)]) (by kernel_rfl) (ex_lN [(ii 1), (ii 7), (ii 5), (ii 2), (ii 0), (ii 3), (.slice none 0 0)] (HP.cells 0 rfl 0 7 (by kernel_rfl))) fun a H => ?_
  refine H.valI 31 (.agg #[(ii 1), (ii 7), (ii 5), (ii 2), (ii 0), (ii 3), (.slice none 0 0)]) (by kernel_rfl) (by kernel_rfl) fun a H => ?_
  refine H.callY 32 (l := l) (by kernel_rfl) (by kernel_rfl) (hY [] () _ (OwnFrom.below hJo h0 HP.bl) (by decide)) ?_
  rintro e w_5 ⟨bb, rfl, hjt, hjf⟩
  refine ⟨_, rfl, ?_⟩
  intro a H
  have HP := Hp.start w_5
  refine H.valI 33 (.bool (!bb)) (by kernel_rfl) (by kernel_rfl) fun a H => ?_
  refine wpListIn_nil ?_
  refine ztn ?_
  refine w_if H rfl (fun g33 => ?_) (fun g33 => ?_)
  ·have g33p := not_is_true g33
   refine zrt (zibr (ztr (ztr (zibr ?_))))
   refine H.ret0 (fn := Tryz.f154) Tryz.results154  ?_
   exact ⟨⟨_, rfl⟩, .inr (hjf g33p)⟩
  have g33p := not_is_false g33
  refine zsk (zibn (ztn (zrg ?_)))
  refine H.valE 34 (ii (IntKind.i64.wrap (0 + 1))) (ii 1) (by kernel_rfl) (by kernel_rfl) (by kernel_rfl) fun a H => ?_
  refine H.ge HP [(7, (ii 1))] [] fun a H => ?_
  refine ztn ?_
  exact ⟨0, by omega, .inr ⟨rfl, H.keep (by kernel_rfl), hjt g33p⟩⟩
 have HP := Hp.start w_1
 refine zsq (zrg ?_)
 refine H.ge HP [(8, (.bool false))] [] fun a H => ?_
 refine ztn (zsq ?_)
 refine w_iff H rfl ?_
 refine wp_exit (then_exit (then_exit ?_))
 refine w_exit_here ?_
 refine H.end0 (fn := Tryz.f154) Tryz.results154  ?_
 exact ⟨⟨_, rfl⟩, .inl hJ1⟩
theorem runs_5 (w : World) :
  Calls Tryz.prog 100 #[(.agg #[(ii 1), (ii 7), (ii 5), (ii 2), (ii 0), (ii 3), (.slice none 0 0)]), .int .i64 5] w fun e w' => e = .returned (.bool true) ∧ Below w.heap.size w w' := by
 have HP := Hp.start w
 refine w_enter 21 [(0, (.agg #[(ii 1), (ii 7), (ii 5), (ii 2), (ii 0), (ii 3), (.slice none 0 0)])), (1, (ii 5))] Tryz.func100 rfl Tryz.ntmps100 (by kernel_rfl) (by kernel_rfl) fun a H => ?_
 refine zsq (zrg ?_)
 refine H.al HP 2 203 [(ii 1), (ii 7), (ii 5), (ii 2), (ii 0), (ii 3), (.slice none 0 0)] fun b_1 w_2 a H HP => ?_
 refine H.ge HP [(4, (.bool false))] [] fun a H => ?_
 refine ztn (zsq (zrg ?_))
 refine H.go HP 13 [(5, (pt b_1 0)), (6, (pt b_1 2)), (10, (.bool true)), (11, (ii 5)), (14, (ii 5)), (17, (ii 2))] [0, 0, 0] fun a H => H.valE 18 (ii (IntKind.i64.wrap (5 + 2))) (ii 7) (by kernel_rfl) (by kernel_rfl) (by kernel_rfl) fun a H => ?_
 refine H.ge HP [(4, (.bool true))] [] fun a H => ?_
 refine ztn (zrt ?_)
 refine H.r1 (.bool true) Tryz.results100 ?_
 exact ⟨rfl, HP.bl⟩
theorem runs_6 (w : World) :
  Calls Tryz.prog 100 #[(.agg #[(ii 1), (ii 7), (ii 5), (ii 2), (ii 0), (ii 3), (.slice none 0 0)]), .int .i64 6] w fun e w' => e = .returned (.bool true) ∧ Below w.heap.size w w' := by
 have HP := Hp.start w
 refine w_enter 21 [(0, (.agg #[(ii 1), (ii 7), (ii 5), (ii 2), (ii 0), (ii 3), (.slice none 0 0)])), (1, (ii 6))] Tryz.func100 rfl Tryz.ntmps100 (by kernel_rfl) (by kernel_rfl) fun a H => ?_
 refine zsq (zrg ?_)
 refine H.al HP 2 203 [(ii 1), (ii 7), (ii 5), (ii 2), (ii 0), (ii 3), (.slice none 0 0)] fun b_1 w_2 a H HP => ?_
 refine H.ge HP [(4, (.bool false))] [] fun a H => ?_
 refine ztn (zsq (zrg ?_))
 refine H.go HP 13 [(5, (pt b_1 0)), (6, (pt b_1 2)), (10, (.bool true)), (11, (ii 6)), (14, (ii 5)), (17, (ii 2))] [0, 0, 0] fun a H => H.valE 18 (ii (IntKind.i64.wrap (5 + 2))) (ii 7) (by kernel_rfl) (by kernel_rfl) (by kernel_rfl) fun a H => ?_
 refine H.ge HP [(4, (.bool true))] [] fun a H => ?_
 refine ztn (zrt ?_)
 refine H.r1 (.bool true) Tryz.results100 ?_
 exact ⟨rfl, HP.bl⟩
theorem popt_any (w : World) :
  Calls Tryz.prog 101 #[(.agg #[(ii 1), (ii 7), (ii 5), (ii 2), (ii 0), (ii 3), (.slice none 0 0)])] w fun e w' => e = .returned (.tuple #[(.agg #[(ii 5), (ii 2), (.slice none 0 0)]), .bool false]) ∧ Below w.heap.size w w' := by
 have HP := Hp.start w
 refine w_enter 37 [(0, (.agg #[(ii 1), (ii 7), (ii 5), (ii 2), (ii 0), (ii 3), (.slice none 0 0)]))] Tryz.func101 rfl Tryz.ntmps101 (by kernel_rfl) (by kernel_rfl) fun a H => ?_
 refine zsq (zrg ?_)
 refine H.al HP 1 203 [(ii 1), (ii 7), (ii 5), (ii 2), (ii 0), (ii 3), (.slice none 0 0)] fun b_1 w_2 a H HP => H.al HP 2 74 [(ii 0), (ii 0), (.slice none 0 0)] fun b_3 w_4 a H HP => ?_
 refine H.ge HP [(3, (.bool false))] [] fun a H => ?_
 refine ztn (zsq (zsq (zrg ?_)))
 refine H.ge HP [(5, (pt b_1 0)), (14, (.bool false))] [1, 1] fun a H => ?_
 refine ztn ?_
 refine w_iff H rfl ?_
 refine zsk (ztn (zsq (zrg ?_)))
 refine H.go HP 6 [(18, (ii 5)), (21, (ii 0))] [1, 1] fun a H => H.valE 22 (ii (IntKind.i64.wrap (5 - 0))) (ii 5) (by kernel_rfl) (by kernel_rfl) (by kernel_rfl) fun a H => H.go HP 6 [(25, (ii 2)), (28, (ii 0))] [1, 1] fun a H => H.valE 29 (ii (IntKind.i64.wrap (2 + 0))) (ii 2) (by kernel_rfl) (by kernel_rfl) (by kernel_rfl) fun a H => H.go HP 4 [(33, (.agg #[(ii 5), (ii 2), (.slice none 0 0)]))] [1] fun a H => H.al HP 4 74 [(ii 0), (ii 0), (.slice none 0 0)] fun b_5 w_6 a H HP => H.sh HP 0 0 (.agg #[(ii 5), (ii 2), (.slice none 0 0)]) rfl fun w_7 a H HP => ?_
 refine znl (ztn (zsq ?_))
 have HP := HP.front 1 rfl _ rfl
 refine An.start (fun v => Hp w v [bx b_5 74 [(ii 5), (ii 2), (.slice none 0 0)] true, bx b_1 203 [(ii 1), (ii 7), (ii 5), (ii 2), (ii 0), (ii 3), (.slice none 0 0)] true] []) 5 5 HP wide_follows rfl fun w_8 HP => ?_
 refine An.go H (.inr ((HP.tail rfl))) 3 [0, 1] [(34, (.agg #[(ii 5), (ii 2), (.slice none 0 0)])), (35, (.agg #[(ii 5), (ii 2), (.slice none 0 0)]))] [0, 0] fun a H => ?_
 refine An.one 2 (by kernel_rfl) ?_
 refine Op.call H 36 rfl (by kernel_rfl) (Eq.trans (by kernel_rfl : _ = (callFunc 84 #[(.agg #[(ii 5), (ii 2), (.slice none 0 0)])]).run Tryz.prog w_8) (Tryz.call84 _ _)) (valid_any 5 2 none 0 0 [] w_8 (alts_nil _ _)) ?_
 rintro e w_9 ⟨rfl, hb⟩
 refine ⟨_, rfl, ?_⟩
 intro a H
 have HP := HP.next hb
 refine ⟨.inr ((HP.tail rfl)), ?_⟩
 refine An.one 3 (by kernel_rfl) ?_
 refine Op.sh H HP 0 0 (.agg #[(ii 5), (ii 2), (.slice none 0 0)]) rfl rfl fun w_10 a H HP => ?_
 refine ⟨.inr ((HP.tail rfl)), ?_⟩
 refine An.go H (.inr ((HP.tail rfl))) 0 [4] [(3, (.bool false))] [] fun a H => ?_
 refine An.done (by kernel_rfl) ?_
 refine ztn (zrt ?_)
 refine H.ret2 (fn := Tryz.f101) Tryz.results101 (RV.cellN (vs := [(ii 5), (ii 2), (.slice none 0 0)]) (b := b_3) (off := 0) (k := 3) (by kernel_rfl) (by kernel_rfl) (by kernel_rfl) rfl (HP.cells 0 rfl 0 3 (by kernel_rfl))) (RV.tmp_ (v := (.bool false)) (by kernel_rfl)) ?_
 exact ⟨rfl, HP.bl⟩
theorem oevents_seq (n be b1 : Nat) (w : World) (h1 : Box w b1 101 [(.slice (some ⟨be, 0, none⟩) 1 1)].toArray) (hev : Box w be 100 [(.int .i64 1), (.int .i64 7), (.int .i64 5), (.int .i64 2), (.int .i64 0), (.int .i64 3), (.slice none 0 0)].toArray) :
  SeqO Fence.wide n Tryz.prog 154 #[.pointer (some ⟨b1, 0, none⟩)] (fun _ : Unit => #[(.agg #[(.int .i64 1), (.int .i64 7), (.int .i64 5), (.int .i64 2), (.int .i64 0), (.int .i64 3), (.slice none 0 0)])]) (fun _ _ => True) (fun ys => ys = [()]) (fun _ => True) 1 w := fun l J Jx W hW _ hJ hJx hY h0 =>
 callsIn_wide.2 ((oevents1_any be b1 W (h1.next hW) (hev.next hW) (n - 1) l J Jx hJ h0 (fun pre x W1 hj hl => by
  obtain ⟨fn, tm, asg, bo, hy, hR⟩ := hY pre x W1 hj hl
  refine ⟨fn, tm, asg, bo, hy, hR.mono fun e W' h => ?_⟩
  rcases h with ⟨rfl, h1, h2⟩ | ⟨rfl, h1, h2⟩
  ·exact ⟨true, rfl, fun _ => h1, fun h => (by cases h)⟩
  ·exact ⟨false, rfl, fun h => (by cases h), fun _ => h1⟩)).mono fun e W' h => ⟨h.1, h.2.imp (fun h => ⟨[()], rfl, h⟩) fun h => ⟨[()], trivial, h⟩⟩)
def plA (n t d : Nat) (a : Act) (W : World) : Prop := ∃ b, Box W b t [(.int .i64 1), (.int .i64 7), (.int .i64 5), (.int .i64 2), (.int .i64 0), (.int .i64 3), (.slice none 0 0)].toArray ∧ Sl n [(d, .pointer (some ⟨b, 0, none⟩))] a
theorem plA_own {B n t d : Nat} (a : Act) : OwnFrom B (fun (_ : Unit) W => plA n t d a W) := OwnFrom.ex fun b => OwnFrom.and (box_own _ _ _ (fun _ => _)) (ownFrom_pure _ _)
theorem optionals1_any (l be b1 : Nat) (w : World) (h1 : Box w b1 101 [(.slice (some ⟨be, 0, none⟩) 1 1)].toArray) (hev : Box w be 100 [(ii 1), (ii 7), (ii 5), (ii 2), (ii 0), (ii 3), (.slice none 0 0)].toArray) :
  Calls Tryz.prog 155 #[(.func (.yield l) #[] #[]), (pt b1 0)] w fun e w' => (∃ v, e = .returned v) ∧ Below w.heap.size w w' := by
 have HP := (((Hp.start w).keepF (boxK be 100 [(ii 1), (ii 7), (ii 5), (ii 2), (ii 0), (ii 3), (.slice none 0 0)]) hev (boxK_ok _ _ _) (fun k hk => ⟨boxK_lt hev hk, fun x hx => by cases hx⟩)).keepF (boxK b1 101 [(.slice (some ⟨be, 0, none⟩) 1 1)]) h1 (boxK_ok _ _ _) (fun k hk => ⟨boxK_lt h1 hk, fun x hx => by cases hx⟩))
 refine w_enterM 23 [(0, (.func (.yield l) #[] #[])), (1, (pt b1 0))] Tryz.func155 rfl Tryz.ntmps155 (by kernel_rfl) (by kernel_rfl) fun a H => ?_
 refine zsq (zrg ?_)
 refine H.al HP 2 265 [(.func (.yield l) #[] #[])] fun b_1 w_2 a H HP => ?_
 refine znl (ztn (zsq (zrg ?_)))
 refine H.u 6 (.slice (some ⟨be, 0, none⟩) 1 1) (ex_l1 (Box.cell (i := 0) (HP.fact 0 rfl : Box _ b1 101 _) rfl)) fun a H => ?_
 refine H.cl 7 (Tryz.call99 _ _) (oevents_any be w_2) ?_
 rintro e w_3 ⟨b5, rfl, h5, hb⟩
 refine ⟨_, rfl, ?_⟩
 intro a H
 have HP := HP.next hb
 refine znl (ztn (zbk ?_))
 have hfun : a.eval (.tmp 7) = (.func (.func 154) #[] #[(pt b5 0)]) := H.eval (by kernel_rfl)
 have hbelW := HP.bl
 clear HP
 refine (wpIn_wide (n := 20)).1 ?_
 refine wpIn_range1 (F := Fence.wide) rfl (by omega) (gf := 154) (lb := #[(pt b5 0)]) hfun trivial (enters_of Tryz.func154 (by kernel_rfl) rfl) (oevents_seq 19 be b5 w_3 h5 (hev.next hbelW)) rfl
  (fun W => Below w.heap.size w W) (fun _ _ => False) (ownFrom_below (Nat.le_refl _) hbelW.size) (fun _ => ownFrom_pure _ _) (plA 23 203 3) (fun a' => plA_own a') ?assign ?body ?done (fun _ _ _ _ h => h.elim)
 case assign =>
  intro l' W K hK
  have H := H.assigned 8 (.agg #[(ii 1), (ii 7), (ii 5), (ii 2), (ii 0), (ii 3), (.slice none 0 0)]) (by kernel_rfl)
  have HP := Hp.start W
  refine w_regionF ?_
  refine H.al HP 3 203 [(ii 0), (ii 0), (ii 0), (ii 0), (ii 0), (ii 0), (.slice none 0 0)] fun b_4 w_5 a H HP => H.sh HP 0 0 (.agg #[(ii 1), (ii 7), (ii 5), (ii 2), (ii 0), (ii 3), (.slice none 0 0)]) rfl fun w_6 a H HP => ?_
  refine znl ?_
  exact hK _ _ HP.bl ⟨b_4, HP.at_ 0 rfl, H.keep (by kernel_rfl)⟩
 case body =>
  rintro l' a W hbW ⟨b3, hx3, H⟩
  have HP := (Hp.start W).keepF (boxK b3 203 [(ii 1), (ii 7), (ii 5), (ii 2), (ii 0), (ii 3), (.slice none 0 0)]) hx3 (boxK_ok _ _ _) (fun k hk => ⟨boxK_lt hx3 hk, fun x hx => by cases hx⟩)
  refine wpIn_block ?_
  refine wpIn_seq ?_
  refine w_regionF ?_
  refine H.u 10 (.agg #[(ii 1), (ii 7), (ii 5), (ii 2), (ii 0), (ii 3), (.slice none 0 0)]) (ex_lN [(ii 1), (ii 7), (ii 5), (ii 2), (ii 0), (ii 3), (.slice none 0 0)] (boxCells (HP.fact 0 rfl : Box _ b3 203 _))) fun a H => H.cb HP 11 (Tryz.call101 _ _) (popt_any W) fun w_7 hb a H HP => H.go HP 3 [(12, (.agg #[(ii 5), (ii 2), (.slice none 0 0)])), (13, (.bool false))] [] fun a H => H.al HP 4 74 [(ii 0), (ii 0), (.slice none 0 0)] fun b_8 w_9 a H HP => H.sh HP 0 0 (.agg #[(ii 5), (ii 2), (.slice none 0 0)]) rfl fun w_10 a H HP => ?_
  refine H.ge HP [(5, (.bool false))] [] fun a H => ?_
  refine ztn ?_
  refine wpIn_seq ?_
  refine w_regionF ?_
  refine H.ge HP [(22, (.bool false))] [] fun a H => ?_
  refine ztn ?_
  refine w_iffF H rfl ?_
  refine wpIn_skip ?_
  refine zibn ?_
  have hbl := HP.bl
  exact ⟨keepsFrom_below hbl, (hbelW.trans (hbW.mono hbelW.size)).trans (hbl.mono (Nat.le_trans hbelW.size hbW.size))⟩
 case done =>
  rintro D W hD hbl hdef
  rw [moreD_of _ H.defers]
  have HP := (Hp.start w).next hbl
  refine zibn ?_
  have hout : Below w.heap.size w (W.putObj D (.deferred none)) := hbl.trans (belowK_b (w := w) (Nat.le_refl _) _ D _ _ (by have := hbelW.size; omega) hdef rfl rfl)
  exact H.ret0D hdef (fn := Tryz.f155) Tryz.results155 ⟨⟨_, rfl⟩, hout⟩
def nextX (w : World) (b4 b3 k : Nat) (c : Code) (W : World) : Prop := c = .exit 0 ∧ Hp w W [bx b4 74 [.int .i64 0, .int .i64 0, .slice none 0 0] true, bx b3 3 [.int .i64 ((k : Nat) : Int)] true] []
theorem nextX_own {w : World} {B b4 b3 k : Nat} {c : Code} (hB : w.heap.size ≤ B) : OwnFrom B (fun (_ : Unit) W => nextX w b4 b3 k c W) := fun s W W' row ⟨h0, H⟩ hg hr =>
 ⟨h0, Hp.own_ hB (fun x hx => by simp only [List.mem_cons, List.not_mem_nil, or_false] at hx; rcases hx with rfl | rfl <;> exact bx_cells _ _ _ _) (fun p hp => by cases hp) () W W' row H hg hr⟩
def plB (n t d b3 : Nat) (a : Act) (W : World) : Prop := ∃ b, Box W b t [(.int .i64 1), (.int .i64 7), (.int .i64 5), (.int .i64 2), (.int .i64 0), (.int .i64 3), (.slice none 0 0)].toArray ∧ Sl n [(d, .pointer (some ⟨b, 0, none⟩)), (3, .pointer (some ⟨b3, 0, none⟩))] a
theorem plB_own {B n t d b3 : Nat} (a : Act) : OwnFrom B (fun (_ : Unit) W => plB n t d b3 a W) := OwnFrom.ex fun b => OwnFrom.and (box_own _ _ _ (fun _ => _)) (ownFrom_pure _ _)
theorem Hp.keepD {w0 W : World} {L : List HB} {K : List FK} {D : Nat} {o : Obj} (H : Hp w0 W L K) (hc : ∀ x ∈ L, x.cellsIn) (hd : W.heap[D]? = some o) (ho : o.isCells = false) : Hp w0 W L (keepB W D :: K) :=
 H.keepF (keepB W D) ⟨Nat.le_refl _, rfl⟩ (keepB_ok W D) fun k hk => by
  cases hk
  refine ⟨(Array.getElem?_eq_some_iff.1 hd).1, fun x hx hxk => ?_⟩
  obtain ⟨o', ho', hoc⟩ := hc x hx W (H.res x hx).1 D hxk
  rw [hd] at ho'; cases ho'; rw [ho] at hoc; cases hoc
theorem moreD_of2 {a : Act} (d e : Deferred) (h : a.defers = []) : ({ moreD [e] a with defers := d :: (moreD [e] a).defers } : Act) = moreD [d, e] a := by simp [moreD, h]
theorem box_putObj {w : World} {b t D : Nat} {cs : Array Value} {x : Option (List Deferred)} {o' : Obj} (h : Box w b t cs) (hd : w.heap[D]? = some (.deferred x)) : Box (w.putObj D o') b t cs := by
 have hne : b ≠ D := fun e => by subst e; rw [show w.heap[b]? = _ from h] at hd; cases hd
 exact (World.putObj_heap_other hne).trans h
theorem next_5 (be : Nat) (w : World) (hev : Box w be 100 [(ii 1), (ii 7), (ii 5), (ii 2), (ii 0), (ii 3), (.slice none 0 0)].toArray) :
  Calls Tryz.prog 61 #[(.slice (some ⟨be, 0, none⟩) 1 1), .int .i64 5] w fun e w' => ∃ OB oc, e = .returned (.agg #[.int .i64 0, .int .i64 0, .slice OB 0 oc]) ∧ Below w.heap.size w w' := by
 have HP := ((Hp.start w).keepF (boxK be 100 [(ii 1), (ii 7), (ii 5), (ii 2), (ii 0), (ii 3), (.slice none 0 0)]) hev (boxK_ok _ _ _) (fun k hk => ⟨boxK_lt hev hk, fun x hx => by cases hx⟩))
 refine w_enterM 48 [(0, (.slice (some ⟨be, 0, none⟩) 1 1)), (1, (ii 5))] Tryz.func61 rfl Tryz.ntmps61 (by kernel_rfl) (by kernel_rfl) fun a H => ?_
 refine zsq (zrg ?_)
 refine H.al HP 3 3 [(ii 5)] fun b_1 w_2 a H HP => H.al HP 4 74 [(ii 0), (ii 0), (.slice none 0 0)] fun b_3 w_4 a H HP => ?_
 refine znl (ztn (wp_scope_straight (zsq (wp_label (ztn (zsq (zsq (zrg ?_))))))))
 refine H.go HP 1 [(12, (.slice (some ⟨be, 0, none⟩) 1 1))] [] fun a H => ?_
 refine H.cl 13 (Tryz.call99 _ _) (oevents_any be w_4) ?_
 rintro e w_5 ⟨bv, rfl, hv, hb⟩
 refine ⟨_, rfl, ?_⟩
 intro a H
 have HP := HP.next hb
 refine znl (ztn (zbk ?_))
 have hfun : a.eval (.tmp 13) = (.func (.func 154) #[] #[(pt bv 0)]) := H.eval (by kernel_rfl)
 have hbelW := HP.bl
 have h3 := HP.at_ 1 rfl
 have HP0 := HP
 clear HP
 have H := H.keep (L' := [(4, (pt b_3 0)), (3, (pt b_1 0)), (0, (.slice (some ⟨be, 0, none⟩) 1 1))]) (by kernel_rfl)
 refine (wpIn_wide (n := 20)).1 ?_
 refine wpIn_range1 (F := Fence.wide) rfl (by omega) (gf := 154) (lb := #[(pt bv 0)]) hfun trivial (enters_of Tryz.func154 (by kernel_rfl) rfl) (oevents_seq 19 be bv w_5 hv (hev.next hbelW)) rfl
  (fun _ => False) (nextX w b_3 b_1 5) (ownFrom_pure _ _) (fun _ => nextX_own hbelW.size) (plB 48 203 5 b_1) (fun a' => plB_own a') ?assign ?body (fun _ _ _ h _ => h.elim) ?stop
 case assign =>
  intro l' W K hK
  have H := H.assigned 14 (.agg #[(ii 1), (ii 7), (ii 5), (ii 2), (ii 0), (ii 3), (.slice none 0 0)]) (by kernel_rfl)
  have HP := Hp.start W
  refine w_regionF ?_
  refine H.al HP 5 203 [(ii 0), (ii 0), (ii 0), (ii 0), (ii 0), (ii 0), (.slice none 0 0)] fun b_6 w_7 a H HP => H.sh HP 0 0 (.agg #[(ii 1), (ii 7), (ii 5), (ii 2), (ii 0), (ii 3), (.slice none 0 0)]) rfl fun w_8 a H HP => ?_
  refine znl ?_
  exact hK _ _ HP.bl ⟨b_6, HP.at_ 0 rfl, H.keep (by kernel_rfl)⟩
 case body =>
  rintro l' a W hbW ⟨b5, hx5, H⟩
  have h3W := h3.next hbW
  have HP := ((Hp.start W).keepF (boxK b_1 3 [.int .i64 5]) h3W (boxK_ok _ _ _) (fun k hk => ⟨boxK_lt h3W hk, fun x hx => by cases hx⟩)).keepF (boxK b5 203 [(ii 1), (ii 7), (ii 5), (ii 2), (ii 0), (ii 3), (.slice none 0 0)]) hx5 (boxK_ok _ _ _) (fun k hk => ⟨boxK_lt hx5 hk, fun x hx => by cases hx⟩)
  refine wpIn_block ?_
  refine wpIn_seq ?_
  refine wpIn_seq ?_
  refine w_regionF ?_
  refine H.u 15 (.agg #[(ii 1), (ii 7), (ii 5), (ii 2), (ii 0), (ii 3), (.slice none 0 0)]) (ex_lN [(ii 1), (ii 7), (ii 5), (ii 2), (ii 0), (ii 3), (.slice none 0 0)] (boxCells (HP.fact 0 rfl : Box _ b5 203 _))) fun a H => H.u 16 (ii 5) (ex_l1 (Box.cell (i := 0) (HP.fact 1 rfl : Box _ b_1 3 _) rfl)) fun a H => H.cb HP 17 (Tryz.call100 _ _) (runs_5 W) fun w_9 hb a H HP => ?_
  refine H.ge HP [(18, (.bool false))] [] fun a H => ?_
  refine ztn ?_
  refine w_iffF H rfl ?_
  refine wpIn_skip ?_
  refine ztn ?_
  refine wpIn_seq ?_
  refine wpIn_seq ?_
  refine w_regionF ?_
  refine H.u 20 (.agg #[(ii 1), (ii 7), (ii 5), (ii 2), (ii 0), (ii 3), (.slice none 0 0)]) (ex_lN [(ii 1), (ii 7), (ii 5), (ii 2), (ii 0), (ii 3), (.slice none 0 0)] (boxCells (HP.fact 0 rfl : Box _ b5 203 _))) fun a H => H.cb HP 21 (Tryz.call101 _ _) (popt_any w_9) fun w_10 hb a H HP => H.go HP 3 [(22, (.agg #[(ii 5), (ii 2), (.slice none 0 0)])), (23, (.bool false))] [] fun a H => H.al HP 6 74 [(ii 0), (ii 0), (.slice none 0 0)] fun b_11 w_12 a H HP => H.sh HP 0 0 (.agg #[(ii 5), (ii 2), (.slice none 0 0)]) rfl fun w_13 a H HP => ?_
  refine H.ge HP [(7, (.bool false))] [] fun a H => ?_
  refine ztn ?_
  refine wpIn_seq ?_
  refine w_regionF ?_
  refine H.ge HP [(24, (.bool false))] [] fun a H => ?_
  refine ztn ?_
  refine w_iffF H rfl ?_
  refine wpIn_skip ?_
  refine ztn ?_
  refine wpIn_exit ?_
  refine w_exit_far (by kernel_rfl) ?_
  have hbl := HP.bl
  exact ⟨keepsFrom_below hbl, rfl, ((HP0.next hbW).next hbl).untop⟩
 case stop =>
  rintro D c W hD ⟨rfl, HP⟩ hdef
  rw [moreD_of _ H.defers]
  refine (wpIn_wide (n := 20)).2 ?_
  refine wp_exit ?_
  have HP := HP.keepD (by intro x hx; simp only [List.mem_cons, List.not_mem_nil, or_false] at hx; rcases hx with rfl | rfl <;> exact bx_cells _ _ _ _) hdef rfl
  refine w_exit_here ?_
  refine ztn (zsq ?_)
  refine w_regionM ?_
  refine H.al HP 8 74 [(ii 0), (ii 0), (.slice none 0 0)] fun b_14 w_15 a H HP => ?_
  refine znl (ztn (zsq ?_))
  refine w_regionM ?_
  refine H.al HP 9 4 [(.bool false)] fun b_16 w_17 a H HP => H.sh HP 0 0 (.bool false) rfl fun w_18 a H HP => ?_
  refine znl (ztn (zsq ?_))
  refine w_regionM ?_
  refine H.go HP 1 [(27, (.func (.func 103) #[] #[(pt b_16 0), (pt b_14 0)]))] [] fun a H => H.al HP 10 207 [.nilFunc] fun b_19 w_20 a H HP => H.sh HP 0 0 (.func (.func 103) #[] #[(pt b_16 0), (pt b_14 0)]) rfl fun w_21 a H HP => ?_
  refine znl (ztn (zsq (zsq ?_)))
  refine w_regionM ?_
  refine H.go HP 1 [(28, (.slice (some ⟨be, 0, none⟩) 1 1))] [] fun a H => ?_
  refine H.cl 29 (Tryz.call104 _ _) (optionals_any be w_21) ?_
  rintro e w_22 ⟨bo, rfl, ho, hb⟩
  refine ⟨_, rfl, ?_⟩
  intro a H
  have HP := HP.next hb
  refine znl (ztn (zbk ?_))
  have hszW := (HP.fact 0 rfl : W.heap.size ≤ _ ∧ _ = W.heap[D]?).1
  have hfun1 : a.eval (.tmp 29) = (.func (.func 155) #[] #[(pt bo 0)]) := H.eval (by kernel_rfl)
  have hfun2 : (moreD [{ target := .collected D, args := #[] }] a).eval (.tmp 29) = (.func (.func 155) #[] #[(pt bo 0)]) := hfun1
  have hbelW2 := HP.bl
  refine (wpIn_wide (n := 20)).1 ?_
  refine wpIn_range0 (F := Fence.wide) rfl (by omega) (gf := 155) (lb := #[(pt bo 0)]) hfun2 trivial (enters_of Tryz.func155 (by kernel_rfl) rfl) (fun l W2 hW2 => callsIn_wide.2 (optionals1_any l be bo W2 (ho.next hW2) ((hev.next hbelW2).next hW2))) fun D2 W2 hD2 hbW2 hdef2 => ?_
  rw [moreD_of2 _ _ H.defers]
  have HP : Hp w W2 [bx b_19 207 [(.func (.func 103) #[] #[(pt b_16 0), (pt b_14 0)])] true, bx b_16 4 [(.bool false)] true, bx b_14 74 [(ii 0), (ii 0), (.slice none 0 0)] true, bx b_3 74 [(ii 0), (ii 0), (.slice none 0 0)] true, bx b_1 3 [(ii 5)] true] [keepB W D] := HP.next hbW2
  have hd1 := (HP.fact 0 rfl : W.heap.size ≤ _ ∧ _ = W.heap[D]?).1
  have HP := HP.keepD (by intro x hx; simp only [List.mem_cons, List.not_mem_nil, or_false] at hx; rcases hx with rfl | rfl | rfl | rfl | rfl <;> exact bx_cells _ _ _ _) hdef2 rfl
  have hsz1 : D < w_22.heap.size := Nat.lt_of_lt_of_le (Array.getElem?_eq_some_iff.1 hdef).1 hszW
  refine zibn (ztn (zsq ?_))
  refine w_regionM ?_
  refine H.go HP 1 [(46, (.agg #[(ii 0), (ii 0), (.slice none 0 0)]))] [2] fun a H => ?_
  refine H.cl 47 (Tryz.call102 _ _) (own_any 0 0 none 0 0 [] W2 (alts_nil _ _) (by decide) (fun _ => ⟨rfl, rfl⟩)) ?_
  rintro e w_23 ⟨OB, oc, rfl, _, _, _, _, hb, _⟩
  refine ⟨_, rfl, ?_⟩
  intro a H
  have HP := HP.next hb
  refine H.sh HP 3 0 (.agg #[(ii 0), (ii 0), (.slice OB 0 oc)]) rfl fun w_24 a H HP => ?_
  refine znl (ztn (zrt (ng_ret ?_)))
  have he2 : w_24.heap[D2]? = some (.deferred (some [])) := (HP.fact 0 rfl : W2.heap.size ≤ _ ∧ _ = W2.heap[D2]?).2.trans hdef2
  have he1 : w_24.heap[D]? = some (.deferred (some [])) := (HP.fact 1 rfl : W.heap.size ≤ _ ∧ _ = W.heap[D]?).2.trans hdef
  have hDW := (Array.getElem?_eq_some_iff.1 hdef).1
  have hne : D ≠ D2 := by have := hsz1; omega
  have he1p := (World.putObj_heap_other (o := .deferred none) (w := w_24) hne).trans he1
  have hout : Below w.heap.size w ((w_24.putObj D2 (.deferred none)).putObj D (.deferred none)) := (HP.bl.trans (belowK_b (w := w) (Nat.le_refl _) _ D2 _ _ (by have := hbelW2.size; omega) he2 rfl rfl)).trans (belowK_b (w := w) (Nat.le_refl _) _ D _ _ (by have := hbelW.size; omega) he1p rfl rfl)
  refine H.ret1DD he2 he1 hne (fn := Tryz.f61) Tryz.results61 (RV.cellN (vs := [(ii 0), (ii 0), (.slice OB 0 oc)]) (b := b_3) (off := 0) (k := 3) (by kernel_rfl) (by kernel_rfl) (by kernel_rfl) rfl (boxCells (box_putObj (box_putObj (HP.at_ 3 rfl) he2) he1p))) ?_
  exact ⟨OB, oc, rfl, hout⟩
theorem next_6 (be : Nat) (w : World) (hev : Box w be 100 [(ii 1), (ii 7), (ii 5), (ii 2), (ii 0), (ii 3), (.slice none 0 0)].toArray) :
  Calls Tryz.prog 61 #[(.slice (some ⟨be, 0, none⟩) 1 1), .int .i64 6] w fun e w' => ∃ OB oc, e = .returned (.agg #[.int .i64 0, .int .i64 0, .slice OB 0 oc]) ∧ Below w.heap.size w w' := by
 have HP := ((Hp.start w).keepF (boxK be 100 [(ii 1), (ii 7), (ii 5), (ii 2), (ii 0), (ii 3), (.slice none 0 0)]) hev (boxK_ok _ _ _) (fun k hk => ⟨boxK_lt hev hk, fun x hx => by cases hx⟩))
 refine w_enterM 48 [(0, (.slice (some ⟨be, 0, none⟩) 1 1)), (1, (ii 6))] Tryz.func61 rfl Tryz.ntmps61 (by kernel_rfl) (by kernel_rfl) fun a H => ?_
 refine zsq (zrg ?_)
 refine H.al HP 3 3 [(ii 6)] fun b_1 w_2 a H HP => H.al HP 4 74 [(ii 0), (ii 0), (.slice none 0 0)] fun b_3 w_4 a H HP => ?_
 refine znl (ztn (wp_scope_straight (zsq (wp_label (ztn (zsq (zsq (zrg ?_))))))))
 refine H.go HP 1 [(12, (.slice (some ⟨be, 0, none⟩) 1 1))] [] fun a H => ?_
 refine H.cl 13 (Tryz.call99 _ _) (oevents_any be w_4) ?_
 rintro e w_5 ⟨bv, rfl, hv, hb⟩
 refine ⟨_, rfl, ?_⟩
 intro a H
 have HP := HP.next hb
 refine znl (ztn (zbk ?_))
 have hfun : a.eval (.tmp 13) = (.func (.func 154) #[] #[(pt bv 0)]) := H.eval (by kernel_rfl)
 have hbelW := HP.bl
 have h3 := HP.at_ 1 rfl
 have HP0 := HP
 clear HP
 have H := H.keep (L' := [(4, (pt b_3 0)), (3, (pt b_1 0)), (0, (.slice (some ⟨be, 0, none⟩) 1 1))]) (by kernel_rfl)
 refine (wpIn_wide (n := 20)).1 ?_
 refine wpIn_range1 (F := Fence.wide) rfl (by omega) (gf := 154) (lb := #[(pt bv 0)]) hfun trivial (enters_of Tryz.func154 (by kernel_rfl) rfl) (oevents_seq 19 be bv w_5 hv (hev.next hbelW)) rfl
  (fun _ => False) (nextX w b_3 b_1 6) (ownFrom_pure _ _) (fun _ => nextX_own hbelW.size) (plB 48 203 5 b_1) (fun a' => plB_own a') ?assign ?body (fun _ _ _ h _ => h.elim) ?stop
 case assign =>
  intro l' W K hK
  have H := H.assigned 14 (.agg #[(ii 1), (ii 7), (ii 5), (ii 2), (ii 0), (ii 3), (.slice none 0 0)]) (by kernel_rfl)
  have HP := Hp.start W
  refine w_regionF ?_
  refine H.al HP 5 203 [(ii 0), (ii 0), (ii 0), (ii 0), (ii 0), (ii 0), (.slice none 0 0)] fun b_6 w_7 a H HP => H.sh HP 0 0 (.agg #[(ii 1), (ii 7), (ii 5), (ii 2), (ii 0), (ii 3), (.slice none 0 0)]) rfl fun w_8 a H HP => ?_
  refine znl ?_
  exact hK _ _ HP.bl ⟨b_6, HP.at_ 0 rfl, H.keep (by kernel_rfl)⟩
 case body =>
  rintro l' a W hbW ⟨b5, hx5, H⟩
  have h3W := h3.next hbW
  have HP := ((Hp.start W).keepF (boxK b_1 3 [.int .i64 6]) h3W (boxK_ok _ _ _) (fun k hk => ⟨boxK_lt h3W hk, fun x hx => by cases hx⟩)).keepF (boxK b5 203 [(ii 1), (ii 7), (ii 5), (ii 2), (ii 0), (ii 3), (.slice none 0 0)]) hx5 (boxK_ok _ _ _) (fun k hk => ⟨boxK_lt hx5 hk, fun x hx => by cases hx⟩)
  refine wpIn_block ?_
  refine wpIn_seq ?_
  refine wpIn_seq ?_
  refine w_regionF ?_
  refine H.u 15 (.agg #[(ii 1), (ii 7), (ii 5), (ii 2), (ii 0), (ii 3), (.slice none 0 0)]) (ex_lN [(ii 1), (ii 7), (ii 5), (ii 2), (ii 0), (ii 3), (.slice none 0 0)] (boxCells (HP.fact 0 rfl : Box _ b5 203 _))) fun a H => H.u 16 (ii 6) (ex_l1 (Box.cell (i := 0) (HP.fact 1 rfl : Box _ b_1 3 _) rfl)) fun a H => H.cb HP 17 (Tryz.call100 _ _) (runs_6 W) fun w_9 hb a H HP => ?_
  refine H.ge HP [(18, (.bool false))] [] fun a H => ?_
  refine ztn ?_
  refine w_iffF H rfl ?_
  refine wpIn_skip ?_
  refine ztn ?_
  refine wpIn_seq ?_
  refine wpIn_seq ?_
  refine w_regionF ?_
  refine H.u 20 (.agg #[(ii 1), (ii 7), (ii 5), (ii 2), (ii 0), (ii 3), (.slice none 0 0)]) (ex_lN [(ii 1), (ii 7), (ii 5), (ii 2), (ii 0), (ii 3), (.slice none 0 0)] (boxCells (HP.fact 0 rfl : Box _ b5 203 _))) fun a H => H.cb HP 21 (Tryz.call101 _ _) (popt_any w_9) fun w_10 hb a H HP => H.go HP 3 [(22, (.agg #[(ii 5), (ii 2), (.slice none 0 0)])), (23, (.bool false))] [] fun a H => H.al HP 6 74 [(ii 0), (ii 0), (.slice none 0 0)] fun b_11 w_12 a H HP => H.sh HP 0 0 (.agg #[(ii 5), (ii 2), (.slice none 0 0)]) rfl fun w_13 a H HP => ?_
  refine H.ge HP [(7, (.bool false))] [] fun a H => ?_
  refine ztn ?_
  refine wpIn_seq ?_
  refine w_regionF ?_
  refine H.ge HP [(24, (.bool false))] [] fun a H => ?_
  refine ztn ?_
  refine w_iffF H rfl ?_
  refine wpIn_skip ?_
  refine ztn ?_
  refine wpIn_exit ?_
  refine w_exit_far (by kernel_rfl) ?_
  have hbl := HP.bl
  exact ⟨keepsFrom_below hbl, rfl, ((HP0.next hbW).next hbl).untop⟩
 case stop =>
  rintro D c W hD ⟨rfl, HP⟩ hdef
  rw [moreD_of _ H.defers]
  refine (wpIn_wide (n := 20)).2 ?_
  refine wp_exit ?_
  have HP := HP.keepD (by intro x hx; simp only [List.mem_cons, List.not_mem_nil, or_false] at hx; rcases hx with rfl | rfl <;> exact bx_cells _ _ _ _) hdef rfl
  refine w_exit_here ?_
  refine ztn (zsq ?_)
  refine w_regionM ?_
  refine H.al HP 8 74 [(ii 0), (ii 0), (.slice none 0 0)] fun b_14 w_15 a H HP => ?_
  refine znl (ztn (zsq ?_))
  refine w_regionM ?_
  refine H.al HP 9 4 [(.bool false)] fun b_16 w_17 a H HP => H.sh HP 0 0 (.bool false) rfl fun w_18 a H HP => ?_
  refine znl (ztn (zsq ?_))
  refine w_regionM ?_
  refine H.go HP 1 [(27, (.func (.func 103) #[] #[(pt b_16 0), (pt b_14 0)]))] [] fun a H => H.al HP 10 207 [.nilFunc] fun b_19 w_20 a H HP => H.sh HP 0 0 (.func (.func 103) #[] #[(pt b_16 0), (pt b_14 0)]) rfl fun w_21 a H HP => ?_
  refine znl (ztn (zsq (zsq ?_)))
  refine w_regionM ?_
  refine H.go HP 1 [(28, (.slice (some ⟨be, 0, none⟩) 1 1))] [] fun a H => ?_
  refine H.cl 29 (Tryz.call104 _ _) (optionals_any be w_21) ?_
  rintro e w_22 ⟨bo, rfl, ho, hb⟩
  refine ⟨_, rfl, ?_⟩
  intro a H
  have HP := HP.next hb
  refine znl (ztn (zbk ?_))
  have hszW := (HP.fact 0 rfl : W.heap.size ≤ _ ∧ _ = W.heap[D]?).1
  have hfun1 : a.eval (.tmp 29) = (.func (.func 155) #[] #[(pt bo 0)]) := H.eval (by kernel_rfl)
  have hfun2 : (moreD [{ target := .collected D, args := #[] }] a).eval (.tmp 29) = (.func (.func 155) #[] #[(pt bo 0)]) := hfun1
  have hbelW2 := HP.bl
  refine (wpIn_wide (n := 20)).1 ?_
  refine wpIn_range0 (F := Fence.wide) rfl (by omega) (gf := 155) (lb := #[(pt bo 0)]) hfun2 trivial (enters_of Tryz.func155 (by kernel_rfl) rfl) (fun l W2 hW2 => callsIn_wide.2 (optionals1_any l be bo W2 (ho.next hW2) ((hev.next hbelW2).next hW2))) fun D2 W2 hD2 hbW2 hdef2 => ?_
  rw [moreD_of2 _ _ H.defers]
  have HP : Hp w W2 [bx b_19 207 [(.func (.func 103) #[] #[(pt b_16 0), (pt b_14 0)])] true, bx b_16 4 [(.bool false)] true, bx b_14 74 [(ii 0), (ii 0), (.slice none 0 0)] true, bx b_3 74 [(ii 0), (ii 0), (.slice none 0 0)] true, bx b_1 3 [(ii 6)] true] [keepB W D] := HP.next hbW2
  have hd1 := (HP.fact 0 rfl : W.heap.size ≤ _ ∧ _ = W.heap[D]?).1
  have HP := HP.keepD (by intro x hx; simp only [List.mem_cons, List.not_mem_nil, or_false] at hx; rcases hx with rfl | rfl | rfl | rfl | rfl <;> exact bx_cells _ _ _ _) hdef2 rfl
  have hsz1 : D < w_22.heap.size := Nat.lt_of_lt_of_le (Array.getElem?_eq_some_iff.1 hdef).1 hszW
  refine zibn (ztn (zsq ?_))
  refine w_regionM ?_
  refine H.go HP 1 [(46, (.agg #[(ii 0), (ii 0), (.slice none 0 0)]))] [2] fun a H => ?_
  refine H.cl 47 (Tryz.call102 _ _) (own_any 0 0 none 0 0 [] W2 (alts_nil _ _) (by decide) (fun _ => ⟨rfl, rfl⟩)) ?_
  rintro e w_23 ⟨OB, oc, rfl, _, _, _, _, hb, _⟩
  refine ⟨_, rfl, ?_⟩
  intro a H
  have HP := HP.next hb
  refine H.sh HP 3 0 (.agg #[(ii 0), (ii 0), (.slice OB 0 oc)]) rfl fun w_24 a H HP => ?_
  refine znl (ztn (zrt (ng_ret ?_)))
  have he2 : w_24.heap[D2]? = some (.deferred (some [])) := (HP.fact 0 rfl : W2.heap.size ≤ _ ∧ _ = W2.heap[D2]?).2.trans hdef2
  have he1 : w_24.heap[D]? = some (.deferred (some [])) := (HP.fact 1 rfl : W.heap.size ≤ _ ∧ _ = W.heap[D]?).2.trans hdef
  have hDW := (Array.getElem?_eq_some_iff.1 hdef).1
  have hne : D ≠ D2 := by have := hsz1; omega
  have he1p := (World.putObj_heap_other (o := .deferred none) (w := w_24) hne).trans he1
  have hout : Below w.heap.size w ((w_24.putObj D2 (.deferred none)).putObj D (.deferred none)) := (HP.bl.trans (belowK_b (w := w) (Nat.le_refl _) _ D2 _ _ (by have := hbelW2.size; omega) he2 rfl rfl)).trans (belowK_b (w := w) (Nat.le_refl _) _ D _ _ (by have := hbelW.size; omega) he1p rfl rfl)
  refine H.ret1DD he2 he1 hne (fn := Tryz.f61) Tryz.results61 (RV.cellN (vs := [(ii 0), (ii 0), (.slice OB 0 oc)]) (b := b_3) (off := 0) (k := 3) (by kernel_rfl) (by kernel_rfl) (by kernel_rfl) rfl (boxCells (box_putObj (box_putObj (HP.at_ 3 rfl) he2) he1p))) ?_
  exact ⟨OB, oc, rfl, hout⟩
theorem unit_5 (be lc pc : Nat) (LA PA : Option Addr) (w : World) (hev : Box w be 100 [(ii 1), (ii 7), (ii 5), (ii 2), (ii 0), (ii 3), (.slice none 0 0)].toArray) (hlib : IsAsts w LA 1 (libS PA pc)) :
  Calls Tryz.prog 33 #[(.agg #[(ii 0), (ii 0), (ii 0), (ii 0), (.slice none 0 0), (ii 0), (ii 0), (ii 0), (ii 0), (.slice none 0 0), (.slice none 0 0), (.slice none 0 0), (.slice none 0 0), (.slice (some ⟨be, 0, none⟩) 1 1), (.slice none 0 0), (ii 0), (.slice none 0 0), (ii 2)]), (.slice LA 1 lc), .int .i64 5] w fun e w' => ∃ OB oc, e = .returned (.agg #[.int .i64 0, .int .i64 5, .int .i64 2, .int .i64 7, .int .i64 0, .bool true, .string (bstr [107]), .int .i64 3, .int .i64 1000, .string (bstr [64, 0, 0]), .int .i64 0, .int .i64 0, .slice OB 0 oc]) ∧ Below w.heap.size w w' := by
 have HP := (((Hp.start w).keepF (astsK LA (libS PA pc)) hlib (fun _ _ h hk hs => IsAsts.keep h hk hs) (fun k hk => ⟨IsAsts.lt hlib hk, fun x hx => by cases hx⟩)).keepF (boxK be 100 [(ii 1), (ii 7), (ii 5), (ii 2), (ii 0), (ii 3), (.slice none 0 0)]) hev (boxK_ok _ _ _) (fun k hk => ⟨boxK_lt hev hk, fun x hx => by cases hx⟩))
 refine w_enter 89 [(0, (.agg #[(ii 0), (ii 0), (ii 0), (ii 0), (.slice none 0 0), (ii 0), (ii 0), (ii 0), (ii 0), (.slice none 0 0), (.slice none 0 0), (.slice none 0 0), (.slice none 0 0), (.slice (some ⟨be, 0, none⟩) 1 1), (.slice none 0 0), (ii 0), (.slice none 0 0), (ii 2)])), (1, (.slice LA 1 lc)), (2, (ii 5))] Tryz.func33 rfl Tryz.ntmps33 (by kernel_rfl) (by kernel_rfl) fun a H => ?_
 refine zsq (zrg ?_)
 refine H.al HP 3 104 [(ii 0), (ii 0), (ii 0), (ii 0), (.slice none 0 0), (ii 0), (ii 0), (ii 0), (ii 0), (.slice none 0 0), (.slice none 0 0), (.slice none 0 0), (.slice none 0 0), (.slice (some ⟨be, 0, none⟩) 1 1), (.slice none 0 0), (ii 0), (.slice none 0 0), (ii 2)] fun b_1 w_2 a H HP => H.al HP 6 76 [(ii 0), (ii 0), (ii 0), (ii 0), (ii 0), (.bool false), (.string (bstr ([]))), (ii 0), (ii 0), (.string (bstr ([]))), (ii 0), (ii 0), (.slice none 0 0)] fun b_3 w_4 a H HP => ?_
 refine znl (ztn (zsq (zrg ?_)))
 refine H.go HP 4 [(15, (ii 0)), (16, (ii 5))] [1] fun a H => H.cb HP 17 (Tryz.call42 _ _) (slate_any 0 5 w_4) fun w_5 hb a H HP => H.al HP 7 76 [(ii 0), (ii 0), (ii 0), (ii 0), (ii 0), (.bool false), (.string (bstr ([]))), (ii 0), (ii 0), (.string (bstr ([]))), (ii 0), (ii 0), (.slice none 0 0)] fun b_6 w_7 a H HP => H.sh HP 0 0 (.agg #[(ii 0), (ii 5), (ii 0), (ii 0), (ii 0), (.bool true), (.string (bstr ([]))), (ii 255), (ii 1000), (.string (bstr ([64, 0, 0]))), (ii 0), (ii 0), (.slice none 0 0)]) rfl fun w_8 a H HP => ?_
 refine znl (ztn (zsq (zrg ?_)))
 refine H.go HP 3 [(19, (ii 2)), (20, (pt b_6 2))] [2] fun a H => H.sh HP 0 2 (ii 2) rfl fun w_9 a H HP => ?_
 refine znl (ztn (zsq (zrg ?_)))
 refine H.go HP 3 [(23, (.slice (some ⟨be, 0, none⟩) 1 1)), (24, (ii 5))] [2] fun a H => H.cb HP 25 (Tryz.call57 _ _) (at_5 be w_9 (HP.fact 0 rfl)) fun w_10 hb a H HP => H.go HP 4 [(26, (.agg #[(ii 1), (ii 7), (ii 5), (ii 2), (ii 0), (ii 3), (.slice none 0 0)])), (27, (ii 0)), (28, (.bool true))] [] fun a H => H.al HP 8 100 [(ii 0), (ii 0), (ii 0), (ii 0), (ii 0), (ii 0), (.slice none 0 0)] fun b_11 w_12 a H HP => H.sh HP 0 0 (.agg #[(ii 1), (ii 7), (ii 5), (ii 2), (ii 0), (ii 3), (.slice none 0 0)]) rfl fun w_13 a H HP => ?_
 refine H.ge HP [(9, (ii 0)), (10, (.bool true))] [] fun a H => ?_
 refine ztn (zsq (zsq (zrg ?_)))
 refine H.ge HP [(30, (.bool false))] [] fun a H => ?_
 refine ztn ?_
 refine w_iff H rfl ?_
 refine zsk (ztn (zsq (zrg ?_)))
 refine H.go HP 3 [(33, (.slice LA 1 lc)), (35, (ii 7))] [0] fun a H => ?_
 refine H.cl 36 (Tryz.call43 _ _) (((mfind_any LA 1 lc (libS PA pc) 7 w_13 (HP.fact 1 rfl) (by decide) libS_len).mono fun e w' h => ret_findS h)) ?_
 rintro e w_14 ⟨FB, fc, rfl, hfp, hfc1, hfc2, hfc3, hbf, hfr⟩
 refine ⟨_, rfl, ?_⟩
 intro a H
 have HP := (HP.next hbf).keepF ⟨rowFp 2 FB, fun w => IsPics w FB 2 picsS⟩ hfp (fun _ _ h hk hs => ⟨h.1, h.2.keep hk hs⟩) (fun j hj => row_sep HP hfp.2 hfr hj)
 refine H.go HP 3 [(37, (.agg #[(ii 7), (.slice FB 2 fc)])), (38, (.bool true))] [] fun a H => H.al HP 11 91 [(ii 0), (.slice none 0 0)] fun b_15 w_16 a H HP => H.sh HP 0 0 (.agg #[(ii 7), (.slice FB 2 fc)]) rfl fun w_17 a H HP => ?_
 refine H.ge HP [(10, (.bool true))] [] fun a H => ?_
 refine ztn (zsq (zsq (zrg ?_)))
 refine H.ge HP [(51, (.bool false))] [0] fun a H => ?_
 refine ztn ?_
 refine w_iff H rfl ?_
 refine zsk (ztn (zsq (zrg ?_)))
 refine H.go HP 3 [(54, (.slice FB 2 fc)), (55, (ii 0))] [0] fun a H => ?_
 obtain ⟨bu, ou, hA, hbu, hpc⟩ := pic_cells (HP.fact 0 rfl : IsPics _ FB 2 picsS) (i := 0) (by decide)
 refine H.u 56 (.pointer (some ⟨bu, ou + 0 * 3, none⟩)) (ex_indexA (b := bu) (off := ou) (len := 2) (cap := fc) (e := 96) (k := 3) (ik := .i64) (i := 0) (m := 0) hA (by kernel_rfl) (by kernel_rfl) rfl (by decide) (by kernel_rfl) (by kernel_rfl)) fun a H => H.u 57 (.agg #[(.bool true), (.string (bstr ([107]))), (ii 0)]) (ex_loadN (b := bu) (off := ou + 0 * 3) (vs := [(.bool true), (.string (bstr ([107]))), (ii 0)]) (by kernel_rfl) (by kernel_rfl) (by kernel_rfl) rfl ((pic_cells2 (HP.fact 0 rfl : IsPics _ FB 2 picsS) (i := 0) (by decide) hA))) fun a H => H.al HP 12 96 [(.bool false), (.string (bstr ([]))), (ii 0)] fun b_18 w_19 a H HP => H.sh HP 0 0 (.agg #[(.bool true), (.string (bstr ([107]))), (ii 0)]) rfl fun w_20 a H HP => ?_
 refine znl (ztn (zsq ?_))
 have HP := HP.front 4 rfl _ rfl
 refine An.start (fun v => Hp w v [bx b_18 96 [(.bool true), (.string (bstr ([107]))), (ii 0)] true, bx b_15 91 [(ii 7), (.slice FB 2 fc)] true, bx b_11 100 [(ii 1), (ii 7), (ii 5), (ii 2), (ii 0), (ii 3), (.slice none 0 0)] true, bx b_6 76 [(ii 0), (ii 5), (ii 2), (ii 0), (ii 0), (.bool true), (.string (bstr ([]))), (ii 255), (ii 1000), (.string (bstr ([64, 0, 0]))), (ii 0), (ii 0), (.slice none 0 0)] true, bx b_1 104 [(ii 0), (ii 0), (ii 0), (ii 0), (.slice none 0 0), (ii 0), (ii 0), (ii 0), (ii 0), (.slice none 0 0), (.slice none 0 0), (.slice none 0 0), (.slice none 0 0), (.slice (some ⟨be, 0, none⟩) 1 1), (.slice none 0 0), (ii 0), (.slice none 0 0), (ii 2)] true] [⟨rowFp 2 FB, fun w => IsPics w FB 2 picsS⟩, boxK be 100 [(ii 1), (ii 7), (ii 5), (ii 2), (ii 0), (ii 3), (.slice none 0 0)], astsK LA (libS PA pc)]) 31 32 HP wide_follows rfl fun w_21 HP => ?_
 refine An.go H (.inr ((HP.tail rfl))) 6 [0, 1, 2, 3, 4, 5, 6, 7, 8, 9, 10, 11, 12, 13, 14, 15, 16, 17, 19, 20, 21, 22, 24, 26, 27, 28] [(60, (ii 0)), (61, (ii 5)), (63, (ii 2)), (65, (ii 7)), (66, (ii 0)), (68, (.bool true)), (70, (.string (bstr ([107])))), (72, (ii 3)), (73, (.agg #[(ii 0), (ii 0), (ii 0), (ii 0), (.slice none 0 0), (ii 0), (ii 0), (ii 0), (ii 0), (.slice none 0 0), (.slice none 0 0), (.slice none 0 0), (.slice none 0 0), (.slice (some ⟨be, 0, none⟩) 1 1), (.slice none 0 0), (ii 0), (.slice none 0 0), (ii 2)])), (74, (.slice LA 1 lc)), (75, (ii 5)), (78, (.slice none 0 0)), (79, (.agg #[(ii 0), (ii 0), (ii 0), (ii 0), (.slice none 0 0), (ii 0), (ii 0), (ii 0), (ii 0), (.slice none 0 0), (.slice none 0 0), (.slice none 0 0), (.slice none 0 0), (.slice (some ⟨be, 0, none⟩) 1 1), (.slice none 0 0), (ii 0), (.slice none 0 0), (ii 2)])), (80, (.agg #[(ii 1), (ii 7), (ii 5), (ii 2), (ii 0), (ii 3), (.slice none 0 0)])), (82, (ii 5)), (85, (.slice (some ⟨be, 0, none⟩) 1 1)), (86, (ii 5))] [4, 4, 2, 0, 0, 2, 4, 4, 4, 2, 4] fun a H => ?_
 refine An.one 18 (by kernel_rfl) ?_
 refine Op.call H 76 rfl (by kernel_rfl) (Eq.trans (by kernel_rfl : _ = (callFunc 58 #[(.agg #[(ii 0), (ii 0), (ii 0), (ii 0), (.slice none 0 0), (ii 0), (ii 0), (ii 0), (ii 0), (.slice none 0 0), (.slice none 0 0), (.slice none 0 0), (.slice none 0 0), (.slice (some ⟨be, 0, none⟩) 1 1), (.slice none 0 0), (ii 0), (.slice none 0 0), (ii 2)]), (.slice LA 1 lc), (ii 5)]).run Tryz.prog w_21) (Tryz.call58 _ _)) (pgain_5 be lc pc LA PA w_21 (HP.fact 1 rfl) (HP.fact 2 rfl)) ?_
 rintro e w_22 ⟨rfl, hb⟩
 refine ⟨_, rfl, ?_⟩
 intro a H
 have HP := HP.next hb
 refine ⟨.inr ((HP.tail rfl)), ?_⟩
 refine An.one 23 (by kernel_rfl) ?_
 refine Op.call H 81 rfl (by kernel_rfl) (Eq.trans (by kernel_rfl : _ = (callFunc 60 #[(.agg #[(ii 0), (ii 0), (ii 0), (ii 0), (.slice none 0 0), (ii 0), (ii 0), (ii 0), (ii 0), (.slice none 0 0), (.slice none 0 0), (.slice none 0 0), (.slice none 0 0), (.slice (some ⟨be, 0, none⟩) 1 1), (.slice none 0 0), (ii 0), (.slice none 0 0), (ii 2)]), (.agg #[(ii 1), (ii 7), (ii 5), (ii 2), (ii 0), (ii 3), (.slice none 0 0)])]).run Tryz.prog w_22) (Tryz.call60 _ _)) (origin_any be w_22) ?_
 rintro e w_23 ⟨rfl, hb⟩
 refine ⟨_, rfl, ?_⟩
 intro a H
 have HP := HP.next hb
 refine ⟨.inr ((HP.tail rfl)), ?_⟩
 refine An.one 25 (by kernel_rfl) ?_
 refine Op.call H 83 rfl (by kernel_rfl) (Eq.trans (by kernel_rfl : _ = (callFunc 59 #[(.slice none 0 0), (ii 5), (ii 5)]).run Tryz.prog w_23) (Tryz.call59 _ _)) (codeN_any 5 w_23) ?_
 rintro e w_24 ⟨rfl, hb⟩
 refine ⟨_, rfl, ?_⟩
 intro a H
 have HP := HP.next hb
 refine ⟨.inr ((HP.tail rfl)), ?_⟩
 refine An.one 29 (by kernel_rfl) ?_
 refine Op.call H 87 rfl (by kernel_rfl) (Eq.trans (by kernel_rfl : _ = (callFunc 61 #[(.slice (some ⟨be, 0, none⟩) 1 1), (ii 5)]).run Tryz.prog w_24) (Tryz.call61 _ _)) (next_5 be w_24 (HP.fact 1 rfl)) ?_
 rintro e w_25 ⟨OB, oc, rfl, hb⟩
 refine ⟨_, rfl, ?_⟩
 intro a H
 have HP := HP.next hb
 refine ⟨.inr ((HP.tail rfl)), ?_⟩
 refine An.go H (.inr ((HP.tail rfl))) 1 [30] [(88, (.agg #[(ii 0), (ii 5), (ii 2), (ii 7), (ii 0), (.bool true), (.string (bstr ([107]))), (ii 3), (ii 1000), (.string (bstr ([64, 0, 0]))), (ii 0), (ii 0), (.slice OB 0 oc)]))] [] fun a H => ?_
 refine An.one 31 (by kernel_rfl) ?_
 refine Op.sh H HP 0 0 (.agg #[(ii 0), (ii 5), (ii 2), (ii 7), (ii 0), (.bool true), (.string (bstr ([107]))), (ii 3), (ii 1000), (.string (bstr ([64, 0, 0]))), (ii 0), (ii 0), (.slice OB 0 oc)]) rfl rfl fun w_26 a H HP => ?_
 refine ⟨.inl (by kernel_rfl), ?_⟩
 refine An.done (by kernel_rfl) ?_
 refine ztn (zrt ?_)
 refine H.ret1 (fn := Tryz.f33) Tryz.results33 (RV.cellN (vs := [(ii 0), (ii 5), (ii 2), (ii 7), (ii 0), (.bool true), (.string (bstr ([107]))), (ii 3), (ii 1000), (.string (bstr ([64, 0, 0]))), (ii 0), (ii 0), (.slice OB 0 oc)]) (b := b_3) (off := 0) (k := 13) (by kernel_rfl) (by kernel_rfl) (by kernel_rfl) rfl (HP.cells 0 rfl 0 13 (by kernel_rfl))) ?_
 exact ⟨OB, oc, rfl, HP.bl⟩
theorem unit_6 (be lc pc : Nat) (LA PA : Option Addr) (w : World) (hev : Box w be 100 [(ii 1), (ii 7), (ii 5), (ii 2), (ii 0), (ii 3), (.slice none 0 0)].toArray) (hlib : IsAsts w LA 1 (libS PA pc)) :
  Calls Tryz.prog 33 #[(.agg #[(ii 0), (ii 0), (ii 0), (ii 0), (.slice none 0 0), (ii 0), (ii 0), (ii 0), (ii 0), (.slice none 0 0), (.slice none 0 0), (.slice none 0 0), (.slice none 0 0), (.slice (some ⟨be, 0, none⟩) 1 1), (.slice none 0 0), (ii 0), (.slice none 0 0), (ii 2)]), (.slice LA 1 lc), .int .i64 6] w fun e w' => ∃ OB oc, e = .returned (.agg #[.int .i64 0, .int .i64 6, .int .i64 2, .int .i64 7, .int .i64 1, .bool false, .string (bstr [112]), .int .i64 3, .int .i64 1000, .string (bstr [0, 0, 0]), .int .i64 0, .int .i64 0, .slice OB 0 oc]) ∧ Below w.heap.size w w' := by
 have HP := (((Hp.start w).keepF (astsK LA (libS PA pc)) hlib (fun _ _ h hk hs => IsAsts.keep h hk hs) (fun k hk => ⟨IsAsts.lt hlib hk, fun x hx => by cases hx⟩)).keepF (boxK be 100 [(ii 1), (ii 7), (ii 5), (ii 2), (ii 0), (ii 3), (.slice none 0 0)]) hev (boxK_ok _ _ _) (fun k hk => ⟨boxK_lt hev hk, fun x hx => by cases hx⟩))
 refine w_enter 89 [(0, (.agg #[(ii 0), (ii 0), (ii 0), (ii 0), (.slice none 0 0), (ii 0), (ii 0), (ii 0), (ii 0), (.slice none 0 0), (.slice none 0 0), (.slice none 0 0), (.slice none 0 0), (.slice (some ⟨be, 0, none⟩) 1 1), (.slice none 0 0), (ii 0), (.slice none 0 0), (ii 2)])), (1, (.slice LA 1 lc)), (2, (ii 6))] Tryz.func33 rfl Tryz.ntmps33 (by kernel_rfl) (by kernel_rfl) fun a H => ?_
 refine zsq (zrg ?_)
 refine H.al HP 3 104 [(ii 0), (ii 0), (ii 0), (ii 0), (.slice none 0 0), (ii 0), (ii 0), (ii 0), (ii 0), (.slice none 0 0), (.slice none 0 0), (.slice none 0 0), (.slice none 0 0), (.slice (some ⟨be, 0, none⟩) 1 1), (.slice none 0 0), (ii 0), (.slice none 0 0), (ii 2)] fun b_1 w_2 a H HP => H.al HP 6 76 [(ii 0), (ii 0), (ii 0), (ii 0), (ii 0), (.bool false), (.string (bstr ([]))), (ii 0), (ii 0), (.string (bstr ([]))), (ii 0), (ii 0), (.slice none 0 0)] fun b_3 w_4 a H HP => ?_
 refine znl (ztn (zsq (zrg ?_)))
 refine H.go HP 4 [(15, (ii 0)), (16, (ii 6))] [1] fun a H => H.cb HP 17 (Tryz.call42 _ _) (slate_any 0 6 w_4) fun w_5 hb a H HP => H.al HP 7 76 [(ii 0), (ii 0), (ii 0), (ii 0), (ii 0), (.bool false), (.string (bstr ([]))), (ii 0), (ii 0), (.string (bstr ([]))), (ii 0), (ii 0), (.slice none 0 0)] fun b_6 w_7 a H HP => H.sh HP 0 0 (.agg #[(ii 0), (ii 6), (ii 0), (ii 0), (ii 0), (.bool true), (.string (bstr ([]))), (ii 255), (ii 1000), (.string (bstr ([64, 0, 0]))), (ii 0), (ii 0), (.slice none 0 0)]) rfl fun w_8 a H HP => ?_
 refine znl (ztn (zsq (zrg ?_)))
 refine H.go HP 3 [(19, (ii 2)), (20, (pt b_6 2))] [2] fun a H => H.sh HP 0 2 (ii 2) rfl fun w_9 a H HP => ?_
 refine znl (ztn (zsq (zrg ?_)))
 refine H.go HP 3 [(23, (.slice (some ⟨be, 0, none⟩) 1 1)), (24, (ii 6))] [2] fun a H => H.cb HP 25 (Tryz.call57 _ _) (at_6 be w_9 (HP.fact 0 rfl)) fun w_10 hb a H HP => H.go HP 4 [(26, (.agg #[(ii 1), (ii 7), (ii 5), (ii 2), (ii 0), (ii 3), (.slice none 0 0)])), (27, (ii 1)), (28, (.bool true))] [] fun a H => H.al HP 8 100 [(ii 0), (ii 0), (ii 0), (ii 0), (ii 0), (ii 0), (.slice none 0 0)] fun b_11 w_12 a H HP => H.sh HP 0 0 (.agg #[(ii 1), (ii 7), (ii 5), (ii 2), (ii 0), (ii 3), (.slice none 0 0)]) rfl fun w_13 a H HP => ?_
 refine H.ge HP [(9, (ii 1)), (10, (.bool true))] [] fun a H => ?_
 refine ztn (zsq (zsq (zrg ?_)))
 refine H.ge HP [(30, (.bool false))] [] fun a H => ?_
 refine ztn ?_
 refine w_iff H rfl ?_
 refine zsk (ztn (zsq (zrg ?_)))
 refine H.go HP 3 [(33, (.slice LA 1 lc)), (35, (ii 7))] [0] fun a H => ?_
 refine H.cl 36 (Tryz.call43 _ _) (((mfind_any LA 1 lc (libS PA pc) 7 w_13 (HP.fact 1 rfl) (by decide) libS_len).mono fun e w' h => ret_findS h)) ?_
 rintro e w_14 ⟨FB, fc, rfl, hfp, hfc1, hfc2, hfc3, hbf, hfr⟩
 refine ⟨_, rfl, ?_⟩
 intro a H
 have HP := (HP.next hbf).keepF ⟨rowFp 2 FB, fun w => IsPics w FB 2 picsS⟩ hfp (fun _ _ h hk hs => ⟨h.1, h.2.keep hk hs⟩) (fun j hj => row_sep HP hfp.2 hfr hj)
 refine H.go HP 3 [(37, (.agg #[(ii 7), (.slice FB 2 fc)])), (38, (.bool true))] [] fun a H => H.al HP 11 91 [(ii 0), (.slice none 0 0)] fun b_15 w_16 a H HP => H.sh HP 0 0 (.agg #[(ii 7), (.slice FB 2 fc)]) rfl fun w_17 a H HP => ?_
 refine H.ge HP [(10, (.bool true))] [] fun a H => ?_
 refine ztn (zsq (zsq (zrg ?_)))
 refine H.ge HP [(51, (.bool false))] [0] fun a H => ?_
 refine ztn ?_
 refine w_iff H rfl ?_
 refine zsk (ztn (zsq (zrg ?_)))
 refine H.go HP 3 [(54, (.slice FB 2 fc)), (55, (ii 1))] [0] fun a H => ?_
 obtain ⟨bu, ou, hA, hbu, hpc⟩ := pic_cells (HP.fact 0 rfl : IsPics _ FB 2 picsS) (i := 1) (by decide)
 refine H.u 56 (.pointer (some ⟨bu, ou + 1 * 3, none⟩)) (ex_indexA (b := bu) (off := ou) (len := 2) (cap := fc) (e := 96) (k := 3) (ik := .i64) (i := 1) (m := 1) hA (by kernel_rfl) (by kernel_rfl) rfl (by decide) (by kernel_rfl) (by kernel_rfl)) fun a H => H.u 57 (.agg #[(.bool false), (.string (bstr ([112]))), (ii 0)]) (ex_loadN (b := bu) (off := ou + 1 * 3) (vs := [(.bool false), (.string (bstr ([112]))), (ii 0)]) (by kernel_rfl) (by kernel_rfl) (by kernel_rfl) rfl ((pic_cells2 (HP.fact 0 rfl : IsPics _ FB 2 picsS) (i := 1) (by decide) hA))) fun a H => H.al HP 12 96 [(.bool false), (.string (bstr ([]))), (ii 0)] fun b_18 w_19 a H HP => H.sh HP 0 0 (.agg #[(.bool false), (.string (bstr ([112]))), (ii 0)]) rfl fun w_20 a H HP => ?_
 refine znl (ztn (zsq ?_))
 have HP := HP.front 4 rfl _ rfl
 refine An.start (fun v => Hp w v [bx b_18 96 [(.bool false), (.string (bstr ([112]))), (ii 0)] true, bx b_15 91 [(ii 7), (.slice FB 2 fc)] true, bx b_11 100 [(ii 1), (ii 7), (ii 5), (ii 2), (ii 0), (ii 3), (.slice none 0 0)] true, bx b_6 76 [(ii 0), (ii 6), (ii 2), (ii 0), (ii 0), (.bool true), (.string (bstr ([]))), (ii 255), (ii 1000), (.string (bstr ([64, 0, 0]))), (ii 0), (ii 0), (.slice none 0 0)] true, bx b_1 104 [(ii 0), (ii 0), (ii 0), (ii 0), (.slice none 0 0), (ii 0), (ii 0), (ii 0), (ii 0), (.slice none 0 0), (.slice none 0 0), (.slice none 0 0), (.slice none 0 0), (.slice (some ⟨be, 0, none⟩) 1 1), (.slice none 0 0), (ii 0), (.slice none 0 0), (ii 2)] true] [⟨rowFp 2 FB, fun w => IsPics w FB 2 picsS⟩, boxK be 100 [(ii 1), (ii 7), (ii 5), (ii 2), (ii 0), (ii 3), (.slice none 0 0)], astsK LA (libS PA pc)]) 31 32 HP wide_follows rfl fun w_21 HP => ?_
 refine An.go H (.inr ((HP.tail rfl))) 6 [0, 1, 2, 3, 4, 5, 6, 7, 8, 9, 10, 11, 12, 13, 14, 15, 16, 17, 19, 20, 21, 22, 24, 26, 27, 28] [(60, (ii 0)), (61, (ii 6)), (63, (ii 2)), (65, (ii 7)), (66, (ii 1)), (68, (.bool false)), (70, (.string (bstr ([112])))), (72, (ii 3)), (73, (.agg #[(ii 0), (ii 0), (ii 0), (ii 0), (.slice none 0 0), (ii 0), (ii 0), (ii 0), (ii 0), (.slice none 0 0), (.slice none 0 0), (.slice none 0 0), (.slice none 0 0), (.slice (some ⟨be, 0, none⟩) 1 1), (.slice none 0 0), (ii 0), (.slice none 0 0), (ii 2)])), (74, (.slice LA 1 lc)), (75, (ii 6)), (78, (.slice none 0 0)), (79, (.agg #[(ii 0), (ii 0), (ii 0), (ii 0), (.slice none 0 0), (ii 0), (ii 0), (ii 0), (ii 0), (.slice none 0 0), (.slice none 0 0), (.slice none 0 0), (.slice none 0 0), (.slice (some ⟨be, 0, none⟩) 1 1), (.slice none 0 0), (ii 0), (.slice none 0 0), (ii 2)])), (80, (.agg #[(ii 1), (ii 7), (ii 5), (ii 2), (ii 0), (ii 3), (.slice none 0 0)])), (82, (ii 6)), (85, (.slice (some ⟨be, 0, none⟩) 1 1)), (86, (ii 6))] [4, 4, 2, 0, 0, 2, 4, 4, 4, 2, 4] fun a H => ?_
 refine An.one 18 (by kernel_rfl) ?_
 refine Op.call H 76 rfl (by kernel_rfl) (Eq.trans (by kernel_rfl : _ = (callFunc 58 #[(.agg #[(ii 0), (ii 0), (ii 0), (ii 0), (.slice none 0 0), (ii 0), (ii 0), (ii 0), (ii 0), (.slice none 0 0), (.slice none 0 0), (.slice none 0 0), (.slice none 0 0), (.slice (some ⟨be, 0, none⟩) 1 1), (.slice none 0 0), (ii 0), (.slice none 0 0), (ii 2)]), (.slice LA 1 lc), (ii 6)]).run Tryz.prog w_21) (Tryz.call58 _ _)) (pgain_6 be lc pc LA PA w_21 (HP.fact 1 rfl) (HP.fact 2 rfl)) ?_
 rintro e w_22 ⟨rfl, hb⟩
 refine ⟨_, rfl, ?_⟩
 intro a H
 have HP := HP.next hb
 refine ⟨.inr ((HP.tail rfl)), ?_⟩
 refine An.one 23 (by kernel_rfl) ?_
 refine Op.call H 81 rfl (by kernel_rfl) (Eq.trans (by kernel_rfl : _ = (callFunc 60 #[(.agg #[(ii 0), (ii 0), (ii 0), (ii 0), (.slice none 0 0), (ii 0), (ii 0), (ii 0), (ii 0), (.slice none 0 0), (.slice none 0 0), (.slice none 0 0), (.slice none 0 0), (.slice (some ⟨be, 0, none⟩) 1 1), (.slice none 0 0), (ii 0), (.slice none 0 0), (ii 2)]), (.agg #[(ii 1), (ii 7), (ii 5), (ii 2), (ii 0), (ii 3), (.slice none 0 0)])]).run Tryz.prog w_22) (Tryz.call60 _ _)) (origin_any be w_22) ?_
 rintro e w_23 ⟨rfl, hb⟩
 refine ⟨_, rfl, ?_⟩
 intro a H
 have HP := HP.next hb
 refine ⟨.inr ((HP.tail rfl)), ?_⟩
 refine An.one 25 (by kernel_rfl) ?_
 refine Op.call H 83 rfl (by kernel_rfl) (Eq.trans (by kernel_rfl : _ = (callFunc 59 #[(.slice none 0 0), (ii 5), (ii 6)]).run Tryz.prog w_23) (Tryz.call59 _ _)) (code56_any w_23) ?_
 rintro e w_24 ⟨rfl, hb⟩
 refine ⟨_, rfl, ?_⟩
 intro a H
 have HP := HP.next hb
 refine ⟨.inr ((HP.tail rfl)), ?_⟩
 refine An.one 29 (by kernel_rfl) ?_
 refine Op.call H 87 rfl (by kernel_rfl) (Eq.trans (by kernel_rfl : _ = (callFunc 61 #[(.slice (some ⟨be, 0, none⟩) 1 1), (ii 6)]).run Tryz.prog w_24) (Tryz.call61 _ _)) (next_6 be w_24 (HP.fact 1 rfl)) ?_
 rintro e w_25 ⟨OB, oc, rfl, hb⟩
 refine ⟨_, rfl, ?_⟩
 intro a H
 have HP := HP.next hb
 refine ⟨.inr ((HP.tail rfl)), ?_⟩
 refine An.go H (.inr ((HP.tail rfl))) 1 [30] [(88, (.agg #[(ii 0), (ii 6), (ii 2), (ii 7), (ii 1), (.bool false), (.string (bstr ([112]))), (ii 3), (ii 1000), (.string (bstr ([0, 0, 0]))), (ii 0), (ii 0), (.slice OB 0 oc)]))] [] fun a H => ?_
 refine An.one 31 (by kernel_rfl) ?_
 refine Op.sh H HP 0 0 (.agg #[(ii 0), (ii 6), (ii 2), (ii 7), (ii 1), (.bool false), (.string (bstr ([112]))), (ii 3), (ii 1000), (.string (bstr ([0, 0, 0]))), (ii 0), (ii 0), (.slice OB 0 oc)]) rfl rfl fun w_26 a H HP => ?_
 refine ⟨.inl (by kernel_rfl), ?_⟩
 refine An.done (by kernel_rfl) ?_
 refine ztn (zrt ?_)
 refine H.ret1 (fn := Tryz.f33) Tryz.results33 (RV.cellN (vs := [(ii 0), (ii 6), (ii 2), (ii 7), (ii 1), (.bool false), (.string (bstr ([112]))), (ii 3), (ii 1000), (.string (bstr ([0, 0, 0]))), (ii 0), (ii 0), (.slice OB 0 oc)]) (b := b_3) (off := 0) (k := 13) (by kernel_rfl) (by kernel_rfl) (by kernel_rfl) rfl (HP.cells 0 rfl 0 13 (by kernel_rfl))) ?_
 exact ⟨OB, oc, rfl, HP.bl⟩
def u5 (A : Option Addr) (c : Nat) : Un := ⟨0, 5, 2, 7, 0, true, [107], 3, 1000, [64, 0, 0], 0, 0, A, c, []⟩
def u6 (A : Option Addr) (c : Nat) : Un := ⟨0, 6, 2, 7, 1, false, [112], 3, 1000, [0, 0, 0], 0, 0, A, c, []⟩
def s5 : List UInt8 := (packP 25 1 (u5 none 0)).getD []
def s6 : List UInt8 := (packP 25 1 (u6 none 0)).getD []
theorem pack_s5 (A : Option Addr) (c : Nat) : packP 25 1 (u5 A c) = some s5 := by kernel_rfl
theorem pack_s6 (A : Option Addr) (c : Nat) : packP 25 1 (u6 A c) = some s6 := by kernel_rfl
theorem s5_len : s5.length = 64 := by kernel_rfl
theorem s6_len : s6.length = 64 := by kernel_rfl
theorem un_s5 : unpackP 25 1 s5 = some (u5 none 0) := by kernel_rfl
theorem un_s6 : unpackP 25 1 s6 = some (u6 none 0) := by kernel_rfl
def ch0 : Ch := ⟨0, 0, 500, 0, 0, 25, 1⟩
def cA : Un × Ch := chooseC (libS none 0) none ch0 4 s5 []
def cB : Un × Ch := chooseC (libS none 0) (some 2) cA.2 5 s5 []
def cC : Un × Ch := chooseC (libS none 0) (some 2) cB.2 6 [] s6
def cD : Un × Ch := chooseC (libS none 0) (some 2) cC.2 7 s6 s6
theorem allA (A : Option Addr) (c : Nat) : allC (libS A c) (floorP false 0 0 4) [ch0] 4 [s5] [] = [cA] := by kernel_rfl
theorem allB (A : Option Addr) (c : Nat) : allC (libS A c) (floorP true 4 2 5) [cA.2] 5 [s5] [] = [cB] := by kernel_rfl
theorem allD (A : Option Addr) (c : Nat) : allC (libS A c) (floorP true 4 2 6) [cB.2] 6 [] [s6] = [cC] := by kernel_rfl
theorem allE (A : Option Addr) (c : Nat) : allC (libS A c) (floorP true 4 2 7) [cC.2] 7 [s6] [s6] = [cD] := by kernel_rfl
theorem sane_A : cA.1.item = 0 := by kernel_rfl
theorem sane_B : cB.1.item = 7 ∧ cB.1.data = [107] := ⟨by kernel_rfl, by kernel_rfl⟩
theorem sane_C : cC.1.index = 1 := by kernel_rfl
theorem sane_D : cD.1.item = 0 ∧ cD.1.frame = 7 := ⟨by kernel_rfl, by kernel_rfl⟩
theorem sane_full : decide (500 < cD.2.full) = true ∧ cD.2.number = 0 := ⟨by kernel_rfl, by kernel_rfl⟩
theorem sane_fl : floorP true 4 2 12 = some 2 ∧ floorP true 4 2 13 = none := ⟨by kernel_rfl, by kernel_rfl⟩
abbrev pl1 (IA : Option Addr) (ic : Nat) : PlS := ⟨0, 25, 500, IA, ic⟩
theorem plansS_any (w : World) : Calls Tryz.prog 12 #[] w fun e w' => ∃ A c IA ic, e = .returned (.slice A 2 c) ∧ 2 ≤ c ∧ IsRow 13 plnC w' (dropA A c 1 13) [pl1 IA ic] ∧ (∀ p ∈ [pl1 IA ic], IsRow 5 itC w' p.IA its3) ∧ Below w.heap.size w w' :=
  (plans_any w).mono fun e w' ⟨A, c, ps, he, hk, hr, hb⟩ => by
    match ps, hk, hr with
    | [p0, ⟨q1, q2, q3, IA, ic⟩], hk, hr =>
      have h1 : q1 = 0 ∧ q2 = 25 ∧ q3 = 500 := by
        simp only [List.map_cons, List.map_nil, PlS.key, plKeys, List.cons.injEq, Prod.mk.injEq, and_true] at hk
        exact hk.2
      obtain ⟨rfl, rfl, rfl⟩ := h1
      have hc := (own_facts hr.1).1
      exact ⟨A, c, IA, ic, he, hc, IsRow.dropA plnC_size (l := [p0, pl1 IA ic]) (i := 1) (Rd.of_own hr.1) hc (Nat.le_succ 1), fun p hp => (hr.2 p (List.mem_cons_of_mem _ hp)).1, hb⟩
    | [], hk, _ => cases hk
    | [_], hk, _ => simp [plKeys] at hk
    | _ :: _ :: _ :: _, hk, _ => simp [plKeys] at hk
theorem newS {IA PA : Option Addr} {ic pc : Nat} {w w' : World} {e : Ending} (h : RetSel [pl1 IA ic] (libS PA pc) w e w') : ∃ bs bc cc SA sc l' rest, e = .returned (.tuple #[.pointer (some ⟨bs, 0, none⟩), .int .i64 0]) ∧ SelN [pl1 IA ic] (libS PA pc) w.heap.size bs bc cc SA sc l' rest w' ∧ Below w.heap.size w w' := by
  rcases h with ⟨h, _⟩ | ⟨_, h⟩
  · rw [show newP [pl1 IA ic] (libS PA pc) = true from by kernel_rfl] at h; cases h
  · exact h
theorem newSN {LA : Option Addr} {lib : List AstA} {w w' : World} {e : Ending} (h : RetSel [] lib w e w') : e = .returned (.tuple #[.pointer none, .int .i64 220]) ∧ Below w.heap.size w w' := by
  rcases h with ⟨_, h⟩ | ⟨h, _⟩
  · exact h
  · cases h
theorem sameS {l' : List AstA} {A : Option Addr} {c : Nat} (h : sameA l' (libS A c)) : ∃ A' c', l' = libS A' c' := by
  unfold sameA at h
  match l', h with
  | [⟨i, A', c', p⟩], h =>
    simp only [List.map_cons, List.map_nil, List.cons.injEq, Prod.mk.injEq, and_true] at h
    obtain ⟨rfl, rfl⟩ := h
    exact ⟨A', c', rfl⟩
  | [], h => cases h
  | _ :: _ :: _, h => simp at h
theorem chooseS {p : Un × Ch} {bc : Nat} {rest : List Value} {w w' : World} {e : Ending} (h : RetChoose [p] bc rest w e w') : ∃ A c u, e = .returned (.slice A 1 c) ∧ IsRow 13 unC w' A [u] ∧ bareU u = p.1 ∧ (∀ q, rowFp 1 A q → w.heap.size ≤ q) ∧ Box w' bc 115 (flat chC [p.2] ++ rest).toArray ∧ w.grownBy w' (some bc) := by
  obtain ⟨A, c, us, he, hr, hu, _, hb, hg⟩ := h
  match us, hu, hr with
  | [u], hu, hr => exact ⟨A, c, u, he, IsRow.ofOwn hr rfl, by simpa using hu, fun q ⟨_, off, ea⟩ => (own_lt hr.1 q (by rw [ea]; rfl)).2, hb, hg⟩
  | [], hu, _ => cases hu
  | _ :: _ :: _, hu, _ => simp at hu
theorem sane_al {s : List UInt8} (h : s = [] ∨ s = s5 ∨ s = s6) : (∀ u, unpackP 25 1 s = some u → u.al = []) ∧ s.length ≤ 1000000 := by
  rcases h with h | h | h
  · rw [h]; exact ⟨fun u hu => by rw [unpack_mod (s := []) (.inl rfl)] at hu; exact absurd hu (by simp), Nat.zero_le _⟩
  · rw [h]; exact ⟨fun u hu => by rw [un_s5] at hu; rw [← Option.some.inj hu]; rfl, by rw [s5_len]; decide⟩
  · rw [h]; exact ⟨fun u hu => by rw [un_s6] at hu; rw [← Option.some.inj hu]; rfl, by rw [s6_len]; decide⟩
theorem sane_row {la : List (List UInt8)} (h : ∀ s ∈ la, s = [] ∨ s = s5 ∨ s = s6) : (∀ s ∈ la, s.length ≤ 1000000) ∧ ∀ i u, unpackP 25 1 (la.getD i []) = some u → u.al = [] := by
  refine ⟨fun s hs => (sane_al (h s hs)).2, fun i u hu => ?_⟩
  by_cases hi : i < la.length
  · rw [List.getD_eq_getElem?_getD, List.getElem?_eq_getElem hi] at hu
    exact (sane_al (h _ (List.getElem_mem hi))).1 u hu
  · rw [List.getD_eq_getElem?_getD, List.getElem?_eq_none (by omega)] at hu
    exact (sane_al (.inl rfl)).1 u hu
theorem chooseX (bs bc cc sc sq : Nat) (SA SP : Option Addr) (hd : Bool) (at_ od fr : Int) (rest : List Value) (c : Ch) (p : Un × Ch) (AA AB : Option Addr) (ca cb : Nat) (la lb : List (List UInt8)) (w : World)
    (hp : allC (libS SP sq) (floorP hd at_ od fr) [c] fr la lb = [p]) (hc : decide (c.num = 25 ∧ c.den = 1 ∧ -1 ≤ c.index ∧ c.index ≤ 1000000000) = true) (hla : ∀ s ∈ la, s = [] ∨ s = s5 ∨ s = s6) (hlb : ∀ s ∈ lb, s = [] ∨ s = s5 ∨ s = s6)
    (hat : 0 ≤ at_ ∧ at_ ≤ 9223372036854775807) (hfr : -9223372036854775808 ≤ fr ∧ fr ≤ 9223372036854775807) (hne : bs ≠ bc) (hcl : ¬ libFp SA (libS SP sq) bc) (h2c : 2 ≤ bc) (hca : ¬ rowFp la.length AA bc) (hcb : ¬ rowFp lb.length AB bc) (hL : Laid w) (hlib : IsAsts w SA 1 (libS SP sq))
    (hS : Box w bs 111 (selL bc 1 cc SA 1 sc hd at_ od).toArray) (hC : Box w bc 115 (flat chC [c] ++ rest).toArray) (hsa : IsRow 1 strC w AA la) (hsb : IsRow 1 strC w AB lb) :
    Calls Tryz.prog 20 #[.pointer (some ⟨bs, 0, none⟩), .int .i64 fr, .slice AA la.length ca, .slice AB lb.length cb] w fun e w' => ∃ A c u, e = .returned (.slice A 1 c) ∧ IsRow 13 unC w' A [u] ∧ bareU u = p.1 ∧ (∀ q, rowFp 1 A q → w.heap.size ≤ q) ∧ Box w' bc 115 (flat chC [p.2] ++ rest).toArray ∧ w.grownBy w' (some bc) := by
  have hcc := of_decide_eq_true hc
  have h1 := sane_row hla
  have h2 := sane_row hlb
  refine (chooseA_any bs bc cc sc SA (libS SP sq) hd at_ od fr rest [c] AA AB ca cb la lb w Nat.zero_lt_one (by show 1 ≤ 40; decide) hat hfr h1.1 h2.1 ?_ hne hcl h2c hca hcb hL hlib (by show 1 ≤ maxLen; decide) libS_len hS hC hsa hsb).mono fun e w' h => chooseS (by rw [hp] at h; exact h)
  intro i c' hi
  match i, hi with
  | 0, hi =>
    cases hi
    rw [hcc.1, hcc.2.1]
    exact ⟨hcc.2.2, h1.2 0, h2.2 0⟩
theorem libS_box {w : World} {bL bP : Nat} (h1 : Box w bL 91 [.int .i64 7, .slice (some ⟨bP, 0, none⟩) 2 2].toArray) (h2 : Box w bP 96 [.bool true, .string (bstr [107]), .int .i64 0, .bool false, .string (bstr [112]), .int .i64 0].toArray) : IsAsts w (some ⟨bL, 0, none⟩) 1 (libS (some ⟨bP, 0, none⟩) 2) := by
  refine ⟨⟨rfl, rfl, .inr ⟨bL, 0, rfl, h1.lt, fun i hi => ?_⟩⟩, fun a ha => ?_⟩
  · rw [Nat.zero_add]
    match i, hi with
    | 0, _ => exact h1.cell (i := 0) rfl
    | 1, _ => exact h1.cell (i := 1) rfl
  · rcases List.mem_singleton.1 ha with rfl
    refine ⟨⟨rfl, rfl, .inr ⟨bP, 0, rfl, h2.lt, fun i hi => ?_⟩⟩, Nat.le_refl _, (by show 2 ≤ maxLen; decide), (fun h => by cases h), trivial⟩
    rw [Nat.zero_add]
    match i, hi with
    | 0, _ => exact h2.cell (i := 0) rfl
    | 1, _ => exact h2.cell (i := 1) rfl
    | 2, _ => exact h2.cell (i := 2) rfl
    | 3, _ => exact h2.cell (i := 3) rfl
    | 4, _ => exact h2.cell (i := 4) rfl
    | 5, _ => exact h2.cell (i := 5) rfl
theorem Hp.gain2 {w0 w w' : World} {L : List HB} {K : List FK} (H : Hp w0 w L K) (hb : Below w.heap.size w w') {b c t u : Nat} {vs us : List Value} (h1 : Box w' b t vs.toArray) (h2 : Box w' c u us.toArray) (n1 : w.heap.size ≤ b) (n2 : w.heap.size ≤ c) (hne : b ≠ c) : Hp w0 w' (bx b t vs true :: bx c u us true :: L) K := by
  have H2 := H.gain hb (bx c u us true) h2 (bx_ok _ _ _ _) (fun k hk => by cases hk; exact h2.lt) (fun k hk => by cases hk; exact n2)
  refine H2.add (bx b t vs true) h1 (bx_ok _ _ _ _) (fun k hk => by cases hk; exact h1.lt) (fun k hk => ⟨fun y hy hyk => ?_, fun p hp hpk => ?_⟩) (fun _ k hk => by cases hk; exact Nat.le_trans H.size n1)
  · cases hk
    rcases List.mem_cons.1 hy with rfl | hy
    · exact hne hyk
    · have := (H.res y hy).2.2 _ hyk; omega
  · cases hk
    have := ((H.kept p hp).2.2 _ hpk).1
    omega
theorem Hp.gainSel {w0 w w' : World} {L : List HB} {K : List FK} {ps : List PlS} {lib l' : List AstA} {bs bc cc sc : Nat} {SA : Option Addr} {rest : List Value} (H : Hp w0 w L K) (hN : SelN ps lib w.heap.size bs bc cc SA sc l' rest w') (hb : Below w.heap.size w w') :
    Hp w0 w' (bx bs 111 (selL bc ps.length cc SA l'.length sc false 0 0) true :: bx bc 115 (flat chC (ps.map mkCh) ++ rest) true :: L) (astsK SA l' :: K) := by
  refine (H.gain2 hb hN.box hN.chs hN.nb hN.nc hN.ne).keepF (astsK SA l') hN.asts (fun _ _ h hk hs => IsAsts.keep h hk hs) (fun k hk => ⟨IsAsts.lt hN.asts hk, fun x hx hf => ?_⟩)
  rcases List.mem_cons.1 hx with rfl | hx
  · exact hN.sb (show libFp SA l' bs from (show k = bs from hf) ▸ hk)
  rcases List.mem_cons.1 hx with rfl | hx
  · exact hN.sc (show libFp SA l' bc from (show k = bc from hf) ▸ hk)
  · have := (H.res x hx).2.2 k hf
    have := hN.nl k hk
    omega
theorem row_at {α : Type} {k : Nat} {cs : α → Array Value} {w : World} {A : Option Addr} {x : α} (hk : ∀ e, (cs e).size = k) (h : IsRow k cs w A [x]) : ∃ b o, A = some ⟨b, o, none⟩ := by
  obtain ⟨b, o, _, hA, _⟩ := IsRow.get hk h (i := 0) (Nat.lt_succ_self 0)
  exact ⟨b, o, hA⟩
theorem row_cells {α : Type} {k : Nat} {cs : α → Array Value} {w : World} {A : Option Addr} {x : α} {b o : Nat} (hk : ∀ e, (cs e).size = k) (h : IsRow k cs w A [x]) (hA : A = some ⟨b, o, none⟩) : cellsAt w b (o + 0 * k) (cs x).toList := IsRow.cells hk h hA (i := 0) rfl
theorem cells_sub {w : World} {b o : Nat} {l : List Value} (h : cellsAt w b o l) (k n : Nat) : cellsAt w b (o + k) ((l.drop k).take n) := fun i v hv => by
  rw [Nat.add_assoc]
  refine h (k + i) v ?_
  rw [List.getElem?_take] at hv
  split at hv
  · rwa [List.getElem?_drop] at hv
  · cases hv
theorem pl1_ok {IA : Option Addr} {ic : Nat} : ∀ p ∈ [pl1 IA ic], (0 ≤ p.c ∧ p.c ≤ 39) ∧ rateOk p.nm 1 = true := fun p hp => by
  rcases List.mem_singleton.1 hp with rfl
  exact ⟨⟨Int.le_refl 0, (by show (0 : Int) ≤ 39; decide)⟩, by kernel_rfl⟩
theorem newS2 {IA PA : Option Addr} {ic pc : Nat} {w w' : World} {e : Ending} (h : RetSel [pl1 IA ic] (libS PA pc) w e w') : ∃ bs bc cc SA sc SP sq rest, e = .returned (.tuple #[.pointer (some ⟨bs, 0, none⟩), .int .i64 0]) ∧ SelN [pl1 IA ic] (libS PA pc) w.heap.size bs bc cc SA sc (libS SP sq) rest w' ∧ Below w.heap.size w w' := by
  obtain ⟨bs, bc, cc, SA, sc, l', rest, he, hN, hb⟩ := newS h
  obtain ⟨SP, sq, rfl⟩ := sameS hN.same
  exact ⟨bs, bc, cc, SA, sc, SP, sq, rest, he, hN, hb⟩
theorem chooseX2 {bc : Nat} {rest : List Value} {p : Un × Ch} {w w' : World} {e : Ending} (h : ∃ A c u, e = .returned (.slice A 1 c) ∧ IsRow 13 unC w' A [u] ∧ bareU u = p.1 ∧ (∀ q, rowFp 1 A q → w.heap.size ≤ q) ∧ Box w' bc 115 (flat chC [p.2] ++ rest).toArray ∧ w.grownBy w' (some bc)) :
    ∃ A c u, e = .returned (.slice A 1 c) ∧ IsRow 13 unC w' A [u] ∧ (u.frame = p.1.frame ∧ u.item = p.1.item ∧ u.index = p.1.index ∧ u.data = p.1.data) ∧ (∀ q, rowFp 1 A q → w.heap.size ≤ q) ∧ Box w' bc 115 (flat chC [p.2] ++ rest).toArray ∧ w.grownBy w' (some bc) := by
  obtain ⟨A, c, u, he, hr, hu, hq, hb, hg⟩ := h
  exact ⟨A, c, u, he, hr, by rw [← hu]; exact ⟨rfl, rfl, rfl, rfl⟩, hq, hb, hg⟩
theorem Hp.changedRow {α : Type} {w0 w w' : World} {L : List HB} {K : List FK} (H : Hp w0 w L K) (i : Nat) {b t k : Nat} {vs : List Value} {f : Bool} {cs : α → Array Value} {A : Option Addr} {l : List α} (hi : L[i]? = some (bx b t vs f)) (vs' : List Value) (L' : List HB) (hL : L.set i (bx b t vs' f) = L') (hg : w.grownBy w' (some b)) (hbx : Box w' b t vs'.toArray) (hr : IsRow k cs w' A l) (hn : ∀ q, rowFp l.length A q → w.heap.size ≤ q) : Hp w0 w' L' (rowF k cs A l :: K) := by
  have H2 := H.changed i hi vs' L' hL hg hbx
  refine H2.keepF _ hr (rowF_ok _ _ _ _) fun q hq => ⟨hr.lt q hq, fun x hx hf => ?_⟩
  subst hL
  have hq' := hn q hq
  rcases List.mem_or_eq_of_mem_set hx with hx | rfl
  · have := (H.res x hx).2.2 q hf; omega
  · have := (H.res _ (List.mem_of_getElem? hi)).2.2 q hf; omega
theorem Hp.factNo {w0 w : World} {L : List HB} {K : List FK} (H : Hp w0 w L K) (q i : Nat) {p : FK} {b t : Nat} {vs : List Value} {f : Bool} (hq : K[q]? = some p) (hi : L[i]? = some (bx b t vs f)) : ¬ p.fp b := fun h => ((H.kept p (List.mem_of_getElem? hq)).2.2 b h).2 _ (List.mem_of_getElem? hi) rfl
theorem Hp.ge2 {w0 w : World} {L : List HB} {K : List FK} (H : Hp w0 w L K) (q i : Nat) {b t : Nat} {vs : List Value} {f : Bool} (hq : K[q]? = some laidK) (hi : L[i]? = some (bx b t vs f)) : 2 ≤ b := by
  have h := H.factNo q i hq hi
  have h0 : b ≠ 0 := fun e => h (.inl e)
  have h1 : b ≠ 1 := fun e => h (.inr e)
  omega
theorem rowFp_none {n b : Nat} : ¬ rowFp n none b := fun h => by obtain ⟨_, _, e⟩ := h; cases e
theorem rowFp_ne {n b o c : Nat} (h : b ≠ c) : ¬ rowFp n (some ⟨b, o, none⟩) c := fun hh => by obtain ⟨_, _, e⟩ := hh; cases e; exact h rfl
theorem str1 {w : World} {b t : Nat} {s : List UInt8} (h : Box w b t [.string (bstr s)].toArray) : IsRow 1 strC w (some ⟨b, 0, none⟩) [s] := IsRow.ofBox (cs := strC) (size := 1) (l := [s]) (tail := []) (fun _ => rfl) h
theorem sel_hp {IA PA SA SP : Option Addr} {ic pc sc sq bs bc cc : Nat} {rest : List Value} {w0 w w' : World} {L : List HB} {K : List FK} (H : Hp w0 w L K) (hN : SelN [pl1 IA ic] (libS PA pc) w.heap.size bs bc cc SA sc (libS SP sq) rest w') (hb : Below w.heap.size w w') :
    Hp w0 w' (bx bs 111 [.slice (some ⟨bc, 0, none⟩) 1 cc, .slice SA 1 sc, .bool false, .int .i64 0, .int .i64 0] true :: bx bc 115 (flat chC [ch0] ++ rest) true :: L) (astsK SA (libS SP sq) :: K) := H.gainSel hN hb
theorem s5_ok : ∀ s ∈ [s5], s = [] ∨ s = s5 ∨ s = s6 := fun s h => by rw [List.mem_singleton.1 h]; exact .inr (.inl rfl)
theorem s6_ok : ∀ s ∈ [s6], s = [] ∨ s = s5 ∨ s = s6 := fun s h => by rw [List.mem_singleton.1 h]; exact .inr (.inr rfl)
theorem s0_ok : ∀ s ∈ ([] : List (List UInt8)), s = [] ∨ s = s5 ∨ s = s6 := fun s h => by cases h
theorem un_frame {w : World} {A : Option Addr} {u : Un} {b o : Nat} (h : IsRow 13 unC w A [u]) (hA : A = some ⟨b, o, none⟩) {x : Int} (e : u.frame = x) : w.cell? ⟨b, o + 0 * 13 + 1, none⟩ = some (.int .i64 x) := by subst e; exact row_cells unC_size h hA 1 _ rfl
theorem un_item {w : World} {A : Option Addr} {u : Un} {b o : Nat} (h : IsRow 13 unC w A [u]) (hA : A = some ⟨b, o, none⟩) {x : Int} (e : u.item = x) : w.cell? ⟨b, o + 0 * 13 + 3, none⟩ = some (.int .i64 x) := by subst e; exact row_cells unC_size h hA 3 _ rfl
theorem un_index {w : World} {A : Option Addr} {u : Un} {b o : Nat} (h : IsRow 13 unC w A [u]) (hA : A = some ⟨b, o, none⟩) {x : Int} (e : u.index = x) : w.cell? ⟨b, o + 0 * 13 + 4, none⟩ = some (.int .i64 x) := by subst e; exact row_cells unC_size h hA 4 _ rfl
theorem un_data {w : World} {A : Option Addr} {u : Un} {b o : Nat} (h : IsRow 13 unC w A [u]) (hA : A = some ⟨b, o, none⟩) {x : List UInt8} (e : u.data = x) : w.cell? ⟨b, o + 0 * 13 + 6, none⟩ = some (.string (bstr x)) := by subst e; exact row_cells unC_size h hA 6 _ rfl
theorem pl_rate {IA : Option Addr} {ic : Nat} {w : World} {A : Option Addr} {b o : Nat} (h : IsRow 13 plnC w A [pl1 IA ic]) (hA : A = some ⟨b, o, none⟩) : cellsAt w b (o + 0 * 13 + 1) [.int .i64 25, .int .i64 1] := cells_sub (row_cells plnC_size h hA) 1 2
theorem libS_mx {A : Option Addr} {c : Nat} : (libS A c).length ≤ 1000000 := by show 1 ≤ 1000000; decide
theorem libS_mx2 {A : Option Addr} {c : Nat} : (libS A c).length ≤ maxLen := by show 1 ≤ maxLen; decide
theorem chA_ok : decide (ch0.num = 25 ∧ ch0.den = 1 ∧ -1 ≤ ch0.index ∧ ch0.index ≤ 1000000000) = true := by kernel_rfl
theorem chB_ok : decide (cA.2.num = 25 ∧ cA.2.den = 1 ∧ -1 ≤ cA.2.index ∧ cA.2.index ≤ 1000000000) = true := by kernel_rfl
theorem chC_ok : decide (cB.2.num = 25 ∧ cB.2.den = 1 ∧ -1 ≤ cB.2.index ∧ cB.2.index ≤ 1000000000) = true := by kernel_rfl
theorem chD_ok : decide (cC.2.num = 25 ∧ cC.2.den = 1 ∧ -1 ≤ cC.2.index ∧ cC.2.index ≤ 1000000000) = true := by kernel_rfl
theorem full_D0 : fullP 0 [cD.2] = cD.2.full := if_pos sane_full.2
theorem full_D1 : fullP 1 [cD.2] = 0 := if_neg (by rw [sane_full.2]; decide)
structure LibOk (li : List AstA) : Prop where
  its : li.map (·.item) = libItems
  pics : ∀ a ∈ li, picsOk 30 a.pics
theorem LibOk.len {li : List AstA} (h : LibOk li) : li.length = 3 := by
  have := congrArg List.length h.its
  rwa [List.length_map] at this
theorem LibOk.max {li : List AstA} (h : LibOk li) : li.length ≤ maxLen := by rw [h.len]; decide
theorem LibOk.pl {li : List AstA} (h : LibOk li) : ∀ a ∈ li, a.pics.length ≤ 2000000 := fun a ha => by have := (h.pics a ha).1; omega
structure ChOk (nm nb : Int) (c : Ch) : Prop where
  num : c.num = nm
  den : c.den = 1
  nb : c.number = nb
  lo : 0 ≤ c.index
  hi : c.index ≤ 29
  f0 : 0 ≤ c.full
  f1 : c.full ≤ 1000
structure Chosen (li : List AstA) (fl : Option Int) (c : Ch) (f : Int) (a b : List UInt8) (u : Un) (g tk : Int) : Prop where
  eq : chooseC li fl c f a b = (u, ⟨u.item, u.index, g, tk, c.number, c.num, c.den⟩)
  step : vstep c.full (u.data.length : Int) = some g
  gen : genuineP li u = true
  ch : u.channel = c.number
  fr : u.frame = f
  lo : 0 ≤ u.index
  hi : u.index ≤ 29
  dec : u.key = true ∨ (u.item = c.item ∧ u.index = c.index + 1)
  src : u.item = 0 ∨ ∃ s x, (s = a ∨ s = b) ∧ unpackP c.num c.den s = some u ∧ fl = some x ∧ x ≤ u.version
theorem Chosen.ok {li : List AstA} {fl : Option Int} {nm nb : Int} {c : Ch} {f : Int} {a b : List UInt8} {u : Un} {g tk : Int} (h : Chosen li fl c f a b u g tk) (hc : ChOk nm nb c) : ChOk nm nb ⟨u.item, u.index, g, tk, c.number, c.num, c.den⟩ :=
  ⟨hc.num, hc.den, hc.nb, h.lo, h.hi, (vstep_bd h.step).2.2.2.2.1, (vstep_bd h.step).2.2.2.2.2.1⟩
abbrev pl0 (IA : Option Addr) (ic : Nat) : PlS := ⟨3, 50, 500, IA, ic⟩
theorem pl_at {w : World} {A : Option Addr} {p q : PlS} {l : List PlS} (h : IsRow 13 plnC w A (p :: l)) : ∃ b o, A = some ⟨b, o, none⟩ := by
  obtain ⟨b, o, _, hA, _⟩ := IsRow.get plnC_size h (i := 0) (Nat.zero_lt_succ _)
  exact ⟨b, o, hA⟩
def plOk (ps : List PlS) : Prop := (∀ p ∈ ps, (0 ≤ p.c ∧ p.c ≤ 39) ∧ rateOk p.nm 1 = true) ∧ okP [] ps = true ∧ 1 ≤ ps.length ∧ ps.length ≤ 40
theorem pl0_ok1 {IA : Option Addr} {ic : Nat} : (0 ≤ (pl0 IA ic).c ∧ (pl0 IA ic).c ≤ 39) ∧ rateOk (pl0 IA ic).nm 1 = true := ⟨⟨(by show (0 : Int) ≤ 3; decide), (by show (3 : Int) ≤ 39; decide)⟩, by kernel_rfl⟩
theorem pl1_ok1 {IA : Option Addr} {ic : Nat} : (0 ≤ (pl1 IA ic).c ∧ (pl1 IA ic).c ≤ 39) ∧ rateOk (pl1 IA ic).nm 1 = true := pl1_ok _ (List.mem_singleton.2 rfl)
theorem plOk2 {IA IB : Option Addr} {ic id : Nat} : plOk [pl0 IA ic, pl1 IB id] := ⟨fun p hp => by
  rcases List.mem_cons.1 hp with rfl | hp
  · exact pl0_ok1
  · exact pl1_ok p hp, by kernel_rfl, (by show 1 ≤ 2; decide), (by show 2 ≤ 40; decide)⟩
theorem lib_item {li : List AstA} (h : LibOk li) {a : AstA} (ha : a ∈ li) : 1 ≤ a.item ∧ a.item ≤ 8 := by
  have : a.item ∈ libItems := by rw [← h.its]; exact List.mem_map_of_mem ha
  unfold libItems at this
  simp only [List.mem_cons, List.not_mem_nil, or_false] at this
  omega
theorem new_true {ps : List PlS} {li : List AstA} (hl : LibOk li) (hp : plOk ps) : newP ps li = true := by
  unfold newP
  rw [decide_eq_true hp.2.2.1, decide_eq_true hp.2.2.2, hp.2.1]
  simp only [Bool.true_and]
  exact List.all_eq_true.2 fun a ha => picsOk_valid (hl.pics a ha) (lib_item hl ha).1 (by have := (lib_item hl ha).2; omega)
def StrOk (nm : Int) (s : List UInt8) : Prop := s.length ≤ 1000000 ∧ ∀ u, unpackP nm 1 s = some u → u.al = []
theorem SentP.ok {nm : Int} {s : List UInt8} (h : SentP nm 1 s) : StrOk nm s := ⟨Nat.le_succ_of_le h.1, fun u hu => (h.2 u hu).1⟩
theorem sane_any (w : World) (hL : Laid w) :
  Calls Tryz.prog 10 #[] w fun e w' => e = .returned (.bool true) ∧ Below w.heap.size w w' := by
 have HP := ((Hp.start w).keepF (laidK) hL laidK_ok (fun k hk => ⟨hL.lt k hk, fun x hx => by cases hx⟩))
 refine w_enter 200 [] Tryz.func10 rfl Tryz.ntmps10 (by kernel_rfl) (by kernel_rfl) fun a H => ?_
 refine zsq (zrg ?_)
 refine H.ge HP [(0, (.bool false))] [] fun a H => ?_
 refine ztn (zsq (zrg ?_))
 refine H.cl 22 (Tryz.call12 _ _) (plansS_any w) ?_
 rintro e w_1 ⟨AP, cp, IA, ic, rfl, hcp, hpr, hpi, hbp⟩
 refine ⟨_, rfl, ?_⟩
 intro a H
 have HP := ((HP.next hbp).keepF (rowF 13 plnC (dropA AP cp 1 13) [pl1 IA ic]) hpr (rowF_ok _ _ _ _) (fun k hk => ⟨hpr.lt k hk, fun x hx => by cases hx⟩)).keepF (itsK [pl1 IA ic]) hpi (itsK_ok _) (fun k hk => ⟨itsK_lt hpi hk, fun x hx => by cases hx⟩)
 refine H.u 23 (.slice (dropA AP cp 1 13) 1 (cp - 1)) (ex_sliceLo (len := 2) (i := 1) (sz := 13) (by kernel_rfl) (by kernel_rfl) (by kernel_rfl) (by kernel_rfl) rfl (by decide)) fun a H => ?_
 refine H.ge HP [(1, (.slice (dropA AP cp 1 13) 1 (cp - 1)))] [] fun a H => ?_
 refine ztn (zsq (zrg ?_))
 refine H.go HP 2 [(24, (.agg #[(.bool true), (.string (bstr ([107]))), (ii 0)])), (25, (.agg #[(.bool false), (.string (bstr ([112]))), (ii 0)]))] [] fun a H => H.alloc HP 26 (fun b => (.slice (some ⟨b, 0, none⟩) 2 2)) 96 [(.bool true), (.string (bstr ([107]))), (ii 0), (.bool false), (.string (bstr ([112]))), (ii 0)] (by kernel_rfl) (fun w => by kernel_rfl) fun b_2 w_3 a H HP => H.go HP 1 [(27, (.agg #[(ii 7), (.slice (some ⟨b_2, 0, none⟩) 2 2)]))] [] fun a H => H.alloc HP 28 (fun b => (.slice (some ⟨b, 0, none⟩) 1 1)) 91 [(ii 7), (.slice (some ⟨b_2, 0, none⟩) 2 2)] (by kernel_rfl) (fun w => by kernel_rfl) fun b_4 w_5 a H HP => ?_
 refine H.ge HP [(2, (.slice (some ⟨b_4, 0, none⟩) 1 1))] [] fun a H => ?_
 have hlib : IsAsts w_5 (some ⟨b_4, 0, none⟩) 1 (libS (some ⟨b_2, 0, none⟩) 2) := libS_box (HP.at_ 0 rfl) (HP.at_ 1 rfl)
 have HP := ((HP.tail rfl).tail rfl).keepF (astsK (some ⟨b_4, 0, none⟩) (libS (some ⟨b_2, 0, none⟩) 2)) hlib (fun _ _ h hk hs => IsAsts.keep h hk hs) (fun k hk => ⟨IsAsts.lt hlib hk, fun x hx => by cases hx⟩)
 refine ztn (zsq (zrg ?_))
 refine H.go HP 1 [(29, (.agg #[(ii 1), (ii 7), (ii 5), (ii 2), (ii 0), (ii 3), (.slice none 0 0)]))] [] fun a H => H.alloc HP 30 (fun b => (.slice (some ⟨b, 0, none⟩) 1 1)) 100 [(ii 1), (ii 7), (ii 5), (ii 2), (ii 0), (ii 3), (.slice none 0 0)] (by kernel_rfl) (fun w => by kernel_rfl) fun b_6 w_7 a H HP => H.go HP 1 [(31, (.agg #[(ii 0), (ii 0), (ii 0), (ii 0), (.slice none 0 0), (ii 0), (ii 0), (ii 0), (ii 0), (.slice none 0 0), (.slice none 0 0), (.slice none 0 0), (.slice none 0 0), (.slice (some ⟨b_6, 0, none⟩) 1 1), (.slice none 0 0), (ii 0), (.slice none 0 0), (ii 2)]))] [] fun a H => H.al HP 3 104 [(ii 0), (ii 0), (ii 0), (ii 0), (.slice none 0 0), (ii 0), (ii 0), (ii 0), (ii 0), (.slice none 0 0), (.slice none 0 0), (.slice none 0 0), (.slice none 0 0), (.slice none 0 0), (.slice none 0 0), (ii 0), (.slice none 0 0), (ii 0)] fun b_8 w_9 a H HP => H.st HP 0 b_8 0 18 104 true (.agg #[(ii 0), (ii 0), (ii 0), (ii 0), (.slice none 0 0), (ii 0), (ii 0), (ii 0), (ii 0), (.slice none 0 0), (.slice none 0 0), (.slice none 0 0), (.slice none 0 0), (.slice (some ⟨b_6, 0, none⟩) 1 1), (.slice none 0 0), (ii 0), (.slice none 0 0), (ii 2)]) [bx b_8 104 [(ii 0), (ii 0), (ii 0), (ii 0), (.slice none 0 0), (ii 0), (ii 0), (ii 0), (ii 0), (.slice none 0 0), (.slice none 0 0), (.slice none 0 0), (.slice none 0 0), (.slice (some ⟨b_6, 0, none⟩) 1 1), (.slice none 0 0), (ii 0), (.slice none 0 0), (ii 2)] true, bx b_6 100 [(ii 1), (ii 7), (ii 5), (ii 2), (ii 0), (ii 3), (.slice none 0 0)] true] rfl fun w_10 a H HP => ?_
 refine znl ?_
 have hbe := HP.at_ 1 rfl
 have hb3 := HP.at_ 0 rfl
 have HP := (((HP.tail rfl).tail rfl).keepF (boxK b_6 100 [(ii 1), (ii 7), (ii 5), (ii 2), (ii 0), (ii 3), (.slice none 0 0)]) hbe (boxK_ok _ _ _) (fun k hk => ⟨boxK_lt hbe hk, fun x hx => by cases hx⟩)).keepF (boxK b_8 104 [(ii 0), (ii 0), (ii 0), (ii 0), (.slice none 0 0), (ii 0), (ii 0), (ii 0), (ii 0), (.slice none 0 0), (.slice none 0 0), (.slice none 0 0), (.slice none 0 0), (.slice (some ⟨b_6, 0, none⟩) 1 1), (.slice none 0 0), (ii 0), (.slice none 0 0), (ii 2)]) hb3 (boxK_ok _ _ _) (fun k hk => ⟨boxK_lt hb3 hk, fun x hx => by cases hx⟩)
 refine ztn (zsq (zrg ?_))
 refine H.go HP 2 [(33, (.slice (dropA AP cp 1 13) 1 (cp - 1))), (34, (.slice (some ⟨b_4, 0, none⟩) 1 1))] [] fun a H => ?_
 refine H.cl 35 (Tryz.call13 _ _) ((new_any (dropA AP cp 1 13) (cp - 1) 1 [pl1 IA ic] (some ⟨b_4, 0, none⟩) (libS (some ⟨b_2, 0, none⟩) 2) w_10 pl1_ok libS_mx (HP.fact 5 rfl) (HP.fact 3 rfl) (HP.fact 4 rfl) (HP.fact 2 rfl) libS_mx2 libS_len).mono fun e w' h => newS2 h) ?_
 rintro e w_11 ⟨bs, bc, cc, SA, sc, SP, sq, rest, rfl, hN, hbn⟩
 refine ⟨_, rfl, ?_⟩
 intro a H
 have HP := sel_hp HP hN hbn
 refine H.ge HP [(4, (pt bs 0)), (5, (ii 0))] [] fun a H => ?_
 refine ztn (zsq (zrg ?_))
 refine H.go HP 1 [(39, (.slice (some ⟨b_4, 0, none⟩) 1 1))] [] fun a H => H.cb HP 40 (Tryz.call13 _ _) ((new_any none 0 1 [] (some ⟨b_4, 0, none⟩) (libS (some ⟨b_2, 0, none⟩) 2) w_11 (fun _ h => by cases h) libS_mx (HP.fact 6 rfl) (fun _ h => by cases h) (IsRow.nil _ _) (HP.fact 3 rfl) libS_mx2 libS_len).mono fun e w' h => newSN (LA := none) h) fun w_12 hb a H HP => ?_
 refine H.ge HP [(7, (ii 220))] [] fun a H => ?_
 refine ztn (zsq (zsq (zrg ?_)))
 refine H.ge HP [(52, (.bool false))] [] fun a H => ?_
 refine ztn ?_
 refine w_iff H rfl ?_
 refine zsk (ztn (zsq ?_))
 refine An.start (fun v => Hp w v [bx bs 111 [(.slice (some ⟨bc, 0, none⟩) 1 cc), (.slice SA 1 sc), (.bool false), (ii 0), (ii 0)] true, bx bc 115 (flat chC [ch0] ++ rest) true] [astsK SA (libS SP sq), boxK b_8 104 [(ii 0), (ii 0), (ii 0), (ii 0), (.slice none 0 0), (ii 0), (ii 0), (ii 0), (ii 0), (.slice none 0 0), (.slice none 0 0), (.slice none 0 0), (.slice none 0 0), (.slice (some ⟨b_6, 0, none⟩) 1 1), (.slice none 0 0), (ii 0), (.slice none 0 0), (ii 2)], boxK b_6 100 [(ii 1), (ii 7), (ii 5), (ii 2), (ii 0), (ii 3), (.slice none 0 0)], astsK (some ⟨b_4, 0, none⟩) (libS (some ⟨b_2, 0, none⟩) 2), itsK [pl1 IA ic], rowF 13 plnC (dropA AP cp 1 13) [pl1 IA ic], laidK]) 13 13 HP wide_follows rfl fun w_13 HP => ?_
 refine An.go H (.inr (HP)) 12 [0] [(54, (.slice (dropA AP cp 1 13) 1 (cp - 1)))] [] fun a H => ?_
 obtain ⟨bp, op, hpA⟩ := row_at plnC_size (HP.fact 5 rfl : IsRow 13 plnC _ (dropA AP cp 1 13) [pl1 IA ic])
 refine An.q H (.inr (HP)) 1 55 (.pointer (some ⟨bp, op + 0 * 13, none⟩)) (fun _ => ex_indexA (b := bp) (off := op) (len := 1) (cap := cp - 1) (e := 67) (k := 13) (ik := .i64) (i := 0) (m := 0) hpA (by kernel_rfl) (by kernel_rfl) rfl (by decide) (by kernel_rfl) (by kernel_rfl)) fun a H => ?_
 refine An.go H (.inr (HP)) 10 [2] [(56, (.pointer (some ⟨bp, op + 0 * 13 + 1, none⟩)))] [] fun a H => ?_
 refine An.vw H (HP) 3 57 (.agg #[(ii 25), (ii 1)]) (fun _ hS => ex_lN [(ii 25), (ii 1)] (pl_rate (hS.fact 5 rfl : IsRow 13 plnC _ (dropA AP cp 1 13) [pl1 IA ic]) hpA)) fun a H => ?_
 refine An.vw H (HP) 4 58 (.agg #[(ii 0), (ii 0), (ii 0), (ii 0), (.slice none 0 0), (ii 0), (ii 0), (ii 0), (ii 0), (.slice none 0 0), (.slice none 0 0), (.slice none 0 0), (.slice none 0 0), (.slice (some ⟨b_6, 0, none⟩) 1 1), (.slice none 0 0), (ii 0), (.slice none 0 0), (ii 2)]) (fun _ hS => ex_lN [(ii 0), (ii 0), (ii 0), (ii 0), (.slice none 0 0), (ii 0), (ii 0), (ii 0), (ii 0), (.slice none 0 0), (.slice none 0 0), (.slice none 0 0), (.slice none 0 0), (.slice (some ⟨b_6, 0, none⟩) 1 1), (.slice none 0 0), (ii 0), (.slice none 0 0), (ii 2)] (boxCells (hS.fact 1 rfl : Box _ b_8 104 _))) fun a H => ?_
 refine An.go H (.inr (HP)) 7 [5] [(59, (.slice (some ⟨b_4, 0, none⟩) 1 1))] [] fun a H => ?_
 refine An.one 6 (by kernel_rfl) ?_
 refine Op.call H 60 rfl (by kernel_rfl) (Eq.trans (by kernel_rfl : _ = (callFunc 33 #[(.agg #[(ii 0), (ii 0), (ii 0), (ii 0), (.slice none 0 0), (ii 0), (ii 0), (ii 0), (ii 0), (.slice none 0 0), (.slice none 0 0), (.slice none 0 0), (.slice none 0 0), (.slice (some ⟨b_6, 0, none⟩) 1 1), (.slice none 0 0), (ii 0), (.slice none 0 0), (ii 2)]), (.slice (some ⟨b_4, 0, none⟩) 1 1), (ii 5)]).run Tryz.prog w_13) (Tryz.call33 _ _)) (unit_5 b_6 1 2 (some ⟨b_4, 0, none⟩) (some ⟨b_2, 0, none⟩) w_13 (HP.fact 2 rfl) (HP.fact 3 rfl)) ?_
 rintro e w_14 ⟨OB5, oc5, rfl, hb⟩
 refine ⟨_, rfl, ?_⟩
 intro a H
 have HP := HP.next hb
 refine ⟨.inr (HP), ?_⟩
 refine An.one 7 (by kernel_rfl) ?_
 refine Op.call H 61 rfl (by kernel_rfl) (Eq.trans (by kernel_rfl : _ = (callFunc 28 #[(.agg #[(ii 25), (ii 1)]), (.agg #[(ii 0), (ii 5), (ii 2), (ii 7), (ii 0), (.bool true), (.string (bstr ([107]))), (ii 3), (ii 1000), (.string (bstr ([64, 0, 0]))), (ii 0), (ii 0), (.slice OB5 0 oc5)])]).run Tryz.prog w_14) (Tryz.call28 _ _)) ((by have hh := pack_any 25 1 (u5 OB5 oc5) w_14 (HP.fact 6 rfl) (alts_nil _ _) (Nat.zero_le _); rw [pack_s5] at hh; exact hh)) ?_
 rintro e w_15 ⟨rfl, hb⟩
 refine ⟨_, rfl, ?_⟩
 intro a H
 have HP := HP.next hb
 refine ⟨.inr (HP), ?_⟩
 refine An.go H (.inr (HP)) 0 [8, 9, 10, 11, 12] [(8, (.string (bstr s5)))] [] fun a H => ?_
 refine An.done (by kernel_rfl) ?_
 refine ztn (zsq ?_)
 refine An.start (fun v => Hp w v [bx bs 111 [(.slice (some ⟨bc, 0, none⟩) 1 cc), (.slice SA 1 sc), (.bool false), (ii 0), (ii 0)] true, bx bc 115 (flat chC [ch0] ++ rest) true] [astsK SA (libS SP sq), boxK b_8 104 [(ii 0), (ii 0), (ii 0), (ii 0), (.slice none 0 0), (ii 0), (ii 0), (ii 0), (ii 0), (.slice none 0 0), (.slice none 0 0), (.slice none 0 0), (.slice none 0 0), (.slice (some ⟨b_6, 0, none⟩) 1 1), (.slice none 0 0), (ii 0), (.slice none 0 0), (ii 2)], boxK b_6 100 [(ii 1), (ii 7), (ii 5), (ii 2), (ii 0), (ii 3), (.slice none 0 0)], astsK (some ⟨b_4, 0, none⟩) (libS (some ⟨b_2, 0, none⟩) 2), itsK [pl1 IA ic], rowF 13 plnC (dropA AP cp 1 13) [pl1 IA ic], laidK]) 13 13 HP wide_follows rfl fun w_16 HP => ?_
 refine An.go H (.inr (HP)) 12 [0] [(65, (.slice (dropA AP cp 1 13) 1 (cp - 1)))] [] fun a H => ?_
 refine An.q H (.inr (HP)) 1 66 (.pointer (some ⟨bp, op + 0 * 13, none⟩)) (fun _ => ex_indexA (b := bp) (off := op) (len := 1) (cap := cp - 1) (e := 67) (k := 13) (ik := .i64) (i := 0) (m := 0) hpA (by kernel_rfl) (by kernel_rfl) rfl (by decide) (by kernel_rfl) (by kernel_rfl)) fun a H => ?_
 refine An.go H (.inr (HP)) 10 [2] [(67, (.pointer (some ⟨bp, op + 0 * 13 + 1, none⟩)))] [] fun a H => ?_
 refine An.vw H (HP) 3 68 (.agg #[(ii 25), (ii 1)]) (fun _ hS => ex_lN [(ii 25), (ii 1)] (pl_rate (hS.fact 5 rfl : IsRow 13 plnC _ (dropA AP cp 1 13) [pl1 IA ic]) hpA)) fun a H => ?_
 refine An.vw H (HP) 4 69 (.agg #[(ii 0), (ii 0), (ii 0), (ii 0), (.slice none 0 0), (ii 0), (ii 0), (ii 0), (ii 0), (.slice none 0 0), (.slice none 0 0), (.slice none 0 0), (.slice none 0 0), (.slice (some ⟨b_6, 0, none⟩) 1 1), (.slice none 0 0), (ii 0), (.slice none 0 0), (ii 2)]) (fun _ hS => ex_lN [(ii 0), (ii 0), (ii 0), (ii 0), (.slice none 0 0), (ii 0), (ii 0), (ii 0), (ii 0), (.slice none 0 0), (.slice none 0 0), (.slice none 0 0), (.slice none 0 0), (.slice (some ⟨b_6, 0, none⟩) 1 1), (.slice none 0 0), (ii 0), (.slice none 0 0), (ii 2)] (boxCells (hS.fact 1 rfl : Box _ b_8 104 _))) fun a H => ?_
 refine An.go H (.inr (HP)) 7 [5] [(70, (.slice (some ⟨b_4, 0, none⟩) 1 1))] [] fun a H => ?_
 refine An.one 6 (by kernel_rfl) ?_
 refine Op.call H 71 rfl (by kernel_rfl) (Eq.trans (by kernel_rfl : _ = (callFunc 33 #[(.agg #[(ii 0), (ii 0), (ii 0), (ii 0), (.slice none 0 0), (ii 0), (ii 0), (ii 0), (ii 0), (.slice none 0 0), (.slice none 0 0), (.slice none 0 0), (.slice none 0 0), (.slice (some ⟨b_6, 0, none⟩) 1 1), (.slice none 0 0), (ii 0), (.slice none 0 0), (ii 2)]), (.slice (some ⟨b_4, 0, none⟩) 1 1), (ii 6)]).run Tryz.prog w_16) (Tryz.call33 _ _)) (unit_6 b_6 1 2 (some ⟨b_4, 0, none⟩) (some ⟨b_2, 0, none⟩) w_16 (HP.fact 2 rfl) (HP.fact 3 rfl)) ?_
 rintro e w_17 ⟨OB6, oc6, rfl, hb⟩
 refine ⟨_, rfl, ?_⟩
 intro a H
 have HP := HP.next hb
 refine ⟨.inr (HP), ?_⟩
 refine An.one 7 (by kernel_rfl) ?_
 refine Op.call H 72 rfl (by kernel_rfl) (Eq.trans (by kernel_rfl : _ = (callFunc 28 #[(.agg #[(ii 25), (ii 1)]), (.agg #[(ii 0), (ii 6), (ii 2), (ii 7), (ii 1), (.bool false), (.string (bstr ([112]))), (ii 3), (ii 1000), (.string (bstr ([0, 0, 0]))), (ii 0), (ii 0), (.slice OB6 0 oc6)])]).run Tryz.prog w_17) (Tryz.call28 _ _)) ((by have hh := pack_any 25 1 (u6 OB6 oc6) w_17 (HP.fact 6 rfl) (alts_nil _ _) (Nat.zero_le _); rw [pack_s6] at hh; exact hh)) ?_
 rintro e w_18 ⟨rfl, hb⟩
 refine ⟨_, rfl, ?_⟩
 intro a H
 have HP := HP.next hb
 refine ⟨.inr (HP), ?_⟩
 refine An.go H (.inr (HP)) 0 [8, 9, 10, 11, 12] [(10, (.string (bstr s6)))] [] fun a H => ?_
 refine An.done (by kernel_rfl) ?_
 refine ztn (zsq (zrg ?_))
 refine H.go HP 2 [(75, (pt bs 0)), (76, (.string (bstr s5)))] [] fun a H => H.alloc HP 77 (fun b => (.slice (some ⟨b, 0, none⟩) 1 1)) 9 [(.string (bstr s5))] (by kernel_rfl) (fun w => by kernel_rfl) fun b_19 w_20 a H HP => ?_
 refine H.cl 78 (Tryz.call20 _ _) ((chooseX bs bc cc sc sq SA SP false 0 0 4 rest ch0 cA (some ⟨b_19, 0, none⟩) none 1 0 [s5] [] w_20 (allA _ _) chA_ok s5_ok s0_ok (by decide) (by decide) (HP.ne 1 2 rfl rfl (by decide)) (HP.factNo 0 2 rfl rfl) (HP.ge2 6 2 rfl rfl) (rowFp_ne (HP.ne 0 2 rfl rfl (by decide))) rowFp_none (HP.fact 6 rfl) (HP.fact 0 rfl) (HP.at_ 1 rfl) (HP.at_ 2 rfl) (str1 (HP.at_ 0 rfl)) (IsRow.nil _ _)).mono fun e w' h => chooseX2 h) ?_
 rintro e w_21 ⟨AA, cA_, uA, rfl, hrA, ⟨hfA, hiA, hxA, hdA⟩, hqA, hbx, hgr⟩
 refine ⟨_, rfl, ?_⟩
 intro a H
 have HP := HP.changedRow 2 rfl (flat chC [cA.2] ++ rest) [bx b_19 9 [(.string (bstr s5))] true, bx bs 111 [(.slice (some ⟨bc, 0, none⟩) 1 cc), (.slice SA 1 sc), (.bool false), (ii 0), (ii 0)] true, bx bc 115 (flat chC [cA.2] ++ rest) true] (by kernel_rfl) hgr hbx hrA hqA
 refine H.ge HP [(12, (.slice AA 1 cA_))] [] fun a H => ?_
 refine ztn (zsq (zrg ?_))
 refine H.go HP 2 [(79, (pt bs 0)), (80, (.agg #[(ii 3), (ii 0), (ii 0), (ii 4), (ii 2), (ii 0), (ii 0), (ii 0), (ii 0), (ii 0), (ii 0), (ii 0), (ii 0), (ii 0), (ii 0), (ii 0), (ii 0), (.slice none 0 0), (ii 0), (ii 0), (ii 0), (ii 0), (ii 0), (ii 0), (ii 0), (ii 0), (ii 0), (ii 0), (ii 0), (ii 0), (.string (bstr ([])))]))] [] fun a H => ?_
 refine H.cl 81 (Tryz.call16 _ _) (receive_any bs bc 1 cc SA 1 sc false 0 0 0 4 2 w_21 (HP.at_ 1 rfl) (by decide)) ?_
 rintro e w_22 ⟨rfl, hbx, hgr⟩
 refine ⟨_, rfl, ?_⟩
 intro a H
 have HP := (HP.changed 1 rfl [(.slice (some ⟨bc, 0, none⟩) 1 cc), (.slice SA 1 sc), (.bool true), (ii 4), (ii 2)] [bx b_19 9 [(.string (bstr s5))] true, bx bs 111 [(.slice (some ⟨bc, 0, none⟩) 1 cc), (.slice SA 1 sc), (.bool true), (ii 4), (ii 2)] true, bx bc 115 (flat chC [cA.2] ++ rest) true] (by kernel_rfl) hgr (by have hh := hbx; rw [recv_new (by decide) (by decide) (.inl rfl)] at hh; exact hh))
 refine znl (ztn (zsq (zrg ?_)))
 refine H.go HP 2 [(82, (pt bs 0)), (83, (.string (bstr s5)))] [] fun a H => H.alloc HP 84 (fun b => (.slice (some ⟨b, 0, none⟩) 1 1)) 9 [(.string (bstr s5))] (by kernel_rfl) (fun w => by kernel_rfl) fun b_23 w_24 a H HP => ?_
 refine H.cl 85 (Tryz.call20 _ _) ((chooseX bs bc cc sc sq SA SP true 4 2 5 rest cA.2 cB (some ⟨b_23, 0, none⟩) none 1 0 [s5] [] w_24 (allB _ _) chB_ok s5_ok s0_ok (by decide) (by decide) (HP.ne 2 3 rfl rfl (by decide)) (HP.factNo 1 3 rfl rfl) (HP.ge2 7 3 rfl rfl) (rowFp_ne (HP.ne 0 3 rfl rfl (by decide))) rowFp_none (HP.fact 7 rfl) (HP.fact 1 rfl) (HP.at_ 2 rfl) (HP.at_ 3 rfl) (str1 (HP.at_ 0 rfl)) (IsRow.nil _ _)).mono fun e w' h => chooseX2 h) ?_
 rintro e w_25 ⟨AB, cB_, uB, rfl, hrB, ⟨hfB, hiB, hxB, hdB⟩, hqB, hbx, hgr⟩
 refine ⟨_, rfl, ?_⟩
 intro a H
 have HP := HP.changedRow 3 rfl (flat chC [cB.2] ++ rest) [bx b_23 9 [(.string (bstr s5))] true, bx b_19 9 [(.string (bstr s5))] true, bx bs 111 [(.slice (some ⟨bc, 0, none⟩) 1 cc), (.slice SA 1 sc), (.bool true), (ii 4), (ii 2)] true, bx bc 115 (flat chC [cB.2] ++ rest) true] (by kernel_rfl) hgr hbx hrB hqB
 refine H.ge HP [(13, (.slice AB 1 cB_))] [] fun a H => ?_
 refine ztn (zsq (zrg ?_))
 refine H.go HP 2 [(86, (pt bs 0)), (87, (.string (bstr s6)))] [] fun a H => H.alloc HP 88 (fun b => (.slice (some ⟨b, 0, none⟩) 1 1)) 9 [(.string (bstr s6))] (by kernel_rfl) (fun w => by kernel_rfl) fun b_26 w_27 a H HP => ?_
 refine H.cl 89 (Tryz.call20 _ _) ((chooseX bs bc cc sc sq SA SP true 4 2 6 rest cB.2 cC none (some ⟨b_26, 0, none⟩) 0 1 [] [s6] w_27 (allD _ _) chC_ok s0_ok s6_ok (by decide) (by decide) (HP.ne 3 4 rfl rfl (by decide)) (HP.factNo 2 4 rfl rfl) (HP.ge2 8 4 rfl rfl) rowFp_none (rowFp_ne (HP.ne 0 4 rfl rfl (by decide))) (HP.fact 8 rfl) (HP.fact 2 rfl) (HP.at_ 3 rfl) (HP.at_ 4 rfl) (IsRow.nil _ _) (str1 (HP.at_ 0 rfl))).mono fun e w' h => chooseX2 h) ?_
 rintro e w_28 ⟨AC, cC_, uC, rfl, hrC, ⟨hfC, hiC, hxC, hdC⟩, hqC, hbx, hgr⟩
 refine ⟨_, rfl, ?_⟩
 intro a H
 have HP := HP.changedRow 4 rfl (flat chC [cC.2] ++ rest) [bx b_26 9 [(.string (bstr s6))] true, bx b_23 9 [(.string (bstr s5))] true, bx b_19 9 [(.string (bstr s5))] true, bx bs 111 [(.slice (some ⟨bc, 0, none⟩) 1 cc), (.slice SA 1 sc), (.bool true), (ii 4), (ii 2)] true, bx bc 115 (flat chC [cC.2] ++ rest) true] (by kernel_rfl) hgr hbx hrC hqC
 refine H.ge HP [(14, (.slice AC 1 cC_))] [] fun a H => ?_
 refine ztn (zsq (zrg ?_))
 refine H.go HP 2 [(90, (pt bs 0)), (91, (.string (bstr s6)))] [] fun a H => H.alloc HP 92 (fun b => (.slice (some ⟨b, 0, none⟩) 1 1)) 9 [(.string (bstr s6))] (by kernel_rfl) (fun w => by kernel_rfl) fun b_29 w_30 a H HP => H.go HP 1 [(93, (.string (bstr s6)))] [] fun a H => H.alloc HP 94 (fun b => (.slice (some ⟨b, 0, none⟩) 1 1)) 9 [(.string (bstr s6))] (by kernel_rfl) (fun w => by kernel_rfl) fun b_31 w_32 a H HP => ?_
 refine H.cl 95 (Tryz.call20 _ _) ((chooseX bs bc cc sc sq SA SP true 4 2 7 rest cC.2 cD (some ⟨b_29, 0, none⟩) (some ⟨b_31, 0, none⟩) 1 1 [s6] [s6] w_32 (allE _ _) chD_ok s6_ok s6_ok (by decide) (by decide) (HP.ne 5 6 rfl rfl (by decide)) (HP.factNo 3 6 rfl rfl) (HP.ge2 9 6 rfl rfl) (rowFp_ne (HP.ne 1 6 rfl rfl (by decide))) (rowFp_ne (HP.ne 0 6 rfl rfl (by decide))) (HP.fact 9 rfl) (HP.fact 3 rfl) (HP.at_ 5 rfl) (HP.at_ 6 rfl) (str1 (HP.at_ 1 rfl)) (str1 (HP.at_ 0 rfl))).mono fun e w' h => chooseX2 h) ?_
 rintro e w_33 ⟨AD, cD_, uD, rfl, hrD, ⟨hfD, hiD, hxD, hdD⟩, hqD, hbx, hgr⟩
 refine ⟨_, rfl, ?_⟩
 intro a H
 have HP := HP.changedRow 6 rfl (flat chC [cD.2] ++ rest) [bx b_31 9 [(.string (bstr s6))] true, bx b_29 9 [(.string (bstr s6))] true, bx b_26 9 [(.string (bstr s6))] true, bx b_23 9 [(.string (bstr s5))] true, bx b_19 9 [(.string (bstr s5))] true, bx bs 111 [(.slice (some ⟨bc, 0, none⟩) 1 cc), (.slice SA 1 sc), (.bool true), (ii 4), (ii 2)] true, bx bc 115 (flat chC [cD.2] ++ rest) true] (by kernel_rfl) hgr hbx hrD hqD
 refine H.ge HP [(15, (.slice AD 1 cD_))] [] fun a H => ?_
 refine ztn (zsq (zrg ?_))
 refine H.go HP 1 [(97, (pt bs 0))] [] fun a H => H.cb HP 98 (Tryz.call25 _ _) ((by have hh := floor_any bs bc 1 cc SA (libS SP sq) sc true 4 2 12 w_33 (HP.at_ 5 rfl) (by decide) (by decide) (by decide); rw [sane_fl.1] at hh; exact hh)) fun w_34 hb a H HP => ?_
 refine H.ge HP [(16, (ii 2)), (17, (.bool true))] [] fun a H => ?_
 refine ztn (zsq (zrg ?_))
 refine H.go HP 1 [(102, (pt bs 0))] [] fun a H => H.cb HP 103 (Tryz.call25 _ _) ((by have hh := floor_any bs bc 1 cc SA (libS SP sq) sc true 4 2 13 w_34 (HP.at_ 5 rfl) (by decide) (by decide) (by decide); rw [sane_fl.2] at hh; exact hh)) fun w_35 hb a H HP => ?_
 refine H.ge HP [(19, (.bool false))] [] fun a H => ?_
 refine ztn (zsq (zsq (zrg ?_)))
 refine H.ge HP [(123, (.bool false))] [] fun a H => ?_
 refine ztn ?_
 refine w_iff H rfl ?_
 refine zsk (ztn (zsq (zrg ?_)))
 refine H.ge HP [(20, (.pointer none))] [] fun a H => ?_
 refine ztn (zsq (zrg ?_))
 refine H.go HP 2 [(124, (.pointer none)), (125, (.agg #[(ii 3), (ii 0), (ii 0), (ii 0), (ii 0), (ii 0), (ii 0), (ii 0), (ii 0), (ii 0), (ii 0), (ii 0), (ii 0), (ii 0), (ii 0), (ii 0), (ii 0), (.slice none 0 0), (ii 0), (ii 0), (ii 0), (ii 0), (ii 0), (ii 0), (ii 0), (ii 0), (ii 0), (ii 0), (ii 0), (ii 0), (.string (bstr ([])))]))] [] fun a H => H.cb HP 126 (Tryz.call16 _ _) (receiveN_any 0 0 0 w_35) fun w_36 hb a H HP => ?_
 refine znl (ztn (zsq (zrg ?_)))
 refine H.go HP 1 [(127, (.pointer none))] [] fun a H => H.cb HP 128 (Tryz.call20 _ _) (chooseN_any 1 w_36) fun w_37 hb a H HP => H.go HP 4 [(131, (.bool true)), (132, (.pointer none))] [] fun a H => H.cb HP 133 (Tryz.call22 _ _) (fullN_any 0 w_37) fun w_38 hb a H HP => ?_
 refine H.ge HP [(21, (.bool true))] [] fun a H => ?_
 refine ztn (zsq (zrg ?_))
 refine H.go HP 3 [(137, (.bool true)), (138, (.slice AA 1 cA_))] [] fun a H => ?_
 obtain ⟨bA, oA, hAA⟩ := row_at unC_size (HP.fact 3 rfl : IsRow 13 unC _ AA [uA])
 refine H.u 139 (.pointer (some ⟨bA, oA + 0 * 13, none⟩)) (ex_indexA (b := bA) (off := oA) (len := 1) (cap := cA_) (e := 76) (k := 13) (ik := .i64) (i := 0) (m := 0) hAA (by kernel_rfl) (by kernel_rfl) rfl (by decide) (by kernel_rfl) (by kernel_rfl)) fun a H => H.go HP 1 [(140, (.pointer (some ⟨bA, oA + 0 * 13 + 3, none⟩)))] [] fun a H => H.u 141 (ii 0) (ex_l1 (un_item (HP.fact 3 rfl : IsRow 13 unC _ AA [uA]) hAA (hiA.trans sane_A))) fun a H => H.go HP 4 [(144, (.bool true)), (145, (.slice AB 1 cB_))] [] fun a H => ?_
 obtain ⟨bB, oB, hAB⟩ := row_at unC_size (HP.fact 2 rfl : IsRow 13 unC _ AB [uB])
 refine H.u 146 (.pointer (some ⟨bB, oB + 0 * 13, none⟩)) (ex_indexA (b := bB) (off := oB) (len := 1) (cap := cB_) (e := 76) (k := 13) (ik := .i64) (i := 0) (m := 0) hAB (by kernel_rfl) (by kernel_rfl) rfl (by decide) (by kernel_rfl) (by kernel_rfl)) fun a H => H.go HP 1 [(147, (.pointer (some ⟨bB, oB + 0 * 13 + 3, none⟩)))] [] fun a H => H.u 148 (ii 7) (ex_l1 (un_item (HP.fact 2 rfl : IsRow 13 unC _ AB [uB]) hAB (hiB.trans sane_B.1))) fun a H => H.go HP 4 [(151, (.bool true)), (152, (.slice AB 1 cB_))] [] fun a H => H.u 153 (.pointer (some ⟨bB, oB + 0 * 13, none⟩)) (ex_indexA (b := bB) (off := oB) (len := 1) (cap := cB_) (e := 76) (k := 13) (ik := .i64) (i := 0) (m := 0) hAB (by kernel_rfl) (by kernel_rfl) rfl (by decide) (by kernel_rfl) (by kernel_rfl)) fun a H => H.go HP 1 [(154, (.pointer (some ⟨bB, oB + 0 * 13 + 6, none⟩)))] [] fun a H => H.u 155 (.string (bstr ([107]))) (ex_l1 (un_data (HP.fact 2 rfl : IsRow 13 unC _ AB [uB]) hAB (hdB.trans sane_B.2))) fun a H => H.valE 156 (.bool ((bstr ([107])).toList == (bstr ([107])).toList)) (.bool true) (by kernel_rfl) (by kernel_rfl) ((congrArg Value.bool (beq_self_eq_true _))) fun a H => H.go HP 3 [(158, (.bool true)), (159, (.slice AC 1 cC_))] [] fun a H => ?_
 obtain ⟨bC, oC, hAC⟩ := row_at unC_size (HP.fact 1 rfl : IsRow 13 unC _ AC [uC])
 refine H.u 160 (.pointer (some ⟨bC, oC + 0 * 13, none⟩)) (ex_indexA (b := bC) (off := oC) (len := 1) (cap := cC_) (e := 76) (k := 13) (ik := .i64) (i := 0) (m := 0) hAC (by kernel_rfl) (by kernel_rfl) rfl (by decide) (by kernel_rfl) (by kernel_rfl)) fun a H => H.go HP 1 [(161, (.pointer (some ⟨bC, oC + 0 * 13 + 4, none⟩)))] [] fun a H => H.u 162 (ii 1) (ex_l1 (un_index (HP.fact 1 rfl : IsRow 13 unC _ AC [uC]) hAC (hxC.trans sane_C))) fun a H => H.go HP 4 [(165, (.bool true)), (166, (.slice AD 1 cD_))] [] fun a H => ?_
 obtain ⟨bD, oD, hAD⟩ := row_at unC_size (HP.fact 0 rfl : IsRow 13 unC _ AD [uD])
 refine H.u 167 (.pointer (some ⟨bD, oD + 0 * 13, none⟩)) (ex_indexA (b := bD) (off := oD) (len := 1) (cap := cD_) (e := 76) (k := 13) (ik := .i64) (i := 0) (m := 0) hAD (by kernel_rfl) (by kernel_rfl) rfl (by decide) (by kernel_rfl) (by kernel_rfl)) fun a H => H.go HP 1 [(168, (.pointer (some ⟨bD, oD + 0 * 13 + 3, none⟩)))] [] fun a H => H.u 169 (ii 0) (ex_l1 (un_item (HP.fact 0 rfl : IsRow 13 unC _ AD [uD]) hAD (hiD.trans sane_D.1))) fun a H => H.go HP 4 [(172, (.bool true)), (173, (.slice AD 1 cD_))] [] fun a H => H.u 174 (.pointer (some ⟨bD, oD + 0 * 13, none⟩)) (ex_indexA (b := bD) (off := oD) (len := 1) (cap := cD_) (e := 76) (k := 13) (ik := .i64) (i := 0) (m := 0) hAD (by kernel_rfl) (by kernel_rfl) rfl (by decide) (by kernel_rfl) (by kernel_rfl)) fun a H => H.go HP 1 [(175, (.pointer (some ⟨bD, oD + 0 * 13 + 1, none⟩)))] [] fun a H => H.u 176 (ii 7) (ex_l1 (un_frame (HP.fact 0 rfl : IsRow 13 unC _ AD [uD]) hAD (hfD.trans sane_D.2))) fun a H => H.go HP 15 [(190, (.bool true)), (191, (pt bs 0))] [] fun a H => H.cb HP 192 (Tryz.call22 _ _) ((by have hh := full_any bs bc cc _ _ _ _ [cD.2] rest 0 w_38 (by decide) (by decide) (HP.at_ 5 rfl) (HP.at_ 6 rfl); rw [full_D0] at hh; exact hh)) fun w_39 hb a H HP => H.valE 193 (.bool (decide (cD.2.full > 500))) (.bool true) (by kernel_rfl) (by kernel_rfl) ((congrArg Value.bool sane_full.1)) fun a H => H.go HP 3 [(195, (.bool true)), (196, (pt bs 0))] [] fun a H => H.cb HP 197 (Tryz.call22 _ _) ((by have hh := full_any bs bc cc _ _ _ _ [cD.2] rest 1 w_39 (by decide) (by decide) (HP.at_ 5 rfl) (HP.at_ 6 rfl); rw [full_D1] at hh; exact hh)) fun w_40 hb a H HP => ?_
 refine H.ge HP [(0, (.bool true))] [] fun a H => ?_
 refine ztn (zrt ?_)
 refine H.r1 (.bool true) Tryz.results10 ?_
 exact ⟨rfl, HP.bl⟩
def in64 (n : Int) : Prop := -9223372036854775808 ≤ n ∧ n ≤ 9223372036854775807
theorem Hp.toK {w0 w : World} {x : HB} {L : List HB} {K : List FK} (H : Hp w0 w (x :: L) K) (hx : x.fresh = true) (p : FK) (hF : p.F w) (hok : p.ok) (hsub : ∀ k, p.fp k → x.fp k) : Hp w0 w L (p :: K) :=
  (H.tail hx).keepF p hF hok (fun k hk => ⟨(H.res x (List.mem_cons_self ..)).2.2 k (hsub k hk), fun y hy hyk => by
    cases H.apart with
    | cons h _ => exact h y hy k (hsub k hk) hyk⟩)
theorem Hp.copyK {w0 w : World} {L : List HB} {K : List FK} (H : Hp w0 w L K) (q : Nat) {p : FK} (hq : K[q]? = some p) (p' : FK) (hF : p'.F w) (hok : p'.ok) (hsub : ∀ k, p'.fp k → p.fp k) : Hp w0 w L (p' :: K) :=
  H.keepF p' hF hok (fun k hk => (H.kept p (List.mem_of_getElem? hq)).2.2 k (hsub k hk))
theorem Hp.emptyK {w0 w : World} {L : List HB} {K : List FK} (H : Hp w0 w L K) (p : FK) (hF : p.F w) (hok : p.ok) (hno : ∀ k, ¬ p.fp k) : Hp w0 w L (p :: K) := H.keepF p hF hok (fun k hk => absurd hk (hno k))
theorem plansN_any (w : World) : Calls Tryz.prog 12 #[] w fun e w' => ∃ A c I0 i0 I1 i1, e = .returned (.slice A 2 c) ∧ (rowsR w.heap.size 67 13 plnC okT feF (.slice A 2 c) [pl0 I0 i0, pl1 I1 i1]).F w' ∧ (∀ p ∈ [pl0 I0 i0, pl1 I1 i1], IsRow 5 itC w' p.IA its3) ∧ (∀ k, (itsK [pl0 I0 i0, pl1 I1 i1]).fp k → k < w'.heap.size ∧ (Value.slice A 2 c).ownBlock ≠ some k) ∧ Below w.heap.size w w' :=
  (plans_any w).mono fun e w' ⟨A, c, ps, he, hk, hr, hb⟩ => by
    match ps, hk, hr with
    | [⟨p1, p2, p3, I0, i0⟩, ⟨q1, q2, q3, I1, i1⟩], hk, hr =>
      simp only [List.map_cons, List.map_nil, PlS.key, plKeys, List.cons.injEq, Prod.mk.injEq, and_true] at hk
      obtain ⟨⟨rfl, rfl, rfl⟩, rfl, rfl, rfl⟩ := hk
      exact ⟨A, c, I0, i0, I1, i1, he, ⟨hr.1, fun a ha => ⟨trivial, fun k hk => by cases hk⟩⟩, fun p hp => (hr.2 p hp).1, fun k ⟨p, hp, hf⟩ => (hr.2 p hp).2 k hf, hb⟩
    | [], hk, _ => cases hk
    | [_], hk, _ => simp [plKeys] at hk
    | _ :: _ :: _ :: _, hk, _ => simp [plKeys] at hk
abbrev Apart3 (a0 a1 a2 : AstA) : Prop := [a0, a1, a2].Pairwise fun a b => ∀ k, astFp a k → ¬ astFp b k
abbrev libR (n0 : Nat) (LA : Option Addr) (lc : Nat) (a0 a1 a2 : AstA) : HB := rowsR n0 91 2 AstA.cells astOw astFp (.slice LA 3 lc) [a0, a1, a2]
theorem libraryN_any (w : World) : Calls Tryz.prog 11 #[.slice none 0 0] w fun e w' => ∃ A c a0 a1 a2, e = .returned (.slice A 3 c) ∧ LibOk [a0, a1, a2] ∧ Apart3 a0 a1 a2 ∧ (libR w.heap.size A c a0 a1 a2).F w' ∧ (∀ k, (libR w.heap.size A c a0 a1 a2).fp k → w.heap.size ≤ k ∧ k < w'.heap.size) ∧ Below w.heap.size w w' :=
  (library_any none 0 [] w (Nat.zero_le _) (fun _ h => by cases h) (IsRow.nil _ _)).mono fun e w' ⟨A, c, li, he, hi, hp, hd, hr, hf, hb⟩ => by
    have hl : li.length = 3 := by
      have := congrArg List.length hi
      rwa [List.length_map] at this
    match li, hl with
    | [a0, a1, a2], _ => exact ⟨A, c, a0, a1, a2, he, ⟨hi, hp⟩, hd, hr, hf, hb⟩
def libRest (LA : Option Addr) (a0 a1 a2 : AstA) : FK := ⟨fun k => (∃ off, LA = some ⟨k, off, none⟩) ∨ astFp a0 k ∨ astFp a2 k, fun w => IsRw 2 AstA.cells w LA 3 [a0, a1, a2] ∧ a0.ok w ∧ a2.ok w⟩
theorem libRest_ok (LA : Option Addr) (a0 a1 a2 : AstA) : (libRest LA a0 a1 a2).ok := fun w1 w2 h hk hs =>
  ⟨⟨h.1.1, h.1.2.keep (fun k hk' => hk k (.inl hk'.2)) hs⟩, elOk_ast a0 w1 w2 h.2.1 (fun k hk' => hk k (.inr (.inl hk'))) hs, elOk_ast a2 w1 w2 h.2.2 (fun k hk' => hk k (.inr (.inr hk'))) hs⟩
theorem Hp.splitLib {w0 w : World} {L : List HB} {K : List FK} {LA : Option Addr} {lc n0 : Nat} {a0 a1 a2 : AstA} (H : Hp w0 w (libR n0 LA lc a0 a1 a2 :: L) K) (hd : Apart3 a0 a1 a2) (h1 : 0 < a1.pics.length) :
    ∃ b tl, a1.A = some ⟨b, 0, none⟩ ∧ a1.pics.length ≤ a1.c ∧ a1.c ≤ maxLen ∧ Hp w0 w (bx b 96 (flat PicA.cells a1.pics ++ tl) true :: L) (libRest LA a0 a1 a2 :: K) := by
  have m0 : a0 ∈ [a0, a1, a2] := List.mem_cons_self ..
  have m1 : a1 ∈ [a0, a1, a2] := List.mem_cons_of_mem _ (List.mem_cons_self ..)
  have m2 : a2 ∈ [a0, a1, a2] := List.mem_cons_of_mem _ (List.mem_cons_of_mem _ (List.mem_cons_self ..))
  have hx := H.res _ (List.mem_cons_self ..)
  have hF : w.ownsRow n0 91 2 (.slice LA 3 lc) 3 (flat AstA.cells [a0, a1, a2]) ∧ ∀ a ∈ [a0, a1, a2], astOw a w ∧ ∀ k, astFp a k → k < w.heap.size ∧ (Value.slice LA 3 lc).ownBlock ≠ some k := hx.1
  obtain ⟨b, tl, e, hb⟩ := (hF.2 a1 m1).1.2 h1
  have hfp1 : astFp a1 b := ⟨h1, 0, e⟩
  have hsub : ∀ a ∈ [a0, a1, a2], ∀ k, astFp a k → (libR n0 LA lc a0 a1 a2).fp k := fun a ha k hk => .inr ⟨a, ha, hk⟩
  have hsubL : ∀ k off, LA = some ⟨k, off, none⟩ → (libR n0 LA lc a0 a1 a2).fp k := fun k off ea => .inl (by rw [ea]; rfl)
  have hap : ∀ y ∈ L, ∀ k, (libR n0 LA lc a0 a1 a2).fp k → ¬ y.fp k := by
    cases H.apart with
    | cons h _ => exact fun y hy k hk => h y hy k hk
  obtain ⟨hd0, hd'⟩ := List.pairwise_cons.1 hd
  obtain ⟨hd1, _⟩ := List.pairwise_cons.1 hd'
  refine ⟨b, tl, e, (hF.2 a1 m1).1.1.2.1, (hF.2 a1 m1).1.1.2.2.1, ?_⟩
  have H2 := (H.tail rfl).add (bx b 96 (flat PicA.cells a1.pics ++ tl) true) hb (bx_ok _ _ _ _) (fun k hk => by cases hk; exact hb.lt)
    (fun k hk => by cases hk; exact ⟨fun y hy => hap y hy b (hsub a1 m1 b hfp1), fun p hp hpk => ((H.kept p hp).2.2 b hpk).2 _ (List.mem_cons_self ..) (hsub a1 m1 b hfp1)⟩)
    (fun _ k hk => by cases hk; exact H.fresh _ (List.mem_cons_self ..) rfl b (hsub a1 m1 b hfp1))
  refine H2.keepF (libRest LA a0 a1 a2) ⟨⟨rfl, Rd.of_own hF.1⟩, (hF.2 a0 m0).1.1, (hF.2 a2 m2).1.1⟩ (libRest_ok _ _ _ _) fun k hk => ?_
  have hk' : (libR n0 LA lc a0 a1 a2).fp k ∧ k ≠ b := by
    rcases hk with ⟨off, ea⟩ | hk | hk
    · exact ⟨hsubL k off ea, fun ek => (hF.2 a1 m1).2 b hfp1 |>.2 (by rw [ea, ← ek]; rfl)⟩
    · exact ⟨hsub a0 m0 k hk, fun ek => hd0 a1 (List.mem_cons_self ..) k hk (ek ▸ hfp1)⟩
    · exact ⟨hsub a2 m2 k hk, fun ek => hd1 a2 (List.mem_cons_self ..) b hfp1 (ek ▸ hk)⟩
  refine ⟨hx.2.2 k hk'.1, fun y hy hyk => ?_⟩
  rcases List.mem_cons.1 hy with rfl | hy
  · exact hk'.2 hyk
  · exact hap y hy k hk'.1 hyk
theorem Hp.joinLib {w0 w : World} {L : List HB} {K : List FK} {LA : Option Addr} {a0 a1 a2 : AstA} {b : Nat} {qs : List PicA} {tl : List Value} (H : Hp w0 w (bx b 96 (flat PicA.cells qs ++ tl) true :: L) K) (q : Nat) (hq : K[q]? = some (libRest LA a0 a1 a2)) (hA : a1.A = some ⟨b, 0, none⟩) (hl : qs.length = a1.pics.length) (h1 : a1.pics.length ≤ a1.c) (h2 : a1.c ≤ maxLen) :
    Hp w0 w L (astsK LA [a0, ⟨a1.item, a1.A, a1.c, qs⟩, a2] :: K) := by
  have hk := H.kept _ (List.mem_of_getElem? hq)
  have hF : IsRw 2 AstA.cells w LA 3 [a0, a1, a2] ∧ a0.ok w ∧ a2.ok w := hk.1
  have hb : Box w b 96 (flat PicA.cells qs ++ tl).toArray := H.at_ 0 rfl
  have hok1 : (⟨a1.item, a1.A, a1.c, qs⟩ : AstA).ok w := by
    refine ⟨⟨rfl, ?_⟩, (by show qs.length ≤ a1.c; omega), h2, (fun e => by have e : a1.A = none := e; rw [hA] at e; cases e), trivial⟩
    show Rd w 3 a1.A qs.length (flat PicA.cells qs)
    rw [hA]
    exact IsRow.ofBox PicA.cells_size hb
  have e : rowCells AstA.cells [a0, ⟨a1.item, a1.A, a1.c, qs⟩, a2] = rowCells AstA.cells [a0, a1, a2] := by simp [rowCells, hl]
  refine (H.tail rfl).keepF _ (show IsAsts w LA 3 [a0, ⟨a1.item, a1.A, a1.c, qs⟩, a2] from ⟨⟨rfl, by rw [e]; exact hF.1.2⟩, fun a ha => ?_⟩) (fun _ _ h hk hs => IsAsts.keep h hk hs) fun k hkk => ?_
  · simp only [List.mem_cons, List.not_mem_nil, or_false] at ha
    rcases ha with rfl | rfl | rfl
    · exact hF.2.1
    · exact hok1
    · exact hF.2.2
  · have hap : ∀ y ∈ L, ¬ y.fp b := by
      cases H.apart with
      | cons h _ => exact fun y hy => h y hy b rfl
    have hr : ∀ k, (libRest LA a0 a1 a2).fp k → k < w.heap.size ∧ ∀ x ∈ L, ¬ x.fp k := fun k hk' => ⟨(hk.2.2 k hk').1, fun x hx => (hk.2.2 k hk').2 x (List.mem_cons_of_mem _ hx)⟩
    rcases hkk with ⟨_, off, ea⟩ | ⟨a, ha, hka⟩
    · exact hr k (.inl ⟨off, ea⟩)
    · simp only [List.mem_cons, List.not_mem_nil, or_false] at ha
      rcases ha with rfl | rfl | rfl
      · exact hr k (.inr (.inl hka))
      · obtain ⟨_, off, ea⟩ := hka
        have ea : a1.A = some ⟨k, off, none⟩ := ea
        rw [hA] at ea
        cases ea
        exact ⟨hb.lt, hap⟩
      · exact hr k (.inr (.inr hka))
theorem valid_key {it : Int} {l : List PicA} (h : (l.getD 0 picZ).key = false) : validA it l = false := by unfold validA; rw [h]; simp
def NewV (ps : List PlS) (lib : List AstA) (n0 : Nat) (w' : World) (sv ev : Value) : Prop :=
  (newP ps lib = false ∧ sv = .pointer none ∧ ev = .int .i64 220) ∨ (newP ps lib = true ∧ ∃ bs bc cc SA sc l' rest, sv = .pointer (some ⟨bs, 0, none⟩) ∧ ev = .int .i64 0 ∧ SelN ps lib n0 bs bc cc SA sc l' rest w')
theorem newV {ps : List PlS} {lib : List AstA} {w w' : World} {e : Ending} (h : RetSel ps lib w e w') : ∃ sv ev, e = .returned (.tuple #[sv, ev]) ∧ NewV ps lib w.heap.size w' sv ev ∧ Below w.heap.size w w' := by
  rcases h with ⟨h, he, hb⟩ | ⟨h, bs, bc, cc, SA, sc, l', rest, he, hN, hb⟩
  · exact ⟨_, _, he, .inl ⟨h, rfl, rfl⟩, hb⟩
  · exact ⟨_, _, he, .inr ⟨h, bs, bc, cc, SA, sc, l', rest, rfl, rfl, hN⟩, hb⟩
theorem NewV.no {ps : List PlS} {lib : List AstA} {n0 : Nat} {w' : World} {sv ev : Value} (h : NewV ps lib n0 w' sv ev) (hn : newP ps lib = false) : sv = .pointer none ∧ ev = .int .i64 220 := by
  rcases h with ⟨_, h⟩ | ⟨h, _⟩
  · exact h
  · rw [hn] at h; cases h
theorem NewV.yes {ps : List PlS} {lib : List AstA} {n0 : Nat} {w' : World} {sv ev : Value} (h : NewV ps lib n0 w' sv ev) (hn : newP ps lib = true) : ∃ bs bc cc SA sc l' rest, sv = .pointer (some ⟨bs, 0, none⟩) ∧ ev = .int .i64 0 ∧ SelN ps lib n0 bs bc cc SA sc l' rest w' := by
  rcases h with ⟨h, _⟩ | ⟨_, h⟩
  · rw [hn] at h; cases h
  · exact h
structure NewArgs (ps : List PlS) (lib : List AstA) (fits : Bool) : Prop where
  pk : ∀ p ∈ ps, (0 ≤ p.c ∧ p.c ≤ 39) ∧ rateOk p.nm 1 = true
  ln : lib.length ≤ 1000000
  mx : lib.length ≤ maxLen
  pl : ∀ a ∈ lib, a.pics.length ≤ 2000000
  new : newP ps lib = fits
  two : fits = true → ∃ I0 i0 I1 i1, ps = [pl0 I0 i0, pl1 I1 i1]
theorem lib3_max : 3 ≤ maxLen := by decide
theorem args_no {ps : List PlS} {a0 a1 a2 : AstA} (hl : LibOk [a0, a1, a2]) (h1 : ∀ p ∈ ps, (0 ≤ p.c ∧ p.c ≤ 39) ∧ rateOk p.nm 1 = true) (h : newP ps [a0, a1, a2] = false) : NewArgs ps [a0, a1, a2] false :=
  ⟨h1, (by show 3 ≤ 1000000; decide), lib3_max, hl.pl, h, fun e => by cases e⟩
theorem args_yes {I0 I1 : Option Addr} {i0 i1 : Nat} {a0 a1 a2 : AstA} (hl : LibOk [a0, a1, a2]) : NewArgs [pl0 I0 i0, pl1 I1 i1] [a0, a1, a2] true :=
  ⟨plOk2.1, (by show 3 ≤ 1000000; decide), lib3_max, hl.pl, new_true hl plOk2, fun _ => ⟨I0, i0, I1, i1, rfl⟩⟩
theorem args_pic {I0 I1 : Option Addr} {i0 i1 : Nat} {a0 a1 a2 : AstA} {q0 : PicA} {qs : List PicA} (hl : LibOk [a0, a1, a2]) (hq : a1.pics = q0 :: qs) : NewArgs [pl0 I0 i0, pl1 I1 i1] [a0, ⟨a1.item, a1.A, a1.c, ⟨false, q0.data, q0.power⟩ :: qs⟩, a2] false := by
  have hlen : (⟨false, q0.data, q0.power⟩ :: qs : List PicA).length = a1.pics.length := by rw [hq]; rfl
  refine ⟨plOk2.1, (by show 3 ≤ 1000000; decide), lib3_max, fun a ha => ?_, newP_lib (X := ⟨a1.item, a1.A, a1.c, ⟨false, q0.data, q0.power⟩ :: qs⟩) (List.mem_cons_of_mem _ (List.mem_cons_self ..)) (valid_key rfl), fun e => by cases e⟩
  simp only [List.mem_cons, List.not_mem_nil, or_false] at ha
  rcases ha with rfl | rfl | rfl
  · exact hl.pl _ (List.mem_cons_self ..)
  · have := hl.pl a1 (List.mem_cons_of_mem _ (List.mem_cons_self ..))
    show (⟨false, q0.data, q0.power⟩ :: qs : List PicA).length ≤ 2000000
    omega
  · exact hl.pl _ (List.mem_cons_of_mem _ (List.mem_cons_of_mem _ (List.mem_cons_self ..)))
theorem two_ok {p q : PlS} (h1 : (0 ≤ p.c ∧ p.c ≤ 39) ∧ rateOk p.nm 1 = true) (h2 : (0 ≤ q.c ∧ q.c ≤ 39) ∧ rateOk q.nm 1 = true) : ∀ x ∈ [p, q], (0 ≤ x.c ∧ x.c ≤ 39) ∧ rateOk x.nm 1 = true := fun x hx => by
  simp only [List.mem_cons, List.not_mem_nil, or_false] at hx
  rcases hx with rfl | rfl
  · exact h1
  · exact h2
theorem own_less {w : World} {b0 b1 : Nat} {e : TypeId} {size n : Nat} {v : Value} {xs : List Value} (h : w.ownsRow b1 e size v n xs) (hb : b0 ≤ b1) : w.ownsRow b0 e size v n xs := ⟨h.1, h.2.imp id fun ⟨g, cap, cur, hv, hg, r⟩ => ⟨g, cap, cur, hv, Nat.le_trans hb hg, r⟩⟩
theorem Hp.gainRow {α : Type} {cs : α → Array Value} {e : TypeId} {size : Nat} {v : Value} {l : List α} {w0 w w' : World} {L : List HB} {K : List FK} (H : Hp w0 w L K) (hb : Below w.heap.size w w') (hF : (rowsR w.heap.size e size cs okT feF v l).F w') : Hp w0 w' (rowsR w0.heap.size e size cs okT feF v l :: L) K := by
  have h1 : ∀ k, (rowsR w0.heap.size e size cs okT feF v l).fp k → k < w'.heap.size ∧ w.heap.size ≤ k := fun k hk => by
    rcases hk with hk | ⟨_, _, hk⟩
    · exact own_lt hF.1 k hk
    · cases hk
  exact H.gain hb _ ⟨own_less hF.1 H.size, hF.2⟩ (rowsR_ok elOk_flat) (fun k hk => (h1 k hk).1) (fun k hk => (h1 k hk).2)
theorem Hp.gainLib {n0 lc : Nat} {LA : Option Addr} {a0 a1 a2 : AstA} {w0 w w' : World} {L : List HB} {K : List FK} (H : Hp w0 w L K) (hb : Below w.heap.size w w') (hF : (libR n0 LA lc a0 a1 a2).F w') (hf : ∀ k, (libR n0 LA lc a0 a1 a2).fp k → w.heap.size ≤ k ∧ k < w'.heap.size) : Hp w0 w' (libR n0 LA lc a0 a1 a2 :: L) K :=
  H.gain hb _ hF (rowsR_ok elOk_asw) (fun k hk => (hf k hk).2) (fun k hk => (hf k hk).1)
theorem Hp.libK {n0 lc : Nat} {LA : Option Addr} {a0 a1 a2 : AstA} {w0 w : World} {L : List HB} {K : List FK} (H : Hp w0 w (libR n0 LA lc a0 a1 a2 :: L) K) : Hp w0 w L (astsK LA [a0, a1, a2] :: K) := by
  have hF := H.held 0 rfl
  have hF : w.ownsRow n0 91 2 (.slice LA 3 lc) 3 (flat AstA.cells [a0, a1, a2]) ∧ ∀ a ∈ [a0, a1, a2], astOw a w ∧ ∀ k, astFp a k → k < w.heap.size ∧ (Value.slice LA 3 lc).ownBlock ≠ some k := hF
  refine H.toK rfl _ (show IsAsts w LA 3 [a0, a1, a2] from ⟨⟨rfl, Rd.of_own hF.1⟩, fun a ha => (hF.2 a ha).1.1⟩) (fun _ _ h hk hs => IsAsts.keep h hk hs) fun k hk => ?_
  rcases hk with ⟨_, off, e⟩ | hk
  · exact .inl (by rw [e]; rfl)
  · exact .inr hk
theorem Hp.itsSub {w0 w : World} {L : List HB} {K : List FK} {ps : List PlS} (H : Hp w0 w L K) (q : Nat) (hq : K[q]? = some (itsK ps)) (qs : List PlS) (hs : ∀ x ∈ qs, ∃ p ∈ ps, x.IA = p.IA) : Hp w0 w L (itsK qs :: K) :=
  H.copyK q hq (itsK qs) (fun x hx => by obtain ⟨p, hp, e⟩ := hs x hx; rw [e]; exact (H.fact q hq : ∀ p ∈ ps, IsRow 5 itC w p.IA its3) p hp) (itsK_ok _) (fun k ⟨x, hx, hk⟩ => by obtain ⟨p, hp, e⟩ := hs x hx; exact ⟨p, hp, e ▸ hk⟩)
theorem Hp.drop3 {w0 w : World} {L : List HB} {K : List FK} {a b c d : FK} (H : Hp w0 w L (a :: b :: c :: d :: K)) : Hp w0 w L (a :: b :: c :: K) := H.keeps fun x hx => by
  simp only [List.mem_cons] at hx ⊢
  rcases hx with h | h | h | h
  · exact .inl h
  · exact .inr (.inl h)
  · exact .inr (.inr (.inl h))
  · exact .inr (.inr (.inr (.inr h)))
theorem sub_nil {ps : List PlS} : ∀ x ∈ ([] : List PlS), ∃ p ∈ ps, x.IA = p.IA := fun x hx => by cases hx
theorem sub_cons {ps qs : List PlS} {y : PlS} (h1 : ∃ p ∈ ps, y.IA = p.IA) (h : ∀ x ∈ qs, ∃ p ∈ ps, x.IA = p.IA) : ∀ x ∈ y :: qs, ∃ p ∈ ps, x.IA = p.IA := fun x hx => by
  rcases List.mem_cons.1 hx with rfl | hx
  · exact h1
  · exact h x hx
theorem pics_cons {l : List PicA} (h : picsOk 30 l) : ∃ q qs, l = q :: qs := by
  match l, h.1 with
  | q :: qs, _ => exact ⟨q, qs, rfl⟩
theorem three_ok {I0 I1 : Option Addr} {i0 i1 : Nat} : ∀ x ∈ [pl0 I0 i0, pl1 I1 i1, pl0 I0 i0], (0 ≤ x.c ∧ x.c ≤ 39) ∧ rateOk x.nm 1 = true := fun x hx => by
 simp only [List.mem_cons, List.not_mem_nil, or_false] at hx
 rcases hx with rfl | rfl | rfl
 ·exact pl0_ok1
 ·exact pl1_ok1
 ·exact pl0_ok1
theorem new_law (kind : Int) (w : World) (hL : Laid w) (hki : in64 kind) :
  Calls Tryz.prog 9 #[.int .i64 kind] w fun e w' => e = .returned (.bool true) ∧ Below w.heap.size w w' := by
 have HP := ((Hp.start w).keepF laidK hL laidK_ok (fun k hk => ⟨hL.lt k hk, fun x hx => by cases hx⟩))
 refine w_enter 89 [(0, (ii kind))] Tryz.func9 rfl Tryz.ntmps9 (by kernel_rfl) (by kernel_rfl) fun a H => ?_
 refine zsq (zrg ?_)
 refine H.ge HP [(2, (.bool false))] [] fun a H => ?_
 refine ztn (zsq (zrg ?_))
 refine H.cb HP 11 (Tryz.call10 _ _) (sane_any w (HP.fact 0 rfl)) fun w_1 hb a H HP => ?_
 refine H.ge HP [(3, (.bool true))] [] fun a H => ?_
 refine ztn (zsq (zrg ?_))
 refine H.cl 12 (Tryz.call12 _ _) (plansN_any w_1) ?_
 rintro e w_2 ⟨AP, cp, I0, i0, I1, i1, rfl, hpr, hpi, hpn, hb⟩
 refine ⟨_, rfl, ?_⟩
 intro a H
 have HP := (HP.gainRow hb hpr).keepF (itsK [pl0 I0 i0, pl1 I1 i1]) hpi (itsK_ok _) (fun k hk => ⟨(hpn k hk).1, fun x hx hf => by rcases List.mem_cons.1 hx with rfl | hx; (rcases hf with hf | ⟨_, _, hf⟩; exact (hpn k hk).2 hf; cases hf); cases hx⟩)
 refine H.ge HP [(4, (.slice AP 2 cp))] [] fun a H => ?_
 refine ztn (zsq (zrg ?_))
 refine H.cl 13 (Tryz.call11 _ _) (libraryN_any w_2) ?_
 rintro e w_3 ⟨LA, lc, a0, a1, a2, rfl, hli, hdj, hlr, hlf, hb⟩
 refine ⟨_, rfl, ?_⟩
 intro a H
 have HP := HP.gainLib hb hlr hlf
 refine H.ge HP [(5, (.slice LA 3 lc))] [] fun a H => ?_
 refine ztn (zsq (zrg ?_))
 refine H.ge HP [(6, (.bool false))] [] fun a H => ?_
 refine ztn ?_
 refine w_cut (fun a wv => ∃ (PA : Option Addr), ∃ (pa : Nat), ∃ (ps : List PlS), ∃ (QA : Option Addr), ∃ (qa : Nat), ∃ (lb : List AstA), ∃ (fits : Bool), Sl 89 [(3, (.bool true)), (4, (.slice PA ps.length pa)), (5, (.slice QA lb.length qa)), (6, (.bool fits))] a ∧ Hp w wv [] [astsK QA lb, itsK ps, rowF 13 plnC PA ps, itsK [pl0 I0 i0, pl1 I1 i1], laidK] ∧ (NewArgs ps lb fits)) ?_ ?_
 ·
  refine zsq (zrg ?_)
  refine H.go HP 1 [(14, (ii kind))] [] fun a H => ?_
  refine H.cl 15 (Tryz.call18 _ _) (pick_any kind 6 w_3 hki (by omega)) ?_
  rintro e w_4 ⟨rfl, hw⟩
  refine ⟨_, rfl, ?_⟩
  intro a H
  have HP := hw ▸ HP
  refine znl (ztn (zbk (zsq (zrg ?_))))
  refine H.ge HP [(16, (.bool ((pickI kind 6) == 0)))] [] fun a H => ?_
  refine ztn ?_
  refine w_if H rfl (fun g16 => ?_) (fun g16 => ?_)
  ·have g16p := eq_of_beq g16
   refine zrg ?_
   refine H.ge HP [(4, (.slice none 0 0))] [] fun a H => ?_
   refine zibn (ztn ?_)
   have HP := (HP.tail2 rfl).emptyK (rowF 13 plnC none ([] : List PlS)) (IsRow.nil _ _) (rowF_ok _ _ _ _) (fun k hk => absurd hk.1 (Nat.lt_irrefl 0))
   have HP := HP.itsSub 1 rfl ([] : List PlS) sub_nil
   have HP := HP.front 0 rfl [(libR w_2.heap.size LA lc a0 a1 a2)] (by kernel_rfl)
   have HP := HP.libK
   exact ⟨none, 0, ([] : List PlS), LA, lc, [a0, a1, a2], false, H.keep (by kernel_rfl), HP, (args_no hli (fun _ h => by cases h) (newP_few (.inl Nat.zero_lt_one)))⟩
  have g16p := ne_of_beq_false g16
  refine zsq (zrg ?_)
  refine H.ge HP [(18, (.bool ((pickI kind 6) == 1)))] [] fun a H => ?_
  refine ztn ?_
  refine w_if H rfl (fun g18 => ?_) (fun g18 => ?_)
  ·have g18p := eq_of_beq g18
   obtain ⟨gp, tlp, rfl, hcp, HP⟩ := HP.rowBox 1 rfl rfl (by decide)
   have HP : Hp w _ [(libR w_2.heap.size LA lc a0 a1 a2), bx gp 67 ((ii 3) :: (ii 50) :: (ii 1) :: (ii 0) :: (.slice none 0 0) :: (ii 0) :: (ii 2) :: (ii 500) :: (ii 1) :: (.slice I0 3 i0) :: (.slice none 0 0) :: (.slice none 0 0) :: (.slice none 0 0) :: (ii 0) :: (ii 25) :: (ii 1) :: (ii 0) :: (.slice none 0 0) :: (ii 0) :: (ii 2) :: (ii 500) :: (ii 1) :: (.slice I1 3 i1) :: (.slice none 0 0) :: (.slice none 0 0) :: (.slice none 0 0) :: tlp) true] [itsK [pl0 I0 i0, pl1 I1 i1], laidK] := HP
   refine zrg ?_
   refine H.go HP 1 [(20, (.slice (some ⟨gp, 0, none⟩) 2 cp))] [] fun a H => H.u 21 (pt gp 13) (ex_index (b := gp) (off := 0) (len := 2) (cap := cp) (e := 67) (k := 13) (ik := .i64) (i := 1) (m := 1) (by kernel_rfl) (by kernel_rfl) rfl (by decide) (by kernel_rfl) (by kernel_rfl)) fun a H => H.go HP 1 [(22, (pt gp 20))] [] fun a H => H.st HP 1 gp 20 1 67 true (ii 0) [(libR w_2.heap.size LA lc a0 a1 a2), bx gp 67 ((ii 3) :: (ii 50) :: (ii 1) :: (ii 0) :: (.slice none 0 0) :: (ii 0) :: (ii 2) :: (ii 500) :: (ii 1) :: (.slice I0 3 i0) :: (.slice none 0 0) :: (.slice none 0 0) :: (.slice none 0 0) :: (ii 0) :: (ii 25) :: (ii 1) :: (ii 0) :: (.slice none 0 0) :: (ii 0) :: (ii 2) :: (ii 0) :: (ii 1) :: (.slice I1 3 i1) :: (.slice none 0 0) :: (.slice none 0 0) :: (.slice none 0 0) :: tlp) true] rfl fun w_5 a H HP => ?_
   refine znl (zibn (ztn ?_))
   have HP := HP.front 1 rfl [bx gp 67 ((ii 3) :: (ii 50) :: (ii 1) :: (ii 0) :: (.slice none 0 0) :: (ii 0) :: (ii 2) :: (ii 500) :: (ii 1) :: (.slice I0 3 i0) :: (.slice none 0 0) :: (.slice none 0 0) :: (.slice none 0 0) :: (ii 0) :: (ii 25) :: (ii 1) :: (ii 0) :: (.slice none 0 0) :: (ii 0) :: (ii 2) :: (ii 0) :: (ii 1) :: (.slice I1 3 i1) :: (.slice none 0 0) :: (.slice none 0 0) :: (.slice none 0 0) :: tlp) true, (libR w_2.heap.size LA lc a0 a1 a2)] (by kernel_rfl)
   have HP := HP.toK rfl (rowF 13 plnC (some ⟨gp, 0, none⟩) [pl0 I0 i0, (⟨0, 25, 0, I1, i1⟩ : PlS)]) (IsRow.ofBox plnC_size (l := [pl0 I0 i0, (⟨0, 25, 0, I1, i1⟩ : PlS)]) (tail := tlp) (HP.at_ 0 rfl)) (rowF_ok _ _ _ _) (fun k hk => by obtain ⟨_, off, e⟩ := hk; cases e; rfl)
   have HP := HP.itsSub 1 rfl [pl0 I0 i0, (⟨0, 25, 0, I1, i1⟩ : PlS)] (sub_cons ⟨_, List.mem_cons_self .., rfl⟩ (sub_cons ⟨_, List.mem_cons_of_mem _ (List.mem_cons_self ..), rfl⟩ sub_nil))
   have HP := HP.front 0 rfl [(libR w_2.heap.size LA lc a0 a1 a2)] (by kernel_rfl)
   have HP := HP.libK
   exact ⟨some ⟨gp, 0, none⟩, cp, [pl0 I0 i0, (⟨0, 25, 0, I1, i1⟩ : PlS)], LA, lc, [a0, a1, a2], false, H.keep (by kernel_rfl), HP, (args_no hli (two_ok pl0_ok1 (pl1_ok1 (IA := I1) (ic := i1))) (newP_bad (by kernel_rfl)))⟩
  have g18p := ne_of_beq_false g18
  refine zsq (zrg ?_)
  refine H.ge HP [(23, (.bool ((pickI kind 6) == 2)))] [] fun a H => ?_
  refine ztn ?_
  refine w_if H rfl (fun g23 => ?_) (fun g23 => ?_)
  ·have g23p := eq_of_beq g23
   obtain ⟨gp, tlp, rfl, hcp, HP⟩ := HP.rowBox 1 rfl rfl (by decide)
   have HP : Hp w _ [(libR w_2.heap.size LA lc a0 a1 a2), bx gp 67 ((ii 3) :: (ii 50) :: (ii 1) :: (ii 0) :: (.slice none 0 0) :: (ii 0) :: (ii 2) :: (ii 500) :: (ii 1) :: (.slice I0 3 i0) :: (.slice none 0 0) :: (.slice none 0 0) :: (.slice none 0 0) :: (ii 0) :: (ii 25) :: (ii 1) :: (ii 0) :: (.slice none 0 0) :: (ii 0) :: (ii 2) :: (ii 500) :: (ii 1) :: (.slice I1 3 i1) :: (.slice none 0 0) :: (.slice none 0 0) :: (.slice none 0 0) :: tlp) true] [itsK [pl0 I0 i0, pl1 I1 i1], laidK] := HP
   refine zrg ?_
   refine H.go HP 2 [(25, (.slice (some ⟨gp, 0, none⟩) 2 cp)), (26, (.slice (some ⟨gp, 0, none⟩) 2 cp))] [] fun a H => H.u 27 (pt gp 0) (ex_index (b := gp) (off := 0) (len := 2) (cap := cp) (e := 67) (k := 13) (ik := .i64) (i := 0) (m := 0) (by kernel_rfl) (by kernel_rfl) rfl (by decide) (by kernel_rfl) (by kernel_rfl)) fun a H => H.go HP 2 [(29, (ii 3))] [1] fun a H => H.u 30 (pt gp 13) (ex_index (b := gp) (off := 0) (len := 2) (cap := cp) (e := 67) (k := 13) (ik := .i64) (i := 1) (m := 1) (by kernel_rfl) (by kernel_rfl) rfl (by decide) (by kernel_rfl) (by kernel_rfl)) fun a H => H.go HP 1 [(31, (pt gp 13))] [] fun a H => H.st HP 1 gp 13 1 67 true (ii 3) [(libR w_2.heap.size LA lc a0 a1 a2), bx gp 67 ((ii 3) :: (ii 50) :: (ii 1) :: (ii 0) :: (.slice none 0 0) :: (ii 0) :: (ii 2) :: (ii 500) :: (ii 1) :: (.slice I0 3 i0) :: (.slice none 0 0) :: (.slice none 0 0) :: (.slice none 0 0) :: (ii 3) :: (ii 25) :: (ii 1) :: (ii 0) :: (.slice none 0 0) :: (ii 0) :: (ii 2) :: (ii 500) :: (ii 1) :: (.slice I1 3 i1) :: (.slice none 0 0) :: (.slice none 0 0) :: (.slice none 0 0) :: tlp) true] rfl fun w_6 a H HP => ?_
   refine znl (zibn (ztn ?_))
   have HP := HP.front 1 rfl [bx gp 67 ((ii 3) :: (ii 50) :: (ii 1) :: (ii 0) :: (.slice none 0 0) :: (ii 0) :: (ii 2) :: (ii 500) :: (ii 1) :: (.slice I0 3 i0) :: (.slice none 0 0) :: (.slice none 0 0) :: (.slice none 0 0) :: (ii 3) :: (ii 25) :: (ii 1) :: (ii 0) :: (.slice none 0 0) :: (ii 0) :: (ii 2) :: (ii 500) :: (ii 1) :: (.slice I1 3 i1) :: (.slice none 0 0) :: (.slice none 0 0) :: (.slice none 0 0) :: tlp) true, (libR w_2.heap.size LA lc a0 a1 a2)] (by kernel_rfl)
   have HP := HP.toK rfl (rowF 13 plnC (some ⟨gp, 0, none⟩) [pl0 I0 i0, (⟨3, 25, 500, I1, i1⟩ : PlS)]) (IsRow.ofBox plnC_size (l := [pl0 I0 i0, (⟨3, 25, 500, I1, i1⟩ : PlS)]) (tail := tlp) (HP.at_ 0 rfl)) (rowF_ok _ _ _ _) (fun k hk => by obtain ⟨_, off, e⟩ := hk; cases e; rfl)
   have HP := HP.itsSub 1 rfl [pl0 I0 i0, (⟨3, 25, 500, I1, i1⟩ : PlS)] (sub_cons ⟨_, List.mem_cons_self .., rfl⟩ (sub_cons ⟨_, List.mem_cons_of_mem _ (List.mem_cons_self ..), rfl⟩ sub_nil))
   have HP := HP.front 0 rfl [(libR w_2.heap.size LA lc a0 a1 a2)] (by kernel_rfl)
   have HP := HP.libK
   exact ⟨some ⟨gp, 0, none⟩, cp, [pl0 I0 i0, (⟨3, 25, 500, I1, i1⟩ : PlS)], LA, lc, [a0, a1, a2], false, H.keep (by kernel_rfl), HP, (args_no hli (two_ok pl0_ok1 ⟨⟨by show (0 : Int) ≤ 3; decide, by show (3 : Int) ≤ 39; decide⟩, by kernel_rfl⟩) (newP_bad (by kernel_rfl)))⟩
  have g23p := ne_of_beq_false g23
  refine zsq (zrg ?_)
  refine H.ge HP [(32, (.bool ((pickI kind 6) == 3)))] [] fun a H => ?_
  refine ztn ?_
  refine w_if H rfl (fun g32 => ?_) (fun g32 => ?_)
  ·have g32p := eq_of_beq g32
   have HP := HP.front 0 rfl [(libR w_2.heap.size LA lc a0 a1 a2), (rowsR w.heap.size 67 13 plnC okT feF (.slice AP 2 cp) ([pl0 I0 i0, pl1 I1 i1]))] (by kernel_rfl)
   have hp1 := hli.pics a1 (List.mem_cons_of_mem _ (List.mem_cons_self ..))
   obtain ⟨bX, tlx, hA1, hc1, hc2, HP⟩ := HP.splitLib hdj (by have := hp1.1; omega)
   obtain ⟨q0, qs, hqs⟩ := pics_cons hp1
   rw [hqs] at HP
   have HP : Hp w _ [bx bX 96 ((.bool q0.key) :: (.string q0.data) :: (ii q0.power) :: (flat PicA.cells qs ++ tlx)) true, (rowsR w.heap.size 67 13 plnC okT feF (.slice AP 2 cp) ([pl0 I0 i0, pl1 I1 i1]))] [libRest LA a0 a1 a2, itsK [pl0 I0 i0, pl1 I1 i1], laidK] := HP
   refine zrg ?_
   refine H.go HP 1 [(34, (.slice LA 3 lc))] [] fun a H => ?_
   obtain ⟨bl, ol, _, hAl, _⟩ := IsRow.get AstA.cells_size (((HP.fact 0 rfl : (libRest LA a0 a1 a2).F _)).1.2 : IsRow 2 AstA.cells _ LA [a0, a1, a2]) (i := 1) (by show 1 < 3; decide)
   refine H.u 35 (.pointer (some ⟨bl, ol + 1 * 2, none⟩)) (ex_indexA (b := bl) (off := ol) (len := 3) (cap := lc) (e := 91) (k := 2) (ik := .i64) (i := 1) (m := 1) hAl (by kernel_rfl) (by kernel_rfl) rfl (by decide) (by kernel_rfl) (by kernel_rfl)) fun a H => H.go HP 1 [(36, (.pointer (some ⟨bl, ol + 1 * 2 + 1, none⟩)))] [] fun a H => H.u 37 (.slice a1.A a1.pics.length a1.c) (ex_l1 (IsRow.cells AstA.cells_size (((HP.fact 0 rfl : (libRest LA a0 a1 a2).F _)).1.2 : IsRow 2 AstA.cells _ LA [a0, a1, a2]) hAl (i := 1) (x := a1) rfl 1 _ rfl)) fun a H => H.u 38 (pt bX 0) (ex_indexA (b := bX) (off := 0) (len := a1.pics.length) (cap := a1.c) (e := 96) (k := 3) (ik := .i64) (i := 0) (m := 0) hA1 (by kernel_rfl) (by kernel_rfl) rfl (by have := hp1.1; omega) (by kernel_rfl) (by kernel_rfl)) fun a H => H.go HP 1 [(39, (pt bX 0))] [] fun a H => H.st HP 0 bX 0 1 96 true (.bool false) [bx bX 96 ((.bool false) :: (.string q0.data) :: (ii q0.power) :: (flat PicA.cells qs ++ tlx)) true, (rowsR w.heap.size 67 13 plnC okT feF (.slice AP 2 cp) ([pl0 I0 i0, pl1 I1 i1]))] rfl fun w_7 a H HP => ?_
   refine znl (zibn (ztn ?_))
   have HP := HP.front 1 rfl [(rowsR w.heap.size 67 13 plnC okT feF (.slice AP 2 cp) ([pl0 I0 i0, pl1 I1 i1])), bx bX 96 ((.bool false) :: (.string q0.data) :: (ii q0.power) :: (flat PicA.cells qs ++ tlx)) true] (by kernel_rfl)
   have HP := HP.toK rfl (rowF 13 plnC AP [pl0 I0 i0, pl1 I1 i1]) (IsRow.ofOwn (HP.held 0 rfl) rfl) (rowF_ok _ _ _ _) (fun k hk => .inl (by obtain ⟨_, off, e⟩ := hk; rw [e]; rfl))
   have HP := HP.itsSub 2 rfl [pl0 I0 i0, pl1 I1 i1] (sub_cons ⟨_, List.mem_cons_self .., rfl⟩ (sub_cons ⟨_, List.mem_cons_of_mem _ (List.mem_cons_self ..), rfl⟩ sub_nil))
   have HP := HP.front 0 rfl _ rfl
   have HP := HP.joinLib (qs := (⟨false, q0.data, q0.power⟩ : PicA) :: qs) (tl := tlx) 2 rfl hA1 (by rw [hqs]; rfl) hc1 hc2
   exact ⟨AP, cp, [pl0 I0 i0, pl1 I1 i1], LA, lc, [a0, (⟨a1.item, a1.A, a1.c, (⟨false, q0.data, q0.power⟩ : PicA) :: qs⟩ : AstA), a2], false, H.keep (by kernel_rfl), HP.drop3, (args_pic hli hqs)⟩
  have g32p := ne_of_beq_false g32
  refine zsq (zrg ?_)
  refine H.ge HP [(40, (.bool ((pickI kind 6) == 4)))] [] fun a H => ?_
  refine ztn ?_
  refine w_if H rfl (fun g40 => ?_) (fun g40 => ?_)
  ·have g40p := eq_of_beq g40
   refine zrg ?_
   refine H.go HP 2 [(42, (.slice AP 2 cp)), (43, (.slice AP 2 cp))] [] fun a H => ?_
   obtain ⟨bp, op, hAp⟩ := pl_at (q := pl0 I0 i0) (IsRow.ofOwn (HP.held 1 rfl) rfl : IsRow 13 plnC _ AP [pl0 I0 i0, pl1 I1 i1])
   refine H.u 44 (.pointer (some ⟨bp, op + 0 * 13, none⟩)) (ex_indexA (b := bp) (off := op) (len := 2) (cap := cp) (e := 67) (k := 13) (ik := .i64) (i := 0) (m := 0) hAp (by kernel_rfl) (by kernel_rfl) rfl (by decide) (by kernel_rfl) (by kernel_rfl)) fun a H => H.u 45 (.agg #[(ii 3), (ii 50), (ii 1), (ii 0), (.slice none 0 0), (ii 0), (ii 2), (ii 500), (ii 1), (.slice I0 3 i0), (.slice none 0 0), (.slice none 0 0), (.slice none 0 0)]) (ex_lN [(ii 3), (ii 50), (ii 1), (ii 0), (.slice none 0 0), (ii 0), (ii 2), (ii 500), (ii 1), (.slice I0 3 i0), (.slice none 0 0), (.slice none 0 0), (.slice none 0 0)] (IsRow.cells plnC_size (IsRow.ofOwn (HP.held 1 rfl) rfl : IsRow 13 plnC _ AP [pl0 I0 i0, pl1 I1 i1]) hAp (i := 0) (x := pl0 I0 i0) rfl)) fun a H => H.alloc HP 46 (fun b => (.slice (some ⟨b, 0, none⟩) 1 1)) 67 [(ii 3), (ii 50), (ii 1), (ii 0), (.slice none 0 0), (ii 0), (ii 2), (ii 500), (ii 1), (.slice I0 3 i0), (.slice none 0 0), (.slice none 0 0), (.slice none 0 0)] (by kernel_rfl) (fun w => by kernel_rfl) fun b_8 w_9 a H HP => ?_
   have HP := HP.pend0 2 rfl elOk_flat (pl0 I0 i0) [bx b_8 67 [(ii 3), (ii 50), (ii 1), (ii 0), (.slice none 0 0), (ii 0), (ii 2), (ii 500), (ii 1), (.slice I0 3 i0), (.slice none 0 0), (.slice none 0 0), (.slice none 0 0)] true, (libR w_2.heap.size LA lc a0 a1 a2), (rowsP w.heap.size 67 13 plnC okT feF (.slice AP 2 cp) ([pl0 I0 i0, pl1 I1 i1]) (pl0 I0 i0))] (by kernel_rfl) trivial (fun _ h => h)
   refine H.push HP 47 2 0 (v := (.slice AP 2 cp)) (e := 67) (p := (pl0 I0 i0)) (l := ([pl0 I0 i0, pl1 I1 i1])) (cs := plnC) (ok := okT) (fe := feF) (size := 13) (z := (.agg #[(ii 0), (ii 0), (ii 0), (ii 0), (.slice none 0 0), (ii 0), (ii 0), (ii 0), (ii 0), (.slice none 0 0), (.slice none 0 0), (.slice none 0 0), (.slice none 0 0)])) (bytes := 184) (bb := b_8) (tb := 67) (fb := true) (by kernel_rfl) elOk_flat (by kernel_rfl) (by kernel_rfl) rfl (by kernel_rfl) (by kernel_rfl) (by kernel_rfl) (by kernel_rfl) (by kernel_rfl) rfl (by kernel_rfl) (by show 2 + 1 ≤ 2 ^ 63 - 1; decide) (by show (2 + 1) * 184 ≤ 140737488355328; decide) fun B_10 c_11 w_12 a H HP => ?_
   have HP : Hp w w_12 [bx b_8 67 [(ii 3), (ii 50), (ii 1), (ii 0), (.slice none 0 0), (ii 0), (ii 2), (ii 500), (ii 1), (.slice I0 3 i0), (.slice none 0 0), (.slice none 0 0), (.slice none 0 0)] true, (libR w_2.heap.size LA lc a0 a1 a2), (rowsR w.heap.size 67 13 plnC okT feF (.slice B_10 (([pl0 I0 i0, pl1 I1 i1]).length + 1) c_11) ([pl0 I0 i0, pl1 I1 i1] ++ [(pl0 I0 i0)]))] [itsK [pl0 I0 i0, pl1 I1 i1], laidK] := HP
   refine H.ge HP [(4, (.slice B_10 (([pl0 I0 i0, pl1 I1 i1]).length + 1) c_11))] [] fun a H => ?_
   refine zibn (ztn ?_)
   have HP := HP.front 2 rfl [(rowsR w.heap.size 67 13 plnC okT feF (.slice B_10 (([pl0 I0 i0, pl1 I1 i1]).length + 1) c_11) ([pl0 I0 i0, pl1 I1 i1] ++ [(pl0 I0 i0)])), bx b_8 67 [(ii 3), (ii 50), (ii 1), (ii 0), (.slice none 0 0), (ii 0), (ii 2), (ii 500), (ii 1), (.slice I0 3 i0), (.slice none 0 0), (.slice none 0 0), (.slice none 0 0)] true, (libR w_2.heap.size LA lc a0 a1 a2)] (by kernel_rfl)
   have HP := HP.toK rfl (rowF 13 plnC B_10 [pl0 I0 i0, pl1 I1 i1, pl0 I0 i0]) (IsRow.ofOwn (HP.held 0 rfl) rfl) (rowF_ok _ _ _ _) (fun k hk => .inl (by obtain ⟨_, off, e⟩ := hk; rw [e]; rfl))
   have HP := HP.itsSub 1 rfl [pl0 I0 i0, pl1 I1 i1, pl0 I0 i0] (sub_cons ⟨_, List.mem_cons_self .., rfl⟩ (sub_cons ⟨_, List.mem_cons_of_mem _ (List.mem_cons_self ..), rfl⟩ (sub_cons ⟨_, List.mem_cons_self .., rfl⟩ sub_nil)))
   have HP := HP.front 1 rfl _ rfl
   have HP := HP.libK
   exact ⟨B_10, c_11, [pl0 I0 i0, pl1 I1 i1, pl0 I0 i0], LA, lc, [a0, a1, a2], false, H.keep (by kernel_rfl), (HP.tail rfl), (args_no hli three_ok (newP_bad (by kernel_rfl)))⟩
  have g40p := ne_of_beq_false g40
  refine zrg ?_
  refine H.ge HP [(6, (.bool true))] [] fun a H => ?_
  refine zibn (ztn ?_)
  have HP := HP.front 1 rfl [(rowsR w.heap.size 67 13 plnC okT feF (.slice AP 2 cp) ([pl0 I0 i0, pl1 I1 i1])), (libR w_2.heap.size LA lc a0 a1 a2)] (by kernel_rfl)
  have HP := HP.toK rfl (rowF 13 plnC AP [pl0 I0 i0, pl1 I1 i1]) (IsRow.ofOwn (HP.held 0 rfl) rfl) (rowF_ok _ _ _ _) (fun k hk => .inl (by obtain ⟨_, off, e⟩ := hk; rw [e]; rfl))
  have HP := HP.itsSub 1 rfl [pl0 I0 i0, pl1 I1 i1] (sub_cons ⟨_, List.mem_cons_self .., rfl⟩ (sub_cons ⟨_, List.mem_cons_of_mem _ (List.mem_cons_self ..), rfl⟩ sub_nil))
  have HP := HP.front 0 rfl [(libR w_2.heap.size LA lc a0 a1 a2)] (by kernel_rfl)
  have HP := HP.libK
  exact ⟨AP, cp, [pl0 I0 i0, pl1 I1 i1], LA, lc, [a0, a1, a2], true, H.keep (by kernel_rfl), HP, (args_yes hli)⟩
 
 rintro a w_13 ⟨PA, pa, ps, QA, qa, lb, fits, H, HP, hna⟩
 refine zsq (zrg ?_)
 refine H.go HP 2 [(49, (.slice PA ps.length pa)), (50, (.slice QA lb.length qa))] [] fun a H => ?_
 refine H.cl 51 (Tryz.call13 _ _) ((new_any PA pa qa ps QA lb w_13 hna.pk hna.ln (HP.fact 4 rfl) (HP.fact 1 rfl) (HP.fact 2 rfl) (HP.fact 0 rfl) hna.mx hna.pl).mono fun e w' h => newV h) ?_
 rintro e w_14 ⟨sv, ev, rfl, hnv, hb⟩
 refine ⟨_, rfl, ?_⟩
 intro a H
 have HP := HP.next hb
 refine H.ge HP [(7, sv), (8, ev)] [] fun a H => ?_
 refine ztn (zsq (zsq (zrg ?_)))
 refine H.ge HP [(55, (.bool (!fits)))] [] fun a H => ?_
 refine ztn ?_
 refine w_if H rfl (fun g55 => ?_) (fun g55 => ?_)
 ·have g55p := not_is_true g55
  refine zsq ?_
  obtain ⟨e1, e2⟩ := hnv.no (hna.new.trans (by simpa using g55))
  subst e1 e2
  refine zrg ?_
  refine H.ge HP [(2, (.bool true))] [] fun a H => ?_
  refine ztn (zrt (ztr ?_))
  refine H.r1 (.bool true) Tryz.results9 ?_
  exact ⟨rfl, HP.bl⟩
 have g55p := not_is_false g55
 refine zsk (ztn (zsq ?_))
 have hft : fits = true := by simpa using g55
 obtain ⟨bs, bc, cc, SA, sc, ls, rest, e1, e2, hN⟩ := hnv.yes (hna.new.trans hft)
 subst e1 e2
 obtain ⟨Ia, ia, Ib, ib, rfl⟩ := hna.two hft
 have HP := (HP.keepF (boxK bs 111 [.slice (some ⟨bc, 0, none⟩) 2 cc, .slice SA ls.length sc, .bool false, .int .i64 0, .int .i64 0]) hN.box (boxK_ok _ _ _) (fun k hk => ⟨boxK_lt hN.box hk, fun x hx => by cases hx⟩)).keepF (boxK bc 115 (flat chC [mkCh (pl0 Ia ia), mkCh (pl1 Ib ib)] ++ rest)) hN.chs (boxK_ok _ _ _) (fun k hk => ⟨boxK_lt hN.chs hk, fun x hx => by cases hx⟩)
 refine zrg ?_
 refine H.go HP 1 [(66, (pt bs 0))] [] fun a H => H.cb HP 67 (Tryz.call25 _ _) ((by have hh := floor_any bs bc 2 cc SA ls sc false 0 0 5 w_14 (HP.fact 1 rfl) (by decide) (by decide) (by decide); rw [show floorP false 0 0 5 = none from rfl] at hh; exact hh)) fun w_15 hb a H HP => ?_
 refine H.ge HP [(10, (.bool false))] [] fun a H => ?_
 refine ztn (zsq (zrg ?_))
 refine H.go HP 11 [(79, (.bool true)), (80, (pt bs 0))] [] fun a H => H.cb HP 81 (Tryz.call22 _ _) ((by have hh := full_any bs bc cc _ _ _ _ [mkCh (pl0 Ia ia), mkCh (pl1 Ib ib)] rest 0 w_15 (by show 0 < 2; decide) (by show 2 ≤ 40; decide) (HP.fact 1 rfl) (HP.fact 0 rfl); rw [show fullP 0 [mkCh (pl0 Ia ia), mkCh (pl1 Ib ib)] = 500 from rfl] at hh; exact hh)) fun w_16 hb a H HP => H.go HP 4 [(84, (.bool true)), (85, (pt bs 0))] [] fun a H => H.cb HP 86 (Tryz.call22 _ _) ((by have hh := full_any bs bc cc _ _ _ _ [mkCh (pl0 Ia ia), mkCh (pl1 Ib ib)] rest 3 w_16 (by show 0 < 2; decide) (by show 2 ≤ 40; decide) (HP.fact 1 rfl) (HP.fact 0 rfl); rw [show fullP 3 [mkCh (pl0 Ia ia), mkCh (pl1 Ib ib)] = 500 from rfl] at hh; exact hh)) fun w_17 hb a H HP => ?_
 refine H.ge HP [(2, (.bool true))] [] fun a H => ?_
 refine ztn (zrt ?_)
 refine H.r1 (.bool true) Tryz.results9 ?_
 exact ⟨rfl, HP.bl⟩
open Go.Deep
structure Op (P : Program) (t : TypeId) (α : Type) where
  size : Nat
  cells : α → List Value
  ok : World → α → Prop
  csize : P.cellsOf t = size
  len : ∀ a, (cells a).length = size
  opens : ∀ {H : Type} {enc : TypeId × Value → H} {w : World} {base : Nat} {held : Bool} {fuel : Nat} {cs : List Value} {x : DataW H × List MemPlace},
    DataW.trod enc P w base (fun _ => true) held fuel t cs = some x → (∀ n ∈ x.1.weights P t, n ≤ reachBytes) → ∃ a, cs = cells a ∧ ok w a
theorem in64_of {n : Int} (h : (Lit.int .i64 n).wf = true) : in64 n := by
  unfold in64
  simp [Lit.wf, IntKind.min, IntKind.max, IntKind.signed, IntKind.bits] at h
  omega
end Go.Proofs.YthpbaaadkhdifaaGreatDoor
namespace Go.Proofs.YthpbaaadkhdifaaGreatDoor.selectorNew
set_option maxRecDepth 100000
set_option maxHeartbeats 4000000
open Go.ChangeShapes Go.WideShapes Go.ChangeAt Go.RowKit
theorem walk (a0 : Int) (w : World) (hL : Laid w) (h0 : (Lit.int .i64 a0).wf = true) :
    Calls Tryz.prog 9 #[.int .i64 a0] w fun e w' => e = .returned (.bool true) ∧ Below w.heap.size w w' :=
  new_law a0 w hL (in64_of h0)
end Go.Proofs.YthpbaaadkhdifaaGreatDoor.selectorNew
namespace Go.Proofs.YthpbaaadkhdifaaGreatDoor.selectorNew
set_option maxRecDepth 100000
set_option maxHeartbeats 4000000
open Go.ChangeShapes Go.WideShapes Go.ChangeAt Go.RowKit
open Go.ChangeMaps (open_string shut_string)
set_option linter.unusedVariables false
theorem own : ownKnob Tryz.prog.godebug = none := by kernel_rfl
theorem laidOut : laidOutB Tryz.prog = true := by kernel_rfl
set_option maxRecDepth 100000 in
theorem lifted (os : Os) (started : os.Started) (H : Type) (enc : TypeId × Value → H) :
    ReturnsInHanded {} Tryz.checked os 9 .any (fun w args => (Rows.selectorNewSpec.pre enc Tryz.prog Tryz.f9 [] false w args ∧ laidMetH Tryz.prog laid2 w) ∧ sizedMet enc Tryz.prog Tryz.f9 (OpenSpec.ofChange Rows.selectorNewSpec) false w args) (Rows.selectorNewSpec.post enc Tryz.prog Tryz.f9 false true false false) := by
  refine returnsInHanded_of_change_and (C := Tryz.checked) (X := fun w _ => laidMetH Tryz.prog laid2 w) (fun _ _ _ hh h => h.of_heap hh) own started (by kernel_rfl) Tryz.func9
    (ChangeSpec.witness_shaped (enc := enc) (C := Tryz.checked) (os := os) (X := fun w _ => laidMetH Tryz.prog laid2 w) false (World.doorLaid Tryz.prog 4000 os) #[.int .i64 0] 12 rfl (World.shaped_of_RefB (by kernel_rfl) (by kernel_rfl)) (by kernel_rfl) (by kernel_rfl) (by kernel_rfl) (door_met os _)) ?_
  intro W base args ds gs before hval0 hW hcnd hsz0 hL _
  have hval : ∀ (j : Nat) t v, Tryz.f9.params[j]? = some t → args[j]? = some v → Value.okWide Tryz.prog W .any base t v := hval0
  have hW' := hW
  obtain ⟨p, q, hA0, hV, rfl, hfz, hnd⟩ := hW
  have hA : DataW.TrodAll enc Tryz.prog W 0 (fun _ => true) true Tryz.f9.params.toList args.toList ds p := hA0
  have hsz : (DataW.weightsEach Tryz.prog (Tryz.f9.params.toList ++ Rows.selectorNewSpec.plain.varTypes Tryz.prog) (ds ++ gs)).all (· ≤ reachBytes) = true := hsz0
  rw [Tryz.params9] at hA hval hsz
  obtain ⟨v0, vs0, d0, ds0, p0, q0, hargs, rfl, rfl, h0, r0⟩ := trodAll_cons hA
  obtain ⟨rfl, rfl, rfl⟩ := trodAll_nil r0
  obtain rfl : args = #[v0] := by cases args; simp_all
  obtain ⟨rfl, rfl⟩ := trodVars_none hV
  obtain ⟨a0, rfl, rfl, rfl, w0⟩ := open_int Tryz.underlying3 (hval 0 3 v0 rfl rfl) h0
  clear hA0 hval0 hsz0
  refine (walk a0 W (laid_of hL) w0).mono fun e W' ⟨he, bel⟩ => ?_
  subst he
  exact ⟨_, rfl, _, _, _, [], _, [], hW', trodAll_mk1 (shut_bool Tryz.underlying4 _), (trodAll_cons_mk (shut_int Tryz.underlying3 w0) trodAll_mk0), rfl, bel.frame _, fun h => by cases h⟩
theorem over : Rows.selectorNewRow.holds Tryz.pinned (OpenSpec.ofChange Rows.selectorNewSpec) :=
  OpenClaim.holds_of_wide 9 Tryz.f9 rfl rfl rfl rfl rfl rfl rfl ⟨rfl, rfl, rfl, rfl, rfl⟩ rfl rfl rfl rfl rfl (by kernel_rfl) Tryz.func9 (by kernel_rfl)
    (of_decide_eq_true (by kernel_rfl)) (by unfold Func.isWrapper; first | (rw [if_pos (by decide +kernel)]; kernel_rfl) | (rw [if_neg (by decide +kernel)]; exact ⟨rfl, rfl⟩))
    (fun os started H enc _ => lifted os started H enc)
theorem proved : Rows.SelectorNewCardSaid :=
  Claim7.holds_tied_plain_at .later [] [.data, .data] true (true, "9dee3736a47d5fde62d585030fb6813f4463abab0d4d0d63d0a04982675a9e5c") false
    over (fun _ h => by cases h) (by kernel_rfl) (fun _ h => by cases h) selectorNew_row_tie rfl ⟨rfl, rfl⟩ (by kernel_rfl) rfl
    (fun f fn hf hfn => by
      obtain rfl : f = 9 := Option.some.inj ((show Tryz.prog.funcNamed "onair/onairlaw22.SelectorNew" = some 9 by kernel_rfl).symm.trans hf) |>.symm
      obtain rfl : fn = Tryz.f9 := (Option.some.inj (Tryz.func9.symm.trans hfn)).symm
      exact ⟨by kernel_rfl, fun j t ht => by
        rw [Tryz.params9] at ht
        have hm : t ∈ [3] := by simpa using Array.mem_of_getElem? ht
        have hall : ([3].all fun u => !Tryz.prog.wantsStandIn u) = true := by kernel_rfl
        exact (show Tryz.prog.wantsStandIn t = false by simpa using List.all_eq_true.1 hall t hm)⟩)
    (by kernel_rfl)
#print axioms proved
end Go.Proofs.YthpbaaadkhdifaaGreatDoor.selectorNew
