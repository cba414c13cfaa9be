/- Contract of transport.Pack. -/
import Derived.Test.YtgdjpaeclicdfaaDoorTrH
import Derived.Test.YtgdjpaeclicdfaaDoorSymF
namespace Go.Proofs.YtgdjpaeclicdfaaDoor
open Go.ChangeShapes Go.WideShapes Go.ChangeAt Go.RowKit Go.Shelf
set_option linter.unusedVariables false
set_option linter.unusedSimpArgs false

def packP (rn rd : Int) (u : Un) : Option (List UInt8) := if rateOk rn rd && validU u then some (pktsU rn rd u).flatten else none
def packV : Option (List UInt8) → Value
 | none => .tuple #[.string (bstr []), .int .i64 180]
 | some l => .tuple #[.string (bstr l), .int .i64 0]
theorem bldU_own {β : Type} {B base b : Nat} {v : Value} {bs : List UInt8} : OwnFrom B (fun (_ : β) W => (bldU base b v bs).F W) := fun s X Y row hs hg hr => by
 have hs' := hs
 obtain ⟨h1, ⟨p, hp, hb⟩, h3, h4⟩ := hs
 refine bldU_ok base b v bs X Y hs' (fun k hk => hg.block k ?_ fun e => ?_) hg.size
 ·rcases hk with rfl | hk
  ·exact (Array.getElem?_eq_some_iff.1 hb).1
  ·exact (own_lt h3 k hk).1
 ·obtain ⟨_, o, ho, hc⟩ := hr k e.symm
  rcases hk with rfl | hk
  ·rw [hb] at ho; cases ho; cases hc
  ·rcases h3.2 with ⟨rfl, _⟩ | ⟨g, cap, cur, rfl, _, hh, _⟩
   ·cases hk
   ·cases hk
    rw [hh] at ho; cases ho; cases hc
/-- No block of the builder is anything but cells. -/
theorem bldU_no {base b : Nat} {v : Value} {bs : List UInt8} {W : World} (h : (bldU base b v bs).F W) {k : Nat} {o : Obj} (hk : W.heap[k]? = some o) (hc : o.isCells = false) : ¬ (bldU base b v bs).fp k := fun hf => by
 obtain ⟨h1, ⟨p, hp, hb⟩, h3, h4⟩ := h
 rcases hf with rfl | hf
 ·rw [hb] at hk; cases hk; cases hc
 ·rcases h3.2 with ⟨rfl, _⟩ | ⟨g, cap, cur, rfl, _, hh, _⟩
  ·cases hf
  ·cases hf
   rw [hh] at hk; cases hk; cases hc
theorem bldU_lt {base b : Nat} {v : Value} {bs : List UInt8} {w : World} (h : (bldU base b v bs).F w) : ∀ k, (bldU base b v bs).fp k → k < w.heap.size := by
 obtain ⟨h1, ⟨p, hp, hb⟩, h3, h4⟩ := h
 intro k hk
 rcases hk with rfl | hk
 ·exact (Array.getElem?_eq_some_iff.1 hb).1
 ·exact (own_lt h3 k hk).1
theorem packets_in (r u : Array Value) (w : World) :
  Calls Tryd.prog 30 #[.agg r, .agg u] w fun e w' => e = .returned (.func (.func 51) #[] #[.pointer (some ⟨w.heap.size, 0, none⟩), .pointer (some ⟨w.heap.size + 1, 0, none⟩)]) ∧ Below w.heap.size w w' ∧ Box w' w.heap.size 23 r ∧ Box w' (w.heap.size + 1) 28 u :=
 (packets_any r u w).mono fun e w' h => by
  obtain ⟨rfl, rfl⟩ := h
  refine ⟨rfl, ((Below.refl _ w).alloc (Nat.le_refl _) _).alloc (by simp) _, (Box.new w _ _).next (Below.alloc (Below.refl _ _) (Nat.le_refl _) _), ?_⟩
  have := Box.new (w.alloc (.cells r 23)) 28 u
  simpa using this
theorem bldU_old {base b : Nat} {v : Value} {bs : List UInt8} {W : World} (h : (bldU base b v bs).F W) {k : Nat} (hk : k < base) : ¬ (bldU base b v bs).fp k := fun hf => by
 obtain ⟨h1, ⟨p, hp, hb⟩, h3, h4⟩ := h
 rcases hf with rfl | hf
 ·omega
 ·have := (own_lt h3 k hf).2
  omega
/-- What stands behind some packets: the builder holds them; the iterator's variable is kept. -/
def packI (w : World) (bo Bu : Nat) (cs : Array Value) (xs : List Pk) (W : World) : Prop := (∃ v, (bldU w.heap.size bo v (xs.flatMap (·.1))).F W ∧ v.ownBlock ≠ some Bu) ∧ Below w.heap.size w W ∧ Box W Bu 28 cs
theorem packI_own {w : World} {bo B Bu : Nat} {cs : Array Value} (h0 : w.heap.size ≤ B) (h1 : w.heap.size ≤ B) : OwnFrom B (packI w bo Bu cs) := fun s X Y row hs hg hr =>
 ⟨by obtain ⟨v, hv, hn⟩ := hs.1; exact ⟨v, bldU_own (β := Unit) () X Y row hv hg hr, hn⟩, ownFrom_below (β := Unit) (Nat.le_refl _) h1 () X Y row hs.2.1 hg hr, box_own (β := Unit) _ _ _ (fun _ => cs) () X Y row hs.2.2 hg hr⟩
def packA (bo : Nat) (x : Pk) (a : Act) (W : World) : Prop := ∃ b, Box W b 64 (Lib.byteCells x.1).toArray ∧ Sl 23 [(7, .pointer (some ⟨b, 0, none⟩)), (6, .pointer (some ⟨bo, 0, none⟩))] a ∧ b ≠ bo
theorem packA_own {B bo : Nat} (x : Pk) (a : Act) : OwnFrom B (fun (_ : Unit) W => packA bo x a W) := OwnFrom.ex fun b => OwnFrom.and (box_own _ _ _ (fun _ => _)) (ownFrom_pure _ _)
theorem pk_flat_len (xs : List Pk) : (xs.flatMap (·.1)).length = 64 * xs.length := by
 induction xs with
 | nil => rfl
 | cons x l ih => rw [List.flatMap_cons, List.length_append, ih, x.2, List.length_cons]; omega
theorem pack_flat {rn rd : Int} {u : Un} {xs : List Pk} (h : xs.map (·.1) = pktsU rn rd u) : xs.flatMap (·.1) = (pktsU rn rd u).flatten := by rw [← h]; rfl
theorem pktN_pos {rn rd : Int} {u : Un} : 1 ≤ pktN (streamU rn rd u) := by
 have h8 : (clockP (ticksP rn rd u.frame).toNat).length = 5 := rfl
 unfold streamU pktN
 rw [List.length_append]
 omega
theorem pktN_le {rn rd : Int} {u : Un} (h : validU u = true) : pktN (streamU rn rd u) ≤ 13 := by
 have := streamU_len (rn := rn) (rd := rd) h
 unfold pktN
 omega
theorem pack_ne {rn rd : Int} {u : Un} (hv : validU u = true) {xs : List Pk} (h : xs.map (·.1) = pktsU rn rd u) : xs.flatMap (·.1) ≠ [] := fun e => by
 have h1 := congrArg List.length e
 have h2 := congrArg List.length h
 have h3 := pktN_pos (rn := rn) (rd := rd) (u := u)
 rw [pk_flat_len] at h1
 simp only [pktsU, List.length_map, List.length_range] at h2
 simp only [List.length_nil] at h1
 omega
theorem enc_size (x : Pk) : (Value.agg (Lib.byteCells x.1).toArray).cells.size = 64 := by
 have := byteCells_len x.1
 have := x.2
 simp [Value.cells]
 omega
theorem enc_one (x : Pk) : oneCells (Value.agg (Lib.byteCells x.1).toArray).cells.toList = true := by
 have h : ∀ l : List UInt8, oneCells (Lib.byteCells l) = true := by
  intro l
  induction l with
  | nil => rfl
  | cons a l ih => exact ih
 exact h x.1
theorem set_all : ∀ (us vs : List Value), us.length = vs.length → setAll us 0 vs = vs := by
 have key : ∀ (vs pre us : List Value), us.length = vs.length → setAll (pre ++ us) pre.length vs = pre ++ vs := by
  intro vs
  induction vs with
  | nil => intro pre us h; simp at h; subst h; rfl
  | cons v vs ih =>
   intro pre us h
   cases us with
   | nil => cases h
   | cons u us =>
    have := ih (pre ++ [v]) us (by simpa using h)
    rw [List.append_assoc, List.append_assoc, List.length_append] at this
    simp only [setAll]
    rw [show (pre ++ u :: us).set pre.length v = pre ++ v :: us by simp]
    exact this
 intro us vs h
 exact key vs [] us h
set_option maxRecDepth 100000 in
set_option maxHeartbeats 4000000 in
theorem pack_any (rn rd : Int) (u : Un) (w : World) (hL : Laid w) (hu : IsAlts w u.A u.al.length u.al) (hm : u.al.length ≤ maxLen) :
  Calls Tryd.prog 16 #[.agg #[.int .i64 rn, .int .i64 rd], u.val] w fun e w' => e = .returned (packV (packP rn rd u)) ∧ Below w.heap.size w w' := by
 have HP := Hp.start w
 refine w_enterM 23 [(0, (.agg #[(.int .i64 rn), (.int .i64 rd)])), (1, (.agg (ua u u.A u.c)))] Tryd.func16 rfl Tryd.ntmps16 (by kernel_rfl) (by kernel_rfl) fun a H => ?_
 refine wp_seq (w_region ?_)
 refine H.alloc HP 2 (fun b => (.pointer (some ⟨b, 0, none⟩))) 23 [(.int .i64 rn), (.int .i64 rd)] (by kernel_rfl) (fun w => by kernel_rfl) fun b_1 w_2 a H HP => ?_
 refine H.alloc HP 3 (fun b => (.pointer (some ⟨b, 0, none⟩))) 28 (ul u u.A u.c) (by kernel_rfl) (fun w => by kernel_rfl) fun b_3 w_4 a H HP => ?_
 refine H.v 4 (.string (bstr ([]))) fun a H => ?_
 refine H.v 5 (.int .i64 0) fun a H => ?_
 refine wpList_nil (then_normal (wp_seq (wp_seq (w_region ?_))))
 refine H.u 8 (.agg #[(.int .i64 rn), (.int .i64 rd)]) (ex_loadN (vs := [(.int .i64 rn), (.int .i64 rd)]) (by kernel_rfl) (by kernel_rfl) (by kernel_rfl) rfl (HP.cells 1 rfl 0 2 (by kernel_rfl))) fun a H => ?_
 refine H.call 9 (by kernel_rfl) (Eq.trans (by kernel_rfl : _ = (callFunc 29 #[(.agg #[(.int .i64 rn), (.int .i64 rd)])]).run Tryd.prog w_4) (Tryd.call29 _ _)) (tvalid_any rn rd w_4 (hL.below (HP.below (by kernel_rfl)))) ?_
 rintro e w_5 ⟨rfl, hbv⟩
 refine ⟨_, rfl, ?_⟩
 intro a H
 have HP := HP.next hbv
 refine H.v 10 (.bool (!(rateOk rn rd))) fun a H => ?_
 refine H.v 11 (.bool (!(rateOk rn rd))) fun a H => ?_
 refine H.split 11 rfl (fun g11 H => ?_) (fun g11 H => ?_)
 ·have g11p := not_is_true g11
  refine H.s 12 fun a H => ?_
  refine H.s 13 fun a H => ?_
  refine H.s 14 fun a H => ?_
  refine H.v 15 (.bool true) fun a H => ?_
  refine wpList_nil (then_normal ?_)
  refine w_ift H rfl ?_
  refine wp_seq (w_region ?_)
  refine H.v 4 (.string (bstr ([]))) fun a H => ?_
  refine H.v 5 (.int .i64 180) fun a H => ?_
  refine wpList_nil (then_normal (wp_ret (then_ret ?_)))
  refine H.ret2M (fn := Tryd.f16) Tryd.results16 (RV.tmp_ (v := (.string (bstr ([])))) (by kernel_rfl)) (RV.tmp_ (v := (.int .i64 180)) (by kernel_rfl)) ?_
  exact ⟨by unfold packP; rw [if_neg (by simp [g11p])]; rfl, (HP.below (by kernel_rfl))⟩
 ·have g11p := not_is_false g11
  refine H.u 12 (.agg (ua u u.A u.c)) (ex_loadN (vs := (ul u u.A u.c)) (by kernel_rfl) (by kernel_rfl) (by kernel_rfl) rfl (HP.cells 0 rfl 0 13 (by kernel_rfl))) fun a H => ?_
  refine H.call 13 (by kernel_rfl) (Eq.trans (by kernel_rfl : _ = (callFunc 18 #[(.agg (ua u u.A u.c))]).run Tryd.prog w_5) (Tryd.call18 _ _)) (uvalid_any u w_5 (hu.below (HP.below (by kernel_rfl))) hm) ?_
  rintro e w_6 ⟨rfl, hbw⟩
  refine ⟨_, rfl, ?_⟩
  intro a H
  have HP := HP.next hbw
  refine H.v 14 (.bool (!(validU u))) fun a H => ?_
  refine H.v 15 (.bool (!(validU u))) fun a H => ?_
  refine wpList_nil (then_normal ?_)
  refine w_if H rfl (fun g15 => ?_) (fun g15 => ?_)
  ·have g15p := not_is_true g15
   refine wp_seq (w_region ?_)
   refine H.v 4 (.string (bstr ([]))) fun a H => ?_
   refine H.v 5 (.int .i64 180) fun a H => ?_
   refine wpList_nil (then_normal (wp_ret (then_ret ?_)))
   refine H.ret2M (fn := Tryd.f16) Tryd.results16 (RV.tmp_ (v := (.string (bstr ([])))) (by kernel_rfl)) (RV.tmp_ (v := (.int .i64 180)) (by kernel_rfl)) ?_
   exact ⟨by unfold packP; rw [if_neg (by simp [g11p, g15p])]; rfl, (HP.below (by kernel_rfl))⟩
  ·have g15p := not_is_false g15
   refine wp_skip (then_normal (wp_seq (w_region ?_)))
   refine H.alloc HP 6 (fun b => (.pointer (some ⟨b, 0, none⟩))) 59 [(.pointer none), (.slice none 0 0)] (by kernel_rfl) (fun w => by kernel_rfl) fun b_7 w_8 a H HP => ?_
   refine wpList_nil (then_normal (wp_seq (wp_seq (w_region ?_))))
   refine H.u 16 (.agg #[(.int .i64 rn), (.int .i64 rd)]) (ex_loadN (vs := [(.int .i64 rn), (.int .i64 rd)]) (by kernel_rfl) (by kernel_rfl) (by kernel_rfl) rfl (HP.cells 2 rfl 0 2 (by kernel_rfl))) fun a H => ?_
   refine H.u 17 (.agg (ua u u.A u.c)) (ex_loadN (vs := (ul u u.A u.c)) (by kernel_rfl) (by kernel_rfl) (by kernel_rfl) rfl (HP.cells 1 rfl 0 13 (by kernel_rfl))) fun a H => ?_
   have hbo8 := (HP.at_ 0 rfl).lt
   refine H.call 18 (by kernel_rfl) (Eq.trans (by kernel_rfl : _ = (callFunc 30 #[(.agg #[(.int .i64 rn), (.int .i64 rd)]), (.agg (ua u u.A u.c))]).run Tryd.prog w_8) (Tryd.call30 _ _)) (packets_in _ _ w_8) ?_
   rintro e w_9 ⟨rfl, hbp, hBr, hBu⟩
   refine ⟨_, rfl, ?_⟩
   intro a H
   have HP := HP.next hbp
   refine wpList_nil (then_normal (wp_block ?_))
   have hbelW := (HP.below (by kernel_rfl))
   have hbo := HP.at_ 0 rfl
   have hbos := HP.fresh _ (List.mem_of_getElem? (show ([bx b_7 59 [(.pointer none), (.slice none 0 0)] true, bx b_3 28 (ul u u.A u.c) true, bx b_1 23 [(.int .i64 rn), (.int .i64 rd)] true] : List HB)[0]? = some _ from rfl)) rfl _ rfl
   have hrv : rateOk rn rd = true := by assumption
   have hvv : validU u = true := by assumption
   have hBul := hBu.lt
   have hsz := hbp.size
   have hfun : a.eval (.tmp 18) = (.func (.func 51) #[] #[(.pointer (some ⟨w_8.heap.size, 0, none⟩)), (.pointer (some ⟨w_8.heap.size + 1, 0, none⟩))]) := H.eval (by kernel_rfl)
   have hbos2 := hbelW.size
   have hbow := hbo.lt
   generalize hBue : w_8.heap.size + 1 = Bu at hBu hfun hBul
   generalize hBre : w_8.heap.size = Br at hBr hfun
   have H := H.keep (L' := [(6, (.pointer (some ⟨b_7, 0, none⟩)))]) (by kernel_rfl)
   clear HP
   refine (wpIn_wide (n := 20)).1 ?_
   refine wpIn_rangeO (F := Fence.wide) rfl (by omega) (gf := 51) (lb := #[.pointer (some ⟨Br, 0, none⟩), .pointer (some ⟨Bu, 0, none⟩)]) hfun trivial (enters_of Tryd.func51 (by kernel_rfl) rfl) (packets_seq 19 Br Bu rn rd u w_9 (hL.below hbelW) hrv (hu.below hbelW) hvv hBr hBu) KpU.trans (fun W l o o' h1 h2 _ _ _ => KpU.put W l o o' (by omega)) (fun _ => rfl)
    (packI w b_7 Bu u.cells) (fun _ _ _ => False) (packI_own (by omega) hbelW.size) (fun _ s X Y row h _ _ => h) ⟨⟨.slice none 0 0, ⟨hbos, ⟨_, .inl rfl, hbo⟩, World.ownsRow_nil _ _ _ _, fun h => (by cases h)⟩, fun h => (by cases h)⟩, hbelW, hBu⟩
    (packA b_7) (fun x y => packA_own x y) ?assign ?body ?done (fun _ _ _ _ _ _ h => h.elim)
   case assign =>
    rintro l' pre x W K ⟨⟨v, hb, hvB⟩, hbel, hBW⟩ hK
    have hbo2 := (Array.getElem?_eq_some_iff.1 hb.2.1.choose_spec.2).1
    have hsW := hbel.size
    have H := H.assigned 19 (.agg (Lib.byteCells x.1).toArray) (by kernel_rfl)
    refine wpIn_region_lit ?_
    refine H.allocF (fun _ => trivial) (Hp.start W) 7 (fun b => .pointer (some ⟨b, 0, none⟩)) 64 (List.replicate 64 (.int .u8 0)) (by kernel_rfl) (fun c h => by cases h) (fun w => by kernel_rfl) fun b W1 a1 H HP => ?_
    have hfr := HP.fresh _ (List.mem_cons_self ..) rfl _ rfl
    have hone := enc_one x
    have hszx := enc_size x
    refine H.storeF (fun _ => trivial) HP 0 b 0 64 64 (List.replicate 64 (.int .u8 0)) true (.agg (Lib.byteCells x.1).toArray) [bx b 64 (Lib.byteCells x.1) true] (by kernel_rfl) (by kernel_rfl) (by kernel_rfl) (by kernel_rfl) (by kernel_rfl) hszx hone (by simp [Value.cells, byteCells_len, x.2]) ?_ ?_
    ·rw [show (Value.agg (Lib.byteCells x.1).toArray).cells.toList = Lib.byteCells x.1 from rfl, set_all _ _ (by simp [byteCells_len, x.2])]; rfl
    intro W2 a2 H HP
    refine wpListIn_nil ?_
    have hb2 := HP.below (by kernel_rfl)
    exact hK _ _ (keepsFrom_below hb2) (KpU.below hb2 hBW.lt) ⟨⟨v, bldU_ok _ _ _ _ _ _ hb (fun k hk => hb2.block k (bldU_lt hb k hk)) hb2.size, hvB⟩, hbel.trans (hb2.mono hsW), hBW.next hb2⟩ ⟨b, HP.at_ 0 rfl, H.keep (by kernel_rfl), by omega⟩
   case body =>
    rintro l' pre x a' W ⟨⟨v, hb, hvB⟩, hbel, hBW⟩ ⟨b, hx, H, hne⟩ hlen
    have hn13 := pktN_le (rn := rn) (rd := rd) hvv
    have hfl := pk_flat_len pre
    have hsW := hbel.size
    refine wpIn_block ?_
    refine wpIn_region_lit ?_
    refine H.valF (fun _ => trivial) 20 (.slice (some ⟨b, 0, none⟩) 64 64) (by kernel_rfl) (fun c h => by cases h) (ex_arrslice (n := 64) (e := 5) (sz := 1) (by kernel_rfl) (by kernel_rfl) (by omega) (by kernel_rfl)) fun a H => ?_
    have hR : Rd W 1 (some ⟨b, 0, none⟩) x.1.length (Lib.byteCells x.1) := Rd.of_box hx (by rw [byteCells_len]; omega)
    have hcall := write_any w.heap.size b_7 v (pre.flatMap (·.1)) x.1 (some ⟨b, 0, none⟩) 64 W hb (fun h => by cases h) hR (fun g o h => by cases h; exact hne) (by rw [hfl, x.2]; omega) hsW
    rw [x.2] at hcall
    refine H.callF (m := 17) (fun _ => trivial) 21 (by kernel_rfl) (fun c h => by cases h) (Eq.trans (by kernel_rfl : _ = (callFunc 31 #[.pointer (some ⟨b_7, 0, none⟩), .slice (some ⟨b, 0, none⟩) 64 64]).run Tryd.prog W) (Tryd.call31 _ _)) (CallsIn.inRound l' (callsIn_wide.2 hcall)) ?_
    rintro e W2 ⟨rfl, v2, hb2, hag, hv2⟩
    refine ⟨_, rfl, ?_⟩
    intro a H
    refine wpListIn_nil ?_
    refine inb_normal ?_
    have hkb : W2.heap[Bu]? = W.heap[Bu]? := hag.block Bu hBW.lt (fun h => h.elim (fun h => by omega) (fun h => hvB h))
    refine ⟨⟨hag.size, fun k o _ hk hc => (hag.block k (Array.getElem?_eq_some_iff.1 hk).1 (bldU_no hb hk hc)).trans hk⟩, ⟨hag.size, hkb⟩, ⟨v2, by rw [List.flatMap_append, List.flatMap_cons, List.flatMap_nil, List.append_nil]; exact hb2, fun h => (hv2 Bu h).elim hvB (fun h => by have := hBW.lt; omega)⟩, hbel.trans ⟨hag.os, hag.tape, hag.output, hag.size, fun k hk => hag.block k (Nat.lt_of_lt_of_le hk hsW) (bldU_old hb hk)⟩, hkb.trans hBW⟩
   case done =>
    rintro D xs W' hD hS ⟨⟨v, hb, hvB⟩, hbl, _⟩ hdef
    rw [show ({ a with defers := { target := .collected D, args := #[] } :: a.defers } : Act) = moreD [{ target := .collected D, args := #[] }] a from by simp [moreD, H.defers]]
    have hnil : xs.flatMap (·.1) ≠ [] := pack_ne hvv hS
    refine inb_normal (then_normal (wp_seq (w_region ?_)))
    refine wpList_D _ _ _ ?_
    refine H.call 22 (by kernel_rfl) (Eq.trans (by kernel_rfl : _ = (callFunc 32 #[.pointer (some ⟨b_7, 0, none⟩)]).run Tryd.prog W') (Tryd.call32 _ _)) (str_any w.heap.size b_7 v _ W' (bldU_R hb) hnil) ?_
    rintro e W2 ⟨rfl, hb2, hag⟩
    refine ⟨_, rfl, ?_⟩
    intro a H
    refine H.v 4 (.string (bstr (xs.flatMap (·.1)))) fun a H => ?_
    refine H.v 5 (.int .i64 0) fun a H => ?_
    refine wpList_nil (then_normal (wp_ret ?_))
    have hd2 : W2.heap[D]? = some (.deferred (some [])) := (hag.block D (Array.getElem?_eq_some_iff.1 hdef).1 (bldU_no hb hdef rfl)).trans hdef
    refine H.ret2D hd2 (fn := Tryd.f16) Tryd.results16 (RV.tmp_ (v := .string (bstr (xs.flatMap (·.1)))) (by kernel_rfl)) (RV.tmp_ (v := .int .i64 0) (by kernel_rfl)) ?_
    have hfin : Below w.heap.size w W2 := hbl.trans ⟨hag.os, hag.tape, hag.output, hag.size, fun k hk => hag.block k (Nat.lt_of_lt_of_le hk hbl.size) (bldU_old hb hk)⟩
    refine ⟨by unfold packP; rw [hrv, hvv, pack_flat hS]; rfl, hfin.trans (belowK_b (w := w) (Nat.le_refl _) _ D _ _ (by have := hbelW.size; omega) hd2 rfl rfl)⟩
end Go.Proofs.YtgdjpaeclicdfaaDoor
