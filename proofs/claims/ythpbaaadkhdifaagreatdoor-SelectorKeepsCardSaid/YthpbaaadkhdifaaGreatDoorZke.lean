/- Part 5 of the proofs: SeF, SeG, SymI, SymJ, SeN, SeH, SeI, PlA, SymK, PlB, SymM, PlC. -/
import Derived.MapFrom
import Derived.Test.YthpbaaadkhdifaaGreatDoorZkd
namespace Go.Proofs.YthpbaaadkhdifaaGreatDoor
set_option maxRecDepth 100000
set_option maxHeartbeats 4000000
open Go.ChangeShapes Go.WideShapes Go.ChangeAt Go.RowKit Go.Shelf
set_option linter.unusedVariables false
set_option linter.unusedSimpArgs false
def UnpR (rn rd : Int) (l : List UInt8) (U : Un) (er : Int) : Prop := (unpackP rn rd l = none ∧ U = zeroU ∧ er = 180) ∨ (∃ u, unpackP rn rd l = some u ∧ bareU U = u ∧ er = 0)
def AccR (lib : List AstA) (fl : Option Int) (c : Ch) (f : Int) (l : List UInt8) (V : Un) (ok : Bool) : Prop := (acceptP lib fl c f l = none ∧ ok = false ∧ V = zeroU) ∨ (acceptP lib fl c f l = some (bareU V) ∧ ok = true)
theorem unpack_bare {rn rd : Int} {l : List UInt8} {u : Un} (h : unpackP rn rd l = some u) : bareU u = u := by
 unfold unpackP at h
 split at h
 ·cases h
 ·split at h
  ·cases h
  ·split at h
   ·cases h
   ·split at h
    ·cases h; rfl
    ·cases h
theorem unpack_u (rn rd : Int) (l : List UInt8) (w : World) (hL : Laid w) (hl : l.length ≤ 1000000) (hal : ∀ u, unpackP rn rd l = some u → u.al = []) :
  Calls Tryz.prog 122 #[.agg #[.int .i64 rn, .int .i64 rd], .string (bstr l)] w fun e w' => ∃ U er, e = .returned (.tuple #[U.val, .int .i64 er]) ∧ Below w.heap.size w w' ∧ U.al = [] ∧ UnpR rn rd l U er :=
 (unpack_any rn rd l w hL hl).mono fun e w' h => by
  cases hr : unpackP rn rd l with
  | none => rw [hr] at h; obtain ⟨rfl, hb⟩ := h; exact ⟨zeroU, 180, rfl, hb, rfl, .inl ⟨hr, rfl, rfl⟩⟩
  | some u =>
   rw [hr] at h
   obtain ⟨B, c, rfl, _, _, _, _, _, hb⟩ := h
   exact ⟨{ u with A := B, c := c }, 0, rfl, hb, hal u hr, .inr ⟨u, hr, unpack_bare hr, rfl⟩⟩
section
variable {lib : List AstA} {fl : Option Int} {c : Ch} {fr er : Int} {l : List UInt8} {U : Un}
theorem acc_none (h : UnpR c.num c.den l U er) (hr : ((er == 0) && ((U.channel == c.number) && (U.frame == fr))) = false ∨ genuineP lib U = false ∨ rule3 fl U = false ∨ ((U.item == 0) || (contS c U || entersS lib c.full U)) = false) : AccR lib fl c fr l zeroU false := by
 refine .inl ⟨?_, rfl, rfl⟩
 unfold acceptP
 rcases h with ⟨h, _⟩ | ⟨u, h, rfl, rfl⟩
 ·rw [h]
 ·rw [h]
  simp only
  refine if_neg fun hh => ?_
  obtain ⟨h1, h2, h3, h4⟩ := hh
  rcases hr with hr | hr | hr | hr
  ·rw [show ((bareU U).channel == c.number && (bareU U).frame == fr) = (U.channel == c.number && U.frame == fr) from rfl] at h1
   rw [h1] at hr; cases hr
  ·rw [show genuineP lib (bareU U) = genuineP lib U from rfl, hr] at h2; cases h2
  ·have h5 : rule3 fl U = true := h3
   rw [hr] at h5; cases h5
  ·rw [show ((bareU U).item == 0 || (contS c (bareU U) || entersS lib c.full (bareU U))) = (U.item == 0 || (contS c U || entersS lib c.full U)) from rfl, hr] at h4; cases h4
theorem acc_some (h : UnpR c.num c.den l U er) (h1 : ((er == 0) && ((U.channel == c.number) && (U.frame == fr))) = true) (h2 : genuineP lib U = true) (h3 : rule3 fl U = true) (h4 : ((U.item == 0) || (contS c U || entersS lib c.full U)) = true) : AccR lib fl c fr l U true := by
 refine .inr ⟨?_, rfl⟩
 unfold acceptP
 rcases h with ⟨_, _, rfl⟩ | ⟨u, h, rfl, rfl⟩
 ·simp at h1
 ·rw [h]
  simp only
  exact if_pos ⟨h1, h2, h3, h4⟩
end
set_option maxRecDepth 100000 in
set_option maxHeartbeats 4000000 in
theorem accept_any (bs bc n cc o : Nat) (lc : Nat) (LA : Option Addr) (lib : List AstA) (hd : Bool) (at_ od fr : Int) (pre post : List Value) (c : Ch) (l : List UInt8) (w : World) (ho : pre.length = o) (hn : 0 < n) (hat : 0 ≤ at_ ∧ at_ ≤ 9223372036854775807) (hfr : -9223372036854775808 ≤ fr ∧ fr ≤ 9223372036854775807) (hix : -1 ≤ c.index ∧ c.index ≤ 1000000000) (hl : l.length ≤ 1000000) (hal : ∀ u, unpackP c.num c.den l = some u → u.al = []) (hL : Laid w) (hlib : IsAsts w LA lib.length lib) (hln : lib.length ≤ maxLen) (hlp : ∀ a ∈ lib, a.pics.length ≤ 2000000) (hS : Box w bs 111 [(.slice (some ⟨bc, 0, none⟩) n cc), (.slice LA lib.length lc), (.bool hd), (ii at_), (ii od)].toArray) (hC : Box w bc 115 (pre ++ [(ii c.item), (ii c.index), (ii c.full), (ii c.taken), (ii c.number), (ii c.num), (ii c.den)] ++ post).toArray) :
  Calls Tryz.prog 76 #[.pointer (some ⟨bs, 0, none⟩), .pointer (some ⟨bc, o, none⟩), .int .i64 fr, .string (bstr l)] w fun e w' => ∃ V ok, e = .returned (.tuple #[V.val, .bool ok]) ∧ V.al = [] ∧ AccR lib (floorP hd at_ od fr) c fr l V ok ∧ Below w.heap.size w w' := by
 have HP := (((((Hp.start w).keepF (boxK bc 115 (pre ++ [(ii c.item), (ii c.index), (ii c.full), (ii c.taken), (ii c.number), (ii c.num), (ii c.den)] ++ post)) hC (boxK_ok _ _ _) (fun k hk => ⟨boxK_lt hC hk, fun x hx => by cases hx⟩)).keepF (boxK bs 111 [(.slice (some ⟨bc, 0, none⟩) n cc), (.slice LA lib.length lc), (.bool hd), (ii at_), (ii od)]) hS (boxK_ok _ _ _) (fun k hk => ⟨boxK_lt hS hk, fun x hx => by cases hx⟩)).keepF (astsK LA lib) hlib (fun _ _ h hk hs => IsAsts.keep h hk hs) (fun k hk => ⟨IsAsts.lt hlib hk, fun x hx => by cases hx⟩)).keepF (laidK) hL laidK_ok (fun k hk => ⟨hL.lt k hk, fun x hx => by cases hx⟩))
 refine w_enter 41 [(0, (pt bs 0)), (1, (pt bc o)), (2, (ii fr)), (3, (.string (bstr l)))] Tryz.func76 rfl Tryz.ntmps76 (by kernel_rfl) (by kernel_rfl) fun a H => ?_
 refine wp_seq (w_region ?_)
 refine H.alloc HP 4 (fun b => (pt b 0)) 29 [(pt bs 0)] (by kernel_rfl) (fun w => by kernel_rfl) fun b_1 w_2 a H HP => H.alloc HP 5 (fun b => (pt b 0)) 129 [(pt bc o)] (by kernel_rfl) (fun w => by kernel_rfl) fun b_3 w_4 a H HP => H.alloc HP 6 (fun b => (pt b 0)) 3 [(ii fr)] (by kernel_rfl) (fun w => by kernel_rfl) fun b_5 w_6 a H HP => H.alloc HP 8 (fun b => (pt b 0)) 76 [(ii 0), (ii 0), (ii 0), (ii 0), (ii 0), (.bool false), (.string (bstr ([]))), (ii 0), (ii 0), (.string (bstr ([]))), (ii 0), (ii 0), (.slice none 0 0)] (by kernel_rfl) (fun w => by kernel_rfl) fun b_7 w_8 a H HP => ?_
 refine H.ge HP [(9, (.bool false))] [] fun a H => ?_
 refine then_normal (wp_seq (w_region ?_))
 refine H.go HP 3 [(18, (.pointer (some ⟨bc, o + 5, none⟩)))] [2] fun a H => H.u 19 (.agg #[(ii c.num), (ii c.den)]) (ex_loadN (b := bc) (off := o + 5) (vs := [(ii c.num), (ii c.den)]) (by kernel_rfl) (by kernel_rfl) (by kernel_rfl) rfl (win_cells (HP.fact 3 rfl : Box _ bc 115 _) ho 5 2)) fun a H => H.go HP 1 [(20, (.string (bstr l)))] [] fun a H => ?_
 refine H.call 21 (by kernel_rfl) (Eq.trans (by kernel_rfl : _ = (callFunc 122 #[(.agg #[(ii c.num), (ii c.den)]), (.string (bstr l))]).run Tryz.prog w_8) (Tryz.call122 _ _)) (unpack_u c.num c.den l w_8 (HP.fact 0 rfl) hl hal) ?_
 rintro e w_9 ⟨U, er, rfl, hbu, hUal, hUR⟩
 refine ⟨_, rfl, ?_⟩
 intro a H
 have HP := HP.next hbu
 refine H.go HP 3 [(22, (.agg (ua U U.A U.c))), (23, (ii er))] [] fun a H => H.alloc HP 10 (fun b => (pt b 0)) 76 [(ii 0), (ii 0), (ii 0), (ii 0), (ii 0), (.bool false), (.string (bstr ([]))), (ii 0), (ii 0), (.string (bstr ([]))), (ii 0), (ii 0), (.slice none 0 0)] (by kernel_rfl) (fun w => by kernel_rfl) fun b_10 w_11 a H HP => H.alloc HP 11 (fun b => (pt b 0)) 30 [(ii 0)] (by kernel_rfl) (fun w => by kernel_rfl) fun b_12 w_13 a H HP => H.sh HP 1 0 (.agg (ua U U.A U.c)) rfl fun w_14 a H HP => H.sh HP 0 0 (ii er) rfl fun w_15 a H HP => ?_
 refine wpList_nil (then_normal (wp_seq (w_region ?_)))
 refine H.go HP 4 [(24, (.func (.func 123) #[] #[(pt b_12 0), (pt b_10 0), (pt b_3 0), (pt b_5 0)])), (25, (.func (.func 124) #[] #[(pt b_1 0), (pt b_10 0)])), (26, (.func (.func 125) #[] #[(pt b_1 0), (pt b_5 0), (pt b_10 0)])), (27, (.func (.func 126) #[] #[(pt b_10 0), (pt b_3 0), (pt b_1 0)]))] [] fun a H => H.alloc HP 28 (fun b => (.slice (some ⟨b, 0, none⟩) 4 4)) 24 [(.func (.func 123) #[] #[(pt b_12 0), (pt b_10 0), (pt b_3 0), (pt b_5 0)]), (.func (.func 124) #[] #[(pt b_1 0), (pt b_10 0)]), (.func (.func 125) #[] #[(pt b_1 0), (pt b_5 0), (pt b_10 0)]), (.func (.func 126) #[] #[(pt b_10 0), (pt b_3 0), (pt b_1 0)])] (by kernel_rfl) (fun w => by kernel_rfl) fun b_16 w_17 a H HP => ?_
 refine H.ge HP [(12, (.slice (some ⟨b_16, 0, none⟩) 4 4))] [] fun a H => ?_
 refine then_normal (wp_seq (wp_seq (w_region ?_)))
 refine H.ge HP [(29, (.slice (some ⟨b_16, 0, none⟩) 4 4)), (30, (ii 4)), (31, (ii 0))] [] fun a H => ?_
 refine then_normal (wp_block ?_)
 refine w_loop (fun mm a wv => (mm = 4 ∧ Sl 41 [(31, (ii 0)), (3, (.string (bstr l))), (4, (pt b_1 0)), (5, (pt b_3 0)), (6, (pt b_5 0)), (8, (pt b_7 0)), (10, (pt b_10 0)), (11, (pt b_12 0)), (29, (.slice (some ⟨b_16, 0, none⟩) 4 4)), (30, (ii 4))] a ∧ Hp w wv [bx b_16 24 [(.func (.func 123) #[] #[(pt b_12 0), (pt b_10 0), (pt b_3 0), (pt b_5 0)]), (.func (.func 124) #[] #[(pt b_1 0), (pt b_10 0)]), (.func (.func 125) #[] #[(pt b_1 0), (pt b_5 0), (pt b_10 0)]), (.func (.func 126) #[] #[(pt b_10 0), (pt b_3 0), (pt b_1 0)])] true, bx b_12 30 [(ii er)] true, bx b_10 76 (ul U U.A U.c) true, bx b_7 76 [(ii 0), (ii 0), (ii 0), (ii 0), (ii 0), (.bool false), (.string (bstr ([]))), (ii 0), (ii 0), (.string (bstr ([]))), (ii 0), (ii 0), (.slice none 0 0)] true, bx b_5 3 [(ii fr)] true, bx b_3 129 [(pt bc o)] true, bx b_1 29 [(pt bs 0)] true] [laidK, astsK LA lib, boxK bs 111 [(.slice (some ⟨bc, 0, none⟩) n cc), (.slice LA lib.length lc), (.bool hd), (ii at_), (ii od)], boxK bc 115 (pre ++ [(ii c.item), (ii c.index), (ii c.full), (ii c.taken), (ii c.number), (ii c.num), (ii c.den)] ++ post)]) ∨ (mm = 3 ∧ Sl 41 [(31, (ii 1)), (3, (.string (bstr l))), (4, (pt b_1 0)), (5, (pt b_3 0)), (6, (pt b_5 0)), (8, (pt b_7 0)), (10, (pt b_10 0)), (11, (pt b_12 0)), (29, (.slice (some ⟨b_16, 0, none⟩) 4 4)), (30, (ii 4))] a ∧ Hp w wv [bx b_16 24 [(.func (.func 123) #[] #[(pt b_12 0), (pt b_10 0), (pt b_3 0), (pt b_5 0)]), (.func (.func 124) #[] #[(pt b_1 0), (pt b_10 0)]), (.func (.func 125) #[] #[(pt b_1 0), (pt b_5 0), (pt b_10 0)]), (.func (.func 126) #[] #[(pt b_10 0), (pt b_3 0), (pt b_1 0)])] true, bx b_12 30 [(ii er)] true, bx b_10 76 (ul U U.A U.c) true, bx b_7 76 [(ii 0), (ii 0), (ii 0), (ii 0), (ii 0), (.bool false), (.string (bstr ([]))), (ii 0), (ii 0), (.string (bstr ([]))), (ii 0), (ii 0), (.slice none 0 0)] true, bx b_5 3 [(ii fr)] true, bx b_3 129 [(pt bc o)] true, bx b_1 29 [(pt bs 0)] true] [laidK, astsK LA lib, boxK bs 111 [(.slice (some ⟨bc, 0, none⟩) n cc), (.slice LA lib.length lc), (.bool hd), (ii at_), (ii od)], boxK bc 115 (pre ++ [(ii c.item), (ii c.index), (ii c.full), (ii c.taken), (ii c.number), (ii c.num), (ii c.den)] ++ post)] ∧ ((er == 0) && ((U.channel == c.number) && (U.frame == fr))) = true) ∨ (mm = 2 ∧ Sl 41 [(31, (ii 2)), (3, (.string (bstr l))), (4, (pt b_1 0)), (5, (pt b_3 0)), (6, (pt b_5 0)), (8, (pt b_7 0)), (10, (pt b_10 0)), (11, (pt b_12 0)), (29, (.slice (some ⟨b_16, 0, none⟩) 4 4)), (30, (ii 4))] a ∧ Hp w wv [bx b_16 24 [(.func (.func 123) #[] #[(pt b_12 0), (pt b_10 0), (pt b_3 0), (pt b_5 0)]), (.func (.func 124) #[] #[(pt b_1 0), (pt b_10 0)]), (.func (.func 125) #[] #[(pt b_1 0), (pt b_5 0), (pt b_10 0)]), (.func (.func 126) #[] #[(pt b_10 0), (pt b_3 0), (pt b_1 0)])] true, bx b_12 30 [(ii er)] true, bx b_10 76 (ul U U.A U.c) true, bx b_7 76 [(ii 0), (ii 0), (ii 0), (ii 0), (ii 0), (.bool false), (.string (bstr ([]))), (ii 0), (ii 0), (.string (bstr ([]))), (ii 0), (ii 0), (.slice none 0 0)] true, bx b_5 3 [(ii fr)] true, bx b_3 129 [(pt bc o)] true, bx b_1 29 [(pt bs 0)] true] [laidK, astsK LA lib, boxK bs 111 [(.slice (some ⟨bc, 0, none⟩) n cc), (.slice LA lib.length lc), (.bool hd), (ii at_), (ii od)], boxK bc 115 (pre ++ [(ii c.item), (ii c.index), (ii c.full), (ii c.taken), (ii c.number), (ii c.num), (ii c.den)] ++ post)] ∧ ((er == 0) && ((U.channel == c.number) && (U.frame == fr))) = true ∧ genuineP lib U = true) ∨ (mm = 1 ∧ Sl 41 [(31, (ii 3)), (3, (.string (bstr l))), (4, (pt b_1 0)), (5, (pt b_3 0)), (6, (pt b_5 0)), (8, (pt b_7 0)), (10, (pt b_10 0)), (11, (pt b_12 0)), (29, (.slice (some ⟨b_16, 0, none⟩) 4 4)), (30, (ii 4))] a ∧ Hp w wv [bx b_16 24 [(.func (.func 123) #[] #[(pt b_12 0), (pt b_10 0), (pt b_3 0), (pt b_5 0)]), (.func (.func 124) #[] #[(pt b_1 0), (pt b_10 0)]), (.func (.func 125) #[] #[(pt b_1 0), (pt b_5 0), (pt b_10 0)]), (.func (.func 126) #[] #[(pt b_10 0), (pt b_3 0), (pt b_1 0)])] true, bx b_12 30 [(ii er)] true, bx b_10 76 (ul U U.A U.c) true, bx b_7 76 [(ii 0), (ii 0), (ii 0), (ii 0), (ii 0), (.bool false), (.string (bstr ([]))), (ii 0), (ii 0), (.string (bstr ([]))), (ii 0), (ii 0), (.slice none 0 0)] true, bx b_5 3 [(ii fr)] true, bx b_3 129 [(pt bc o)] true, bx b_1 29 [(pt bs 0)] true] [laidK, astsK LA lib, boxK bs 111 [(.slice (some ⟨bc, 0, none⟩) n cc), (.slice LA lib.length lc), (.bool hd), (ii at_), (ii od)], boxK bc 115 (pre ++ [(ii c.item), (ii c.index), (ii c.full), (ii c.taken), (ii c.number), (ii c.num), (ii c.den)] ++ post)] ∧ ((er == 0) && ((U.channel == c.number) && (U.frame == fr))) = true ∧ genuineP lib U = true ∧ rule3 (floorP hd at_ od fr) U = true) ∨ (mm = 0 ∧ Sl 41 [(31, (ii 4)), (3, (.string (bstr l))), (4, (pt b_1 0)), (5, (pt b_3 0)), (6, (pt b_5 0)), (8, (pt b_7 0)), (10, (pt b_10 0)), (11, (pt b_12 0)), (29, (.slice (some ⟨b_16, 0, none⟩) 4 4)), (30, (ii 4))] a ∧ Hp w wv [bx b_16 24 [(.func (.func 123) #[] #[(pt b_12 0), (pt b_10 0), (pt b_3 0), (pt b_5 0)]), (.func (.func 124) #[] #[(pt b_1 0), (pt b_10 0)]), (.func (.func 125) #[] #[(pt b_1 0), (pt b_5 0), (pt b_10 0)]), (.func (.func 126) #[] #[(pt b_10 0), (pt b_3 0), (pt b_1 0)])] true, bx b_12 30 [(ii er)] true, bx b_10 76 (ul U U.A U.c) true, bx b_7 76 [(ii 0), (ii 0), (ii 0), (ii 0), (ii 0), (.bool false), (.string (bstr ([]))), (ii 0), (ii 0), (.string (bstr ([]))), (ii 0), (ii 0), (.slice none 0 0)] true, bx b_5 3 [(ii fr)] true, bx b_3 129 [(pt bc o)] true, bx b_1 29 [(pt bs 0)] true] [laidK, astsK LA lib, boxK bs 111 [(.slice (some ⟨bc, 0, none⟩) n cc), (.slice LA lib.length lc), (.bool hd), (ii at_), (ii od)], boxK bc 115 (pre ++ [(ii c.item), (ii c.index), (ii c.full), (ii c.taken), (ii c.number), (ii c.num), (ii c.den)] ++ post)] ∧ ((er == 0) && ((U.channel == c.number) && (U.frame == fr))) = true ∧ genuineP lib U = true ∧ rule3 (floorP hd at_ od fr) U = true ∧ ((U.item == 0) || (contS c U || entersS lib c.full U)) = true)) 4 (.inl ⟨rfl, H.keep (by kernel_rfl), HP⟩) ?_
 rintro mm a w_18 (⟨rfl, H, HP⟩ | ⟨rfl, H, HP, r1⟩ | ⟨rfl, H, HP, r1, r2⟩ | ⟨rfl, H, HP, r1, r2, r3⟩ | ⟨rfl, H, HP, r1, r2, r3, r4⟩)
 ·refine wp_seq (w_region ?_)
  refine H.ge HP [(32, (.bool true))] [] fun a H => ?_
  refine then_normal (wp_seq ?_)
  refine w_ift H rfl ?_
  refine wp_skip (then_normal (wp_seq (wp_block (wp_seq (w_region ?_)))))
  refine H.u 33 (pt b_16 0) (ex_index (b := b_16) (off := 0) (len := 4) (cap := 4) (e := 24) (k := 1) (ik := .i64) (i := 0) (m := 0) (by kernel_rfl) (by kernel_rfl) (by omega) (by omega) (by kernel_rfl) (by kernel_rfl)) fun a H => ?_
  refine H.ge HP [(14, (.func (.func 123) #[] #[(pt b_12 0), (pt b_10 0), (pt b_3 0), (pt b_5 0)]))] [0] fun a H => ?_
  refine then_normal (wp_seq (w_region ?_))
  refine H.go HP 1 [(35, (.func (.func 123) #[] #[(pt b_12 0), (pt b_10 0), (pt b_3 0), (pt b_5 0)]))] [] fun a H => ?_
  refine H.call 36 (by kernel_rfl) (Eq.trans (by kernel_rfl : _ = (callFunc 123 #[(pt b_12 0), (pt b_10 0), (pt b_3 0), (pt b_5 0)]).run Tryz.prog w_18) (Tryz.call123 _ _)) (rule1_any b_12 b_10 b_3 b_5 bc o er fr pre post c U w_18 ho (HP.at_ 1 rfl) (HP.at_ 2 rfl) (HP.at_ 5 rfl) (HP.at_ 4 rfl) (HP.fact 3 rfl)) ?_
  rintro e w_19 ⟨rfl, hb⟩
  refine ⟨_, rfl, ?_⟩
  intro a H
  have HP := HP.next hb
  refine H.ge HP [(37, (.bool (!((er == 0) && ((U.channel == c.number) && (U.frame == fr))))))] [] fun a H => ?_
  refine then_normal ?_
  refine w_if H rfl (fun g37 => ?_) (fun g37 => ?_)
  ·have g37p := not_is_true g37
   refine wp_seq (w_region ?_)
   refine H.go HP 1 [(38, (.agg #[(ii 0), (ii 0), (ii 0), (ii 0), (ii 0), (.bool false), (.string (bstr ([]))), (ii 0), (ii 0), (.string (bstr ([]))), (ii 0), (ii 0), (.slice none 0 0)]))] [] fun a H => H.sh HP 3 0 (.agg #[(ii 0), (ii 0), (ii 0), (ii 0), (ii 0), (.bool false), (.string (bstr ([]))), (ii 0), (ii 0), (.string (bstr ([]))), (ii 0), (ii 0), (.slice none 0 0)]) rfl fun w_20 a H HP => ?_
   refine H.ge HP [(9, (.bool false))] [] fun a H => ?_
   refine then_normal (wp_ret (inb_ret (then_ret (then_ret (inb_ret (then_ret ?_))))))
   refine H.ret2 (fn := Tryz.f76) Tryz.results76 (RV.cellN (vs := [(ii 0), (ii 0), (ii 0), (ii 0), (ii 0), (.bool false), (.string (bstr ([]))), (ii 0), (ii 0), (.string (bstr ([]))), (ii 0), (ii 0), (.slice none 0 0)]) (b := b_7) (off := 0) (k := 13) (by kernel_rfl) (by kernel_rfl) (by kernel_rfl) rfl (HP.cells 3 rfl 0 13 (by kernel_rfl))) (RV.tmp_ (v := (.bool false)) (by kernel_rfl)) ?_
   exact ⟨zeroU, false, rfl, rfl, acc_none hUR (.inl g37p), HP.bl⟩
  have g37p := not_is_false g37
  refine wp_skip (inb_normal (then_normal (w_region ?_)))
  refine H.valE 39 (ii (IntKind.i64.wrap (0 + 1))) (ii 1) (by kernel_rfl) (by kernel_rfl) (by kernel_rfl) fun a H => ?_
  refine H.ge HP [(31, (ii 1))] [] fun a H => ?_
  refine then_normal ?_
  exact ⟨3, by omega, .inr (.inl ⟨rfl, H.keep (by kernel_rfl), HP, g37p⟩)⟩
 ·refine wp_seq (w_region ?_)
  refine H.ge HP [(32, (.bool true))] [] fun a H => ?_
  refine then_normal (wp_seq ?_)
  refine w_ift H rfl ?_
  refine wp_skip (then_normal (wp_seq (wp_block (wp_seq (w_region ?_)))))
  refine H.u 33 (pt b_16 1) (ex_index (b := b_16) (off := 0) (len := 4) (cap := 4) (e := 24) (k := 1) (ik := .i64) (i := 1) (m := 1) (by kernel_rfl) (by kernel_rfl) (by omega) (by omega) (by kernel_rfl) (by kernel_rfl)) fun a H => ?_
  refine H.ge HP [(14, (.func (.func 124) #[] #[(pt b_1 0), (pt b_10 0)]))] [0] fun a H => ?_
  refine then_normal (wp_seq (w_region ?_))
  refine H.go HP 1 [(35, (.func (.func 124) #[] #[(pt b_1 0), (pt b_10 0)]))] [] fun a H => ?_
  refine H.call 36 (by kernel_rfl) (Eq.trans (by kernel_rfl : _ = (callFunc 124 #[(pt b_1 0), (pt b_10 0)]).run Tryz.prog w_18) (Tryz.call124 _ _)) (rule2_any b_1 b_10 bs bc n cc lc LA lib hd at_ od U w_18 (HP.fact 1 rfl) hln hlp (HP.fact 2 rfl) (HP.at_ 6 rfl) (HP.at_ 2 rfl)) ?_
  rintro e w_21 ⟨rfl, hb⟩
  refine ⟨_, rfl, ?_⟩
  intro a H
  have HP := HP.next hb
  refine H.ge HP [(37, (.bool (!(genuineP lib U))))] [] fun a H => ?_
  refine then_normal ?_
  refine w_if H rfl (fun g37 => ?_) (fun g37 => ?_)
  ·have g37p := not_is_true g37
   refine wp_seq (w_region ?_)
   refine H.go HP 1 [(38, (.agg #[(ii 0), (ii 0), (ii 0), (ii 0), (ii 0), (.bool false), (.string (bstr ([]))), (ii 0), (ii 0), (.string (bstr ([]))), (ii 0), (ii 0), (.slice none 0 0)]))] [] fun a H => H.sh HP 3 0 (.agg #[(ii 0), (ii 0), (ii 0), (ii 0), (ii 0), (.bool false), (.string (bstr ([]))), (ii 0), (ii 0), (.string (bstr ([]))), (ii 0), (ii 0), (.slice none 0 0)]) rfl fun w_22 a H HP => ?_
   refine H.ge HP [(9, (.bool false))] [] fun a H => ?_
   refine then_normal (wp_ret (inb_ret (then_ret (then_ret (inb_ret (then_ret ?_))))))
   refine H.ret2 (fn := Tryz.f76) Tryz.results76 (RV.cellN (vs := [(ii 0), (ii 0), (ii 0), (ii 0), (ii 0), (.bool false), (.string (bstr ([]))), (ii 0), (ii 0), (.string (bstr ([]))), (ii 0), (ii 0), (.slice none 0 0)]) (b := b_7) (off := 0) (k := 13) (by kernel_rfl) (by kernel_rfl) (by kernel_rfl) rfl (HP.cells 3 rfl 0 13 (by kernel_rfl))) (RV.tmp_ (v := (.bool false)) (by kernel_rfl)) ?_
   exact ⟨zeroU, false, rfl, rfl, acc_none hUR (.inr (.inl g37p)), HP.bl⟩
  have g37p := not_is_false g37
  refine wp_skip (inb_normal (then_normal (w_region ?_)))
  refine H.valE 39 (ii (IntKind.i64.wrap (1 + 1))) (ii 2) (by kernel_rfl) (by kernel_rfl) (by kernel_rfl) fun a H => ?_
  refine H.ge HP [(31, (ii 2))] [] fun a H => ?_
  refine then_normal ?_
  exact ⟨2, by omega, .inr (.inr (.inl ⟨rfl, H.keep (by kernel_rfl), HP, r1, g37p⟩))⟩
 ·refine wp_seq (w_region ?_)
  refine H.ge HP [(32, (.bool true))] [] fun a H => ?_
  refine then_normal (wp_seq ?_)
  refine w_ift H rfl ?_
  refine wp_skip (then_normal (wp_seq (wp_block (wp_seq (w_region ?_)))))
  refine H.u 33 (pt b_16 2) (ex_index (b := b_16) (off := 0) (len := 4) (cap := 4) (e := 24) (k := 1) (ik := .i64) (i := 2) (m := 2) (by kernel_rfl) (by kernel_rfl) (by omega) (by omega) (by kernel_rfl) (by kernel_rfl)) fun a H => ?_
  refine H.ge HP [(14, (.func (.func 125) #[] #[(pt b_1 0), (pt b_5 0), (pt b_10 0)]))] [0] fun a H => ?_
  refine then_normal (wp_seq (w_region ?_))
  refine H.go HP 1 [(35, (.func (.func 125) #[] #[(pt b_1 0), (pt b_5 0), (pt b_10 0)]))] [] fun a H => ?_
  refine H.call 36 (by kernel_rfl) (Eq.trans (by kernel_rfl : _ = (callFunc 125 #[(pt b_1 0), (pt b_5 0), (pt b_10 0)]).run Tryz.prog w_18) (Tryz.call125 _ _)) (rule3_any b_1 b_5 b_10 bs bc n cc lc LA lib hd at_ od fr U w_18 hn hat hfr (HP.fact 2 rfl) (HP.at_ 6 rfl) (HP.at_ 4 rfl) (HP.at_ 2 rfl)) ?_
  rintro e w_23 ⟨rfl, hb⟩
  refine ⟨_, rfl, ?_⟩
  intro a H
  have HP := HP.next hb
  refine H.ge HP [(37, (.bool (!(rule3 (floorP hd at_ od fr) U))))] [] fun a H => ?_
  refine then_normal ?_
  refine w_if H rfl (fun g37 => ?_) (fun g37 => ?_)
  ·have g37p := not_is_true g37
   refine wp_seq (w_region ?_)
   refine H.go HP 1 [(38, (.agg #[(ii 0), (ii 0), (ii 0), (ii 0), (ii 0), (.bool false), (.string (bstr ([]))), (ii 0), (ii 0), (.string (bstr ([]))), (ii 0), (ii 0), (.slice none 0 0)]))] [] fun a H => H.sh HP 3 0 (.agg #[(ii 0), (ii 0), (ii 0), (ii 0), (ii 0), (.bool false), (.string (bstr ([]))), (ii 0), (ii 0), (.string (bstr ([]))), (ii 0), (ii 0), (.slice none 0 0)]) rfl fun w_24 a H HP => ?_
   refine H.ge HP [(9, (.bool false))] [] fun a H => ?_
   refine then_normal (wp_ret (inb_ret (then_ret (then_ret (inb_ret (then_ret ?_))))))
   refine H.ret2 (fn := Tryz.f76) Tryz.results76 (RV.cellN (vs := [(ii 0), (ii 0), (ii 0), (ii 0), (ii 0), (.bool false), (.string (bstr ([]))), (ii 0), (ii 0), (.string (bstr ([]))), (ii 0), (ii 0), (.slice none 0 0)]) (b := b_7) (off := 0) (k := 13) (by kernel_rfl) (by kernel_rfl) (by kernel_rfl) rfl (HP.cells 3 rfl 0 13 (by kernel_rfl))) (RV.tmp_ (v := (.bool false)) (by kernel_rfl)) ?_
   exact ⟨zeroU, false, rfl, rfl, acc_none hUR (.inr (.inr (.inl g37p))), HP.bl⟩
  have g37p := not_is_false g37
  refine wp_skip (inb_normal (then_normal (w_region ?_)))
  refine H.valE 39 (ii (IntKind.i64.wrap (2 + 1))) (ii 3) (by kernel_rfl) (by kernel_rfl) (by kernel_rfl) fun a H => ?_
  refine H.ge HP [(31, (ii 3))] [] fun a H => ?_
  refine then_normal ?_
  exact ⟨1, by omega, .inr (.inr (.inr (.inl ⟨rfl, H.keep (by kernel_rfl), HP, r1, r2, g37p⟩)))⟩
 ·refine wp_seq (w_region ?_)
  refine H.ge HP [(32, (.bool true))] [] fun a H => ?_
  refine then_normal (wp_seq ?_)
  refine w_ift H rfl ?_
  refine wp_skip (then_normal (wp_seq (wp_block (wp_seq (w_region ?_)))))
  refine H.u 33 (pt b_16 3) (ex_index (b := b_16) (off := 0) (len := 4) (cap := 4) (e := 24) (k := 1) (ik := .i64) (i := 3) (m := 3) (by kernel_rfl) (by kernel_rfl) (by omega) (by omega) (by kernel_rfl) (by kernel_rfl)) fun a H => ?_
  refine H.ge HP [(14, (.func (.func 126) #[] #[(pt b_10 0), (pt b_3 0), (pt b_1 0)]))] [0] fun a H => ?_
  refine then_normal (wp_seq (w_region ?_))
  refine H.go HP 1 [(35, (.func (.func 126) #[] #[(pt b_10 0), (pt b_3 0), (pt b_1 0)]))] [] fun a H => ?_
  refine H.call 36 (by kernel_rfl) (Eq.trans (by kernel_rfl : _ = (callFunc 126 #[(pt b_10 0), (pt b_3 0), (pt b_1 0)]).run Tryz.prog w_18) (Tryz.call126 _ _)) (rule4_any b_10 b_3 b_1 bs bc n cc o lc LA lib hd at_ od pre post c U w_18 ho hix (HP.fact 1 rfl) hln hlp (HP.fact 2 rfl) (HP.at_ 6 rfl) (HP.fact 3 rfl) (HP.at_ 5 rfl) (HP.at_ 2 rfl)) ?_
  rintro e w_25 ⟨rfl, hb⟩
  refine ⟨_, rfl, ?_⟩
  intro a H
  have HP := HP.next hb
  refine H.ge HP [(37, (.bool (!((U.item == 0) || (contS c U || entersS lib c.full U)))))] [] fun a H => ?_
  refine then_normal ?_
  refine w_if H rfl (fun g37 => ?_) (fun g37 => ?_)
  ·have g37p := not_is_true g37
   refine wp_seq (w_region ?_)
   refine H.go HP 1 [(38, (.agg #[(ii 0), (ii 0), (ii 0), (ii 0), (ii 0), (.bool false), (.string (bstr ([]))), (ii 0), (ii 0), (.string (bstr ([]))), (ii 0), (ii 0), (.slice none 0 0)]))] [] fun a H => H.sh HP 3 0 (.agg #[(ii 0), (ii 0), (ii 0), (ii 0), (ii 0), (.bool false), (.string (bstr ([]))), (ii 0), (ii 0), (.string (bstr ([]))), (ii 0), (ii 0), (.slice none 0 0)]) rfl fun w_26 a H HP => ?_
   refine H.ge HP [(9, (.bool false))] [] fun a H => ?_
   refine then_normal (wp_ret (inb_ret (then_ret (then_ret (inb_ret (then_ret ?_))))))
   refine H.ret2 (fn := Tryz.f76) Tryz.results76 (RV.cellN (vs := [(ii 0), (ii 0), (ii 0), (ii 0), (ii 0), (.bool false), (.string (bstr ([]))), (ii 0), (ii 0), (.string (bstr ([]))), (ii 0), (ii 0), (.slice none 0 0)]) (b := b_7) (off := 0) (k := 13) (by kernel_rfl) (by kernel_rfl) (by kernel_rfl) rfl (HP.cells 3 rfl 0 13 (by kernel_rfl))) (RV.tmp_ (v := (.bool false)) (by kernel_rfl)) ?_
   exact ⟨zeroU, false, rfl, rfl, acc_none hUR (.inr (.inr (.inr g37p))), HP.bl⟩
  have g37p := not_is_false g37
  refine wp_skip (inb_normal (then_normal (w_region ?_)))
  refine H.valE 39 (ii (IntKind.i64.wrap (3 + 1))) (ii 4) (by kernel_rfl) (by kernel_rfl) (by kernel_rfl) fun a H => ?_
  refine H.ge HP [(31, (ii 4))] [] fun a H => ?_
  refine then_normal ?_
  exact ⟨0, by omega, .inr (.inr (.inr (.inr (⟨rfl, H.keep (by kernel_rfl), HP, r1, r2, r3, g37p⟩))))⟩
 refine wp_seq (w_region ?_)
 refine H.ge HP [(32, (.bool false))] [] fun a H => ?_
 refine then_normal (wp_seq ?_)
 refine w_iff H rfl ?_
 refine wp_exit (then_exit (then_exit ?_))
 refine w_exit_here ?_
 refine then_normal (wp_seq (w_region ?_))
 refine H.go HP 1 [(40, (.agg (ua U U.A U.c)))] [2] fun a H => H.sh HP 3 0 (.agg (ua U U.A U.c)) rfl fun w_27 a H HP => ?_
 refine H.ge HP [(9, (.bool true))] [] fun a H => ?_
 refine then_normal (wp_ret ?_)
 refine H.ret2 (fn := Tryz.f76) Tryz.results76 (RV.cellN (vs := (ul U U.A U.c)) (b := b_7) (off := 0) (k := 13) (by kernel_rfl) (by kernel_rfl) (by kernel_rfl) rfl (HP.cells 3 rfl 0 13 (by kernel_rfl))) (RV.tmp_ (v := (.bool true)) (by kernel_rfl)) ?_
 exact ⟨U, true, rfl, hUal, acc_some hUR r1 r2 r3 r4, HP.bl⟩
theorem accept_yes (bs bc n cc o : Nat) (lc : Nat) (LA : Option Addr) (lib : List AstA) (hd : Bool) (at_ od fr : Int) (pre post : List Value) (c : Ch) (l : List UInt8) (w : World) (ho : pre.length = o) (hn : 0 < n) (hat : 0 ≤ at_ ∧ at_ ≤ 9223372036854775807) (hfr : -9223372036854775808 ≤ fr ∧ fr ≤ 9223372036854775807) (hix : -1 ≤ c.index ∧ c.index ≤ 1000000000) (hl : l.length ≤ 1000000) (hal : ∀ u, unpackP c.num c.den l = some u → u.al = []) (hL : Laid w) (hlib : IsAsts w LA lib.length lib) (hln : lib.length ≤ maxLen) (hlp : ∀ a ∈ lib, a.pics.length ≤ 2000000) (hS : Box w bs 111 (selL bc n cc LA lib.length lc hd at_ od).toArray) (hC : Box w bc 115 (pre ++ chL c ++ post).toArray) {x : Un} (hx : acceptP lib (floorP hd at_ od fr) c fr l = some x) : Calls Tryz.prog 76 #[.pointer (some ⟨bs, 0, none⟩), .pointer (some ⟨bc, o, none⟩), .int .i64 fr, .string (bstr l)] w fun e w' => ∃ V, e = .returned (.tuple #[V.val, .bool true]) ∧ V.al = [] ∧ bareU V = x ∧ Below w.heap.size w w' :=
 (accept_any bs bc n cc o lc LA lib hd at_ od fr pre post c l w ho hn hat hfr hix hl hal hL hlib hln hlp hS hC).mono fun e w' h => by
  obtain ⟨V, ok, rfl, h1, h2, hb⟩ := h
  rcases h2 with ⟨h2, _⟩ | ⟨h2, rfl⟩
  ·rw [hx] at h2; cases h2
  ·rw [hx] at h2; exact ⟨V, rfl, h1, (Option.some.inj h2).symm, hb⟩
theorem accept_no (bs bc n cc o : Nat) (lc : Nat) (LA : Option Addr) (lib : List AstA) (hd : Bool) (at_ od fr : Int) (pre post : List Value) (c : Ch) (l : List UInt8) (w : World) (ho : pre.length = o) (hn : 0 < n) (hat : 0 ≤ at_ ∧ at_ ≤ 9223372036854775807) (hfr : -9223372036854775808 ≤ fr ∧ fr ≤ 9223372036854775807) (hix : -1 ≤ c.index ∧ c.index ≤ 1000000000) (hl : l.length ≤ 1000000) (hal : ∀ u, unpackP c.num c.den l = some u → u.al = []) (hL : Laid w) (hlib : IsAsts w LA lib.length lib) (hln : lib.length ≤ maxLen) (hlp : ∀ a ∈ lib, a.pics.length ≤ 2000000) (hS : Box w bs 111 (selL bc n cc LA lib.length lc hd at_ od).toArray) (hC : Box w bc 115 (pre ++ chL c ++ post).toArray) (hx : acceptP lib (floorP hd at_ od fr) c fr l = none) : Calls Tryz.prog 76 #[.pointer (some ⟨bs, 0, none⟩), .pointer (some ⟨bc, o, none⟩), .int .i64 fr, .string (bstr l)] w fun e w' => e = .returned (.tuple #[zeroU.val, .bool false]) ∧ Below w.heap.size w w' :=
 (accept_any bs bc n cc o lc LA lib hd at_ od fr pre post c l w ho hn hat hfr hix hl hal hL hlib hln hlp hS hC).mono fun e w' h => by
  obtain ⟨V, ok, rfl, h1, h2, hb⟩ := h
  rcases h2 with ⟨h2, rfl, rfl⟩ | ⟨h2, _⟩
  ·exact ⟨rfl, hb⟩
  ·rw [hx] at h2; cases h2
section
variable {lib : List AstA} {fl : Option Int} {c : Ch} {fr : Int} {a b : List UInt8} {x y : Un}
theorem choose_nn (h1 : acceptP lib fl c fr a = none) (h2 : acceptP lib fl c fr b = none) : chooseC lib fl c fr a b = (slateU c.number fr, showC c (slateU c.number fr) c.taken) := by unfold chooseC; rw [h1, h2]; rfl
theorem choose_yn (h1 : acceptP lib fl c fr a = some x) (h2 : acceptP lib fl c fr b = none) : chooseC lib fl c fr a b = (x, showC c x 0) := by unfold chooseC; rw [h1, h2]; rfl
theorem choose_ny (h1 : acceptP lib fl c fr a = none) (h2 : acceptP lib fl c fr b = some y) : chooseC lib fl c fr a b = (y, showC c y 1) := by unfold chooseC; rw [h1, h2]; rfl
theorem choose_yy1 (h1 : acceptP lib fl c fr a = some x) (h2 : acceptP lib fl c fr b = some y) (h : preferP x y c.taken = 1) : chooseC lib fl c fr a b = (y, showC c y (preferP x y c.taken)) := by unfold chooseC; rw [h1, h2]; simp only [takeP, if_pos h]
theorem choose_yy0 (h1 : acceptP lib fl c fr a = some x) (h2 : acceptP lib fl c fr b = some y) (h : preferP x y c.taken ≠ 1) : chooseC lib fl c fr a b = (x, showC c x (preferP x y c.taken)) := by unfold chooseC; rw [h1, h2]; simp only [takeP, if_neg h]
end
def RetCh (lib : List AstA) (fl : Option Int) (c : Ch) (fr : Int) (a b : List UInt8) (bc : Nat) (pre post : List Value) (w : World) (e : Ending) (w' : World) : Prop :=
 ∃ V : Un, e = .returned V.val ∧ V.al = [] ∧ bareU V = (chooseC lib fl c fr a b).1 ∧ Box w' bc 115 (pre ++ chL (chooseC lib fl c fr a b).2 ++ post).toArray ∧ w.grownBy w' (some bc)
set_option maxRecDepth 100000 in
set_option maxHeartbeats 4000000 in
theorem choose_nn_any (bs bc n cc o : Nat) (lc : Nat) (LA : Option Addr) (lib : List AstA) (hd : Bool) (at_ od fr : Int) (pre post : List Value) (c : Ch) (la lb : List UInt8) (w : World) (ho : pre.length = o) (hn : 0 < n) (hat : 0 ≤ at_ ∧ at_ ≤ 9223372036854775807) (hfr : -9223372036854775808 ≤ fr ∧ fr ≤ 9223372036854775807) (hix : -1 ≤ c.index ∧ c.index ≤ 1000000000) (hla : la.length ≤ 1000000) (hlb : lb.length ≤ 1000000) (hala : ∀ u, unpackP c.num c.den la = some u → u.al = []) (halb : ∀ u, unpackP c.num c.den lb = some u → u.al = []) (hne : bs ≠ bc) (hcl : ¬ libFp LA lib bc) (h2c : 2 ≤ bc) (hL : Laid w) (hlib : IsAsts w LA lib.length lib) (hln : lib.length ≤ maxLen) (hlp : ∀ a ∈ lib, a.pics.length ≤ 2000000) (hS : Box w bs 111 (selL bc n cc LA lib.length lc hd at_ od).toArray) (hC : Box w bc 115 (pre ++ chL c ++ post).toArray) (h1 : acceptP lib (floorP hd at_ od fr) c fr la = none) (h2 : acceptP lib (floorP hd at_ od fr) c fr lb = none) :
  Calls Tryz.prog 44 #[.pointer (some ⟨bs, 0, none⟩), .pointer (some ⟨bc, o, none⟩), .int .i64 fr, .string (bstr la), .string (bstr lb)] w fun e w' => RetCh lib (floorP hd at_ od fr) c fr la lb bc pre post w e w' := by
 have HP := (((Hp.own (vs := pre ++ [(ii c.item), (ii c.index), (ii c.full), (ii c.taken), (ii c.number), (ii c.num), (ii c.den)] ++ post) hC).keepF (boxK bs 111 [(.slice (some ⟨bc, 0, none⟩) n cc), (.slice LA lib.length lc), (.bool hd), (ii at_), (ii od)]) hS (boxK_ok _ _ _) (fun k hk => ⟨boxK_lt hS hk, fun x hx => by simp only [List.mem_cons, List.not_mem_nil, or_false] at hx; rcases hx with rfl; exact fun e => hne (hk.symm.trans e)⟩)).keepF (astsK LA lib) hlib (fun _ _ h hk hs => IsAsts.keep h hk hs) (fun k hk => ⟨IsAsts.lt hlib hk, fun x hx => by simp only [List.mem_cons, List.not_mem_nil, or_false] at hx; rcases hx with rfl; exact fun e => hcl (e ▸ hk)⟩)).keepF laidK hL laidK_ok (fun k hk => ⟨hL.lt k hk, fun x hx => by simp only [List.mem_cons, List.not_mem_nil, or_false] at hx; rcases hx with rfl; exact fun e => by rcases hk with hk | hk <;> (have : k = bc := e; omega)⟩)
 refine w_enter 87 [(0, (pt bs 0)), (1, (pt bc o)), (2, (ii fr)), (3, (.string (bstr la))), (4, (.string (bstr lb)))] Tryz.func44 rfl Tryz.ntmps44 (by kernel_rfl) (by kernel_rfl) fun a H => ?_
 refine wp_seq (w_region ?_)
 refine H.alloc HP 10 (fun b => (pt b 0)) 76 [(ii 0), (ii 0), (ii 0), (ii 0), (ii 0), (.bool false), (.string (bstr ([]))), (ii 0), (ii 0), (.string (bstr ([]))), (ii 0), (ii 0), (.slice none 0 0)] (by kernel_rfl) (fun w => by kernel_rfl) fun b_1 w_2 a H HP => ?_
 refine wpList_nil (then_normal (wp_seq (w_region ?_)))
 refine H.go HP 4 [(17, (pt bs 0)), (18, (pt bc o)), (19, (ii fr)), (20, (.string (bstr la)))] [] fun a H => ?_
 refine H.call 21 (by kernel_rfl) (Eq.trans (by kernel_rfl : _ = (callFunc 76 #[(pt bs 0), (pt bc o), (ii fr), (.string (bstr la))]).run Tryz.prog w_2) (Tryz.call76 _ _)) (accept_no bs bc n cc o lc LA lib hd at_ od fr pre post c la w_2 ho hn hat hfr hix hla hala (HP.fact 0 rfl) (HP.fact 1 rfl) hln hlp (HP.fact 2 rfl) (HP.at_ 1 rfl) h1) ?_
 rintro e w_3 ⟨rfl, hb⟩
 refine ⟨_, rfl, ?_⟩
 intro a H
 have HP := HP.next hb
 refine H.go HP 3 [(22, (.agg #[(ii 0), (ii 0), (ii 0), (ii 0), (ii 0), (.bool false), (.string (bstr ([]))), (ii 0), (ii 0), (.string (bstr ([]))), (ii 0), (ii 0), (.slice none 0 0)])), (23, (.bool false))] [] fun a H => H.alloc HP 11 (fun b => (pt b 0)) 76 [(ii 0), (ii 0), (ii 0), (ii 0), (ii 0), (.bool false), (.string (bstr ([]))), (ii 0), (ii 0), (.string (bstr ([]))), (ii 0), (ii 0), (.slice none 0 0)] (by kernel_rfl) (fun w => by kernel_rfl) fun b_4 w_5 a H HP => H.sh HP 0 0 (.agg #[(ii 0), (ii 0), (ii 0), (ii 0), (ii 0), (.bool false), (.string (bstr ([]))), (ii 0), (ii 0), (.string (bstr ([]))), (ii 0), (ii 0), (.slice none 0 0)]) rfl fun w_6 a H HP => ?_
 refine H.ge HP [(12, (.bool false))] [] fun a H => ?_
 refine then_normal (wp_seq (w_region ?_))
 refine H.go HP 4 [(25, (pt bs 0)), (26, (pt bc o)), (27, (ii fr)), (28, (.string (bstr lb)))] [] fun a H => ?_
 refine H.call 29 (by kernel_rfl) (Eq.trans (by kernel_rfl : _ = (callFunc 76 #[(pt bs 0), (pt bc o), (ii fr), (.string (bstr lb))]).run Tryz.prog w_6) (Tryz.call76 _ _)) (accept_no bs bc n cc o lc LA lib hd at_ od fr pre post c lb w_6 ho hn hat hfr hix hlb halb (HP.fact 0 rfl) (HP.fact 1 rfl) hln hlp (HP.fact 2 rfl) (HP.at_ 2 rfl) h2) ?_
 rintro e w_7 ⟨rfl, hb⟩
 refine ⟨_, rfl, ?_⟩
 intro a H
 have HP := HP.next hb
 refine H.go HP 3 [(30, (.agg #[(ii 0), (ii 0), (ii 0), (ii 0), (ii 0), (.bool false), (.string (bstr ([]))), (ii 0), (ii 0), (.string (bstr ([]))), (ii 0), (ii 0), (.slice none 0 0)])), (31, (.bool false))] [] fun a H => H.alloc HP 13 (fun b => (pt b 0)) 76 [(ii 0), (ii 0), (ii 0), (ii 0), (ii 0), (.bool false), (.string (bstr ([]))), (ii 0), (ii 0), (.string (bstr ([]))), (ii 0), (ii 0), (.slice none 0 0)] (by kernel_rfl) (fun w => by kernel_rfl) fun b_8 w_9 a H HP => H.sh HP 0 0 (.agg #[(ii 0), (ii 0), (ii 0), (ii 0), (ii 0), (.bool false), (.string (bstr ([]))), (ii 0), (ii 0), (.string (bstr ([]))), (ii 0), (ii 0), (.slice none 0 0)]) rfl fun w_10 a H HP => ?_
 refine H.ge HP [(14, (.bool false))] [] fun a H => ?_
 refine then_normal (wp_seq (w_region ?_))
 refine H.go HP 1 [(32, (.agg #[(ii 0), (ii 0), (ii 0), (ii 0), (ii 0), (.bool false), (.string (bstr ([]))), (ii 0), (ii 0), (.string (bstr ([]))), (ii 0), (ii 0), (.slice none 0 0)]))] [1] fun a H => H.alloc HP 15 (fun b => (pt b 0)) 76 [(ii 0), (ii 0), (ii 0), (ii 0), (ii 0), (.bool false), (.string (bstr ([]))), (ii 0), (ii 0), (.string (bstr ([]))), (ii 0), (ii 0), (.slice none 0 0)] (by kernel_rfl) (fun w => by kernel_rfl) fun b_11 w_12 a H HP => H.sh HP 0 0 (.agg #[(ii 0), (ii 0), (ii 0), (ii 0), (ii 0), (.bool false), (.string (bstr ([]))), (ii 0), (ii 0), (.string (bstr ([]))), (ii 0), (ii 0), (.slice none 0 0)]) rfl fun w_13 a H HP => ?_
 refine wpList_nil (then_normal (wp_seq (wp_block (wp_seq (w_region ?_)))))
 refine H.ge HP [(38, (.bool true))] [] fun a H => ?_
 refine then_normal ?_
 refine w_ift H rfl ?_
 refine w_region ?_
 refine H.go HP 3 [(47, (.pointer (some ⟨bc, o + 4, none⟩)))] [] fun a H => H.u 48 (ii c.number) (ex_l1 (win_cell (k := 4) (HP.at_ 4 rfl) ho rfl)) fun a H => H.go HP 1 [(49, (ii fr))] [] fun a H => ?_
 refine H.call 50 (by kernel_rfl) (Eq.trans (by kernel_rfl : _ = (callFunc 42 #[(ii c.number), (ii fr)]).run Tryz.prog w_13) (Tryz.call42 _ _)) (slate_any c.number fr w_13) ?_
 rintro e w_14 ⟨rfl, hb⟩
 refine ⟨_, rfl, ?_⟩
 intro a H
 have HP := HP.next hb
 refine H.sh HP 0 0 (.agg #[(ii c.number), (ii fr), (ii 0), (ii 0), (ii 0), (.bool true), (.string (bstr ([]))), (ii 255), (ii 1000), (.string (bstr ([64, 0, 0]))), (ii 0), (ii 0), (.slice none 0 0)]) rfl fun w_15 a H HP => ?_
 refine wpList_nil (inb_normal (then_normal (wp_seq ?_)))
 refine An.start (fun v => Hp w v [bx b_11 76 [(ii c.number), (ii fr), (ii 0), (ii 0), (ii 0), (.bool true), (.string (bstr ([]))), (ii 255), (ii 1000), (.string (bstr ([64, 0, 0]))), (ii 0), (ii 0), (.slice none 0 0)] true, bx b_8 76 [(ii 0), (ii 0), (ii 0), (ii 0), (ii 0), (.bool false), (.string (bstr ([]))), (ii 0), (ii 0), (.string (bstr ([]))), (ii 0), (ii 0), (.slice none 0 0)] true, bx b_4 76 [(ii 0), (ii 0), (ii 0), (ii 0), (ii 0), (.bool false), (.string (bstr ([]))), (ii 0), (ii 0), (.string (bstr ([]))), (ii 0), (ii 0), (.slice none 0 0)] true, bx b_1 76 [(ii 0), (ii 0), (ii 0), (ii 0), (ii 0), (.bool false), (.string (bstr ([]))), (ii 0), (ii 0), (.string (bstr ([]))), (ii 0), (ii 0), (.slice none 0 0)] true, bx bc 115 (pre ++ [(ii c.item), (ii c.index), (ii c.full), (ii c.taken), (ii c.number), (ii c.num), (ii c.den)] ++ post) false] [laidK, astsK LA lib, boxK bs 111 [(.slice (some ⟨bc, 0, none⟩) n cc), (.slice LA lib.length lc), (.bool hd), (ii at_), (ii od)]]) 4 5 HP wide_follows rfl fun w_16 HP => ?_
 refine An.go H (.inr (HP)) 1 [0, 1, 2, 3] [(83, (pt bc o)), (84, (.agg #[(ii c.number), (ii fr), (ii 0), (ii 0), (ii 0), (.bool true), (.string (bstr ([]))), (ii 255), (ii 1000), (.string (bstr ([64, 0, 0]))), (ii 0), (ii 0), (.slice none 0 0)]))] [0] fun a H => ?_
 refine An.one 4 (by kernel_rfl) ?_
 refine Op.call H 85 rfl (by kernel_rfl) (Eq.trans (by kernel_rfl : _ = (callFunc 78 #[(pt bc o), (.agg #[(ii c.number), (ii fr), (ii 0), (ii 0), (ii 0), (.bool true), (.string (bstr ([]))), (ii 255), (ii 1000), (.string (bstr ([64, 0, 0]))), (ii 0), (ii 0), (.slice none 0 0)])]).run Tryz.prog w_16) (Tryz.call78 _ _)) (show_any bc o pre post c (slateU c.number fr) w_16 (HP.at_ 4 rfl) ho) ?_
 rintro e w_17 ⟨rfl, hbx, hgr⟩
 refine ⟨_, rfl, ?_⟩
 intro a H
 have HP := (HP.changed 4 rfl (pre ++ [(ii 0), (ii 0), (ii ((vstep c.full ((([] : List UInt8).length : Nat) : Int)).getD 0)), (ii c.taken), (ii c.number), (ii c.num), (ii c.den)] ++ post) [bx b_11 76 [(ii c.number), (ii fr), (ii 0), (ii 0), (ii 0), (.bool true), (.string (bstr ([]))), (ii 255), (ii 1000), (.string (bstr ([64, 0, 0]))), (ii 0), (ii 0), (.slice none 0 0)] true, bx b_8 76 [(ii 0), (ii 0), (ii 0), (ii 0), (ii 0), (.bool false), (.string (bstr ([]))), (ii 0), (ii 0), (.string (bstr ([]))), (ii 0), (ii 0), (.slice none 0 0)] true, bx b_4 76 [(ii 0), (ii 0), (ii 0), (ii 0), (ii 0), (.bool false), (.string (bstr ([]))), (ii 0), (ii 0), (.string (bstr ([]))), (ii 0), (ii 0), (.slice none 0 0)] true, bx b_1 76 [(ii 0), (ii 0), (ii 0), (ii 0), (ii 0), (.bool false), (.string (bstr ([]))), (ii 0), (ii 0), (.string (bstr ([]))), (ii 0), (ii 0), (.slice none 0 0)] true, bx bc 115 (pre ++ [(ii 0), (ii 0), (ii ((vstep c.full ((([] : List UInt8).length : Nat) : Int)).getD 0)), (ii c.taken), (ii c.number), (ii c.num), (ii c.den)] ++ post) false] (by kernel_rfl) hgr hbx)
 refine ⟨.inl (by kernel_rfl), ?_⟩
 refine An.done (by kernel_rfl) ?_
 refine then_normal (wp_seq (w_region ?_))
 refine H.go HP 1 [(86, (.agg #[(ii c.number), (ii fr), (ii 0), (ii 0), (ii 0), (.bool true), (.string (bstr ([]))), (ii 255), (ii 1000), (.string (bstr ([64, 0, 0]))), (ii 0), (ii 0), (.slice none 0 0)]))] [0] fun a H => H.sh HP 3 0 (.agg #[(ii c.number), (ii fr), (ii 0), (ii 0), (ii 0), (.bool true), (.string (bstr ([]))), (ii 255), (ii 1000), (.string (bstr ([64, 0, 0]))), (ii 0), (ii 0), (.slice none 0 0)]) rfl fun w_18 a H HP => ?_
 refine wpList_nil (then_normal (wp_ret ?_))
 refine H.ret1 (fn := Tryz.f44) Tryz.results44 (RV.cellN (vs := [(ii c.number), (ii fr), (ii 0), (ii 0), (ii 0), (.bool true), (.string (bstr ([]))), (ii 255), (ii 1000), (.string (bstr ([64, 0, 0]))), (ii 0), (ii 0), (.slice none 0 0)]) (b := b_1) (off := 0) (k := 13) (by kernel_rfl) (by kernel_rfl) (by kernel_rfl) rfl (HP.cells 3 rfl 0 13 (by kernel_rfl))) ?_
 have HP : Hp w w_18 [bx b_11 76 [(ii c.number), (ii fr), (ii 0), (ii 0), (ii 0), (.bool true), (.string (bstr ([]))), (ii 255), (ii 1000), (.string (bstr ([64, 0, 0]))), (ii 0), (ii 0), (.slice none 0 0)] true, bx b_8 76 [(ii 0), (ii 0), (ii 0), (ii 0), (ii 0), (.bool false), (.string (bstr ([]))), (ii 0), (ii 0), (.string (bstr ([]))), (ii 0), (ii 0), (.slice none 0 0)] true, bx b_4 76 [(ii 0), (ii 0), (ii 0), (ii 0), (ii 0), (.bool false), (.string (bstr ([]))), (ii 0), (ii 0), (.string (bstr ([]))), (ii 0), (ii 0), (.slice none 0 0)] true, bx b_1 76 [(ii c.number), (ii fr), (ii 0), (ii 0), (ii 0), (.bool true), (.string (bstr ([]))), (ii 255), (ii 1000), (.string (bstr ([64, 0, 0]))), (ii 0), (ii 0), (.slice none 0 0)] true, bx bc 115 (pre ++ [(ii 0), (ii 0), (ii ((vstep c.full ((([] : List UInt8).length : Nat) : Int)).getD 0)), (ii c.taken), (ii c.number), (ii c.num), (ii c.den)] ++ post) false] [laidK, astsK LA lib, boxK bs 111 [(.slice (some ⟨bc, 0, none⟩) n cc), (.slice LA lib.length lc), (.bool hd), (ii at_), (ii od)]] := HP
 refine ⟨(slateU c.number fr), rfl, rfl, ?_, ?_, HP.only bc (by intro x hx; simp only [List.mem_cons, List.not_mem_nil, or_false] at hx; rcases hx with rfl | rfl | rfl | rfl | rfl; exact .inl rfl; exact .inl rfl; exact .inl rfl; exact .inl rfl; exact .inr (fun k hk => hk))⟩
 ·exact (congrArg Prod.fst (choose_nn h1 h2)).symm
 rw [choose_nn h1 h2]; exact HP.at_ 4 rfl
set_option maxRecDepth 100000 in
set_option maxHeartbeats 4000000 in
theorem choose_ny_any (bs bc n cc o : Nat) (lc : Nat) (LA : Option Addr) (lib : List AstA) (hd : Bool) (at_ od fr : Int) (pre post : List Value) (c : Ch) (la lb : List UInt8) (w : World) (ho : pre.length = o) (hn : 0 < n) (hat : 0 ≤ at_ ∧ at_ ≤ 9223372036854775807) (hfr : -9223372036854775808 ≤ fr ∧ fr ≤ 9223372036854775807) (hix : -1 ≤ c.index ∧ c.index ≤ 1000000000) (hla : la.length ≤ 1000000) (hlb : lb.length ≤ 1000000) (hala : ∀ u, unpackP c.num c.den la = some u → u.al = []) (halb : ∀ u, unpackP c.num c.den lb = some u → u.al = []) (hne : bs ≠ bc) (hcl : ¬ libFp LA lib bc) (h2c : 2 ≤ bc) (hL : Laid w) (hlib : IsAsts w LA lib.length lib) (hln : lib.length ≤ maxLen) (hlp : ∀ a ∈ lib, a.pics.length ≤ 2000000) (hS : Box w bs 111 (selL bc n cc LA lib.length lc hd at_ od).toArray) (hC : Box w bc 115 (pre ++ chL c ++ post).toArray) (y : Un) (h1 : acceptP lib (floorP hd at_ od fr) c fr la = none) (h2 : acceptP lib (floorP hd at_ od fr) c fr lb = some y) :
  Calls Tryz.prog 44 #[.pointer (some ⟨bs, 0, none⟩), .pointer (some ⟨bc, o, none⟩), .int .i64 fr, .string (bstr la), .string (bstr lb)] w fun e w' => RetCh lib (floorP hd at_ od fr) c fr la lb bc pre post w e w' := by
 have HP := (((Hp.own (vs := pre ++ [(ii c.item), (ii c.index), (ii c.full), (ii c.taken), (ii c.number), (ii c.num), (ii c.den)] ++ post) hC).keepF (boxK bs 111 [(.slice (some ⟨bc, 0, none⟩) n cc), (.slice LA lib.length lc), (.bool hd), (ii at_), (ii od)]) hS (boxK_ok _ _ _) (fun k hk => ⟨boxK_lt hS hk, fun x hx => by simp only [List.mem_cons, List.not_mem_nil, or_false] at hx; rcases hx with rfl; exact fun e => hne (hk.symm.trans e)⟩)).keepF (astsK LA lib) hlib (fun _ _ h hk hs => IsAsts.keep h hk hs) (fun k hk => ⟨IsAsts.lt hlib hk, fun x hx => by simp only [List.mem_cons, List.not_mem_nil, or_false] at hx; rcases hx with rfl; exact fun e => hcl (e ▸ hk)⟩)).keepF laidK hL laidK_ok (fun k hk => ⟨hL.lt k hk, fun x hx => by simp only [List.mem_cons, List.not_mem_nil, or_false] at hx; rcases hx with rfl; exact fun e => by rcases hk with hk | hk <;> (have : k = bc := e; omega)⟩)
 refine w_enter 87 [(0, (pt bs 0)), (1, (pt bc o)), (2, (ii fr)), (3, (.string (bstr la))), (4, (.string (bstr lb)))] Tryz.func44 rfl Tryz.ntmps44 (by kernel_rfl) (by kernel_rfl) fun a H => ?_
 refine wp_seq (w_region ?_)
 refine H.alloc HP 10 (fun b => (pt b 0)) 76 [(ii 0), (ii 0), (ii 0), (ii 0), (ii 0), (.bool false), (.string (bstr ([]))), (ii 0), (ii 0), (.string (bstr ([]))), (ii 0), (ii 0), (.slice none 0 0)] (by kernel_rfl) (fun w => by kernel_rfl) fun b_1 w_2 a H HP => ?_
 refine wpList_nil (then_normal (wp_seq (w_region ?_)))
 refine H.go HP 4 [(17, (pt bs 0)), (18, (pt bc o)), (19, (ii fr)), (20, (.string (bstr la)))] [] fun a H => ?_
 refine H.call 21 (by kernel_rfl) (Eq.trans (by kernel_rfl : _ = (callFunc 76 #[(pt bs 0), (pt bc o), (ii fr), (.string (bstr la))]).run Tryz.prog w_2) (Tryz.call76 _ _)) (accept_no bs bc n cc o lc LA lib hd at_ od fr pre post c la w_2 ho hn hat hfr hix hla hala (HP.fact 0 rfl) (HP.fact 1 rfl) hln hlp (HP.fact 2 rfl) (HP.at_ 1 rfl) h1) ?_
 rintro e w_3 ⟨rfl, hb⟩
 refine ⟨_, rfl, ?_⟩
 intro a H
 have HP := HP.next hb
 refine H.go HP 3 [(22, (.agg #[(ii 0), (ii 0), (ii 0), (ii 0), (ii 0), (.bool false), (.string (bstr ([]))), (ii 0), (ii 0), (.string (bstr ([]))), (ii 0), (ii 0), (.slice none 0 0)])), (23, (.bool false))] [] fun a H => H.alloc HP 11 (fun b => (pt b 0)) 76 [(ii 0), (ii 0), (ii 0), (ii 0), (ii 0), (.bool false), (.string (bstr ([]))), (ii 0), (ii 0), (.string (bstr ([]))), (ii 0), (ii 0), (.slice none 0 0)] (by kernel_rfl) (fun w => by kernel_rfl) fun b_4 w_5 a H HP => H.sh HP 0 0 (.agg #[(ii 0), (ii 0), (ii 0), (ii 0), (ii 0), (.bool false), (.string (bstr ([]))), (ii 0), (ii 0), (.string (bstr ([]))), (ii 0), (ii 0), (.slice none 0 0)]) rfl fun w_6 a H HP => ?_
 refine H.ge HP [(12, (.bool false))] [] fun a H => ?_
 refine then_normal (wp_seq (w_region ?_))
 refine H.go HP 4 [(25, (pt bs 0)), (26, (pt bc o)), (27, (ii fr)), (28, (.string (bstr lb)))] [] fun a H => ?_
 refine H.call 29 (by kernel_rfl) (Eq.trans (by kernel_rfl : _ = (callFunc 76 #[(pt bs 0), (pt bc o), (ii fr), (.string (bstr lb))]).run Tryz.prog w_6) (Tryz.call76 _ _)) (accept_yes bs bc n cc o lc LA lib hd at_ od fr pre post c lb w_6 ho hn hat hfr hix hlb halb (HP.fact 0 rfl) (HP.fact 1 rfl) hln hlp (HP.fact 2 rfl) (HP.at_ 2 rfl) h2) ?_
 rintro e w_7 ⟨V2, rfl, hal2, hba2, hb⟩
 refine ⟨_, rfl, ?_⟩
 intro a H
 have HP := HP.next hb
 refine H.go HP 3 [(30, (.agg #[(ii V2.channel), (ii V2.frame), (ii V2.version), (ii V2.item), (ii V2.index), (.bool V2.key), (.string (bstr V2.data)), (ii V2.regions), (ii V2.gain), (.string (bstr V2.caption)), (ii V2.os), (ii V2.of), (.slice V2.A V2.al.length V2.c)])), (31, (.bool true))] [] fun a H => H.alloc HP 13 (fun b => (pt b 0)) 76 [(ii 0), (ii 0), (ii 0), (ii 0), (ii 0), (.bool false), (.string (bstr ([]))), (ii 0), (ii 0), (.string (bstr ([]))), (ii 0), (ii 0), (.slice none 0 0)] (by kernel_rfl) (fun w => by kernel_rfl) fun b_8 w_9 a H HP => H.sh HP 0 0 (.agg #[(ii V2.channel), (ii V2.frame), (ii V2.version), (ii V2.item), (ii V2.index), (.bool V2.key), (.string (bstr V2.data)), (ii V2.regions), (ii V2.gain), (.string (bstr V2.caption)), (ii V2.os), (ii V2.of), (.slice V2.A V2.al.length V2.c)]) rfl fun w_10 a H HP => ?_
 refine H.ge HP [(14, (.bool true))] [] fun a H => ?_
 refine then_normal (wp_seq (w_region ?_))
 refine H.go HP 1 [(32, (.agg #[(ii 0), (ii 0), (ii 0), (ii 0), (ii 0), (.bool false), (.string (bstr ([]))), (ii 0), (ii 0), (.string (bstr ([]))), (ii 0), (ii 0), (.slice none 0 0)]))] [1] fun a H => H.alloc HP 15 (fun b => (pt b 0)) 76 [(ii 0), (ii 0), (ii 0), (ii 0), (ii 0), (.bool false), (.string (bstr ([]))), (ii 0), (ii 0), (.string (bstr ([]))), (ii 0), (ii 0), (.slice none 0 0)] (by kernel_rfl) (fun w => by kernel_rfl) fun b_11 w_12 a H HP => H.sh HP 0 0 (.agg #[(ii 0), (ii 0), (ii 0), (ii 0), (ii 0), (.bool false), (.string (bstr ([]))), (ii 0), (ii 0), (.string (bstr ([]))), (ii 0), (ii 0), (.slice none 0 0)]) rfl fun w_13 a H HP => ?_
 refine wpList_nil (then_normal (wp_seq (wp_block (wp_seq (w_region ?_)))))
 refine H.ge HP [(38, (.bool false))] [] fun a H => ?_
 refine then_normal ?_
 refine w_iff H rfl ?_
 refine wp_seq (w_region ?_)
 refine H.ge HP [(51, (.bool false))] [] fun a H => ?_
 refine then_normal ?_
 refine w_iff H rfl ?_
 refine wp_seq (w_region ?_)
 refine H.ge HP [(75, (.bool false))] [] fun a H => ?_
 refine then_normal ?_
 refine w_iff H rfl ?_
 have HP := HP.front 4 rfl [bx bc 115 (pre ++ [(ii c.item), (ii c.index), (ii c.full), (ii c.taken), (ii c.number), (ii c.num), (ii c.den)] ++ post) false, bx b_11 76 [(ii 0), (ii 0), (ii 0), (ii 0), (ii 0), (.bool false), (.string (bstr ([]))), (ii 0), (ii 0), (.string (bstr ([]))), (ii 0), (ii 0), (.slice none 0 0)] true, bx b_8 76 [(ii V2.channel), (ii V2.frame), (ii V2.version), (ii V2.item), (ii V2.index), (.bool V2.key), (.string (bstr V2.data)), (ii V2.regions), (ii V2.gain), (.string (bstr V2.caption)), (ii V2.os), (ii V2.of), (.slice V2.A V2.al.length V2.c)] true, bx b_4 76 [(ii 0), (ii 0), (ii 0), (ii 0), (ii 0), (.bool false), (.string (bstr ([]))), (ii 0), (ii 0), (.string (bstr ([]))), (ii 0), (ii 0), (.slice none 0 0)] true, bx b_1 76 [(ii 0), (ii 0), (ii 0), (ii 0), (ii 0), (.bool false), (.string (bstr ([]))), (ii 0), (ii 0), (.string (bstr ([]))), (ii 0), (ii 0), (.slice none 0 0)] true] (by kernel_rfl)
 refine An.start (fun v => Hp (bareW w) v [bx b_11 76 [(ii 0), (ii 0), (ii 0), (ii 0), (ii 0), (.bool false), (.string (bstr ([]))), (ii 0), (ii 0), (.string (bstr ([]))), (ii 0), (ii 0), (.slice none 0 0)] true, bx b_8 76 [(ii V2.channel), (ii V2.frame), (ii V2.version), (ii V2.item), (ii V2.index), (.bool V2.key), (.string (bstr V2.data)), (ii V2.regions), (ii V2.gain), (.string (bstr V2.caption)), (ii V2.os), (ii V2.of), (.slice V2.A V2.al.length V2.c)] true, bx b_4 76 [(ii 0), (ii 0), (ii 0), (ii 0), (ii 0), (.bool false), (.string (bstr ([]))), (ii 0), (ii 0), (.string (bstr ([]))), (ii 0), (ii 0), (.slice none 0 0)] true, bx b_1 76 [(ii 0), (ii 0), (ii 0), (ii 0), (ii 0), (.bool false), (.string (bstr ([]))), (ii 0), (ii 0), (.string (bstr ([]))), (ii 0), (ii 0), (.slice none 0 0)] true] [laidK, astsK LA lib, boxK bs 111 [(.slice (some ⟨bc, 0, none⟩) n cc), (.slice LA lib.length lc), (.bool hd), (ii at_), (ii od)]]) 6 7 HP wide_follows rfl fun w_14 HP => ?_
 refine An.go H (.inr ((HP.bareN 1))) 2 [0, 1, 2, 3, 4] [(34, (.agg #[(ii V2.channel), (ii V2.frame), (ii V2.version), (ii V2.item), (ii V2.index), (.bool V2.key), (.string (bstr V2.data)), (ii V2.regions), (ii V2.gain), (.string (bstr V2.caption)), (ii V2.os), (ii V2.of), (.slice V2.A V2.al.length V2.c)])), (37, (.pointer (some ⟨bc, o + 3, none⟩)))] [1] fun a H => ?_
 refine An.one 5 (by kernel_rfl) ?_
 refine Op.storeW H HP 0 bc o 3 115 pre [(ii c.item), (ii c.index), (ii c.full), (ii c.taken), (ii c.number), (ii c.num), (ii c.den)] post false (ii 1) [bx bc 115 (pre ++ [(ii c.item), (ii c.index), (ii c.full), (ii 1), (ii c.number), (ii c.num), (ii c.den)] ++ post) false, bx b_11 76 [(ii 0), (ii 0), (ii 0), (ii 0), (ii 0), (.bool false), (.string (bstr ([]))), (ii 0), (ii 0), (.string (bstr ([]))), (ii 0), (ii 0), (.slice none 0 0)] true, bx b_8 76 [(ii V2.channel), (ii V2.frame), (ii V2.version), (ii V2.item), (ii V2.index), (.bool V2.key), (.string (bstr V2.data)), (ii V2.regions), (ii V2.gain), (.string (bstr V2.caption)), (ii V2.os), (ii V2.of), (.slice V2.A V2.al.length V2.c)] true, bx b_4 76 [(ii 0), (ii 0), (ii 0), (ii 0), (ii 0), (.bool false), (.string (bstr ([]))), (ii 0), (ii 0), (.string (bstr ([]))), (ii 0), (ii 0), (.slice none 0 0)] true, bx b_1 76 [(ii 0), (ii 0), (ii 0), (ii 0), (ii 0), (.bool false), (.string (bstr ([]))), (ii 0), (ii 0), (.string (bstr ([]))), (ii 0), (ii 0), (.slice none 0 0)] true] ho rfl (by kernel_rfl) (by kernel_rfl) (by kernel_rfl) rfl (by kernel_rfl) rfl (by kernel_rfl) rfl fun w_15 a H HP => ?_
 refine ⟨.inr ((HP.bareN 1)), ?_⟩
 refine An.one 6 (by kernel_rfl) ?_
 refine Op.sh H HP 1 0 (.agg #[(ii V2.channel), (ii V2.frame), (ii V2.version), (ii V2.item), (ii V2.index), (.bool V2.key), (.string (bstr V2.data)), (ii V2.regions), (ii V2.gain), (.string (bstr V2.caption)), (ii V2.os), (ii V2.of), (.slice V2.A V2.al.length V2.c)]) rfl rfl fun w_16 a H HP => ?_
 refine ⟨.inl (by kernel_rfl), ?_⟩
 refine An.done (by kernel_rfl) ?_
 refine inb_normal (then_normal (wp_seq ?_))
 refine An.start (fun v => Hp w v [bx bc 115 (pre ++ [(ii c.item), (ii c.index), (ii c.full), (ii 1), (ii c.number), (ii c.num), (ii c.den)] ++ post) false, bx b_11 76 [(ii V2.channel), (ii V2.frame), (ii V2.version), (ii V2.item), (ii V2.index), (.bool V2.key), (.string (bstr V2.data)), (ii V2.regions), (ii V2.gain), (.string (bstr V2.caption)), (ii V2.os), (ii V2.of), (.slice V2.A V2.al.length V2.c)] true, bx b_8 76 [(ii V2.channel), (ii V2.frame), (ii V2.version), (ii V2.item), (ii V2.index), (.bool V2.key), (.string (bstr V2.data)), (ii V2.regions), (ii V2.gain), (.string (bstr V2.caption)), (ii V2.os), (ii V2.of), (.slice V2.A V2.al.length V2.c)] true, bx b_4 76 [(ii 0), (ii 0), (ii 0), (ii 0), (ii 0), (.bool false), (.string (bstr ([]))), (ii 0), (ii 0), (.string (bstr ([]))), (ii 0), (ii 0), (.slice none 0 0)] true, bx b_1 76 [(ii 0), (ii 0), (ii 0), (ii 0), (ii 0), (.bool false), (.string (bstr ([]))), (ii 0), (ii 0), (.string (bstr ([]))), (ii 0), (ii 0), (.slice none 0 0)] true] [laidK, astsK LA lib, boxK bs 111 [(.slice (some ⟨bc, 0, none⟩) n cc), (.slice LA lib.length lc), (.bool hd), (ii at_), (ii od)]]) 4 5 HP wide_follows rfl fun w_17 HP => ?_
 refine An.go H (.inr (HP)) 1 [0, 1, 2, 3] [(83, (pt bc o)), (84, (.agg #[(ii V2.channel), (ii V2.frame), (ii V2.version), (ii V2.item), (ii V2.index), (.bool V2.key), (.string (bstr V2.data)), (ii V2.regions), (ii V2.gain), (.string (bstr V2.caption)), (ii V2.os), (ii V2.of), (.slice V2.A V2.al.length V2.c)]))] [1] fun a H => ?_
 refine An.one 4 (by kernel_rfl) ?_
 refine Op.call H 85 rfl (by kernel_rfl) (Eq.trans (by kernel_rfl : _ = (callFunc 78 #[(pt bc o), (.agg #[(ii V2.channel), (ii V2.frame), (ii V2.version), (ii V2.item), (ii V2.index), (.bool V2.key), (.string (bstr V2.data)), (ii V2.regions), (ii V2.gain), (.string (bstr V2.caption)), (ii V2.os), (ii V2.of), (.slice V2.A V2.al.length V2.c)])]).run Tryz.prog w_17) (Tryz.call78 _ _)) (show_any bc o pre post ({ c with taken := 1 }) V2 w_17 (HP.at_ 0 rfl) ho) ?_
 rintro e w_18 ⟨rfl, hbx, hgr⟩
 refine ⟨_, rfl, ?_⟩
 intro a H
 have HP := (HP.changed 0 rfl (pre ++ [(ii V2.item), (ii V2.index), (ii ((vstep c.full (V2.data.length : Int)).getD 0)), (ii 1), (ii c.number), (ii c.num), (ii c.den)] ++ post) [bx bc 115 (pre ++ [(ii V2.item), (ii V2.index), (ii ((vstep c.full (V2.data.length : Int)).getD 0)), (ii 1), (ii c.number), (ii c.num), (ii c.den)] ++ post) false, bx b_11 76 [(ii V2.channel), (ii V2.frame), (ii V2.version), (ii V2.item), (ii V2.index), (.bool V2.key), (.string (bstr V2.data)), (ii V2.regions), (ii V2.gain), (.string (bstr V2.caption)), (ii V2.os), (ii V2.of), (.slice V2.A V2.al.length V2.c)] true, bx b_8 76 [(ii V2.channel), (ii V2.frame), (ii V2.version), (ii V2.item), (ii V2.index), (.bool V2.key), (.string (bstr V2.data)), (ii V2.regions), (ii V2.gain), (.string (bstr V2.caption)), (ii V2.os), (ii V2.of), (.slice V2.A V2.al.length V2.c)] true, bx b_4 76 [(ii 0), (ii 0), (ii 0), (ii 0), (ii 0), (.bool false), (.string (bstr ([]))), (ii 0), (ii 0), (.string (bstr ([]))), (ii 0), (ii 0), (.slice none 0 0)] true, bx b_1 76 [(ii 0), (ii 0), (ii 0), (ii 0), (ii 0), (.bool false), (.string (bstr ([]))), (ii 0), (ii 0), (.string (bstr ([]))), (ii 0), (ii 0), (.slice none 0 0)] true] (by kernel_rfl) hgr hbx)
 refine ⟨.inl (by kernel_rfl), ?_⟩
 refine An.done (by kernel_rfl) ?_
 refine then_normal (wp_seq (w_region ?_))
 refine H.go HP 1 [(86, (.agg #[(ii V2.channel), (ii V2.frame), (ii V2.version), (ii V2.item), (ii V2.index), (.bool V2.key), (.string (bstr V2.data)), (ii V2.regions), (ii V2.gain), (.string (bstr V2.caption)), (ii V2.os), (ii V2.of), (.slice V2.A V2.al.length V2.c)]))] [1] fun a H => H.sh HP 4 0 (.agg #[(ii V2.channel), (ii V2.frame), (ii V2.version), (ii V2.item), (ii V2.index), (.bool V2.key), (.string (bstr V2.data)), (ii V2.regions), (ii V2.gain), (.string (bstr V2.caption)), (ii V2.os), (ii V2.of), (.slice V2.A V2.al.length V2.c)]) rfl fun w_19 a H HP => ?_
 refine wpList_nil (then_normal (wp_ret ?_))
 refine H.ret1 (fn := Tryz.f44) Tryz.results44 (RV.cellN (vs := [(ii V2.channel), (ii V2.frame), (ii V2.version), (ii V2.item), (ii V2.index), (.bool V2.key), (.string (bstr V2.data)), (ii V2.regions), (ii V2.gain), (.string (bstr V2.caption)), (ii V2.os), (ii V2.of), (.slice V2.A V2.al.length V2.c)]) (b := b_1) (off := 0) (k := 13) (by kernel_rfl) (by kernel_rfl) (by kernel_rfl) rfl (HP.cells 4 rfl 0 13 (by kernel_rfl))) ?_
 have HP : Hp w w_19 [bx bc 115 (pre ++ [(ii V2.item), (ii V2.index), (ii ((vstep c.full (V2.data.length : Int)).getD 0)), (ii 1), (ii c.number), (ii c.num), (ii c.den)] ++ post) false, bx b_11 76 [(ii V2.channel), (ii V2.frame), (ii V2.version), (ii V2.item), (ii V2.index), (.bool V2.key), (.string (bstr V2.data)), (ii V2.regions), (ii V2.gain), (.string (bstr V2.caption)), (ii V2.os), (ii V2.of), (.slice V2.A V2.al.length V2.c)] true, bx b_8 76 [(ii V2.channel), (ii V2.frame), (ii V2.version), (ii V2.item), (ii V2.index), (.bool V2.key), (.string (bstr V2.data)), (ii V2.regions), (ii V2.gain), (.string (bstr V2.caption)), (ii V2.os), (ii V2.of), (.slice V2.A V2.al.length V2.c)] true, bx b_4 76 [(ii 0), (ii 0), (ii 0), (ii 0), (ii 0), (.bool false), (.string (bstr ([]))), (ii 0), (ii 0), (.string (bstr ([]))), (ii 0), (ii 0), (.slice none 0 0)] true, bx b_1 76 [(ii V2.channel), (ii V2.frame), (ii V2.version), (ii V2.item), (ii V2.index), (.bool V2.key), (.string (bstr V2.data)), (ii V2.regions), (ii V2.gain), (.string (bstr V2.caption)), (ii V2.os), (ii V2.of), (.slice V2.A V2.al.length V2.c)] true] [laidK, astsK LA lib, boxK bs 111 [(.slice (some ⟨bc, 0, none⟩) n cc), (.slice LA lib.length lc), (.bool hd), (ii at_), (ii od)]] := HP
 subst hba2
 refine ⟨V2, rfl, hal2, ?_, ?_, HP.only bc (by intro x hx; simp only [List.mem_cons, List.not_mem_nil, or_false] at hx; rcases hx with rfl | rfl | rfl | rfl | rfl; exact .inr (fun k hk => hk); exact .inl rfl; exact .inl rfl; exact .inl rfl; exact .inl rfl)⟩
 ·exact (congrArg Prod.fst (choose_ny h1 h2)).symm
 rw [choose_ny h1 h2]; exact HP.at_ 0 rfl
set_option maxRecDepth 100000 in
set_option maxHeartbeats 4000000 in
theorem choose_yn_any (bs bc n cc o : Nat) (lc : Nat) (LA : Option Addr) (lib : List AstA) (hd : Bool) (at_ od fr : Int) (pre post : List Value) (c : Ch) (la lb : List UInt8) (w : World) (ho : pre.length = o) (hn : 0 < n) (hat : 0 ≤ at_ ∧ at_ ≤ 9223372036854775807) (hfr : -9223372036854775808 ≤ fr ∧ fr ≤ 9223372036854775807) (hix : -1 ≤ c.index ∧ c.index ≤ 1000000000) (hla : la.length ≤ 1000000) (hlb : lb.length ≤ 1000000) (hala : ∀ u, unpackP c.num c.den la = some u → u.al = []) (halb : ∀ u, unpackP c.num c.den lb = some u → u.al = []) (hne : bs ≠ bc) (hcl : ¬ libFp LA lib bc) (h2c : 2 ≤ bc) (hL : Laid w) (hlib : IsAsts w LA lib.length lib) (hln : lib.length ≤ maxLen) (hlp : ∀ a ∈ lib, a.pics.length ≤ 2000000) (hS : Box w bs 111 (selL bc n cc LA lib.length lc hd at_ od).toArray) (hC : Box w bc 115 (pre ++ chL c ++ post).toArray) (x : Un) (h1 : acceptP lib (floorP hd at_ od fr) c fr la = some x) (h2 : acceptP lib (floorP hd at_ od fr) c fr lb = none) :
  Calls Tryz.prog 44 #[.pointer (some ⟨bs, 0, none⟩), .pointer (some ⟨bc, o, none⟩), .int .i64 fr, .string (bstr la), .string (bstr lb)] w fun e w' => RetCh lib (floorP hd at_ od fr) c fr la lb bc pre post w e w' := by
 have HP := (((Hp.own (vs := pre ++ [(ii c.item), (ii c.index), (ii c.full), (ii c.taken), (ii c.number), (ii c.num), (ii c.den)] ++ post) hC).keepF (boxK bs 111 [(.slice (some ⟨bc, 0, none⟩) n cc), (.slice LA lib.length lc), (.bool hd), (ii at_), (ii od)]) hS (boxK_ok _ _ _) (fun k hk => ⟨boxK_lt hS hk, fun x hx => by simp only [List.mem_cons, List.not_mem_nil, or_false] at hx; rcases hx with rfl; exact fun e => hne (hk.symm.trans e)⟩)).keepF (astsK LA lib) hlib (fun _ _ h hk hs => IsAsts.keep h hk hs) (fun k hk => ⟨IsAsts.lt hlib hk, fun x hx => by simp only [List.mem_cons, List.not_mem_nil, or_false] at hx; rcases hx with rfl; exact fun e => hcl (e ▸ hk)⟩)).keepF laidK hL laidK_ok (fun k hk => ⟨hL.lt k hk, fun x hx => by simp only [List.mem_cons, List.not_mem_nil, or_false] at hx; rcases hx with rfl; exact fun e => by rcases hk with hk | hk <;> (have : k = bc := e; omega)⟩)
 refine w_enter 87 [(0, (pt bs 0)), (1, (pt bc o)), (2, (ii fr)), (3, (.string (bstr la))), (4, (.string (bstr lb)))] Tryz.func44 rfl Tryz.ntmps44 (by kernel_rfl) (by kernel_rfl) fun a H => ?_
 refine wp_seq (w_region ?_)
 refine H.alloc HP 10 (fun b => (pt b 0)) 76 [(ii 0), (ii 0), (ii 0), (ii 0), (ii 0), (.bool false), (.string (bstr ([]))), (ii 0), (ii 0), (.string (bstr ([]))), (ii 0), (ii 0), (.slice none 0 0)] (by kernel_rfl) (fun w => by kernel_rfl) fun b_1 w_2 a H HP => ?_
 refine wpList_nil (then_normal (wp_seq (w_region ?_)))
 refine H.go HP 4 [(17, (pt bs 0)), (18, (pt bc o)), (19, (ii fr)), (20, (.string (bstr la)))] [] fun a H => ?_
 refine H.call 21 (by kernel_rfl) (Eq.trans (by kernel_rfl : _ = (callFunc 76 #[(pt bs 0), (pt bc o), (ii fr), (.string (bstr la))]).run Tryz.prog w_2) (Tryz.call76 _ _)) (accept_yes bs bc n cc o lc LA lib hd at_ od fr pre post c la w_2 ho hn hat hfr hix hla hala (HP.fact 0 rfl) (HP.fact 1 rfl) hln hlp (HP.fact 2 rfl) (HP.at_ 1 rfl) h1) ?_
 rintro e w_3 ⟨V1, rfl, hal1, hba1, hb⟩
 refine ⟨_, rfl, ?_⟩
 intro a H
 have HP := HP.next hb
 refine H.go HP 3 [(22, (.agg #[(ii V1.channel), (ii V1.frame), (ii V1.version), (ii V1.item), (ii V1.index), (.bool V1.key), (.string (bstr V1.data)), (ii V1.regions), (ii V1.gain), (.string (bstr V1.caption)), (ii V1.os), (ii V1.of), (.slice V1.A V1.al.length V1.c)])), (23, (.bool true))] [] fun a H => H.alloc HP 11 (fun b => (pt b 0)) 76 [(ii 0), (ii 0), (ii 0), (ii 0), (ii 0), (.bool false), (.string (bstr ([]))), (ii 0), (ii 0), (.string (bstr ([]))), (ii 0), (ii 0), (.slice none 0 0)] (by kernel_rfl) (fun w => by kernel_rfl) fun b_4 w_5 a H HP => H.sh HP 0 0 (.agg #[(ii V1.channel), (ii V1.frame), (ii V1.version), (ii V1.item), (ii V1.index), (.bool V1.key), (.string (bstr V1.data)), (ii V1.regions), (ii V1.gain), (.string (bstr V1.caption)), (ii V1.os), (ii V1.of), (.slice V1.A V1.al.length V1.c)]) rfl fun w_6 a H HP => ?_
 refine H.ge HP [(12, (.bool true))] [] fun a H => ?_
 refine then_normal (wp_seq (w_region ?_))
 refine H.go HP 4 [(25, (pt bs 0)), (26, (pt bc o)), (27, (ii fr)), (28, (.string (bstr lb)))] [] fun a H => ?_
 refine H.call 29 (by kernel_rfl) (Eq.trans (by kernel_rfl : _ = (callFunc 76 #[(pt bs 0), (pt bc o), (ii fr), (.string (bstr lb))]).run Tryz.prog w_6) (Tryz.call76 _ _)) (accept_no bs bc n cc o lc LA lib hd at_ od fr pre post c lb w_6 ho hn hat hfr hix hlb halb (HP.fact 0 rfl) (HP.fact 1 rfl) hln hlp (HP.fact 2 rfl) (HP.at_ 2 rfl) h2) ?_
 rintro e w_7 ⟨rfl, hb⟩
 refine ⟨_, rfl, ?_⟩
 intro a H
 have HP := HP.next hb
 refine H.go HP 3 [(30, (.agg #[(ii 0), (ii 0), (ii 0), (ii 0), (ii 0), (.bool false), (.string (bstr ([]))), (ii 0), (ii 0), (.string (bstr ([]))), (ii 0), (ii 0), (.slice none 0 0)])), (31, (.bool false))] [] fun a H => H.alloc HP 13 (fun b => (pt b 0)) 76 [(ii 0), (ii 0), (ii 0), (ii 0), (ii 0), (.bool false), (.string (bstr ([]))), (ii 0), (ii 0), (.string (bstr ([]))), (ii 0), (ii 0), (.slice none 0 0)] (by kernel_rfl) (fun w => by kernel_rfl) fun b_8 w_9 a H HP => H.sh HP 0 0 (.agg #[(ii 0), (ii 0), (ii 0), (ii 0), (ii 0), (.bool false), (.string (bstr ([]))), (ii 0), (ii 0), (.string (bstr ([]))), (ii 0), (ii 0), (.slice none 0 0)]) rfl fun w_10 a H HP => ?_
 refine H.ge HP [(14, (.bool false))] [] fun a H => ?_
 refine then_normal (wp_seq (w_region ?_))
 refine H.go HP 1 [(32, (.agg #[(ii V1.channel), (ii V1.frame), (ii V1.version), (ii V1.item), (ii V1.index), (.bool V1.key), (.string (bstr V1.data)), (ii V1.regions), (ii V1.gain), (.string (bstr V1.caption)), (ii V1.os), (ii V1.of), (.slice V1.A V1.al.length V1.c)]))] [1] fun a H => H.alloc HP 15 (fun b => (pt b 0)) 76 [(ii 0), (ii 0), (ii 0), (ii 0), (ii 0), (.bool false), (.string (bstr ([]))), (ii 0), (ii 0), (.string (bstr ([]))), (ii 0), (ii 0), (.slice none 0 0)] (by kernel_rfl) (fun w => by kernel_rfl) fun b_11 w_12 a H HP => H.sh HP 0 0 (.agg #[(ii V1.channel), (ii V1.frame), (ii V1.version), (ii V1.item), (ii V1.index), (.bool V1.key), (.string (bstr V1.data)), (ii V1.regions), (ii V1.gain), (.string (bstr V1.caption)), (ii V1.os), (ii V1.of), (.slice V1.A V1.al.length V1.c)]) rfl fun w_13 a H HP => ?_
 refine wpList_nil (then_normal (wp_seq (wp_block (wp_seq (w_region ?_)))))
 refine H.ge HP [(38, (.bool false))] [] fun a H => ?_
 refine then_normal ?_
 refine w_iff H rfl ?_
 refine wp_seq (w_region ?_)
 refine H.ge HP [(51, (.bool false))] [] fun a H => ?_
 refine then_normal ?_
 refine w_iff H rfl ?_
 refine wp_seq (w_region ?_)
 refine H.ge HP [(75, (.bool true))] [] fun a H => ?_
 refine then_normal ?_
 refine w_ift H rfl ?_
 refine w_region ?_
 refine H.go HP 4 [(80, (.pointer (some ⟨bc, o + 3, none⟩)))] [] fun a H => ?_
 refine H.storeW HP 4 bc o 3 115 pre [(ii c.item), (ii c.index), (ii c.full), (ii c.taken), (ii c.number), (ii c.num), (ii c.den)] post false (ii 0) [bx b_11 76 [(ii V1.channel), (ii V1.frame), (ii V1.version), (ii V1.item), (ii V1.index), (.bool V1.key), (.string (bstr V1.data)), (ii V1.regions), (ii V1.gain), (.string (bstr V1.caption)), (ii V1.os), (ii V1.of), (.slice V1.A V1.al.length V1.c)] true, bx b_8 76 [(ii 0), (ii 0), (ii 0), (ii 0), (ii 0), (.bool false), (.string (bstr ([]))), (ii 0), (ii 0), (.string (bstr ([]))), (ii 0), (ii 0), (.slice none 0 0)] true, bx b_4 76 [(ii V1.channel), (ii V1.frame), (ii V1.version), (ii V1.item), (ii V1.index), (.bool V1.key), (.string (bstr V1.data)), (ii V1.regions), (ii V1.gain), (.string (bstr V1.caption)), (ii V1.os), (ii V1.of), (.slice V1.A V1.al.length V1.c)] true, bx b_1 76 [(ii 0), (ii 0), (ii 0), (ii 0), (ii 0), (.bool false), (.string (bstr ([]))), (ii 0), (ii 0), (.string (bstr ([]))), (ii 0), (ii 0), (.slice none 0 0)] true, bx bc 115 (pre ++ [(ii c.item), (ii c.index), (ii c.full), (ii 0), (ii c.number), (ii c.num), (ii c.den)] ++ post) false] ho (by kernel_rfl) (by kernel_rfl) (by kernel_rfl) rfl (by kernel_rfl) rfl (by kernel_rfl) rfl fun w_14 a H HP => ?_
 refine wpList_nil (inb_normal (then_normal (wp_seq ?_)))
 refine An.start (fun v => Hp w v [bx b_11 76 [(ii V1.channel), (ii V1.frame), (ii V1.version), (ii V1.item), (ii V1.index), (.bool V1.key), (.string (bstr V1.data)), (ii V1.regions), (ii V1.gain), (.string (bstr V1.caption)), (ii V1.os), (ii V1.of), (.slice V1.A V1.al.length V1.c)] true, bx b_8 76 [(ii 0), (ii 0), (ii 0), (ii 0), (ii 0), (.bool false), (.string (bstr ([]))), (ii 0), (ii 0), (.string (bstr ([]))), (ii 0), (ii 0), (.slice none 0 0)] true, bx b_4 76 [(ii V1.channel), (ii V1.frame), (ii V1.version), (ii V1.item), (ii V1.index), (.bool V1.key), (.string (bstr V1.data)), (ii V1.regions), (ii V1.gain), (.string (bstr V1.caption)), (ii V1.os), (ii V1.of), (.slice V1.A V1.al.length V1.c)] true, bx b_1 76 [(ii 0), (ii 0), (ii 0), (ii 0), (ii 0), (.bool false), (.string (bstr ([]))), (ii 0), (ii 0), (.string (bstr ([]))), (ii 0), (ii 0), (.slice none 0 0)] true, bx bc 115 (pre ++ [(ii c.item), (ii c.index), (ii c.full), (ii 0), (ii c.number), (ii c.num), (ii c.den)] ++ post) false] [laidK, astsK LA lib, boxK bs 111 [(.slice (some ⟨bc, 0, none⟩) n cc), (.slice LA lib.length lc), (.bool hd), (ii at_), (ii od)]]) 4 5 HP wide_follows rfl fun w_15 HP => ?_
 refine An.go H (.inr (HP)) 1 [0, 1, 2, 3] [(83, (pt bc o)), (84, (.agg #[(ii V1.channel), (ii V1.frame), (ii V1.version), (ii V1.item), (ii V1.index), (.bool V1.key), (.string (bstr V1.data)), (ii V1.regions), (ii V1.gain), (.string (bstr V1.caption)), (ii V1.os), (ii V1.of), (.slice V1.A V1.al.length V1.c)]))] [0] fun a H => ?_
 refine An.one 4 (by kernel_rfl) ?_
 refine Op.call H 85 rfl (by kernel_rfl) (Eq.trans (by kernel_rfl : _ = (callFunc 78 #[(pt bc o), (.agg #[(ii V1.channel), (ii V1.frame), (ii V1.version), (ii V1.item), (ii V1.index), (.bool V1.key), (.string (bstr V1.data)), (ii V1.regions), (ii V1.gain), (.string (bstr V1.caption)), (ii V1.os), (ii V1.of), (.slice V1.A V1.al.length V1.c)])]).run Tryz.prog w_15) (Tryz.call78 _ _)) (show_any bc o pre post ({ c with taken := 0 }) V1 w_15 (HP.at_ 4 rfl) ho) ?_
 rintro e w_16 ⟨rfl, hbx, hgr⟩
 refine ⟨_, rfl, ?_⟩
 intro a H
 have HP := (HP.changed 4 rfl (pre ++ [(ii V1.item), (ii V1.index), (ii ((vstep c.full (V1.data.length : Int)).getD 0)), (ii 0), (ii c.number), (ii c.num), (ii c.den)] ++ post) [bx b_11 76 [(ii V1.channel), (ii V1.frame), (ii V1.version), (ii V1.item), (ii V1.index), (.bool V1.key), (.string (bstr V1.data)), (ii V1.regions), (ii V1.gain), (.string (bstr V1.caption)), (ii V1.os), (ii V1.of), (.slice V1.A V1.al.length V1.c)] true, bx b_8 76 [(ii 0), (ii 0), (ii 0), (ii 0), (ii 0), (.bool false), (.string (bstr ([]))), (ii 0), (ii 0), (.string (bstr ([]))), (ii 0), (ii 0), (.slice none 0 0)] true, bx b_4 76 [(ii V1.channel), (ii V1.frame), (ii V1.version), (ii V1.item), (ii V1.index), (.bool V1.key), (.string (bstr V1.data)), (ii V1.regions), (ii V1.gain), (.string (bstr V1.caption)), (ii V1.os), (ii V1.of), (.slice V1.A V1.al.length V1.c)] true, bx b_1 76 [(ii 0), (ii 0), (ii 0), (ii 0), (ii 0), (.bool false), (.string (bstr ([]))), (ii 0), (ii 0), (.string (bstr ([]))), (ii 0), (ii 0), (.slice none 0 0)] true, bx bc 115 (pre ++ [(ii V1.item), (ii V1.index), (ii ((vstep c.full (V1.data.length : Int)).getD 0)), (ii 0), (ii c.number), (ii c.num), (ii c.den)] ++ post) false] (by kernel_rfl) hgr hbx)
 refine ⟨.inl (by kernel_rfl), ?_⟩
 refine An.done (by kernel_rfl) ?_
 refine then_normal (wp_seq (w_region ?_))
 refine H.go HP 1 [(86, (.agg #[(ii V1.channel), (ii V1.frame), (ii V1.version), (ii V1.item), (ii V1.index), (.bool V1.key), (.string (bstr V1.data)), (ii V1.regions), (ii V1.gain), (.string (bstr V1.caption)), (ii V1.os), (ii V1.of), (.slice V1.A V1.al.length V1.c)]))] [0] fun a H => H.sh HP 3 0 (.agg #[(ii V1.channel), (ii V1.frame), (ii V1.version), (ii V1.item), (ii V1.index), (.bool V1.key), (.string (bstr V1.data)), (ii V1.regions), (ii V1.gain), (.string (bstr V1.caption)), (ii V1.os), (ii V1.of), (.slice V1.A V1.al.length V1.c)]) rfl fun w_17 a H HP => ?_
 refine wpList_nil (then_normal (wp_ret ?_))
 refine H.ret1 (fn := Tryz.f44) Tryz.results44 (RV.cellN (vs := [(ii V1.channel), (ii V1.frame), (ii V1.version), (ii V1.item), (ii V1.index), (.bool V1.key), (.string (bstr V1.data)), (ii V1.regions), (ii V1.gain), (.string (bstr V1.caption)), (ii V1.os), (ii V1.of), (.slice V1.A V1.al.length V1.c)]) (b := b_1) (off := 0) (k := 13) (by kernel_rfl) (by kernel_rfl) (by kernel_rfl) rfl (HP.cells 3 rfl 0 13 (by kernel_rfl))) ?_
 have HP : Hp w w_17 [bx b_11 76 [(ii V1.channel), (ii V1.frame), (ii V1.version), (ii V1.item), (ii V1.index), (.bool V1.key), (.string (bstr V1.data)), (ii V1.regions), (ii V1.gain), (.string (bstr V1.caption)), (ii V1.os), (ii V1.of), (.slice V1.A V1.al.length V1.c)] true, bx b_8 76 [(ii 0), (ii 0), (ii 0), (ii 0), (ii 0), (.bool false), (.string (bstr ([]))), (ii 0), (ii 0), (.string (bstr ([]))), (ii 0), (ii 0), (.slice none 0 0)] true, bx b_4 76 [(ii V1.channel), (ii V1.frame), (ii V1.version), (ii V1.item), (ii V1.index), (.bool V1.key), (.string (bstr V1.data)), (ii V1.regions), (ii V1.gain), (.string (bstr V1.caption)), (ii V1.os), (ii V1.of), (.slice V1.A V1.al.length V1.c)] true, bx b_1 76 [(ii V1.channel), (ii V1.frame), (ii V1.version), (ii V1.item), (ii V1.index), (.bool V1.key), (.string (bstr V1.data)), (ii V1.regions), (ii V1.gain), (.string (bstr V1.caption)), (ii V1.os), (ii V1.of), (.slice V1.A V1.al.length V1.c)] true, bx bc 115 (pre ++ [(ii V1.item), (ii V1.index), (ii ((vstep c.full (V1.data.length : Int)).getD 0)), (ii 0), (ii c.number), (ii c.num), (ii c.den)] ++ post) false] [laidK, astsK LA lib, boxK bs 111 [(.slice (some ⟨bc, 0, none⟩) n cc), (.slice LA lib.length lc), (.bool hd), (ii at_), (ii od)]] := HP
 subst hba1
 refine ⟨V1, rfl, hal1, ?_, ?_, HP.only bc (by intro x hx; simp only [List.mem_cons, List.not_mem_nil, or_false] at hx; rcases hx with rfl | rfl | rfl | rfl | rfl; exact .inl rfl; exact .inl rfl; exact .inl rfl; exact .inl rfl; exact .inr (fun k hk => hk))⟩
 ·exact (congrArg Prod.fst (choose_yn h1 h2)).symm
 rw [choose_yn h1 h2]; exact HP.at_ 4 rfl
set_option maxRecDepth 100000 in
set_option maxHeartbeats 4000000 in
theorem choose_yy_any (bs bc n cc o : Nat) (lc : Nat) (LA : Option Addr) (lib : List AstA) (hd : Bool) (at_ od fr : Int) (pre post : List Value) (c : Ch) (la lb : List UInt8) (w : World) (ho : pre.length = o) (hn : 0 < n) (hat : 0 ≤ at_ ∧ at_ ≤ 9223372036854775807) (hfr : -9223372036854775808 ≤ fr ∧ fr ≤ 9223372036854775807) (hix : -1 ≤ c.index ∧ c.index ≤ 1000000000) (hla : la.length ≤ 1000000) (hlb : lb.length ≤ 1000000) (hala : ∀ u, unpackP c.num c.den la = some u → u.al = []) (halb : ∀ u, unpackP c.num c.den lb = some u → u.al = []) (hne : bs ≠ bc) (hcl : ¬ libFp LA lib bc) (h2c : 2 ≤ bc) (hL : Laid w) (hlib : IsAsts w LA lib.length lib) (hln : lib.length ≤ maxLen) (hlp : ∀ a ∈ lib, a.pics.length ≤ 2000000) (hS : Box w bs 111 (selL bc n cc LA lib.length lc hd at_ od).toArray) (hC : Box w bc 115 (pre ++ chL c ++ post).toArray) (x : Un) (y : Un) (h1 : acceptP lib (floorP hd at_ od fr) c fr la = some x) (h2 : acceptP lib (floorP hd at_ od fr) c fr lb = some y) :
  Calls Tryz.prog 44 #[.pointer (some ⟨bs, 0, none⟩), .pointer (some ⟨bc, o, none⟩), .int .i64 fr, .string (bstr la), .string (bstr lb)] w fun e w' => RetCh lib (floorP hd at_ od fr) c fr la lb bc pre post w e w' := by
 have HP := (((Hp.own (vs := pre ++ [(ii c.item), (ii c.index), (ii c.full), (ii c.taken), (ii c.number), (ii c.num), (ii c.den)] ++ post) hC).keepF (boxK bs 111 [(.slice (some ⟨bc, 0, none⟩) n cc), (.slice LA lib.length lc), (.bool hd), (ii at_), (ii od)]) hS (boxK_ok _ _ _) (fun k hk => ⟨boxK_lt hS hk, fun x hx => by simp only [List.mem_cons, List.not_mem_nil, or_false] at hx; rcases hx with rfl; exact fun e => hne (hk.symm.trans e)⟩)).keepF (astsK LA lib) hlib (fun _ _ h hk hs => IsAsts.keep h hk hs) (fun k hk => ⟨IsAsts.lt hlib hk, fun x hx => by simp only [List.mem_cons, List.not_mem_nil, or_false] at hx; rcases hx with rfl; exact fun e => hcl (e ▸ hk)⟩)).keepF laidK hL laidK_ok (fun k hk => ⟨hL.lt k hk, fun x hx => by simp only [List.mem_cons, List.not_mem_nil, or_false] at hx; rcases hx with rfl; exact fun e => by rcases hk with hk | hk <;> (have : k = bc := e; omega)⟩)
 refine w_enter 87 [(0, (pt bs 0)), (1, (pt bc o)), (2, (ii fr)), (3, (.string (bstr la))), (4, (.string (bstr lb)))] Tryz.func44 rfl Tryz.ntmps44 (by kernel_rfl) (by kernel_rfl) fun a H => ?_
 refine wp_seq (w_region ?_)
 refine H.alloc HP 10 (fun b => (pt b 0)) 76 [(ii 0), (ii 0), (ii 0), (ii 0), (ii 0), (.bool false), (.string (bstr ([]))), (ii 0), (ii 0), (.string (bstr ([]))), (ii 0), (ii 0), (.slice none 0 0)] (by kernel_rfl) (fun w => by kernel_rfl) fun b_1 w_2 a H HP => ?_
 refine wpList_nil (then_normal (wp_seq (w_region ?_)))
 refine H.go HP 4 [(17, (pt bs 0)), (18, (pt bc o)), (19, (ii fr)), (20, (.string (bstr la)))] [] fun a H => ?_
 refine H.call 21 (by kernel_rfl) (Eq.trans (by kernel_rfl : _ = (callFunc 76 #[(pt bs 0), (pt bc o), (ii fr), (.string (bstr la))]).run Tryz.prog w_2) (Tryz.call76 _ _)) (accept_yes bs bc n cc o lc LA lib hd at_ od fr pre post c la w_2 ho hn hat hfr hix hla hala (HP.fact 0 rfl) (HP.fact 1 rfl) hln hlp (HP.fact 2 rfl) (HP.at_ 1 rfl) h1) ?_
 rintro e w_3 ⟨V1, rfl, hal1, hba1, hb⟩
 refine ⟨_, rfl, ?_⟩
 intro a H
 have HP := HP.next hb
 refine H.go HP 3 [(22, (.agg #[(ii V1.channel), (ii V1.frame), (ii V1.version), (ii V1.item), (ii V1.index), (.bool V1.key), (.string (bstr V1.data)), (ii V1.regions), (ii V1.gain), (.string (bstr V1.caption)), (ii V1.os), (ii V1.of), (.slice V1.A V1.al.length V1.c)])), (23, (.bool true))] [] fun a H => H.alloc HP 11 (fun b => (pt b 0)) 76 [(ii 0), (ii 0), (ii 0), (ii 0), (ii 0), (.bool false), (.string (bstr ([]))), (ii 0), (ii 0), (.string (bstr ([]))), (ii 0), (ii 0), (.slice none 0 0)] (by kernel_rfl) (fun w => by kernel_rfl) fun b_4 w_5 a H HP => H.sh HP 0 0 (.agg #[(ii V1.channel), (ii V1.frame), (ii V1.version), (ii V1.item), (ii V1.index), (.bool V1.key), (.string (bstr V1.data)), (ii V1.regions), (ii V1.gain), (.string (bstr V1.caption)), (ii V1.os), (ii V1.of), (.slice V1.A V1.al.length V1.c)]) rfl fun w_6 a H HP => ?_
 refine H.ge HP [(12, (.bool true))] [] fun a H => ?_
 refine then_normal (wp_seq (w_region ?_))
 refine H.go HP 4 [(25, (pt bs 0)), (26, (pt bc o)), (27, (ii fr)), (28, (.string (bstr lb)))] [] fun a H => ?_
 refine H.call 29 (by kernel_rfl) (Eq.trans (by kernel_rfl : _ = (callFunc 76 #[(pt bs 0), (pt bc o), (ii fr), (.string (bstr lb))]).run Tryz.prog w_6) (Tryz.call76 _ _)) (accept_yes bs bc n cc o lc LA lib hd at_ od fr pre post c lb w_6 ho hn hat hfr hix hlb halb (HP.fact 0 rfl) (HP.fact 1 rfl) hln hlp (HP.fact 2 rfl) (HP.at_ 2 rfl) h2) ?_
 rintro e w_7 ⟨V2, rfl, hal2, hba2, hb⟩
 refine ⟨_, rfl, ?_⟩
 intro a H
 have HP := HP.next hb
 refine H.go HP 3 [(30, (.agg #[(ii V2.channel), (ii V2.frame), (ii V2.version), (ii V2.item), (ii V2.index), (.bool V2.key), (.string (bstr V2.data)), (ii V2.regions), (ii V2.gain), (.string (bstr V2.caption)), (ii V2.os), (ii V2.of), (.slice V2.A V2.al.length V2.c)])), (31, (.bool true))] [] fun a H => H.alloc HP 13 (fun b => (pt b 0)) 76 [(ii 0), (ii 0), (ii 0), (ii 0), (ii 0), (.bool false), (.string (bstr ([]))), (ii 0), (ii 0), (.string (bstr ([]))), (ii 0), (ii 0), (.slice none 0 0)] (by kernel_rfl) (fun w => by kernel_rfl) fun b_8 w_9 a H HP => H.sh HP 0 0 (.agg #[(ii V2.channel), (ii V2.frame), (ii V2.version), (ii V2.item), (ii V2.index), (.bool V2.key), (.string (bstr V2.data)), (ii V2.regions), (ii V2.gain), (.string (bstr V2.caption)), (ii V2.os), (ii V2.of), (.slice V2.A V2.al.length V2.c)]) rfl fun w_10 a H HP => ?_
 refine H.ge HP [(14, (.bool true))] [] fun a H => ?_
 refine then_normal (wp_seq (w_region ?_))
 refine H.go HP 1 [(32, (.agg #[(ii V1.channel), (ii V1.frame), (ii V1.version), (ii V1.item), (ii V1.index), (.bool V1.key), (.string (bstr V1.data)), (ii V1.regions), (ii V1.gain), (.string (bstr V1.caption)), (ii V1.os), (ii V1.of), (.slice V1.A V1.al.length V1.c)]))] [1] fun a H => H.alloc HP 15 (fun b => (pt b 0)) 76 [(ii 0), (ii 0), (ii 0), (ii 0), (ii 0), (.bool false), (.string (bstr ([]))), (ii 0), (ii 0), (.string (bstr ([]))), (ii 0), (ii 0), (.slice none 0 0)] (by kernel_rfl) (fun w => by kernel_rfl) fun b_11 w_12 a H HP => H.sh HP 0 0 (.agg #[(ii V1.channel), (ii V1.frame), (ii V1.version), (ii V1.item), (ii V1.index), (.bool V1.key), (.string (bstr V1.data)), (ii V1.regions), (ii V1.gain), (.string (bstr V1.caption)), (ii V1.os), (ii V1.of), (.slice V1.A V1.al.length V1.c)]) rfl fun w_13 a H HP => ?_
 refine wpList_nil (then_normal (wp_seq (wp_block (wp_seq (w_region ?_)))))
 refine H.ge HP [(38, (.bool false))] [] fun a H => ?_
 refine then_normal ?_
 refine w_iff H rfl ?_
 refine wp_seq (w_region ?_)
 refine H.ge HP [(51, (.bool true))] [] fun a H => ?_
 refine then_normal ?_
 refine w_ift H rfl ?_
 refine wp_seq ?_
 have HP := HP.front 4 rfl [bx bc 115 (pre ++ [(ii c.item), (ii c.index), (ii c.full), (ii c.taken), (ii c.number), (ii c.num), (ii c.den)] ++ post) false, bx b_11 76 [(ii V1.channel), (ii V1.frame), (ii V1.version), (ii V1.item), (ii V1.index), (.bool V1.key), (.string (bstr V1.data)), (ii V1.regions), (ii V1.gain), (.string (bstr V1.caption)), (ii V1.os), (ii V1.of), (.slice V1.A V1.al.length V1.c)] true, bx b_8 76 [(ii V2.channel), (ii V2.frame), (ii V2.version), (ii V2.item), (ii V2.index), (.bool V2.key), (.string (bstr V2.data)), (ii V2.regions), (ii V2.gain), (.string (bstr V2.caption)), (ii V2.os), (ii V2.of), (.slice V2.A V2.al.length V2.c)] true, bx b_4 76 [(ii V1.channel), (ii V1.frame), (ii V1.version), (ii V1.item), (ii V1.index), (.bool V1.key), (.string (bstr V1.data)), (ii V1.regions), (ii V1.gain), (.string (bstr V1.caption)), (ii V1.os), (ii V1.of), (.slice V1.A V1.al.length V1.c)] true, bx b_1 76 [(ii 0), (ii 0), (ii 0), (ii 0), (ii 0), (.bool false), (.string (bstr ([]))), (ii 0), (ii 0), (.string (bstr ([]))), (ii 0), (ii 0), (.slice none 0 0)] true] (by kernel_rfl)
 refine An.start (fun v => Hp (bareW w) v [bx b_11 76 [(ii V1.channel), (ii V1.frame), (ii V1.version), (ii V1.item), (ii V1.index), (.bool V1.key), (.string (bstr V1.data)), (ii V1.regions), (ii V1.gain), (.string (bstr V1.caption)), (ii V1.os), (ii V1.of), (.slice V1.A V1.al.length V1.c)] true, bx b_8 76 [(ii V2.channel), (ii V2.frame), (ii V2.version), (ii V2.item), (ii V2.index), (.bool V2.key), (.string (bstr V2.data)), (ii V2.regions), (ii V2.gain), (.string (bstr V2.caption)), (ii V2.os), (ii V2.of), (.slice V2.A V2.al.length V2.c)] true, bx b_4 76 [(ii V1.channel), (ii V1.frame), (ii V1.version), (ii V1.item), (ii V1.index), (.bool V1.key), (.string (bstr V1.data)), (ii V1.regions), (ii V1.gain), (.string (bstr V1.caption)), (ii V1.os), (ii V1.of), (.slice V1.A V1.al.length V1.c)] true, bx b_1 76 [(ii 0), (ii 0), (ii 0), (ii 0), (ii 0), (.bool false), (.string (bstr ([]))), (ii 0), (ii 0), (.string (bstr ([]))), (ii 0), (ii 0), (.slice none 0 0)] true] [laidK, astsK LA lib, boxK bs 111 [(.slice (some ⟨bc, 0, none⟩) n cc), (.slice LA lib.length lc), (.bool hd), (ii at_), (ii od)]]) 12 13 HP wide_follows rfl fun w_14 HP => ?_
 refine An.go H (.inr ((HP.bareN 1))) 6 [0, 1, 2, 3, 4, 5, 6] [(56, (pt bc o)), (57, (.agg #[(ii V1.channel), (ii V1.frame), (ii V1.version), (ii V1.item), (ii V1.index), (.bool V1.key), (.string (bstr V1.data)), (ii V1.regions), (ii V1.gain), (.string (bstr V1.caption)), (ii V1.os), (ii V1.of), (.slice V1.A V1.al.length V1.c)])), (58, (.agg #[(ii V2.channel), (ii V2.frame), (ii V2.version), (ii V2.item), (ii V2.index), (.bool V2.key), (.string (bstr V2.data)), (ii V2.regions), (ii V2.gain), (.string (bstr V2.caption)), (ii V2.os), (ii V2.of), (.slice V2.A V2.al.length V2.c)])), (62, (.pointer (some ⟨bc, o + 3, none⟩)))] [2, 1] fun a H => ?_
 refine An.one 7 (by kernel_rfl) ?_
 refine Op.val H 63 (ii c.taken) rfl (by kernel_rfl) (ex_l1 (win_cell (k := 3) (HP.at_ 0 rfl) ho rfl)) fun a H => ?_
 refine ⟨.inr ((HP.bareN 1)), ?_⟩
 refine An.one 8 (by kernel_rfl) ?_
 refine Op.call H 64 rfl (by kernel_rfl) (Eq.trans (by kernel_rfl : _ = (callFunc 77 #[(.agg #[(ii V1.channel), (ii V1.frame), (ii V1.version), (ii V1.item), (ii V1.index), (.bool V1.key), (.string (bstr V1.data)), (ii V1.regions), (ii V1.gain), (.string (bstr V1.caption)), (ii V1.os), (ii V1.of), (.slice V1.A V1.al.length V1.c)]), (.agg #[(ii V2.channel), (ii V2.frame), (ii V2.version), (ii V2.item), (ii V2.index), (.bool V2.key), (.string (bstr V2.data)), (ii V2.regions), (ii V2.gain), (.string (bstr V2.caption)), (ii V2.os), (ii V2.of), (.slice V2.A V2.al.length V2.c)]), (ii c.taken)]).run Tryz.prog w_14) (Tryz.call77 _ _)) (prefer_any V1 V2 c.taken w_14) ?_
 rintro e w_15 ⟨rfl, hb⟩
 refine ⟨_, rfl, ?_⟩
 intro a H
 have HP := HP.next hb
 refine ⟨.inr ((HP.bareN 1)), ?_⟩
 refine An.go H (.inr ((HP.bareN 1))) 1 [9, 10, 11] [(67, (.pointer (some ⟨bc, o + 3, none⟩)))] [] fun a H => ?_
 refine An.one 12 (by kernel_rfl) ?_
 refine Op.storeW H HP 0 bc o 3 115 pre [(ii c.item), (ii c.index), (ii c.full), (ii c.taken), (ii c.number), (ii c.num), (ii c.den)] post false (ii (preferP V1 V2 c.taken)) [bx bc 115 (pre ++ [(ii c.item), (ii c.index), (ii c.full), (ii (preferP V1 V2 c.taken)), (ii c.number), (ii c.num), (ii c.den)] ++ post) false, bx b_11 76 [(ii V1.channel), (ii V1.frame), (ii V1.version), (ii V1.item), (ii V1.index), (.bool V1.key), (.string (bstr V1.data)), (ii V1.regions), (ii V1.gain), (.string (bstr V1.caption)), (ii V1.os), (ii V1.of), (.slice V1.A V1.al.length V1.c)] true, bx b_8 76 [(ii V2.channel), (ii V2.frame), (ii V2.version), (ii V2.item), (ii V2.index), (.bool V2.key), (.string (bstr V2.data)), (ii V2.regions), (ii V2.gain), (.string (bstr V2.caption)), (ii V2.os), (ii V2.of), (.slice V2.A V2.al.length V2.c)] true, bx b_4 76 [(ii V1.channel), (ii V1.frame), (ii V1.version), (ii V1.item), (ii V1.index), (.bool V1.key), (.string (bstr V1.data)), (ii V1.regions), (ii V1.gain), (.string (bstr V1.caption)), (ii V1.os), (ii V1.of), (.slice V1.A V1.al.length V1.c)] true, bx b_1 76 [(ii 0), (ii 0), (ii 0), (ii 0), (ii 0), (.bool false), (.string (bstr ([]))), (ii 0), (ii 0), (.string (bstr ([]))), (ii 0), (ii 0), (.slice none 0 0)] true] ho rfl (by kernel_rfl) (by kernel_rfl) (by kernel_rfl) rfl (by kernel_rfl) rfl (by kernel_rfl) rfl fun w_16 a H HP => ?_
 refine ⟨.inl (by kernel_rfl), ?_⟩
 refine An.done (by kernel_rfl) ?_
 refine then_normal (wp_seq (w_region ?_))
 refine H.go HP 4 [(71, (.pointer (some ⟨bc, o + 3, none⟩)))] [] fun a H => H.u 72 (ii (preferP V1 V2 c.taken)) (ex_l1 (win_cell (k := 3) (HP.at_ 0 rfl) ho rfl)) fun a H => ?_
 refine H.ge HP [(73, (.bool ((preferP V1 V2 c.taken) == 1)))] [] fun a H => ?_
 refine then_normal ?_
 refine w_if H rfl (fun g73 => ?_) (fun g73 => ?_)
 ·have g73p := eq_of_beq g73
  refine w_region ?_
  refine H.go HP 1 [(74, (.agg #[(ii V2.channel), (ii V2.frame), (ii V2.version), (ii V2.item), (ii V2.index), (.bool V2.key), (.string (bstr V2.data)), (ii V2.regions), (ii V2.gain), (.string (bstr V2.caption)), (ii V2.os), (ii V2.of), (.slice V2.A V2.al.length V2.c)]))] [2] fun a H => H.sh HP 1 0 (.agg #[(ii V2.channel), (ii V2.frame), (ii V2.version), (ii V2.item), (ii V2.index), (.bool V2.key), (.string (bstr V2.data)), (ii V2.regions), (ii V2.gain), (.string (bstr V2.caption)), (ii V2.os), (ii V2.of), (.slice V2.A V2.al.length V2.c)]) rfl fun w_17 a H HP => ?_
  refine wpList_nil (inb_normal (then_normal (wp_seq ?_)))
  refine An.start (fun v => Hp w v [bx bc 115 (pre ++ [(ii c.item), (ii c.index), (ii c.full), (ii (preferP V1 V2 c.taken)), (ii c.number), (ii c.num), (ii c.den)] ++ post) false, bx b_11 76 [(ii V2.channel), (ii V2.frame), (ii V2.version), (ii V2.item), (ii V2.index), (.bool V2.key), (.string (bstr V2.data)), (ii V2.regions), (ii V2.gain), (.string (bstr V2.caption)), (ii V2.os), (ii V2.of), (.slice V2.A V2.al.length V2.c)] true, bx b_8 76 [(ii V2.channel), (ii V2.frame), (ii V2.version), (ii V2.item), (ii V2.index), (.bool V2.key), (.string (bstr V2.data)), (ii V2.regions), (ii V2.gain), (.string (bstr V2.caption)), (ii V2.os), (ii V2.of), (.slice V2.A V2.al.length V2.c)] true, bx b_4 76 [(ii V1.channel), (ii V1.frame), (ii V1.version), (ii V1.item), (ii V1.index), (.bool V1.key), (.string (bstr V1.data)), (ii V1.regions), (ii V1.gain), (.string (bstr V1.caption)), (ii V1.os), (ii V1.of), (.slice V1.A V1.al.length V1.c)] true, bx b_1 76 [(ii 0), (ii 0), (ii 0), (ii 0), (ii 0), (.bool false), (.string (bstr ([]))), (ii 0), (ii 0), (.string (bstr ([]))), (ii 0), (ii 0), (.slice none 0 0)] true] [laidK, astsK LA lib, boxK bs 111 [(.slice (some ⟨bc, 0, none⟩) n cc), (.slice LA lib.length lc), (.bool hd), (ii at_), (ii od)]]) 4 5 HP wide_follows rfl fun w_18 HP => ?_
  refine An.go H (.inr (HP)) 1 [0, 1, 2, 3] [(83, (pt bc o)), (84, (.agg #[(ii V2.channel), (ii V2.frame), (ii V2.version), (ii V2.item), (ii V2.index), (.bool V2.key), (.string (bstr V2.data)), (ii V2.regions), (ii V2.gain), (.string (bstr V2.caption)), (ii V2.os), (ii V2.of), (.slice V2.A V2.al.length V2.c)]))] [1] fun a H => ?_
  refine An.one 4 (by kernel_rfl) ?_
  refine Op.call H 85 rfl (by kernel_rfl) (Eq.trans (by kernel_rfl : _ = (callFunc 78 #[(pt bc o), (.agg #[(ii V2.channel), (ii V2.frame), (ii V2.version), (ii V2.item), (ii V2.index), (.bool V2.key), (.string (bstr V2.data)), (ii V2.regions), (ii V2.gain), (.string (bstr V2.caption)), (ii V2.os), (ii V2.of), (.slice V2.A V2.al.length V2.c)])]).run Tryz.prog w_18) (Tryz.call78 _ _)) (show_any bc o pre post ({ c with taken := preferP V1 V2 c.taken }) V2 w_18 (HP.at_ 0 rfl) ho) ?_
  rintro e w_19 ⟨rfl, hbx, hgr⟩
  refine ⟨_, rfl, ?_⟩
  intro a H
  have HP := (HP.changed 0 rfl (pre ++ [(ii V2.item), (ii V2.index), (ii ((vstep c.full (V2.data.length : Int)).getD 0)), (ii (preferP V1 V2 c.taken)), (ii c.number), (ii c.num), (ii c.den)] ++ post) [bx bc 115 (pre ++ [(ii V2.item), (ii V2.index), (ii ((vstep c.full (V2.data.length : Int)).getD 0)), (ii (preferP V1 V2 c.taken)), (ii c.number), (ii c.num), (ii c.den)] ++ post) false, bx b_11 76 [(ii V2.channel), (ii V2.frame), (ii V2.version), (ii V2.item), (ii V2.index), (.bool V2.key), (.string (bstr V2.data)), (ii V2.regions), (ii V2.gain), (.string (bstr V2.caption)), (ii V2.os), (ii V2.of), (.slice V2.A V2.al.length V2.c)] true, bx b_8 76 [(ii V2.channel), (ii V2.frame), (ii V2.version), (ii V2.item), (ii V2.index), (.bool V2.key), (.string (bstr V2.data)), (ii V2.regions), (ii V2.gain), (.string (bstr V2.caption)), (ii V2.os), (ii V2.of), (.slice V2.A V2.al.length V2.c)] true, bx b_4 76 [(ii V1.channel), (ii V1.frame), (ii V1.version), (ii V1.item), (ii V1.index), (.bool V1.key), (.string (bstr V1.data)), (ii V1.regions), (ii V1.gain), (.string (bstr V1.caption)), (ii V1.os), (ii V1.of), (.slice V1.A V1.al.length V1.c)] true, bx b_1 76 [(ii 0), (ii 0), (ii 0), (ii 0), (ii 0), (.bool false), (.string (bstr ([]))), (ii 0), (ii 0), (.string (bstr ([]))), (ii 0), (ii 0), (.slice none 0 0)] true] (by kernel_rfl) hgr hbx)
  refine ⟨.inl (by kernel_rfl), ?_⟩
  refine An.done (by kernel_rfl) ?_
  refine then_normal (wp_seq (w_region ?_))
  refine H.go HP 1 [(86, (.agg #[(ii V2.channel), (ii V2.frame), (ii V2.version), (ii V2.item), (ii V2.index), (.bool V2.key), (.string (bstr V2.data)), (ii V2.regions), (ii V2.gain), (.string (bstr V2.caption)), (ii V2.os), (ii V2.of), (.slice V2.A V2.al.length V2.c)]))] [1] fun a H => H.sh HP 4 0 (.agg #[(ii V2.channel), (ii V2.frame), (ii V2.version), (ii V2.item), (ii V2.index), (.bool V2.key), (.string (bstr V2.data)), (ii V2.regions), (ii V2.gain), (.string (bstr V2.caption)), (ii V2.os), (ii V2.of), (.slice V2.A V2.al.length V2.c)]) rfl fun w_20 a H HP => ?_
  refine wpList_nil (then_normal (wp_ret ?_))
  refine H.ret1 (fn := Tryz.f44) Tryz.results44 (RV.cellN (vs := [(ii V2.channel), (ii V2.frame), (ii V2.version), (ii V2.item), (ii V2.index), (.bool V2.key), (.string (bstr V2.data)), (ii V2.regions), (ii V2.gain), (.string (bstr V2.caption)), (ii V2.os), (ii V2.of), (.slice V2.A V2.al.length V2.c)]) (b := b_1) (off := 0) (k := 13) (by kernel_rfl) (by kernel_rfl) (by kernel_rfl) rfl (HP.cells 4 rfl 0 13 (by kernel_rfl))) ?_
  have HP : Hp w w_20 [bx bc 115 (pre ++ [(ii V2.item), (ii V2.index), (ii ((vstep c.full (V2.data.length : Int)).getD 0)), (ii (preferP V1 V2 c.taken)), (ii c.number), (ii c.num), (ii c.den)] ++ post) false, bx b_11 76 [(ii V2.channel), (ii V2.frame), (ii V2.version), (ii V2.item), (ii V2.index), (.bool V2.key), (.string (bstr V2.data)), (ii V2.regions), (ii V2.gain), (.string (bstr V2.caption)), (ii V2.os), (ii V2.of), (.slice V2.A V2.al.length V2.c)] true, bx b_8 76 [(ii V2.channel), (ii V2.frame), (ii V2.version), (ii V2.item), (ii V2.index), (.bool V2.key), (.string (bstr V2.data)), (ii V2.regions), (ii V2.gain), (.string (bstr V2.caption)), (ii V2.os), (ii V2.of), (.slice V2.A V2.al.length V2.c)] true, bx b_4 76 [(ii V1.channel), (ii V1.frame), (ii V1.version), (ii V1.item), (ii V1.index), (.bool V1.key), (.string (bstr V1.data)), (ii V1.regions), (ii V1.gain), (.string (bstr V1.caption)), (ii V1.os), (ii V1.of), (.slice V1.A V1.al.length V1.c)] true, bx b_1 76 [(ii V2.channel), (ii V2.frame), (ii V2.version), (ii V2.item), (ii V2.index), (.bool V2.key), (.string (bstr V2.data)), (ii V2.regions), (ii V2.gain), (.string (bstr V2.caption)), (ii V2.os), (ii V2.of), (.slice V2.A V2.al.length V2.c)] true] [laidK, astsK LA lib, boxK bs 111 [(.slice (some ⟨bc, 0, none⟩) n cc), (.slice LA lib.length lc), (.bool hd), (ii at_), (ii od)]] := HP
  subst hba1
  subst hba2
  refine ⟨V2, rfl, hal2, ?_, ?_, HP.only bc (by intro x hx; simp only [List.mem_cons, List.not_mem_nil, or_false] at hx; rcases hx with rfl | rfl | rfl | rfl | rfl; exact .inr (fun k hk => hk); exact .inl rfl; exact .inl rfl; exact .inl rfl; exact .inl rfl)⟩
  ·exact (congrArg Prod.fst (choose_yy1 h1 h2 g73p)).symm
  rw [choose_yy1 h1 h2 g73p]; exact HP.at_ 0 rfl
 have g73p := ne_of_beq_false g73
 refine wp_skip (inb_normal (then_normal (wp_seq ?_)))
 refine An.start (fun v => Hp w v [bx bc 115 (pre ++ [(ii c.item), (ii c.index), (ii c.full), (ii (preferP V1 V2 c.taken)), (ii c.number), (ii c.num), (ii c.den)] ++ post) false, bx b_11 76 [(ii V1.channel), (ii V1.frame), (ii V1.version), (ii V1.item), (ii V1.index), (.bool V1.key), (.string (bstr V1.data)), (ii V1.regions), (ii V1.gain), (.string (bstr V1.caption)), (ii V1.os), (ii V1.of), (.slice V1.A V1.al.length V1.c)] true, bx b_8 76 [(ii V2.channel), (ii V2.frame), (ii V2.version), (ii V2.item), (ii V2.index), (.bool V2.key), (.string (bstr V2.data)), (ii V2.regions), (ii V2.gain), (.string (bstr V2.caption)), (ii V2.os), (ii V2.of), (.slice V2.A V2.al.length V2.c)] true, bx b_4 76 [(ii V1.channel), (ii V1.frame), (ii V1.version), (ii V1.item), (ii V1.index), (.bool V1.key), (.string (bstr V1.data)), (ii V1.regions), (ii V1.gain), (.string (bstr V1.caption)), (ii V1.os), (ii V1.of), (.slice V1.A V1.al.length V1.c)] true, bx b_1 76 [(ii 0), (ii 0), (ii 0), (ii 0), (ii 0), (.bool false), (.string (bstr ([]))), (ii 0), (ii 0), (.string (bstr ([]))), (ii 0), (ii 0), (.slice none 0 0)] true] [laidK, astsK LA lib, boxK bs 111 [(.slice (some ⟨bc, 0, none⟩) n cc), (.slice LA lib.length lc), (.bool hd), (ii at_), (ii od)]]) 4 5 HP wide_follows rfl fun w_21 HP => ?_
 refine An.go H (.inr (HP)) 1 [0, 1, 2, 3] [(83, (pt bc o)), (84, (.agg #[(ii V1.channel), (ii V1.frame), (ii V1.version), (ii V1.item), (ii V1.index), (.bool V1.key), (.string (bstr V1.data)), (ii V1.regions), (ii V1.gain), (.string (bstr V1.caption)), (ii V1.os), (ii V1.of), (.slice V1.A V1.al.length V1.c)]))] [1] fun a H => ?_
 refine An.one 4 (by kernel_rfl) ?_
 refine Op.call H 85 rfl (by kernel_rfl) (Eq.trans (by kernel_rfl : _ = (callFunc 78 #[(pt bc o), (.agg #[(ii V1.channel), (ii V1.frame), (ii V1.version), (ii V1.item), (ii V1.index), (.bool V1.key), (.string (bstr V1.data)), (ii V1.regions), (ii V1.gain), (.string (bstr V1.caption)), (ii V1.os), (ii V1.of), (.slice V1.A V1.al.length V1.c)])]).run Tryz.prog w_21) (Tryz.call78 _ _)) (show_any bc o pre post ({ c with taken := preferP V1 V2 c.taken }) V1 w_21 (HP.at_ 0 rfl) ho) ?_
 rintro e w_22 ⟨rfl, hbx, hgr⟩
 refine ⟨_, rfl, ?_⟩
 intro a H
 have HP := (HP.changed 0 rfl (pre ++ [(ii V1.item), (ii V1.index), (ii ((vstep c.full (V1.data.length : Int)).getD 0)), (ii (preferP V1 V2 c.taken)), (ii c.number), (ii c.num), (ii c.den)] ++ post) [bx bc 115 (pre ++ [(ii V1.item), (ii V1.index), (ii ((vstep c.full (V1.data.length : Int)).getD 0)), (ii (preferP V1 V2 c.taken)), (ii c.number), (ii c.num), (ii c.den)] ++ post) false, bx b_11 76 [(ii V1.channel), (ii V1.frame), (ii V1.version), (ii V1.item), (ii V1.index), (.bool V1.key), (.string (bstr V1.data)), (ii V1.regions), (ii V1.gain), (.string (bstr V1.caption)), (ii V1.os), (ii V1.of), (.slice V1.A V1.al.length V1.c)] true, bx b_8 76 [(ii V2.channel), (ii V2.frame), (ii V2.version), (ii V2.item), (ii V2.index), (.bool V2.key), (.string (bstr V2.data)), (ii V2.regions), (ii V2.gain), (.string (bstr V2.caption)), (ii V2.os), (ii V2.of), (.slice V2.A V2.al.length V2.c)] true, bx b_4 76 [(ii V1.channel), (ii V1.frame), (ii V1.version), (ii V1.item), (ii V1.index), (.bool V1.key), (.string (bstr V1.data)), (ii V1.regions), (ii V1.gain), (.string (bstr V1.caption)), (ii V1.os), (ii V1.of), (.slice V1.A V1.al.length V1.c)] true, bx b_1 76 [(ii 0), (ii 0), (ii 0), (ii 0), (ii 0), (.bool false), (.string (bstr ([]))), (ii 0), (ii 0), (.string (bstr ([]))), (ii 0), (ii 0), (.slice none 0 0)] true] (by kernel_rfl) hgr hbx)
 refine ⟨.inl (by kernel_rfl), ?_⟩
 refine An.done (by kernel_rfl) ?_
 refine then_normal (wp_seq (w_region ?_))
 refine H.go HP 1 [(86, (.agg #[(ii V1.channel), (ii V1.frame), (ii V1.version), (ii V1.item), (ii V1.index), (.bool V1.key), (.string (bstr V1.data)), (ii V1.regions), (ii V1.gain), (.string (bstr V1.caption)), (ii V1.os), (ii V1.of), (.slice V1.A V1.al.length V1.c)]))] [1] fun a H => H.sh HP 4 0 (.agg #[(ii V1.channel), (ii V1.frame), (ii V1.version), (ii V1.item), (ii V1.index), (.bool V1.key), (.string (bstr V1.data)), (ii V1.regions), (ii V1.gain), (.string (bstr V1.caption)), (ii V1.os), (ii V1.of), (.slice V1.A V1.al.length V1.c)]) rfl fun w_23 a H HP => ?_
 refine wpList_nil (then_normal (wp_ret ?_))
 refine H.ret1 (fn := Tryz.f44) Tryz.results44 (RV.cellN (vs := [(ii V1.channel), (ii V1.frame), (ii V1.version), (ii V1.item), (ii V1.index), (.bool V1.key), (.string (bstr V1.data)), (ii V1.regions), (ii V1.gain), (.string (bstr V1.caption)), (ii V1.os), (ii V1.of), (.slice V1.A V1.al.length V1.c)]) (b := b_1) (off := 0) (k := 13) (by kernel_rfl) (by kernel_rfl) (by kernel_rfl) rfl (HP.cells 4 rfl 0 13 (by kernel_rfl))) ?_
 have HP : Hp w w_23 [bx bc 115 (pre ++ [(ii V1.item), (ii V1.index), (ii ((vstep c.full (V1.data.length : Int)).getD 0)), (ii (preferP V1 V2 c.taken)), (ii c.number), (ii c.num), (ii c.den)] ++ post) false, bx b_11 76 [(ii V1.channel), (ii V1.frame), (ii V1.version), (ii V1.item), (ii V1.index), (.bool V1.key), (.string (bstr V1.data)), (ii V1.regions), (ii V1.gain), (.string (bstr V1.caption)), (ii V1.os), (ii V1.of), (.slice V1.A V1.al.length V1.c)] true, bx b_8 76 [(ii V2.channel), (ii V2.frame), (ii V2.version), (ii V2.item), (ii V2.index), (.bool V2.key), (.string (bstr V2.data)), (ii V2.regions), (ii V2.gain), (.string (bstr V2.caption)), (ii V2.os), (ii V2.of), (.slice V2.A V2.al.length V2.c)] true, bx b_4 76 [(ii V1.channel), (ii V1.frame), (ii V1.version), (ii V1.item), (ii V1.index), (.bool V1.key), (.string (bstr V1.data)), (ii V1.regions), (ii V1.gain), (.string (bstr V1.caption)), (ii V1.os), (ii V1.of), (.slice V1.A V1.al.length V1.c)] true, bx b_1 76 [(ii V1.channel), (ii V1.frame), (ii V1.version), (ii V1.item), (ii V1.index), (.bool V1.key), (.string (bstr V1.data)), (ii V1.regions), (ii V1.gain), (.string (bstr V1.caption)), (ii V1.os), (ii V1.of), (.slice V1.A V1.al.length V1.c)] true] [laidK, astsK LA lib, boxK bs 111 [(.slice (some ⟨bc, 0, none⟩) n cc), (.slice LA lib.length lc), (.bool hd), (ii at_), (ii od)]] := HP
 subst hba1
 subst hba2
 refine ⟨V1, rfl, hal1, ?_, ?_, HP.only bc (by intro x hx; simp only [List.mem_cons, List.not_mem_nil, or_false] at hx; rcases hx with rfl | rfl | rfl | rfl | rfl; exact .inr (fun k hk => hk); exact .inl rfl; exact .inl rfl; exact .inl rfl; exact .inl rfl)⟩
 ·exact (congrArg Prod.fst (choose_yy0 h1 h2 g73p)).symm
 rw [choose_yy0 h1 h2 g73p]; exact HP.at_ 0 rfl
theorem choose_any (bs bc n cc o : Nat) (lc : Nat) (LA : Option Addr) (lib : List AstA) (hd : Bool) (at_ od fr : Int) (pre post : List Value) (c : Ch) (la lb : List UInt8) (w : World) (ho : pre.length = o) (hn : 0 < n) (hat : 0 ≤ at_ ∧ at_ ≤ 9223372036854775807) (hfr : -9223372036854775808 ≤ fr ∧ fr ≤ 9223372036854775807) (hix : -1 ≤ c.index ∧ c.index ≤ 1000000000) (hla : la.length ≤ 1000000) (hlb : lb.length ≤ 1000000) (hala : ∀ u, unpackP c.num c.den la = some u → u.al = []) (halb : ∀ u, unpackP c.num c.den lb = some u → u.al = []) (hne : bs ≠ bc) (hcl : ¬ libFp LA lib bc) (h2c : 2 ≤ bc) (hL : Laid w) (hlib : IsAsts w LA lib.length lib) (hln : lib.length ≤ maxLen) (hlp : ∀ a ∈ lib, a.pics.length ≤ 2000000) (hS : Box w bs 111 (selL bc n cc LA lib.length lc hd at_ od).toArray) (hC : Box w bc 115 (pre ++ chL c ++ post).toArray) :
  Calls Tryz.prog 44 #[.pointer (some ⟨bs, 0, none⟩), .pointer (some ⟨bc, o, none⟩), .int .i64 fr, .string (bstr la), .string (bstr lb)] w fun e w' => RetCh lib (floorP hd at_ od fr) c fr la lb bc pre post w e w' := by
 cases h1 : acceptP lib (floorP hd at_ od fr) c fr la with
 | none => cases h2 : acceptP lib (floorP hd at_ od fr) c fr lb with
  | none => exact choose_nn_any bs bc n cc o lc LA lib hd at_ od fr pre post c la lb w ho hn hat hfr hix hla hlb hala halb hne hcl h2c hL hlib hln hlp hS hC h1 h2
  | some y => exact choose_ny_any bs bc n cc o lc LA lib hd at_ od fr pre post c la lb w ho hn hat hfr hix hla hlb hala halb hne hcl h2c hL hlib hln hlp hS hC y h1 h2
 | some x => cases h2 : acceptP lib (floorP hd at_ od fr) c fr lb with
  | none => exact choose_yn_any bs bc n cc o lc LA lib hd at_ od fr pre post c la lb w ho hn hat hfr hix hla hlb hala halb hne hcl h2c hL hlib hln hlp hS hC x h1 h2
  | some y => exact choose_yy_any bs bc n cc o lc LA lib hd at_ od fr pre post c la lb w ho hn hat hfr hix hla hlb hala halb hne hcl h2c hL hlib hln hlp hS hC x y h1 h2
def noDefer : List Oper → Bool
  | [] => true
  | o :: l => (match o.op with | .defer _ => false | _ => true) && noDefer l
section
variable {P : Program} {ops : Array Oper} {Q : Exit → Act → World → Prop} {l' m : Nat}
theorem rowsIn_wide {n : Nat} {row : String} {args : Array Value} {w : World} {R : Value → World → Prop} (h : Rows P row args w R) : RowsIn (Fence.wide.inRound l') n P row args w R :=
  fun c cs _ => let ⟨v, w', r, s⟩ := h c cs; ⟨v, w', r, stepsIn_wide.2 s⟩
theorem upon_round {o : Oper} {a : Act} {next next' : Act → World → Prop} (hn : ∀ a w, next a w → next' a w) (r : Result Next) (h : o.upon P a next Q r) : o.uponIn (Fence.wide.inRound l') m P a next' Q r := by
  cases r with
  | ok v w =>
    cases v with
    | value v => exact hn _ _ h
    | skip => exact hn _ _ h
    | defer d => exact hn _ _ h
    | enter f args =>
      have hc : Calls P f args w _ := h
      refine ⟨(fun h0 => by cases h0), CallsIn.inRound l' ((callsIn_wide.2 hc).mono fun e w' he => ?_)⟩
      cases e with
      | returned v => exact hn _ _ he
      | _ => exact he
    | row r args =>
      have hc : Rows P r args w _ := h
      exact ⟨(fun h0 => by cases h0), RowsIn.mono (rowsIn_wide hc) fun v w' he => hn _ _ he⟩
    | _ => exact h.elim
  | halt x w => cases x <;> exact h
theorem wpListIn_of (hQ : ∀ a w, Q .outgrown a w → False) : ∀ (l : List Oper) (a : Act) (w : World), noDefer l = true → wpList P ops Q l a w → wpListIn (Fence.wide.inRound l') m P ops Q l a w
  | [], a, w, _, h => h
  | o :: l, a, w, hd, h => by
    simp only [noDefer, Bool.and_eq_true] at hd
    have hdef : ∀ c, o.op ≠ .defer c := fun c e => by have := hd.1; rw [e] at this; cases this
    unfold wpList at h
    unfold wpListIn
    split
    · rename_i hw
      rw [if_pos hw] at h
      rcases h with h | ⟨_, a', w', h⟩
      · refine ⟨fun _ _ => trivial, ?_⟩
        rw [Oper.semAt_eq _ _ _ hdef]
        exact upon_round (fun a w h => wpListIn_of hQ l a w hd.2 h) _ h
      · exact (hQ _ _ h).elim
    · rename_i hw
      rw [if_neg hw] at h
      exact ⟨fun _ _ => trivial, wpListIn_of hQ l _ w hd.2 h⟩
variable {a : Act} {w : World} {n : Nat} {L : List (Nat × Value)}
theorem w_regionF {id : Nat} {l : List Oper} (h : wpList P l.toArray Q l a w) (hd : noDefer l = true := by kernel_rfl) (hQ : ∀ a w, Q .outgrown a w → False := by exact fun _ _ h => h) : (Code.region id l.toArray false).wpIn (Fence.wide.inRound l') m P Q a w :=
  wpIn_region_lit (wpListIn_of hQ l a w hd h)
theorem w_iffF {x y : Code} {t : Nat} (H : Sl n L a) (hl : look t L = some (.bool false)) (h : y.wpIn (Fence.wide.inRound l') m P Q a w) : (Code.cond (.tmp t) x y).wpIn (Fence.wide.inRound l') m P Q a w :=
  wpIn_cond_false (by simp only [Act.eval]; exact H.get t _ hl) h
def keepN (W : World) (B : Nat) : FK := ⟨fun k => B ≤ k ∧ ∃ o, W.heap[k]? = some o ∧ o.isCells = false, fun W' => KeepsFrom B W W'⟩
theorem keepN_ok (W : World) (B : Nat) : (keepN W B).ok := fun w1 w2 h hk hs => ⟨Nat.le_trans h.size hs, fun k o hb ho hc => (hk k ⟨hb, o, ho, hc⟩).trans (h.same k o hb ho hc)⟩
def keepB (W : World) (b : Nat) : FK := ⟨fun k => k = b, fun W' => W.heap.size ≤ W'.heap.size ∧ W'.heap[b]? = W.heap[b]?⟩
theorem keepB_ok (W : World) (b : Nat) : (keepB W b).ok := fun w1 w2 h hk hs => ⟨Nat.le_trans h.1 hs, (hk b rfl).trans h.2⟩
def HB.cellsIn (x : HB) : Prop := ∀ w, x.F w → ∀ k, x.fp k → ∃ o, w.heap[k]? = some o ∧ o.isCells = true
theorem bx_cells (b : Nat) (t : TypeId) (vs : List Value) (f : Bool) : (bx b t vs f).cellsIn := fun w h k hk => by cases hk; exact ⟨_, h, rfl⟩
theorem Hp.own_ {w0 : World} {L : List HB} {K : List FK} {B : Nat} (hB : w0.heap.size ≤ B) (hc : ∀ x ∈ L, x.cellsIn) (hK : ∀ p ∈ K, ∀ k, p.fp k → k < B) {β : Type} : OwnFrom B (fun (_ : β) W => Hp w0 W L K) := fun _ W W' row H hg hr => by
  have key : ∀ x ∈ L, ∀ k, x.fp k → row ≠ some k := fun x hx k hk e => by
    obtain ⟨o, ho, hoc⟩ := hc x hx W (H.res x hx).1 k hk
    obtain ⟨_, o', ho', hoc'⟩ := hr k e
    rw [ho] at ho'; cases ho'; rw [hoc] at hoc'; cases hoc'
  refine ⟨hg.os.trans H.os, hg.tape.trans H.tape, hg.output.trans H.output, Nat.le_trans H.size hg.size, fun k hk hn => ?_, fun x hx => ?_, H.apart, H.fresh, fun p hp => ?_⟩
  · refine (hg.block k (Nat.lt_of_lt_of_le hk H.size) fun e => ?_).trans (H.old k hk hn)
    have := (hr k e.symm).1
    omega
  · obtain ⟨h1, h2, h3⟩ := H.res x hx
    exact ⟨h2 _ _ h1 (fun k hk => hg.block k (h3 k hk) fun e => key x hx k hk e.symm) hg.size, h2, fun k hk => Nat.lt_of_lt_of_le (h3 k hk) hg.size⟩
  · obtain ⟨h1, h2, h3⟩ := H.kept p hp
    refine ⟨h2 _ _ h1 (fun k hk => hg.block k (h3 k hk).1 fun e => ?_) hg.size, h2, fun k hk => ⟨Nat.lt_of_lt_of_le (h3 k hk).1 hg.size, (h3 k hk).2⟩⟩
    have := (hr k e.symm).1
    have := hK p hp k hk
    omega
theorem Hp.round {w0 W : World} {L : List HB} {K : List FK} (H : Hp w0 W L K) (B : Nat) (hc : ∀ x ∈ L, x.cellsIn) : Hp w0 W L (keepN W B :: K) :=
  H.keepF (keepN W B) ⟨Nat.le_refl _, fun _ _ _ h _ => h⟩ (keepN_ok W B) fun k hk => by
    obtain ⟨_, o, ho, hoc⟩ := hk
    refine ⟨(Array.getElem?_eq_some_iff.1 ho).1, fun x hx hxk => ?_⟩
    obtain ⟨o', ho', hoc'⟩ := hc x hx W (H.res x hx).1 k hxk
    rw [ho] at ho'; cases ho'; rw [hoc] at hoc'; cases hoc'
end
section
variable {P : Program} {Q : Exit → Act → World → Prop} {a : Act} {w : World} {n : Nat} {L : List (Nat × Value)} {ds : List Deferred}
theorem w_regionM {id : Nat} {l : List Oper} (h : wpList P l.toArray (fun e a w => Q e (moreD ds a) w) l a w) : (Code.region id l.toArray false).wp P Q (moreD ds a) w := w_region (wpList_D _ _ _ h)
theorem w_iftM {x y : Code} {t : Nat} (H : Sl n L a) (hl : look t L = some (.bool true)) (h : x.wp P Q (moreD ds a) w) : (Code.cond (.tmp t) x y).wp P Q (moreD ds a) w :=
  wp_cond_true (by simp only [Act.eval]; exact H.get t _ hl) h
theorem moreD_of (d : Deferred) (h : a.defers = []) : ({ a with defers := d :: a.defers } : Act) = moreD [d] a := by simp [moreD, h]
end
abbrev strC (x : List UInt8) : Array Value := #[.string (bstr x)]
theorem strC_size (x : List UInt8) : (strC x).size = 1 := rfl
abbrev chC (c : Ch) : Array Value := #[.int .i64 c.item, .int .i64 c.index, .int .i64 c.full, .int .i64 c.taken, .int .i64 c.number, .int .i64 c.num, .int .i64 c.den]
theorem chC_size (c : Ch) : (chC c).size = 7 := rfl
abbrev unC (u : Un) : Array Value := u.cells
theorem unC_size (u : Un) : (unC u).size = 13 := rfl
theorem Hp.rowMade {α : Type} {cs : α → Array Value} {size : Nat} {e : TypeId} {w0 w : World} {L : List HB} {K : List FK} (H : Hp w0 w L K) (i : Nat) {g c : Nat} {vs : List Value} (hi : L[i]? = some (bx g e vs true)) (hv : vs.length = c * size) (hm : c ≤ maxLen) (L' : List HB) (hL : L.set i (rowsR w0.heap.size e size cs okT feF (.slice (some ⟨g, 0, none⟩) 0 c) []) = L') : Hp w0 w L' K := by
  have hbb := H.fresh _ (List.mem_of_getElem? hi) rfl g rfl
  have hx := H.at_ i hi
  refine H.mut i hi _ L' hL (Agree.of_below (Below.refl _ _)) ⟨⟨by simp, .inr ⟨g, c, vs.toArray, rfl, hbb, hx, Nat.zero_le _, hm, by simpa using hv, by simp⟩⟩, fun a ha => by cases ha⟩ (rowsR_ok elOk_flat) (fun q hq => ?_) (fun q hq => ?_) (fun q hq hq' => ?_) rfl
  · rcases hq with hq | ⟨_, ha, _⟩
    · cases hq; exact hx.lt
    · cases ha
  · rcases hq with hq | ⟨_, ha, _⟩
    · cases hq; exact .inl rfl
    · cases ha
  · have := H.fresh _ (List.mem_of_getElem? hi) rfl q hq'
    omega
theorem ex_makeC {P : Program} {ρ : Operand → Value} {w : World} {t e : TypeId} {x y : Operand} {dst : Option Tmp} {ty : TypeId} {pos : String} {af : Array Edge} {g : Option (Nat × Bool)} {c size bytes : Nat} {z : Value} {kl kc : IntKind} (hx : ρ x = .int kl 0) (hy : ρ y = .int kc (c : Int)) (hu : P.underlying t = some (.slice e)) (hinf : infoB P e = some (some z, size, bytes)) (h1 : c * size ≤ 16777216) (h2 : bytes * c ≤ 281474976710656) (h3 : c ≤ 1000000) :
    (execOp ρ ⟨dst, .makeSlice t x y, ty, pos, af, g⟩).run P w = .ok (.value (.slice (some ⟨w.heap.size, 0, none⟩) 0 c)) (w.alloc (.cells (madeCells z.cells (c * size)).toList.toArray e)) := by
  obtain ⟨i, hi, hz, hs, hb⟩ := infoB_spec hinf
  have := run_makeSlice (P := P) w t e i z hu hi hz kl kc 0 (c : Int) (by omega) (by omega) (by rw [hs, Int.toNat_natCast]; exact h1) (by rw [hb]; have h4 : ((bytes * c : Nat) : Int) ≤ ((281474976710656 : Nat) : Int) := Int.ofNat_le.2 h2; rw [Int.natCast_mul] at h4; exact h4) (by omega)
  simp only [execOp, hx, hy, Sem.run_bind, this, Result.andThen_ok, Sem.run_pure, hs]
  simp
abbrev allC (lib : List AstA) (fl : Option Int) (chs : List Ch) (fr : Int) (a b : List (List UInt8)) : List (Un × Ch) := chs.zipIdx.map fun p => chooseC lib fl p.1 fr (a.getD p.2 []) (b.getD p.2 [])
theorem allC_len (lib fl chs fr a b) : (allC lib fl chs fr a b).length = chs.length := by simp [allC]
theorem allC_get {lib : List AstA} {fl : Option Int} {chs : List Ch} {fr : Int} {a b : List (List UInt8)} {i : Nat} {c : Ch} (h : chs[i]? = some c) : (allC lib fl chs fr a b)[i]? = some (chooseC lib fl c fr (a.getD i []) (b.getD i [])) := by
  simp [allC, List.getElem?_zipIdx, h]
abbrev chsAt (all : List (Un × Ch)) (chs : List Ch) (i : Nat) : List Ch := (all.take i).map (·.2) ++ chs.drop i
theorem chsAt_zero (all : List (Un × Ch)) (chs : List Ch) : chsAt all chs 0 = chs := by simp [chsAt]
theorem chsAt_end {all : List (Un × Ch)} {chs : List Ch} (h : all.length = chs.length) : chsAt all chs chs.length = all.map (·.2) := by simp [chsAt, ← h]
theorem chsAt_at {all : List (Un × Ch)} {chs : List Ch} {tl : List Value} {i : Nat} {c : Ch} (h : chs[i]? = some c) : flat chC (chsAt all chs i) ++ tl = flat chC ((all.take i).map (·.2)) ++ chL c ++ (flat chC (chs.drop (i + 1)) ++ tl) := by
  obtain ⟨hlt, hg⟩ := List.getElem?_eq_some_iff.1 h
  rw [chsAt, List.drop_eq_getElem_cons hlt, hg]
  simp [flat, List.flatMap_append]
theorem chsAt_next {all : List (Un × Ch)} {chs : List Ch} {tl : List Value} {i : Nat} {p : Un × Ch} (h : all[i]? = some p) : flat chC ((all.take i).map (·.2)) ++ chL p.2 ++ (flat chC (chs.drop (i + 1)) ++ tl) = flat chC (chsAt all chs (i + 1)) ++ tl := by
  obtain ⟨hlt, hg⟩ := List.getElem?_eq_some_iff.1 h
  rw [chsAt, List.take_succ_eq_append_getElem hlt, hg]
  simp [flat, List.flatMap_append]
theorem pre_len {all : List (Un × Ch)} {i : Nat} (h : i ≤ all.length) : (flat chC ((all.take i).map (·.2))).length = 0 + i * 7 := by
  rw [flat_len (k := 7) (fun c => rfl), List.length_map, List.length_take, Nat.min_eq_left h, Nat.zero_add]
def RetChoose (all : List (Un × Ch)) (bc : Nat) (rest : List Value) (w : World) (e : Ending) (w' : World) : Prop :=
 ∃ A c us, e = .returned (.slice A us.length c) ∧ (rowsR w.heap.size 76 13 unC okT feF (.slice A us.length c) us).F w' ∧ us.map bareU = all.map (·.1) ∧ (∀ u ∈ us, u.al = []) ∧ Box w' bc 115 (flat chC (all.map (·.2)) ++ rest).toArray ∧ w.grownBy w' (some bc)
theorem getD_len {l : List (List UInt8)} (h : ∀ s ∈ l, s.length ≤ 1000000) (i : Nat) : (l.getD i []).length ≤ 1000000 := by
 by_cases hi : i < l.length
 ·rw [List.getD_eq_getElem?_getD, List.getElem?_eq_getElem hi]; exact h _ (List.getElem_mem hi)
 ·rw [List.getD_eq_getElem?_getD, List.getElem?_eq_none (by omega)]; exact Nat.zero_le _
theorem madeCells_size (z : Array Value) (n : Nat) : (madeCells z n).size = n := by simp [madeCells]
theorem us_next {us : List Un} {all : List (Un × Ch)} {i : Nat} {p : Un × Ch} {V : Un} (h : us.map bareU = (all.take i).map (·.1)) (ha : all[i]? = some p) (hV : bareU V = p.1) : (us ++ [V]).map bareU = (all.take (i + 1)).map (·.1) := by
 obtain ⟨hlt, hg⟩ := List.getElem?_eq_some_iff.1 ha
 rw [List.map_append, h, List.take_succ_eq_append_getElem hlt, hg, List.map_append]
 simp [hV]
theorem al_next {us : List Un} {V : Un} (h : ∀ u ∈ us, u.al = []) (hV : V.al = []) : ∀ u ∈ us ++ [V], u.al = [] := fun u hu => by
 rcases List.mem_append.1 hu with hu | hu
 ·exact h u hu
 ·rcases List.mem_singleton.1 hu with rfl; exact hV
theorem Hp.some2 {w0 w : World} {L : List HB} {K : List FK} (H : Hp w0 w L K) (i j : Nat) {x y : HB} (hi : L[i]? = some x) (hj : L[j]? = some y) (hij : i < j) (hf : ((L.zipIdx.all fun p => p.1.fresh || Nat.beq p.2 i || Nat.beq p.2 j)) = true) : Hp w0 w [x, y] K := by
 have hs : [x, y].Sublist L := by
  obtain ⟨hil, hi2⟩ := List.getElem?_eq_some_iff.1 hi
  obtain ⟨hjl, hj2⟩ := List.getElem?_eq_some_iff.1 hj
  have h1 : [y].Sublist (L.drop (i + 1)) := by
   rw [List.singleton_sublist, List.mem_iff_getElem?]
   exact ⟨j - (i + 1), by rw [List.getElem?_drop, show i + 1 + (j - (i + 1)) = j by omega]; exact hj⟩
  have h2 : (x :: L.drop (i + 1)).Sublist L := by
   have : L.drop i = x :: L.drop (i + 1) := by rw [List.drop_eq_getElem_cons hil, hi2]
   rw [← this]; exact List.drop_sublist _ _
  exact (h1.cons_cons x).trans h2
 refine H.some_ hs fun z hz => ?_
 obtain ⟨k, hk⟩ := List.mem_iff_getElem?.1 hz
 have hm : (z, k) ∈ L.zipIdx := List.mem_zipIdx_iff_getElem?.2 hk
 have := List.all_eq_true.1 hf _ hm
 simp only [Bool.or_eq_true] at this
 rcases this with (h | h) | h
 ·exact .inl h
 ·have h := Nat.eq_of_beq_eq_true h; subst h; rw [hi] at hk; cases hk; exact .inr (List.mem_cons_self ..)
 ·have h := Nat.eq_of_beq_eq_true h; subst h; rw [hj] at hk; cases hk; exact .inr (List.mem_cons_of_mem _ (List.mem_cons_self ..))
set_option maxRecDepth 100000 in
set_option maxHeartbeats 4000000 in
theorem sent_any (A : Option Addr) (c i : Nat) (l : List (List UInt8)) (w : World) (h : IsRow 1 strC w A l) :
  Calls Tryz.prog 45 #[.slice A l.length c, .int .i64 (i : Int)] w fun e w' => e = .returned (.string (bstr (l.getD i []))) ∧ Below w.heap.size w w' := by
 have HP := (Hp.start w).keepF (rowF 1 strC A l) h (rowF_ok _ _ _ _) fun k hk => ⟨h.lt k hk, fun x hx => by cases hx⟩
 refine w_enter 13 [(0, (.slice A l.length c)), (1, (ii i))] Tryz.func45 rfl Tryz.ntmps45 (by kernel_rfl) (by kernel_rfl) fun a H => ?_
 refine wp_seq (w_region ?_)
 refine H.ge HP [(4, (.string (bstr ([]))))] [] fun a H => ?_
 refine then_normal (wp_seq (wp_seq (w_region ?_)))
 refine H.ge HP [(5, (ii i)), (6, (.slice A l.length c)), (8, (.bool (decide ((i : Int) < (l.length : Int)))))] [] fun a H => ?_
 refine then_normal ?_
 refine w_if H rfl (fun g8 => ?_) (fun g8 => ?_)
 ·have g8p := of_decide_eq_true g8
  refine wp_seq (w_region ?_)
  refine H.go HP 2 [(9, (.slice A l.length c)), (10, (ii i))] [] fun a H => ?_
  obtain ⟨bu, ou, x, hA, _, _, hx, _, _⟩ := IsRow.get strC_size (HP.fact 0 rfl) (i := i) (by omega)
  refine H.u 11 (.pointer (some ⟨bu, ou + i * 1, none⟩)) (ex_indexA (b := bu) (off := ou) (len := l.length) (cap := c) (e := 9) (k := 1) (ik := .i64) (i := (i : Int)) (m := i) hA (by kernel_rfl) (by kernel_rfl) rfl (by omega) (by kernel_rfl) (by kernel_rfl)) fun a H => H.u 12 (.string (bstr x)) (ex_l1 (by have hh := IsRow.cells strC_size (HP.fact 0 rfl) hA hx 0 _ rfl; rwa [Nat.add_zero] at hh)) fun a H => ?_
  refine H.ge HP [(4, (.string (bstr x)))] [] fun a H => ?_
  refine then_normal (wp_ret (then_ret ?_))
  refine H.ret1 (fn := Tryz.f45) Tryz.results45 (RV.tmp_ (v := (.string (bstr x))) (by kernel_rfl)) ?_
  exact ⟨congrArg (fun s => Ending.returned (.string (bstr s))) (by simp [List.getD, hx]), HP.bl⟩
 have g8p := of_decide_eq_false g8
 refine wp_skip (then_normal (wp_seq (w_region ?_)))
 refine H.ge HP [(4, (.string (bstr ([]))))] [] fun a H => ?_
 refine then_normal (wp_ret ?_)
 refine H.ret1 (fn := Tryz.f45) Tryz.results45 (RV.tmp_ (v := (.string (bstr ([])))) (by kernel_rfl)) ?_
 exact ⟨congrArg (fun s => Ending.returned (.string (bstr s))) (by rw [List.getD_eq_getElem?_getD, List.getElem?_eq_none (by omega)]; rfl), HP.bl⟩
set_option maxRecDepth 100000 in
set_option maxHeartbeats 4000000 in
theorem chooseN_any (fr : Int) (w : World) :
  Calls Tryz.prog 20 #[.pointer none, .int .i64 fr, .slice none 0 0, .slice none 0 0] w fun e w' => e = .returned (.slice none 0 0) ∧ Below w.heap.size w w' := by
 have HP := Hp.start w
 refine w_enter 47 [(0, (.pointer none)), (1, (ii fr)), (2, (.slice none 0 0)), (3, (.slice none 0 0))] Tryz.func20 rfl Tryz.ntmps20 (by kernel_rfl) (by kernel_rfl) fun a H => ?_
 refine wp_seq (w_region ?_)
 refine H.ge HP [(8, (.slice none 0 0))] [] fun a H => ?_
 refine then_normal (wp_seq (wp_seq (w_region ?_)))
 refine H.go HP 1 [(11, (.pointer none))] [] fun a H => ?_
 refine H.call 12 (by kernel_rfl) (Eq.trans (by kernel_rfl : _ = (callFunc 41 #[(.pointer none)]).run Tryz.prog w) (Tryz.call41 _ _)) (absentN_any w) ?_
 rintro e w_1 ⟨rfl, hb⟩
 refine ⟨_, rfl, ?_⟩
 intro a H
 have HP := HP.next hb
 refine wpList_nil (then_normal ?_)
 refine w_ift H rfl ?_
 refine wp_seq (w_region ?_)
 refine H.ge HP [(8, (.slice none 0 0))] [] fun a H => ?_
 refine then_normal (wp_ret (then_ret ?_))
 refine H.ret1 (fn := Tryz.f20) Tryz.results20 (RV.tmp_ (v := (.slice none 0 0)) (by kernel_rfl)) ?_
 exact ⟨rfl, HP.bl⟩
set_option maxRecDepth 100000 in
set_option maxHeartbeats 4000000 in
theorem chooseA_any (bs bc cc : Nat) (lc : Nat) (LA : Option Addr) (lib : List AstA) (hd : Bool) (at_ od fr : Int) (rest : List Value) (chs : List Ch) (AA AB : Option Addr) (ca cb : Nat) (la lb : List (List UInt8)) (w : World) (hn : 0 < chs.length) (hn2 : chs.length ≤ 40) (hat : 0 ≤ at_ ∧ at_ ≤ 9223372036854775807) (hfr : -9223372036854775808 ≤ fr ∧ fr ≤ 9223372036854775807) (hlla : ∀ s ∈ la, s.length ≤ 1000000) (hllb : ∀ s ∈ lb, s.length ≤ 1000000) (hch : ∀ i c, chs[i]? = some c → (-1 ≤ c.index ∧ c.index ≤ 1000000000) ∧ (∀ u, unpackP c.num c.den (la.getD i []) = some u → u.al = []) ∧ ∀ u, unpackP c.num c.den (lb.getD i []) = some u → u.al = []) (hne : bs ≠ bc) (hcl : ¬ libFp LA lib bc) (h2c : 2 ≤ bc) (hca : ¬ rowFp la.length AA bc) (hcb : ¬ rowFp lb.length AB bc) (hL : Laid w) (hlib : IsAsts w LA lib.length lib) (hln : lib.length ≤ maxLen) (hlp : ∀ a ∈ lib, a.pics.length ≤ 2000000) (hS : Box w bs 111 (selL bc chs.length cc LA lib.length lc hd at_ od).toArray) (hC : Box w bc 115 (flat chC chs ++ rest).toArray) (hsa : IsRow 1 strC w AA la) (hsb : IsRow 1 strC w AB lb) :
  Calls Tryz.prog 20 #[.pointer (some ⟨bs, 0, none⟩), .int .i64 fr, .slice AA la.length ca, .slice AB lb.length cb] w fun e w' => RetChoose (allC lib (floorP hd at_ od fr) chs fr la lb) bc rest w e w' := by
 have HP := (((((Hp.own (vs := flat chC chs ++ rest) hC).keepF (rowF 1 strC AB lb) hsb (rowF_ok _ _ _ _) (fun k hk => ⟨hsb.lt k hk, fun x hx => by simp only [List.mem_cons, List.not_mem_nil, or_false] at hx; rcases hx with rfl; exact fun e => hcb (e ▸ hk)⟩)).keepF (rowF 1 strC AA la) hsa (rowF_ok _ _ _ _) (fun k hk => ⟨hsa.lt k hk, fun x hx => by simp only [List.mem_cons, List.not_mem_nil, or_false] at hx; rcases hx with rfl; exact fun e => hca (e ▸ hk)⟩)).keepF (boxK bs 111 (selL bc chs.length cc LA lib.length lc hd at_ od)) hS (boxK_ok _ _ _) (fun k hk => ⟨boxK_lt hS hk, fun x hx => by simp only [List.mem_cons, List.not_mem_nil, or_false] at hx; rcases hx with rfl; exact fun e => hne (hk.symm.trans e)⟩)).keepF (astsK LA lib) hlib (fun _ _ h hk hs => IsAsts.keep h hk hs) (fun k hk => ⟨IsAsts.lt hlib hk, fun x hx => by simp only [List.mem_cons, List.not_mem_nil, or_false] at hx; rcases hx with rfl; exact fun e => hcl (e ▸ hk)⟩)).keepF laidK hL laidK_ok (fun k hk => ⟨hL.lt k hk, fun x hx => by simp only [List.mem_cons, List.not_mem_nil, or_false] at hx; rcases hx with rfl; exact fun e => by rcases hk with hk | hk <;> (have : k = bc := e; omega)⟩)
 refine w_enter 47 [(0, (pt bs 0)), (1, (ii fr)), (2, (.slice AA la.length ca)), (3, (.slice AB lb.length cb))] Tryz.func20 rfl Tryz.ntmps20 (by kernel_rfl) (by kernel_rfl) fun a H => ?_
 refine wp_seq (w_region ?_)
 refine H.ge HP [(8, (.slice none 0 0))] [] fun a H => ?_
 refine then_normal (wp_seq (wp_seq (w_region ?_)))
 refine H.go HP 1 [(11, (pt bs 0))] [] fun a H => ?_
 refine H.call 12 (by kernel_rfl) (Eq.trans (by kernel_rfl : _ = (callFunc 41 #[(pt bs 0)]).run Tryz.prog w) (Tryz.call41 _ _)) (absent_any bs bc chs.length cc _ _ _ _ w (HP.fact 2 rfl) (by omega)) ?_
 rintro e w_1 ⟨rfl, hb⟩
 refine ⟨_, rfl, ?_⟩
 intro a H
 have HP := HP.next hb
 refine wpList_nil (then_normal ?_)
 refine w_iff H rfl ?_
 refine wp_skip (then_normal (wp_seq (w_region ?_)))
 refine H.go HP 3 [(15, (pt bs 0))] [] fun a H => H.u 16 (.slice (some ⟨bc, 0, none⟩) chs.length cc) (ex_l1 (Box.cell (i := 0) (HP.fact 2 rfl : Box _ bs 111 _) rfl)) fun a H => H.go HP 1 [(17, (ii chs.length))] [] fun a H => H.alloc HP 18 (fun b => (.slice (some ⟨b, 0, none⟩) 0 chs.length)) 76 (madeCells ((.agg #[(ii 0), (ii 0), (ii 0), (ii 0), (ii 0), (.bool false), (.string (bstr ([]))), (ii 0), (ii 0), (.string (bstr ([]))), (ii 0), (ii 0), (.slice none 0 0)]) : Value).cells (chs.length * 13)).toList (by kernel_rfl) (fun w => ex_makeC (c := chs.length) (size := 13) (bytes := 136) (z := (.agg #[(ii 0), (ii 0), (ii 0), (ii 0), (ii 0), (.bool false), (.string (bstr ([]))), (ii 0), (ii 0), (.string (bstr ([]))), (ii 0), (ii 0), (.slice none 0 0)])) (e := 76) (kl := .i64) (kc := .i64) (by kernel_rfl) (by kernel_rfl) (by kernel_rfl) (by kernel_rfl) (by omega) (by omega) (by omega)) fun g_ w_2 a H HP => ?_
 have HP : Hp w w_2 [(rowsR w.heap.size 76 13 unC okT feF (.slice (some ⟨g_, 0, none⟩) 0 chs.length) ([] : List Un)), bx bc 115 (flat chC chs ++ rest) false] [laidK, astsK LA lib, boxK bs 111 (selL bc chs.length cc LA lib.length lc hd at_ od), rowF 1 strC AA la, rowF 1 strC AB lb] := HP.rowMade 0 rfl (by simp [madeCells_size]) (by unfold maxLen; omega) _ rfl
 refine H.ge HP [(9, (.slice (some ⟨g_, 0, none⟩) 0 chs.length))] [] fun a H => ?_
 refine then_normal (wp_seq (wp_seq (w_region ?_)))
 refine H.go HP 3 [(21, (pt bs 0))] [] fun a H => H.u 22 (.slice (some ⟨bc, 0, none⟩) chs.length cc) (ex_l1 (Box.cell (i := 0) (HP.fact 2 rfl : Box _ bs 111 _) rfl)) fun a H => ?_
 refine H.ge HP [(23, (ii chs.length)), (24, (ii 0))] [] fun a H => ?_
 refine then_normal (wp_block ?_)
 refine w_loop (fun mm a wv => ∃ (i : Nat), ∃ (us : List Un), ∃ (UA : Option Addr), ∃ (uc : Nat), chs.length - i = mm ∧ Sl 47 [(24, (ii i)), (9, (.slice UA us.length uc)), (0, (pt bs 0)), (1, (ii fr)), (2, (.slice AA la.length ca)), (3, (.slice AB lb.length cb)), (22, (.slice (some ⟨bc, 0, none⟩) chs.length cc)), (23, (ii chs.length))] a ∧ Hp w wv [(rowsR w.heap.size 76 13 unC okT feF (.slice UA us.length uc) us), bx bc 115 (flat chC (chsAt (allC lib (floorP hd at_ od fr) chs fr la lb) chs i) ++ rest) false] [laidK, astsK LA lib, boxK bs 111 (selL bc chs.length cc LA lib.length lc hd at_ od), rowF 1 strC AA la, rowF 1 strC AB lb] ∧ (i ≤ chs.length) ∧ (us.length = i) ∧ (us.map bareU = ((allC lib (floorP hd at_ od fr) chs fr la lb).take i).map (·.1)) ∧ (∀ u ∈ us, u.al = [])) (chs.length - 0) ?_ ?_
 ·exact ⟨0, [], some ⟨g_, 0, none⟩, chs.length, (by omega), H.keep (by kernel_rfl), (by rw [chsAt_zero]; exact HP), (Nat.zero_le _), rfl, rfl, (fun _ h => by cases h)⟩
 rintro mm a w_3 ⟨i, us, UA, uc, hmeas, H, HP, hi, hul, hus, hua⟩
 refine wp_seq (w_region ?_)
 refine H.ge HP [(25, (.bool (decide ((i : Int) < (chs.length : Int)))))] [] fun a H => ?_
 refine then_normal (wp_seq ?_)
 refine w_if H rfl (fun g25 => ?_) (fun g25 => ?_)
 ·have g25p := of_decide_eq_true g25
  refine wp_skip (then_normal (wp_seq (wp_block (wp_seq (w_region ?_)))))
  refine H.ge HP [(10, (ii i))] [] fun a H => ?_
  refine then_normal ?_
  obtain ⟨c, hci⟩ : ∃ c, chs[i]? = some c := ⟨_, List.getElem?_eq_getElem (by omega)⟩
  have hall := allC_get (lib := lib) (fl := (floorP hd at_ od fr)) (fr := fr) (a := la) (b := lb) hci
  have hpl := pre_len (all := (allC lib (floorP hd at_ od fr) chs fr la lb)) (i := i) (by rw [allC_len]; omega)
  obtain ⟨hcx, hca, hcb⟩ := hch i c hci
  have HP := HP.front 0 rfl [(rowsR w.heap.size 76 13 unC okT feF (.slice UA us.length uc) us), bx bc 115 (flat chC (chsAt (allC lib (floorP hd at_ od fr) chs fr la lb) chs i) ++ rest) false] (by kernel_rfl)
  have HP := HP.front 1 rfl [bx bc 115 (flat chC (chsAt (allC lib (floorP hd at_ od fr) chs fr la lb) chs i) ++ rest) false, (rowsR w.heap.size 76 13 unC okT feF (.slice UA us.length uc) us)] (by kernel_rfl)
  refine An.start (fun v => Hp (bareW w) v [] [laidK, astsK LA lib, boxK bs 111 (selL bc chs.length cc LA lib.length lc hd at_ od), rowF 1 strC AA la, rowF 1 strC AB lb]) 19 19 HP wide_follows rfl fun w_4 HP => ?_
  refine An.go H (.inr ((HP.bareN 2))) 14 [0, 1, 2, 3, 4] [(27, (.slice UA us.length uc)), (28, (pt bs 0)), (31, (pt bs 0))] [] fun a H => ?_
  refine An.val H ((HP.bareN 2)) 5 32 (.slice (some ⟨bc, 0, none⟩) chs.length cc) rfl (by kernel_rfl) (by kernel_rfl) (fun _ _ _ h => h) (fun _ hS => ex_l1 (Box.cell (i := 0) (hS.fact 2 rfl : Box _ bs 111 _) rfl)) fun a H => ?_
  refine An.go H (.inr ((HP.bareN 2))) 12 [6] [(33, (ii i))] [] fun a H => ?_
  refine An.pure H (.inr ((HP.bareN 2))) 7 34 (.pointer (some ⟨bc, 0 + i * 7, none⟩)) rfl (by kernel_rfl) (by kernel_rfl) (fun _ _ _ h => h) (fun _ => ex_index (b := bc) (off := 0) (len := chs.length) (cap := cc) (e := 115) (k := 7) (ik := .i64) (i := (i : Int)) (m := i) (by kernel_rfl) (by kernel_rfl) rfl (by omega) (by kernel_rfl) (by kernel_rfl)) fun a H => ?_
  refine An.go H (.inr ((HP.bareN 2))) 6 [8, 9, 10, 12, 13] [(35, (ii fr)), (36, (.slice AA la.length ca)), (37, (ii i)), (39, (.slice AB lb.length cb)), (40, (ii i))] [] fun a H => ?_
  refine An.one 11 (by kernel_rfl) ?_
  refine Op.call H 38 rfl (by kernel_rfl) (Eq.trans (by kernel_rfl : _ = (callFunc 45 #[(.slice AA la.length ca), (ii i)]).run Tryz.prog w_4) (Tryz.call45 _ _)) (sent_any AA ca i la w_4 (HP.fact 3 rfl)) ?_
  rintro e w_5 ⟨rfl, hb⟩
  refine ⟨_, rfl, ?_⟩
  intro a H
  have HP := HP.next hb
  refine ⟨.inr ((HP.bareN 2)), ?_⟩
  refine An.one 14 (by kernel_rfl) ?_
  refine Op.call H 41 rfl (by kernel_rfl) (Eq.trans (by kernel_rfl : _ = (callFunc 45 #[(.slice AB lb.length cb), (ii i)]).run Tryz.prog w_5) (Tryz.call45 _ _)) (sent_any AB cb i lb w_5 (HP.fact 4 rfl)) ?_
  rintro e w_6 ⟨rfl, hb⟩
  refine ⟨_, rfl, ?_⟩
  intro a H
  have HP := HP.next hb
  refine ⟨.inr ((HP.bareN 2)), ?_⟩
  refine An.one 15 (by kernel_rfl) ?_
  refine Op.call H 42 rfl (by kernel_rfl) (Eq.trans (by kernel_rfl : _ = (callFunc 44 #[(pt bs 0), (.pointer (some ⟨bc, 0 + i * 7, none⟩)), (ii fr), (.string (bstr (la.getD i []))), (.string (bstr (lb.getD i [])))]).run Tryz.prog w_6) (Tryz.call44 _ _)) (choose_any bs bc chs.length cc (0 + i * 7) lc LA lib hd at_ od fr (flat chC (((allC lib (floorP hd at_ od fr) chs fr la lb).take i).map (·.2))) (flat chC (chs.drop (i + 1)) ++ rest) c (la.getD i []) (lb.getD i []) w_6 hpl (by omega) hat hfr hcx (getD_len hlla i) (getD_len hllb i) hca hcb hne hcl h2c (HP.fact 0 rfl) (HP.fact 1 rfl) hln hlp (HP.fact 2 rfl) (by have hh := HP.at_ 0 rfl; rw [chsAt_at hci] at hh; exact hh)) ?_
  rintro e w_7 ⟨V, rfl, hVa, hVb, hbx, hgr⟩
  refine ⟨_, rfl, ?_⟩
  intro a H
  have HP := (HP.changed 0 rfl (flat chC (chsAt (allC lib (floorP hd at_ od fr) chs fr la lb) chs (i + 1)) ++ rest) [bx bc 115 (flat chC (chsAt (allC lib (floorP hd at_ od fr) chs fr la lb) chs (i + 1)) ++ rest) false, (rowsR w.heap.size 76 13 unC okT feF (.slice UA us.length uc) us)] (by kernel_rfl) hgr (by rw [← chsAt_next hall]; exact hbx))
  refine ⟨.inr ((HP.bareN 2)), ?_⟩
  refine An.one 16 (by kernel_rfl) ?_
  refine Op.alloc H HP 43 (fun b => (.slice (some ⟨b, 0, none⟩) 1 1)) 76 [(ii V.channel), (ii V.frame), (ii V.version), (ii V.item), (ii V.index), (.bool V.key), (.string (bstr V.data)), (ii V.regions), (ii V.gain), (.string (bstr V.caption)), (ii V.os), (ii V.of), (.slice V.A V.al.length V.c)] rfl (by kernel_rfl) (fun w => by kernel_rfl) fun b_8 w_9 a H HP => ?_
  refine ⟨.inr ((HP.bareN 3)), ?_⟩
  refine An.one 17 (by kernel_rfl) ?_
  have HP := HP.pend0 2 rfl elOk_flat V [bx b_8 76 [(ii V.channel), (ii V.frame), (ii V.version), (ii V.item), (ii V.index), (.bool V.key), (.string (bstr V.data)), (ii V.regions), (ii V.gain), (.string (bstr V.caption)), (ii V.os), (ii V.of), (.slice V.A V.al.length V.c)] true, bx bc 115 (flat chC (chsAt (allC lib (floorP hd at_ od fr) chs fr la lb) chs (i + 1)) ++ rest) false, (rowsP w.heap.size 76 13 unC okT feF (.slice UA us.length uc) us V)] (by kernel_rfl) trivial (fun _ h => h)
  refine Op.push H HP 44 2 0 (v := (.slice UA us.length uc)) (e := 76) (p := V) (l := us) (cs := unC) (ok := okT) (fe := feF) (size := 13) (z := (.agg #[(ii 0), (ii 0), (ii 0), (ii 0), (ii 0), (.bool false), (.string (bstr ([]))), (ii 0), (ii 0), (.string (bstr ([]))), (ii 0), (ii 0), (.slice none 0 0)])) (bytes := 136) (bb := b_8) (tb := 76) (fb := true) rfl (by kernel_rfl) elOk_flat (by kernel_rfl) (by kernel_rfl) rfl (by kernel_rfl) (by kernel_rfl) (by kernel_rfl) (by kernel_rfl) (by kernel_rfl) rfl (by kernel_rfl) (by unfold maxLen; omega) (by omega) fun B_10 c_11 w_12 a H HP => ?_
  have HP : Hp w w_12 [bx b_8 76 [(ii V.channel), (ii V.frame), (ii V.version), (ii V.item), (ii V.index), (.bool V.key), (.string (bstr V.data)), (ii V.regions), (ii V.gain), (.string (bstr V.caption)), (ii V.os), (ii V.of), (.slice V.A V.al.length V.c)] true, bx bc 115 (flat chC (chsAt (allC lib (floorP hd at_ od fr) chs fr la lb) chs (i + 1)) ++ rest) false, (rowsR w.heap.size 76 13 unC okT feF (.slice B_10 (us.length + 1) c_11) (us ++ [V]))] [laidK, astsK LA lib, boxK bs 111 (selL bc chs.length cc LA lib.length lc hd at_ od), rowF 1 strC AA la, rowF 1 strC AB lb] := HP
  refine ⟨.inr ((HP.bareN 3)), ?_⟩
  refine An.go H (.inr ((HP.bareN 3))) 0 [18] [(9, (.slice B_10 (us.length + 1) c_11))] [] fun a H => ?_
  refine An.done (by kernel_rfl) ?_
  refine inb_normal (then_normal (w_region ?_))
  refine H.wi 45 ((i : Int) + 1) fun a H => ?_
  refine H.ge HP [(24, (ii ((i : Int) + 1)))] [] fun a H => ?_
  refine then_normal ?_
  have H := H.as 9 (.slice B_10 ((us ++ [V]).length) c_11) rfl (congrArg (fun n => Value.slice _ n _) (by rw [List.length_append]; rfl))
  have H := H.as 24 (ii ((i + 1 : Nat) : Int)) rfl rfl
  refine ⟨_, ?_, i + 1, us ++ [V], B_10, c_11, rfl, H.keep (by kernel_rfl), (by have hh : Hp w _ [(rowsR w.heap.size 76 13 unC okT feF (.slice B_10 (us.length + 1) c_11) (us ++ [V])), bx bc 115 (flat chC (chsAt (allC lib (floorP hd at_ od fr) chs fr la lb) chs (i + 1)) ++ rest) false] [laidK, astsK LA lib, boxK bs 111 (selL bc chs.length cc LA lib.length lc hd at_ od), rowF 1 strC AA la, rowF 1 strC AB lb] := (HP.some2 1 2 rfl rfl (by decide) (by kernel_rfl)).front 1 rfl [(rowsR w.heap.size 76 13 unC okT feF (.slice B_10 (us.length + 1) c_11) (us ++ [V])), bx bc 115 (flat chC (chsAt (allC lib (floorP hd at_ od fr) chs fr la lb) chs (i + 1)) ++ rest) false] (by kernel_rfl); rw [show us.length + 1 = (us ++ [V]).length from (by rw [List.length_append]; rfl)] at hh; exact hh), (by omega), (by rw [List.length_append, hul]; rfl), (us_next hus hall hVb), (al_next hua hVa)⟩
  omega
 have g25p := of_decide_eq_false g25
 refine wp_exit (then_exit (then_exit ?_))
 refine w_exit_here ?_
 refine then_normal (wp_seq (w_region ?_))
 refine H.ge HP [(8, (.slice UA us.length uc))] [] fun a H => ?_
 refine then_normal (wp_ret ?_)
 refine H.ret1 (fn := Tryz.f20) Tryz.results20 (RV.tmp_ (v := (.slice UA us.length uc)) (by kernel_rfl)) ?_
 have hie : i = chs.length := by omega
 subst hie
 exact ⟨UA, uc, us, rfl, HP.held 0 rfl, by rw [hus, List.take_of_length_le (by rw [allC_len]; omega)], hua, by have hh := HP.at_ 1 rfl; rw [chsAt_end (allC_len ..)] at hh; exact hh, HP.only bc (by intro x hx; simp only [List.mem_cons, List.not_mem_nil, or_false] at hx; rcases hx with rfl | rfl; exact .inl rfl; exact .inr (fun k hk => hk))⟩
abbrev msgC (tto fr n : Int) : Array Value := #[(.int .i64 3), (.int .i64 tto), (.int .i64 0), (.int .i64 fr), (.int .i64 n), (.int .i64 0), (.int .i64 0), (.int .i64 0), (.int .i64 0), (.int .i64 0), (.int .i64 0), (.int .i64 0), (.int .i64 0), (.int .i64 0), (.int .i64 0), (.int .i64 0), (.int .i64 0), (.slice none 0 0), (.int .i64 0), (.int .i64 0), (.int .i64 0), (.int .i64 0), (.int .i64 0), (.int .i64 0), (.int .i64 0), (.int .i64 0), (.int .i64 0), (.int .i64 0), (.int .i64 0), (.int .i64 0), (.string (bstr ([])))]
def recvP (s : Bool × Int × Int) (fr n : Int) : Bool × Int × Int := if 0 ≤ fr ∧ 0 ≤ n ∧ (s.1 = false ∨ s.2.1 < fr) then (true, fr, n) else s
theorem recv_new {hd : Bool} {at_ od fr n : Int} (h1 : 0 ≤ fr) (h2 : 0 ≤ n) (h : hd = false ∨ at_ < fr) : recvP (hd, at_, od) fr n = (true, fr, n) := if_pos ⟨h1, h2, h⟩
theorem recv_old {hd : Bool} {at_ od fr n : Int} (h : fr < 0 ∨ n < 0 ∨ (hd = true ∧ fr ≤ at_)) : recvP (hd, at_, od) fr n = (hd, at_, od) := by
 refine if_neg fun hh => ?_
 obtain ⟨h1, h2, h3⟩ := hh
 rcases h with h | h | ⟨h, h'⟩
 ·omega
 ·omega
 ·rcases h3 with h3 | h3
  ·simp only at h3; rw [h] at h3; cases h3
  ·simp only at h3; omega
def fullP (ch : Int) : List Ch → Int
 | [] => 0
 | c :: l => if c.number = ch then c.full else fullP ch l
set_option maxRecDepth 100000 in
set_option maxHeartbeats 4000000 in
theorem receiveN_any (tto fr n : Int) (w : World) :
  Calls Tryz.prog 16 #[.pointer none, .agg (msgC tto fr n)] w fun e w' => e = .returned (.tuple #[]) ∧ Below w.heap.size w w' := by
 have HP := Hp.start w
 refine w_enter 48 [(0, (.pointer none)), (1, (.agg #[(ii 3), (ii tto), (ii 0), (ii fr), (ii n), (ii 0), (ii 0), (ii 0), (ii 0), (ii 0), (ii 0), (ii 0), (ii 0), (ii 0), (ii 0), (ii 0), (ii 0), (.slice none 0 0), (ii 0), (ii 0), (ii 0), (ii 0), (ii 0), (ii 0), (ii 0), (ii 0), (ii 0), (ii 0), (ii 0), (ii 0), (.string (bstr ([])))]))] Tryz.func16 rfl Tryz.ntmps16 (by kernel_rfl) (by kernel_rfl) fun a H => ?_
 refine wp_seq (w_region ?_)
 refine H.alloc HP 3 (fun b => (pt b 0)) 47 [(ii 3), (ii tto), (ii 0), (ii fr), (ii n), (ii 0), (ii 0), (ii 0), (ii 0), (ii 0), (ii 0), (ii 0), (ii 0), (ii 0), (ii 0), (ii 0), (ii 0), (.slice none 0 0), (ii 0), (ii 0), (ii 0), (ii 0), (ii 0), (ii 0), (ii 0), (ii 0), (ii 0), (ii 0), (ii 0), (ii 0), (.string (bstr ([])))] (by kernel_rfl) (fun w => by kernel_rfl) fun b_1 w_2 a H HP => ?_
 refine wpList_nil (then_normal (wp_seq (wp_seq (w_region ?_))))
 refine H.go HP 1 [(4, (.pointer none))] [] fun a H => ?_
 refine H.call 5 (by kernel_rfl) (Eq.trans (by kernel_rfl : _ = (callFunc 41 #[(.pointer none)]).run Tryz.prog w_2) (Tryz.call41 _ _)) (absentN_any w_2) ?_
 rintro e w_3 ⟨rfl, hb⟩
 refine ⟨_, rfl, ?_⟩
 intro a H
 have HP := HP.next hb
 refine H.ge HP [(6, (.bool true)), (20, (.bool true))] [] fun a H => ?_
 refine then_normal ?_
 refine w_ift H rfl ?_
 refine wp_ret (then_ret ?_)
 refine H.ret0 (fn := Tryz.f16) Tryz.results16  ?_
 exact ⟨rfl, HP.bl⟩
set_option maxRecDepth 100000 in
set_option maxHeartbeats 4000000 in
theorem receive_any (bs bc cn cc : Nat) (LA : Option Addr) (lln lc : Nat) (hd : Bool) (at_ od tto fr n : Int) (w : World) (hS : Box w bs 111 ([Value.slice (some ⟨bc, 0, none⟩) cn cc, .slice LA lln lc, .bool hd, .int .i64 at_, .int .i64 od]).toArray) (hn : 0 < cn) :
  Calls Tryz.prog 16 #[.pointer (some ⟨bs, 0, none⟩), .agg (msgC tto fr n)] w fun e w' => e = .returned (.tuple #[]) ∧ Box w' bs 111 ([Value.slice (some ⟨bc, 0, none⟩) cn cc, .slice LA lln lc, .bool (recvP (hd, at_, od) fr n).1, .int .i64 (recvP (hd, at_, od) fr n).2.1, .int .i64 (recvP (hd, at_, od) fr n).2.2]).toArray ∧ w.grownBy w' (some bs) := by
 have HP := Hp.own (vs := [Value.slice (some ⟨bc, 0, none⟩) cn cc, .slice LA lln lc, .bool hd, .int .i64 at_, .int .i64 od]) hS
 refine w_enter 48 [(0, (pt bs 0)), (1, (.agg #[(ii 3), (ii tto), (ii 0), (ii fr), (ii n), (ii 0), (ii 0), (ii 0), (ii 0), (ii 0), (ii 0), (ii 0), (ii 0), (ii 0), (ii 0), (ii 0), (ii 0), (.slice none 0 0), (ii 0), (ii 0), (ii 0), (ii 0), (ii 0), (ii 0), (ii 0), (ii 0), (ii 0), (ii 0), (ii 0), (ii 0), (.string (bstr ([])))]))] Tryz.func16 rfl Tryz.ntmps16 (by kernel_rfl) (by kernel_rfl) fun a H => ?_
 refine wp_seq (w_region ?_)
 refine H.alloc HP 3 (fun b => (pt b 0)) 47 [(ii 3), (ii tto), (ii 0), (ii fr), (ii n), (ii 0), (ii 0), (ii 0), (ii 0), (ii 0), (ii 0), (ii 0), (ii 0), (ii 0), (ii 0), (ii 0), (ii 0), (.slice none 0 0), (ii 0), (ii 0), (ii 0), (ii 0), (ii 0), (ii 0), (ii 0), (ii 0), (ii 0), (ii 0), (ii 0), (ii 0), (.string (bstr ([])))] (by kernel_rfl) (fun w => by kernel_rfl) fun b_1 w_2 a H HP => ?_
 refine wpList_nil (then_normal (wp_seq (wp_seq (w_region ?_))))
 refine H.go HP 1 [(4, (pt bs 0))] [] fun a H => ?_
 refine H.call 5 (by kernel_rfl) (Eq.trans (by kernel_rfl : _ = (callFunc 41 #[(pt bs 0)]).run Tryz.prog w_2) (Tryz.call41 _ _)) (absent_any bs bc cn cc _ _ _ _ w_2 (HP.at_ 1 rfl) hn) ?_
 rintro e w_3 ⟨rfl, hb⟩
 refine ⟨_, rfl, ?_⟩
 intro a H
 have HP := HP.next hb
 refine H.go HP 11 [(6, (.bool false)), (16, (.bool (decide (fr < 0))))] [0, 0] fun a H => ?_
 refine H.split 16 rfl (fun g16 H => ?_) (fun g16 H => ?_)
 ·have g16p := of_decide_eq_true g16
  refine H.ge HP [(20, (.bool true))] [] fun a H => ?_
  refine then_normal ?_
  refine w_ift H rfl ?_
  refine wp_ret (then_ret ?_)
  refine H.ret0 (fn := Tryz.f16) Tryz.results16  ?_
  have HP : Hp w w_3 [bx b_1 47 [(ii 3), (ii tto), (ii 0), (ii fr), (ii n), (ii 0), (ii 0), (ii 0), (ii 0), (ii 0), (ii 0), (ii 0), (ii 0), (ii 0), (ii 0), (ii 0), (ii 0), (.slice none 0 0), (ii 0), (ii 0), (ii 0), (ii 0), (ii 0), (ii 0), (ii 0), (ii 0), (ii 0), (ii 0), (ii 0), (ii 0), (.string (bstr ([])))] true, bx bs 111 [(.slice (some ⟨bc, 0, none⟩) cn cc), (.slice LA lln lc), (.bool hd), (ii at_), (ii od)] false] [] := HP
  exact ⟨rfl, by rw [recv_old (.inl (by omega))]; exact HP.at_ 1 rfl, HP.only bs (by intro x hx; simp only [List.mem_cons, List.not_mem_nil, or_false] at hx; rcases hx with rfl | rfl; exact .inl rfl; exact .inr (fun k hk => hk))⟩
 have g16p := of_decide_eq_false g16
 refine H.ge HP [(20, (.bool (decide (n < 0))))] [0] fun a H => ?_
 refine then_normal ?_
 refine w_if H rfl (fun g20 => ?_) (fun g20 => ?_)
 ·have g20p := of_decide_eq_true g20
  refine wp_ret (then_ret ?_)
  refine H.ret0 (fn := Tryz.f16) Tryz.results16  ?_
  have HP : Hp w w_3 [bx b_1 47 [(ii 3), (ii tto), (ii 0), (ii fr), (ii n), (ii 0), (ii 0), (ii 0), (ii 0), (ii 0), (ii 0), (ii 0), (ii 0), (ii 0), (ii 0), (ii 0), (ii 0), (.slice none 0 0), (ii 0), (ii 0), (ii 0), (ii 0), (ii 0), (ii 0), (ii 0), (ii 0), (ii 0), (ii 0), (ii 0), (ii 0), (.string (bstr ([])))] true, bx bs 111 [(.slice (some ⟨bc, 0, none⟩) cn cc), (.slice LA lln lc), (.bool hd), (ii at_), (ii od)] false] [] := HP
  exact ⟨rfl, by rw [recv_old (.inr (.inl (by omega)))]; exact HP.at_ 1 rfl, HP.only bs (by intro x hx; simp only [List.mem_cons, List.not_mem_nil, or_false] at hx; rcases hx with rfl | rfl; exact .inl rfl; exact .inr (fun k hk => hk))⟩
 have g20p := of_decide_eq_false g20
 refine wp_skip (then_normal (wp_seq ?_))
 refine An.start (fun v => Hp w v [bx b_1 47 [(ii 3), (ii tto), (ii 0), (ii fr), (ii n), (ii 0), (ii 0), (ii 0), (ii 0), (ii 0), (ii 0), (ii 0), (ii 0), (ii 0), (ii 0), (ii 0), (ii 0), (.slice none 0 0), (ii 0), (ii 0), (ii 0), (ii 0), (ii 0), (ii 0), (ii 0), (ii 0), (ii 0), (ii 0), (ii 0), (ii 0), (.string (bstr ([])))] true, bx bs 111 [(.slice (some ⟨bc, 0, none⟩) cn cc), (.slice LA lln lc), (.bool hd), (ii at_), (ii od)] false] []) 14 14 HP wide_follows rfl fun w_4 HP => ?_
 refine An.go H (.inr (HP)) 8 [0, 1, 2, 3, 4, 5] [(26, (.bool (!hd)))] [1] fun a H => ?_
 refine H.split 26 rfl (fun g26 H => ?_) (fun g26 H => ?_)
 ·have g26p := not_is_true g26
  refine An.go H (.inr (HP)) 0 [6, 7, 8, 9, 10, 11, 12, 13] [(34, (.bool true))] [] fun a H => ?_
  refine An.done (by kernel_rfl) ?_
  refine then_normal ?_
  refine w_ift H rfl ?_
  have HP := HP.front 1 rfl [bx bs 111 [(.slice (some ⟨bc, 0, none⟩) cn cc), (.slice LA lln lc), (.bool hd), (ii at_), (ii od)] false, bx b_1 47 [(ii 3), (ii tto), (ii 0), (ii fr), (ii n), (ii 0), (ii 0), (ii 0), (ii 0), (ii 0), (ii 0), (ii 0), (ii 0), (ii 0), (ii 0), (ii 0), (ii 0), (.slice none 0 0), (ii 0), (ii 0), (ii 0), (ii 0), (ii 0), (ii 0), (ii 0), (ii 0), (ii 0), (ii 0), (ii 0), (ii 0), (.string (bstr ([])))] true] (by kernel_rfl)
  refine An.start (fun v => Hp (bareW w) v [bx b_1 47 [(ii 3), (ii tto), (ii 0), (ii fr), (ii n), (ii 0), (ii 0), (ii 0), (ii 0), (ii 0), (ii 0), (ii 0), (ii 0), (ii 0), (ii 0), (ii 0), (ii 0), (.slice none 0 0), (ii 0), (ii 0), (ii 0), (ii 0), (ii 0), (ii 0), (ii 0), (ii 0), (ii 0), (ii 0), (ii 0), (ii 0), (.string (bstr ([])))] true] []) 15 16 HP wide_follows rfl fun w_5 HP => ?_
  refine An.go H (.inr ((HP.bareN 1))) 7 [0, 1, 2, 3, 4, 5, 6, 7, 8] [(36, (pt bs 0)), (37, (pt bs 0)), (39, (ii fr)), (41, (ii n)), (43, (pt bs 2))] [0, 0] fun a H => ?_
  refine An.one 9 (by kernel_rfl) ?_
  refine Op.sh H HP 0 2 (.bool true) rfl rfl fun w_6 a H HP => ?_
  refine ⟨.inr ((HP.bareN 1)), ?_⟩
  refine An.go H (.inr ((HP.bareN 1))) 4 [10, 11] [(45, (pt bs 3))] [] fun a H => ?_
  refine An.one 12 (by kernel_rfl) ?_
  refine Op.sh H HP 0 3 (ii fr) rfl rfl fun w_7 a H HP => ?_
  refine ⟨.inr ((HP.bareN 1)), ?_⟩
  refine An.go H (.inr ((HP.bareN 1))) 1 [13, 14] [(47, (pt bs 4))] [] fun a H => ?_
  refine An.one 15 (by kernel_rfl) ?_
  refine Op.sh H HP 0 4 (ii n) rfl rfl fun w_8 a H HP => ?_
  refine ⟨.inl (by kernel_rfl), ?_⟩
  refine An.done (by kernel_rfl) ?_
  refine H.end0 (fn := Tryz.f16) Tryz.results16  ?_
  have HP : Hp w w_8 [bx bs 111 [(.slice (some ⟨bc, 0, none⟩) cn cc), (.slice LA lln lc), (.bool true), (ii fr), (ii n)] false, bx b_1 47 [(ii 3), (ii tto), (ii 0), (ii fr), (ii n), (ii 0), (ii 0), (ii 0), (ii 0), (ii 0), (ii 0), (ii 0), (ii 0), (ii 0), (ii 0), (ii 0), (ii 0), (.slice none 0 0), (ii 0), (ii 0), (ii 0), (ii 0), (ii 0), (ii 0), (ii 0), (ii 0), (ii 0), (ii 0), (ii 0), (ii 0), (.string (bstr ([])))] true] [] := HP
  exact ⟨rfl, by rw [recv_new (by omega) (by omega) (.inl g26p)]; exact HP.at_ 0 rfl, HP.only bs (by intro x hx; simp only [List.mem_cons, List.not_mem_nil, or_false] at hx; rcases hx with rfl | rfl; exact .inr (fun k hk => hk); exact .inl rfl)⟩
 have g26p := not_is_false g26
 refine An.go H (.inr (HP)) 0 [6, 7, 8, 9, 10, 11, 12, 13] [(34, (.bool (decide (at_ < fr))))] [1, 0] fun a H => ?_
 refine An.done (by kernel_rfl) ?_
 refine then_normal ?_
 refine w_if H rfl (fun g34 => ?_) (fun g34 => ?_)
 ·have g34p := of_decide_eq_true g34
  have HP := HP.front 1 rfl [bx bs 111 [(.slice (some ⟨bc, 0, none⟩) cn cc), (.slice LA lln lc), (.bool hd), (ii at_), (ii od)] false, bx b_1 47 [(ii 3), (ii tto), (ii 0), (ii fr), (ii n), (ii 0), (ii 0), (ii 0), (ii 0), (ii 0), (ii 0), (ii 0), (ii 0), (ii 0), (ii 0), (ii 0), (ii 0), (.slice none 0 0), (ii 0), (ii 0), (ii 0), (ii 0), (ii 0), (ii 0), (ii 0), (ii 0), (ii 0), (ii 0), (ii 0), (ii 0), (.string (bstr ([])))] true] (by kernel_rfl)
  refine An.start (fun v => Hp (bareW w) v [bx b_1 47 [(ii 3), (ii tto), (ii 0), (ii fr), (ii n), (ii 0), (ii 0), (ii 0), (ii 0), (ii 0), (ii 0), (ii 0), (ii 0), (ii 0), (ii 0), (ii 0), (ii 0), (.slice none 0 0), (ii 0), (ii 0), (ii 0), (ii 0), (ii 0), (ii 0), (ii 0), (ii 0), (ii 0), (ii 0), (ii 0), (ii 0), (.string (bstr ([])))] true] []) 15 16 HP wide_follows rfl fun w_9 HP => ?_
  refine An.go H (.inr ((HP.bareN 1))) 7 [0, 1, 2, 3, 4, 5, 6, 7, 8] [(36, (pt bs 0)), (37, (pt bs 0)), (39, (ii fr)), (41, (ii n)), (43, (pt bs 2))] [0, 0] fun a H => ?_
  refine An.one 9 (by kernel_rfl) ?_
  refine Op.sh H HP 0 2 (.bool true) rfl rfl fun w_10 a H HP => ?_
  refine ⟨.inr ((HP.bareN 1)), ?_⟩
  refine An.go H (.inr ((HP.bareN 1))) 4 [10, 11] [(45, (pt bs 3))] [] fun a H => ?_
  refine An.one 12 (by kernel_rfl) ?_
  refine Op.sh H HP 0 3 (ii fr) rfl rfl fun w_11 a H HP => ?_
  refine ⟨.inr ((HP.bareN 1)), ?_⟩
  refine An.go H (.inr ((HP.bareN 1))) 1 [13, 14] [(47, (pt bs 4))] [] fun a H => ?_
  refine An.one 15 (by kernel_rfl) ?_
  refine Op.sh H HP 0 4 (ii n) rfl rfl fun w_12 a H HP => ?_
  refine ⟨.inl (by kernel_rfl), ?_⟩
  refine An.done (by kernel_rfl) ?_
  refine H.end0 (fn := Tryz.f16) Tryz.results16  ?_
  have HP : Hp w w_12 [bx bs 111 [(.slice (some ⟨bc, 0, none⟩) cn cc), (.slice LA lln lc), (.bool true), (ii fr), (ii n)] false, bx b_1 47 [(ii 3), (ii tto), (ii 0), (ii fr), (ii n), (ii 0), (ii 0), (ii 0), (ii 0), (ii 0), (ii 0), (ii 0), (ii 0), (ii 0), (ii 0), (ii 0), (ii 0), (.slice none 0 0), (ii 0), (ii 0), (ii 0), (ii 0), (ii 0), (ii 0), (ii 0), (ii 0), (ii 0), (ii 0), (ii 0), (ii 0), (.string (bstr ([])))] true] [] := HP
  exact ⟨rfl, by rw [recv_new (by omega) (by omega) (.inr g34p)]; exact HP.at_ 0 rfl, HP.only bs (by intro x hx; simp only [List.mem_cons, List.not_mem_nil, or_false] at hx; rcases hx with rfl | rfl; exact .inr (fun k hk => hk); exact .inl rfl)⟩
 have g34p := of_decide_eq_false g34
 refine wp_skip ?_
 refine H.end0 (fn := Tryz.f16) Tryz.results16  ?_
 have HP : Hp w w_4 [bx b_1 47 [(ii 3), (ii tto), (ii 0), (ii fr), (ii n), (ii 0), (ii 0), (ii 0), (ii 0), (ii 0), (ii 0), (ii 0), (ii 0), (ii 0), (ii 0), (ii 0), (ii 0), (.slice none 0 0), (ii 0), (ii 0), (ii 0), (ii 0), (ii 0), (ii 0), (ii 0), (ii 0), (ii 0), (ii 0), (ii 0), (ii 0), (.string (bstr ([])))] true, bx bs 111 [(.slice (some ⟨bc, 0, none⟩) cn cc), (.slice LA lln lc), (.bool hd), (ii at_), (ii od)] false] [] := HP
 exact ⟨rfl, by rw [recv_old (.inr (.inr ⟨by simpa using g26p, by omega⟩))]; exact HP.at_ 1 rfl, HP.only bs (by intro x hx; simp only [List.mem_cons, List.not_mem_nil, or_false] at hx; rcases hx with rfl | rfl; exact .inl rfl; exact .inr (fun k hk => hk))⟩
set_option maxRecDepth 100000 in
set_option maxHeartbeats 4000000 in
theorem fullN_any (ch : Int) (w : World) :
  Calls Tryz.prog 22 #[.pointer none, .int .i64 ch] w fun e w' => e = .returned (ii 0) ∧ Below w.heap.size w w' := by
 have HP := Hp.start w
 refine w_enter 26 [(0, (.pointer none)), (1, (ii ch))] Tryz.func22 rfl Tryz.ntmps22 (by kernel_rfl) (by kernel_rfl) fun a H => ?_
 refine wp_seq (w_region ?_)
 refine H.ge HP [(4, (ii 0))] [] fun a H => ?_
 refine then_normal (wp_seq (wp_seq (w_region ?_)))
 refine H.go HP 1 [(7, (.pointer none))] [] fun a H => ?_
 refine H.call 8 (by kernel_rfl) (Eq.trans (by kernel_rfl : _ = (callFunc 41 #[(.pointer none)]).run Tryz.prog w) (Tryz.call41 _ _)) (absentN_any w) ?_
 rintro e w_1 ⟨rfl, hb⟩
 refine ⟨_, rfl, ?_⟩
 intro a H
 have HP := HP.next hb
 refine wpList_nil (then_normal ?_)
 refine w_ift H rfl ?_
 refine wp_seq (w_region ?_)
 refine H.ge HP [(4, (ii 0))] [] fun a H => ?_
 refine then_normal (wp_ret (then_ret ?_))
 refine H.ret1 (fn := Tryz.f22) Tryz.results22 (RV.tmp_ (v := (ii 0)) (by kernel_rfl)) ?_
 exact ⟨rfl, HP.bl⟩
set_option maxRecDepth 100000 in
set_option maxHeartbeats 4000000 in
theorem full_any (bs bc cc : Nat) (v1 v2 v3 v4 : Value) (chs : List Ch) (rest : List Value) (ch : Int) (w : World) (hn : 0 < chs.length) (hn2 : chs.length ≤ 40) (hS : Box w bs 111 [Value.slice (some ⟨bc, 0, none⟩) chs.length cc, v1, v2, v3, v4].toArray) (hC : Box w bc 115 (flat chC chs ++ rest).toArray) :
  Calls Tryz.prog 22 #[.pointer (some ⟨bs, 0, none⟩), .int .i64 ch] w fun e w' => e = .returned (ii (fullP ch chs)) ∧ Below w.heap.size w w' := by
 have HP := ((Hp.start w).keepF (boxK bc 115 (flat chC chs ++ rest)) hC (boxK_ok _ _ _) (fun k hk => ⟨boxK_lt hC hk, fun x hx => by cases hx⟩)).keepF (boxK bs 111 [Value.slice (some ⟨bc, 0, none⟩) chs.length cc, v1, v2, v3, v4]) hS (boxK_ok _ _ _) (fun k hk => ⟨boxK_lt hS hk, fun x hx => by cases hx⟩)
 refine w_enter 26 [(0, (pt bs 0)), (1, (ii ch))] Tryz.func22 rfl Tryz.ntmps22 (by kernel_rfl) (by kernel_rfl) fun a H => ?_
 refine wp_seq (w_region ?_)
 refine H.ge HP [(4, (ii 0))] [] fun a H => ?_
 refine then_normal (wp_seq (wp_seq (w_region ?_)))
 refine H.go HP 1 [(7, (pt bs 0))] [] fun a H => ?_
 refine H.call 8 (by kernel_rfl) (Eq.trans (by kernel_rfl : _ = (callFunc 41 #[(pt bs 0)]).run Tryz.prog w) (Tryz.call41 _ _)) (absent_any bs bc chs.length cc _ _ _ _ w (HP.fact 0 rfl) hn) ?_
 rintro e w_1 ⟨rfl, hb⟩
 refine ⟨_, rfl, ?_⟩
 intro a H
 have HP := HP.next hb
 refine wpList_nil (then_normal ?_)
 refine w_iff H rfl ?_
 refine wp_skip (then_normal (wp_seq (wp_seq (w_region ?_))))
 refine H.go HP 3 [(11, (pt bs 0))] [] fun a H => H.u 12 (.slice (some ⟨bc, 0, none⟩) chs.length cc) (ex_l1 (Box.cell (i := 0) (HP.fact 0 rfl : Box _ bs 111 _) rfl)) fun a H => ?_
 refine H.ge HP [(13, (ii chs.length)), (14, (ii 0))] [] fun a H => ?_
 refine then_normal (wp_block ?_)
 refine w_loop (fun mm a wv => ∃ (i : Nat), chs.length - i = mm ∧ Sl 26 [(14, (ii i)), (1, (ii ch)), (12, (.slice (some ⟨bc, 0, none⟩) chs.length cc)), (13, (ii chs.length))] a ∧ Hp w wv [] [boxK bs 111 [Value.slice (some ⟨bc, 0, none⟩) chs.length cc, v1, v2, v3, v4], boxK bc 115 (flat chC chs ++ rest)] ∧ (i ≤ chs.length) ∧ (fullP ch chs = fullP ch (chs.drop i))) (chs.length - 0) ?_ ?_
 ·exact ⟨0, (by omega), H.keep (by kernel_rfl), HP, (Nat.zero_le _), rfl⟩
 rintro mm a w_2 ⟨i, hmeas, H, HP, hi, hfu⟩
 refine wp_seq (w_region ?_)
 refine H.ge HP [(15, (.bool (decide ((i : Int) < (chs.length : Int)))))] [] fun a H => ?_
 refine then_normal (wp_seq ?_)
 refine w_if H rfl (fun g15 => ?_) (fun g15 => ?_)
 ·have g15p := of_decide_eq_true g15
  refine wp_skip (then_normal (wp_seq (wp_block (wp_seq (w_region ?_)))))
  obtain ⟨bu, ou, x, hA, _, hdx, hx, _, _⟩ := IsRow.get chC_size (IsRow.ofBox chC_size (HP.fact 1 rfl : Box _ bc 115 (flat chC chs ++ rest).toArray)) (i := i) (by omega)
  refine H.u 16 (.pointer (some ⟨bu, ou + i * 7, none⟩)) (ex_indexA (b := bu) (off := ou) (len := chs.length) (cap := cc) (e := 115) (k := 7) (ik := .i64) (i := (i : Int)) (m := i) hA (by kernel_rfl) (by kernel_rfl) rfl (by omega) (by kernel_rfl) (by kernel_rfl)) fun a H => H.u 17 (.agg #[(ii x.item), (ii x.index), (ii x.full), (ii x.taken), (ii x.number), (ii x.num), (ii x.den)]) (ex_loadN (b := bu) (off := ou + i * 7) (vs := [(ii x.item), (ii x.index), (ii x.full), (ii x.taken), (ii x.number), (ii x.num), (ii x.den)]) (by kernel_rfl) (by kernel_rfl) (by kernel_rfl) rfl (IsRow.cells chC_size (IsRow.ofBox chC_size (HP.fact 1 rfl : Box _ bc 115 (flat chC chs ++ rest).toArray)) hA hx)) fun a H => H.alloc HP 6 (fun b => (pt b 0)) 115 [(ii 0), (ii 0), (ii 0), (ii 0), (ii 0), (ii 0), (ii 0)] (by kernel_rfl) (fun w => by kernel_rfl) fun b_3 w_4 a H HP => H.sh HP 0 0 (.agg #[(ii x.item), (ii x.index), (ii x.full), (ii x.taken), (ii x.number), (ii x.num), (ii x.den)]) rfl fun w_5 a H HP => ?_
  refine wpList_nil (then_normal (wp_seq (w_region ?_)))
  refine H.ge HP [(21, (.bool (x.number == ch)))] [0] fun a H => ?_
  refine then_normal ?_
  refine w_if H rfl (fun g21 => ?_) (fun g21 => ?_)
  ·have g21p := eq_of_beq g21
   refine wp_seq (w_region ?_)
   refine H.ge HP [(4, (ii x.full))] [0] fun a H => ?_
   refine then_normal (wp_ret (inb_ret (then_ret (then_ret (inb_ret (then_ret ?_))))))
   refine H.ret1 (fn := Tryz.f22) Tryz.results22 (RV.tmp_ (v := (ii x.full)) (by kernel_rfl)) ?_
   exact ⟨by rw [hfu, hdx, fullP, if_pos g21p], HP.bl⟩
  have g21p := ne_of_beq_false g21
  refine wp_skip (inb_normal (then_normal (w_region ?_)))
  refine H.wi 25 ((i : Int) + 1) fun a H => ?_
  refine H.ge HP [(14, (ii ((i : Int) + 1)))] [] fun a H => ?_
  refine then_normal ?_
  have H := H.as 14 (ii ((i + 1 : Nat) : Int)) rfl rfl
  refine ⟨_, ?_, i + 1, rfl, H.keep (by kernel_rfl), (HP.tail rfl), (by omega), (by rw [hfu, hdx, fullP, if_neg g21p])⟩
  omega
 have g15p := of_decide_eq_false g15
 refine wp_exit (then_exit (then_exit ?_))
 refine w_exit_here ?_
 refine then_normal (wp_seq (w_region ?_))
 refine H.ge HP [(4, (ii 0))] [] fun a H => ?_
 refine then_normal (wp_ret ?_)
 refine H.ret1 (fn := Tryz.f22) Tryz.results22 (RV.tmp_ (v := (ii 0)) (by kernel_rfl)) ?_
 exact ⟨by rw [hfu, List.drop_of_length_le (by omega)]; rfl, HP.bl⟩
structure Itm where
  id : Int
  kind : Int
  frames : Int
  sponsor : Int
  rating : Int
structure Bkg where
  id : Int
  item : Int
  region : Int
  from_ : Int
  to_ : Int
  until_ : Int
  price : Int
structure Cls where
  kind : Int
  item : Int
  from_ : Int
  to_ : Int
  regions : Int
  n : Int
  a : Int
  b : Int
structure Ent where
  id : Int
  item : Int
  frames : Int
  earliest : Int
  latest : Int
  booking : Int
  A : Option Addr
  c : Nat
  al : Alts
structure Pln where
  channel : Int
  num : Int
  den : Int
  offset : Int
  SA : Option Addr
  sc : Nat
  sh : Alts
  epoch : Int
  regions : Int
  length : Int
  fill : Int
  IA : Option Addr
  ic : Nat
  its : List Itm
  EA : Option Addr
  ec : Nat
  es : List Ent
  BA : Option Addr
  bc : Nat
  bs : List Bkg
  CA : Option Addr
  cc : Nat
  cs : List Cls
def altC (a : Int × Int) : Array Value := #[.int .i64 a.1, .int .i64 a.2]
def itC (x : Itm) : Array Value := #[.int .i64 x.id, .int .i64 x.kind, .int .i64 x.frames, .int .i64 x.sponsor, .int .i64 x.rating]
def bkC (x : Bkg) : Array Value := #[.int .i64 x.id, .int .i64 x.item, .int .i64 x.region, .int .i64 x.from_, .int .i64 x.to_, .int .i64 x.until_, .int .i64 x.price]
def clC (x : Cls) : Array Value := #[.int .i64 x.kind, .int .i64 x.item, .int .i64 x.from_, .int .i64 x.to_, .int .i64 x.regions, .int .i64 x.n, .int .i64 x.a, .int .i64 x.b]
def enC (x : Ent) : Array Value := #[.int .i64 x.id, .int .i64 x.item, .int .i64 x.frames, .int .i64 x.earliest, .int .i64 x.latest, .int .i64 x.booking, .slice x.A x.al.length x.c]
abbrev IsAl (w : World) (A : Option Addr) (l : Alts) : Prop := IsRow 2 altC w A l
abbrev IsIt (w : World) (A : Option Addr) (l : List Itm) : Prop := IsRow 5 itC w A l
abbrev IsBk (w : World) (A : Option Addr) (l : List Bkg) : Prop := IsRow 7 bkC w A l
abbrev IsCl (w : World) (A : Option Addr) (l : List Cls) : Prop := IsRow 8 clC w A l
theorem itC_size (e : Itm) : (itC e).size = 5 := rfl
theorem bkC_size (e : Bkg) : (bkC e).size = 7 := rfl
def Ent.ok (e : Ent) (w : World) : Prop := IsAl w e.A e.al ∧ e.al.length ≤ maxLen
def Ent.fp (e : Ent) (k : Nat) : Prop := rowFp e.al.length e.A k
structure IsEn (w : World) (A : Option Addr) (l : List Ent) : Prop where
  row : IsRow 7 enC w A l
  ok : ∀ e ∈ l, e.ok w
def enFp (A : Option Addr) (l : List Ent) (k : Nat) : Prop := rowFp l.length A k ∨ ∃ e ∈ l, e.fp k
theorem Ent.ok.keep {e : Ent} {w w' : World} (h : e.ok w) (hk : ∀ b, e.fp b → w'.heap[b]? = w.heap[b]?) (hs : w.heap.size ≤ w'.heap.size) : e.ok w' := ⟨h.1.keep hk hs, h.2⟩
theorem IsEn.keep {w w' : World} {A : Option Addr} {l : List Ent} (h : IsEn w A l) (hk : ∀ b, enFp A l b → w'.heap[b]? = w.heap[b]?) (hs : w.heap.size ≤ w'.heap.size) : IsEn w' A l :=
  ⟨h.row.keep (fun b hb => hk b (.inl hb)) hs, fun e he => (h.ok e he).keep (fun b hb => hk b (.inr ⟨e, he, hb⟩)) hs⟩
theorem IsEn.lt {w : World} {A : Option Addr} {l : List Ent} (h : IsEn w A l) : ∀ b, enFp A l b → b < w.heap.size := by
  rintro b (hb | ⟨e, he, hb⟩)
  · exact h.row.lt b hb
  · exact (h.ok e he).1.lt b hb
theorem IsEn.below {w w' : World} {A : Option Addr} {l : List Ent} (h : IsEn w A l) (hb : Below w.heap.size w w') : IsEn w' A l :=
  h.keep (fun b hb' => hb.block b (h.lt b hb')) hb.size
structure IsPln (w : World) (p : Pln) : Prop where
  sh : IsAl w p.SA p.sh
  its : IsIt w p.IA p.its
  es : IsEn w p.EA p.es
  bs : IsBk w p.BA p.bs
  cs : IsCl w p.CA p.cs
  lsh : p.sh.length ≤ maxLen
  lits : p.its.length ≤ maxLen
  les : p.es.length ≤ maxLen
  lbs : p.bs.length ≤ maxLen
  lcs : p.cs.length ≤ maxLen
def Pln.fp (p : Pln) (k : Nat) : Prop := rowFp p.sh.length p.SA k ∨ rowFp p.its.length p.IA k ∨ enFp p.EA p.es k ∨ rowFp p.bs.length p.BA k ∨ rowFp p.cs.length p.CA k
theorem IsPln.keep {w w' : World} {p : Pln} (h : IsPln w p) (hk : ∀ b, p.fp b → w'.heap[b]? = w.heap[b]?) (hs : w.heap.size ≤ w'.heap.size) : IsPln w' p :=
  ⟨h.sh.keep (fun b hb => hk b (.inl hb)) hs, h.its.keep (fun b hb => hk b (.inr (.inl hb))) hs, h.es.keep (fun b hb => hk b (.inr (.inr (.inl hb)))) hs, h.bs.keep (fun b hb => hk b (.inr (.inr (.inr (.inl hb))))) hs, h.cs.keep (fun b hb => hk b (.inr (.inr (.inr (.inr hb))))) hs, h.lsh, h.lits, h.les, h.lbs, h.lcs⟩
theorem IsPln.lt {w : World} {p : Pln} (h : IsPln w p) : ∀ b, p.fp b → b < w.heap.size := by
  rintro b (hb | hb | hb | hb | hb)
  · exact h.sh.lt b hb
  · exact h.its.lt b hb
  · exact h.es.lt b hb
  · exact h.bs.lt b hb
  · exact h.cs.lt b hb
theorem IsPln.below {w w' : World} {p : Pln} (h : IsPln w p) (hb : Below w.heap.size w w') : IsPln w' p :=
  h.keep (fun b hb' => hb.block b (h.lt b hb')) hb.size
def mEs (l : List (Int × Value)) : List MapEntry := l.zipIdx.map fun p => { key := .int .i64 p.1.1, val := p.1.2, born := p.2 }
def mget (k : Int) (l : List (Int × Value)) : Option Value := (l.find? fun p => p.1 == k).map (·.2)
def MapAt (w : World) (b : Nat) (l : List (Int × Value)) : Prop := w.heap[b]? = some (.map (mEs l).toArray l.length)
theorem mEs_push (l : List (Int × Value)) (k : Int) (v : Value) : (mEs l).toArray.push { key := .int .i64 k, val := v, born := l.length } = (mEs (l ++ [(k, v)])).toArray := by
  simp [mEs, List.zipIdx_append]
theorem findNow_mEs (k : Int) : ∀ (l : List (Int × Value)) (s i : Nat), ∃ r, Instr.findNow (.int .i64) (.int .i64 k) ((l.zipIdx s).map fun p => ({ key := .int .i64 p.1.1, val := p.1.2, born := p.2 } : MapEntry)) i = some r ∧ r.map (·.2) = mget k l
  | [], s, i => ⟨none, rfl, rfl⟩
  | (k', v) :: l, s, i => by
    simp only [List.zipIdx_cons, List.map_cons, Instr.findNow, Instr.sameNow, if_true]
    by_cases h : k = k'
    · subst h
      refine ⟨some (i, v), by simp, by simp [mget]⟩
    · have hb : (k == k') = false := by simpa using h
      have hb' : (k' == k) = false := by simpa using fun e => h e.symm
      rw [hb]
      obtain ⟨r, h1, h2⟩ := findNow_mEs k l (s + 1) (i + 1)
      refine ⟨r, h1, h2.trans ?_⟩
      simp only [mget, List.find?_cons, hb']
def mapB (b : Nat) (l : List (Int × Value)) (f : Bool) : HB := ⟨fun k => k = b, fun w => MapAt w b l, f, none, fun _ _ h => by cases h⟩
theorem mapB_ok (b : Nat) (l : List (Int × Value)) (f : Bool) : (mapB b l f).ok := fun _ _ h hk _ => (hk b rfl).trans h
theorem MapAt.lt {w : World} {b : Nat} {l : List (Int × Value)} (h : MapAt w b l) : b < w.heap.size := (Array.getElem?_eq_some_iff.1 h).1
theorem MapAt.next {w w' : World} {b : Nat} {l : List (Int × Value)} (h : MapAt w b l) (hb : Below w.heap.size w w') : MapAt w' b l := (hb.block b h.lt).trans h
theorem run_lookupM {P : Program} {w : World} {b : Nat} {l : List (Int × Value)} {t kt et : TypeId} {k : Int} {z : Value} (c : Bool) (ht : P.underlying t = some (.map kt et)) (hk : P.underlying kt = some (.int .i64)) (hz : (zeroValue et).run P w = .ok z w) (h : MapAt w b l) :
    (Instr.lookup t (.map (some b)) (.int .i64 k) c).run P w = .ok (if c then .tuple #[(mget k l).getD z, .bool (mget k l).isSome] else (mget k l).getD z) w := by
  obtain ⟨r, h1, h2⟩ := findNow_mEs k l 0 0
  have hK : MapKept.IsKey (.int .i64) (.int .i64 k) := by simp [MapKept.IsKey]
  have hf := MapKept.run_findKey (w := w) (l := (mEs l).toArray.toList) hk h1
  simp only [Instr.lookup, Sem.run_bind, run_underlying ht, MapKept.run_getObj_map h, Result.andThen, MapKept.run_checkKey hk hK, Sem.run_pure, hf]
  cases r with
  | none => simp only [Option.map_none] at h2; simp [← h2, hz]
  | some p => simp only [Option.map_some] at h2; simp [← h2]
theorem run_mapPush {P : Program} {w : World} {b : Nat} {l : List (Int × Value)} {t kt et : TypeId} {k : Int} {v : Value} (ht : P.underlying t = some (.map kt et)) (hk : P.underlying kt = some (.int .i64)) (h : MapAt w b l) (hn : mget k l = none) :
    (Instr.mapUpdate t (.map (some b)) (.int .i64 k) v).run P w = .ok () { w with heap := w.heap.setIfInBounds b (.map (mEs (l ++ [(k, v)])).toArray (l.length + 1)) } := by
  obtain ⟨r, h1, h2⟩ := findNow_mEs k l 0 0
  have hr : r = none := by rw [hn] at h2; cases r with | none => rfl | some p => cases h2
  subst hr
  have hK : MapKept.IsKey (.int .i64) (.int .i64 k) := by simp [MapKept.IsKey]
  have hf := MapKept.run_findKey (w := w) (l := (mEs l).toArray.toList) hk h1
  simp only [Instr.mapUpdate, Sem.run_bind, run_underlying ht, MapKept.run_getObj_map h, Result.andThen, MapKept.run_checkKey hk hK, hf, MapKept.run_setObj_map _ h, mEs_push]
theorem MapAt.pushed {w : World} {b : Nat} {l : List (Int × Value)} {k : Int} {v : Value} (h : MapAt w b l) : MapAt { w with heap := w.heap.setIfInBounds b (.map (mEs (l ++ [(k, v)])).toArray (l.length + 1)) } b (l ++ [(k, v)]) := by
  have := (MapKept.heap_set (o' := .map (mEs (l ++ [(k, v)])).toArray (l.length + 1)) h).1
  unfold MapAt
  simpa using this
theorem mget_none {l : List (Int × Value)} {k : Int} (h : ∀ x ∈ l, x.1 ≠ k) : mget k l = none := by
  unfold mget
  rw [List.find?_eq_none.2 (fun x hx => by simpa using h x hx)]
  rfl
theorem mget_map {α : Type} (l : List α) (f : α → Int) (g : α → Value) (k : Int) : mget k (l.map fun x => (f x, g x)) = (l.find? fun x => f x == k).map g := by
  unfold mget
  rw [List.find?_map, Option.map_map]
  rfl
abbrev znl := @wpList_nil
abbrev ztn := @then_normal
abbrev zsq := @wp_seq
abbrev zrg := @w_region
abbrev zsk := @wp_skip
abbrev zrt := @wp_ret
abbrev ztr := @then_ret
abbrev zibn := @inb_normal
abbrev zibr := @inb_ret
abbrev zbk := @wp_block
section
variable {P : Program} {ops : Array Oper} {Q : Exit → Act → World → Prop} {a : Act} {w w0 : World} {rest : List Oper} {o : Oper} {n : Nat} {L : List (Nat × Value)} {LH : List HB} {K : List FK}
theorem Sl.cl (H : Sl n L a) (d : Nat) {f : FuncId} {args : Array Value} {R : Ending → World → Prop} (hcall : (callFunc f args).run P w = .ok (.enter f args) w) (hC : Calls P f args w R) (k : ∀ e w'', R e w'' → ∃ v, e = .returned v ∧ ∀ a', Sl n ((d, v) :: L) a' → wpList P ops Q rest a' w'')
    (hc : chk ops n L o d = true := by kernel_rfl) (hx : (execOp (ev L) o).run P w = (callFunc f args).run P w := by kernel_rfl) : wpList P ops Q (o :: rest) a w := H.call d hc (hx.trans hcall) hC k
theorem Sl.cb (H : Sl n L a) (HP : Hp w0 w LH K) (d : Nat) {f : FuncId} {args : Array Value} {v : Value} (hcall : (callFunc f args).run P w = .ok (.enter f args) w) (hC : Calls P f args w fun e w' => e = .returned v ∧ Below w.heap.size w w') (k : ∀ w'', Below w.heap.size w w'' → ∀ a', Sl n ((d, v) :: L) a' → Hp w0 w'' LH K → wpList P ops Q rest a' w'')
    (hc : chk ops n L o d = true := by kernel_rfl) (hx : (execOp (ev L) o).run P w = (callFunc f args).run P w := by kernel_rfl) : wpList P ops Q (o :: rest) a w :=
  H.call d hc (hx.trans hcall) hC fun e w'' he => ⟨v, he.1, fun a' H' => k w'' he.2 a' H' (HP.next he.2)⟩
theorem Sl.al (H : Sl n L a) (HP : Hp w0 w LH K) (d : Nat) (t : TypeId) (vs : List Value) (k : ∀ b w' a', Sl n ((d, pt b 0) :: L) a' → Hp w0 w' (bx b t vs true :: LH) K → wpList P ops Q rest a' w') (hc : chk ops n L o d = true := by kernel_rfl)
    (hx : ∀ w, (execOp (ev L) o).run P w = .ok (.value (pt w.heap.size 0)) (w.alloc (.cells vs.toArray t)) := by exact fun _ => by kernel_rfl) : wpList P ops Q (o :: rest) a w := H.alloc HP d (fun b => pt b 0) t vs hc hx k
theorem Sl.st {t : TypeId} {x y : Operand} {ty : TypeId} {pos : String} {af : Array Edge} {g : Option (Nat × Bool)} (H : Sl n L a) (HP : Hp w0 w LH K) (i b off k : Nat) (tb : TypeId) {us : List Value} (f : Bool) (v : Value) (LH' : List HB)
    (hi : LH[i]? = some (bx b tb us f)) (kk : ∀ w' a', Sl n L a' → Hp w0 w' LH' K → wpList P ops Q rest a' w')
    (hc : chk0 ops L ⟨none, .store t x y, ty, pos, af, g⟩ = true := by kernel_rfl) (hx : ev L x = .pointer (some ⟨b, off, none⟩) := by kernel_rfl) (hy : ev L y = v := by kernel_rfl) (hs : sizeB P t = some k := by kernel_rfl) (hv : v.cells.size = k := by kernel_rfl) (h1 : oneCells v.cells.toList = true := by kernel_rfl) (hl : Nat.ble (off + v.cells.toList.length) us.length = true := by kernel_rfl)
    (hL : LH.set i (bx b tb (setAll us off v.cells.toList) f) = LH' := by kernel_rfl) : wpList P ops Q (⟨none, .store t x y, ty, pos, af, g⟩ :: rest) a w :=
  H.store HP i b off k tb us f v LH' hc hx hy hi hs hv h1 hl hL kk
end
section
variable {P : Program} {fn : Func} {R : Ending → World → Prop} {a : Act} {w : World} {n : Nat} {L : List (Nat × Value)}
theorem Sl.r1 (H : Sl n L a) {t : Nat} (v : Value) (hr : fn.results = #[.tmp t]) (hR : R (.returned v) w) (h : look t L = some v := by kernel_rfl) : bodyPost P fn R .ret a w := H.ret1 hr (RV.tmp_ h) hR
end
section
variable {P : Program} {ρ : Operand → Value} {w : World} {t : TypeId} {x y : Operand} {dst : Option Tmp} {ty : TypeId} {pos : String} {af : Array Edge} {g : Option (Nat × Bool)}
theorem ex_lN {b off k : Nat} (vs : List Value) (hc : cellsAt w b off vs) (hx : ρ x = .pointer (some ⟨b, off, none⟩) := by kernel_rfl) (ha : aggB P t = some true := by kernel_rfl) (hs : sizeB P t = some k := by kernel_rfl) (hl : vs.length = k := by rfl) : (execOp ρ ⟨dst, .load t x, ty, pos, af, g⟩).run P w = .ok (.value (.agg vs.toArray)) w := ex_loadN hx ha hs hl hc
end
section
variable {P : Program} {ops : Array Oper} {Q : Exit → Act → World → Prop} {S : World → Prop} {a : Act} {w : World} {o : Oper} {n m fuel : Nat} {L : List (Nat × Value)} {listed : Array Bool}
theorem An.vw (H : Sl n L a) (hS : S w) (i d : Nat) (v : Value) (hx : ∀ w, S w → (execOp (ev L) o).run P w = .ok (.value v) w) (k : ∀ a', Sl n ((d, v) :: L) a' → wpAnyM P .any ops Q S m fuel (listed.setIfInBounds i true) a' w) (ho : ops[i]? = some o := by rfl) (hc : chk ops n L o d = true := by kernel_rfl) (ht : chkT ops listed m i = true := by kernel_rfl) (hQ : ∀ c a w, Q (.panic c) (a.put o.dst v) w → Q (.panic c) a w := by exact fun _ _ _ h => h) : wpAnyM P .any ops Q S m (fuel + 1) listed a w := An.val H hS i d v ho hc ht hQ hx k
theorem An.q (H : Sl n L a) (hS : listed.getD m false = true ∨ S w) (i d : Nat) (v : Value) (hx : ∀ w, (execOp (ev L) o).run P w = .ok (.value v) w) (k : ∀ a', Sl n ((d, v) :: L) a' → wpAnyM P .any ops Q S m fuel (listed.setIfInBounds i true) a' w) (ho : ops[i]? = some o := by rfl) (hc : chk ops n L o d = true := by kernel_rfl) (ht : chkP ops listed m i = true := by kernel_rfl) (hQ : ∀ c a w, Q (.panic c) (a.put o.dst v) w → Q (.panic c) a w := by exact fun _ _ _ h => h) : wpAnyM P .any ops Q S m (fuel + 1) listed a w := An.pure H hS i d v ho hc ht hQ hx k
end
def inR (n lo hi : Int) : Bool := decide (lo ≤ n) && decide (n ≤ hi)
theorem inR_iff {n lo hi : Int} : inR n lo hi = true ↔ lo ≤ n ∧ n ≤ hi := by simp [inR]
theorem inR_not {n lo hi : Int} : inR n lo hi = false ↔ ¬ (lo ≤ n ∧ n ≤ hi) := by rw [← inR_iff]; simp
def asc (last hi : Int) : List Int → Bool
  | [] => true
  | n :: l => decide (last < n) && decide (n ≤ hi) && asc n hi l
def itZ : Itm := ⟨0, 0, 0, 0, 0⟩
def fI (l : List Itm) (k : Int) : Option Itm := l.find? fun x => x.id == k
def fB (l : List Bkg) (k : Int) : Option Bkg := l.find? fun x => x.id == k
def gI (l : List Itm) (k : Int) : Itm := (fI l k).getD itZ
def hI (l : List Itm) (k : Int) : Bool := (fI l k).isSome
def hB (l : List Bkg) (k : Int) : Bool := (fB l k).isSome
def itmP (x : Itm) : Bool := inR x.kind 1 5 && inR x.frames 1 100000000 && inR x.sponsor 0 200 && inR x.rating 0 3
def itM (l : List Itm) : List (Int × Value) := l.map fun x => (x.id, .agg (itC x))
def bkM (l : List Bkg) : List (Int × Value) := l.map fun x => (x.id, .agg (bkC x))
def seM (l : List Int) : List (Int × Value) := l.map fun x => (x, .bool true)
theorem run_zero {P : Program} {w : World} {e : TypeId} {z : Value} {s b : Nat} (h : infoB P e = some (some z, s, b)) : (zeroValue e).run P w = .ok z w := by
  obtain ⟨i, h1, h2, _, _⟩ := infoB_spec h
  simp [zeroValue, typeInfo, Sem.run_bind, program, Sem.run, h1, h2, Result.andThen]
section
variable {P : Program} {ρ : Operand → Value} {w : World} {t kt et : TypeId} {x y : Operand} {dst : Option Tmp} {ty : TypeId} {pos : String} {af : Array Edge} {g : Option (Nat × Bool)} {b s1 s2 : Nat} {k : Int}
theorem ex_lookup {l : List (Int × Value)} {z : Value} (c : Bool) (hx : ρ x = .map (some b)) (hy : ρ y = .int .i64 k) (ht : P.underlying t = some (.map kt et)) (hk : P.underlying kt = some (.int .i64)) (hz : infoB P et = some (some z, s1, s2)) (h : MapAt w b l) :
    (execOp ρ ⟨dst, .lookup t x y c, ty, pos, af, g⟩).run P w = .ok (.value (if c then .tuple #[(mget k l).getD z, .bool (mget k l).isSome] else (mget k l).getD z)) w := by
  simp only [execOp, hx, hy, Sem.run_bind, run_lookupM c ht hk (run_zero hz) h, Result.andThen_ok, Sem.run_pure]
theorem mget_it (l : List Itm) (k : Int) : (mget k (itM l)).getD (.agg (itC itZ)) = .agg (itC (gI l k)) ∧ (mget k (itM l)).isSome = hI l k := by
  unfold itM gI hI fI
  rw [mget_map]
  cases l.find? fun x => x.id == k <;> simp
theorem ex_lookI {l : List Itm} (hx : ρ x = .map (some b)) (hy : ρ y = .int .i64 k) (ht : P.underlying t = some (.map kt et)) (hk : P.underlying kt = some (.int .i64)) (hz : infoB P et = some (some (.agg (itC itZ)), s1, s2)) (h : MapAt w b (itM l)) :
    (execOp ρ ⟨dst, .lookup t x y false, ty, pos, af, g⟩).run P w = .ok (.value (.agg (itC (gI l k)))) w := by
  have := ex_lookup (dst := dst) (ty := ty) (pos := pos) (af := af) (g := g) false hx hy ht hk hz h
  rw [(mget_it l k).1] at this
  exact this
end
theorem Hp.mapAt {w0 w : World} {L : List HB} {K : List FK} (H : Hp w0 w L K) (i : Nat) {b : Nat} {l : List (Int × Value)} {f : Bool} (hi : L[i]? = some (mapB b l f)) : MapAt w b l := (H.res _ (List.mem_of_getElem? hi)).1
theorem Hp.newMap {w0 w : World} {L : List HB} {K : List FK} (H : Hp w0 w L K) : Hp w0 (w.alloc (.map #[] 0)) (mapB w.heap.size [] true :: L) K :=
  H.gain (balloc w _) _ (heap_alloc_new w _) (mapB_ok _ _ _) (fun k hk => by cases hk; simp) (fun k hk => by cases hk; exact Nat.le_refl _)
theorem Hp.pushM {w0 w : World} {L : List HB} {K : List FK} (H : Hp w0 w L K) (i : Nat) {b : Nat} {l : List (Int × Value)} {f : Bool} (hi : L[i]? = some (mapB b l f)) (k : Int) (v : Value) :
    Hp w0 { w with heap := w.heap.setIfInBounds b (.map (mEs (l ++ [(k, v)])).toArray (l.length + 1)) } (L.set i (mapB b (l ++ [(k, v)]) f)) K :=
  H.mut i hi (mapB b (l ++ [(k, v)]) f) _ rfl ⟨rfl, rfl, rfl, by simp, fun j _ hj => (MapKept.heap_set (H.mapAt i hi)).2 j hj⟩ (H.mapAt i hi).pushed (mapB_ok _ _ _) (fun j hj => by cases hj; simpa using (H.mapAt i hi).lt) (fun j hj => .inl hj) (fun j _ hj => hj) rfl
theorem Hp.changedM {w0 w w' : World} {L : List HB} {K : List FK} (H : Hp w0 w L K) (i : Nat) {b : Nat} {l : List (Int × Value)} {f : Bool} (hi : L[i]? = some (mapB b l f)) (l' : List (Int × Value)) (L' : List HB) (hL : L.set i (mapB b l' f) = L') (hg : w.grownBy w' (some b)) (hbx : MapAt w' b l') : Hp w0 w' L' K :=
  H.mut i hi (mapB b l' f) _ hL (Agree.of_grown hg fun k e => (Option.some.inj e).symm) hbx (mapB_ok _ _ _) (fun k hk => by cases hk; exact hbx.lt) (fun k hk => .inl hk) (fun k _ hk => hk) rfl
theorem Hp.ownM {w : World} {b : Nat} {l : List (Int × Value)} (h : MapAt w b l) : Hp w w [mapB b l false] [] :=
  (Hp.start w).add (mapB b l false) h (mapB_ok _ _ _) (fun k hk => by cases hk; exact h.lt) (fun _ _ => ⟨(fun _ h => by cases h), (fun _ h => by cases h)⟩) fun h => by cases h
section
variable {P : Program} {ops : Array Oper} {Q : Exit → Act → World → Prop} {a : Act} {w0 w : World} {rest : List Oper} {n : Nat} {L : List (Nat × Value)} {LH : List HB} {K : List FK} {ty : TypeId} {pos : String} {af : Array Edge} {g : Option (Nat × Bool)} {t kt et : TypeId} {x y z : Operand}
theorem Sl.newMap {dd : Option Tmp} (H : Sl n L a) (HP : Hp w0 w LH K) (d : Nat) (hc : chk ops n L ⟨dd, .makeMap t none, ty, pos, af, g⟩ d = true)
    (k : ∀ b w' a', Sl n ((d, .map (some b)) :: L) a' → Hp w0 w' (mapB b [] true :: LH) K → wpList P ops Q rest a' w') : wpList P ops Q (⟨dd, .makeMap t none, ty, pos, af, g⟩ :: rest) a w :=
  H.valW d (.map (some w.heap.size)) hc (w' := w.alloc (.map #[] 0)) rfl fun a' H' => k _ _ a' H' HP.newMap
theorem wp_pushM {KK : Act → World → Prop} (H : Sl n L a) (HP : Hp w0 w LH K) (i : Nat) {b : Nat} {l : List (Int × Value)} {f : Bool} {k : Int} {v : Value} (LH' : List HB) (hc : chk0 ops L ⟨none, .mapUpdate t x y z, ty, pos, af, g⟩ = true) (hx : ev L x = .map (some b)) (hy : ev L y = .int .i64 k) (hz : ev L z = v)
    (ht : P.underlying t = some (.map kt et)) (hk : P.underlying kt = some (.int .i64)) (hi : LH[i]? = some (mapB b l f)) (hn : mget k l = none) (hL : LH.set i (mapB b (l ++ [(k, v)]) f) = LH')
    (kk : ∀ w' a', Sl n L a' → Hp w0 w' LH' K → KK a' w') : (⟨none, .mapUpdate t x y z, ty, pos, af, g⟩ : Oper).wp P a w KK Q := by
  obtain ⟨hd, hk', hs', hw⟩ := chk0_spec hc
  have hr := run_mapPush (P := P) (w := w) (v := v) ht hk (HP.mapAt i hi) hn
  unfold Oper.wp
  rw [H.exec hk' hs']
  simp only [execOp, hx, hy, hz, Sem.run_bind, hr, Result.andThen_ok, Sem.run_pure, Oper.upon_skip]
  exact kk _ _ H (hL ▸ HP.pushM i hi k v)
theorem Sl.pushM (H : Sl n L a) (HP : Hp w0 w LH K) (i : Nat) {b : Nat} {l : List (Int × Value)} {f : Bool} {k : Int} {v : Value} (LH' : List HB) (hc : chk0 ops L ⟨none, .mapUpdate t x y z, ty, pos, af, g⟩ = true) (hx : ev L x = .map (some b)) (hy : ev L y = .int .i64 k) (hz : ev L z = v)
    (ht : P.underlying t = some (.map kt et)) (hk : P.underlying kt = some (.int .i64)) (hi : LH[i]? = some (mapB b l f)) (hn : mget k l = none) (hL : LH.set i (mapB b (l ++ [(k, v)]) f) = LH')
    (kk : ∀ w' a', Sl n L a' → Hp w0 w' LH' K → wpList P ops Q rest a' w') : wpList P ops Q (⟨none, .mapUpdate t x y z, ty, pos, af, g⟩ :: rest) a w :=
  wpList_wanted (H.wanted (chk0_spec hc).2.2.2) (wp_pushM H HP i LH' hc hx hy hz ht hk hi hn hL kk)
end
section
variable {P : Program} {ops : Array Oper} {Q : Exit → Act → World → Prop} {a : Act} {w0 w : World} {n i : Nat} {L : List (Nat × Value)} {LH : List HB} {K : List FK} {KK : Act → World → Prop} {ty : TypeId} {pos : String} {af : Array Edge} {g : Option (Nat × Bool)} {t kt et : TypeId} {x y z : Operand}
theorem Op.pushM (H : Sl n L a) (HP : Hp w0 w LH K) (im : Nat) {b : Nat} {l : List (Int × Value)} {f : Bool} {k : Int} {v : Value} (LH' : List HB) (ho : ops[i]? = some ⟨none, .mapUpdate t x y z, ty, pos, af, g⟩) (hc : chk0 ops L ⟨none, .mapUpdate t x y z, ty, pos, af, g⟩ = true) (hx : ev L x = .map (some b)) (hy : ev L y = .int .i64 k) (hz : ev L z = v)
    (ht : P.underlying t = some (.map kt et)) (hk : P.underlying kt = some (.int .i64)) (hi : LH[im]? = some (mapB b l f)) (hn : mget k l = none) (hL : LH.set im (mapB b (l ++ [(k, v)]) f) = LH')
    (kk : ∀ w' a', Sl n L a' → Hp w0 w' LH' K → KK a' w') : wpOp P ops Q i KK a w :=
  wpOp_wanted ho (H.wanted (chk0_spec hc).2.2.2) (wp_pushM H HP im LH' hc hx hy hz ht hk hi hn hL kk)
end
theorem and_false2 {p q : Prop} [Decidable p] [Decidable q] (h : ¬ (p ∧ q)) : (decide p && decide q) = false := by
 by_cases hp : p
 ·have hq : ¬ q := fun hq => h ⟨hp, hq⟩
  simp [hq]
 ·simp [hp]
theorem within_any (n lo hi : Int) (w : World) : Calls Tryz.prog 106 #[.int .i64 n, .int .i64 lo, .int .i64 hi] w fun e w' => e = .returned (.bool (inR n lo hi)) ∧ Below w.heap.size w w' := by
 have HP := Hp.start w
 refine w_enter 15 [(0, (ii n)), (1, (ii lo)), (2, (ii hi))] Tryz.func106 rfl Tryz.ntmps106 (by kernel_rfl) (by kernel_rfl) fun a H => ?_
 refine zsq (zrg ?_)
 refine H.ge HP [(6, (.bool false))] [] fun a H => ?_
 refine ztn (zsq (zrg ?_))
 refine H.go HP 4 [(7, (ii lo)), (10, (.bool (decide (lo ≤ n))))] [] fun a H => ?_
 refine H.split 10 rfl (fun g10 H => ?_) (fun g10 H => ?_)
 ·have g10p := of_decide_eq_true g10
  refine H.ge HP [(6, (.bool (decide (n ≤ hi))))] [] fun a H => ?_
  refine ztn (zrt ?_)
  refine H.r1 (.bool (decide (n ≤ hi))) Tryz.results106 ?_
  exact ⟨by rw [show inR n lo hi = decide (n ≤ hi) from by simp only [inR]; simp [g10]], HP.bl⟩
 have g10p := of_decide_eq_false g10
 refine H.ge HP [(6, (.bool false))] [] fun a H => ?_
 refine ztn (zrt ?_)
 refine H.r1 (.bool false) Tryz.results106 ?_
 exact ⟨by rw [show inR n lo hi = false from by simp only [inR]; simp [g10]], HP.bl⟩
theorem itemID_any (x : Itm) (w : World) : Calls Tryz.prog 109 #[(.agg #[(ii x.id), (ii x.kind), (ii x.frames), (ii x.sponsor), (ii x.rating)])] w fun e w' => e = .returned (ii x.id) ∧ Below w.heap.size w w' := by
 have HP := Hp.start w
 refine w_enter 5 [(0, (.agg #[(ii x.id), (ii x.kind), (ii x.frames), (ii x.sponsor), (ii x.rating)]))] Tryz.func109 rfl Tryz.ntmps109 (by kernel_rfl) (by kernel_rfl) fun a H => ?_
 refine zsq (zrg ?_)
 refine H.al HP 1 108 [(ii x.id), (ii x.kind), (ii x.frames), (ii x.sponsor), (ii x.rating)] fun b_1 w_2 a H HP => ?_
 refine H.ge HP [(2, (ii 0))] [] fun a H => ?_
 refine ztn (zsq (zrg ?_))
 refine H.ge HP [(3, (pt b_1 0)), (4, (ii x.id)), (2, (ii x.id))] [0] fun a H => ?_
 refine ztn (zrt ?_)
 refine H.r1 (ii x.id) Tryz.results109 ?_
 exact ⟨rfl, HP.bl⟩
theorem bookingID_any (x : Bkg) (w : World) : Calls Tryz.prog 111 #[(.agg #[(ii x.id), (ii x.item), (ii x.region), (ii x.from_), (ii x.to_), (ii x.until_), (ii x.price)])] w fun e w' => e = .returned (ii x.id) ∧ Below w.heap.size w w' := by
 have HP := Hp.start w
 refine w_enter 5 [(0, (.agg #[(ii x.id), (ii x.item), (ii x.region), (ii x.from_), (ii x.to_), (ii x.until_), (ii x.price)]))] Tryz.func111 rfl Tryz.ntmps111 (by kernel_rfl) (by kernel_rfl) fun a H => ?_
 refine zsq (zrg ?_)
 refine H.al HP 1 219 [(ii x.id), (ii x.item), (ii x.region), (ii x.from_), (ii x.to_), (ii x.until_), (ii x.price)] fun b_1 w_2 a H HP => ?_
 refine H.ge HP [(2, (ii 0))] [] fun a H => ?_
 refine ztn (zsq (zrg ?_))
 refine H.ge HP [(3, (pt b_1 0)), (4, (ii x.id)), (2, (ii x.id))] [0] fun a H => ?_
 refine ztn (zrt ?_)
 refine H.r1 (ii x.id) Tryz.results111 ?_
 exact ⟨rfl, HP.bl⟩
theorem ascI_any (A : Option Addr) (c : Nat) (l : List (Itm)) (lo hi : Int) (w : World) (hr : IsRow 5 itC w A l) (hl : l.length ≤ maxLen) (hlo : -1000000 ≤ lo ∧ lo ≤ 1000000) :
  Calls Tryz.prog 108 #[.slice A l.length c, .int .i64 lo, .int .i64 hi, .func (.func 109) #[] #[]] w fun e w' => e = .returned (.bool (asc (lo - 1) hi (l.map (fun x : Itm => x.id)))) ∧ Below w.heap.size w w' := by
 unfold maxLen at hl
 have HP := Hp.start w
 refine w_enter 46 [(0, (.slice A l.length c)), (1, (ii lo)), (2, (ii hi)), (3, (.func (.func 109) #[] #[]))] Tryz.func108 rfl Tryz.ntmps108 (by kernel_rfl) (by kernel_rfl) fun a H => ?_
 refine zsq (zrg ?_)
 refine H.ge HP [(8, (.bool false))] [] fun a H => ?_
 refine ztn (zsq (zsq (zrg ?_)))
 refine H.ge HP [(12, (.slice A l.length c)), (13, (ii l.length)), (14, (ii 0))] [] fun a H => ?_
 refine ztn (zbk ?_)
 refine w_loop (fun mm a wv => ∃ (i : Nat), ∃ (last : Int), l.length - i = mm ∧ Sl 46 [(14, (ii i)), (12, (.slice A l.length c)), (13, (ii l.length)), (0, (.slice A l.length c)), (1, (ii lo)), (2, (ii hi)), (3, (.func (.func 109) #[] #[]))] a ∧ Hp w wv [] [] ∧ (i ≤ l.length) ∧ ((i = 0 ∧ last = lo - 1) ∨ (∃ y, i ≠ 0 ∧ l[i - 1]? = some y ∧ last = y.id)) ∧ (lo - 1 ≤ last) ∧ (asc (lo - 1) hi (l.map (fun x : Itm => x.id)) = asc last hi ((l.drop i).map (fun x : Itm => x.id)))) (l.length - 0) ?_ ?_
 ·exact ⟨0, lo - 1, (by omega), H.keep (by kernel_rfl), HP, (Nat.zero_le _), (.inl ⟨rfl, rfl⟩), (Int.le_refl _), rfl⟩
 rintro mm a w_1 ⟨i, last, hmeas, H, HP, hib, hlast, hge, hrel⟩
 refine zsq (zrg ?_)
 refine H.ge HP [(15, (.bool (decide ((i : Int) < (l.length : Int)))))] [] fun a H => ?_
 refine ztn (zsq ?_)
 refine w_if H rfl (fun g15 => ?_) (fun g15 => ?_)
 ·have g15p := of_decide_eq_true g15
  refine zsk (ztn (zsq (zbk (zsq ?_))))
  obtain ⟨bu_3, ou_4, x_2, hA_5, _, hd_7, hx_6, hm_8, _⟩ := IsRow.get itC_size (hr.below HP.bl) (i := i) (by omega)
  have hst : asc last hi ((l.drop i).map (fun x : Itm => x.id)) = (decide (last < x_2.id) && decide (x_2.id ≤ hi) && asc x_2.id hi ((l.drop (i + 1)).map (fun x : Itm => x.id))) := by rw [hd_7]; rfl
  refine zrg ?_
  refine H.go HP 1 [(16, (ii i))] [] fun a H => H.u 17 (.pointer (some ⟨bu_3, ou_4 + i * 5, none⟩)) (ex_indexA (b := bu_3) (off := ou_4) (len := l.length) (cap := c) (e := 108) (k := 5) (ik := .i64) (i := (i : Int)) (m := i) hA_5 (by kernel_rfl) (by kernel_rfl) (by omega) (by omega) (by kernel_rfl) (by kernel_rfl)) fun a H => H.u 18 (.agg #[(ii x_2.id), (ii x_2.kind), (ii x_2.frames), (ii x_2.sponsor), (ii x_2.rating)]) (ex_lN [(ii x_2.id), (ii x_2.kind), (ii x_2.frames), (ii x_2.sponsor), (ii x_2.rating)] (IsRow.cells itC_size (hr.below HP.bl) hA_5 hx_6)) fun a H => H.al HP 10 108 [(ii 0), (ii 0), (ii 0), (ii 0), (ii 0)] fun b_9 w_10 a H HP => H.go HP 1 [(9, (ii i))] [] fun a H => H.sh HP 0 0 (.agg #[(ii x_2.id), (ii x_2.kind), (ii x_2.frames), (ii x_2.sponsor), (ii x_2.rating)]) rfl fun w_11 a H HP => ?_
  refine znl (ztn (zsq (zrg ?_)))
  refine H.go HP 2 [(19, (.func (.func 109) #[] #[])), (20, (.agg #[(ii x_2.id), (ii x_2.kind), (ii x_2.frames), (ii x_2.sponsor), (ii x_2.rating)]))] [0] fun a H => H.cb HP 21 (Tryz.call109 _ _) (itemID_any x_2 w_11) fun w_12 hb a H HP => ?_
  refine H.ge HP [(11, (ii x_2.id))] [] fun a H => ?_
  refine ztn (zsq (zrg ?_))
  refine H.go HP 4 [(25, (.bool (decide (x_2.id < lo))))] [] fun a H => ?_
  refine H.split 25 rfl (fun g25 H => ?_) (fun g25 H => ?_)
  ·have g25p := of_decide_eq_true g25
   refine H.ge HP [(44, (.bool true))] [] fun a H => ?_
   refine ztn ?_
   refine w_ift H rfl ?_
   refine zsq (zrg ?_)
   refine H.ge HP [(8, (.bool false))] [] fun a H => ?_
   refine ztn (zrt (zibr (ztr (ztr (zibr (ztr ?_))))))
   refine H.r1 (.bool false) Tryz.results108 ?_
   have hbad : ¬ (last < x_2.id ∧ x_2.id ≤ hi) := by omega
   exact ⟨by rw [hrel, hst, and_false2 hbad]; rfl, HP.bl⟩
  have g25p := of_decide_eq_false g25
  refine H.go HP 5 [(30, (.bool (decide (x_2.id > hi))))] [] fun a H => ?_
  refine H.split 30 rfl (fun g30 H => ?_) (fun g30 H => ?_)
  ·have g30p := of_decide_eq_true g30
   refine H.ge HP [(44, (.bool true))] [] fun a H => ?_
   refine ztn ?_
   refine w_ift H rfl ?_
   refine zsq (zrg ?_)
   refine H.ge HP [(8, (.bool false))] [] fun a H => ?_
   refine ztn (zrt (zibr (ztr (ztr (zibr (ztr ?_))))))
   refine H.r1 (.bool false) Tryz.results108 ?_
   have hbad : ¬ (last < x_2.id ∧ x_2.id ≤ hi) := by omega
   exact ⟨by rw [hrel, hst, and_false2 hbad]; rfl, HP.bl⟩
  have g30p := of_decide_eq_false g30
  refine H.go HP 3 [(33, (.bool (decide ((i : Int) > 0))))] [] fun a H => ?_
  refine H.split 33 rfl (fun g33 H => ?_) (fun g33 H => ?_)
  ·have g33p := of_decide_eq_true g33
   refine H.go HP 4 [(34, (ii x_2.id)), (35, (.func (.func 109) #[] #[])), (36, (.slice A l.length c)), (37, (ii i))] [] fun a H => ?_
   obtain ⟨bu_14, ou_15, x_13, hA_16, _, hd_18, hx_17, hm_19, _⟩ := IsRow.get itC_size (hr.below HP.bl) (i := i - 1) (by omega)
   have hly : last = x_13.id := by rcases hlast with ⟨h1, _⟩ | ⟨z, h1, h2, h3⟩; (exfalso; omega); (rw [hx_17] at h2; cases h2; exact h3)
   refine H.valE 38 (ii (IntKind.i64.wrap ((i : Int) - 1))) (ii ((i - 1 : Nat) : Int)) (by kernel_rfl) (by kernel_rfl) ((by rw [wrap_ini64 _ (by omega)]; congr 1; omega)) fun a H => H.u 39 (.pointer (some ⟨bu_14, ou_15 + (i - 1) * 5, none⟩)) (ex_indexA (b := bu_14) (off := ou_15) (len := l.length) (cap := c) (e := 108) (k := 5) (ik := .i64) (i := ((i - 1 : Nat) : Int)) (m := (i - 1)) hA_16 (by kernel_rfl) (by kernel_rfl) (by omega) (by omega) (by kernel_rfl) (by kernel_rfl)) fun a H => H.u 40 (.agg #[(ii x_13.id), (ii x_13.kind), (ii x_13.frames), (ii x_13.sponsor), (ii x_13.rating)]) (ex_loadN (b := bu_14) (off := ou_15 + (i - 1) * 5) (vs := [(ii x_13.id), (ii x_13.kind), (ii x_13.frames), (ii x_13.sponsor), (ii x_13.rating)]) (by kernel_rfl) (by kernel_rfl) (by kernel_rfl) rfl (IsRow.cells itC_size (hr.below HP.bl) hA_16 hx_17)) fun a H => H.cb HP 41 (Tryz.call109 _ _) (itemID_any x_13 w_12) fun w_20 hb a H HP => ?_
   refine H.ge HP [(44, (.bool (decide (x_2.id ≤ x_13.id))))] [] fun a H => ?_
   refine ztn ?_
   refine w_if H rfl (fun g44 => ?_) (fun g44 => ?_)
   ·have g44p := of_decide_eq_true g44
    refine zsq (zrg ?_)
    refine H.ge HP [(8, (.bool false))] [] fun a H => ?_
    refine ztn (zrt (zibr (ztr (ztr (zibr (ztr ?_))))))
    refine H.r1 (.bool false) Tryz.results108 ?_
    have hbad : ¬ (last < x_2.id ∧ x_2.id ≤ hi) := by omega
    exact ⟨by rw [hrel, hst, and_false2 hbad]; rfl, HP.bl⟩
   have g44p := of_decide_eq_false g44
   refine zsk (zibn (ztn (zrg ?_)))
   refine H.wi 45 ((i : Int) + 1) fun a H => ?_
   refine H.ge HP [(14, (ii ((i : Int) + 1)))] [] fun a H => ?_
   refine ztn ?_
   have hlt : last < x_2.id := by rcases hlast with ⟨h1, h2⟩ | ⟨z, h1, h2, h3⟩ <;> omega
   have hle : x_2.id ≤ hi := by omega
   have H := H.as 14 (ii ((i + 1 : Nat) : Int)) rfl rfl
   refine ⟨_, ?_, i + 1, x_2.id, rfl, H.keep (by kernel_rfl), (HP.tail rfl), (by omega), (.inr ⟨x_2, by omega, by simpa using hx_6, rfl⟩), (by omega), (by rw [hrel, hst, decide_eq_true hlt, decide_eq_true hle]; rfl)⟩
   omega
  have g33p := of_decide_eq_false g33
  refine H.ge HP [(44, (.bool false))] [] fun a H => ?_
  refine ztn ?_
  refine w_iff H rfl ?_
  refine zsk (zibn (ztn (zrg ?_)))
  refine H.wi 45 ((i : Int) + 1) fun a H => ?_
  refine H.ge HP [(14, (ii ((i : Int) + 1)))] [] fun a H => ?_
  refine ztn ?_
  have hlt : last < x_2.id := by rcases hlast with ⟨h1, h2⟩ | ⟨z, h1, h2, h3⟩ <;> omega
  have hle : x_2.id ≤ hi := by omega
  have H := H.as 14 (ii ((i + 1 : Nat) : Int)) rfl rfl
  refine ⟨_, ?_, i + 1, x_2.id, rfl, H.keep (by kernel_rfl), (HP.tail rfl), (by omega), (.inr ⟨x_2, by omega, by simpa using hx_6, rfl⟩), (by omega), (by rw [hrel, hst, decide_eq_true hlt, decide_eq_true hle]; rfl)⟩
  omega
 have g15p := of_decide_eq_false g15
 refine wp_exit (then_exit (then_exit ?_))
 refine w_exit_here ?_
 refine ztn (zsq (zrg ?_))
 refine H.ge HP [(8, (.bool true))] [] fun a H => ?_
 refine ztn (zrt ?_)
 refine H.r1 (.bool true) Tryz.results108 ?_
 exact ⟨by rw [hrel, List.drop_eq_nil_of_le (by omega)]; rfl, HP.bl⟩
theorem ascB_any (A : Option Addr) (c : Nat) (l : List (Bkg)) (lo hi : Int) (w : World) (hr : IsRow 7 bkC w A l) (hl : l.length ≤ maxLen) (hlo : -1000000 ≤ lo ∧ lo ≤ 1000000) :
  Calls Tryz.prog 110 #[.slice A l.length c, .int .i64 lo, .int .i64 hi, .func (.func 111) #[] #[]] w fun e w' => e = .returned (.bool (asc (lo - 1) hi (l.map (fun x : Bkg => x.id)))) ∧ Below w.heap.size w w' := by
 unfold maxLen at hl
 have HP := Hp.start w
 refine w_enter 46 [(0, (.slice A l.length c)), (1, (ii lo)), (2, (ii hi)), (3, (.func (.func 111) #[] #[]))] Tryz.func110 rfl Tryz.ntmps110 (by kernel_rfl) (by kernel_rfl) fun a H => ?_
 refine zsq (zrg ?_)
 refine H.ge HP [(8, (.bool false))] [] fun a H => ?_
 refine ztn (zsq (zsq (zrg ?_)))
 refine H.ge HP [(12, (.slice A l.length c)), (13, (ii l.length)), (14, (ii 0))] [] fun a H => ?_
 refine ztn (zbk ?_)
 refine w_loop (fun mm a wv => ∃ (i : Nat), ∃ (last : Int), l.length - i = mm ∧ Sl 46 [(14, (ii i)), (12, (.slice A l.length c)), (13, (ii l.length)), (0, (.slice A l.length c)), (1, (ii lo)), (2, (ii hi)), (3, (.func (.func 111) #[] #[]))] a ∧ Hp w wv [] [] ∧ (i ≤ l.length) ∧ ((i = 0 ∧ last = lo - 1) ∨ (∃ y, i ≠ 0 ∧ l[i - 1]? = some y ∧ last = y.id)) ∧ (lo - 1 ≤ last) ∧ (asc (lo - 1) hi (l.map (fun x : Bkg => x.id)) = asc last hi ((l.drop i).map (fun x : Bkg => x.id)))) (l.length - 0) ?_ ?_
 ·exact ⟨0, lo - 1, (by omega), H.keep (by kernel_rfl), HP, (Nat.zero_le _), (.inl ⟨rfl, rfl⟩), (Int.le_refl _), rfl⟩
 rintro mm a w_1 ⟨i, last, hmeas, H, HP, hib, hlast, hge, hrel⟩
 refine zsq (zrg ?_)
 refine H.ge HP [(15, (.bool (decide ((i : Int) < (l.length : Int)))))] [] fun a H => ?_
 refine ztn (zsq ?_)
 refine w_if H rfl (fun g15 => ?_) (fun g15 => ?_)
 ·have g15p := of_decide_eq_true g15
  refine zsk (ztn (zsq (zbk (zsq ?_))))
  obtain ⟨bu_3, ou_4, x_2, hA_5, _, hd_7, hx_6, hm_8, _⟩ := IsRow.get bkC_size (hr.below HP.bl) (i := i) (by omega)
  have hst : asc last hi ((l.drop i).map (fun x : Bkg => x.id)) = (decide (last < x_2.id) && decide (x_2.id ≤ hi) && asc x_2.id hi ((l.drop (i + 1)).map (fun x : Bkg => x.id))) := by rw [hd_7]; rfl
  refine zrg ?_
  refine H.go HP 1 [(16, (ii i))] [] fun a H => H.u 17 (.pointer (some ⟨bu_3, ou_4 + i * 7, none⟩)) (ex_indexA (b := bu_3) (off := ou_4) (len := l.length) (cap := c) (e := 219) (k := 7) (ik := .i64) (i := (i : Int)) (m := i) hA_5 (by kernel_rfl) (by kernel_rfl) (by omega) (by omega) (by kernel_rfl) (by kernel_rfl)) fun a H => H.u 18 (.agg #[(ii x_2.id), (ii x_2.item), (ii x_2.region), (ii x_2.from_), (ii x_2.to_), (ii x_2.until_), (ii x_2.price)]) (ex_lN [(ii x_2.id), (ii x_2.item), (ii x_2.region), (ii x_2.from_), (ii x_2.to_), (ii x_2.until_), (ii x_2.price)] (IsRow.cells bkC_size (hr.below HP.bl) hA_5 hx_6)) fun a H => H.al HP 10 219 [(ii 0), (ii 0), (ii 0), (ii 0), (ii 0), (ii 0), (ii 0)] fun b_9 w_10 a H HP => H.go HP 1 [(9, (ii i))] [] fun a H => H.sh HP 0 0 (.agg #[(ii x_2.id), (ii x_2.item), (ii x_2.region), (ii x_2.from_), (ii x_2.to_), (ii x_2.until_), (ii x_2.price)]) rfl fun w_11 a H HP => ?_
  refine znl (ztn (zsq (zrg ?_)))
  refine H.go HP 2 [(19, (.func (.func 111) #[] #[])), (20, (.agg #[(ii x_2.id), (ii x_2.item), (ii x_2.region), (ii x_2.from_), (ii x_2.to_), (ii x_2.until_), (ii x_2.price)]))] [0] fun a H => H.cb HP 21 (Tryz.call111 _ _) (bookingID_any x_2 w_11) fun w_12 hb a H HP => ?_
  refine H.ge HP [(11, (ii x_2.id))] [] fun a H => ?_
  refine ztn (zsq (zrg ?_))
  refine H.go HP 4 [(25, (.bool (decide (x_2.id < lo))))] [] fun a H => ?_
  refine H.split 25 rfl (fun g25 H => ?_) (fun g25 H => ?_)
  ·have g25p := of_decide_eq_true g25
   refine H.ge HP [(44, (.bool true))] [] fun a H => ?_
   refine ztn ?_
   refine w_ift H rfl ?_
   refine zsq (zrg ?_)
   refine H.ge HP [(8, (.bool false))] [] fun a H => ?_
   refine ztn (zrt (zibr (ztr (ztr (zibr (ztr ?_))))))
   refine H.r1 (.bool false) Tryz.results110 ?_
   have hbad : ¬ (last < x_2.id ∧ x_2.id ≤ hi) := by omega
   exact ⟨by rw [hrel, hst, and_false2 hbad]; rfl, HP.bl⟩
  have g25p := of_decide_eq_false g25
  refine H.go HP 5 [(30, (.bool (decide (x_2.id > hi))))] [] fun a H => ?_
  refine H.split 30 rfl (fun g30 H => ?_) (fun g30 H => ?_)
  ·have g30p := of_decide_eq_true g30
   refine H.ge HP [(44, (.bool true))] [] fun a H => ?_
   refine ztn ?_
   refine w_ift H rfl ?_
   refine zsq (zrg ?_)
   refine H.ge HP [(8, (.bool false))] [] fun a H => ?_
   refine ztn (zrt (zibr (ztr (ztr (zibr (ztr ?_))))))
   refine H.r1 (.bool false) Tryz.results110 ?_
   have hbad : ¬ (last < x_2.id ∧ x_2.id ≤ hi) := by omega
   exact ⟨by rw [hrel, hst, and_false2 hbad]; rfl, HP.bl⟩
  have g30p := of_decide_eq_false g30
  refine H.go HP 3 [(33, (.bool (decide ((i : Int) > 0))))] [] fun a H => ?_
  refine H.split 33 rfl (fun g33 H => ?_) (fun g33 H => ?_)
  ·have g33p := of_decide_eq_true g33
   refine H.go HP 4 [(34, (ii x_2.id)), (35, (.func (.func 111) #[] #[])), (36, (.slice A l.length c)), (37, (ii i))] [] fun a H => ?_
   obtain ⟨bu_14, ou_15, x_13, hA_16, _, hd_18, hx_17, hm_19, _⟩ := IsRow.get bkC_size (hr.below HP.bl) (i := i - 1) (by omega)
   have hly : last = x_13.id := by rcases hlast with ⟨h1, _⟩ | ⟨z, h1, h2, h3⟩; (exfalso; omega); (rw [hx_17] at h2; cases h2; exact h3)
   refine H.valE 38 (ii (IntKind.i64.wrap ((i : Int) - 1))) (ii ((i - 1 : Nat) : Int)) (by kernel_rfl) (by kernel_rfl) ((by rw [wrap_ini64 _ (by omega)]; congr 1; omega)) fun a H => H.u 39 (.pointer (some ⟨bu_14, ou_15 + (i - 1) * 7, none⟩)) (ex_indexA (b := bu_14) (off := ou_15) (len := l.length) (cap := c) (e := 219) (k := 7) (ik := .i64) (i := ((i - 1 : Nat) : Int)) (m := (i - 1)) hA_16 (by kernel_rfl) (by kernel_rfl) (by omega) (by omega) (by kernel_rfl) (by kernel_rfl)) fun a H => H.u 40 (.agg #[(ii x_13.id), (ii x_13.item), (ii x_13.region), (ii x_13.from_), (ii x_13.to_), (ii x_13.until_), (ii x_13.price)]) (ex_loadN (b := bu_14) (off := ou_15 + (i - 1) * 7) (vs := [(ii x_13.id), (ii x_13.item), (ii x_13.region), (ii x_13.from_), (ii x_13.to_), (ii x_13.until_), (ii x_13.price)]) (by kernel_rfl) (by kernel_rfl) (by kernel_rfl) rfl (IsRow.cells bkC_size (hr.below HP.bl) hA_16 hx_17)) fun a H => H.cb HP 41 (Tryz.call111 _ _) (bookingID_any x_13 w_12) fun w_20 hb a H HP => ?_
   refine H.ge HP [(44, (.bool (decide (x_2.id ≤ x_13.id))))] [] fun a H => ?_
   refine ztn ?_
   refine w_if H rfl (fun g44 => ?_) (fun g44 => ?_)
   ·have g44p := of_decide_eq_true g44
    refine zsq (zrg ?_)
    refine H.ge HP [(8, (.bool false))] [] fun a H => ?_
    refine ztn (zrt (zibr (ztr (ztr (zibr (ztr ?_))))))
    refine H.r1 (.bool false) Tryz.results110 ?_
    have hbad : ¬ (last < x_2.id ∧ x_2.id ≤ hi) := by omega
    exact ⟨by rw [hrel, hst, and_false2 hbad]; rfl, HP.bl⟩
   have g44p := of_decide_eq_false g44
   refine zsk (zibn (ztn (zrg ?_)))
   refine H.wi 45 ((i : Int) + 1) fun a H => ?_
   refine H.ge HP [(14, (ii ((i : Int) + 1)))] [] fun a H => ?_
   refine ztn ?_
   have hlt : last < x_2.id := by rcases hlast with ⟨h1, h2⟩ | ⟨z, h1, h2, h3⟩ <;> omega
   have hle : x_2.id ≤ hi := by omega
   have H := H.as 14 (ii ((i + 1 : Nat) : Int)) rfl rfl
   refine ⟨_, ?_, i + 1, x_2.id, rfl, H.keep (by kernel_rfl), (HP.tail rfl), (by omega), (.inr ⟨x_2, by omega, by simpa using hx_6, rfl⟩), (by omega), (by rw [hrel, hst, decide_eq_true hlt, decide_eq_true hle]; rfl)⟩
   omega
  have g33p := of_decide_eq_false g33
  refine H.ge HP [(44, (.bool false))] [] fun a H => ?_
  refine ztn ?_
  refine w_iff H rfl ?_
  refine zsk (zibn (ztn (zrg ?_)))
  refine H.wi 45 ((i : Int) + 1) fun a H => ?_
  refine H.ge HP [(14, (ii ((i : Int) + 1)))] [] fun a H => ?_
  refine ztn ?_
  have hlt : last < x_2.id := by rcases hlast with ⟨h1, h2⟩ | ⟨z, h1, h2, h3⟩ <;> omega
  have hle : x_2.id ≤ hi := by omega
  have H := H.as 14 (ii ((i + 1 : Nat) : Int)) rfl rfl
  refine ⟨_, ?_, i + 1, x_2.id, rfl, H.keep (by kernel_rfl), (HP.tail rfl), (by omega), (.inr ⟨x_2, by omega, by simpa using hx_6, rfl⟩), (by omega), (by rw [hrel, hst, decide_eq_true hlt, decide_eq_true hle]; rfl)⟩
  omega
 have g15p := of_decide_eq_false g15
 refine wp_exit (then_exit (then_exit ?_))
 refine w_exit_here ?_
 refine ztn (zsq (zrg ?_))
 refine H.ge HP [(8, (.bool true))] [] fun a H => ?_
 refine ztn (zrt ?_)
 refine H.r1 (.bool true) Tryz.results110 ?_
 exact ⟨by rw [hrel, List.drop_eq_nil_of_le (by omega)]; rfl, HP.bl⟩
end Go.Proofs.YthpbaaadkhdifaaGreatDoor
