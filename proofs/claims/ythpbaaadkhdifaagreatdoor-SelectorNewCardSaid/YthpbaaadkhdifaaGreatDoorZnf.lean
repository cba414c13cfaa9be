/- Part 6 of the proofs: SeQ, SymAb, SeR, SeS, SeT, SeU, SeV, SpE, SymRg, SeW, SeX, SeY. -/
import Derived.Laws.MakeOwn
import Derived.Test.YthpbaaadkhdifaaGreatDoorZne
namespace Go.Proofs.YthpbaaadkhdifaaGreatDoor
set_option maxRecDepth 100000
set_option maxHeartbeats 4000000
open Go.ChangeShapes Go.WideShapes Go.ChangeAt Go.RowKit Go.Shelf
set_option linter.unusedVariables false
set_option linter.unusedSimpArgs false
def astOk (a : AstA) (w : World) : Prop := a.ok w
def astFp (a : AstA) (k : Nat) : Prop := rowFp a.pics.length a.A k
theorem elOk_ast : ElOk astOk astFp := fun _ _ _ h hk hs => ⟨⟨h.1.1, h.1.2.keep hk hs⟩, h.2⟩
def sameA (l l' : List AstA) : Prop := (l.map fun a => (a.item, a.pics)) = l'.map fun a => (a.item, a.pics)
theorem sameA_snoc {l l' : List AstA} {X : AstA} {B : Option Addr} {d : Nat} (h : sameA l l') : sameA (l ++ [⟨X.item, B, d, X.pics⟩]) (l' ++ [X]) := by
 unfold sameA at *
 simp [h]
structure PlS where
 c : Int
 nm : Int
 len : Int
 IA : Option Addr
 ic : Nat
abbrev plnC (p : PlS) : Array Value := planC p.c p.nm p.len p.IA p.ic
theorem plnC_size (p : PlS) : (plnC p).size = 13 := rfl
def itsK (ps : List PlS) : FK := ⟨fun k => ∃ p ∈ ps, rowFp 3 p.IA k, fun w => ∀ p ∈ ps, IsRow 5 itC w p.IA its3⟩
theorem itsK_ok (ps : List PlS) : (itsK ps).ok := fun _ _ h hk hs p hp => (h p hp).keep (fun k hf => hk k ⟨p, hp, hf⟩) hs
theorem itsK_lt {w : World} {ps : List PlS} (h : ∀ p ∈ ps, IsRow 5 itC w p.IA its3) {k : Nat} (hk : (itsK ps).fp k) : k < w.heap.size := by
 obtain ⟨p, hp, hk⟩ := hk
 exact (h p hp).lt k hk
def mkCh (p : PlS) : Ch := ⟨0, 0, 500, 0, p.c, p.nm, 1⟩
theorem ch_row {w : World} {base n c : Nat} {e : TypeId} {A : Option Addr} {l : List PlS} (h : (rowsR base e 7 chC okT feF (.slice A n c) (l.map mkCh)).F w) (hn : l.length = n) : IsRow 7 chC w A (l.map mkCh) := IsRow.ofOwn h (by rw [List.length_map]; exact hn)
def okP (seen : List Int) : List PlS → Bool
 | [] => true
 | p :: l => inR p.len 1 100000000 && (!(seen.contains p.c) && okP (seen ++ [p.c]) l)
theorem mk_any (l : List PlS) (k : Int) : (l.map mkCh).any (fun c => c.number == k) = (l.map (·.c)).contains k := by
 induction l with
 | nil => rfl
 | cons a l ih =>
  rw [List.map_cons, List.any_cons, ih, List.map_cons, List.contains_cons]
  congr 1
  rw [Bool.eq_iff_iff]; simp only [mkCh, beq_iff_eq]; exact eq_comm
theorem okP_step {l l2 : List PlS} {p : PlS} (h1 : inR p.len 1 100000000 = true) (h2 : (l.map mkCh).any (fun c => c.number == p.c) = false) : okP (l.map (·.c)) (p :: l2) = okP (l.map (·.c) ++ [p.c]) l2 := by
 rw [mk_any] at h2
 rw [okP, h1, h2]; rfl
theorem okP_len {s : List Int} {l2 : List PlS} {p : PlS} (h1 : inR p.len 1 100000000 = false) : okP s (p :: l2) = false := by rw [okP, h1]; rfl
theorem okP_num {l l2 : List PlS} {p : PlS} (h2 : (l.map mkCh).any (fun c => c.number == p.c) = true) : okP (l.map (·.c)) (p :: l2) = false := by
 rw [mk_any] at h2
 rw [okP, h2]; simp
def newP (ps : List PlS) (lib : List AstA) : Bool := decide (1 ≤ ps.length) && (decide (ps.length ≤ 40) && (okP [] ps && lib.all fun a => validA a.item a.pics))
theorem newP_few {ps : List PlS} {lib : List AstA} (h : ps.length < 1 ∨ 40 < ps.length) : newP ps lib = false := by
 unfold newP
 rcases h with h | h
 ·rw [decide_eq_false (show ¬ 1 ≤ ps.length by omega)]; rfl
 ·rw [decide_eq_false (show ¬ ps.length ≤ 40 by omega)]; simp
theorem newP_bad {ps : List PlS} {lib : List AstA} (h : okP [] ps = false) : newP ps lib = false := by unfold newP; rw [h]; simp
theorem newP_lib {ps : List PlS} {lib : List AstA} {X : AstA} (hm : X ∈ lib) (h : validA X.item X.pics = false) : newP ps lib = false := by
 unfold newP
 have : (lib.all fun a => validA a.item a.pics) = false := by
  rw [List.all_eq_false]
  exact ⟨X, hm, by simp [h]⟩
 simp [this]
structure SelN (ps : List PlS) (lib : List AstA) (n0 bs bc cc : Nat) (SA : Option Addr) (sc : Nat) (l' : List AstA) (rest : List Value) (w : World) : Prop where
 box : Box w bs 111 (selL bc ps.length cc SA l'.length sc false 0 0).toArray
 chs : Box w bc 115 (flat chC (ps.map mkCh) ++ rest).toArray
 asts : IsAsts w SA l'.length l'
 same : sameA l' lib
 len : l'.length ≤ maxLen
 pics : ∀ a ∈ l', a.pics.length ≤ 2000000
 ne : bs ≠ bc
 sb : ¬ libFp SA l' bs
 sc : ¬ libFp SA l' bc
 nb : n0 ≤ bs
 nc : n0 ≤ bc
 nl : ∀ k, libFp SA l' k → n0 ≤ k
def RetSel (ps : List PlS) (lib : List AstA) (w : World) (e : Ending) (w' : World) : Prop :=
 (newP ps lib = false ∧ e = .returned (.tuple #[.pointer none, .int .i64 220]) ∧ Below w.heap.size w w') ∨
 (newP ps lib = true ∧ ∃ bs bc cc SA sc l' rest, e = .returned (.tuple #[.pointer (some ⟨bs, 0, none⟩), .int .i64 0]) ∧ SelN ps lib w.heap.size bs bc cc SA sc l' rest w' ∧ Below w.heap.size w w')
theorem new_end {w w' : World} {bS : Nat} {ps : List PlS} {lib : List AstA} {CA SA : Option Addr} {cc sc : Nat} {l' : List AstA} {K : List FK}
  (HP : Hp w w' [rowsR w.heap.size 91 2 AstA.cells astOk astFp (.slice SA l'.length sc) l', rowsR w.heap.size 115 7 chC okT feF (.slice CA ps.length cc) (ps.map mkCh), bx bS 111 [.slice CA ps.length cc, .slice SA l'.length sc, .bool false, .int .i64 0, .int .i64 0] true] K)
  (hok : okP [] ps = okP (ps.map (·.c)) []) (hn : 1 ≤ ps.length ∧ ps.length ≤ 40) (hll : l'.length = lib.length) (hsame : sameA l' lib) (hval : ∀ a ∈ lib, validA a.item a.pics = true) (hacc : ∀ a ∈ l', a.pics.length ≤ 2000000) (hln : lib.length ≤ maxLen) :
  newP ps lib = true ∧ ∃ bs bc cc SA sc l' rest, Ending.returned (.tuple #[.pointer (some ⟨bS, 0, none⟩), .int .i64 0]) = .returned (.tuple #[.pointer (some ⟨bs, 0, none⟩), .int .i64 0]) ∧ SelN ps lib w.heap.size bs bc cc SA sc l' rest w' ∧ Below w.heap.size w w' := by
 have hb := HP.bl
 obtain ⟨g, tail, rfl, hc, HQ⟩ := HP.rowBox 1 rfl (by rw [List.length_map]) (by omega)
 have HQ : Hp w w' [rowsR w.heap.size 91 2 AstA.cells astOk astFp (.slice SA l'.length sc) l', bx g 115 (flat chC (ps.map mkCh) ++ tail) true, bx bS 111 [.slice (some ⟨g, 0, none⟩) ps.length cc, .slice SA l'.length sc, .bool false, .int .i64 0, .int .i64 0] true] K := HQ
 have hF := HQ.held 0 rfl
 have hrow : ∀ b off, SA = some ⟨b, off, none⟩ → (Value.slice SA l'.length sc).ownBlock = some b := fun b off e => by rw [e]; rfl
 have hfp : ∀ k, libFp SA l' k → (rowsR w.heap.size 91 2 AstA.cells astOk astFp (.slice SA l'.length sc) l').fp k := fun k hk => by
  rcases hk with ⟨_, off, e⟩ | hk
  ·exact .inl (hrow k off e)
  ·exact .inr hk
 refine ⟨?_, bS, g, cc, SA, sc, l', tail, rfl, ⟨HQ.at_ 2 rfl, HQ.at_ 1 rfl, ⟨⟨rfl, Rd.of_own hF.1⟩, fun a ha => (hF.2 a ha).1⟩, hsame, by omega, hacc, fun e => HQ.ne 1 2 rfl rfl (by decide) e.symm, fun hk => pairwise_at HQ.apart (i := 0) (j := 2) rfl rfl (by omega) _ (hfp _ hk) rfl, fun hk => pairwise_at HQ.apart (i := 0) (j := 1) rfl rfl (by omega) _ (hfp _ hk) rfl, HQ.fresh _ (List.mem_of_getElem? (i := 2) rfl) rfl _ rfl, HQ.fresh _ (List.mem_of_getElem? (i := 1) rfl) rfl _ rfl, fun k hk => HQ.fresh _ (List.mem_of_getElem? (i := 0) rfl) rfl _ (hfp k hk)⟩, hb⟩
 unfold newP
 rw [hok, decide_eq_true hn.1, decide_eq_true hn.2]
 simp only [okP, Bool.true_and]
 exact List.all_eq_true.2 fun a ha => hval a ha
theorem same_any (c : Ch) (bp : Nat) (p : PlS) (w : World) (hp : Box w bp 67 [(ii p.c), (ii p.nm), (ii 1), (ii 0), (.slice none 0 0), (ii 0), (ii 2), (ii p.len), (ii 1), (.slice p.IA 3 p.ic), (.slice none 0 0), (.slice none 0 0), (.slice none 0 0)].toArray) :
  Calls Tryz.prog 34 #[.agg (chC c), .pointer (some ⟨bp, 0, none⟩)] w fun e w' => e = .returned (.bool (c.number == p.c)) ∧ Below w.heap.size w w' := by
 have HP := ((Hp.start w).keepF (boxK bp 67 [(ii p.c), (ii p.nm), (ii 1), (ii 0), (.slice none 0 0), (ii 0), (ii 2), (ii p.len), (ii 1), (.slice p.IA 3 p.ic), (.slice none 0 0), (.slice none 0 0), (.slice none 0 0)]) hp (boxK_ok _ _ _) (fun k hk => ⟨boxK_lt hp hk, fun x hx => by cases hx⟩))
 refine w_enter 9 [(0, (.agg #[(ii c.item), (ii c.index), (ii c.full), (ii c.taken), (ii c.number), (ii c.num), (ii c.den)])), (1, (pt bp 0))] Tryz.func34 rfl Tryz.ntmps34 (by kernel_rfl) (by kernel_rfl) fun a H => ?_
 refine zsq (zrg ?_)
 refine H.al HP 2 115 [(ii c.item), (ii c.index), (ii c.full), (ii c.taken), (ii c.number), (ii c.num), (ii c.den)] fun b_1 w_2 a H HP => ?_
 refine H.ge HP [(3, (.bool false))] [] fun a H => ?_
 refine ztn (zsq (zrg ?_))
 refine H.go HP 3 [(4, (pt b_1 4)), (5, (ii c.number)), (6, (pt bp 0))] [0] fun a H => H.u 7 (ii p.c) (ex_l1 (Box.cell (i := 0) (HP.fact 0 rfl : Box _ bp 67 _) rfl)) fun a H => ?_
 refine H.ge HP [(3, (.bool (c.number == p.c)))] [] fun a H => ?_
 refine ztn (zrt ?_)
 refine H.r1 (.bool (c.number == p.c)) Tryz.results34 ?_
 exact ⟨rfl, HP.bl⟩
theorem index_any (CA : Option Addr) (cc bp : Nat) (chs : List Ch) (p : PlS) (w : World) (hl : chs.length ≤ 1000) (hr : IsRow 7 chC w CA chs) (hp : Box w bp 67 [(ii p.c), (ii p.nm), (ii 1), (ii 0), (.slice none 0 0), (ii 0), (ii 2), (ii p.len), (ii 1), (.slice p.IA 3 p.ic), (.slice none 0 0), (.slice none 0 0), (.slice none 0 0)].toArray) :
  Calls Tryz.prog 67 #[.slice CA chs.length cc, (.func (.func 34) #[] #[(pt bp 0)])] w fun e w' => ∃ r, e = .returned (ii r) ∧ decide (r ≥ 0) = chs.any (fun c => c.number == p.c) ∧ Below w.heap.size w w' := by
 have HP := (((Hp.start w).keepF (boxK bp 67 [(ii p.c), (ii p.nm), (ii 1), (ii 0), (.slice none 0 0), (ii 0), (ii 2), (ii p.len), (ii 1), (.slice p.IA 3 p.ic), (.slice none 0 0), (.slice none 0 0), (.slice none 0 0)]) hp (boxK_ok _ _ _) (fun k hk => ⟨boxK_lt hp hk, fun x hx => by cases hx⟩)).keepF (rowF 7 chC CA chs) hr (rowF_ok _ _ _ _) (fun k hk => ⟨hr.lt k hk, fun x hx => by cases hx⟩))
 refine w_enter 19 [(0, (.slice CA chs.length cc)), (1, (.func (.func 34) #[] #[(pt bp 0)]))] Tryz.func67 rfl Tryz.ntmps67 (by kernel_rfl) (by kernel_rfl) fun a H => ?_
 refine zsq (zrg ?_)
 refine H.ge HP [(4, (ii 0))] [] fun a H => ?_
 refine ztn (zsq (zsq (zrg ?_)))
 refine H.ge HP [(6, (.slice CA chs.length cc)), (7, (ii chs.length)), (8, (ii 0))] [] fun a H => ?_
 refine ztn (zbk ?_)
 refine w_loop (fun mm a wv => ∃ (i : Nat), chs.length - i = mm ∧ Sl 19 [(8, (ii i)), (6, (.slice CA chs.length cc)), (7, (ii chs.length)), (0, (.slice CA chs.length cc)), (1, (.func (.func 34) #[] #[(pt bp 0)]))] a ∧ Hp w wv [] [rowF 7 chC CA chs, boxK bp 67 [(ii p.c), (ii p.nm), (ii 1), (ii 0), (.slice none 0 0), (ii 0), (ii 2), (ii p.len), (ii 1), (.slice p.IA 3 p.ic), (.slice none 0 0), (.slice none 0 0), (.slice none 0 0)]] ∧ (i ≤ chs.length) ∧ (chs.any (fun c => c.number == p.c) = (chs.drop i).any (fun c => c.number == p.c))) (chs.length - 0) ?_ ?_
 ·exact ⟨0, (by omega), H.keep (by kernel_rfl), HP, (Nat.zero_le _), rfl⟩
 rintro mm a w_1 ⟨i, hmeas, H, HP, hib, hno⟩
 refine zsq (zrg ?_)
 refine H.ge HP [(9, (.bool (decide ((i : Int) < (chs.length : Int)))))] [] fun a H => ?_
 refine ztn (zsq ?_)
 refine w_if H rfl (fun g9 => ?_) (fun g9 => ?_)
 ·have g9p := of_decide_eq_true g9
  refine zsk (ztn (zsq (zbk (zsq (zrg ?_)))))
  refine H.ge HP [(5, (ii i))] [] fun a H => ?_
  refine ztn (zsq (zrg ?_))
  refine H.go HP 3 [(11, (.func (.func 34) #[] #[(pt bp 0)])), (12, (.slice CA chs.length cc)), (13, (ii i))] [] fun a H => ?_
  obtain ⟨bu, ou, x, hA, _, hdx, hx, _, _⟩ := IsRow.get chC_size (HP.fact 0 rfl : IsRow 7 chC _ CA chs) (i := i) (by omega)
  refine H.u 14 (.pointer (some ⟨bu, ou + i * 7, none⟩)) (ex_indexA (b := bu) (off := ou) (len := chs.length) (cap := cc) (e := 115) (k := 7) (ik := .i64) (i := (i : Int)) (m := i) hA (by kernel_rfl) (by kernel_rfl) rfl (by omega) (by kernel_rfl) (by kernel_rfl)) fun a H => H.u 15 (.agg #[(ii x.item), (ii x.index), (ii x.full), (ii x.taken), (ii x.number), (ii x.num), (ii x.den)]) (ex_lN [(ii x.item), (ii x.index), (ii x.full), (ii x.taken), (ii x.number), (ii x.num), (ii x.den)] (IsRow.cells chC_size (HP.fact 0 rfl : IsRow 7 chC _ CA chs) hA hx)) fun a H => H.cb HP 16 (Tryz.call34 _ _) (same_any x bp p w_1 (HP.fact 1 rfl)) fun w_2 hb a H HP => ?_
  refine znl (ztn ?_)
  refine w_if H rfl (fun g16 => ?_) (fun g16 => ?_)
  ·have g16p := eq_of_beq g16
   refine zsq (zrg ?_)
   refine H.ge HP [(4, (ii i))] [] fun a H => ?_
   refine ztn (zrt (zibr (ztr (ztr (zibr (ztr ?_))))))
   refine H.r1 (ii i) Tryz.results67 ?_
   exact ⟨(i : Int), rfl, by rw [hno, hdx, List.any_cons, show (x.number == p.c) = true from beq_iff_eq.2 g16p, Bool.true_or]; exact decide_eq_true (by omega), HP.bl⟩
  have g16p := ne_of_beq_false g16
  refine zsk (zibn (ztn (zrg ?_)))
  refine H.wi 18 ((i : Int) + 1) fun a H => ?_
  refine H.ge HP [(8, (ii ((i : Int) + 1)))] [] fun a H => ?_
  refine ztn ?_
  have H := H.as 8 (ii ((i + 1 : Nat) : Int)) rfl rfl
  refine ⟨_, ?_, i + 1, rfl, H.keep (by kernel_rfl), HP, (by omega), (by rw [hno, hdx, List.any_cons, beq_eq_false_iff_ne.2 g16p, Bool.false_or])⟩
  omega
 have g9p := of_decide_eq_false g9
 refine wp_exit (then_exit (then_exit ?_))
 refine w_exit_here ?_
 refine ztn (zsq (zrg ?_))
 refine H.ge HP [(4, (ii (-1)))] [] fun a H => ?_
 refine ztn (zrt ?_)
 refine H.r1 (ii (-1)) Tryz.results67 ?_
 exact ⟨-1, rfl, by rw [hno, List.drop_of_length_le (by omega)]; rfl, HP.bl⟩
theorem contains_any (CA : Option Addr) (cc bp : Nat) (chs : List Ch) (p : PlS) (w : World) (hl : chs.length ≤ 1000) (hr : IsRow 7 chC w CA chs) (hp : Box w bp 67 [(ii p.c), (ii p.nm), (ii 1), (ii 0), (.slice none 0 0), (ii 0), (ii 2), (ii p.len), (ii 1), (.slice p.IA 3 p.ic), (.slice none 0 0), (.slice none 0 0), (.slice none 0 0)].toArray) :
  Calls Tryz.prog 36 #[.slice CA chs.length cc, (.func (.func 34) #[] #[(pt bp 0)])] w fun e w' => e = .returned (.bool (chs.any (fun c => c.number == p.c))) ∧ Below w.heap.size w w' := by
 have HP := (((Hp.start w).keepF (boxK bp 67 [(ii p.c), (ii p.nm), (ii 1), (ii 0), (.slice none 0 0), (ii 0), (ii 2), (ii p.len), (ii 1), (.slice p.IA 3 p.ic), (.slice none 0 0), (.slice none 0 0), (.slice none 0 0)]) hp (boxK_ok _ _ _) (fun k hk => ⟨boxK_lt hp hk, fun x hx => by cases hx⟩)).keepF (rowF 7 chC CA chs) hr (rowF_ok _ _ _ _) (fun k hk => ⟨hr.lt k hk, fun x hx => by cases hx⟩))
 refine w_enter 9 [(0, (.slice CA chs.length cc)), (1, (.func (.func 34) #[] #[(pt bp 0)]))] Tryz.func36 rfl Tryz.ntmps36 (by kernel_rfl) (by kernel_rfl) fun a H => ?_
 refine zsq (zrg ?_)
 refine H.ge HP [(4, (.bool false))] [] fun a H => ?_
 refine ztn (zsq (zrg ?_))
 refine H.go HP 2 [(5, (.slice CA chs.length cc)), (6, (.func (.func 34) #[] #[(pt bp 0)]))] [] fun a H => ?_
 refine H.cl 7 (Tryz.call67 _ _) (index_any CA cc bp chs p w hl (HP.fact 0 rfl) (HP.fact 1 rfl)) ?_
 rintro e w_1 ⟨r, rfl, hrr, hb⟩
 refine ⟨_, rfl, ?_⟩
 intro a H
 have HP := HP.next hb
 refine H.ge HP [(4, (.bool (decide (r ≥ 0))))] [] fun a H => ?_
 refine ztn (zrt ?_)
 refine H.r1 (.bool (decide (r ≥ 0))) Tryz.results36 ?_
 exact ⟨by rw [← hrr], HP.bl⟩
theorem new_any (AP : Option Addr) (cp lc : Nat) (ps : List PlS) (LA : Option Addr) (lib : List AstA) (w : World) (hps : ∀ p ∈ ps, (0 ≤ p.c ∧ p.c ≤ 39) ∧ rateOk p.nm 1 = true) (hln2 : lib.length ≤ 1000000) (hL : Laid w) (hits : ∀ p ∈ ps, IsRow 5 itC w p.IA its3) (hrp : IsRow 13 plnC w AP ps) (hlib : IsAsts w LA lib.length lib) (hln : lib.length ≤ maxLen) (hlp : ∀ a ∈ lib, a.pics.length ≤ 2000000) :
  Calls Tryz.prog 13 #[.slice AP ps.length cp, .slice LA lib.length lc] w fun e w' => RetSel ps lib w e w' := by
 have HP := (((((Hp.start w).keepF (astsK LA lib) hlib (fun _ _ h hk hs => IsAsts.keep h hk hs) (fun k hk => ⟨IsAsts.lt hlib hk, fun x hx => by cases hx⟩)).keepF (rowF 13 plnC AP ps) hrp (rowF_ok _ _ _ _) (fun k hk => ⟨hrp.lt k hk, fun x hx => by cases hx⟩)).keepF (itsK ps) hits (itsK_ok _) (fun k hk => ⟨itsK_lt hits hk, fun x hx => by cases hx⟩)).keepF (laidK) hL laidK_ok (fun k hk => ⟨hL.lt k hk, fun x hx => by cases hx⟩))
 refine w_enter 82 [(0, (.slice AP ps.length cp)), (1, (.slice LA lib.length lc))] Tryz.func13 rfl Tryz.ntmps13 (by kernel_rfl) (by kernel_rfl) fun a H => ?_
 refine zsq (zrg ?_)
 refine H.ge HP [(4, (.pointer none)), (5, (ii 0))] [] fun a H => ?_
 refine ztn (zsq (zsq (zrg ?_)))
 refine H.go HP 4 [(15, (.bool (decide ((ps.length : Int) < 1))))] [] fun a H => ?_
 refine H.split 15 rfl (fun g15 H => ?_) (fun g15 H => ?_)
 ·have g15p := of_decide_eq_true g15
  refine H.ge HP [(19, (.bool true))] [] fun a H => ?_
  refine ztn ?_
  refine w_ift H rfl ?_
  refine zsq (zrg ?_)
  refine H.ge HP [(4, (.pointer none)), (5, (ii 220))] [] fun a H => ?_
  refine ztn (zrt (ztr ?_))
  refine H.ret2 (fn := Tryz.f13) Tryz.results13 (RV.tmp_ (v := (.pointer none)) (by kernel_rfl)) (RV.tmp_ (v := (ii 220)) (by kernel_rfl)) ?_
  exact .inl ⟨newP_few (by omega), rfl, HP.bl⟩
 have g15p := of_decide_eq_false g15
 refine H.ge HP [(19, (.bool (decide ((ps.length : Int) > 40))))] [] fun a H => ?_
 refine ztn ?_
 refine w_if H rfl (fun g19 => ?_) (fun g19 => ?_)
 ·have g19p := of_decide_eq_true g19
  refine zsq (zrg ?_)
  refine H.ge HP [(4, (.pointer none)), (5, (ii 220))] [] fun a H => ?_
  refine ztn (zrt (ztr ?_))
  refine H.ret2 (fn := Tryz.f13) Tryz.results13 (RV.tmp_ (v := (.pointer none)) (by kernel_rfl)) (RV.tmp_ (v := (ii 220)) (by kernel_rfl)) ?_
  exact .inl ⟨newP_few (by omega), rfl, HP.bl⟩
 have g19p := of_decide_eq_false g19
 refine zsk (ztn (zsq (zrg ?_)))
 refine H.go HP 1 [(20, (.agg #[(.slice none 0 0), (.slice none 0 0), (.bool false), (ii 0), (ii 0)]))] [] fun a H => H.al HP 21 111 [(.slice none 0 0), (.slice none 0 0), (.bool false), (ii 0), (ii 0)] fun b_1 w_2 a H HP => ?_
 refine H.ge HP [(6, (pt b_1 0))] [] fun a H => ?_
 refine ztn (zsq (zsq (zrg ?_)))
 refine H.ge HP [(22, (.slice AP ps.length cp)), (23, (ii ps.length)), (24, (ii 0))] [] fun a H => ?_
 refine ztn (zbk ?_)
 have HP := HP.nilRow w.heap.size 115 7 chC okT feF elOk_flat
 refine w_loop (fun mm a wv => ∃ (i : Nat), ∃ (CA : Option Addr), ∃ (cc : Nat), ps.length - i = mm ∧ Sl 82 [(24, (ii i)), (1, (.slice LA lib.length lc)), (4, (.pointer none)), (5, (ii 0)), (6, (pt b_1 0)), (22, (.slice AP ps.length cp)), (23, (ii ps.length))] a ∧ Hp w wv [(rowsR w.heap.size 115 7 chC okT feF (.slice CA ((ps.take i).length) cc) ((ps.take i).map mkCh)), bx b_1 111 [(.slice CA ((ps.take i).length) cc), (.slice none 0 0), (.bool false), (ii 0), (ii 0)] true] [laidK, itsK ps, rowF 13 plnC AP ps, astsK LA lib] ∧ (i ≤ ps.length) ∧ (okP [] ps = okP ((ps.take i).map (·.c)) (ps.drop i))) (ps.length - 0) ?_ ?_
 ·exact ⟨0, none, 0, (by omega), H.keep (by kernel_rfl), HP, (Nat.zero_le _), rfl⟩
 rintro mm a w_3 ⟨i, CA, cc, hmeas, H, HP, hi, hok⟩
 have htl : (ps.take i).length = i := List.length_take_of_le hi
 refine zsq (zrg ?_)
 refine H.ge HP [(25, (.bool (decide ((i : Int) < (ps.length : Int)))))] [] fun a H => ?_
 refine ztn (zsq ?_)
 refine w_if H rfl (fun g25 => ?_) (fun g25 => ?_)
 ·have g25p := of_decide_eq_true g25
  refine zsk (ztn (zsq (zbk (zsq (zrg ?_)))))
  obtain ⟨bu, ou, p, hA, _, hdp, hp, hpm, _⟩ := IsRow.get plnC_size (HP.fact 2 rfl : IsRow 13 plnC _ AP ps) (i := i) (by omega)
  obtain ⟨hpc, hpr⟩ := hps p hpm
  refine H.u 26 (.pointer (some ⟨bu, ou + i * 13, none⟩)) (ex_indexA (b := bu) (off := ou) (len := ps.length) (cap := cp) (e := 67) (k := 13) (ik := .i64) (i := (i : Int)) (m := i) hA (by kernel_rfl) (by kernel_rfl) rfl (by omega) (by kernel_rfl) (by kernel_rfl)) fun a H => H.u 27 (.agg #[(ii p.c), (ii p.nm), (ii 1), (ii 0), (.slice none 0 0), (ii 0), (ii 2), (ii p.len), (ii 1), (.slice p.IA 3 p.ic), (.slice none 0 0), (.slice none 0 0), (.slice none 0 0)]) (ex_lN [(ii p.c), (ii p.nm), (ii 1), (ii 0), (.slice none 0 0), (ii 0), (ii 2), (ii p.len), (ii 1), (.slice p.IA 3 p.ic), (.slice none 0 0), (.slice none 0 0), (.slice none 0 0)] (IsRow.cells plnC_size (HP.fact 2 rfl : IsRow 13 plnC _ AP ps) hA hp)) fun a H => H.al HP 8 67 [(ii 0), (ii 0), (ii 0), (ii 0), (.slice none 0 0), (ii 0), (ii 0), (ii 0), (ii 0), (.slice none 0 0), (.slice none 0 0), (.slice none 0 0), (.slice none 0 0)] fun b_4 w_5 a H HP => H.sh HP 0 0 (.agg #[(ii p.c), (ii p.nm), (ii 1), (ii 0), (.slice none 0 0), (ii 0), (ii 2), (ii p.len), (ii 1), (.slice p.IA 3 p.ic), (.slice none 0 0), (.slice none 0 0), (.slice none 0 0)]) rfl fun w_6 a H HP => ?_
  refine znl (ztn (zsq (zrg ?_)))
  refine H.ge HP [(9, (.func (.func 34) #[] #[(pt b_4 0)]))] [] fun a H => ?_
  refine ztn (zsq (zsq (zrg ?_)))
  refine H.go HP 1 [(29, (.agg #[(ii p.c), (ii p.nm), (ii 1), (ii 0), (.slice none 0 0), (ii 0), (ii 2), (ii p.len), (ii 1), (.slice p.IA 3 p.ic), (.slice none 0 0), (.slice none 0 0), (.slice none 0 0)]))] [0] fun a H => H.cb HP 30 (Tryz.call35 _ _) (pvalid_any p.c p.nm p.len p.IA p.ic w_6 hpc hpr (HP.fact 0 rfl) ((HP.fact 1 rfl) p hpm)) fun w_7 hb a H HP => H.go HP 2 [(32, (.bool (!(inR p.len 1 100000000))))] [] fun a H => ?_
  refine H.split 32 rfl (fun g32 H => ?_) (fun g32 H => ?_)
  ·have g32p := not_is_true g32
   refine H.ge HP [(39, (.bool true))] [] fun a H => ?_
   refine ztn ?_
   refine w_ift H rfl ?_
   refine zsq (zrg ?_)
   refine H.ge HP [(4, (.pointer none)), (5, (ii 220))] [] fun a H => ?_
   refine ztn (zrt (ztr (zibr (ztr (ztr (zibr (ztr ?_)))))))
   refine H.ret2 (fn := Tryz.f13) Tryz.results13 (RV.tmp_ (v := (.pointer none)) (by kernel_rfl)) (RV.tmp_ (v := (ii 220)) (by kernel_rfl)) ?_
   exact .inl ⟨newP_bad (by rw [hok, hdp]; exact okP_len (by simpa using g32p)), rfl, HP.bl⟩
  have g32p := not_is_false g32
  refine H.go HP 5 [(36, (.slice CA ((ps.take i).length) cc)), (37, (.func (.func 34) #[] #[(pt b_4 0)]))] [2] fun a H => H.cb HP 38 (Tryz.call36 _ _) ((by have hh := contains_any CA cc b_4 ((ps.take i).map mkCh) p w_7 (by rw [List.length_map]; omega) (ch_row (HP.held 1 rfl) rfl) (HP.at_ 0 rfl); rw [List.length_map] at hh; exact hh)) fun w_8 hb a H HP => ?_
  refine H.ge HP [(39, (.bool (((ps.take i).map mkCh).any (fun c => c.number == p.c))))] [] fun a H => ?_
  refine ztn ?_
  refine w_if H rfl (fun g39 => ?_) (fun g39 => ?_)
  ·have g39p := g39
   refine zsq (zrg ?_)
   refine H.ge HP [(4, (.pointer none)), (5, (ii 220))] [] fun a H => ?_
   refine ztn (zrt (ztr (zibr (ztr (ztr (zibr (ztr ?_)))))))
   refine H.ret2 (fn := Tryz.f13) Tryz.results13 (RV.tmp_ (v := (.pointer none)) (by kernel_rfl)) (RV.tmp_ (v := (ii 220)) (by kernel_rfl)) ?_
   exact .inl ⟨newP_bad (by rw [hok, hdp]; exact okP_num (by simpa using g39p)), rfl, HP.bl⟩
  have g39p := g39
  refine zsk (ztn ?_)
  have HP := HP.front 1 rfl _ rfl
  have HP := HP.front 2 rfl _ rfl
  refine An.start (fun v => Hp w v [bx b_4 67 [(ii p.c), (ii p.nm), (ii 1), (ii 0), (.slice none 0 0), (ii 0), (ii 2), (ii p.len), (ii 1), (.slice p.IA 3 p.ic), (.slice none 0 0), (.slice none 0 0), (.slice none 0 0)] true] [laidK, itsK ps, rowF 13 plnC AP ps, astsK LA lib]) 15 16 HP wide_follows rfl fun w_9 HP => ?_
  refine An.go H (.inr (((HP.tail rfl).tail rfl))) 6 [0, 1, 2, 3, 5, 6, 7, 8, 9, 10] [(40, (pt b_1 0)), (43, (pt b_1 0)), (50, (.agg #[(ii 0), (ii 0), (ii 500), (ii 0), (ii p.c), (ii p.nm), (ii 1)]))] [0, 0] fun a H => ?_
  refine An.two 4 11 (by kernel_rfl) ?_ ?_
  ·refine Op.val H 44 (.slice CA ((ps.take i).length) cc) rfl (by kernel_rfl) (ex_l1 (HP.cell 0 rfl 0 rfl)) fun a H => ?_
   refine ⟨.inr (((HP.tail rfl).tail rfl)), ?_⟩
   refine An.one 11 (by kernel_rfl) ?_
   refine Op.alloc H HP 51 (fun b => (.slice (some ⟨b, 0, none⟩) 1 1)) 115 [(ii 0), (ii 0), (ii 500), (ii 0), (ii p.c), (ii p.nm), (ii 1)] rfl (by kernel_rfl) (fun w => by kernel_rfl) fun b_10 w_11 a H HP => ?_
   refine ⟨.inr ((((HP.tail rfl).tail rfl).tail rfl)), ?_⟩
   refine An.one 12 (by kernel_rfl) ?_
   have HP := HP.pend0 2 rfl elOk_flat (mkCh p) [bx b_10 115 [(ii 0), (ii 0), (ii 500), (ii 0), (ii p.c), (ii p.nm), (ii 1)] true, bx b_1 111 [(.slice CA ((ps.take i).length) cc), (.slice none 0 0), (.bool false), (ii 0), (ii 0)] true, (rowsP w.heap.size 115 7 chC okT feF (.slice CA ((ps.take i).length) cc) ((ps.take i).map mkCh) (mkCh p)), bx b_4 67 [(ii p.c), (ii p.nm), (ii 1), (ii 0), (.slice none 0 0), (ii 0), (ii 2), (ii p.len), (ii 1), (.slice p.IA 3 p.ic), (.slice none 0 0), (.slice none 0 0), (.slice none 0 0)] true] (by kernel_rfl) trivial (fun _ h => h)
   refine Op.push H HP 52 2 0 (v := (.slice CA ((ps.take i).length) cc)) (e := 115) (p := mkCh p) (l := ((ps.take i).map mkCh)) (cs := chC) (ok := okT) (fe := feF) (size := 7) (z := (.agg #[(ii 0), (ii 0), (ii 0), (ii 0), (ii 0), (ii 0), (ii 0)])) (bytes := 56) (bb := b_10) (tb := 115) (fb := true) rfl (by kernel_rfl) elOk_flat (by kernel_rfl) (by kernel_rfl) rfl (by kernel_rfl) (by kernel_rfl) (by kernel_rfl) (by kernel_rfl) (by kernel_rfl) rfl (by kernel_rfl) (by rw [List.length_map]; unfold maxLen; omega) (by rw [List.length_map]; omega) fun B_12 c_13 w_14 a H HP => ?_
   have HP : Hp w w_14 [bx b_10 115 [(ii 0), (ii 0), (ii 500), (ii 0), (ii p.c), (ii p.nm), (ii 1)] true, bx b_1 111 [(.slice CA ((ps.take i).length) cc), (.slice none 0 0), (.bool false), (ii 0), (ii 0)] true, (rowsR w.heap.size 115 7 chC okT feF (.slice B_12 (((ps.take i).map mkCh).length + 1) c_13) (((ps.take i).map mkCh) ++ [mkCh p])), bx b_4 67 [(ii p.c), (ii p.nm), (ii 1), (ii 0), (.slice none 0 0), (ii 0), (ii 2), (ii p.len), (ii 1), (.slice p.IA 3 p.ic), (.slice none 0 0), (.slice none 0 0), (.slice none 0 0)] true] [laidK, itsK ps, rowF 13 plnC AP ps, astsK LA lib] := HP
   refine ⟨.inr ((((HP.tail rfl).tail rfl).tail rfl)), ?_⟩
   refine An.go H (.inr ((((HP.tail rfl).tail rfl).tail rfl))) 1 [13, 14] [(54, (pt b_1 0))] [] fun a H => ?_
   refine An.one 15 (by kernel_rfl) ?_
   refine Op.sh H HP 1 0 (.slice B_12 (((ps.take i).map mkCh).length + 1) c_13) rfl rfl fun w_15 a H HP => ?_
   refine ⟨.inl (by kernel_rfl), ?_⟩
   refine An.done (by kernel_rfl) ?_
   refine zibn (ztn (zrg ?_))
   refine H.wi 55 ((i : Int) + 1) fun a H => ?_
   refine H.ge HP [(24, (ii ((i : Int) + 1)))] [] fun a H => ?_
   refine ztn ?_
   have H := H.as 24 (ii ((i + 1 : Nat) : Int)) rfl rfl
   refine ⟨_, ?_, i + 1, B_12, c_13, rfl, H.keep (by kernel_rfl), (by have hh := HP.sub [2, 1] [(rowsR w.heap.size 115 7 chC okT feF (.slice B_12 (((ps.take i).map mkCh).length + 1) c_13) (((ps.take i).map mkCh) ++ [mkCh p])), bx b_1 111 [(.slice B_12 (((ps.take i).map mkCh).length + 1) c_13), (.slice none 0 0), (.bool false), (ii 0), (ii 0)] true] (by kernel_rfl) (by kernel_rfl); rw [show ((ps.take i).map mkCh).length + 1 = (ps.take (i + 1)).length from (by rw [List.length_map, htl, List.length_take_of_le (by omega)]), show (ps.take i).map mkCh ++ [mkCh p] = (ps.take (i + 1)).map mkCh from (by rw [take_snocI hp]; simp)] at hh; exact hh), (by omega), (by rw [hok, hdp, okP_step (by simpa using g32p) (by simpa using g39p), take_snocI hp]; simp)⟩
   omega
  refine Op.alloc H HP 51 (fun b => (.slice (some ⟨b, 0, none⟩) 1 1)) 115 [(ii 0), (ii 0), (ii 500), (ii 0), (ii p.c), (ii p.nm), (ii 1)] rfl (by kernel_rfl) (fun w => by kernel_rfl) fun b_16 w_17 a H HP => ?_
  refine ⟨.inr ((((HP.tail rfl).tail rfl).tail rfl)), ?_⟩
  refine An.one 4 (by kernel_rfl) ?_
  refine Op.val H 44 (.slice CA ((ps.take i).length) cc) rfl (by kernel_rfl) (ex_l1 (HP.cell 1 rfl 0 rfl)) fun a H => ?_
  refine ⟨.inr ((((HP.tail rfl).tail rfl).tail rfl)), ?_⟩
  refine An.one 12 (by kernel_rfl) ?_
  have HP := HP.pend0 2 rfl elOk_flat (mkCh p) [bx b_16 115 [(ii 0), (ii 0), (ii 500), (ii 0), (ii p.c), (ii p.nm), (ii 1)] true, bx b_1 111 [(.slice CA ((ps.take i).length) cc), (.slice none 0 0), (.bool false), (ii 0), (ii 0)] true, (rowsP w.heap.size 115 7 chC okT feF (.slice CA ((ps.take i).length) cc) ((ps.take i).map mkCh) (mkCh p)), bx b_4 67 [(ii p.c), (ii p.nm), (ii 1), (ii 0), (.slice none 0 0), (ii 0), (ii 2), (ii p.len), (ii 1), (.slice p.IA 3 p.ic), (.slice none 0 0), (.slice none 0 0), (.slice none 0 0)] true] (by kernel_rfl) trivial (fun _ h => h)
  refine Op.push H HP 52 2 0 (v := (.slice CA ((ps.take i).length) cc)) (e := 115) (p := mkCh p) (l := ((ps.take i).map mkCh)) (cs := chC) (ok := okT) (fe := feF) (size := 7) (z := (.agg #[(ii 0), (ii 0), (ii 0), (ii 0), (ii 0), (ii 0), (ii 0)])) (bytes := 56) (bb := b_16) (tb := 115) (fb := true) rfl (by kernel_rfl) elOk_flat (by kernel_rfl) (by kernel_rfl) rfl (by kernel_rfl) (by kernel_rfl) (by kernel_rfl) (by kernel_rfl) (by kernel_rfl) rfl (by kernel_rfl) (by rw [List.length_map]; unfold maxLen; omega) (by rw [List.length_map]; omega) fun B_18 c_19 w_20 a H HP => ?_
  have HP : Hp w w_20 [bx b_16 115 [(ii 0), (ii 0), (ii 500), (ii 0), (ii p.c), (ii p.nm), (ii 1)] true, bx b_1 111 [(.slice CA ((ps.take i).length) cc), (.slice none 0 0), (.bool false), (ii 0), (ii 0)] true, (rowsR w.heap.size 115 7 chC okT feF (.slice B_18 (((ps.take i).map mkCh).length + 1) c_19) (((ps.take i).map mkCh) ++ [mkCh p])), bx b_4 67 [(ii p.c), (ii p.nm), (ii 1), (ii 0), (.slice none 0 0), (ii 0), (ii 2), (ii p.len), (ii 1), (.slice p.IA 3 p.ic), (.slice none 0 0), (.slice none 0 0), (.slice none 0 0)] true] [laidK, itsK ps, rowF 13 plnC AP ps, astsK LA lib] := HP
  refine ⟨.inr ((((HP.tail rfl).tail rfl).tail rfl)), ?_⟩
  refine An.go H (.inr ((((HP.tail rfl).tail rfl).tail rfl))) 1 [13, 14] [(54, (pt b_1 0))] [] fun a H => ?_
  refine An.one 15 (by kernel_rfl) ?_
  refine Op.sh H HP 1 0 (.slice B_18 (((ps.take i).map mkCh).length + 1) c_19) rfl rfl fun w_21 a H HP => ?_
  refine ⟨.inl (by kernel_rfl), ?_⟩
  refine An.done (by kernel_rfl) ?_
  refine zibn (ztn (zrg ?_))
  refine H.wi 55 ((i : Int) + 1) fun a H => ?_
  refine H.ge HP [(24, (ii ((i : Int) + 1)))] [] fun a H => ?_
  refine ztn ?_
  have H := H.as 24 (ii ((i + 1 : Nat) : Int)) rfl rfl
  refine ⟨_, ?_, i + 1, B_18, c_19, rfl, H.keep (by kernel_rfl), (by have hh := HP.sub [2, 1] [(rowsR w.heap.size 115 7 chC okT feF (.slice B_18 (((ps.take i).map mkCh).length + 1) c_19) (((ps.take i).map mkCh) ++ [mkCh p])), bx b_1 111 [(.slice B_18 (((ps.take i).map mkCh).length + 1) c_19), (.slice none 0 0), (.bool false), (ii 0), (ii 0)] true] (by kernel_rfl) (by kernel_rfl); rw [show ((ps.take i).map mkCh).length + 1 = (ps.take (i + 1)).length from (by rw [List.length_map, htl, List.length_take_of_le (by omega)]), show (ps.take i).map mkCh ++ [mkCh p] = (ps.take (i + 1)).map mkCh from (by rw [take_snocI hp]; simp)] at hh; exact hh), (by omega), (by rw [hok, hdp, okP_step (by simpa using g32p) (by simpa using g39p), take_snocI hp]; simp)⟩
  omega
 have g25p := of_decide_eq_false g25
 refine wp_exit (then_exit (then_exit ?_))
 refine w_exit_here ?_
 refine ztn (zsq (zsq (zrg ?_)))
 refine H.ge HP [(56, (.slice LA lib.length lc)), (57, (ii lib.length)), (58, (ii 0))] [] fun a H => ?_
 refine ztn (zbk ?_)
 have hie : i = ps.length := by omega
 subst hie
 rw [List.take_length, List.drop_length] at hok
 rw [List.take_length] at HP
 have HP := HP.nilRow w.heap.size 91 2 AstA.cells astOk astFp elOk_ast
 refine w_loop (fun mm a wv => ∃ (j : Nat), ∃ (SA : Option Addr), ∃ (sc : Nat), ∃ (l' : List AstA), lib.length - j = mm ∧ Sl 82 [(58, (ii j)), (6, (pt b_1 0)), (56, (.slice LA lib.length lc)), (57, (ii lib.length))] a ∧ Hp w wv [(rowsR w.heap.size 91 2 AstA.cells astOk astFp (.slice SA l'.length sc) l'), (rowsR w.heap.size 115 7 chC okT feF (.slice CA ps.length cc) (ps.map mkCh)), bx b_1 111 [(.slice CA ps.length cc), (.slice SA l'.length sc), (.bool false), (ii 0), (ii 0)] true] [laidK, itsK ps, rowF 13 plnC AP ps, astsK LA lib] ∧ (j ≤ lib.length) ∧ (l'.length = j) ∧ (sameA l' (lib.take j)) ∧ (∀ a ∈ lib.take j, validA a.item a.pics = true) ∧ (∀ a ∈ l', a.pics.length ≤ 2000000)) (lib.length - 0) ?_ ?_
 ·exact ⟨0, none, 0, [], (by omega), H.keep (by kernel_rfl), HP, (Nat.zero_le _), rfl, rfl, (fun _ h => by cases h), (fun _ h => by cases h)⟩
 rintro mm a w_22 ⟨j, SA, sc, l', hmeas, H, HP, hj, hll, hsame, hval, hacc⟩
 refine zsq (zrg ?_)
 refine H.ge HP [(59, (.bool (decide ((j : Int) < (lib.length : Int)))))] [] fun a H => ?_
 refine ztn (zsq ?_)
 refine w_if H rfl (fun g59 => ?_) (fun g59 => ?_)
 ·have g59p := of_decide_eq_true g59
  refine zsk (ztn (zsq (zbk (zsq (zrg ?_)))))
  obtain ⟨X, hX⟩ : ∃ X, lib.getD j astZ = X := ⟨_, rfl⟩
  obtain ⟨bu, ou, hA, hbl, pa, pb, hok2, hmem⟩ := IsAsts.get (HP.fact 3 rfl) (i := j) (by omega)
  rw [hX] at pa pb hok2 hmem
  refine H.u 60 (.pointer (some ⟨bu, ou + j * 2, none⟩)) (ex_indexA (b := bu) (off := ou) (len := lib.length) (cap := lc) (e := 91) (k := 2) (ik := .i64) (i := (j : Int)) (m := j) hA (by kernel_rfl) (by kernel_rfl) rfl (by omega) (by kernel_rfl) (by kernel_rfl)) fun a H => H.u 61 (.agg #[(ii X.item), (.slice X.A X.pics.length X.c)]) (ex_lN [(ii X.item), (.slice X.A X.pics.length X.c)] (cells2 pa pb)) fun a H => H.al HP 11 91 [(ii 0), (.slice none 0 0)] fun b_23 w_24 a H HP => H.sh HP 0 0 (.agg #[(ii X.item), (.slice X.A X.pics.length X.c)]) rfl fun w_25 a H HP => ?_
  refine znl (ztn (zsq (zsq (zrg ?_))))
  refine H.go HP 1 [(62, (.agg #[(ii X.item), (.slice X.A X.pics.length X.c)]))] [0] fun a H => H.cb HP 63 (Tryz.call37 _ _) (mvalid_any X.item X.A X.pics.length X.c X.pics w_25 (((HP.fact 3 rfl).2 X hmem) : X.ok _).1 (by have := hok2.2.1; have := hok2.2.2.1; omega)) fun w_26 hb a H HP => ?_
  refine H.ge HP [(64, (.bool (!(validA X.item X.pics))))] [] fun a H => ?_
  refine ztn ?_
  refine w_if H rfl (fun g64 => ?_) (fun g64 => ?_)
  ·have g64p := not_is_true g64
   refine zsq (zrg ?_)
   refine H.ge HP [(4, (.pointer none)), (5, (ii 220))] [] fun a H => ?_
   refine ztn (zrt (ztr (zibr (ztr (ztr (zibr (ztr ?_)))))))
   refine H.ret2 (fn := Tryz.f13) Tryz.results13 (RV.tmp_ (v := (.pointer none)) (by kernel_rfl)) (RV.tmp_ (v := (ii 220)) (by kernel_rfl)) ?_
   exact .inl ⟨newP_lib hmem (by simpa using g64p), rfl, HP.bl⟩
  have g64p := not_is_false g64
  refine zsk (ztn ?_)
  have HP := HP.front 1 rfl _ rfl
  have HP := HP.front 3 rfl _ rfl
  refine An.start (fun v => Hp w v [bx b_23 91 [(ii X.item), (.slice X.A X.pics.length X.c)] true, (rowsR w.heap.size 115 7 chC okT feF (.slice CA ps.length cc) (ps.map mkCh))] [laidK, itsK ps, rowF 13 plnC AP ps, astsK LA lib]) 15 16 HP wide_follows rfl fun w_27 HP => ?_
  refine An.go H (.inr (((HP.tail rfl).tail rfl))) 8 [0, 1, 2, 3, 5, 6, 7, 8] [(65, (pt b_1 0)), (68, (pt b_1 1)), (71, (ii X.item)), (73, (.slice X.A X.pics.length X.c))] [0, 0] fun a H => ?_
  refine An.two 4 9 (by kernel_rfl) ?_ ?_
  ·refine Op.val H 69 (.slice SA l'.length sc) rfl (by kernel_rfl) (ex_l1 (HP.cell 0 rfl 1 rfl)) fun a H => ?_
   refine ⟨.inr (((HP.tail rfl).tail rfl)), ?_⟩
   refine An.one 9 (by kernel_rfl) ?_
   refine Op.call H 74 rfl (by kernel_rfl) (Eq.trans (by kernel_rfl : _ = (callFunc 38 #[(.slice X.A X.pics.length X.c)]).run Tryz.prog w_27) (Tryz.call38 _ _)) (clone_any X.A X.pics.length X.c X.pics w_27 (((HP.fact 3 rfl).2 X hmem) : X.ok _).1 hok2.2.2.2.1 hok2.2.1 (hlp X hmem)) ?_
   rintro e w_28 ⟨BX, dX, rfl, q1, q2, q3, q4, hb, q5⟩
   refine ⟨_, rfl, ?_⟩
   intro a H
   have HP := HP.pend 1 rfl elOk_ast (⟨X.item, BX, dX, X.pics⟩ : AstA) [bx b_1 111 [(.slice CA ps.length cc), (.slice SA l'.length sc), (.bool false), (ii 0), (ii 0)] true, (rowsP w.heap.size 91 2 AstA.cells astOk astFp (.slice SA l'.length sc) l' (⟨X.item, BX, dX, X.pics⟩ : AstA)), bx b_23 91 [(ii X.item), (.slice X.A X.pics.length X.c)] true, (rowsR w.heap.size 115 7 chC okT feF (.slice CA ps.length cc) (ps.map mkCh))] (by kernel_rfl) hb ⟨q1, q2, q3, q4, trivial⟩ (fun k hk => ⟨hk.2.elim fun off e => q5 k off e, Rd.lt q1.2 hk⟩)
   refine ⟨.inr (((HP.tail rfl).tail rfl)), ?_⟩
   refine An.go H (.inr (((HP.tail rfl).tail rfl))) 5 [10] [(75, (.agg #[(ii X.item), (.slice BX X.pics.length dX)]))] [] fun a H => ?_
   refine An.one 11 (by kernel_rfl) ?_
   refine Op.alloc H HP 76 (fun b => (.slice (some ⟨b, 0, none⟩) 1 1)) 91 [(ii X.item), (.slice BX X.pics.length dX)] rfl (by kernel_rfl) (fun w => by kernel_rfl) fun b_29 w_30 a H HP => ?_
   refine ⟨.inr ((((HP.tail rfl).tail rfl).tail rfl)), ?_⟩
   refine An.one 12 (by kernel_rfl) ?_
   refine Op.push H HP 77 2 0 (v := (.slice SA l'.length sc)) (e := 91) (p := (⟨X.item, BX, dX, X.pics⟩ : AstA)) (l := l') (cs := AstA.cells) (ok := astOk) (fe := astFp) (size := 2) (z := (.agg #[.int .i64 0, .slice none 0 0])) (bytes := 32) (bb := b_29) (tb := 91) (fb := true) rfl (by kernel_rfl) elOk_ast (by kernel_rfl) (by kernel_rfl) rfl (by kernel_rfl) (by kernel_rfl) (by kernel_rfl) (by kernel_rfl) (by kernel_rfl) rfl (by kernel_rfl) (by unfold maxLen; omega) (by omega) fun B_31 c_32 w_33 a H HP => ?_
   have HP : Hp w w_33 [bx b_29 91 [(ii X.item), (.slice BX X.pics.length dX)] true, bx b_1 111 [(.slice CA ps.length cc), (.slice SA l'.length sc), (.bool false), (ii 0), (ii 0)] true, (rowsR w.heap.size 91 2 AstA.cells astOk astFp (.slice B_31 (l'.length + 1) c_32) (l' ++ [(⟨X.item, BX, dX, X.pics⟩ : AstA)])), bx b_23 91 [(ii X.item), (.slice X.A X.pics.length X.c)] true, (rowsR w.heap.size 115 7 chC okT feF (.slice CA ps.length cc) (ps.map mkCh))] [laidK, itsK ps, rowF 13 plnC AP ps, astsK LA lib] := HP
   refine ⟨.inr ((((HP.tail rfl).tail rfl).tail rfl)), ?_⟩
   refine An.go H (.inr ((((HP.tail rfl).tail rfl).tail rfl))) 1 [13, 14] [(79, (pt b_1 1))] [] fun a H => ?_
   refine An.one 15 (by kernel_rfl) ?_
   refine Op.sh H HP 1 1 (.slice B_31 (l'.length + 1) c_32) rfl rfl fun w_34 a H HP => ?_
   refine ⟨.inl (by kernel_rfl), ?_⟩
   refine An.done (by kernel_rfl) ?_
   refine zibn (ztn (zrg ?_))
   refine H.wi 80 ((j : Int) + 1) fun a H => ?_
   refine H.ge HP [(58, (ii ((j : Int) + 1)))] [] fun a H => ?_
   refine ztn ?_
   have H := H.as 58 (ii ((j + 1 : Nat) : Int)) rfl rfl
   refine ⟨_, ?_, j + 1, B_31, c_32, l' ++ [(⟨X.item, BX, dX, X.pics⟩ : AstA)], rfl, H.keep (by kernel_rfl), (by have hh := (HP.sub [2, 4, 1] [(rowsR w.heap.size 91 2 AstA.cells astOk astFp (.slice B_31 (l'.length + 1) c_32) (l' ++ [(⟨X.item, BX, dX, X.pics⟩ : AstA)])), (rowsR w.heap.size 115 7 chC okT feF (.slice CA ps.length cc) (ps.map mkCh)), bx b_1 111 [(.slice CA ps.length cc), (.slice B_31 (l'.length + 1) c_32), (.bool false), (ii 0), (ii 0)] true] (by kernel_rfl) (by kernel_rfl)); rw [show l'.length + 1 = (l' ++ [(⟨X.item, BX, dX, X.pics⟩ : AstA)]).length from (by rw [List.length_append]; rfl)] at hh; exact hh), (by omega), (by simp [hll]), (by rw [take_at (d := astZ) (by omega), hX]; exact sameA_snoc hsame), (by rw [take_at (d := astZ) (by omega), hX]; intro a ha; rcases List.mem_append.1 ha with ha | ha; exact hval a ha; rcases List.mem_singleton.1 ha with rfl; exact g64p), (fun a ha => by rcases List.mem_append.1 ha with ha | ha; exact hacc a ha; rcases List.mem_singleton.1 ha with rfl; exact hlp X hmem)⟩
   omega
  refine Op.call H 74 rfl (by kernel_rfl) (Eq.trans (by kernel_rfl : _ = (callFunc 38 #[(.slice X.A X.pics.length X.c)]).run Tryz.prog w_27) (Tryz.call38 _ _)) (clone_any X.A X.pics.length X.c X.pics w_27 (((HP.fact 3 rfl).2 X hmem) : X.ok _).1 hok2.2.2.2.1 hok2.2.1 (hlp X hmem)) ?_
  rintro e w_35 ⟨BX, dX, rfl, q1, q2, q3, q4, hb, q5⟩
  refine ⟨_, rfl, ?_⟩
  intro a H
  have HP := HP.pend 1 rfl elOk_ast (⟨X.item, BX, dX, X.pics⟩ : AstA) [bx b_1 111 [(.slice CA ps.length cc), (.slice SA l'.length sc), (.bool false), (ii 0), (ii 0)] true, (rowsP w.heap.size 91 2 AstA.cells astOk astFp (.slice SA l'.length sc) l' (⟨X.item, BX, dX, X.pics⟩ : AstA)), bx b_23 91 [(ii X.item), (.slice X.A X.pics.length X.c)] true, (rowsR w.heap.size 115 7 chC okT feF (.slice CA ps.length cc) (ps.map mkCh))] (by kernel_rfl) hb ⟨q1, q2, q3, q4, trivial⟩ (fun k hk => ⟨hk.2.elim fun off e => q5 k off e, Rd.lt q1.2 hk⟩)
  refine ⟨.inr (((HP.tail rfl).tail rfl)), ?_⟩
  refine An.go H (.inr (((HP.tail rfl).tail rfl))) 6 [10] [(75, (.agg #[(ii X.item), (.slice BX X.pics.length dX)]))] [] fun a H => ?_
  refine An.two 4 11 (by kernel_rfl) ?_ ?_
  ·refine Op.val H 69 (.slice SA l'.length sc) rfl (by kernel_rfl) (ex_l1 (HP.cell 0 rfl 1 rfl)) fun a H => ?_
   refine ⟨.inr (((HP.tail rfl).tail rfl)), ?_⟩
   refine An.one 11 (by kernel_rfl) ?_
   refine Op.alloc H HP 76 (fun b => (.slice (some ⟨b, 0, none⟩) 1 1)) 91 [(ii X.item), (.slice BX X.pics.length dX)] rfl (by kernel_rfl) (fun w => by kernel_rfl) fun b_36 w_37 a H HP => ?_
   refine ⟨.inr ((((HP.tail rfl).tail rfl).tail rfl)), ?_⟩
   refine An.one 12 (by kernel_rfl) ?_
   refine Op.push H HP 77 2 0 (v := (.slice SA l'.length sc)) (e := 91) (p := (⟨X.item, BX, dX, X.pics⟩ : AstA)) (l := l') (cs := AstA.cells) (ok := astOk) (fe := astFp) (size := 2) (z := (.agg #[.int .i64 0, .slice none 0 0])) (bytes := 32) (bb := b_36) (tb := 91) (fb := true) rfl (by kernel_rfl) elOk_ast (by kernel_rfl) (by kernel_rfl) rfl (by kernel_rfl) (by kernel_rfl) (by kernel_rfl) (by kernel_rfl) (by kernel_rfl) rfl (by kernel_rfl) (by unfold maxLen; omega) (by omega) fun B_38 c_39 w_40 a H HP => ?_
   have HP : Hp w w_40 [bx b_36 91 [(ii X.item), (.slice BX X.pics.length dX)] true, bx b_1 111 [(.slice CA ps.length cc), (.slice SA l'.length sc), (.bool false), (ii 0), (ii 0)] true, (rowsR w.heap.size 91 2 AstA.cells astOk astFp (.slice B_38 (l'.length + 1) c_39) (l' ++ [(⟨X.item, BX, dX, X.pics⟩ : AstA)])), bx b_23 91 [(ii X.item), (.slice X.A X.pics.length X.c)] true, (rowsR w.heap.size 115 7 chC okT feF (.slice CA ps.length cc) (ps.map mkCh))] [laidK, itsK ps, rowF 13 plnC AP ps, astsK LA lib] := HP
   refine ⟨.inr ((((HP.tail rfl).tail rfl).tail rfl)), ?_⟩
   refine An.go H (.inr ((((HP.tail rfl).tail rfl).tail rfl))) 1 [13, 14] [(79, (pt b_1 1))] [] fun a H => ?_
   refine An.one 15 (by kernel_rfl) ?_
   refine Op.sh H HP 1 1 (.slice B_38 (l'.length + 1) c_39) rfl rfl fun w_41 a H HP => ?_
   refine ⟨.inl (by kernel_rfl), ?_⟩
   refine An.done (by kernel_rfl) ?_
   refine zibn (ztn (zrg ?_))
   refine H.wi 80 ((j : Int) + 1) fun a H => ?_
   refine H.ge HP [(58, (ii ((j : Int) + 1)))] [] fun a H => ?_
   refine ztn ?_
   have H := H.as 58 (ii ((j + 1 : Nat) : Int)) rfl rfl
   refine ⟨_, ?_, j + 1, B_38, c_39, l' ++ [(⟨X.item, BX, dX, X.pics⟩ : AstA)], rfl, H.keep (by kernel_rfl), (by have hh := (HP.sub [2, 4, 1] [(rowsR w.heap.size 91 2 AstA.cells astOk astFp (.slice B_38 (l'.length + 1) c_39) (l' ++ [(⟨X.item, BX, dX, X.pics⟩ : AstA)])), (rowsR w.heap.size 115 7 chC okT feF (.slice CA ps.length cc) (ps.map mkCh)), bx b_1 111 [(.slice CA ps.length cc), (.slice B_38 (l'.length + 1) c_39), (.bool false), (ii 0), (ii 0)] true] (by kernel_rfl) (by kernel_rfl)); rw [show l'.length + 1 = (l' ++ [(⟨X.item, BX, dX, X.pics⟩ : AstA)]).length from (by rw [List.length_append]; rfl)] at hh; exact hh), (by omega), (by simp [hll]), (by rw [take_at (d := astZ) (by omega), hX]; exact sameA_snoc hsame), (by rw [take_at (d := astZ) (by omega), hX]; intro a ha; rcases List.mem_append.1 ha with ha | ha; exact hval a ha; rcases List.mem_singleton.1 ha with rfl; exact g64p), (fun a ha => by rcases List.mem_append.1 ha with ha | ha; exact hacc a ha; rcases List.mem_singleton.1 ha with rfl; exact hlp X hmem)⟩
   omega
  refine Op.alloc H HP 76 (fun b => (.slice (some ⟨b, 0, none⟩) 1 1)) 91 [(ii X.item), (.slice BX X.pics.length dX)] rfl (by kernel_rfl) (fun w => by kernel_rfl) fun b_42 w_43 a H HP => ?_
  refine ⟨.inr ((((HP.tail rfl).tail rfl).tail rfl)), ?_⟩
  refine An.one 4 (by kernel_rfl) ?_
  refine Op.val H 69 (.slice SA l'.length sc) rfl (by kernel_rfl) (ex_l1 (HP.cell 1 rfl 1 rfl)) fun a H => ?_
  refine ⟨.inr ((((HP.tail rfl).tail rfl).tail rfl)), ?_⟩
  refine An.one 12 (by kernel_rfl) ?_
  refine Op.push H HP 77 2 0 (v := (.slice SA l'.length sc)) (e := 91) (p := (⟨X.item, BX, dX, X.pics⟩ : AstA)) (l := l') (cs := AstA.cells) (ok := astOk) (fe := astFp) (size := 2) (z := (.agg #[.int .i64 0, .slice none 0 0])) (bytes := 32) (bb := b_42) (tb := 91) (fb := true) rfl (by kernel_rfl) elOk_ast (by kernel_rfl) (by kernel_rfl) rfl (by kernel_rfl) (by kernel_rfl) (by kernel_rfl) (by kernel_rfl) (by kernel_rfl) rfl (by kernel_rfl) (by unfold maxLen; omega) (by omega) fun B_44 c_45 w_46 a H HP => ?_
  have HP : Hp w w_46 [bx b_42 91 [(ii X.item), (.slice BX X.pics.length dX)] true, bx b_1 111 [(.slice CA ps.length cc), (.slice SA l'.length sc), (.bool false), (ii 0), (ii 0)] true, (rowsR w.heap.size 91 2 AstA.cells astOk astFp (.slice B_44 (l'.length + 1) c_45) (l' ++ [(⟨X.item, BX, dX, X.pics⟩ : AstA)])), bx b_23 91 [(ii X.item), (.slice X.A X.pics.length X.c)] true, (rowsR w.heap.size 115 7 chC okT feF (.slice CA ps.length cc) (ps.map mkCh))] [laidK, itsK ps, rowF 13 plnC AP ps, astsK LA lib] := HP
  refine ⟨.inr ((((HP.tail rfl).tail rfl).tail rfl)), ?_⟩
  refine An.go H (.inr ((((HP.tail rfl).tail rfl).tail rfl))) 1 [13, 14] [(79, (pt b_1 1))] [] fun a H => ?_
  refine An.one 15 (by kernel_rfl) ?_
  refine Op.sh H HP 1 1 (.slice B_44 (l'.length + 1) c_45) rfl rfl fun w_47 a H HP => ?_
  refine ⟨.inl (by kernel_rfl), ?_⟩
  refine An.done (by kernel_rfl) ?_
  refine zibn (ztn (zrg ?_))
  refine H.wi 80 ((j : Int) + 1) fun a H => ?_
  refine H.ge HP [(58, (ii ((j : Int) + 1)))] [] fun a H => ?_
  refine ztn ?_
  have H := H.as 58 (ii ((j + 1 : Nat) : Int)) rfl rfl
  refine ⟨_, ?_, j + 1, B_44, c_45, l' ++ [(⟨X.item, BX, dX, X.pics⟩ : AstA)], rfl, H.keep (by kernel_rfl), (by have hh := (HP.sub [2, 4, 1] [(rowsR w.heap.size 91 2 AstA.cells astOk astFp (.slice B_44 (l'.length + 1) c_45) (l' ++ [(⟨X.item, BX, dX, X.pics⟩ : AstA)])), (rowsR w.heap.size 115 7 chC okT feF (.slice CA ps.length cc) (ps.map mkCh)), bx b_1 111 [(.slice CA ps.length cc), (.slice B_44 (l'.length + 1) c_45), (.bool false), (ii 0), (ii 0)] true] (by kernel_rfl) (by kernel_rfl)); rw [show l'.length + 1 = (l' ++ [(⟨X.item, BX, dX, X.pics⟩ : AstA)]).length from (by rw [List.length_append]; rfl)] at hh; exact hh), (by omega), (by simp [hll]), (by rw [take_at (d := astZ) (by omega), hX]; exact sameA_snoc hsame), (by rw [take_at (d := astZ) (by omega), hX]; intro a ha; rcases List.mem_append.1 ha with ha | ha; exact hval a ha; rcases List.mem_singleton.1 ha with rfl; exact g64p), (fun a ha => by rcases List.mem_append.1 ha with ha | ha; exact hacc a ha; rcases List.mem_singleton.1 ha with rfl; exact hlp X hmem)⟩
  omega
 have g59p := of_decide_eq_false g59
 refine wp_exit (then_exit (then_exit ?_))
 refine w_exit_here ?_
 refine ztn (zsq (zrg ?_))
 refine H.ge HP [(4, (pt b_1 0)), (5, (ii 0))] [] fun a H => ?_
 refine ztn (zrt ?_)
 refine H.ret2 (fn := Tryz.f13) Tryz.results13 (RV.tmp_ (v := (pt b_1 0)) (by kernel_rfl)) (RV.tmp_ (v := (ii 0)) (by kernel_rfl)) ?_
 have hje : j = lib.length := by omega
 subst hje
 rw [List.take_length] at hsame hval
 exact .inr (new_end (HP.sub [0, 1, 2] [(rowsR w.heap.size 91 2 AstA.cells astOk astFp (.slice SA l'.length sc) l'), (rowsR w.heap.size 115 7 chC okT feF (.slice CA ps.length cc) (ps.map mkCh)), bx b_1 111 [(.slice CA ps.length cc), (.slice SA l'.length sc), (.bool false), (ii 0), (ii 0)] true] (by kernel_rfl) (by kernel_rfl)) hok (by omega) hll hsame hval hacc hln)
theorem Hp.grow {w0 w : World} {L : List HB} {K : List FK} (H : Hp w0 w L K) (i : Nat) {x : HB} (hi : L[i]? = some x) (x' : HB) (L' : List HB) (hL : L.set i x' = L') (hF : x'.F w) (hok : x'.ok) (hlt : ∀ k, x'.fp k → k < w.heap.size)
    (hfp : ∀ k, x'.fp k → x.fp k ∨ (w0.heap.size ≤ k ∧ (∀ y ∈ L, ¬ y.fp k) ∧ ∀ p ∈ K, ¬ p.fp k)) (hall : ∀ k, x.fp k → x'.fp k) (hfr : x'.fresh = x.fresh) : Hp w0 w L' K := by
  subst hL
  have hm := mem_set H.apart (x' := x') hi
  have hxm := List.mem_of_getElem? hi
  have hil := (List.getElem?_eq_some_iff.1 hi).1
  have hx'm : x' ∈ L.set i x' := List.mem_iff_getElem?.2 ⟨i, by rw [List.getElem?_set]; simp [hil]⟩
  have hback : ∀ y ∈ L, y = x ∨ y ∈ L.set i x' := by
    intro y hy
    obtain ⟨k, hk⟩ := List.mem_iff_getElem?.1 hy
    by_cases e : i = k
    · subst e; rw [hi] at hk; cases hk; exact .inl rfl
    · exact .inr (List.mem_iff_getElem?.2 ⟨k, by rw [List.getElem?_set_ne e]; exact hk⟩)
  have hnot : ∀ y ∈ L, ∀ k, x'.fp k → y.fp k → x.fp k := fun y hy k hk hy' => (hfp k hk).resolve_right fun h => h.2.1 y hy hy'
  refine ⟨H.os, H.tape, H.output, H.size, fun k hk hn => H.old k hk fun y hy => ?_, fun y hy => ?_, ?_, fun y hy hfy k hk => ?_, fun p hp => ?_⟩
  · rcases hback y hy with rfl | hy
    · exact fun h => hn x' hx'm (hall k h)
    · exact hn y hy
  · rcases hm y hy with rfl | ⟨hy, _⟩
    · exact ⟨hF, hok, hlt⟩
    · exact H.res y hy
  · exact pairwise_set H.apart hi (fun z hz h k hk hk' => h k hk (hnot z hz k hk' hk)) (fun z hz h k hk hk' => h k (hnot z hz k hk hk') hk')
  · rcases hm y hy with rfl | ⟨hy, _⟩
    · rcases hfp k hk with h | h
      · exact H.fresh x hxm (hfr ▸ hfy) k h
      · exact h.1
    · exact H.fresh y hy hfy k hk
  · obtain ⟨k1, k2, k3⟩ := H.kept p hp
    refine ⟨k1, k2, fun k hk => ⟨(k3 k hk).1, fun y hy hy' => ?_⟩⟩
    rcases hm y hy with rfl | ⟨hy, _⟩
    · rcases hfp k hy' with h | h
      · exact (k3 k hk).2 x hxm h
      · exact h.2.2 p hp hk
    · exact (k3 k hk).2 y hy hy'
section
variable {α : Type} {base : Nat} {e : TypeId} {size : Nat} {cs : α → Array Value} {ok : α → World → Prop} {fe : α → Nat → Prop} {v : Value} {l : List α}
theorem Hp.absorb {w0 w : World} {y : HB} {L : List HB} {K : List FK} (H : Hp w0 w (y :: L) K) (i : Nat) (hi : L[i]? = some (rowsR base e size cs ok fe v l)) (hel : ElOk ok fe) (p : α) (L' : List HB) (hL : L.set i (rowsP base e size cs ok fe v l p) = L') (hp : ok p w) (hfe : ∀ k, fe p k → y.fp k) (hy : y.fresh = true) : Hp w0 w L' K := by
  have H1 := H.tail hy
  have hyr := H.res y (List.mem_cons_self ..)
  have hya : ∀ z ∈ L, ∀ k, y.fp k → ¬ z.fp k := by
    cases H.apart with
    | cons p _ => exact fun z hz k hk => p z hz k hk
  have hx := H1.held i hi
  have hr := (H1.res _ (List.mem_of_getElem? hi)).2.2
  refine H1.grow i hi _ L' hL ⟨hx, hp, fun k hk => ⟨hyr.2.2 k (hfe k hk), fun e => hya _ (List.mem_of_getElem? hi) k (hfe k hk) (.inl e)⟩⟩ (rowsP_ok hel) (fun k hk => ?_) (fun k hk => ?_) (fun k hk => .inl hk) rfl
  · rcases hk with hk | hk
    · exact hr k hk
    · exact hyr.2.2 k (hfe k hk)
  · rcases hk with hk | hk
    · exact .inl hk
    · exact .inr ⟨H.fresh y (List.mem_cons_self ..) hy k (hfe k hk), fun z hz => hya z hz k (hfe k hk), fun q hq hq' => ((H.kept q hq).2.2 k hq').2 y (List.mem_cons_self ..) (hfe k hk)⟩
end
def PlS.key (p : PlS) : Int × Int × Int := (p.c, p.nm, p.len)
def plKeys : List (Int × Int × Int) := [(3, 50, 500), (0, 25, 500)]
def pOk (p : PlS) (w : World) : Prop := IsRow 5 itC w p.IA its3
def pFe (p : PlS) (k : Nat) : Prop := rowFp 3 p.IA k
theorem elOk_pl : ElOk pOk pFe := fun _ _ _ h hk hs => IsRow.keep h hk hs
def ci (i : Nat) : Int := if i = 0 then 3 else 0
theorem ci_bd (i : Nat) : 0 ≤ ci i ∧ ci i ≤ 3 := by unfold ci; split <;> omega
theorem ci_cell {w : World} {b t i : Nat} (h : Box w b t #[.int .i64 3, .int .i64 0]) (hi : i < 2) : w.cell? ⟨b, 0 + i * 1, none⟩ = some (.int .i64 (ci i)) := by
 rcases (by omega : i = 0 ∨ i = 1) with rfl | rfl
 ·exact h.cell (i := 0) rfl
 ·exact h.cell (i := 1) rfl
theorem its_row {w : World} {b t : Nat} {c nm len : Int} {ic : Nat} (h : Box w b t (flat itC its3).toArray) : pOk ⟨c, nm, len, some ⟨b, 0, none⟩, ic⟩ w := show IsRow 5 itC w (some ⟨b, 0, none⟩) its3 from IsRow.ofBox (cs := itC) (size := 5) (tail := []) (fun _ => rfl) (by rw [List.append_nil]; exact h)
theorem pfe_eq {c nm len : Int} {ic b k t : Nat} {vs : List Value} (h : pFe ⟨c, nm, len, some ⟨b, 0, none⟩, ic⟩ k) : (bx b t vs true).fp k := by
 obtain ⟨_, off, e⟩ := h
 cases e; rfl
theorem pl_next {ps : List PlS} {i : Nat} {p : PlS} (h : ps.map PlS.key = plKeys.take i) (hi : i < 2) (hp : p.key = (ci i, 25 + 25 * (ci i % 2), 500)) : (ps ++ [p]).map PlS.key = plKeys.take (i + 1) := by
 rw [List.map_append, h, List.map_singleton, hp]
 rcases (by omega : i = 0 ∨ i = 1) with rfl | rfl <;> rfl
theorem plans_any (w : World) :
  Calls Tryz.prog 12 #[] w fun e w' => ∃ A c ps, e = .returned (.slice A 2 c) ∧ ps.map PlS.key = plKeys ∧ (rowsR w.heap.size 67 13 plnC pOk pFe (.slice A ps.length c) ps).F w' ∧ Below w.heap.size w w' := by
 have HP := Hp.start w
 refine w_enter 26 [] Tryz.func12 rfl Tryz.ntmps12 (by kernel_rfl) (by kernel_rfl) fun a H => ?_
 refine zsq (zrg ?_)
 refine H.ge HP [(0, (.slice none 0 0))] [] fun a H => ?_
 refine ztn (zsq (zrg ?_))
 refine H.ge HP [(1, (.slice none 0 0))] [] fun a H => ?_
 refine ztn (zsq (zsq (zrg ?_)))
 refine H.alloc HP 4 (fun b => (.slice (some ⟨b, 0, none⟩) 2 2)) 3 [(ii 3), (ii 0)] (by kernel_rfl) (fun w => by kernel_rfl) fun b_1 w_2 a H HP => ?_
 refine H.ge HP [(5, (ii 2)), (6, (ii 0))] [] fun a H => ?_
 refine ztn (zbk ?_)
 have HP := HP.nilRow w.heap.size 67 13 plnC pOk pFe elOk_pl
 refine w_loop (fun mm a wv => ∃ (i : Nat), ∃ (ps : List PlS), ∃ (PA : Option Addr), ∃ (pc : Nat), 2 - i = mm ∧ Sl 26 [(6, (ii i)), (1, (.slice PA ps.length pc)), (4, (.slice (some ⟨b_1, 0, none⟩) 2 2)), (5, (ii 2))] a ∧ Hp w wv [(rowsR w.heap.size 67 13 plnC pOk pFe (.slice PA ps.length pc) ps), (bx b_1 3 [(ii 3), (ii 0)] true)] [] ∧ (i ≤ 2) ∧ (ps.map PlS.key = plKeys.take i)) (2 - 0) ?_ ?_
 ·exact ⟨0, [], none, 0, (by omega), H.keep (by kernel_rfl), HP, (by omega), rfl⟩
 rintro mm a w_3 ⟨i, ps, PA, pc, hmeas, H, HP, hi, hps⟩
 have hpl : ps.length = i := by have := congrArg List.length hps; rw [List.length_map, List.length_take] at this; simp only [plKeys, List.length_cons, List.length_nil] at this; omega
 refine zsq (zrg ?_)
 refine H.ge HP [(7, (.bool (decide ((i : Int) < 2))))] [] fun a H => ?_
 refine ztn (zsq ?_)
 refine w_if H rfl (fun g7 => ?_) (fun g7 => ?_)
 ·have g7p := of_decide_eq_true g7
  refine zsk (ztn (zsq (zbk (zsq (zrg ?_)))))
  have hci := ci_bd i
  refine H.u 8 (.pointer (some ⟨b_1, 0 + i * 1, none⟩)) (ex_index (b := b_1) (off := 0) (len := 2) (cap := 2) (e := 3) (k := 1) (ik := .i64) (i := (i : Int)) (m := i) (by kernel_rfl) (by kernel_rfl) (by omega) (by omega) (by kernel_rfl) (by kernel_rfl)) fun a H => H.u 9 (ii (ci i)) (ex_l1 (ci_cell (HP.at_ 1 rfl) (by omega))) fun a H => ?_
  refine H.ge HP [(3, (ii (ci i)))] [] fun a H => ?_
  refine ztn (zrg ?_)
  refine H.go HP 3 [(10, (.slice PA ps.length pc)), (11, (ii (ci i))), (12, (ii (ci i)))] [] fun a H => H.valE 13 (ii ((ci i).tmod 2)) (ii ((ci i) % 2)) (by kernel_rfl) (by kernel_rfl) ((by rw [tmod_nn _ _ (by omega)])) fun a H => H.wi 14 (25 * ((ci i) % 2)) fun a H => H.wi 15 (25 + (25 * ((ci i) % 2))) fun a H => H.go HP 4 [(16, (.agg #[(ii (25 + (25 * ((ci i) % 2)))), (ii 1)])), (17, (.agg #[(ii 1), (ii 5), (ii 30), (ii 0), (ii 0)])), (18, (.agg #[(ii 7), (ii 1), (ii 40), (ii 0), (ii 0)])), (19, (.agg #[(ii 8), (ii 2), (ii 20), (ii 0), (ii 0)]))] [] fun a H => H.alloc HP 20 (fun b => (.slice (some ⟨b, 0, none⟩) 3 3)) 108 [(ii 1), (ii 5), (ii 30), (ii 0), (ii 0), (ii 7), (ii 1), (ii 40), (ii 0), (ii 0), (ii 8), (ii 2), (ii 20), (ii 0), (ii 0)] (by kernel_rfl) (fun w => by kernel_rfl) fun b_4 w_5 a H HP => H.go HP 1 [(21, (.agg #[(ii (ci i)), (ii (25 + (25 * ((ci i) % 2)))), (ii 1), (ii 0), (.slice none 0 0), (ii 0), (ii 2), (ii 500), (ii 1), (.slice (some ⟨b_4, 0, none⟩) 3 3), (.slice none 0 0), (.slice none 0 0), (.slice none 0 0)]))] [] fun a H => H.alloc HP 22 (fun b => (.slice (some ⟨b, 0, none⟩) 1 1)) 67 [(ii (ci i)), (ii (25 + (25 * ((ci i) % 2)))), (ii 1), (ii 0), (.slice none 0 0), (ii 0), (ii 2), (ii 500), (ii 1), (.slice (some ⟨b_4, 0, none⟩) 3 3), (.slice none 0 0), (.slice none 0 0), (.slice none 0 0)] (by kernel_rfl) (fun w => by kernel_rfl) fun b_6 w_7 a H HP => ?_
  have HP := HP.front 1 rfl _ rfl
  have HP := HP.absorb 1 rfl elOk_pl (⟨ci i, 25 + 25 * (ci i % 2), 500, some ⟨b_4, 0, none⟩, 3⟩ : PlS) [bx b_6 67 [(ii (ci i)), (ii (25 + (25 * ((ci i) % 2)))), (ii 1), (ii 0), (.slice none 0 0), (ii 0), (ii 2), (ii 500), (ii 1), (.slice (some ⟨b_4, 0, none⟩) 3 3), (.slice none 0 0), (.slice none 0 0), (.slice none 0 0)] true, (rowsP w.heap.size 67 13 plnC pOk pFe (.slice PA ps.length pc) ps (⟨ci i, 25 + 25 * (ci i % 2), 500, some ⟨b_4, 0, none⟩, 3⟩ : PlS)), (bx b_1 3 [(ii 3), (ii 0)] true)] (by kernel_rfl) (its_row (HP.at_ 0 rfl)) (fun k hk => pfe_eq hk) rfl
  refine H.push HP 23 1 0 (v := (.slice PA ps.length pc)) (e := 67) (p := (⟨ci i, 25 + 25 * (ci i % 2), 500, some ⟨b_4, 0, none⟩, 3⟩ : PlS)) (l := ps) (cs := plnC) (ok := pOk) (fe := pFe) (size := 13) (z := (.agg #[(ii 0), (ii 0), (ii 0), (ii 0), (.slice none 0 0), (ii 0), (ii 0), (ii 0), (ii 0), (.slice none 0 0), (.slice none 0 0), (.slice none 0 0), (.slice none 0 0)])) (bytes := 184) (bb := b_6) (tb := 67) (fb := true) (by kernel_rfl) elOk_pl (by kernel_rfl) (by kernel_rfl) rfl (by kernel_rfl) (by kernel_rfl) (by kernel_rfl) (by kernel_rfl) (by kernel_rfl) rfl (by kernel_rfl) (by unfold maxLen; omega) (by omega) fun B_8 c_9 w_10 a H HP => ?_
  have HP : Hp w w_10 [bx b_6 67 [(ii (ci i)), (ii (25 + (25 * ((ci i) % 2)))), (ii 1), (ii 0), (.slice none 0 0), (ii 0), (ii 2), (ii 500), (ii 1), (.slice (some ⟨b_4, 0, none⟩) 3 3), (.slice none 0 0), (.slice none 0 0), (.slice none 0 0)] true, (rowsR w.heap.size 67 13 plnC pOk pFe (.slice B_8 (ps.length + 1) c_9) (ps ++ [(⟨ci i, 25 + 25 * (ci i % 2), 500, some ⟨b_4, 0, none⟩, 3⟩ : PlS)])), (bx b_1 3 [(ii 3), (ii 0)] true)] [] := HP
  refine H.ge HP [(1, (.slice B_8 (ps.length + 1) c_9))] [] fun a H => ?_
  refine zibn (ztn (zrg ?_))
  refine H.wi 24 ((i : Int) + 1) fun a H => ?_
  refine H.ge HP [(6, (ii ((i : Int) + 1)))] [] fun a H => ?_
  refine ztn ?_
  have H := H.as 1 (.slice B_8 ((ps ++ [(⟨ci i, 25 + 25 * (ci i % 2), 500, some ⟨b_4, 0, none⟩, 3⟩ : PlS)]).length) c_9) rfl (congrArg (fun n => Value.slice _ n _) (by rw [List.length_append]; rfl))
  have H := H.as 6 (ii ((i + 1 : Nat) : Int)) rfl rfl
  refine ⟨_, ?_, i + 1, ps ++ [(⟨ci i, 25 + 25 * (ci i % 2), 500, some ⟨b_4, 0, none⟩, 3⟩ : PlS)], B_8, c_9, rfl, H.keep (by kernel_rfl), (by have hh := HP.sub [1, 2] [(rowsR w.heap.size 67 13 plnC pOk pFe (.slice B_8 (ps.length + 1) c_9) (ps ++ [(⟨ci i, 25 + 25 * (ci i % 2), 500, some ⟨b_4, 0, none⟩, 3⟩ : PlS)])), (bx b_1 3 [(ii 3), (ii 0)] true)] (by kernel_rfl) (by kernel_rfl); rw [show ps.length + 1 = (ps ++ [(⟨ci i, 25 + 25 * (ci i % 2), 500, some ⟨b_4, 0, none⟩, 3⟩ : PlS)]).length from (by rw [List.length_append]; rfl)] at hh; exact hh), (by omega), (pl_next hps (by omega) rfl)⟩
  omega
 have g7p := of_decide_eq_false g7
 refine wp_exit (then_exit (then_exit ?_))
 refine w_exit_here ?_
 refine ztn (zsq (zrg ?_))
 refine H.ge HP [(0, (.slice PA ps.length pc))] [] fun a H => ?_
 refine ztn (zrt ?_)
 refine H.r1 (.slice PA ps.length pc) Tryz.results12 ?_
 have hie : i = 2 := by omega
 subst hie
 exact ⟨PA, pc, ps, by rw [hpl], hps, HP.held 0 rfl, HP.bl⟩
section
variable {P : Program} {ρ : Operand → Value} {w : World} {t e : TypeId} {x y : Operand} {dst : Option Tmp} {ty : TypeId} {pos : String} {af : Array Edge} {g : Option (Nat × Bool)} {n : Nat} {k : IntKind}
theorem ex_make (hx : ρ x = .int k n) (hy : ρ y = .int k n) (hu : P.underlying t = some (.slice e)) (hinf : infoB P e = some (some (.int .u8 0), 1, 1)) (hn : n ≤ 1000000) :
  (execOp ρ ⟨dst, .makeSlice t x y, ty, pos, af, g⟩).run P w = .ok (.value (.slice (some ⟨w.heap.size, 0, none⟩) n n)) (w.alloc (.cells (List.replicate n (.int .u8 0)).toArray e)) := by
 obtain ⟨i, h1, h2, h3, h4⟩ := infoB_spec hinf
 have := run_makeSlice (P := P) w t e i (.int .u8 0) hu h1 h2 k k (n : Int) (n : Int) (by omega) (by omega) (by rw [h3]; omega) (by rw [h4]; omega) (by omega)
 simp only [execOp, hx, hy, Sem.run_bind, this, Result.andThen_ok, Sem.run_pure]
 have hm : madeCells (Value.int IntKind.u8 0).cells ((n : Int).toNat * i.size) = (List.replicate n (Value.int .u8 0)).toArray := by
  rw [h3]
  apply Array.ext
  ·simp [madeCells]
  ·intro j h1 h2
   simp [madeCells, Value.cells, Nat.mod_one]
 rw [hm]
 simp
end
abbrev i1C (n : Int) : Array Value := #[.int .i64 n]
theorem i1C_size (n : Int) : (i1C n).size = 1 := rfl
def bytes2 (x y : Int) : List UInt8 := [UInt8.ofNat x.toNat, UInt8.ofNat y.toNat]
theorem rd_zeros {w : World} {b t sN : Nat} (h : Box w b t (List.replicate sN (Value.int .u8 0)).toArray) : Rd w 1 (some ⟨b, 0, none⟩) sN (Lib.byteCells (List.replicate sN 0)) := by
 have hh := rd_box h
 rw [List.length_replicate] at hh
 rw [show Lib.byteCells (List.replicate sN 0) = List.replicate sN (Value.int .u8 0) from by simp [Lib.byteCells]]
 exact hh
theorem rd_bytes2 {w : World} {b t : Nat} {x y : Int} (h : Box w b t #[.int .u8 x, .int .u8 y]) (hx : 0 ≤ x ∧ x < 256) (hy : 0 ≤ y ∧ y < 256) : Rd w 1 (some ⟨b, 0, none⟩) 2 (Lib.byteCells (bytes2 x y)) := by
 have hh := rd_box (vs := [.int .u8 x, .int .u8 y]) h
 have e : ∀ z : Int, 0 ≤ z ∧ z < 256 → (((UInt8.ofNat z.toNat).toNat : Nat) : Int) = z := fun z hz => by rw [toNat_of (by omega)]; omega
 rw [show Lib.byteCells (bytes2 x y) = [Value.int .u8 x, .int .u8 y] from by simp only [bytes2, Lib.byteCells, List.map_cons, List.map_nil, e x hx, e y hy]]
 exact hh
def libItems : List Int := [1, 7, 8]
def iti (i : Nat) : Int := if i = 0 then 1 else if i = 1 then 7 else 8
theorem iti_bd (i : Nat) : 1 ≤ iti i ∧ iti i ≤ 8 := by unfold iti; split; omega; split <;> omega
theorem iti_D (i : Nat) : 160 ≤ 40 + 120 * (iti i % 3) ∧ 40 + 120 * (iti i % 3) ≤ 280 := by unfold iti; split; omega; split <;> omega
theorem iti_cell {w : World} {b t i : Nat} (h : Box w b t #[.int .i64 1, .int .i64 7, .int .i64 8]) (hi : i < 3) : w.cell? ⟨b, 0 + i * 1, none⟩ = some (.int .i64 (iti i)) := by
 rcases (by omega : i = 0 ∨ i = 1 ∨ i = 2) with rfl | rfl | rfl
 ·exact h.cell (i := 0) rfl
 ·exact h.cell (i := 1) rfl
 ·exact h.cell (i := 2) rfl
theorem it_next {li : List AstA} {i : Nat} {a : AstA} (h : li.map (·.item) = libItems.take i) (hi : i < 3) (ha : a.item = iti i) : (li ++ [a]).map (·.item) = libItems.take (i + 1) := by
 rw [List.map_append, h, List.map_singleton, ha]
 rcases (by omega : i = 0 ∨ i = 1 ∨ i = 2) with rfl | rfl | rfl <;> rfl
def picsOk (j : Nat) (l : List PicA) : Prop := l.length = j ∧ (∀ p ∈ l, p.data.size ≤ 400 ∧ p.power = 0) ∧ (0 < l.length → (l.getD 0 picZ).key = true)
theorem picsOk_nil : picsOk 0 [] := ⟨rfl, (fun _ h => by cases h), fun h => absurd h (Nat.lt_irrefl 0)⟩
theorem picsOk_next {j sN : Nat} {l : List PicA} {k : Bool} {x y : Int} (h : picsOk j l) (hs : sN ≤ 300) (hk : k = true ∨ j ≠ 0) : picsOk (j + 1) (l ++ [⟨k, bstr (List.replicate sN 0 ++ bytes2 x y), 0⟩]) := by
 obtain ⟨h1, h2, h3⟩ := h
 refine ⟨by rw [List.length_append, h1]; rfl, fun p hp => ?_, fun _ => ?_⟩
 ·rcases List.mem_append.1 hp with hp | hp
  ·exact h2 p hp
  ·rcases List.mem_singleton.1 hp with rfl
   refine ⟨?_, rfl⟩
   show (List.replicate sN (0 : UInt8) ++ bytes2 x y).length ≤ 400
   rw [List.length_append, List.length_replicate]
   show sN + 2 ≤ 400
   omega
 ·cases l with
  | nil =>
   rcases hk with rfl | hk
   ·rfl
   ·exact absurd h1.symm hk
  | cons a l => exact h3 (Nat.succ_pos _)
theorem picsOk_valid {it : Int} {l : List PicA} (h : picsOk 30 l) (h1 : 1 ≤ it) (h2 : it ≤ 1000000) : validA it l = true := by
 obtain ⟨h3, h4, h5⟩ := h
 unfold validA
 rw [decide_eq_false (show ¬ it < 1 by omega), decide_eq_false (show ¬ 4611686018427387903 < it by omega), decide_eq_false (show ¬ l.length < 1 by omega), decide_eq_false (show ¬ 2000 < l.length by omega), h5 (by omega)]
 simp only [Bool.or_false, Bool.not_false, Bool.true_and, List.all_eq_true]
 intro p hp
 obtain ⟨h6, h7⟩ := h4 p hp
 unfold picBad
 rw [h7, decide_eq_false (show ¬ (400 : Int) < ((p.data.size : Nat) : Int) by omega)]
 rfl
def astOw (a : AstA) (w : World) : Prop := a.ok w ∧ (0 < a.pics.length → ∃ b tl, a.A = some ⟨b, 0, none⟩ ∧ Box w b 96 (flat PicA.cells a.pics ++ tl).toArray)
theorem elOk_asw : ElOk astOw astFp := fun _ _ _ h hk hs => ⟨elOk_ast _ _ _ h.1 hk hs, fun h0 => let ⟨b, tl, e, hb⟩ := h.2 h0; ⟨b, tl, e, (hk b ⟨h0, 0, e⟩).trans hb⟩⟩
theorem ast_own {w : World} {base c : Nat} {it : Int} {A : Option Addr} {l : List PicA} (h : (rowsR base 96 3 PicA.cells okT feF (.slice A l.length c) l).F w) : astOw ⟨it, A, c, l⟩ w := by
 have h1 := own_facts h.1
 refine ⟨⟨⟨rfl, Rd.of_own h.1⟩, h1.1, h1.2.1, h1.2.2, trivial⟩, fun h0 => ?_⟩
 have h0 : 0 < l.length := h0
 rcases h.1.2 with ⟨_, e⟩ | ⟨g, cap, cur, hv, _, hh, _, _, _, ht⟩
 ·omega
 ·cases hv
  refine ⟨g, cur.toList.drop (l.length * 3), rfl, ?_⟩
  show w.heap[g]? = some (.cells (flat PicA.cells l ++ _).toArray 96)
  rw [← ht, List.take_append_drop]
  exact hh
theorem ast_fe {base c k : Nat} {it : Int} {A : Option Addr} {l : List PicA} (h : astFp ⟨it, A, c, l⟩ k) : (rowsR base 96 3 PicA.cells okT feF (.slice A l.length c) l).fp k := by
 obtain ⟨_, off, rfl⟩ := h
 exact .inl rfl
theorem library_any (XA : Option Addr) (xc : Nat) (xs : List Int) (w : World) (hxl : xs.length ≤ 1000000000000000) (hx : ∀ n ∈ xs, -9223372036854775808 ≤ n ∧ n ≤ 9223372036854775807) (hxr : IsRow 1 i1C w XA xs) :
  Calls Tryz.prog 11 #[.slice XA xs.length xc] w fun e w' => ∃ A c li, e = .returned (.slice A 3 c) ∧ li.map (·.item) = libItems ∧ (∀ a ∈ li, picsOk 30 a.pics) ∧ (li.Pairwise fun a b => ∀ k, astFp a k → ¬ astFp b k) ∧ (rowsR w.heap.size 91 2 AstA.cells astOw astFp (.slice A li.length c) li).F w' ∧ (∀ k, (rowsR w.heap.size 91 2 AstA.cells astOw astFp (.slice A li.length c) li).fp k → w.heap.size ≤ k ∧ k < w'.heap.size) ∧ Below w.heap.size w w' := by
 have HP := ((Hp.start w).keepF (rowF 1 i1C XA xs) hxr (rowF_ok _ _ _ _) (fun k hk => ⟨hxr.lt k hk, fun x hx => by cases hx⟩))
 refine w_enter 76 [(0, (.slice XA xs.length xc))] Tryz.func11 rfl Tryz.ntmps11 (by kernel_rfl) (by kernel_rfl) fun a H => ?_
 refine zsq (zrg ?_)
 refine H.ge HP [(2, (.slice none 0 0))] [] fun a H => ?_
 refine ztn (zsq (zrg ?_))
 refine H.ge HP [(3, (.slice none 0 0))] [] fun a H => ?_
 refine ztn (zsq (zsq (zrg ?_)))
 refine H.alloc HP 10 (fun b => (.slice (some ⟨b, 0, none⟩) 3 3)) 3 [(ii 1), (ii 7), (ii 8)] (by kernel_rfl) (fun w => by kernel_rfl) fun b_1 w_2 a H HP => ?_
 refine H.ge HP [(11, (ii 3)), (12, (ii 0))] [] fun a H => ?_
 refine ztn (zbk ?_)
 have HP := HP.nilRow w.heap.size 91 2 AstA.cells astOw astFp elOk_asw
 refine w_loop (fun mm a wv => ∃ (i : Nat), ∃ (li : List AstA), ∃ (LA : Option Addr), ∃ (lc : Nat), 3 - i = mm ∧ Sl 76 [(12, (ii i)), (3, (.slice LA li.length lc)), (0, (.slice XA xs.length xc)), (10, (.slice (some ⟨b_1, 0, none⟩) 3 3)), (11, (ii 3))] a ∧ Hp w wv [(rowsR w.heap.size 91 2 AstA.cells astOw astFp (.slice LA li.length lc) li), (bx b_1 3 [(ii 1), (ii 7), (ii 8)] true)] [rowF 1 i1C XA xs] ∧ (i ≤ 3) ∧ (li.map (·.item) = libItems.take i) ∧ (∀ a ∈ li, picsOk 30 a.pics) ∧ (li.Pairwise fun a b => ∀ k, astFp a k → ¬ astFp b k)) (3 - 0) ?_ ?_
 ·exact ⟨0, [], none, 0, (by omega), H.keep (by kernel_rfl), HP, (by omega), rfl, (fun _ h => by cases h), .nil⟩
 rintro mm a w_3 ⟨i, li, LA, lc, hmeas, H, HP, hi, hit, hok, hdj⟩
 have hlil : li.length = i := by have := congrArg List.length hit; rw [List.length_map, List.length_take] at this; simp only [libItems, List.length_cons, List.length_nil] at this; omega
 refine zsq (zrg ?_)
 refine H.ge HP [(13, (.bool (decide ((i : Int) < 3))))] [] fun a H => ?_
 refine ztn (zsq ?_)
 refine w_if H rfl (fun g13 => ?_) (fun g13 => ?_)
 ·have g13p := of_decide_eq_true g13
  refine zsk (ztn (zsq (zbk (zsq (zrg ?_)))))
  have hti := iti_bd i
  refine H.u 14 (.pointer (some ⟨b_1, 0 + i * 1, none⟩)) (ex_index (b := b_1) (off := 0) (len := 3) (cap := 3) (e := 3) (k := 1) (ik := .i64) (i := (i : Int)) (m := i) (by kernel_rfl) (by kernel_rfl) (by omega) (by omega) (by kernel_rfl) (by kernel_rfl)) fun a H => H.u 15 (ii (iti i)) (ex_l1 (iti_cell (HP.at_ 1 rfl) (by omega))) fun a H => ?_
  refine H.ge HP [(5, (ii (iti i)))] [] fun a H => ?_
  refine ztn (zsq (zrg ?_))
  refine H.go HP 2 [(17, (.agg #[(ii (iti i)), (.slice none 0 0)]))] [] fun a H => H.al HP 6 91 [(ii 0), (.slice none 0 0)] fun b_4 w_5 a H HP => H.sh HP 0 0 (.agg #[(ii (iti i)), (.slice none 0 0)]) rfl fun w_6 a H HP => ?_
  refine znl (ztn (zsq (zsq (zrg ?_))))
  refine H.ge HP [(7, (ii 0))] [] fun a H => ?_
  refine ztn (zbk ?_)
  have HP := HP.nilRow w.heap.size 96 3 PicA.cells okT feF elOk_flat
  refine w_loop (fun mm a wv => ∃ (j : Nat), ∃ (pl : List PicA), ∃ (PA : Option Addr), ∃ (pc : Nat), 30 - j = mm ∧ Sl 76 [(7, (ii j)), (0, (.slice XA xs.length xc)), (3, (.slice LA li.length lc)), (5, (ii (iti i))), (6, (pt b_4 0)), (10, (.slice (some ⟨b_1, 0, none⟩) 3 3)), (11, (ii 3)), (12, (ii i))] a ∧ Hp w wv [(rowsR w.heap.size 96 3 PicA.cells okT feF (.slice PA pl.length pc) pl), bx b_4 91 [(ii (iti i)), (.slice PA pl.length pc)] true, (rowsR w.heap.size 91 2 AstA.cells astOw astFp (.slice LA li.length lc) li), (bx b_1 3 [(ii 1), (ii 7), (ii 8)] true)] [rowF 1 i1C XA xs] ∧ (j ≤ 30) ∧ (picsOk j pl)) (30 - 0) ?_ ?_
  ·exact ⟨0, [], none, 0, (by omega), H.keep (by kernel_rfl), HP, (by omega), picsOk_nil⟩
  rintro mm a w_7 ⟨j, pl, PA, pc, hmeas, H, HP, hj, hpk⟩
  have hpll : pl.length = j := hpk.1
  refine zsq (zsq (zrg ?_))
  refine H.ge HP [(19, (.bool (decide ((j : Int) < 30))))] [] fun a H => ?_
  refine ztn ?_
  refine w_if H rfl (fun g19 => ?_) (fun g19 => ?_)
  ·have g19p := of_decide_eq_true g19
   refine zsk (ztn (zsq (zbk (zsq (zrg ?_)))))
   refine H.go HP 1 [(22, (ii j))] [] fun a H => H.wi 23 (7 * (j : Int)) fun a H => H.go HP 1 [(24, (ii (iti i)))] [] fun a H => H.wi 25 ((7 * (j : Int)) + (iti i)) fun a H => ?_
   refine H.ge HP [(8, (ii ((7 * (j : Int)) + (iti i))))] [] fun a H => ?_
   refine ztn ?_
   refine w_cut (fun a wv => ∃ (cq : Int), Sl 76 [(8, (ii cq)), (7, (ii j)), (0, (.slice XA xs.length xc)), (3, (.slice LA li.length lc)), (5, (ii (iti i))), (6, (pt b_4 0)), (10, (.slice (some ⟨b_1, 0, none⟩) 3 3)), (11, (ii 3)), (12, (ii i))] a ∧ Hp w wv [(rowsR w.heap.size 96 3 PicA.cells okT feF (.slice PA pl.length pc) pl), bx b_4 91 [(ii (iti i)), (.slice PA pl.length pc)] true, (rowsR w.heap.size 91 2 AstA.cells astOw astFp (.slice LA li.length lc) li), (bx b_1 3 [(ii 1), (ii 7), (ii 8)] true)] [rowF 1 i1C XA xs] ∧ (0 ≤ cq ∧ cq ≤ 2000000)) ?_ ?_
   ·
    refine zsq (zrg ?_)
    refine H.ge HP [(28, (.bool (decide ((xs.length : Int) > 0))))] [] fun a H => ?_
    refine ztn ?_
    refine w_if H rfl (fun g28 => ?_) (fun g28 => ?_)
    ·have g28p := of_decide_eq_true g28
     refine zrg ?_
     refine H.go HP 5 [(29, (ii ((7 * (j : Int)) + (iti i)))), (30, (.slice XA xs.length xc)), (31, (ii j)), (33, (ii xs.length))] [] fun a H => H.valE 34 (ii ((j : Int).tmod (xs.length : Int))) (ii ((j % xs.length : Nat) : Int)) (by kernel_rfl) (ex_rem (k := .i64) (by kernel_rfl) (by kernel_rfl) (by omega)) ((congrArg (Value.int .i64) (by rw [tmod_nn _ _ (by omega)]; exact (Int.natCast_emod j xs.length).symm))) fun a H => ?_
     have hjm : j % xs.length < xs.length := Nat.mod_lt _ (by omega)
     obtain ⟨bu, ou, xe, hA, _, _, hxe, hxm, _⟩ := IsRow.get i1C_size (HP.fact 0 rfl : IsRow 1 i1C _ XA xs) (i := j % xs.length) hjm
     have hxi := hx xe hxm
     refine H.u 35 (.pointer (some ⟨bu, ou + (j % xs.length) * 1, none⟩)) (ex_indexA (b := bu) (off := ou) (len := xs.length) (cap := xc) (e := 3) (k := 1) (ik := .i64) (i := ((j % xs.length : Nat) : Int)) (m := j % xs.length) hA (by kernel_rfl) (by kernel_rfl) rfl hjm (by kernel_rfl) (by kernel_rfl)) fun a H => H.u 36 (ii xe) (ex_l1 (by have hh := IsRow.cells i1C_size (HP.fact 0 rfl : IsRow 1 i1C _ XA xs) hA hxe 0 _ rfl; rwa [Nat.add_zero] at hh)) fun a H => ?_
     refine H.cl 37 (Tryz.call18 _ _) (pick_any xe 1048576 w_7 hxi (by omega)) ?_
     rintro e w_9 ⟨rfl, hw⟩
     refine ⟨_, rfl, ?_⟩
     intro a H
     have HP := hw ▸ HP
     have hp_8 := pickI_lt xe 1048576 (by omega)
     refine H.wi 38 (((7 * (j : Int)) + (iti i)) + (pickI xe 1048576)) fun a H => ?_
     refine H.ge HP [(8, (ii (((7 * (j : Int)) + (iti i)) + (pickI xe 1048576))))] [] fun a H => ?_
     refine ztn ?_
     exact ⟨((7 * (j : Int)) + (iti i)) + (pickI xe 1048576), H.keep (by kernel_rfl), HP, (by omega)⟩
    have g28p := of_decide_eq_false g28
    refine zsk (ztn ?_)
    exact ⟨(7 * (j : Int)) + (iti i), H.keep (by kernel_rfl), HP, (by omega)⟩
   
   rintro a w_10 ⟨cq, H, HP, hcq⟩
   refine zsq ?_
   have hD : 160 ≤ (40 + 120 * (iti i % 3)) ∧ (40 + 120 * (iti i % 3)) ≤ 280 := iti_D i
   have hm1 := Int.emod_nonneg cq (show (40 + 120 * (iti i % 3)) ≠ 0 by omega)
   have hm2 := Int.emod_lt_of_pos cq (show 0 < (40 + 120 * (iti i % 3)) by omega)
   obtain ⟨sN, hsN⟩ : ∃ n : Nat, 1 + cq % (40 + 120 * (iti i % 3)) = (n : Int) := ⟨(1 + cq % (40 + 120 * (iti i % 3))).toNat, by omega⟩
   refine zrg ?_
   refine H.go HP 2 [(39, (ii cq)), (40, (ii (iti i)))] [] fun a H => H.valE 41 (ii ((iti i).tmod 3)) (ii ((iti i) % 3)) (by kernel_rfl) (by kernel_rfl) ((by rw [tmod_nn _ _ (by omega)])) fun a H => H.wi 42 (120 * ((iti i) % 3)) fun a H => H.wi 43 (40 + (120 * ((iti i) % 3))) fun a H => H.valE 44 (ii (cq.tmod (40 + 120 * (iti i % 3)))) (ii (cq % (40 + 120 * (iti i % 3)))) (by kernel_rfl) (ex_rem (k := .i64) (by kernel_rfl) (by kernel_rfl) (by omega)) ((by rw [tmod_nn _ _ (by omega)])) fun a H => H.valE 45 (ii (IntKind.i64.wrap (1 + (cq % (40 + 120 * (iti i % 3)))))) (ii sN) (by kernel_rfl) (by kernel_rfl) ((congrArg (Value.int .i64) (by rw [wrap_ini64 _ (by omega)]; exact hsN))) fun a H => ?_
   refine H.ge HP [(9, (ii sN))] [] fun a H => ?_
   refine ztn ?_
   have HP := HP.front 0 rfl _ rfl
   refine An.start (fun v => Hp w v [bx b_4 91 [(ii (iti i)), (.slice PA pl.length pc)] true, (rowsR w.heap.size 91 2 AstA.cells astOw astFp (.slice LA li.length lc) li), (bx b_1 3 [(ii 1), (ii 7), (ii 8)] true)] [rowF 1 i1C XA xs]) 24 25 HP wide_follows rfl fun w_11 HP => ?_
   refine An.go H (.inr ((HP.tail rfl))) 22 [0, 1, 2] [(47, (.slice PA pl.length pc)), (48, (ii j))] [0] fun a H => ?_
   refine An.pureE H (.inr ((HP.tail rfl))) 3 49 (ii ((j : Int).tmod 4)) (ii ((j : Int) % 4)) rfl (by kernel_rfl) (by kernel_rfl) (fun _ _ _ h => h) (fun _ => by kernel_rfl) ((by rw [tmod_nn _ _ (by omega)])) fun a H => ?_
   refine An.go H (.inr ((HP.tail rfl))) 17 [4, 5, 10, 13] [(51, (.bool (((j : Int) % 4) == 0))), (56, (ii sN)), (59, (ii (iti i)))] [] fun a H => ?_
   refine An.pureE H (.inr ((HP.tail rfl))) 14 60 (.int .u8 (IntKind.u8.wrap (iti i))) (.int .u8 (iti i)) rfl (by kernel_rfl) (by kernel_rfl) (fun _ _ _ h => h) (fun _ => by kernel_rfl) ((by rw [wrap_inu8 _ (by omega)])) fun a H => ?_
   refine An.go H (.inr ((HP.tail rfl))) 15 [15] [(61, (ii j))] [] fun a H => ?_
   refine An.pureE H (.inr ((HP.tail rfl))) 16 62 (.int .u8 (IntKind.u8.wrap (j : Int))) (.int .u8 (j : Int)) rfl (by kernel_rfl) (by kernel_rfl) (fun _ _ _ h => h) (fun _ => by kernel_rfl) ((by rw [wrap_inu8 _ (by omega)])) fun a H => ?_
   refine H.split 51 rfl (fun g51 H => ?_) (fun g51 H => ?_)
   ·have g51p := eq_of_beq g51
    refine An.go H (.inr ((HP.tail rfl))) 10 [6, 7, 8, 9] [(55, (.bool true))] [] fun a H => ?_
    refine An.two 11 17 (by kernel_rfl) ?_ ?_
    ·refine Op.alloc H HP 57 (fun b => (.slice (some ⟨b, 0, none⟩) sN sN)) 5 (List.replicate sN (.int .u8 0)) rfl (by kernel_rfl) (fun w => ex_make (n := sN) (e := 5) (k := .i64) (by kernel_rfl) (by kernel_rfl) (by kernel_rfl) (by kernel_rfl) (by omega)) fun b_12 w_13 a H HP => ?_
     refine ⟨.inr (((HP.tail rfl).tail rfl)), ?_⟩
     refine An.two 12 17 (by kernel_rfl) ?_ ?_
     ·refine Op.val H 58 (.string (bstr (List.replicate sN 0))) rfl (by kernel_rfl) (ex_b2sR (l := List.replicate sN 0) (e := 5) (m := sN) (c := sN) (by kernel_rfl) (rd_zeros (HP.at_ 0 rfl)) (by kernel_rfl) (by kernel_rfl) (by kernel_rfl)) fun a H => ?_
      refine ⟨.inr (((HP.tail rfl).tail rfl)), ?_⟩
      refine An.one 17 (by kernel_rfl) ?_
      refine Op.alloc H HP 63 (fun b => (.slice (some ⟨b, 0, none⟩) 2 2)) 5 [(.int .u8 (iti i)), (.int .u8 (j : Int))] rfl (by kernel_rfl) (fun w => by kernel_rfl) fun b_14 w_15 a H HP => ?_
      refine ⟨.inr ((((HP.tail rfl).tail rfl).tail rfl)), ?_⟩
      refine An.one 18 (by kernel_rfl) ?_
      refine Op.val H 64 (.string (bstr (bytes2 (iti i) (j : Int)))) rfl (by kernel_rfl) (ex_b2sR (l := bytes2 (iti i) (j : Int)) (e := 5) (m := 2) (c := 2) (by kernel_rfl) (rd_bytes2 (HP.at_ 0 rfl) (by omega) (by omega)) (by kernel_rfl) (by kernel_rfl) (by kernel_rfl)) fun a H => ?_
      refine ⟨.inr ((((HP.tail rfl).tail rfl).tail rfl)), ?_⟩
      refine An.q H (.inr ((((HP.tail rfl).tail rfl).tail rfl))) 19 65 (.string (bstr ((List.replicate sN 0) ++ (bytes2 (iti i) (j : Int))))) (fun _ => ex_sadd (by kernel_rfl) (by kernel_rfl) (by rw [List.length_replicate]; show sN + 2 ≤ _; omega)) fun a H => ?_
      refine An.go H (.inr ((((HP.tail rfl).tail rfl).tail rfl))) 4 [20] [(66, (.agg #[(.bool true), (.string (bstr ((List.replicate sN 0) ++ (bytes2 (iti i) (j : Int))))), (ii 0)]))] [] fun a H => ?_
      refine An.one 21 (by kernel_rfl) ?_
      refine Op.alloc H HP 67 (fun b => (.slice (some ⟨b, 0, none⟩) 1 1)) 96 [(.bool true), (.string (bstr ((List.replicate sN 0) ++ (bytes2 (iti i) (j : Int))))), (ii 0)] rfl (by kernel_rfl) (fun w => by kernel_rfl) fun b_16 w_17 a H HP => ?_
      refine ⟨.inr (((((HP.tail rfl).tail rfl).tail rfl).tail rfl)), ?_⟩
      refine An.one 22 (by kernel_rfl) ?_
      have HP := HP.pend0 3 rfl elOk_flat (⟨true, bstr ((List.replicate sN 0) ++ (bytes2 (iti i) (j : Int))), 0⟩ : PicA) [bx b_16 96 [(.bool true), (.string (bstr ((List.replicate sN 0) ++ (bytes2 (iti i) (j : Int))))), (ii 0)] true, bx b_14 5 [(.int .u8 (iti i)), (.int .u8 (j : Int))] true, bx b_12 5 (List.replicate sN (.int .u8 0)) true, (rowsP w.heap.size 96 3 PicA.cells okT feF (.slice PA pl.length pc) pl (⟨true, bstr ((List.replicate sN 0) ++ (bytes2 (iti i) (j : Int))), 0⟩ : PicA)), bx b_4 91 [(ii (iti i)), (.slice PA pl.length pc)] true, (rowsR w.heap.size 91 2 AstA.cells astOw astFp (.slice LA li.length lc) li), (bx b_1 3 [(ii 1), (ii 7), (ii 8)] true)] (by kernel_rfl) trivial (fun _ h => h)
      refine Op.push H HP 68 3 0 (v := (.slice PA pl.length pc)) (e := 96) (p := (⟨true, bstr ((List.replicate sN 0) ++ (bytes2 (iti i) (j : Int))), 0⟩ : PicA)) (l := pl) (cs := PicA.cells) (ok := okT) (fe := feF) (size := 3) (z := (.agg #[(.bool false), (.string (bstr ([]))), (ii 0)])) (bytes := 32) (bb := b_16) (tb := 96) (fb := true) rfl (by kernel_rfl) elOk_flat (by kernel_rfl) (by kernel_rfl) rfl (by kernel_rfl) (by kernel_rfl) (by kernel_rfl) (by kernel_rfl) (by kernel_rfl) rfl (by kernel_rfl) (by unfold maxLen; omega) (by omega) fun B_18 c_19 w_20 a H HP => ?_
      have HP : Hp w w_20 [bx b_16 96 [(.bool true), (.string (bstr ((List.replicate sN 0) ++ (bytes2 (iti i) (j : Int))))), (ii 0)] true, bx b_14 5 [(.int .u8 (iti i)), (.int .u8 (j : Int))] true, bx b_12 5 (List.replicate sN (.int .u8 0)) true, (rowsR w.heap.size 96 3 PicA.cells okT feF (.slice B_18 (pl.length + 1) c_19) (pl ++ [(⟨true, bstr ((List.replicate sN 0) ++ (bytes2 (iti i) (j : Int))), 0⟩ : PicA)])), bx b_4 91 [(ii (iti i)), (.slice PA pl.length pc)] true, (rowsR w.heap.size 91 2 AstA.cells astOw astFp (.slice LA li.length lc) li), (bx b_1 3 [(ii 1), (ii 7), (ii 8)] true)] [rowF 1 i1C XA xs] := HP
      refine ⟨.inr (((((HP.tail rfl).tail rfl).tail rfl).tail rfl)), ?_⟩
      refine An.go H (.inr (((((HP.tail rfl).tail rfl).tail rfl).tail rfl))) 1 [23] [(69, (pt b_4 1))] [] fun a H => ?_
      refine An.one 24 (by kernel_rfl) ?_
      refine Op.sh H HP 4 1 (.slice B_18 (pl.length + 1) c_19) rfl rfl fun w_21 a H HP => ?_
      refine ⟨.inl (by kernel_rfl), ?_⟩
      refine An.done (by kernel_rfl) ?_
      refine zibn (ztn (zrg ?_))
      refine H.go HP 1 [(20, (ii j))] [] fun a H => H.wi 21 ((j : Int) + 1) fun a H => ?_
      refine H.ge HP [(7, (ii ((j : Int) + 1)))] [] fun a H => ?_
      refine ztn ?_
      have H := H.as 7 (ii ((j + 1 : Nat) : Int)) rfl rfl
      refine ⟨_, ?_, j + 1, pl ++ [(⟨true, bstr ((List.replicate sN 0) ++ (bytes2 (iti i) (j : Int))), 0⟩ : PicA)], B_18, c_19, rfl, H.keep (by kernel_rfl), (by have hh := (HP.sub [3, 4, 5, 6] [(rowsR w.heap.size 96 3 PicA.cells okT feF (.slice B_18 (pl.length + 1) c_19) (pl ++ [(⟨true, bstr ((List.replicate sN 0) ++ (bytes2 (iti i) (j : Int))), 0⟩ : PicA)])), bx b_4 91 [(ii (iti i)), (.slice B_18 (pl.length + 1) c_19)] true, (rowsR w.heap.size 91 2 AstA.cells astOw astFp (.slice LA li.length lc) li), (bx b_1 3 [(ii 1), (ii 7), (ii 8)] true)] (by kernel_rfl) (by kernel_rfl)); rw [show pl.length + 1 = (pl ++ [(⟨true, bstr ((List.replicate sN 0) ++ (bytes2 (iti i) (j : Int))), 0⟩ : PicA)]).length from (by rw [List.length_append]; rfl)] at hh; exact hh), (by omega), (picsOk_next hpk (by omega) (.inl rfl))⟩
      omega
     refine Op.alloc H HP 63 (fun b => (.slice (some ⟨b, 0, none⟩) 2 2)) 5 [(.int .u8 (iti i)), (.int .u8 (j : Int))] rfl (by kernel_rfl) (fun w => by kernel_rfl) fun b_22 w_23 a H HP => ?_
     refine ⟨.inr ((((HP.tail rfl).tail rfl).tail rfl)), ?_⟩
     refine An.two 12 18 (by kernel_rfl) ?_ ?_
     ·refine Op.val H 58 (.string (bstr (List.replicate sN 0))) rfl (by kernel_rfl) (ex_b2sR (l := List.replicate sN 0) (e := 5) (m := sN) (c := sN) (by kernel_rfl) (rd_zeros (HP.at_ 1 rfl)) (by kernel_rfl) (by kernel_rfl) (by kernel_rfl)) fun a H => ?_
      refine ⟨.inr ((((HP.tail rfl).tail rfl).tail rfl)), ?_⟩
      refine An.one 18 (by kernel_rfl) ?_
      refine Op.val H 64 (.string (bstr (bytes2 (iti i) (j : Int)))) rfl (by kernel_rfl) (ex_b2sR (l := bytes2 (iti i) (j : Int)) (e := 5) (m := 2) (c := 2) (by kernel_rfl) (rd_bytes2 (HP.at_ 0 rfl) (by omega) (by omega)) (by kernel_rfl) (by kernel_rfl) (by kernel_rfl)) fun a H => ?_
      refine ⟨.inr ((((HP.tail rfl).tail rfl).tail rfl)), ?_⟩
      refine An.q H (.inr ((((HP.tail rfl).tail rfl).tail rfl))) 19 65 (.string (bstr ((List.replicate sN 0) ++ (bytes2 (iti i) (j : Int))))) (fun _ => ex_sadd (by kernel_rfl) (by kernel_rfl) (by rw [List.length_replicate]; show sN + 2 ≤ _; omega)) fun a H => ?_
      refine An.go H (.inr ((((HP.tail rfl).tail rfl).tail rfl))) 4 [20] [(66, (.agg #[(.bool true), (.string (bstr ((List.replicate sN 0) ++ (bytes2 (iti i) (j : Int))))), (ii 0)]))] [] fun a H => ?_
      refine An.one 21 (by kernel_rfl) ?_
      refine Op.alloc H HP 67 (fun b => (.slice (some ⟨b, 0, none⟩) 1 1)) 96 [(.bool true), (.string (bstr ((List.replicate sN 0) ++ (bytes2 (iti i) (j : Int))))), (ii 0)] rfl (by kernel_rfl) (fun w => by kernel_rfl) fun b_24 w_25 a H HP => ?_
      refine ⟨.inr (((((HP.tail rfl).tail rfl).tail rfl).tail rfl)), ?_⟩
      refine An.one 22 (by kernel_rfl) ?_
      have HP := HP.pend0 3 rfl elOk_flat (⟨true, bstr ((List.replicate sN 0) ++ (bytes2 (iti i) (j : Int))), 0⟩ : PicA) [bx b_24 96 [(.bool true), (.string (bstr ((List.replicate sN 0) ++ (bytes2 (iti i) (j : Int))))), (ii 0)] true, bx b_22 5 [(.int .u8 (iti i)), (.int .u8 (j : Int))] true, bx b_12 5 (List.replicate sN (.int .u8 0)) true, (rowsP w.heap.size 96 3 PicA.cells okT feF (.slice PA pl.length pc) pl (⟨true, bstr ((List.replicate sN 0) ++ (bytes2 (iti i) (j : Int))), 0⟩ : PicA)), bx b_4 91 [(ii (iti i)), (.slice PA pl.length pc)] true, (rowsR w.heap.size 91 2 AstA.cells astOw astFp (.slice LA li.length lc) li), (bx b_1 3 [(ii 1), (ii 7), (ii 8)] true)] (by kernel_rfl) trivial (fun _ h => h)
      refine Op.push H HP 68 3 0 (v := (.slice PA pl.length pc)) (e := 96) (p := (⟨true, bstr ((List.replicate sN 0) ++ (bytes2 (iti i) (j : Int))), 0⟩ : PicA)) (l := pl) (cs := PicA.cells) (ok := okT) (fe := feF) (size := 3) (z := (.agg #[(.bool false), (.string (bstr ([]))), (ii 0)])) (bytes := 32) (bb := b_24) (tb := 96) (fb := true) rfl (by kernel_rfl) elOk_flat (by kernel_rfl) (by kernel_rfl) rfl (by kernel_rfl) (by kernel_rfl) (by kernel_rfl) (by kernel_rfl) (by kernel_rfl) rfl (by kernel_rfl) (by unfold maxLen; omega) (by omega) fun B_26 c_27 w_28 a H HP => ?_
      have HP : Hp w w_28 [bx b_24 96 [(.bool true), (.string (bstr ((List.replicate sN 0) ++ (bytes2 (iti i) (j : Int))))), (ii 0)] true, bx b_22 5 [(.int .u8 (iti i)), (.int .u8 (j : Int))] true, bx b_12 5 (List.replicate sN (.int .u8 0)) true, (rowsR w.heap.size 96 3 PicA.cells okT feF (.slice B_26 (pl.length + 1) c_27) (pl ++ [(⟨true, bstr ((List.replicate sN 0) ++ (bytes2 (iti i) (j : Int))), 0⟩ : PicA)])), bx b_4 91 [(ii (iti i)), (.slice PA pl.length pc)] true, (rowsR w.heap.size 91 2 AstA.cells astOw astFp (.slice LA li.length lc) li), (bx b_1 3 [(ii 1), (ii 7), (ii 8)] true)] [rowF 1 i1C XA xs] := HP
      refine ⟨.inr (((((HP.tail rfl).tail rfl).tail rfl).tail rfl)), ?_⟩
      refine An.go H (.inr (((((HP.tail rfl).tail rfl).tail rfl).tail rfl))) 1 [23] [(69, (pt b_4 1))] [] fun a H => ?_
      refine An.one 24 (by kernel_rfl) ?_
      refine Op.sh H HP 4 1 (.slice B_26 (pl.length + 1) c_27) rfl rfl fun w_29 a H HP => ?_
      refine ⟨.inl (by kernel_rfl), ?_⟩
      refine An.done (by kernel_rfl) ?_
      refine zibn (ztn (zrg ?_))
      refine H.go HP 1 [(20, (ii j))] [] fun a H => H.wi 21 ((j : Int) + 1) fun a H => ?_
      refine H.ge HP [(7, (ii ((j : Int) + 1)))] [] fun a H => ?_
      refine ztn ?_
      have H := H.as 7 (ii ((j + 1 : Nat) : Int)) rfl rfl
      refine ⟨_, ?_, j + 1, pl ++ [(⟨true, bstr ((List.replicate sN 0) ++ (bytes2 (iti i) (j : Int))), 0⟩ : PicA)], B_26, c_27, rfl, H.keep (by kernel_rfl), (by have hh := (HP.sub [3, 4, 5, 6] [(rowsR w.heap.size 96 3 PicA.cells okT feF (.slice B_26 (pl.length + 1) c_27) (pl ++ [(⟨true, bstr ((List.replicate sN 0) ++ (bytes2 (iti i) (j : Int))), 0⟩ : PicA)])), bx b_4 91 [(ii (iti i)), (.slice B_26 (pl.length + 1) c_27)] true, (rowsR w.heap.size 91 2 AstA.cells astOw astFp (.slice LA li.length lc) li), (bx b_1 3 [(ii 1), (ii 7), (ii 8)] true)] (by kernel_rfl) (by kernel_rfl)); rw [show pl.length + 1 = (pl ++ [(⟨true, bstr ((List.replicate sN 0) ++ (bytes2 (iti i) (j : Int))), 0⟩ : PicA)]).length from (by rw [List.length_append]; rfl)] at hh; exact hh), (by omega), (picsOk_next hpk (by omega) (.inl rfl))⟩
      omega
     refine Op.val H 64 (.string (bstr (bytes2 (iti i) (j : Int)))) rfl (by kernel_rfl) (ex_b2sR (l := bytes2 (iti i) (j : Int)) (e := 5) (m := 2) (c := 2) (by kernel_rfl) (rd_bytes2 (HP.at_ 0 rfl) (by omega) (by omega)) (by kernel_rfl) (by kernel_rfl) (by kernel_rfl)) fun a H => ?_
     refine ⟨.inr ((((HP.tail rfl).tail rfl).tail rfl)), ?_⟩
     refine An.one 12 (by kernel_rfl) ?_
     refine Op.val H 58 (.string (bstr (List.replicate sN 0))) rfl (by kernel_rfl) (ex_b2sR (l := List.replicate sN 0) (e := 5) (m := sN) (c := sN) (by kernel_rfl) (rd_zeros (HP.at_ 1 rfl)) (by kernel_rfl) (by kernel_rfl) (by kernel_rfl)) fun a H => ?_
     refine ⟨.inr ((((HP.tail rfl).tail rfl).tail rfl)), ?_⟩
     refine An.q H (.inr ((((HP.tail rfl).tail rfl).tail rfl))) 19 65 (.string (bstr ((List.replicate sN 0) ++ (bytes2 (iti i) (j : Int))))) (fun _ => ex_sadd (by kernel_rfl) (by kernel_rfl) (by rw [List.length_replicate]; show sN + 2 ≤ _; omega)) fun a H => ?_
     refine An.go H (.inr ((((HP.tail rfl).tail rfl).tail rfl))) 4 [20] [(66, (.agg #[(.bool true), (.string (bstr ((List.replicate sN 0) ++ (bytes2 (iti i) (j : Int))))), (ii 0)]))] [] fun a H => ?_
     refine An.one 21 (by kernel_rfl) ?_
     refine Op.alloc H HP 67 (fun b => (.slice (some ⟨b, 0, none⟩) 1 1)) 96 [(.bool true), (.string (bstr ((List.replicate sN 0) ++ (bytes2 (iti i) (j : Int))))), (ii 0)] rfl (by kernel_rfl) (fun w => by kernel_rfl) fun b_30 w_31 a H HP => ?_
     refine ⟨.inr (((((HP.tail rfl).tail rfl).tail rfl).tail rfl)), ?_⟩
     refine An.one 22 (by kernel_rfl) ?_
     have HP := HP.pend0 3 rfl elOk_flat (⟨true, bstr ((List.replicate sN 0) ++ (bytes2 (iti i) (j : Int))), 0⟩ : PicA) [bx b_30 96 [(.bool true), (.string (bstr ((List.replicate sN 0) ++ (bytes2 (iti i) (j : Int))))), (ii 0)] true, bx b_22 5 [(.int .u8 (iti i)), (.int .u8 (j : Int))] true, bx b_12 5 (List.replicate sN (.int .u8 0)) true, (rowsP w.heap.size 96 3 PicA.cells okT feF (.slice PA pl.length pc) pl (⟨true, bstr ((List.replicate sN 0) ++ (bytes2 (iti i) (j : Int))), 0⟩ : PicA)), bx b_4 91 [(ii (iti i)), (.slice PA pl.length pc)] true, (rowsR w.heap.size 91 2 AstA.cells astOw astFp (.slice LA li.length lc) li), (bx b_1 3 [(ii 1), (ii 7), (ii 8)] true)] (by kernel_rfl) trivial (fun _ h => h)
     refine Op.push H HP 68 3 0 (v := (.slice PA pl.length pc)) (e := 96) (p := (⟨true, bstr ((List.replicate sN 0) ++ (bytes2 (iti i) (j : Int))), 0⟩ : PicA)) (l := pl) (cs := PicA.cells) (ok := okT) (fe := feF) (size := 3) (z := (.agg #[(.bool false), (.string (bstr ([]))), (ii 0)])) (bytes := 32) (bb := b_30) (tb := 96) (fb := true) rfl (by kernel_rfl) elOk_flat (by kernel_rfl) (by kernel_rfl) rfl (by kernel_rfl) (by kernel_rfl) (by kernel_rfl) (by kernel_rfl) (by kernel_rfl) rfl (by kernel_rfl) (by unfold maxLen; omega) (by omega) fun B_32 c_33 w_34 a H HP => ?_
     have HP : Hp w w_34 [bx b_30 96 [(.bool true), (.string (bstr ((List.replicate sN 0) ++ (bytes2 (iti i) (j : Int))))), (ii 0)] true, bx b_22 5 [(.int .u8 (iti i)), (.int .u8 (j : Int))] true, bx b_12 5 (List.replicate sN (.int .u8 0)) true, (rowsR w.heap.size 96 3 PicA.cells okT feF (.slice B_32 (pl.length + 1) c_33) (pl ++ [(⟨true, bstr ((List.replicate sN 0) ++ (bytes2 (iti i) (j : Int))), 0⟩ : PicA)])), bx b_4 91 [(ii (iti i)), (.slice PA pl.length pc)] true, (rowsR w.heap.size 91 2 AstA.cells astOw astFp (.slice LA li.length lc) li), (bx b_1 3 [(ii 1), (ii 7), (ii 8)] true)] [rowF 1 i1C XA xs] := HP
     refine ⟨.inr (((((HP.tail rfl).tail rfl).tail rfl).tail rfl)), ?_⟩
     refine An.go H (.inr (((((HP.tail rfl).tail rfl).tail rfl).tail rfl))) 1 [23] [(69, (pt b_4 1))] [] fun a H => ?_
     refine An.one 24 (by kernel_rfl) ?_
     refine Op.sh H HP 4 1 (.slice B_32 (pl.length + 1) c_33) rfl rfl fun w_35 a H HP => ?_
     refine ⟨.inl (by kernel_rfl), ?_⟩
     refine An.done (by kernel_rfl) ?_
     refine zibn (ztn (zrg ?_))
     refine H.go HP 1 [(20, (ii j))] [] fun a H => H.wi 21 ((j : Int) + 1) fun a H => ?_
     refine H.ge HP [(7, (ii ((j : Int) + 1)))] [] fun a H => ?_
     refine ztn ?_
     have H := H.as 7 (ii ((j + 1 : Nat) : Int)) rfl rfl
     refine ⟨_, ?_, j + 1, pl ++ [(⟨true, bstr ((List.replicate sN 0) ++ (bytes2 (iti i) (j : Int))), 0⟩ : PicA)], B_32, c_33, rfl, H.keep (by kernel_rfl), (by have hh := (HP.sub [3, 4, 5, 6] [(rowsR w.heap.size 96 3 PicA.cells okT feF (.slice B_32 (pl.length + 1) c_33) (pl ++ [(⟨true, bstr ((List.replicate sN 0) ++ (bytes2 (iti i) (j : Int))), 0⟩ : PicA)])), bx b_4 91 [(ii (iti i)), (.slice B_32 (pl.length + 1) c_33)] true, (rowsR w.heap.size 91 2 AstA.cells astOw astFp (.slice LA li.length lc) li), (bx b_1 3 [(ii 1), (ii 7), (ii 8)] true)] (by kernel_rfl) (by kernel_rfl)); rw [show pl.length + 1 = (pl ++ [(⟨true, bstr ((List.replicate sN 0) ++ (bytes2 (iti i) (j : Int))), 0⟩ : PicA)]).length from (by rw [List.length_append]; rfl)] at hh; exact hh), (by omega), (picsOk_next hpk (by omega) (.inl rfl))⟩
     omega
    refine Op.alloc H HP 63 (fun b => (.slice (some ⟨b, 0, none⟩) 2 2)) 5 [(.int .u8 (iti i)), (.int .u8 (j : Int))] rfl (by kernel_rfl) (fun w => by kernel_rfl) fun b_36 w_37 a H HP => ?_
    refine ⟨.inr (((HP.tail rfl).tail rfl)), ?_⟩
    refine An.two 11 18 (by kernel_rfl) ?_ ?_
    ·refine Op.alloc H HP 57 (fun b => (.slice (some ⟨b, 0, none⟩) sN sN)) 5 (List.replicate sN (.int .u8 0)) rfl (by kernel_rfl) (fun w => ex_make (n := sN) (e := 5) (k := .i64) (by kernel_rfl) (by kernel_rfl) (by kernel_rfl) (by kernel_rfl) (by omega)) fun b_38 w_39 a H HP => ?_
     refine ⟨.inr ((((HP.tail rfl).tail rfl).tail rfl)), ?_⟩
     refine An.two 12 18 (by kernel_rfl) ?_ ?_
     ·refine Op.val H 58 (.string (bstr (List.replicate sN 0))) rfl (by kernel_rfl) (ex_b2sR (l := List.replicate sN 0) (e := 5) (m := sN) (c := sN) (by kernel_rfl) (rd_zeros (HP.at_ 0 rfl)) (by kernel_rfl) (by kernel_rfl) (by kernel_rfl)) fun a H => ?_
      refine ⟨.inr ((((HP.tail rfl).tail rfl).tail rfl)), ?_⟩
      refine An.one 18 (by kernel_rfl) ?_
      refine Op.val H 64 (.string (bstr (bytes2 (iti i) (j : Int)))) rfl (by kernel_rfl) (ex_b2sR (l := bytes2 (iti i) (j : Int)) (e := 5) (m := 2) (c := 2) (by kernel_rfl) (rd_bytes2 (HP.at_ 1 rfl) (by omega) (by omega)) (by kernel_rfl) (by kernel_rfl) (by kernel_rfl)) fun a H => ?_
      refine ⟨.inr ((((HP.tail rfl).tail rfl).tail rfl)), ?_⟩
      refine An.q H (.inr ((((HP.tail rfl).tail rfl).tail rfl))) 19 65 (.string (bstr ((List.replicate sN 0) ++ (bytes2 (iti i) (j : Int))))) (fun _ => ex_sadd (by kernel_rfl) (by kernel_rfl) (by rw [List.length_replicate]; show sN + 2 ≤ _; omega)) fun a H => ?_
      refine An.go H (.inr ((((HP.tail rfl).tail rfl).tail rfl))) 4 [20] [(66, (.agg #[(.bool true), (.string (bstr ((List.replicate sN 0) ++ (bytes2 (iti i) (j : Int))))), (ii 0)]))] [] fun a H => ?_
      refine An.one 21 (by kernel_rfl) ?_
      refine Op.alloc H HP 67 (fun b => (.slice (some ⟨b, 0, none⟩) 1 1)) 96 [(.bool true), (.string (bstr ((List.replicate sN 0) ++ (bytes2 (iti i) (j : Int))))), (ii 0)] rfl (by kernel_rfl) (fun w => by kernel_rfl) fun b_40 w_41 a H HP => ?_
      refine ⟨.inr (((((HP.tail rfl).tail rfl).tail rfl).tail rfl)), ?_⟩
      refine An.one 22 (by kernel_rfl) ?_
      have HP := HP.pend0 3 rfl elOk_flat (⟨true, bstr ((List.replicate sN 0) ++ (bytes2 (iti i) (j : Int))), 0⟩ : PicA) [bx b_40 96 [(.bool true), (.string (bstr ((List.replicate sN 0) ++ (bytes2 (iti i) (j : Int))))), (ii 0)] true, bx b_38 5 (List.replicate sN (.int .u8 0)) true, bx b_36 5 [(.int .u8 (iti i)), (.int .u8 (j : Int))] true, (rowsP w.heap.size 96 3 PicA.cells okT feF (.slice PA pl.length pc) pl (⟨true, bstr ((List.replicate sN 0) ++ (bytes2 (iti i) (j : Int))), 0⟩ : PicA)), bx b_4 91 [(ii (iti i)), (.slice PA pl.length pc)] true, (rowsR w.heap.size 91 2 AstA.cells astOw astFp (.slice LA li.length lc) li), (bx b_1 3 [(ii 1), (ii 7), (ii 8)] true)] (by kernel_rfl) trivial (fun _ h => h)
      refine Op.push H HP 68 3 0 (v := (.slice PA pl.length pc)) (e := 96) (p := (⟨true, bstr ((List.replicate sN 0) ++ (bytes2 (iti i) (j : Int))), 0⟩ : PicA)) (l := pl) (cs := PicA.cells) (ok := okT) (fe := feF) (size := 3) (z := (.agg #[(.bool false), (.string (bstr ([]))), (ii 0)])) (bytes := 32) (bb := b_40) (tb := 96) (fb := true) rfl (by kernel_rfl) elOk_flat (by kernel_rfl) (by kernel_rfl) rfl (by kernel_rfl) (by kernel_rfl) (by kernel_rfl) (by kernel_rfl) (by kernel_rfl) rfl (by kernel_rfl) (by unfold maxLen; omega) (by omega) fun B_42 c_43 w_44 a H HP => ?_
      have HP : Hp w w_44 [bx b_40 96 [(.bool true), (.string (bstr ((List.replicate sN 0) ++ (bytes2 (iti i) (j : Int))))), (ii 0)] true, bx b_38 5 (List.replicate sN (.int .u8 0)) true, bx b_36 5 [(.int .u8 (iti i)), (.int .u8 (j : Int))] true, (rowsR w.heap.size 96 3 PicA.cells okT feF (.slice B_42 (pl.length + 1) c_43) (pl ++ [(⟨true, bstr ((List.replicate sN 0) ++ (bytes2 (iti i) (j : Int))), 0⟩ : PicA)])), bx b_4 91 [(ii (iti i)), (.slice PA pl.length pc)] true, (rowsR w.heap.size 91 2 AstA.cells astOw astFp (.slice LA li.length lc) li), (bx b_1 3 [(ii 1), (ii 7), (ii 8)] true)] [rowF 1 i1C XA xs] := HP
      refine ⟨.inr (((((HP.tail rfl).tail rfl).tail rfl).tail rfl)), ?_⟩
      refine An.go H (.inr (((((HP.tail rfl).tail rfl).tail rfl).tail rfl))) 1 [23] [(69, (pt b_4 1))] [] fun a H => ?_
      refine An.one 24 (by kernel_rfl) ?_
      refine Op.sh H HP 4 1 (.slice B_42 (pl.length + 1) c_43) rfl rfl fun w_45 a H HP => ?_
      refine ⟨.inl (by kernel_rfl), ?_⟩
      refine An.done (by kernel_rfl) ?_
      refine zibn (ztn (zrg ?_))
      refine H.go HP 1 [(20, (ii j))] [] fun a H => H.wi 21 ((j : Int) + 1) fun a H => ?_
      refine H.ge HP [(7, (ii ((j : Int) + 1)))] [] fun a H => ?_
      refine ztn ?_
      have H := H.as 7 (ii ((j + 1 : Nat) : Int)) rfl rfl
      refine ⟨_, ?_, j + 1, pl ++ [(⟨true, bstr ((List.replicate sN 0) ++ (bytes2 (iti i) (j : Int))), 0⟩ : PicA)], B_42, c_43, rfl, H.keep (by kernel_rfl), (by have hh := (HP.sub [3, 4, 5, 6] [(rowsR w.heap.size 96 3 PicA.cells okT feF (.slice B_42 (pl.length + 1) c_43) (pl ++ [(⟨true, bstr ((List.replicate sN 0) ++ (bytes2 (iti i) (j : Int))), 0⟩ : PicA)])), bx b_4 91 [(ii (iti i)), (.slice B_42 (pl.length + 1) c_43)] true, (rowsR w.heap.size 91 2 AstA.cells astOw astFp (.slice LA li.length lc) li), (bx b_1 3 [(ii 1), (ii 7), (ii 8)] true)] (by kernel_rfl) (by kernel_rfl)); rw [show pl.length + 1 = (pl ++ [(⟨true, bstr ((List.replicate sN 0) ++ (bytes2 (iti i) (j : Int))), 0⟩ : PicA)]).length from (by rw [List.length_append]; rfl)] at hh; exact hh), (by omega), (picsOk_next hpk (by omega) (.inl rfl))⟩
      omega
     refine Op.val H 64 (.string (bstr (bytes2 (iti i) (j : Int)))) rfl (by kernel_rfl) (ex_b2sR (l := bytes2 (iti i) (j : Int)) (e := 5) (m := 2) (c := 2) (by kernel_rfl) (rd_bytes2 (HP.at_ 1 rfl) (by omega) (by omega)) (by kernel_rfl) (by kernel_rfl) (by kernel_rfl)) fun a H => ?_
     refine ⟨.inr ((((HP.tail rfl).tail rfl).tail rfl)), ?_⟩
     refine An.one 12 (by kernel_rfl) ?_
     refine Op.val H 58 (.string (bstr (List.replicate sN 0))) rfl (by kernel_rfl) (ex_b2sR (l := List.replicate sN 0) (e := 5) (m := sN) (c := sN) (by kernel_rfl) (rd_zeros (HP.at_ 0 rfl)) (by kernel_rfl) (by kernel_rfl) (by kernel_rfl)) fun a H => ?_
     refine ⟨.inr ((((HP.tail rfl).tail rfl).tail rfl)), ?_⟩
     refine An.q H (.inr ((((HP.tail rfl).tail rfl).tail rfl))) 19 65 (.string (bstr ((List.replicate sN 0) ++ (bytes2 (iti i) (j : Int))))) (fun _ => ex_sadd (by kernel_rfl) (by kernel_rfl) (by rw [List.length_replicate]; show sN + 2 ≤ _; omega)) fun a H => ?_
     refine An.go H (.inr ((((HP.tail rfl).tail rfl).tail rfl))) 4 [20] [(66, (.agg #[(.bool true), (.string (bstr ((List.replicate sN 0) ++ (bytes2 (iti i) (j : Int))))), (ii 0)]))] [] fun a H => ?_
     refine An.one 21 (by kernel_rfl) ?_
     refine Op.alloc H HP 67 (fun b => (.slice (some ⟨b, 0, none⟩) 1 1)) 96 [(.bool true), (.string (bstr ((List.replicate sN 0) ++ (bytes2 (iti i) (j : Int))))), (ii 0)] rfl (by kernel_rfl) (fun w => by kernel_rfl) fun b_46 w_47 a H HP => ?_
     refine ⟨.inr (((((HP.tail rfl).tail rfl).tail rfl).tail rfl)), ?_⟩
     refine An.one 22 (by kernel_rfl) ?_
     have HP := HP.pend0 3 rfl elOk_flat (⟨true, bstr ((List.replicate sN 0) ++ (bytes2 (iti i) (j : Int))), 0⟩ : PicA) [bx b_46 96 [(.bool true), (.string (bstr ((List.replicate sN 0) ++ (bytes2 (iti i) (j : Int))))), (ii 0)] true, bx b_38 5 (List.replicate sN (.int .u8 0)) true, bx b_36 5 [(.int .u8 (iti i)), (.int .u8 (j : Int))] true, (rowsP w.heap.size 96 3 PicA.cells okT feF (.slice PA pl.length pc) pl (⟨true, bstr ((List.replicate sN 0) ++ (bytes2 (iti i) (j : Int))), 0⟩ : PicA)), bx b_4 91 [(ii (iti i)), (.slice PA pl.length pc)] true, (rowsR w.heap.size 91 2 AstA.cells astOw astFp (.slice LA li.length lc) li), (bx b_1 3 [(ii 1), (ii 7), (ii 8)] true)] (by kernel_rfl) trivial (fun _ h => h)
     refine Op.push H HP 68 3 0 (v := (.slice PA pl.length pc)) (e := 96) (p := (⟨true, bstr ((List.replicate sN 0) ++ (bytes2 (iti i) (j : Int))), 0⟩ : PicA)) (l := pl) (cs := PicA.cells) (ok := okT) (fe := feF) (size := 3) (z := (.agg #[(.bool false), (.string (bstr ([]))), (ii 0)])) (bytes := 32) (bb := b_46) (tb := 96) (fb := true) rfl (by kernel_rfl) elOk_flat (by kernel_rfl) (by kernel_rfl) rfl (by kernel_rfl) (by kernel_rfl) (by kernel_rfl) (by kernel_rfl) (by kernel_rfl) rfl (by kernel_rfl) (by unfold maxLen; omega) (by omega) fun B_48 c_49 w_50 a H HP => ?_
     have HP : Hp w w_50 [bx b_46 96 [(.bool true), (.string (bstr ((List.replicate sN 0) ++ (bytes2 (iti i) (j : Int))))), (ii 0)] true, bx b_38 5 (List.replicate sN (.int .u8 0)) true, bx b_36 5 [(.int .u8 (iti i)), (.int .u8 (j : Int))] true, (rowsR w.heap.size 96 3 PicA.cells okT feF (.slice B_48 (pl.length + 1) c_49) (pl ++ [(⟨true, bstr ((List.replicate sN 0) ++ (bytes2 (iti i) (j : Int))), 0⟩ : PicA)])), bx b_4 91 [(ii (iti i)), (.slice PA pl.length pc)] true, (rowsR w.heap.size 91 2 AstA.cells astOw astFp (.slice LA li.length lc) li), (bx b_1 3 [(ii 1), (ii 7), (ii 8)] true)] [rowF 1 i1C XA xs] := HP
     refine ⟨.inr (((((HP.tail rfl).tail rfl).tail rfl).tail rfl)), ?_⟩
     refine An.go H (.inr (((((HP.tail rfl).tail rfl).tail rfl).tail rfl))) 1 [23] [(69, (pt b_4 1))] [] fun a H => ?_
     refine An.one 24 (by kernel_rfl) ?_
     refine Op.sh H HP 4 1 (.slice B_48 (pl.length + 1) c_49) rfl rfl fun w_51 a H HP => ?_
     refine ⟨.inl (by kernel_rfl), ?_⟩
     refine An.done (by kernel_rfl) ?_
     refine zibn (ztn (zrg ?_))
     refine H.go HP 1 [(20, (ii j))] [] fun a H => H.wi 21 ((j : Int) + 1) fun a H => ?_
     refine H.ge HP [(7, (ii ((j : Int) + 1)))] [] fun a H => ?_
     refine ztn ?_
     have H := H.as 7 (ii ((j + 1 : Nat) : Int)) rfl rfl
     refine ⟨_, ?_, j + 1, pl ++ [(⟨true, bstr ((List.replicate sN 0) ++ (bytes2 (iti i) (j : Int))), 0⟩ : PicA)], B_48, c_49, rfl, H.keep (by kernel_rfl), (by have hh := (HP.sub [3, 4, 5, 6] [(rowsR w.heap.size 96 3 PicA.cells okT feF (.slice B_48 (pl.length + 1) c_49) (pl ++ [(⟨true, bstr ((List.replicate sN 0) ++ (bytes2 (iti i) (j : Int))), 0⟩ : PicA)])), bx b_4 91 [(ii (iti i)), (.slice B_48 (pl.length + 1) c_49)] true, (rowsR w.heap.size 91 2 AstA.cells astOw astFp (.slice LA li.length lc) li), (bx b_1 3 [(ii 1), (ii 7), (ii 8)] true)] (by kernel_rfl) (by kernel_rfl)); rw [show pl.length + 1 = (pl ++ [(⟨true, bstr ((List.replicate sN 0) ++ (bytes2 (iti i) (j : Int))), 0⟩ : PicA)]).length from (by rw [List.length_append]; rfl)] at hh; exact hh), (by omega), (picsOk_next hpk (by omega) (.inl rfl))⟩
     omega
    refine Op.val H 64 (.string (bstr (bytes2 (iti i) (j : Int)))) rfl (by kernel_rfl) (ex_b2sR (l := bytes2 (iti i) (j : Int)) (e := 5) (m := 2) (c := 2) (by kernel_rfl) (rd_bytes2 (HP.at_ 0 rfl) (by omega) (by omega)) (by kernel_rfl) (by kernel_rfl) (by kernel_rfl)) fun a H => ?_
    refine ⟨.inr (((HP.tail rfl).tail rfl)), ?_⟩
    refine An.one 11 (by kernel_rfl) ?_
    refine Op.alloc H HP 57 (fun b => (.slice (some ⟨b, 0, none⟩) sN sN)) 5 (List.replicate sN (.int .u8 0)) rfl (by kernel_rfl) (fun w => ex_make (n := sN) (e := 5) (k := .i64) (by kernel_rfl) (by kernel_rfl) (by kernel_rfl) (by kernel_rfl) (by omega)) fun b_52 w_53 a H HP => ?_
    refine ⟨.inr ((((HP.tail rfl).tail rfl).tail rfl)), ?_⟩
    refine An.one 12 (by kernel_rfl) ?_
    refine Op.val H 58 (.string (bstr (List.replicate sN 0))) rfl (by kernel_rfl) (ex_b2sR (l := List.replicate sN 0) (e := 5) (m := sN) (c := sN) (by kernel_rfl) (rd_zeros (HP.at_ 0 rfl)) (by kernel_rfl) (by kernel_rfl) (by kernel_rfl)) fun a H => ?_
    refine ⟨.inr ((((HP.tail rfl).tail rfl).tail rfl)), ?_⟩
    refine An.q H (.inr ((((HP.tail rfl).tail rfl).tail rfl))) 19 65 (.string (bstr ((List.replicate sN 0) ++ (bytes2 (iti i) (j : Int))))) (fun _ => ex_sadd (by kernel_rfl) (by kernel_rfl) (by rw [List.length_replicate]; show sN + 2 ≤ _; omega)) fun a H => ?_
    refine An.go H (.inr ((((HP.tail rfl).tail rfl).tail rfl))) 4 [20] [(66, (.agg #[(.bool true), (.string (bstr ((List.replicate sN 0) ++ (bytes2 (iti i) (j : Int))))), (ii 0)]))] [] fun a H => ?_
    refine An.one 21 (by kernel_rfl) ?_
    refine Op.alloc H HP 67 (fun b => (.slice (some ⟨b, 0, none⟩) 1 1)) 96 [(.bool true), (.string (bstr ((List.replicate sN 0) ++ (bytes2 (iti i) (j : Int))))), (ii 0)] rfl (by kernel_rfl) (fun w => by kernel_rfl) fun b_54 w_55 a H HP => ?_
    refine ⟨.inr (((((HP.tail rfl).tail rfl).tail rfl).tail rfl)), ?_⟩
    refine An.one 22 (by kernel_rfl) ?_
    have HP := HP.pend0 3 rfl elOk_flat (⟨true, bstr ((List.replicate sN 0) ++ (bytes2 (iti i) (j : Int))), 0⟩ : PicA) [bx b_54 96 [(.bool true), (.string (bstr ((List.replicate sN 0) ++ (bytes2 (iti i) (j : Int))))), (ii 0)] true, bx b_52 5 (List.replicate sN (.int .u8 0)) true, bx b_36 5 [(.int .u8 (iti i)), (.int .u8 (j : Int))] true, (rowsP w.heap.size 96 3 PicA.cells okT feF (.slice PA pl.length pc) pl (⟨true, bstr ((List.replicate sN 0) ++ (bytes2 (iti i) (j : Int))), 0⟩ : PicA)), bx b_4 91 [(ii (iti i)), (.slice PA pl.length pc)] true, (rowsR w.heap.size 91 2 AstA.cells astOw astFp (.slice LA li.length lc) li), (bx b_1 3 [(ii 1), (ii 7), (ii 8)] true)] (by kernel_rfl) trivial (fun _ h => h)
    refine Op.push H HP 68 3 0 (v := (.slice PA pl.length pc)) (e := 96) (p := (⟨true, bstr ((List.replicate sN 0) ++ (bytes2 (iti i) (j : Int))), 0⟩ : PicA)) (l := pl) (cs := PicA.cells) (ok := okT) (fe := feF) (size := 3) (z := (.agg #[(.bool false), (.string (bstr ([]))), (ii 0)])) (bytes := 32) (bb := b_54) (tb := 96) (fb := true) rfl (by kernel_rfl) elOk_flat (by kernel_rfl) (by kernel_rfl) rfl (by kernel_rfl) (by kernel_rfl) (by kernel_rfl) (by kernel_rfl) (by kernel_rfl) rfl (by kernel_rfl) (by unfold maxLen; omega) (by omega) fun B_56 c_57 w_58 a H HP => ?_
    have HP : Hp w w_58 [bx b_54 96 [(.bool true), (.string (bstr ((List.replicate sN 0) ++ (bytes2 (iti i) (j : Int))))), (ii 0)] true, bx b_52 5 (List.replicate sN (.int .u8 0)) true, bx b_36 5 [(.int .u8 (iti i)), (.int .u8 (j : Int))] true, (rowsR w.heap.size 96 3 PicA.cells okT feF (.slice B_56 (pl.length + 1) c_57) (pl ++ [(⟨true, bstr ((List.replicate sN 0) ++ (bytes2 (iti i) (j : Int))), 0⟩ : PicA)])), bx b_4 91 [(ii (iti i)), (.slice PA pl.length pc)] true, (rowsR w.heap.size 91 2 AstA.cells astOw astFp (.slice LA li.length lc) li), (bx b_1 3 [(ii 1), (ii 7), (ii 8)] true)] [rowF 1 i1C XA xs] := HP
    refine ⟨.inr (((((HP.tail rfl).tail rfl).tail rfl).tail rfl)), ?_⟩
    refine An.go H (.inr (((((HP.tail rfl).tail rfl).tail rfl).tail rfl))) 1 [23] [(69, (pt b_4 1))] [] fun a H => ?_
    refine An.one 24 (by kernel_rfl) ?_
    refine Op.sh H HP 4 1 (.slice B_56 (pl.length + 1) c_57) rfl rfl fun w_59 a H HP => ?_
    refine ⟨.inl (by kernel_rfl), ?_⟩
    refine An.done (by kernel_rfl) ?_
    refine zibn (ztn (zrg ?_))
    refine H.go HP 1 [(20, (ii j))] [] fun a H => H.wi 21 ((j : Int) + 1) fun a H => ?_
    refine H.ge HP [(7, (ii ((j : Int) + 1)))] [] fun a H => ?_
    refine ztn ?_
    have H := H.as 7 (ii ((j + 1 : Nat) : Int)) rfl rfl
    refine ⟨_, ?_, j + 1, pl ++ [(⟨true, bstr ((List.replicate sN 0) ++ (bytes2 (iti i) (j : Int))), 0⟩ : PicA)], B_56, c_57, rfl, H.keep (by kernel_rfl), (by have hh := (HP.sub [3, 4, 5, 6] [(rowsR w.heap.size 96 3 PicA.cells okT feF (.slice B_56 (pl.length + 1) c_57) (pl ++ [(⟨true, bstr ((List.replicate sN 0) ++ (bytes2 (iti i) (j : Int))), 0⟩ : PicA)])), bx b_4 91 [(ii (iti i)), (.slice B_56 (pl.length + 1) c_57)] true, (rowsR w.heap.size 91 2 AstA.cells astOw astFp (.slice LA li.length lc) li), (bx b_1 3 [(ii 1), (ii 7), (ii 8)] true)] (by kernel_rfl) (by kernel_rfl)); rw [show pl.length + 1 = (pl ++ [(⟨true, bstr ((List.replicate sN 0) ++ (bytes2 (iti i) (j : Int))), 0⟩ : PicA)]).length from (by rw [List.length_append]; rfl)] at hh; exact hh), (by omega), (picsOk_next hpk (by omega) (.inl rfl))⟩
    omega
   have g51p := ne_of_beq_false g51
   refine An.go H (.inr ((HP.tail rfl))) 13 [6] [(52, (ii cq))] [] fun a H => ?_
   refine An.pureE H (.inr ((HP.tail rfl))) 7 53 (ii (cq.tmod 6)) (ii (cq % 6)) rfl (by kernel_rfl) (by kernel_rfl) (fun _ _ _ h => h) (fun _ => by kernel_rfl) ((by rw [tmod_nn _ _ (by omega)])) fun a H => ?_
   refine An.go H (.inr ((HP.tail rfl))) 10 [8, 9] [(55, (.bool ((cq % 6) == 0)))] [] fun a H => ?_
   refine An.two 11 17 (by kernel_rfl) ?_ ?_
   ·refine Op.alloc H HP 57 (fun b => (.slice (some ⟨b, 0, none⟩) sN sN)) 5 (List.replicate sN (.int .u8 0)) rfl (by kernel_rfl) (fun w => ex_make (n := sN) (e := 5) (k := .i64) (by kernel_rfl) (by kernel_rfl) (by kernel_rfl) (by kernel_rfl) (by omega)) fun b_60 w_61 a H HP => ?_
    refine ⟨.inr (((HP.tail rfl).tail rfl)), ?_⟩
    refine An.two 12 17 (by kernel_rfl) ?_ ?_
    ·refine Op.val H 58 (.string (bstr (List.replicate sN 0))) rfl (by kernel_rfl) (ex_b2sR (l := List.replicate sN 0) (e := 5) (m := sN) (c := sN) (by kernel_rfl) (rd_zeros (HP.at_ 0 rfl)) (by kernel_rfl) (by kernel_rfl) (by kernel_rfl)) fun a H => ?_
     refine ⟨.inr (((HP.tail rfl).tail rfl)), ?_⟩
     refine An.one 17 (by kernel_rfl) ?_
     refine Op.alloc H HP 63 (fun b => (.slice (some ⟨b, 0, none⟩) 2 2)) 5 [(.int .u8 (iti i)), (.int .u8 (j : Int))] rfl (by kernel_rfl) (fun w => by kernel_rfl) fun b_62 w_63 a H HP => ?_
     refine ⟨.inr ((((HP.tail rfl).tail rfl).tail rfl)), ?_⟩
     refine An.one 18 (by kernel_rfl) ?_
     refine Op.val H 64 (.string (bstr (bytes2 (iti i) (j : Int)))) rfl (by kernel_rfl) (ex_b2sR (l := bytes2 (iti i) (j : Int)) (e := 5) (m := 2) (c := 2) (by kernel_rfl) (rd_bytes2 (HP.at_ 0 rfl) (by omega) (by omega)) (by kernel_rfl) (by kernel_rfl) (by kernel_rfl)) fun a H => ?_
     refine ⟨.inr ((((HP.tail rfl).tail rfl).tail rfl)), ?_⟩
     refine An.q H (.inr ((((HP.tail rfl).tail rfl).tail rfl))) 19 65 (.string (bstr ((List.replicate sN 0) ++ (bytes2 (iti i) (j : Int))))) (fun _ => ex_sadd (by kernel_rfl) (by kernel_rfl) (by rw [List.length_replicate]; show sN + 2 ≤ _; omega)) fun a H => ?_
     refine An.go H (.inr ((((HP.tail rfl).tail rfl).tail rfl))) 4 [20] [(66, (.agg #[(.bool ((cq % 6) == 0)), (.string (bstr ((List.replicate sN 0) ++ (bytes2 (iti i) (j : Int))))), (ii 0)]))] [] fun a H => ?_
     refine An.one 21 (by kernel_rfl) ?_
     refine Op.alloc H HP 67 (fun b => (.slice (some ⟨b, 0, none⟩) 1 1)) 96 [(.bool ((cq % 6) == 0)), (.string (bstr ((List.replicate sN 0) ++ (bytes2 (iti i) (j : Int))))), (ii 0)] rfl (by kernel_rfl) (fun w => by kernel_rfl) fun b_64 w_65 a H HP => ?_
     refine ⟨.inr (((((HP.tail rfl).tail rfl).tail rfl).tail rfl)), ?_⟩
     refine An.one 22 (by kernel_rfl) ?_
     have HP := HP.pend0 3 rfl elOk_flat (⟨(cq % 6) == 0, bstr ((List.replicate sN 0) ++ (bytes2 (iti i) (j : Int))), 0⟩ : PicA) [bx b_64 96 [(.bool ((cq % 6) == 0)), (.string (bstr ((List.replicate sN 0) ++ (bytes2 (iti i) (j : Int))))), (ii 0)] true, bx b_62 5 [(.int .u8 (iti i)), (.int .u8 (j : Int))] true, bx b_60 5 (List.replicate sN (.int .u8 0)) true, (rowsP w.heap.size 96 3 PicA.cells okT feF (.slice PA pl.length pc) pl (⟨(cq % 6) == 0, bstr ((List.replicate sN 0) ++ (bytes2 (iti i) (j : Int))), 0⟩ : PicA)), bx b_4 91 [(ii (iti i)), (.slice PA pl.length pc)] true, (rowsR w.heap.size 91 2 AstA.cells astOw astFp (.slice LA li.length lc) li), (bx b_1 3 [(ii 1), (ii 7), (ii 8)] true)] (by kernel_rfl) trivial (fun _ h => h)
     refine Op.push H HP 68 3 0 (v := (.slice PA pl.length pc)) (e := 96) (p := (⟨(cq % 6) == 0, bstr ((List.replicate sN 0) ++ (bytes2 (iti i) (j : Int))), 0⟩ : PicA)) (l := pl) (cs := PicA.cells) (ok := okT) (fe := feF) (size := 3) (z := (.agg #[(.bool false), (.string (bstr ([]))), (ii 0)])) (bytes := 32) (bb := b_64) (tb := 96) (fb := true) rfl (by kernel_rfl) elOk_flat (by kernel_rfl) (by kernel_rfl) rfl (by kernel_rfl) (by kernel_rfl) (by kernel_rfl) (by kernel_rfl) (by kernel_rfl) rfl (by kernel_rfl) (by unfold maxLen; omega) (by omega) fun B_66 c_67 w_68 a H HP => ?_
     have HP : Hp w w_68 [bx b_64 96 [(.bool ((cq % 6) == 0)), (.string (bstr ((List.replicate sN 0) ++ (bytes2 (iti i) (j : Int))))), (ii 0)] true, bx b_62 5 [(.int .u8 (iti i)), (.int .u8 (j : Int))] true, bx b_60 5 (List.replicate sN (.int .u8 0)) true, (rowsR w.heap.size 96 3 PicA.cells okT feF (.slice B_66 (pl.length + 1) c_67) (pl ++ [(⟨(cq % 6) == 0, bstr ((List.replicate sN 0) ++ (bytes2 (iti i) (j : Int))), 0⟩ : PicA)])), bx b_4 91 [(ii (iti i)), (.slice PA pl.length pc)] true, (rowsR w.heap.size 91 2 AstA.cells astOw astFp (.slice LA li.length lc) li), (bx b_1 3 [(ii 1), (ii 7), (ii 8)] true)] [rowF 1 i1C XA xs] := HP
     refine ⟨.inr (((((HP.tail rfl).tail rfl).tail rfl).tail rfl)), ?_⟩
     refine An.go H (.inr (((((HP.tail rfl).tail rfl).tail rfl).tail rfl))) 1 [23] [(69, (pt b_4 1))] [] fun a H => ?_
     refine An.one 24 (by kernel_rfl) ?_
     refine Op.sh H HP 4 1 (.slice B_66 (pl.length + 1) c_67) rfl rfl fun w_69 a H HP => ?_
     refine ⟨.inl (by kernel_rfl), ?_⟩
     refine An.done (by kernel_rfl) ?_
     refine zibn (ztn (zrg ?_))
     refine H.go HP 1 [(20, (ii j))] [] fun a H => H.wi 21 ((j : Int) + 1) fun a H => ?_
     refine H.ge HP [(7, (ii ((j : Int) + 1)))] [] fun a H => ?_
     refine ztn ?_
     have H := H.as 7 (ii ((j + 1 : Nat) : Int)) rfl rfl
     refine ⟨_, ?_, j + 1, pl ++ [(⟨(cq % 6) == 0, bstr ((List.replicate sN 0) ++ (bytes2 (iti i) (j : Int))), 0⟩ : PicA)], B_66, c_67, rfl, H.keep (by kernel_rfl), (by have hh := (HP.sub [3, 4, 5, 6] [(rowsR w.heap.size 96 3 PicA.cells okT feF (.slice B_66 (pl.length + 1) c_67) (pl ++ [(⟨(cq % 6) == 0, bstr ((List.replicate sN 0) ++ (bytes2 (iti i) (j : Int))), 0⟩ : PicA)])), bx b_4 91 [(ii (iti i)), (.slice B_66 (pl.length + 1) c_67)] true, (rowsR w.heap.size 91 2 AstA.cells astOw astFp (.slice LA li.length lc) li), (bx b_1 3 [(ii 1), (ii 7), (ii 8)] true)] (by kernel_rfl) (by kernel_rfl)); rw [show pl.length + 1 = (pl ++ [(⟨(cq % 6) == 0, bstr ((List.replicate sN 0) ++ (bytes2 (iti i) (j : Int))), 0⟩ : PicA)]).length from (by rw [List.length_append]; rfl)] at hh; exact hh), (by omega), (picsOk_next hpk (by omega) (.inr (fun h0 => g51p (by rw [h0]; rfl))))⟩
     omega
    refine Op.alloc H HP 63 (fun b => (.slice (some ⟨b, 0, none⟩) 2 2)) 5 [(.int .u8 (iti i)), (.int .u8 (j : Int))] rfl (by kernel_rfl) (fun w => by kernel_rfl) fun b_70 w_71 a H HP => ?_
    refine ⟨.inr ((((HP.tail rfl).tail rfl).tail rfl)), ?_⟩
    refine An.two 12 18 (by kernel_rfl) ?_ ?_
    ·refine Op.val H 58 (.string (bstr (List.replicate sN 0))) rfl (by kernel_rfl) (ex_b2sR (l := List.replicate sN 0) (e := 5) (m := sN) (c := sN) (by kernel_rfl) (rd_zeros (HP.at_ 1 rfl)) (by kernel_rfl) (by kernel_rfl) (by kernel_rfl)) fun a H => ?_
     refine ⟨.inr ((((HP.tail rfl).tail rfl).tail rfl)), ?_⟩
     refine An.one 18 (by kernel_rfl) ?_
     refine Op.val H 64 (.string (bstr (bytes2 (iti i) (j : Int)))) rfl (by kernel_rfl) (ex_b2sR (l := bytes2 (iti i) (j : Int)) (e := 5) (m := 2) (c := 2) (by kernel_rfl) (rd_bytes2 (HP.at_ 0 rfl) (by omega) (by omega)) (by kernel_rfl) (by kernel_rfl) (by kernel_rfl)) fun a H => ?_
     refine ⟨.inr ((((HP.tail rfl).tail rfl).tail rfl)), ?_⟩
     refine An.q H (.inr ((((HP.tail rfl).tail rfl).tail rfl))) 19 65 (.string (bstr ((List.replicate sN 0) ++ (bytes2 (iti i) (j : Int))))) (fun _ => ex_sadd (by kernel_rfl) (by kernel_rfl) (by rw [List.length_replicate]; show sN + 2 ≤ _; omega)) fun a H => ?_
     refine An.go H (.inr ((((HP.tail rfl).tail rfl).tail rfl))) 4 [20] [(66, (.agg #[(.bool ((cq % 6) == 0)), (.string (bstr ((List.replicate sN 0) ++ (bytes2 (iti i) (j : Int))))), (ii 0)]))] [] fun a H => ?_
     refine An.one 21 (by kernel_rfl) ?_
     refine Op.alloc H HP 67 (fun b => (.slice (some ⟨b, 0, none⟩) 1 1)) 96 [(.bool ((cq % 6) == 0)), (.string (bstr ((List.replicate sN 0) ++ (bytes2 (iti i) (j : Int))))), (ii 0)] rfl (by kernel_rfl) (fun w => by kernel_rfl) fun b_72 w_73 a H HP => ?_
     refine ⟨.inr (((((HP.tail rfl).tail rfl).tail rfl).tail rfl)), ?_⟩
     refine An.one 22 (by kernel_rfl) ?_
     have HP := HP.pend0 3 rfl elOk_flat (⟨(cq % 6) == 0, bstr ((List.replicate sN 0) ++ (bytes2 (iti i) (j : Int))), 0⟩ : PicA) [bx b_72 96 [(.bool ((cq % 6) == 0)), (.string (bstr ((List.replicate sN 0) ++ (bytes2 (iti i) (j : Int))))), (ii 0)] true, bx b_70 5 [(.int .u8 (iti i)), (.int .u8 (j : Int))] true, bx b_60 5 (List.replicate sN (.int .u8 0)) true, (rowsP w.heap.size 96 3 PicA.cells okT feF (.slice PA pl.length pc) pl (⟨(cq % 6) == 0, bstr ((List.replicate sN 0) ++ (bytes2 (iti i) (j : Int))), 0⟩ : PicA)), bx b_4 91 [(ii (iti i)), (.slice PA pl.length pc)] true, (rowsR w.heap.size 91 2 AstA.cells astOw astFp (.slice LA li.length lc) li), (bx b_1 3 [(ii 1), (ii 7), (ii 8)] true)] (by kernel_rfl) trivial (fun _ h => h)
     refine Op.push H HP 68 3 0 (v := (.slice PA pl.length pc)) (e := 96) (p := (⟨(cq % 6) == 0, bstr ((List.replicate sN 0) ++ (bytes2 (iti i) (j : Int))), 0⟩ : PicA)) (l := pl) (cs := PicA.cells) (ok := okT) (fe := feF) (size := 3) (z := (.agg #[(.bool false), (.string (bstr ([]))), (ii 0)])) (bytes := 32) (bb := b_72) (tb := 96) (fb := true) rfl (by kernel_rfl) elOk_flat (by kernel_rfl) (by kernel_rfl) rfl (by kernel_rfl) (by kernel_rfl) (by kernel_rfl) (by kernel_rfl) (by kernel_rfl) rfl (by kernel_rfl) (by unfold maxLen; omega) (by omega) fun B_74 c_75 w_76 a H HP => ?_
     have HP : Hp w w_76 [bx b_72 96 [(.bool ((cq % 6) == 0)), (.string (bstr ((List.replicate sN 0) ++ (bytes2 (iti i) (j : Int))))), (ii 0)] true, bx b_70 5 [(.int .u8 (iti i)), (.int .u8 (j : Int))] true, bx b_60 5 (List.replicate sN (.int .u8 0)) true, (rowsR w.heap.size 96 3 PicA.cells okT feF (.slice B_74 (pl.length + 1) c_75) (pl ++ [(⟨(cq % 6) == 0, bstr ((List.replicate sN 0) ++ (bytes2 (iti i) (j : Int))), 0⟩ : PicA)])), bx b_4 91 [(ii (iti i)), (.slice PA pl.length pc)] true, (rowsR w.heap.size 91 2 AstA.cells astOw astFp (.slice LA li.length lc) li), (bx b_1 3 [(ii 1), (ii 7), (ii 8)] true)] [rowF 1 i1C XA xs] := HP
     refine ⟨.inr (((((HP.tail rfl).tail rfl).tail rfl).tail rfl)), ?_⟩
     refine An.go H (.inr (((((HP.tail rfl).tail rfl).tail rfl).tail rfl))) 1 [23] [(69, (pt b_4 1))] [] fun a H => ?_
     refine An.one 24 (by kernel_rfl) ?_
     refine Op.sh H HP 4 1 (.slice B_74 (pl.length + 1) c_75) rfl rfl fun w_77 a H HP => ?_
     refine ⟨.inl (by kernel_rfl), ?_⟩
     refine An.done (by kernel_rfl) ?_
     refine zibn (ztn (zrg ?_))
     refine H.go HP 1 [(20, (ii j))] [] fun a H => H.wi 21 ((j : Int) + 1) fun a H => ?_
     refine H.ge HP [(7, (ii ((j : Int) + 1)))] [] fun a H => ?_
     refine ztn ?_
     have H := H.as 7 (ii ((j + 1 : Nat) : Int)) rfl rfl
     refine ⟨_, ?_, j + 1, pl ++ [(⟨(cq % 6) == 0, bstr ((List.replicate sN 0) ++ (bytes2 (iti i) (j : Int))), 0⟩ : PicA)], B_74, c_75, rfl, H.keep (by kernel_rfl), (by have hh := (HP.sub [3, 4, 5, 6] [(rowsR w.heap.size 96 3 PicA.cells okT feF (.slice B_74 (pl.length + 1) c_75) (pl ++ [(⟨(cq % 6) == 0, bstr ((List.replicate sN 0) ++ (bytes2 (iti i) (j : Int))), 0⟩ : PicA)])), bx b_4 91 [(ii (iti i)), (.slice B_74 (pl.length + 1) c_75)] true, (rowsR w.heap.size 91 2 AstA.cells astOw astFp (.slice LA li.length lc) li), (bx b_1 3 [(ii 1), (ii 7), (ii 8)] true)] (by kernel_rfl) (by kernel_rfl)); rw [show pl.length + 1 = (pl ++ [(⟨(cq % 6) == 0, bstr ((List.replicate sN 0) ++ (bytes2 (iti i) (j : Int))), 0⟩ : PicA)]).length from (by rw [List.length_append]; rfl)] at hh; exact hh), (by omega), (picsOk_next hpk (by omega) (.inr (fun h0 => g51p (by rw [h0]; rfl))))⟩
     omega
    refine Op.val H 64 (.string (bstr (bytes2 (iti i) (j : Int)))) rfl (by kernel_rfl) (ex_b2sR (l := bytes2 (iti i) (j : Int)) (e := 5) (m := 2) (c := 2) (by kernel_rfl) (rd_bytes2 (HP.at_ 0 rfl) (by omega) (by omega)) (by kernel_rfl) (by kernel_rfl) (by kernel_rfl)) fun a H => ?_
    refine ⟨.inr ((((HP.tail rfl).tail rfl).tail rfl)), ?_⟩
    refine An.one 12 (by kernel_rfl) ?_
    refine Op.val H 58 (.string (bstr (List.replicate sN 0))) rfl (by kernel_rfl) (ex_b2sR (l := List.replicate sN 0) (e := 5) (m := sN) (c := sN) (by kernel_rfl) (rd_zeros (HP.at_ 1 rfl)) (by kernel_rfl) (by kernel_rfl) (by kernel_rfl)) fun a H => ?_
    refine ⟨.inr ((((HP.tail rfl).tail rfl).tail rfl)), ?_⟩
    refine An.q H (.inr ((((HP.tail rfl).tail rfl).tail rfl))) 19 65 (.string (bstr ((List.replicate sN 0) ++ (bytes2 (iti i) (j : Int))))) (fun _ => ex_sadd (by kernel_rfl) (by kernel_rfl) (by rw [List.length_replicate]; show sN + 2 ≤ _; omega)) fun a H => ?_
    refine An.go H (.inr ((((HP.tail rfl).tail rfl).tail rfl))) 4 [20] [(66, (.agg #[(.bool ((cq % 6) == 0)), (.string (bstr ((List.replicate sN 0) ++ (bytes2 (iti i) (j : Int))))), (ii 0)]))] [] fun a H => ?_
    refine An.one 21 (by kernel_rfl) ?_
    refine Op.alloc H HP 67 (fun b => (.slice (some ⟨b, 0, none⟩) 1 1)) 96 [(.bool ((cq % 6) == 0)), (.string (bstr ((List.replicate sN 0) ++ (bytes2 (iti i) (j : Int))))), (ii 0)] rfl (by kernel_rfl) (fun w => by kernel_rfl) fun b_78 w_79 a H HP => ?_
    refine ⟨.inr (((((HP.tail rfl).tail rfl).tail rfl).tail rfl)), ?_⟩
    refine An.one 22 (by kernel_rfl) ?_
    have HP := HP.pend0 3 rfl elOk_flat (⟨(cq % 6) == 0, bstr ((List.replicate sN 0) ++ (bytes2 (iti i) (j : Int))), 0⟩ : PicA) [bx b_78 96 [(.bool ((cq % 6) == 0)), (.string (bstr ((List.replicate sN 0) ++ (bytes2 (iti i) (j : Int))))), (ii 0)] true, bx b_70 5 [(.int .u8 (iti i)), (.int .u8 (j : Int))] true, bx b_60 5 (List.replicate sN (.int .u8 0)) true, (rowsP w.heap.size 96 3 PicA.cells okT feF (.slice PA pl.length pc) pl (⟨(cq % 6) == 0, bstr ((List.replicate sN 0) ++ (bytes2 (iti i) (j : Int))), 0⟩ : PicA)), bx b_4 91 [(ii (iti i)), (.slice PA pl.length pc)] true, (rowsR w.heap.size 91 2 AstA.cells astOw astFp (.slice LA li.length lc) li), (bx b_1 3 [(ii 1), (ii 7), (ii 8)] true)] (by kernel_rfl) trivial (fun _ h => h)
    refine Op.push H HP 68 3 0 (v := (.slice PA pl.length pc)) (e := 96) (p := (⟨(cq % 6) == 0, bstr ((List.replicate sN 0) ++ (bytes2 (iti i) (j : Int))), 0⟩ : PicA)) (l := pl) (cs := PicA.cells) (ok := okT) (fe := feF) (size := 3) (z := (.agg #[(.bool false), (.string (bstr ([]))), (ii 0)])) (bytes := 32) (bb := b_78) (tb := 96) (fb := true) rfl (by kernel_rfl) elOk_flat (by kernel_rfl) (by kernel_rfl) rfl (by kernel_rfl) (by kernel_rfl) (by kernel_rfl) (by kernel_rfl) (by kernel_rfl) rfl (by kernel_rfl) (by unfold maxLen; omega) (by omega) fun B_80 c_81 w_82 a H HP => ?_
    have HP : Hp w w_82 [bx b_78 96 [(.bool ((cq % 6) == 0)), (.string (bstr ((List.replicate sN 0) ++ (bytes2 (iti i) (j : Int))))), (ii 0)] true, bx b_70 5 [(.int .u8 (iti i)), (.int .u8 (j : Int))] true, bx b_60 5 (List.replicate sN (.int .u8 0)) true, (rowsR w.heap.size 96 3 PicA.cells okT feF (.slice B_80 (pl.length + 1) c_81) (pl ++ [(⟨(cq % 6) == 0, bstr ((List.replicate sN 0) ++ (bytes2 (iti i) (j : Int))), 0⟩ : PicA)])), bx b_4 91 [(ii (iti i)), (.slice PA pl.length pc)] true, (rowsR w.heap.size 91 2 AstA.cells astOw astFp (.slice LA li.length lc) li), (bx b_1 3 [(ii 1), (ii 7), (ii 8)] true)] [rowF 1 i1C XA xs] := HP
    refine ⟨.inr (((((HP.tail rfl).tail rfl).tail rfl).tail rfl)), ?_⟩
    refine An.go H (.inr (((((HP.tail rfl).tail rfl).tail rfl).tail rfl))) 1 [23] [(69, (pt b_4 1))] [] fun a H => ?_
    refine An.one 24 (by kernel_rfl) ?_
    refine Op.sh H HP 4 1 (.slice B_80 (pl.length + 1) c_81) rfl rfl fun w_83 a H HP => ?_
    refine ⟨.inl (by kernel_rfl), ?_⟩
    refine An.done (by kernel_rfl) ?_
    refine zibn (ztn (zrg ?_))
    refine H.go HP 1 [(20, (ii j))] [] fun a H => H.wi 21 ((j : Int) + 1) fun a H => ?_
    refine H.ge HP [(7, (ii ((j : Int) + 1)))] [] fun a H => ?_
    refine ztn ?_
    have H := H.as 7 (ii ((j + 1 : Nat) : Int)) rfl rfl
    refine ⟨_, ?_, j + 1, pl ++ [(⟨(cq % 6) == 0, bstr ((List.replicate sN 0) ++ (bytes2 (iti i) (j : Int))), 0⟩ : PicA)], B_80, c_81, rfl, H.keep (by kernel_rfl), (by have hh := (HP.sub [3, 4, 5, 6] [(rowsR w.heap.size 96 3 PicA.cells okT feF (.slice B_80 (pl.length + 1) c_81) (pl ++ [(⟨(cq % 6) == 0, bstr ((List.replicate sN 0) ++ (bytes2 (iti i) (j : Int))), 0⟩ : PicA)])), bx b_4 91 [(ii (iti i)), (.slice B_80 (pl.length + 1) c_81)] true, (rowsR w.heap.size 91 2 AstA.cells astOw astFp (.slice LA li.length lc) li), (bx b_1 3 [(ii 1), (ii 7), (ii 8)] true)] (by kernel_rfl) (by kernel_rfl)); rw [show pl.length + 1 = (pl ++ [(⟨(cq % 6) == 0, bstr ((List.replicate sN 0) ++ (bytes2 (iti i) (j : Int))), 0⟩ : PicA)]).length from (by rw [List.length_append]; rfl)] at hh; exact hh), (by omega), (picsOk_next hpk (by omega) (.inr (fun h0 => g51p (by rw [h0]; rfl))))⟩
    omega
   refine Op.alloc H HP 63 (fun b => (.slice (some ⟨b, 0, none⟩) 2 2)) 5 [(.int .u8 (iti i)), (.int .u8 (j : Int))] rfl (by kernel_rfl) (fun w => by kernel_rfl) fun b_84 w_85 a H HP => ?_
   refine ⟨.inr (((HP.tail rfl).tail rfl)), ?_⟩
   refine An.two 11 18 (by kernel_rfl) ?_ ?_
   ·refine Op.alloc H HP 57 (fun b => (.slice (some ⟨b, 0, none⟩) sN sN)) 5 (List.replicate sN (.int .u8 0)) rfl (by kernel_rfl) (fun w => ex_make (n := sN) (e := 5) (k := .i64) (by kernel_rfl) (by kernel_rfl) (by kernel_rfl) (by kernel_rfl) (by omega)) fun b_86 w_87 a H HP => ?_
    refine ⟨.inr ((((HP.tail rfl).tail rfl).tail rfl)), ?_⟩
    refine An.two 12 18 (by kernel_rfl) ?_ ?_
    ·refine Op.val H 58 (.string (bstr (List.replicate sN 0))) rfl (by kernel_rfl) (ex_b2sR (l := List.replicate sN 0) (e := 5) (m := sN) (c := sN) (by kernel_rfl) (rd_zeros (HP.at_ 0 rfl)) (by kernel_rfl) (by kernel_rfl) (by kernel_rfl)) fun a H => ?_
     refine ⟨.inr ((((HP.tail rfl).tail rfl).tail rfl)), ?_⟩
     refine An.one 18 (by kernel_rfl) ?_
     refine Op.val H 64 (.string (bstr (bytes2 (iti i) (j : Int)))) rfl (by kernel_rfl) (ex_b2sR (l := bytes2 (iti i) (j : Int)) (e := 5) (m := 2) (c := 2) (by kernel_rfl) (rd_bytes2 (HP.at_ 1 rfl) (by omega) (by omega)) (by kernel_rfl) (by kernel_rfl) (by kernel_rfl)) fun a H => ?_
     refine ⟨.inr ((((HP.tail rfl).tail rfl).tail rfl)), ?_⟩
     refine An.q H (.inr ((((HP.tail rfl).tail rfl).tail rfl))) 19 65 (.string (bstr ((List.replicate sN 0) ++ (bytes2 (iti i) (j : Int))))) (fun _ => ex_sadd (by kernel_rfl) (by kernel_rfl) (by rw [List.length_replicate]; show sN + 2 ≤ _; omega)) fun a H => ?_
     refine An.go H (.inr ((((HP.tail rfl).tail rfl).tail rfl))) 4 [20] [(66, (.agg #[(.bool ((cq % 6) == 0)), (.string (bstr ((List.replicate sN 0) ++ (bytes2 (iti i) (j : Int))))), (ii 0)]))] [] fun a H => ?_
     refine An.one 21 (by kernel_rfl) ?_
     refine Op.alloc H HP 67 (fun b => (.slice (some ⟨b, 0, none⟩) 1 1)) 96 [(.bool ((cq % 6) == 0)), (.string (bstr ((List.replicate sN 0) ++ (bytes2 (iti i) (j : Int))))), (ii 0)] rfl (by kernel_rfl) (fun w => by kernel_rfl) fun b_88 w_89 a H HP => ?_
     refine ⟨.inr (((((HP.tail rfl).tail rfl).tail rfl).tail rfl)), ?_⟩
     refine An.one 22 (by kernel_rfl) ?_
     have HP := HP.pend0 3 rfl elOk_flat (⟨(cq % 6) == 0, bstr ((List.replicate sN 0) ++ (bytes2 (iti i) (j : Int))), 0⟩ : PicA) [bx b_88 96 [(.bool ((cq % 6) == 0)), (.string (bstr ((List.replicate sN 0) ++ (bytes2 (iti i) (j : Int))))), (ii 0)] true, bx b_86 5 (List.replicate sN (.int .u8 0)) true, bx b_84 5 [(.int .u8 (iti i)), (.int .u8 (j : Int))] true, (rowsP w.heap.size 96 3 PicA.cells okT feF (.slice PA pl.length pc) pl (⟨(cq % 6) == 0, bstr ((List.replicate sN 0) ++ (bytes2 (iti i) (j : Int))), 0⟩ : PicA)), bx b_4 91 [(ii (iti i)), (.slice PA pl.length pc)] true, (rowsR w.heap.size 91 2 AstA.cells astOw astFp (.slice LA li.length lc) li), (bx b_1 3 [(ii 1), (ii 7), (ii 8)] true)] (by kernel_rfl) trivial (fun _ h => h)
     refine Op.push H HP 68 3 0 (v := (.slice PA pl.length pc)) (e := 96) (p := (⟨(cq % 6) == 0, bstr ((List.replicate sN 0) ++ (bytes2 (iti i) (j : Int))), 0⟩ : PicA)) (l := pl) (cs := PicA.cells) (ok := okT) (fe := feF) (size := 3) (z := (.agg #[(.bool false), (.string (bstr ([]))), (ii 0)])) (bytes := 32) (bb := b_88) (tb := 96) (fb := true) rfl (by kernel_rfl) elOk_flat (by kernel_rfl) (by kernel_rfl) rfl (by kernel_rfl) (by kernel_rfl) (by kernel_rfl) (by kernel_rfl) (by kernel_rfl) rfl (by kernel_rfl) (by unfold maxLen; omega) (by omega) fun B_90 c_91 w_92 a H HP => ?_
     have HP : Hp w w_92 [bx b_88 96 [(.bool ((cq % 6) == 0)), (.string (bstr ((List.replicate sN 0) ++ (bytes2 (iti i) (j : Int))))), (ii 0)] true, bx b_86 5 (List.replicate sN (.int .u8 0)) true, bx b_84 5 [(.int .u8 (iti i)), (.int .u8 (j : Int))] true, (rowsR w.heap.size 96 3 PicA.cells okT feF (.slice B_90 (pl.length + 1) c_91) (pl ++ [(⟨(cq % 6) == 0, bstr ((List.replicate sN 0) ++ (bytes2 (iti i) (j : Int))), 0⟩ : PicA)])), bx b_4 91 [(ii (iti i)), (.slice PA pl.length pc)] true, (rowsR w.heap.size 91 2 AstA.cells astOw astFp (.slice LA li.length lc) li), (bx b_1 3 [(ii 1), (ii 7), (ii 8)] true)] [rowF 1 i1C XA xs] := HP
     refine ⟨.inr (((((HP.tail rfl).tail rfl).tail rfl).tail rfl)), ?_⟩
     refine An.go H (.inr (((((HP.tail rfl).tail rfl).tail rfl).tail rfl))) 1 [23] [(69, (pt b_4 1))] [] fun a H => ?_
     refine An.one 24 (by kernel_rfl) ?_
     refine Op.sh H HP 4 1 (.slice B_90 (pl.length + 1) c_91) rfl rfl fun w_93 a H HP => ?_
     refine ⟨.inl (by kernel_rfl), ?_⟩
     refine An.done (by kernel_rfl) ?_
     refine zibn (ztn (zrg ?_))
     refine H.go HP 1 [(20, (ii j))] [] fun a H => H.wi 21 ((j : Int) + 1) fun a H => ?_
     refine H.ge HP [(7, (ii ((j : Int) + 1)))] [] fun a H => ?_
     refine ztn ?_
     have H := H.as 7 (ii ((j + 1 : Nat) : Int)) rfl rfl
     refine ⟨_, ?_, j + 1, pl ++ [(⟨(cq % 6) == 0, bstr ((List.replicate sN 0) ++ (bytes2 (iti i) (j : Int))), 0⟩ : PicA)], B_90, c_91, rfl, H.keep (by kernel_rfl), (by have hh := (HP.sub [3, 4, 5, 6] [(rowsR w.heap.size 96 3 PicA.cells okT feF (.slice B_90 (pl.length + 1) c_91) (pl ++ [(⟨(cq % 6) == 0, bstr ((List.replicate sN 0) ++ (bytes2 (iti i) (j : Int))), 0⟩ : PicA)])), bx b_4 91 [(ii (iti i)), (.slice B_90 (pl.length + 1) c_91)] true, (rowsR w.heap.size 91 2 AstA.cells astOw astFp (.slice LA li.length lc) li), (bx b_1 3 [(ii 1), (ii 7), (ii 8)] true)] (by kernel_rfl) (by kernel_rfl)); rw [show pl.length + 1 = (pl ++ [(⟨(cq % 6) == 0, bstr ((List.replicate sN 0) ++ (bytes2 (iti i) (j : Int))), 0⟩ : PicA)]).length from (by rw [List.length_append]; rfl)] at hh; exact hh), (by omega), (picsOk_next hpk (by omega) (.inr (fun h0 => g51p (by rw [h0]; rfl))))⟩
     omega
    refine Op.val H 64 (.string (bstr (bytes2 (iti i) (j : Int)))) rfl (by kernel_rfl) (ex_b2sR (l := bytes2 (iti i) (j : Int)) (e := 5) (m := 2) (c := 2) (by kernel_rfl) (rd_bytes2 (HP.at_ 1 rfl) (by omega) (by omega)) (by kernel_rfl) (by kernel_rfl) (by kernel_rfl)) fun a H => ?_
    refine ⟨.inr ((((HP.tail rfl).tail rfl).tail rfl)), ?_⟩
    refine An.one 12 (by kernel_rfl) ?_
    refine Op.val H 58 (.string (bstr (List.replicate sN 0))) rfl (by kernel_rfl) (ex_b2sR (l := List.replicate sN 0) (e := 5) (m := sN) (c := sN) (by kernel_rfl) (rd_zeros (HP.at_ 0 rfl)) (by kernel_rfl) (by kernel_rfl) (by kernel_rfl)) fun a H => ?_
    refine ⟨.inr ((((HP.tail rfl).tail rfl).tail rfl)), ?_⟩
    refine An.q H (.inr ((((HP.tail rfl).tail rfl).tail rfl))) 19 65 (.string (bstr ((List.replicate sN 0) ++ (bytes2 (iti i) (j : Int))))) (fun _ => ex_sadd (by kernel_rfl) (by kernel_rfl) (by rw [List.length_replicate]; show sN + 2 ≤ _; omega)) fun a H => ?_
    refine An.go H (.inr ((((HP.tail rfl).tail rfl).tail rfl))) 4 [20] [(66, (.agg #[(.bool ((cq % 6) == 0)), (.string (bstr ((List.replicate sN 0) ++ (bytes2 (iti i) (j : Int))))), (ii 0)]))] [] fun a H => ?_
    refine An.one 21 (by kernel_rfl) ?_
    refine Op.alloc H HP 67 (fun b => (.slice (some ⟨b, 0, none⟩) 1 1)) 96 [(.bool ((cq % 6) == 0)), (.string (bstr ((List.replicate sN 0) ++ (bytes2 (iti i) (j : Int))))), (ii 0)] rfl (by kernel_rfl) (fun w => by kernel_rfl) fun b_94 w_95 a H HP => ?_
    refine ⟨.inr (((((HP.tail rfl).tail rfl).tail rfl).tail rfl)), ?_⟩
    refine An.one 22 (by kernel_rfl) ?_
    have HP := HP.pend0 3 rfl elOk_flat (⟨(cq % 6) == 0, bstr ((List.replicate sN 0) ++ (bytes2 (iti i) (j : Int))), 0⟩ : PicA) [bx b_94 96 [(.bool ((cq % 6) == 0)), (.string (bstr ((List.replicate sN 0) ++ (bytes2 (iti i) (j : Int))))), (ii 0)] true, bx b_86 5 (List.replicate sN (.int .u8 0)) true, bx b_84 5 [(.int .u8 (iti i)), (.int .u8 (j : Int))] true, (rowsP w.heap.size 96 3 PicA.cells okT feF (.slice PA pl.length pc) pl (⟨(cq % 6) == 0, bstr ((List.replicate sN 0) ++ (bytes2 (iti i) (j : Int))), 0⟩ : PicA)), bx b_4 91 [(ii (iti i)), (.slice PA pl.length pc)] true, (rowsR w.heap.size 91 2 AstA.cells astOw astFp (.slice LA li.length lc) li), (bx b_1 3 [(ii 1), (ii 7), (ii 8)] true)] (by kernel_rfl) trivial (fun _ h => h)
    refine Op.push H HP 68 3 0 (v := (.slice PA pl.length pc)) (e := 96) (p := (⟨(cq % 6) == 0, bstr ((List.replicate sN 0) ++ (bytes2 (iti i) (j : Int))), 0⟩ : PicA)) (l := pl) (cs := PicA.cells) (ok := okT) (fe := feF) (size := 3) (z := (.agg #[(.bool false), (.string (bstr ([]))), (ii 0)])) (bytes := 32) (bb := b_94) (tb := 96) (fb := true) rfl (by kernel_rfl) elOk_flat (by kernel_rfl) (by kernel_rfl) rfl (by kernel_rfl) (by kernel_rfl) (by kernel_rfl) (by kernel_rfl) (by kernel_rfl) rfl (by kernel_rfl) (by unfold maxLen; omega) (by omega) fun B_96 c_97 w_98 a H HP => ?_
    have HP : Hp w w_98 [bx b_94 96 [(.bool ((cq % 6) == 0)), (.string (bstr ((List.replicate sN 0) ++ (bytes2 (iti i) (j : Int))))), (ii 0)] true, bx b_86 5 (List.replicate sN (.int .u8 0)) true, bx b_84 5 [(.int .u8 (iti i)), (.int .u8 (j : Int))] true, (rowsR w.heap.size 96 3 PicA.cells okT feF (.slice B_96 (pl.length + 1) c_97) (pl ++ [(⟨(cq % 6) == 0, bstr ((List.replicate sN 0) ++ (bytes2 (iti i) (j : Int))), 0⟩ : PicA)])), bx b_4 91 [(ii (iti i)), (.slice PA pl.length pc)] true, (rowsR w.heap.size 91 2 AstA.cells astOw astFp (.slice LA li.length lc) li), (bx b_1 3 [(ii 1), (ii 7), (ii 8)] true)] [rowF 1 i1C XA xs] := HP
    refine ⟨.inr (((((HP.tail rfl).tail rfl).tail rfl).tail rfl)), ?_⟩
    refine An.go H (.inr (((((HP.tail rfl).tail rfl).tail rfl).tail rfl))) 1 [23] [(69, (pt b_4 1))] [] fun a H => ?_
    refine An.one 24 (by kernel_rfl) ?_
    refine Op.sh H HP 4 1 (.slice B_96 (pl.length + 1) c_97) rfl rfl fun w_99 a H HP => ?_
    refine ⟨.inl (by kernel_rfl), ?_⟩
    refine An.done (by kernel_rfl) ?_
    refine zibn (ztn (zrg ?_))
    refine H.go HP 1 [(20, (ii j))] [] fun a H => H.wi 21 ((j : Int) + 1) fun a H => ?_
    refine H.ge HP [(7, (ii ((j : Int) + 1)))] [] fun a H => ?_
    refine ztn ?_
    have H := H.as 7 (ii ((j + 1 : Nat) : Int)) rfl rfl
    refine ⟨_, ?_, j + 1, pl ++ [(⟨(cq % 6) == 0, bstr ((List.replicate sN 0) ++ (bytes2 (iti i) (j : Int))), 0⟩ : PicA)], B_96, c_97, rfl, H.keep (by kernel_rfl), (by have hh := (HP.sub [3, 4, 5, 6] [(rowsR w.heap.size 96 3 PicA.cells okT feF (.slice B_96 (pl.length + 1) c_97) (pl ++ [(⟨(cq % 6) == 0, bstr ((List.replicate sN 0) ++ (bytes2 (iti i) (j : Int))), 0⟩ : PicA)])), bx b_4 91 [(ii (iti i)), (.slice B_96 (pl.length + 1) c_97)] true, (rowsR w.heap.size 91 2 AstA.cells astOw astFp (.slice LA li.length lc) li), (bx b_1 3 [(ii 1), (ii 7), (ii 8)] true)] (by kernel_rfl) (by kernel_rfl)); rw [show pl.length + 1 = (pl ++ [(⟨(cq % 6) == 0, bstr ((List.replicate sN 0) ++ (bytes2 (iti i) (j : Int))), 0⟩ : PicA)]).length from (by rw [List.length_append]; rfl)] at hh; exact hh), (by omega), (picsOk_next hpk (by omega) (.inr (fun h0 => g51p (by rw [h0]; rfl))))⟩
    omega
   refine Op.val H 64 (.string (bstr (bytes2 (iti i) (j : Int)))) rfl (by kernel_rfl) (ex_b2sR (l := bytes2 (iti i) (j : Int)) (e := 5) (m := 2) (c := 2) (by kernel_rfl) (rd_bytes2 (HP.at_ 0 rfl) (by omega) (by omega)) (by kernel_rfl) (by kernel_rfl) (by kernel_rfl)) fun a H => ?_
   refine ⟨.inr (((HP.tail rfl).tail rfl)), ?_⟩
   refine An.one 11 (by kernel_rfl) ?_
   refine Op.alloc H HP 57 (fun b => (.slice (some ⟨b, 0, none⟩) sN sN)) 5 (List.replicate sN (.int .u8 0)) rfl (by kernel_rfl) (fun w => ex_make (n := sN) (e := 5) (k := .i64) (by kernel_rfl) (by kernel_rfl) (by kernel_rfl) (by kernel_rfl) (by omega)) fun b_100 w_101 a H HP => ?_
   refine ⟨.inr ((((HP.tail rfl).tail rfl).tail rfl)), ?_⟩
   refine An.one 12 (by kernel_rfl) ?_
   refine Op.val H 58 (.string (bstr (List.replicate sN 0))) rfl (by kernel_rfl) (ex_b2sR (l := List.replicate sN 0) (e := 5) (m := sN) (c := sN) (by kernel_rfl) (rd_zeros (HP.at_ 0 rfl)) (by kernel_rfl) (by kernel_rfl) (by kernel_rfl)) fun a H => ?_
   refine ⟨.inr ((((HP.tail rfl).tail rfl).tail rfl)), ?_⟩
   refine An.q H (.inr ((((HP.tail rfl).tail rfl).tail rfl))) 19 65 (.string (bstr ((List.replicate sN 0) ++ (bytes2 (iti i) (j : Int))))) (fun _ => ex_sadd (by kernel_rfl) (by kernel_rfl) (by rw [List.length_replicate]; show sN + 2 ≤ _; omega)) fun a H => ?_
   refine An.go H (.inr ((((HP.tail rfl).tail rfl).tail rfl))) 4 [20] [(66, (.agg #[(.bool ((cq % 6) == 0)), (.string (bstr ((List.replicate sN 0) ++ (bytes2 (iti i) (j : Int))))), (ii 0)]))] [] fun a H => ?_
   refine An.one 21 (by kernel_rfl) ?_
   refine Op.alloc H HP 67 (fun b => (.slice (some ⟨b, 0, none⟩) 1 1)) 96 [(.bool ((cq % 6) == 0)), (.string (bstr ((List.replicate sN 0) ++ (bytes2 (iti i) (j : Int))))), (ii 0)] rfl (by kernel_rfl) (fun w => by kernel_rfl) fun b_102 w_103 a H HP => ?_
   refine ⟨.inr (((((HP.tail rfl).tail rfl).tail rfl).tail rfl)), ?_⟩
   refine An.one 22 (by kernel_rfl) ?_
   have HP := HP.pend0 3 rfl elOk_flat (⟨(cq % 6) == 0, bstr ((List.replicate sN 0) ++ (bytes2 (iti i) (j : Int))), 0⟩ : PicA) [bx b_102 96 [(.bool ((cq % 6) == 0)), (.string (bstr ((List.replicate sN 0) ++ (bytes2 (iti i) (j : Int))))), (ii 0)] true, bx b_100 5 (List.replicate sN (.int .u8 0)) true, bx b_84 5 [(.int .u8 (iti i)), (.int .u8 (j : Int))] true, (rowsP w.heap.size 96 3 PicA.cells okT feF (.slice PA pl.length pc) pl (⟨(cq % 6) == 0, bstr ((List.replicate sN 0) ++ (bytes2 (iti i) (j : Int))), 0⟩ : PicA)), bx b_4 91 [(ii (iti i)), (.slice PA pl.length pc)] true, (rowsR w.heap.size 91 2 AstA.cells astOw astFp (.slice LA li.length lc) li), (bx b_1 3 [(ii 1), (ii 7), (ii 8)] true)] (by kernel_rfl) trivial (fun _ h => h)
   refine Op.push H HP 68 3 0 (v := (.slice PA pl.length pc)) (e := 96) (p := (⟨(cq % 6) == 0, bstr ((List.replicate sN 0) ++ (bytes2 (iti i) (j : Int))), 0⟩ : PicA)) (l := pl) (cs := PicA.cells) (ok := okT) (fe := feF) (size := 3) (z := (.agg #[(.bool false), (.string (bstr ([]))), (ii 0)])) (bytes := 32) (bb := b_102) (tb := 96) (fb := true) rfl (by kernel_rfl) elOk_flat (by kernel_rfl) (by kernel_rfl) rfl (by kernel_rfl) (by kernel_rfl) (by kernel_rfl) (by kernel_rfl) (by kernel_rfl) rfl (by kernel_rfl) (by unfold maxLen; omega) (by omega) fun B_104 c_105 w_106 a H HP => ?_
   have HP : Hp w w_106 [bx b_102 96 [(.bool ((cq % 6) == 0)), (.string (bstr ((List.replicate sN 0) ++ (bytes2 (iti i) (j : Int))))), (ii 0)] true, bx b_100 5 (List.replicate sN (.int .u8 0)) true, bx b_84 5 [(.int .u8 (iti i)), (.int .u8 (j : Int))] true, (rowsR w.heap.size 96 3 PicA.cells okT feF (.slice B_104 (pl.length + 1) c_105) (pl ++ [(⟨(cq % 6) == 0, bstr ((List.replicate sN 0) ++ (bytes2 (iti i) (j : Int))), 0⟩ : PicA)])), bx b_4 91 [(ii (iti i)), (.slice PA pl.length pc)] true, (rowsR w.heap.size 91 2 AstA.cells astOw astFp (.slice LA li.length lc) li), (bx b_1 3 [(ii 1), (ii 7), (ii 8)] true)] [rowF 1 i1C XA xs] := HP
   refine ⟨.inr (((((HP.tail rfl).tail rfl).tail rfl).tail rfl)), ?_⟩
   refine An.go H (.inr (((((HP.tail rfl).tail rfl).tail rfl).tail rfl))) 1 [23] [(69, (pt b_4 1))] [] fun a H => ?_
   refine An.one 24 (by kernel_rfl) ?_
   refine Op.sh H HP 4 1 (.slice B_104 (pl.length + 1) c_105) rfl rfl fun w_107 a H HP => ?_
   refine ⟨.inl (by kernel_rfl), ?_⟩
   refine An.done (by kernel_rfl) ?_
   refine zibn (ztn (zrg ?_))
   refine H.go HP 1 [(20, (ii j))] [] fun a H => H.wi 21 ((j : Int) + 1) fun a H => ?_
   refine H.ge HP [(7, (ii ((j : Int) + 1)))] [] fun a H => ?_
   refine ztn ?_
   have H := H.as 7 (ii ((j + 1 : Nat) : Int)) rfl rfl
   refine ⟨_, ?_, j + 1, pl ++ [(⟨(cq % 6) == 0, bstr ((List.replicate sN 0) ++ (bytes2 (iti i) (j : Int))), 0⟩ : PicA)], B_104, c_105, rfl, H.keep (by kernel_rfl), (by have hh := (HP.sub [3, 4, 5, 6] [(rowsR w.heap.size 96 3 PicA.cells okT feF (.slice B_104 (pl.length + 1) c_105) (pl ++ [(⟨(cq % 6) == 0, bstr ((List.replicate sN 0) ++ (bytes2 (iti i) (j : Int))), 0⟩ : PicA)])), bx b_4 91 [(ii (iti i)), (.slice B_104 (pl.length + 1) c_105)] true, (rowsR w.heap.size 91 2 AstA.cells astOw astFp (.slice LA li.length lc) li), (bx b_1 3 [(ii 1), (ii 7), (ii 8)] true)] (by kernel_rfl) (by kernel_rfl)); rw [show pl.length + 1 = (pl ++ [(⟨(cq % 6) == 0, bstr ((List.replicate sN 0) ++ (bytes2 (iti i) (j : Int))), 0⟩ : PicA)]).length from (by rw [List.length_append]; rfl)] at hh; exact hh), (by omega), (picsOk_next hpk (by omega) (.inr (fun h0 => g51p (by rw [h0]; rfl))))⟩
   omega
  have g19p := of_decide_eq_false g19
  refine wp_exit (then_exit (then_exit ?_))
  refine w_exit_here ?_
  refine ztn (zrg ?_)
  refine H.go HP 2 [(70, (.slice LA li.length lc)), (71, (.agg #[(ii (iti i)), (.slice PA pl.length pc)]))] [1] fun a H => H.alloc HP 72 (fun b => (.slice (some ⟨b, 0, none⟩) 1 1)) 91 [(ii (iti i)), (.slice PA pl.length pc)] (by kernel_rfl) (fun w => by kernel_rfl) fun b_108 w_109 a H HP => ?_
  have HP := HP.front 1 rfl _ rfl
  have hnew : ∀ a ∈ li, ∀ k, astFp a k → ¬ astFp (⟨iti i, PA, pc, pl⟩ : AstA) k := fun a ha k h1 h2 => pairwise_at HP.apart (i := 0) (j := 3) rfl rfl (by omega) k (ast_fe h2) (.inr ⟨a, ha, h1⟩)
  have HP := HP.absorb 2 rfl elOk_asw (⟨iti i, PA, pc, pl⟩ : AstA) [bx b_108 91 [(ii (iti i)), (.slice PA pl.length pc)] true, bx b_4 91 [(ii (iti i)), (.slice PA pl.length pc)] true, (rowsP w.heap.size 91 2 AstA.cells astOw astFp (.slice LA li.length lc) li (⟨iti i, PA, pc, pl⟩ : AstA)), (bx b_1 3 [(ii 1), (ii 7), (ii 8)] true)] (by kernel_rfl) (ast_own (HP.held 0 rfl)) (fun k hk => ast_fe hk) rfl
  refine H.push HP 73 2 0 (v := (.slice LA li.length lc)) (e := 91) (p := (⟨iti i, PA, pc, pl⟩ : AstA)) (l := li) (cs := AstA.cells) (ok := astOw) (fe := astFp) (size := 2) (z := (.agg #[.int .i64 0, .slice none 0 0])) (bytes := 32) (bb := b_108) (tb := 91) (fb := true) (by kernel_rfl) elOk_asw (by kernel_rfl) (by kernel_rfl) rfl (by kernel_rfl) (by kernel_rfl) (by kernel_rfl) (by kernel_rfl) (by kernel_rfl) rfl (by kernel_rfl) (by unfold maxLen; omega) (by omega) fun B_110 c_111 w_112 a H HP => ?_
  have HP : Hp w w_112 [bx b_108 91 [(ii (iti i)), (.slice PA pl.length pc)] true, bx b_4 91 [(ii (iti i)), (.slice PA pl.length pc)] true, (rowsR w.heap.size 91 2 AstA.cells astOw astFp (.slice B_110 (li.length + 1) c_111) (li ++ [(⟨iti i, PA, pc, pl⟩ : AstA)])), (bx b_1 3 [(ii 1), (ii 7), (ii 8)] true)] [rowF 1 i1C XA xs] := HP
  refine H.ge HP [(3, (.slice B_110 (li.length + 1) c_111))] [] fun a H => ?_
  refine zibn (ztn (zrg ?_))
  refine H.wi 74 ((i : Int) + 1) fun a H => ?_
  refine H.ge HP [(12, (ii ((i : Int) + 1)))] [] fun a H => ?_
  refine ztn ?_
  have H := H.as 3 (.slice B_110 ((li ++ [(⟨iti i, PA, pc, pl⟩ : AstA)]).length) c_111) rfl (congrArg (fun n => Value.slice _ n _) (by rw [List.length_append]; rfl))
  have H := H.as 12 (ii ((i + 1 : Nat) : Int)) rfl rfl
  refine ⟨_, ?_, i + 1, li ++ [(⟨iti i, PA, pc, pl⟩ : AstA)], B_110, c_111, rfl, H.keep (by kernel_rfl), (by have hh := (HP.sub [2, 3] [(rowsR w.heap.size 91 2 AstA.cells astOw astFp (.slice B_110 (li.length + 1) c_111) (li ++ [(⟨iti i, PA, pc, pl⟩ : AstA)])), (bx b_1 3 [(ii 1), (ii 7), (ii 8)] true)] (by kernel_rfl) (by kernel_rfl)); rw [show li.length + 1 = (li ++ [(⟨iti i, PA, pc, pl⟩ : AstA)]).length from (by rw [List.length_append]; rfl)] at hh; exact hh), (by omega), (it_next hit (by omega) rfl), (fun a ha => by rcases List.mem_append.1 ha with ha | ha; exact hok a ha; rcases List.mem_singleton.1 ha with rfl; have hj30 : j = 30 := (by omega); exact hj30 ▸ hpk), (List.pairwise_append.2 ⟨hdj, List.pairwise_singleton _ _, fun a ha b hb => (List.mem_singleton.1 hb) ▸ hnew a ha⟩)⟩
  omega
 have g13p := of_decide_eq_false g13
 refine wp_exit (then_exit (then_exit ?_))
 refine w_exit_here ?_
 refine ztn (zsq (zrg ?_))
 refine H.ge HP [(2, (.slice LA li.length lc))] [] fun a H => ?_
 refine ztn (zrt ?_)
 refine H.r1 (.slice LA li.length lc) Tryz.results11 ?_
 have hie : i = 3 := by omega
 subst hie
 exact ⟨LA, lc, li, by rw [hlil], hit, hok, hdj, HP.held 0 rfl, (fun k hk => ⟨HP.fresh _ (List.mem_of_getElem? (i := 0) rfl) rfl k hk, (HP.res _ (List.mem_of_getElem? (i := 0) rfl)).2.2 k hk⟩), HP.bl⟩
def SentP (rn rd : Int) (s : List UInt8) : Prop := s.length ≤ 999999 ∧ ∀ u, unpackP rn rd s = some u → u.al = [] ∧ u.version ≤ 8
theorem unpack_mod {rn rd : Int} {s : List UInt8} (h : s.length = 0 ∨ s.length % 64 ≠ 0) : unpackP rn rd s = none := unpack_nos (by unfold streamP; rw [if_pos (by rcases h with h | h; exact .inl h; exact .inr (.inl h))])
theorem pic_cells2 {w : World} {A : Option Addr} {n b off : Nat} {l : List PicA} (h : IsPics w A n l) {i : Nat} (hi : i < n) (hA : A = some ⟨b, off, none⟩) : cellsAt w b (off + i * 3) [.bool (l.getD i picZ).key, .string (bstr (l.getD i picZ).str), .int .i64 (l.getD i picZ).power] := by
 obtain ⟨b', off', e, _, hc⟩ := pic_cells h hi
 rw [hA] at e; cases e; exact hc
theorem alts_nil (w : World) (A : Option Addr) : IsAlts w A 0 [] := ⟨rfl, Rd.nil _ _ _⟩
theorem limit_any (w : World) :
  Calls Tryz.prog 148 #[.int .i64 1000] w fun e w' => e = .returned (ii 1000) ∧ Below w.heap.size w w' := by
 have HP := Hp.start w
 refine w_enter 6 [(0, (ii 1000))] Tryz.func148 rfl Tryz.ntmps148 (by kernel_rfl) (by kernel_rfl) fun a H => ?_
 refine zsq (zrg ?_)
 refine H.ge HP [(2, (ii 0))] [] fun a H => ?_
 refine ztn (zsq (zrg ?_))
 refine H.go HP 1 [(3, (ii 1000))] [] fun a H => H.valE 4 (ii (if 250 > 1000 then 250 else 1000)) (ii (max 1000 250)) (by kernel_rfl) (by kernel_rfl) ((congrArg (Value.int .i64) (max_if _ _))) fun a H => H.valE 5 (ii (if 4000 < (max 1000 250) then 4000 else (max 1000 250))) (ii (min (max 1000 250) 4000)) (by kernel_rfl) (by kernel_rfl) ((congrArg (Value.int .i64) (min_if _ _))) fun a H => ?_
 refine H.ge HP [(2, (ii (min (max 1000 250) 4000)))] [] fun a H => ?_
 refine ztn (zrt ?_)
 refine H.r1 (ii (min (max 1000 250) 4000)) Tryz.results148 ?_
 exact ⟨rfl, HP.bl⟩
theorem ramp_any (k : Int) (w : World) :
  Calls Tryz.prog 95 #[.int .i64 1000, .int .i64 1000, .int .i64 k] w fun e w' => e = .returned (ii 1000) ∧ Below w.heap.size w w' := by
 have HP := Hp.start w
 refine w_enter 29 [(0, (ii 1000)), (1, (ii 1000)), (2, (ii k))] Tryz.func95 rfl Tryz.ntmps95 (by kernel_rfl) (by kernel_rfl) fun a H => ?_
 refine zsq (zrg ?_)
 refine H.ge HP [(6, (ii 0))] [] fun a H => ?_
 refine ztn (wp_scope_straight (zsq (zrg ?_)))
 refine H.go HP 1 [(9, (ii 1000))] [] fun a H => H.cb HP 10 (Tryz.call148 _ _) (limit_any w) fun w_1 hb a H HP => ?_
 refine H.ge HP [(0, (ii 1000))] [] fun a H => ?_
 refine ztn (zsq (zrg ?_))
 refine H.go HP 1 [(11, (ii 1000))] [] fun a H => H.cb HP 12 (Tryz.call148 _ _) (limit_any w_1) fun w_2 hb a H HP => H.go HP 1 [(13, (.agg #[(ii 1000)]))] [] fun a H => H.al HP 7 258 [(ii 0)] fun b_3 w_4 a H HP => H.sh HP 0 0 (.agg #[(ii 1000)]) rfl fun w_5 a H HP => ?_
 refine znl (ztn (zsq (zrg ?_)))
 refine H.ge HP [(8, (.func (.func 149) #[(.agg #[(ii 1000)])] #[]))] [0] fun a H => ?_
 refine ztn (zsq (wp_label (ztn (zsq (zsq (zrg ?_))))))
 refine H.go HP 1 [(16, (ii k))] [] fun a H => H.valE 17 (ii (if 0 > k then 0 else k)) (ii (max k 0)) (by kernel_rfl) (by kernel_rfl) ((congrArg (Value.int .i64) (max_if _ _))) fun a H => ?_
 refine H.ge HP [(18, (ii 0))] [] fun a H => ?_
 refine ztn (zbk ?_)
 refine w_loop (fun mm a wv => 0 = mm ∧ Sl 29 [(18, (ii 0)), (17, (ii (max k 0))), (16, (ii k)), (8, (.func (.func 149) #[(.agg #[(ii 1000)])] #[])), (7, (pt b_3 0)), (13, (.agg #[(ii 1000)])), (12, (ii 1000)), (11, (ii 1000)), (0, (ii 1000)), (10, (ii 1000)), (9, (ii 1000)), (6, (ii 0)), (0, (ii 1000)), (1, (ii 1000)), (2, (ii k))] a ∧ Hp w wv [bx b_3 258 [(ii 1000)] true] []) (0) ?_ ?_
 ·exact ⟨(by omega), H.keep (by kernel_rfl), HP⟩
 rintro mm a w_6 ⟨hmeas, H, HP⟩
 refine zsq (zrg ?_)
 refine H.ge HP [(19, (.bool (decide (0 < (max k 0)))))] [] fun a H => ?_
 refine ztn (zsq ?_)
 refine w_if H rfl (fun g19 => ?_) (fun g19 => ?_)
 ·have g19p := of_decide_eq_true g19
  refine zsk (ztn (zsq (zbk (zsq (zsq (zrg ?_))))))
  refine H.ge HP [(23, (.bool true))] [0] fun a H => ?_
  refine ztn ?_
  refine w_ift H rfl ?_
  refine wp_exit (then_exit ?_)
  refine w_exit_far (by kernel_rfl) ?_
  refine then_exit (then_exit ?_)
  refine w_exit_here ?_
  refine ztn (zsq (zrg ?_))
  refine H.ge HP [(6, (ii 1000))] [] fun a H => ?_
  refine ztn (zrt (ng_ret ?_))
  refine H.r1 (ii 1000) Tryz.results95 ?_
  exact ⟨rfl, HP.bl⟩
 have g19p := of_decide_eq_false g19
 refine wp_exit (then_exit (then_exit ?_))
 refine w_exit_here ?_
 refine ztn (zsq (zrg ?_))
 refine H.ge HP [(6, (ii 1000))] [] fun a H => ?_
 refine ztn (zrt (ng_ret ?_))
 refine H.r1 (ii 1000) Tryz.results95 ?_
 exact ⟨rfl, HP.bl⟩
theorem active_any (fr : Int) (w : World) :
  Calls Tryz.prog 152 #[.slice none 0 0, .int .i64 fr] w fun e w' => e = .returned (.tuple #[.agg #[.int .i64 0, .int .i64 0, .int .i64 0, .int .i64 0, .string (bstr [])], .bool false]) ∧ Below w.heap.size w w' := by
 have HP := Hp.start w
 refine w_enter 37 [(0, (.slice none 0 0)), (1, (ii fr))] Tryz.func152 rfl Tryz.ntmps152 (by kernel_rfl) (by kernel_rfl) fun a H => ?_
 refine zsq (zrg ?_)
 refine H.al HP 4 43 [(ii 0), (ii 0), (ii 0), (ii 0), (.string (bstr ([])))] fun b_1 w_2 a H HP => ?_
 refine H.ge HP [(5, (.bool false))] [] fun a H => ?_
 refine ztn (zsq (zrg ?_))
 refine H.al HP 6 43 [(ii 0), (ii 0), (ii 0), (ii 0), (.string (bstr ([])))] fun b_3 w_4 a H HP => ?_
 refine znl (ztn (zsq (zrg ?_)))
 refine H.al HP 7 4 [(.bool false)] fun b_5 w_6 a H HP => H.sh HP 0 0 (.bool false) rfl fun w_7 a H HP => ?_
 refine znl (ztn (zsq (zrg ?_)))
 refine H.ge HP [(8, (.func (.func 184) #[] #[(pt b_5 0), (pt b_3 0)]))] [] fun a H => ?_
 refine ztn (zsq (zsq (zrg ?_)))
 refine H.ge HP [(12, (.slice none 0 0)), (13, (ii 0)), (14, (ii 0))] [] fun a H => ?_
 refine ztn (zbk ?_)
 refine w_loop (fun mm a wv => 0 = mm ∧ Sl 37 [(12, (.slice none 0 0)), (13, (ii 0)), (14, (ii 0)), (8, (.func (.func 184) #[] #[(pt b_5 0), (pt b_3 0)])), (7, (pt b_5 0)), (6, (pt b_3 0)), (5, (.bool false)), (4, (pt b_1 0)), (0, (.slice none 0 0)), (1, (ii fr))] a ∧ Hp w wv [bx b_5 4 [(.bool false)] true, bx b_3 43 [(ii 0), (ii 0), (ii 0), (ii 0), (.string (bstr ([])))] true, bx b_1 43 [(ii 0), (ii 0), (ii 0), (ii 0), (.string (bstr ([])))] true] []) (0) ?_ ?_
 ·exact ⟨(by omega), H.keep (by kernel_rfl), HP⟩
 rintro mm a w_8 ⟨hmeas, H, HP⟩
 refine zsq (zrg ?_)
 refine H.ge HP [(15, (.bool false))] [] fun a H => ?_
 refine ztn (zsq ?_)
 refine w_iff H rfl ?_
 refine wp_exit (then_exit (then_exit ?_))
 refine w_exit_here ?_
 refine ztn (zsq ?_)
 refine An.start (fun v => Hp w v [bx b_5 4 [(.bool false)] true, bx b_3 43 [(ii 0), (ii 0), (ii 0), (ii 0), (.string (bstr ([])))] true, bx b_1 43 [(ii 0), (ii 0), (ii 0), (ii 0), (.string (bstr ([])))] true] []) 4 4 HP wide_follows rfl fun w_9 HP => ?_
 refine An.go H (.inr (HP)) 2 [0, 1] [(35, (.agg #[(ii 0), (ii 0), (ii 0), (ii 0), (.string (bstr ([])))])), (36, (.bool false))] [1, 0] fun a H => ?_
 refine An.one 2 (by kernel_rfl) ?_
 refine Op.sh H HP 2 0 (.agg #[(ii 0), (ii 0), (ii 0), (ii 0), (.string (bstr ([])))]) rfl rfl fun w_10 a H HP => ?_
 refine ⟨.inr (HP), ?_⟩
 refine An.go H (.inr (HP)) 0 [3] [(5, (.bool false))] [] fun a H => ?_
 refine An.done (by kernel_rfl) ?_
 refine ztn (zrt ?_)
 refine H.ret2 (fn := Tryz.f152) Tryz.results152 (RV.cellN (vs := [(ii 0), (ii 0), (ii 0), (ii 0), (.string (bstr ([])))]) (b := b_1) (off := 0) (k := 5) (by kernel_rfl) (by kernel_rfl) (by kernel_rfl) rfl (HP.cells 2 rfl 0 5 (by kernel_rfl))) (RV.tmp_ (v := (.bool false)) (by kernel_rfl)) ?_
 exact ⟨rfl, HP.bl⟩
theorem send1_any (fr : Int) (b2 b7 b3 b5 b6 b8 : Nat) (w : World) (h7 : Box w b7 9 [.string (bstr [])].toArray) (n2 : b2 ≠ b7) (n3 : b3 ≠ b7) (h2 : Box w b2 102 [(.slice none 0 0)].toArray) (h3 : Box w b3 197 [(ii 1)].toArray) :
  Calls Tryz.prog 151 #[.int .i64 fr, .pointer (some ⟨b2, 0, none⟩), .pointer (some ⟨b7, 0, none⟩), .pointer (some ⟨b3, 0, none⟩), .pointer (some ⟨b5, 0, none⟩), .pointer (some ⟨b6, 0, none⟩), .pointer (some ⟨b8, 0, none⟩)] w fun e w' => e = .returned (.string (bstr [0, 0, 0])) ∧ Below w.heap.size w w' := by
 have HP := ((Hp.own (vs := [.string (bstr [])]) h7).keepF (boxK b3 197 [.int .i64 1]) h3 (boxK_ok _ _ _) (fun k hk => ⟨boxK_lt h3 hk, fun x hx => by simp only [List.mem_cons, List.not_mem_nil, or_false] at hx; rcases hx with rfl; exact fun e => n3 (hk.symm.trans e)⟩)).keepF (boxK b2 102 [.slice none 0 0]) h2 (boxK_ok _ _ _) (fun k hk => ⟨boxK_lt h2 hk, fun x hx => by simp only [List.mem_cons, List.not_mem_nil, or_false] at hx; rcases hx with rfl; exact fun e => n2 (hk.symm.trans e)⟩)
 refine w_enter 76 [(0, (ii fr)), (1, (pt b2 0)), (2, (pt b7 0)), (3, (pt b3 0)), (4, (pt b5 0)), (5, (pt b6 0)), (6, (pt b8 0))] Tryz.func151 rfl Tryz.ntmps151 (by kernel_rfl) (by kernel_rfl) fun a H => ?_
 refine zsq (zrg ?_)
 refine H.ge HP [(8, (.string (bstr ([]))))] [] fun a H => ?_
 refine ztn (zsq (zrg ?_))
 refine H.u 18 (.slice none 0 0) (ex_l1 (Box.cell (i := 0) (HP.fact 0 rfl : Box _ b2 102 _) rfl)) fun a H => H.go HP 1 [(19, (ii fr))] [] fun a H => H.cb HP 20 (Tryz.call152 _ _) (active_any fr w) fun w_1 hb a H HP => H.go HP 3 [(21, (.agg #[(ii 0), (ii 0), (ii 0), (ii 0), (.string (bstr ([])))])), (22, (.bool false))] [] fun a H => H.al HP 9 43 [(ii 0), (ii 0), (ii 0), (ii 0), (.string (bstr ([])))] fun b_2 w_3 a H HP => H.sh HP 0 0 (.agg #[(ii 0), (ii 0), (ii 0), (ii 0), (.string (bstr ([])))]) rfl fun w_4 a H HP => ?_
 refine H.ge HP [(10, (.bool false))] [] fun a H => ?_
 refine ztn (zsq (zrg ?_))
 refine H.ge HP [(11, (.string (bstr ([]))))] [] fun a H => ?_
 refine ztn (zsq (zsq (zrg ?_)))
 refine H.ge HP [(23, (.bool false))] [] fun a H => ?_
 refine ztn ?_
 refine w_iff H rfl ?_
 refine zsk (ztn (zsq (zsq (zrg ?_))))
 refine H.ge HP [(33, (.bool true))] [] fun a H => ?_
 refine ztn ?_
 refine w_ift H rfl ?_
 refine zsq (zrg ?_)
 refine H.sh HP 1 0 (.string (bstr ([]))) rfl fun w_5 a H HP => ?_
 refine znl (ztn (zsq (zsq (zrg ?_))))
 refine H.u 34 (ii 1) (ex_l1 (Box.cell (i := 0) (HP.fact 1 rfl : Box _ b3 197 _) rfl)) fun a H => ?_
 refine H.ge HP [(35, (.bool true))] [] fun a H => ?_
 refine ztn ?_
 refine w_ift H rfl ?_
 refine zsq (zrg ?_)
 refine H.cb HP 36 (Tryz.call97 _ _) (codeI_any w_5) fun w_6 hb a H HP => ?_
 refine H.ge HP [(8, (.string (bstr ([0, 0, 0]))))] [] fun a H => ?_
 refine ztn (zrt (ztr (ztr ?_)))
 refine H.r1 (.string (bstr ([0, 0, 0]))) Tryz.results151 ?_
 have HP : Hp w w_6 [bx b_2 43 [(ii 0), (ii 0), (ii 0), (ii 0), (.string (bstr ([])))] true, bx b7 9 [(.string (bstr ([])))] false] [boxK b2 102 [(.slice none 0 0)], boxK b3 197 [(ii 1)]] := HP
 exact ⟨rfl, (HP.same (by intro x hx; simp only [List.mem_cons, List.not_mem_nil, or_false] at hx; rcases hx with rfl | rfl; exact .inl rfl; exact .inr (bx_same h7 (HP.at_ 1 rfl))))⟩
theorem sender_any (w : World) :
  Calls Tryz.prog 98 #[.slice none 0 0, .int .i64 1] w fun e w' => ∃ b2 b7 b3 b5 b6 b8, e = .returned (.func (.func 151) #[] #[.pointer (some ⟨b2, 0, none⟩), .pointer (some ⟨b7, 0, none⟩), .pointer (some ⟨b3, 0, none⟩), .pointer (some ⟨b5, 0, none⟩), .pointer (some ⟨b6, 0, none⟩), .pointer (some ⟨b8, 0, none⟩)]) ∧ Box w' b7 9 [.string (bstr [])].toArray ∧ Box w' b2 102 [.slice none 0 0].toArray ∧ Box w' b3 197 [.int .i64 1].toArray ∧ b2 ≠ b7 ∧ b3 ≠ b7 ∧ Below w.heap.size w w' := by
 have HP := Hp.start w
 refine w_enter 10 [(0, (.slice none 0 0)), (1, (ii 1))] Tryz.func98 rfl Tryz.ntmps98 (by kernel_rfl) (by kernel_rfl) fun a H => ?_
 refine zsq (zrg ?_)
 refine H.al HP 2 102 [(.slice none 0 0)] fun b_1 w_2 a H HP => H.al HP 3 197 [(ii 1)] fun b_3 w_4 a H HP => ?_
 refine H.ge HP [(4, .nilFunc)] [] fun a H => ?_
 refine ztn (zsq (zrg ?_))
 refine H.al HP 5 43 [(ii 0), (ii 0), (ii 0), (ii 0), (.string (bstr ([])))] fun b_5 w_6 a H HP => H.al HP 6 43 [(ii 0), (ii 0), (ii 0), (ii 0), (.string (bstr ([])))] fun b_7 w_8 a H HP => ?_
 refine znl (ztn (zsq (zrg ?_)))
 refine H.al HP 7 9 [(.string (bstr ([])))] fun b_9 w_10 a H HP => H.al HP 8 3 [(ii 0)] fun b_11 w_12 a H HP => H.sh HP 1 0 (.string (bstr ([]))) rfl fun w_13 a H HP => H.sh HP 0 0 (ii 0) rfl fun w_14 a H HP => ?_
 refine znl (ztn (zsq (zrg ?_)))
 refine H.ge HP [(4, (.func (.func 151) #[] #[(pt b_1 0), (pt b_9 0), (pt b_3 0), (pt b_5 0), (pt b_7 0), (pt b_11 0)]))] [] fun a H => ?_
 refine ztn (zrt ?_)
 refine H.r1 (.func (.func 151) #[] #[(pt b_1 0), (pt b_9 0), (pt b_3 0), (pt b_5 0), (pt b_7 0), (pt b_11 0)]) Tryz.results98 ?_
 have HP : Hp w w_14 [bx b_11 3 [(ii 0)] true, bx b_9 9 [(.string (bstr ([])))] true, bx b_7 43 [(ii 0), (ii 0), (ii 0), (ii 0), (.string (bstr ([])))] true, bx b_5 43 [(ii 0), (ii 0), (ii 0), (ii 0), (.string (bstr ([])))] true, bx b_3 197 [(ii 1)] true, bx b_1 102 [(.slice none 0 0)] true] [] := HP
 exact ⟨b_1, b_9, b_3, b_5, b_7, b_11, rfl, HP.at_ 1 rfl, HP.at_ 5 rfl, HP.at_ 4 rfl, HP.ne 5 1 rfl rfl (by decide), HP.ne 4 1 rfl rfl (by decide), HP.bl⟩
theorem code56_any (w : World) :
  Calls Tryz.prog 59 #[.slice none 0 0, .int .i64 5, .int .i64 6] w fun e w' => e = .returned (.string (bstr [0, 0, 0])) ∧ Below w.heap.size w w' := by
 have HP := Hp.start w
 refine w_enter 51 [(0, (.slice none 0 0)), (1, (ii 5)), (2, (ii 6))] Tryz.func59 rfl Tryz.ntmps59 (by kernel_rfl) (by kernel_rfl) fun a H => ?_
 refine zsq (zrg ?_)
 refine H.ge HP [(6, (.string (bstr ([]))))] [] fun a H => ?_
 refine ztn (zsq (zrg ?_))
 refine H.cb HP 14 (Tryz.call97 _ _) (codeC_any w) fun w_1 hb a H HP => ?_
 refine H.ge HP [(7, (.string (bstr ([64, 0, 0]))))] [] fun a H => ?_
 refine ztn (zsq (zsq (zrg ?_)))
 refine H.ge HP [(17, (.bool false))] [] fun a H => ?_
 refine ztn ?_
 refine w_iff H rfl ?_
 refine zsk (ztn (zsq (zrg ?_)))
 refine H.go HP 1 [(19, (ii 6))] [] fun a H => H.valE 20 (.int .u64 (IntKind.u64.wrap 6)) (.int .u64 6) (by kernel_rfl) (by kernel_rfl) (by kernel_rfl) fun a H => H.go HP 1 [(21, (ii 5))] [] fun a H => H.valE 22 (.int .u64 (IntKind.u64.wrap 5)) (.int .u64 5) (by kernel_rfl) (by kernel_rfl) (by kernel_rfl) fun a H => H.valE 23 (.int .u64 (IntKind.u64.wrap (6 - 5))) (.int .u64 1) (by kernel_rfl) (by kernel_rfl) (by kernel_rfl) fun a H => ?_
 refine H.ge HP [(8, (.int .u64 1))] [] fun a H => ?_
 refine ztn (zsq (zrg ?_))
 refine H.go HP 2 [(25, (.int .u64 1))] [] fun a H => H.valE 26 (ii (IntKind.i64.wrap 1)) (ii 1) (by kernel_rfl) (by kernel_rfl) (by kernel_rfl) fun a H => ?_
 refine H.ge HP [(9, (ii 1))] [] fun a H => ?_
 refine ztn (zsq (zrg ?_))
 refine H.ge HP [(10, (ii 0))] [] fun a H => ?_
 refine ztn (zsq (zrg ?_))
 refine H.go HP 2 [(27, (ii 6)), (28, (ii 1))] [] fun a H => H.valE 29 (ii (IntKind.i64.wrap (6 - 1))) (ii 5) (by kernel_rfl) (by kernel_rfl) (by kernel_rfl) fun a H => ?_
 refine H.ge HP [(11, (ii 5))] [] fun a H => ?_
 refine ztn (zsq (zsq (zrg ?_)))
 refine H.ge HP [(31, (.bool true))] [] fun a H => ?_
 refine ztn ?_
 refine w_ift H rfl ?_
 refine zsq (zrg ?_)
 refine H.ge HP [(10, (ii 1))] [] fun a H => ?_
 refine ztn (zrg ?_)
 refine H.go HP 1 [(32, (ii 5))] [] fun a H => H.valE 33 (ii (IntKind.i64.wrap (5 + 1))) (ii 6) (by kernel_rfl) (by kernel_rfl) (by kernel_rfl) fun a H => ?_
 refine H.ge HP [(11, (ii 6))] [] fun a H => ?_
 refine ztn (zsq (zrg ?_))
 refine H.go HP 2 [(34, (.slice none 0 0)), (35, (ii 1))] [] fun a H => ?_
 refine H.cl 36 (Tryz.call98 _ _) (sender_any w_1) ?_
 rintro e w_2 ⟨b2, b7, b3, b5, b6, b8, rfl, h7, h2, h3, n2, n3, hbs⟩
 refine ⟨_, rfl, ?_⟩
 intro a H
 have HP := HP.next hbs
 refine H.ge HP [(12, (.func (.func 151) #[] #[(pt b2 0), (pt b7 0), (pt b3 0), (pt b5 0), (pt b6 0), (pt b8 0)]))] [] fun a H => ?_
 refine ztn (zsq (zsq (zrg ?_)))
 refine H.go HP 2 [(37, (ii 6)), (38, (ii 6))] [] fun a H => H.valE 39 (ii (IntKind.i64.wrap (6 - 6))) (ii 0) (by kernel_rfl) (by kernel_rfl) (by kernel_rfl) fun a H => H.valE 40 (ii (IntKind.i64.wrap (0 + 1))) (ii 1) (by kernel_rfl) (by kernel_rfl) (by kernel_rfl) fun a H => ?_
 refine H.ge HP [(41, (ii 0))] [] fun a H => ?_
 refine ztn (zbk ?_)
 refine w_loop (fun mm a wv => (mm = 1 ∧ Sl 51 [(41, (ii 0)), (7, (.string (bstr ([64, 0, 0])))), (11, (ii 6)), (12, (.func (.func 151) #[] #[(pt b2 0), (pt b7 0), (pt b3 0), (pt b5 0), (pt b6 0), (pt b8 0)])), (40, (ii 1))] a ∧ Hp w wv [] [] ∧ Box wv b7 9 [.string (bstr [])].toArray ∧ Box wv b2 102 [.slice none 0 0].toArray ∧ Box wv b3 197 [.int .i64 1].toArray) ∨ (mm = 0 ∧ Sl 51 [(41, (ii 1)), (7, (.string (bstr ([0, 0, 0])))), (11, (ii 6)), (12, (.func (.func 151) #[] #[(pt b2 0), (pt b7 0), (pt b3 0), (pt b5 0), (pt b6 0), (pt b8 0)])), (40, (ii 1))] a ∧ Hp w wv [] [])) 1 (.inl ⟨rfl, H.keep (by kernel_rfl), HP, h7, h2, h3⟩) ?_
 rintro mm a w_3 (⟨rfl, H, HP, h7, h2, h3⟩ | ⟨rfl, H, HP⟩)
 ·refine zsq (zrg ?_)
  refine H.ge HP [(42, (.bool true))] [] fun a H => ?_
  refine ztn (zsq ?_)
  refine w_ift H rfl ?_
  refine zsk (ztn (zsq (zbk (zsq (zrg ?_)))))
  refine H.ge HP [(13, (ii 0))] [] fun a H => ?_
  refine ztn (zrg ?_)
  refine H.go HP 3 [(44, (.func (.func 151) #[] #[(pt b2 0), (pt b7 0), (pt b3 0), (pt b5 0), (pt b6 0), (pt b8 0)])), (45, (ii 6)), (46, (ii 0))] [] fun a H => H.valE 47 (ii (IntKind.i64.wrap (6 + 0))) (ii 6) (by kernel_rfl) (by kernel_rfl) (by kernel_rfl) fun a H => H.cb HP 48 (Tryz.call151 _ _) (send1_any 6 b2 b7 b3 b5 b6 b8 w_3 h7 n2 n3 h2 h3) fun w_4 hb a H HP => ?_
  refine H.ge HP [(7, (.string (bstr ([0, 0, 0]))))] [] fun a H => ?_
  refine zibn (ztn (zrg ?_))
  refine H.valE 49 (ii (IntKind.i64.wrap (0 + 1))) (ii 1) (by kernel_rfl) (by kernel_rfl) (by kernel_rfl) fun a H => ?_
  refine H.ge HP [(41, (ii 1))] [] fun a H => ?_
  refine ztn ?_
  exact ⟨0, by omega, .inr ⟨rfl, H.keep (by kernel_rfl), HP⟩⟩
 refine zsq (zrg ?_)
 refine H.ge HP [(42, (.bool false))] [] fun a H => ?_
 refine ztn (zsq ?_)
 refine w_iff H rfl ?_
 refine wp_exit (then_exit (then_exit ?_))
 refine w_exit_here ?_
 refine ztn (zsq (zrg ?_))
 refine H.ge HP [(6, (.string (bstr ([0, 0, 0]))))] [] fun a H => ?_
 refine ztn (zrt ?_)
 refine H.r1 (.string (bstr ([0, 0, 0]))) Tryz.results59 ?_
 exact ⟨rfl, HP.bl⟩
theorem clone0_any (w : World) :
  Calls Tryz.prog 92 #[.slice none 0 0] w fun e w' => e = .returned (.slice none 0 0) ∧ Below w.heap.size w w' := by
 have HP := Hp.start w
 refine w_enter 8 [(0, (.slice none 0 0))] Tryz.func92 rfl Tryz.ntmps92 (by kernel_rfl) (by kernel_rfl) fun a H => ?_
 refine zsq (zrg ?_)
 refine H.ge HP [(2, (.slice none 0 0))] [] fun a H => ?_
 refine ztn (zsq (zsq (zrg ?_)))
 refine H.ge HP [(3, (.slice none 0 0)), (4, (.bool true))] [] fun a H => ?_
 refine ztn ?_
 refine w_ift H rfl ?_
 refine zsq (zrg ?_)
 refine H.ge HP [(2, (.slice none 0 0))] [] fun a H => ?_
 refine ztn (zrt (ztr ?_))
 refine H.r1 (.slice none 0 0) Tryz.results92 ?_
 exact ⟨rfl, HP.bl⟩
theorem at1_5 (bf : Nat) (w : World) (hbf : Box w bf 3 [(ii 5)].toArray) :
  Calls Tryz.prog 90 #[(.agg #[(ii 1), (ii 7), (ii 5), (ii 2), (ii 0), (ii 3), (.slice none 0 0)]), (pt bf 0)] w fun e w' => e = .returned (.bool true) ∧ Below w.heap.size w w' := by
 have HP := ((Hp.start w).keepF (boxK bf 3 [(ii 5)]) hbf (boxK_ok _ _ _) (fun k hk => ⟨boxK_lt hbf hk, fun x hx => by cases hx⟩))
 refine w_enter 25 [(0, (.agg #[(ii 1), (ii 7), (ii 5), (ii 2), (ii 0), (ii 3), (.slice none 0 0)])), (1, (pt bf 0))] Tryz.func90 rfl Tryz.ntmps90 (by kernel_rfl) (by kernel_rfl) fun a H => ?_
 refine zsq (zrg ?_)
 refine H.al HP 2 100 [(ii 1), (ii 7), (ii 5), (ii 2), (ii 0), (ii 3), (.slice none 0 0)] fun b_1 w_2 a H HP => ?_
 refine H.ge HP [(3, (.bool false))] [] fun a H => ?_
 refine ztn (zsq (zrg ?_))
 refine H.go HP 2 [(4, (pt b_1 2)), (5, (ii 5))] [0] fun a H => H.u 6 (ii 5) (ex_l1 (Box.cell (i := 0) (HP.fact 0 rfl : Box _ bf 3 _) rfl)) fun a H => H.go HP 7 [(13, (.bool true))] [0] fun a H => H.u 14 (ii 5) (ex_l1 (Box.cell (i := 0) (HP.fact 0 rfl : Box _ bf 3 _) rfl)) fun a H => H.valE 15 (.int .u64 (IntKind.u64.wrap 5)) (.int .u64 5) (by kernel_rfl) (by kernel_rfl) (by kernel_rfl) fun a H => H.go HP 2 [(17, (ii 5))] [0] fun a H => H.valE 18 (.int .u64 (IntKind.u64.wrap 5)) (.int .u64 5) (by kernel_rfl) (by kernel_rfl) (by kernel_rfl) fun a H => H.valE 19 (.int .u64 (IntKind.u64.wrap (5 - 5))) (.int .u64 0) (by kernel_rfl) (by kernel_rfl) (by kernel_rfl) fun a H => H.go HP 2 [(21, (ii 2))] [0] fun a H => H.valE 22 (.int .u64 (IntKind.u64.wrap 2)) (.int .u64 2) (by kernel_rfl) (by kernel_rfl) (by kernel_rfl) fun a H => ?_
 refine H.ge HP [(3, (.bool true))] [] fun a H => ?_
 refine ztn (zrt ?_)
 refine H.r1 (.bool true) Tryz.results90 ?_
 exact ⟨rfl, HP.bl⟩
theorem atIx_5 (be bf : Nat) (w : World) (hbf : Box w bf 3 [(ii 5)].toArray) (hev : Box w be 100 [(ii 1), (ii 7), (ii 5), (ii 2), (ii 0), (ii 3), (.slice none 0 0)].toArray) :
  Calls Tryz.prog 91 #[(.slice (some ⟨be, 0, none⟩) 1 1), (.func (.func 90) #[] #[(pt bf 0)])] w fun e w' => e = .returned (ii 0) ∧ Below w.heap.size w w' := by
 have HP := (((Hp.start w).keepF (boxK be 100 [(ii 1), (ii 7), (ii 5), (ii 2), (ii 0), (ii 3), (.slice none 0 0)]) hev (boxK_ok _ _ _) (fun k hk => ⟨boxK_lt hev hk, fun x hx => by cases hx⟩)).keepF (boxK bf 3 [(ii 5)]) hbf (boxK_ok _ _ _) (fun k hk => ⟨boxK_lt hbf hk, fun x hx => by cases hx⟩))
 refine w_enter 19 [(0, (.slice (some ⟨be, 0, none⟩) 1 1)), (1, (.func (.func 90) #[] #[(pt bf 0)]))] Tryz.func91 rfl Tryz.ntmps91 (by kernel_rfl) (by kernel_rfl) fun a H => ?_
 refine zsq (zrg ?_)
 refine H.ge HP [(4, (ii 0))] [] fun a H => ?_
 refine ztn (zsq (zsq (zrg ?_)))
 refine H.ge HP [(6, (.slice (some ⟨be, 0, none⟩) 1 1)), (7, (ii 1)), (8, (ii 0))] [] fun a H => ?_
 refine ztn (zbk ?_)
 refine w_loop (fun mm a wv => 0 = mm ∧ Sl 19 [(6, (.slice (some ⟨be, 0, none⟩) 1 1)), (7, (ii 1)), (8, (ii 0)), (4, (ii 0)), (0, (.slice (some ⟨be, 0, none⟩) 1 1)), (1, (.func (.func 90) #[] #[(pt bf 0)]))] a ∧ Hp w wv [] [boxK bf 3 [(ii 5)], boxK be 100 [(ii 1), (ii 7), (ii 5), (ii 2), (ii 0), (ii 3), (.slice none 0 0)]]) (0) ?_ ?_
 ·exact ⟨(by omega), H.keep (by kernel_rfl), HP⟩
 rintro mm a w_1 ⟨hmeas, H, HP⟩
 refine zsq (zrg ?_)
 refine H.ge HP [(9, (.bool true))] [] fun a H => ?_
 refine ztn (zsq ?_)
 refine w_ift H rfl ?_
 refine zsk (ztn (zsq (zbk (zsq (zrg ?_)))))
 refine H.ge HP [(5, (ii 0))] [] fun a H => ?_
 refine ztn (zsq (zrg ?_))
 refine H.go HP 3 [(11, (.func (.func 90) #[] #[(pt bf 0)])), (12, (.slice (some ⟨be, 0, none⟩) 1 1)), (13, (ii 0))] [] fun a H => H.v 14 (pt be 0) fun a H => H.u 15 (.agg #[(ii 1), (ii 7), (ii 5), (ii 2), (ii 0), (ii 3), (.slice none 0 0)]) (ex_lN [(ii 1), (ii 7), (ii 5), (ii 2), (ii 0), (ii 3), (.slice none 0 0)] (boxCells (HP.fact 1 rfl : Box _ be 100 _))) fun a H => H.cb HP 16 (Tryz.call90 _ _) (at1_5 bf w_1 (HP.fact 0 rfl)) fun w_2 hb a H HP => ?_
 refine znl (ztn ?_)
 refine w_ift H rfl ?_
 refine zsq (zrg ?_)
 refine H.ge HP [(4, (ii 0))] [] fun a H => ?_
 refine ztn (zrt (zibr (ztr (ztr (zibr (ztr ?_))))))
 refine H.r1 (ii 0) Tryz.results91 ?_
 exact ⟨rfl, HP.bl⟩
theorem at_5 (be : Nat) (w : World) (hev : Box w be 100 [(ii 1), (ii 7), (ii 5), (ii 2), (ii 0), (ii 3), (.slice none 0 0)].toArray) :
  Calls Tryz.prog 57 #[(.slice (some ⟨be, 0, none⟩) 1 1), .int .i64 5] w fun e w' => e = .returned (.tuple #[(.agg #[(ii 1), (ii 7), (ii 5), (ii 2), (ii 0), (ii 3), (.slice none 0 0)]), .int .i64 0, .bool true]) ∧ Below w.heap.size w w' := by
 have HP := ((Hp.start w).keepF (boxK be 100 [(ii 1), (ii 7), (ii 5), (ii 2), (ii 0), (ii 3), (.slice none 0 0)]) hev (boxK_ok _ _ _) (fun k hk => ⟨boxK_lt hev hk, fun x hx => by cases hx⟩))
 refine w_enter 33 [(0, (.slice (some ⟨be, 0, none⟩) 1 1)), (1, (ii 5))] Tryz.func57 rfl Tryz.ntmps57 (by kernel_rfl) (by kernel_rfl) fun a H => ?_
 refine zsq (zrg ?_)
 refine H.al HP 3 3 [(ii 5)] fun b_1 w_2 a H HP => H.al HP 4 100 [(ii 0), (ii 0), (ii 0), (ii 0), (ii 0), (ii 0), (.slice none 0 0)] fun b_3 w_4 a H HP => ?_
 refine H.ge HP [(5, (ii 0)), (6, (.bool false))] [] fun a H => ?_
 refine ztn (zsq (zrg ?_))
 refine H.ge HP [(7, (.func (.func 90) #[] #[(pt b_1 0)]))] [] fun a H => ?_
 refine ztn (zsq (zrg ?_))
 refine H.go HP 2 [(11, (.slice (some ⟨be, 0, none⟩) 1 1)), (12, (.func (.func 90) #[] #[(pt b_1 0)]))] [] fun a H => H.cb HP 13 (Tryz.call91 _ _) (atIx_5 be b_1 w_4 (HP.at_ 1 rfl) (HP.fact 0 rfl)) fun w_5 hb a H HP => ?_
 refine H.ge HP [(8, (ii 0))] [] fun a H => ?_
 refine ztn (zsq (zsq (zrg ?_)))
 refine H.ge HP [(15, (.bool false))] [] fun a H => ?_
 refine ztn ?_
 refine w_iff H rfl ?_
 refine zsk (ztn (zsq (zrg ?_)))
 refine H.go HP 2 [(17, (.slice (some ⟨be, 0, none⟩) 1 1)), (18, (ii 0))] [] fun a H => H.v 19 (pt be 0) fun a H => H.u 20 (.agg #[(ii 1), (ii 7), (ii 5), (ii 2), (ii 0), (ii 3), (.slice none 0 0)]) (ex_lN [(ii 1), (ii 7), (ii 5), (ii 2), (ii 0), (ii 3), (.slice none 0 0)] (boxCells (HP.fact 0 rfl : Box _ be 100 _))) fun a H => H.al HP 9 100 [(ii 0), (ii 0), (ii 0), (ii 0), (ii 0), (ii 0), (.slice none 0 0)] fun b_6 w_7 a H HP => H.sh HP 0 0 (.agg #[(ii 1), (ii 7), (ii 5), (ii 2), (ii 0), (ii 3), (.slice none 0 0)]) rfl fun w_8 a H HP => ?_
 refine znl (ztn (zsq (zrg ?_)))
 refine H.go HP 2 [(22, (.slice none 0 0))] [0] fun a H => H.cb HP 23 (Tryz.call92 _ _) (clone0_any w_8) fun w_9 hb a H HP => H.go HP 1 [(24, (pt b_6 6))] [] fun a H => H.sh HP 0 6 (.slice none 0 0) rfl fun w_10 a H HP => ?_
 refine znl (ztn (zsq ?_))
 have HP := HP.front 1 rfl _ rfl
 refine An.start (fun v => Hp w v [bx b_6 100 [(ii 1), (ii 7), (ii 5), (ii 2), (ii 0), (ii 3), (.slice none 0 0)] true, bx b_1 3 [(ii 5)] true] [boxK be 100 [(ii 1), (ii 7), (ii 5), (ii 2), (ii 0), (ii 3), (.slice none 0 0)]]) 11 11 HP wide_follows rfl fun w_11 HP => ?_
 refine An.go H (.inr ((HP.tail rfl))) 7 [0, 1, 2, 3] [(25, (.agg #[(ii 1), (ii 7), (ii 5), (ii 2), (ii 0), (ii 3), (.slice none 0 0)])), (27, (ii 0)), (28, (ii 5))] [0, 0, 1] fun a H => ?_
 refine An.pureE H (.inr ((HP.tail rfl))) 4 29 (ii (IntKind.i64.wrap (0 + 5))) (ii 5) rfl (by kernel_rfl) (by kernel_rfl) (fun _ _ _ h => h) (fun _ => by kernel_rfl) (by kernel_rfl) fun a H => ?_
 refine An.go H (.inr ((HP.tail rfl))) 4 [5, 6] [(31, (ii 5))] [0] fun a H => ?_
 refine An.pureE H (.inr ((HP.tail rfl))) 7 32 (ii (IntKind.i64.wrap (5 - 5))) (ii 0) rfl (by kernel_rfl) (by kernel_rfl) (fun _ _ _ h => h) (fun _ => by kernel_rfl) (by kernel_rfl) fun a H => ?_
 refine An.one 8 (by kernel_rfl) ?_
 refine Op.sh H HP 0 0 (.agg #[(ii 1), (ii 7), (ii 5), (ii 2), (ii 0), (ii 3), (.slice none 0 0)]) rfl rfl fun w_12 a H HP => ?_
 refine ⟨.inr ((HP.tail rfl)), ?_⟩
 refine An.go H (.inr ((HP.tail rfl))) 0 [9, 10] [(5, (ii 0)), (6, (.bool true))] [] fun a H => ?_
 refine An.done (by kernel_rfl) ?_
 refine ztn (zrt ?_)
 refine H.ret3 (fn := Tryz.f57) Tryz.results57 (RV.cellN (vs := [(ii 1), (ii 7), (ii 5), (ii 2), (ii 0), (ii 3), (.slice none 0 0)]) (b := b_3) (off := 0) (k := 7) (by kernel_rfl) (by kernel_rfl) (by kernel_rfl) rfl (HP.cells 0 rfl 0 7 (by kernel_rfl))) (RV.tmp_ (v := (ii 0)) (by kernel_rfl)) (RV.tmp_ (v := (.bool true)) (by kernel_rfl)) ?_
 exact ⟨rfl, HP.bl⟩
theorem at1_6 (bf : Nat) (w : World) (hbf : Box w bf 3 [(ii 6)].toArray) :
  Calls Tryz.prog 90 #[(.agg #[(ii 1), (ii 7), (ii 5), (ii 2), (ii 0), (ii 3), (.slice none 0 0)]), (pt bf 0)] w fun e w' => e = .returned (.bool true) ∧ Below w.heap.size w w' := by
 have HP := ((Hp.start w).keepF (boxK bf 3 [(ii 6)]) hbf (boxK_ok _ _ _) (fun k hk => ⟨boxK_lt hbf hk, fun x hx => by cases hx⟩))
 refine w_enter 25 [(0, (.agg #[(ii 1), (ii 7), (ii 5), (ii 2), (ii 0), (ii 3), (.slice none 0 0)])), (1, (pt bf 0))] Tryz.func90 rfl Tryz.ntmps90 (by kernel_rfl) (by kernel_rfl) fun a H => ?_
 refine zsq (zrg ?_)
 refine H.al HP 2 100 [(ii 1), (ii 7), (ii 5), (ii 2), (ii 0), (ii 3), (.slice none 0 0)] fun b_1 w_2 a H HP => ?_
 refine H.ge HP [(3, (.bool false))] [] fun a H => ?_
 refine ztn (zsq (zrg ?_))
 refine H.go HP 2 [(4, (pt b_1 2)), (5, (ii 5))] [0] fun a H => H.u 6 (ii 6) (ex_l1 (Box.cell (i := 0) (HP.fact 0 rfl : Box _ bf 3 _) rfl)) fun a H => H.go HP 7 [(13, (.bool true))] [0] fun a H => H.u 14 (ii 6) (ex_l1 (Box.cell (i := 0) (HP.fact 0 rfl : Box _ bf 3 _) rfl)) fun a H => H.valE 15 (.int .u64 (IntKind.u64.wrap 6)) (.int .u64 6) (by kernel_rfl) (by kernel_rfl) (by kernel_rfl) fun a H => H.go HP 2 [(17, (ii 5))] [0] fun a H => H.valE 18 (.int .u64 (IntKind.u64.wrap 5)) (.int .u64 5) (by kernel_rfl) (by kernel_rfl) (by kernel_rfl) fun a H => H.valE 19 (.int .u64 (IntKind.u64.wrap (6 - 5))) (.int .u64 1) (by kernel_rfl) (by kernel_rfl) (by kernel_rfl) fun a H => H.go HP 2 [(21, (ii 2))] [0] fun a H => H.valE 22 (.int .u64 (IntKind.u64.wrap 2)) (.int .u64 2) (by kernel_rfl) (by kernel_rfl) (by kernel_rfl) fun a H => ?_
 refine H.ge HP [(3, (.bool true))] [] fun a H => ?_
 refine ztn (zrt ?_)
 refine H.r1 (.bool true) Tryz.results90 ?_
 exact ⟨rfl, HP.bl⟩
theorem atIx_6 (be bf : Nat) (w : World) (hbf : Box w bf 3 [(ii 6)].toArray) (hev : Box w be 100 [(ii 1), (ii 7), (ii 5), (ii 2), (ii 0), (ii 3), (.slice none 0 0)].toArray) :
  Calls Tryz.prog 91 #[(.slice (some ⟨be, 0, none⟩) 1 1), (.func (.func 90) #[] #[(pt bf 0)])] w fun e w' => e = .returned (ii 0) ∧ Below w.heap.size w w' := by
 have HP := (((Hp.start w).keepF (boxK be 100 [(ii 1), (ii 7), (ii 5), (ii 2), (ii 0), (ii 3), (.slice none 0 0)]) hev (boxK_ok _ _ _) (fun k hk => ⟨boxK_lt hev hk, fun x hx => by cases hx⟩)).keepF (boxK bf 3 [(ii 6)]) hbf (boxK_ok _ _ _) (fun k hk => ⟨boxK_lt hbf hk, fun x hx => by cases hx⟩))
 refine w_enter 19 [(0, (.slice (some ⟨be, 0, none⟩) 1 1)), (1, (.func (.func 90) #[] #[(pt bf 0)]))] Tryz.func91 rfl Tryz.ntmps91 (by kernel_rfl) (by kernel_rfl) fun a H => ?_
 refine zsq (zrg ?_)
 refine H.ge HP [(4, (ii 0))] [] fun a H => ?_
 refine ztn (zsq (zsq (zrg ?_)))
 refine H.ge HP [(6, (.slice (some ⟨be, 0, none⟩) 1 1)), (7, (ii 1)), (8, (ii 0))] [] fun a H => ?_
 refine ztn (zbk ?_)
 refine w_loop (fun mm a wv => 0 = mm ∧ Sl 19 [(6, (.slice (some ⟨be, 0, none⟩) 1 1)), (7, (ii 1)), (8, (ii 0)), (4, (ii 0)), (0, (.slice (some ⟨be, 0, none⟩) 1 1)), (1, (.func (.func 90) #[] #[(pt bf 0)]))] a ∧ Hp w wv [] [boxK bf 3 [(ii 6)], boxK be 100 [(ii 1), (ii 7), (ii 5), (ii 2), (ii 0), (ii 3), (.slice none 0 0)]]) (0) ?_ ?_
 ·exact ⟨(by omega), H.keep (by kernel_rfl), HP⟩
 rintro mm a w_1 ⟨hmeas, H, HP⟩
 refine zsq (zrg ?_)
 refine H.ge HP [(9, (.bool true))] [] fun a H => ?_
 refine ztn (zsq ?_)
 refine w_ift H rfl ?_
 refine zsk (ztn (zsq (zbk (zsq (zrg ?_)))))
 refine H.ge HP [(5, (ii 0))] [] fun a H => ?_
 refine ztn (zsq (zrg ?_))
 refine H.go HP 3 [(11, (.func (.func 90) #[] #[(pt bf 0)])), (12, (.slice (some ⟨be, 0, none⟩) 1 1)), (13, (ii 0))] [] fun a H => H.v 14 (pt be 0) fun a H => H.u 15 (.agg #[(ii 1), (ii 7), (ii 5), (ii 2), (ii 0), (ii 3), (.slice none 0 0)]) (ex_lN [(ii 1), (ii 7), (ii 5), (ii 2), (ii 0), (ii 3), (.slice none 0 0)] (boxCells (HP.fact 1 rfl : Box _ be 100 _))) fun a H => H.cb HP 16 (Tryz.call90 _ _) (at1_6 bf w_1 (HP.fact 0 rfl)) fun w_2 hb a H HP => ?_
 refine znl (ztn ?_)
 refine w_ift H rfl ?_
 refine zsq (zrg ?_)
 refine H.ge HP [(4, (ii 0))] [] fun a H => ?_
 refine ztn (zrt (zibr (ztr (ztr (zibr (ztr ?_))))))
 refine H.r1 (ii 0) Tryz.results91 ?_
 exact ⟨rfl, HP.bl⟩
theorem at_6 (be : Nat) (w : World) (hev : Box w be 100 [(ii 1), (ii 7), (ii 5), (ii 2), (ii 0), (ii 3), (.slice none 0 0)].toArray) :
  Calls Tryz.prog 57 #[(.slice (some ⟨be, 0, none⟩) 1 1), .int .i64 6] w fun e w' => e = .returned (.tuple #[(.agg #[(ii 1), (ii 7), (ii 5), (ii 2), (ii 0), (ii 3), (.slice none 0 0)]), .int .i64 1, .bool true]) ∧ Below w.heap.size w w' := by
 have HP := ((Hp.start w).keepF (boxK be 100 [(ii 1), (ii 7), (ii 5), (ii 2), (ii 0), (ii 3), (.slice none 0 0)]) hev (boxK_ok _ _ _) (fun k hk => ⟨boxK_lt hev hk, fun x hx => by cases hx⟩))
 refine w_enter 33 [(0, (.slice (some ⟨be, 0, none⟩) 1 1)), (1, (ii 6))] Tryz.func57 rfl Tryz.ntmps57 (by kernel_rfl) (by kernel_rfl) fun a H => ?_
 refine zsq (zrg ?_)
 refine H.al HP 3 3 [(ii 6)] fun b_1 w_2 a H HP => H.al HP 4 100 [(ii 0), (ii 0), (ii 0), (ii 0), (ii 0), (ii 0), (.slice none 0 0)] fun b_3 w_4 a H HP => ?_
 refine H.ge HP [(5, (ii 0)), (6, (.bool false))] [] fun a H => ?_
 refine ztn (zsq (zrg ?_))
 refine H.ge HP [(7, (.func (.func 90) #[] #[(pt b_1 0)]))] [] fun a H => ?_
 refine ztn (zsq (zrg ?_))
 refine H.go HP 2 [(11, (.slice (some ⟨be, 0, none⟩) 1 1)), (12, (.func (.func 90) #[] #[(pt b_1 0)]))] [] fun a H => H.cb HP 13 (Tryz.call91 _ _) (atIx_6 be b_1 w_4 (HP.at_ 1 rfl) (HP.fact 0 rfl)) fun w_5 hb a H HP => ?_
 refine H.ge HP [(8, (ii 0))] [] fun a H => ?_
 refine ztn (zsq (zsq (zrg ?_)))
 refine H.ge HP [(15, (.bool false))] [] fun a H => ?_
 refine ztn ?_
 refine w_iff H rfl ?_
 refine zsk (ztn (zsq (zrg ?_)))
 refine H.go HP 2 [(17, (.slice (some ⟨be, 0, none⟩) 1 1)), (18, (ii 0))] [] fun a H => H.v 19 (pt be 0) fun a H => H.u 20 (.agg #[(ii 1), (ii 7), (ii 5), (ii 2), (ii 0), (ii 3), (.slice none 0 0)]) (ex_lN [(ii 1), (ii 7), (ii 5), (ii 2), (ii 0), (ii 3), (.slice none 0 0)] (boxCells (HP.fact 0 rfl : Box _ be 100 _))) fun a H => H.al HP 9 100 [(ii 0), (ii 0), (ii 0), (ii 0), (ii 0), (ii 0), (.slice none 0 0)] fun b_6 w_7 a H HP => H.sh HP 0 0 (.agg #[(ii 1), (ii 7), (ii 5), (ii 2), (ii 0), (ii 3), (.slice none 0 0)]) rfl fun w_8 a H HP => ?_
 refine znl (ztn (zsq (zrg ?_)))
 refine H.go HP 2 [(22, (.slice none 0 0))] [0] fun a H => H.cb HP 23 (Tryz.call92 _ _) (clone0_any w_8) fun w_9 hb a H HP => H.go HP 1 [(24, (pt b_6 6))] [] fun a H => H.sh HP 0 6 (.slice none 0 0) rfl fun w_10 a H HP => ?_
 refine znl (ztn (zsq ?_))
 have HP := HP.front 1 rfl _ rfl
 refine An.start (fun v => Hp w v [bx b_6 100 [(ii 1), (ii 7), (ii 5), (ii 2), (ii 0), (ii 3), (.slice none 0 0)] true, bx b_1 3 [(ii 6)] true] [boxK be 100 [(ii 1), (ii 7), (ii 5), (ii 2), (ii 0), (ii 3), (.slice none 0 0)]]) 11 11 HP wide_follows rfl fun w_11 HP => ?_
 refine An.go H (.inr ((HP.tail rfl))) 7 [0, 1, 2, 3] [(25, (.agg #[(ii 1), (ii 7), (ii 5), (ii 2), (ii 0), (ii 3), (.slice none 0 0)])), (27, (ii 0)), (28, (ii 6))] [0, 0, 1] fun a H => ?_
 refine An.pureE H (.inr ((HP.tail rfl))) 4 29 (ii (IntKind.i64.wrap (0 + 6))) (ii 6) rfl (by kernel_rfl) (by kernel_rfl) (fun _ _ _ h => h) (fun _ => by kernel_rfl) (by kernel_rfl) fun a H => ?_
 refine An.go H (.inr ((HP.tail rfl))) 4 [5, 6] [(31, (ii 5))] [0] fun a H => ?_
 refine An.pureE H (.inr ((HP.tail rfl))) 7 32 (ii (IntKind.i64.wrap (6 - 5))) (ii 1) rfl (by kernel_rfl) (by kernel_rfl) (fun _ _ _ h => h) (fun _ => by kernel_rfl) (by kernel_rfl) fun a H => ?_
 refine An.one 8 (by kernel_rfl) ?_
 refine Op.sh H HP 0 0 (.agg #[(ii 1), (ii 7), (ii 5), (ii 2), (ii 0), (ii 3), (.slice none 0 0)]) rfl rfl fun w_12 a H HP => ?_
 refine ⟨.inr ((HP.tail rfl)), ?_⟩
 refine An.go H (.inr ((HP.tail rfl))) 0 [9, 10] [(5, (ii 1)), (6, (.bool true))] [] fun a H => ?_
 refine An.done (by kernel_rfl) ?_
 refine ztn (zrt ?_)
 refine H.ret3 (fn := Tryz.f57) Tryz.results57 (RV.cellN (vs := [(ii 1), (ii 7), (ii 5), (ii 2), (ii 0), (ii 3), (.slice none 0 0)]) (b := b_3) (off := 0) (k := 7) (by kernel_rfl) (by kernel_rfl) (by kernel_rfl) rfl (HP.cells 0 rfl 0 7 (by kernel_rfl))) (RV.tmp_ (v := (ii 1)) (by kernel_rfl)) (RV.tmp_ (v := (.bool true)) (by kernel_rfl)) ?_
 exact ⟨rfl, HP.bl⟩
abbrev powersP (l : List PicA) : List Int := l.map fun p => p.power
set_option maxRecDepth 100000 in
theorem powers1_any (p : PicA) (w : World) :
    Calls Tryz.prog 183 #[p.val] w fun e w' => e = .returned (.int .i64 p.power) ∧ Below w.heap.size w w' := by
  obtain ⟨k, S, pw⟩ := p
  have b0 := Lib.hid (balloc w (.cells #[.bool k, .string S, .int .i64 pw] 96))
  go_enter Tryz.func183, Tryz.ntmps183
  go_wp2_with fail
  go_ret
  exact ⟨rfl, b0.out⟩
set_option maxRecDepth 100000 in
set_option maxHeartbeats 2000000 in
theorem pcolumn_any (A : Option Addr) (n c : Nat) (l : List PicA) (w : World) (h : IsPics w A n l) (hm : n ≤ 2000000) :
    Calls Tryz.prog 54 #[.slice A n c, .func (.func 183) #[] #[]] w fun e w' => RetInts (powersP l) w e w' := by
  have H := Lib.hid h
  have hl := h.1
  clear h
  obtain ⟨i0, hi0, hz0, hz1, hz2⟩ := infoInt'
  obtain ⟨w0, hr0, ho0, hg0⟩ := run_make_own (P := Tryz.prog) w w.heap.size 22 3 i0 (.int .i64 0) 1 Tryz.underlying22 hi0 hz0 hz1 .i64 .i64 n (by rw [hz2]; omega) (by unfold maxLen; omega) (Nat.le_refl _)
  have b0 := Lib.hid ((Below.refl w.heap.size w).grown hg0 (Nat.le_refl _) (fun k e => by cases e))
  have o0 := Lib.hid ho0
  clear ho0 hg0
  go_enter Tryz.func54, Tryz.ntmps54
  go_wp2_with fail
  go_loopw [5, 13] (fun s i wr => ∃ (k : Nat) (B : Option Addr) (d : Nat), k ≤ n ∧ i = .int .i64 k ∧ s = .slice B k d ∧ wr.ownsRow w.heap.size 3 1 (.slice B k d) k (ints (powersP (l.take k))) ∧ Below w.heap.size w wr) (fun _ i _ => n - (intOf i).toNat)
  case atStart => exact ⟨0, _, n, Nat.zero_le _, rfl, rfl, o0.out, b0.out⟩
  case round =>
    obtain ⟨k, B, d, hk, rfl, rfl, hown, hB⟩ := hrel
    have HO := Lib.hid hown
    clear hown
    by_cases hlt : k < n
    · obtain ⟨b, off, rfl, hbl, p0, p1, p2⟩ := IsPics.get (IsRw.below H.out hB) hlt
      have HT : Hid (ints (powersP (l.take (k + 1))) = ints (powersP (l.take k)) ++ ints [(l.getD k picZ).power]) := Lib.hid (by rw [take_at (d := picZ) (by omega)]; simp)
      generalize l.getD k picZ = p at *
      obtain ⟨ky, S, pw⟩ := p
      simp only at p0 p1 p2 HT
      obtain ⟨wa, hwa⟩ : ∃ wa, wr.alloc (.cells #[.bool ky, .string S, .int .i64 pw] 96) = wa := ⟨_, rfl⟩
      have hxa : Box wa wr.heap.size 96 #[.bool ky, .string S, .int .i64 pw] := by rw [← hwa]; exact Box.new _ _ _
      have hba : Below wr.heap.size wr wa := by rw [← hwa]; exact balloc _ _
      have a0 := hxa.cell (i := 0) rfl
      have a1 := hxa.cell (i := 1) rfl
      have a2 := hxa.cell (i := 2) rfl
      have HBA := Lib.hid hba
      clear hxa hba
      go_wp2_with (first
        | (go_at_call 183; refine (powers1_any ⟨ky, S, pw⟩ _).mono ?_; rintro e w2 ⟨rfl, b2⟩; have HB2 := Lib.hid (bnext hB (bnext HBA.out b2)); have HO2 := Lib.hid (own_below HO.out (bnext HBA.out b2)); have HN : Hid (Rd (w2.alloc (Obj.cells #[.int .i64 pw] 3)) 1 (some ⟨w2.heap.size, 0, none⟩) 1 (ints [pw])) := Lib.hid (ofInts (isInts_new w2 3 [pw] (by simp [maxLen]))); have HOa := Lib.hid (HO2.out.alloc (Obj.cells #[.int .i64 pw] 3)); have HBa := Lib.hid (HB2.out.alloc HB2.out.size (Obj.cells #[.int .i64 pw] 3)); clear b2)
        | (at_builtin; refine wpList_append_rd (w2.alloc (Obj.cells #[.int .i64 pw] 3)) rfl (.tmp 17) (.tmp 21) 22 rfl w.heap.size 3 i0 (.int .i64 0) 1 8 Tryz.underlying22 hi0 hz0 hz1 hz2 rfl (by decide) (.slice B k d) k (ints (powersP (l.take k))) rfl HOa.out _ 1 _ (ints [pw]) rfl (fun e => by cases e) HN.out (ints_ones _) (by unfold maxLen; omega) (by omega) HBa.out.size ?_; intro B1 c1 w4 hown1 hgrow1 hat1; have Hb1 := Lib.hid (HBa.out.grown hgrow1 HBa.out.size (own_ge HOa.out)); have Hown1 := Lib.hid hown1; clear hown1 hgrow1 hat1))
      go_roundw
      case rel => exact ⟨k + 1, B1, c1, by omega, by go_num, rfl, by rw [HT.out]; exact Hown1.out, Hb1.out⟩
      case measure => simp [intOf]; omega
    · obtain rfl : k = n := by omega
      go_wp2_with fail
      go_ret
      have ht : l.take k = l := List.take_of_length_le (by omega)
      have ho := HO.out
      rw [ht] at ho
      have f := own_facts ho
      have hll : (powersP l).length = k := by simp [hl]
      unfold RetInts
      rw [hll]
      exact ⟨B, d, rfl, toInts (Rd.of_own ho), f.1, f.2.1, f.2.2, hB⟩
set_option maxRecDepth 100000 in
theorem mpowers_any (it : Int) (A : Option Addr) (n c : Nat) (l : List PicA) (w : World) (h : IsPics w A n l) (hm : n ≤ 2000000) :
    Calls Tryz.prog 147 #[.agg #[.int .i64 it, .slice A n c]] w fun e w' => RetInts (powersP l) w e w' := by
  have b0 := Lib.hid (balloc w (.cells #[.int .i64 it, .slice A n c] 91))
  have H := Lib.hid (IsRw.below h b0.out)
  clear h
  go_enter Tryz.func147, Tryz.ntmps147
  go_wp2_with fail
  refine (pcolumn_any A n c l _ H.out hm).mono ?_
  rintro e w1 ⟨B, d, rfl, h1, h2, h3, h4, b2⟩
  go_wp2_with fail
  go_ret
  exact ⟨B, d, by simp, h1, h2, h3, h4, bnext b0.out b2⟩
section
variable {F : Fence} {P : Program} {n : Nat}
theorem wpIn_range0 {g : Operand} {ps : Array Tmp} {assign body : Code} {Q : Exit → Act → World → Prop} {a : Act} {w : World}
    (hro : F.round = none) (h1 : 1 ≤ n) {gf : Nat} {lb : Array Value} (hg : a.eval g = .func (.func gf) #[] lb) (hFg : F.fn gf) (eg : ∀ args w, (callFunc gf args).run P w = .ok (.enter gf args) w)
    (hseq : ∀ (l : Nat) (W : World), Below w.heap.size w W → CallsIn F (n - 1) P gf (#[.func (.yield l) #[] #[]] ++ lb) W fun e W' => (∃ v, e = .returned v) ∧ Below W.heap.size W W')
    (hdone : ∀ (D : Nat) (W : World), w.heap.size ≤ D → Below w.heap.size w W → W.heap[D]? = some (.deferred (some [])) → Q .normal { a with defers := { target := .collected D, args := #[] } :: a.defers } W) :
    (Code.rangeFunc g ps assign body).wpIn F n P Q a w :=
  wpIn_rangeO (α := Empty) hro h1 hg hFg eg (encs := fun x => x.elim) (Kp := fun _ _ => True) (S := fun _ => True) (Sp := fun _ => False) (N := 0)
    (fun l J Jx W hW _ hJ hJx hY h0 => (hseq l W hW).mono fun e W' h => ⟨h.1, .inl ⟨[], trivial, OwnFrom.below hJ h0 h.2⟩⟩)
    (fun _ _ => trivial) (fun _ _ _ _ _ _ _ _ _ => trivial) (fun x => x.elim) (fun _ W => Below w.heap.size w W) (fun _ _ _ => False) (ownFrom_below (Nat.le_refl _) (Nat.le_refl _)) (fun c => ownFrom_pure _ _) (Below.refl _ _)
    (fun x => x.elim) (fun x => x.elim) (fun l pre x => x.elim) (fun l pre x => x.elim) (fun D xs W hD _ hb hd => hdone D W hD hb hd) (fun D c pre W hD h => h.elim)
end
def rd1 (B : Nat) (I1 : World → Prop) (IX : Code → World → Prop) (W : World) : Exit → Act → World → Prop
  | .normal, _, W' => KeepsFrom B W W' ∧ I1 W'
  | .ret, _, W' => KeepsFrom B W W' ∧ IX .ret W'
  | .exit id, _, W' => KeepsFrom B W W' ∧ IX (.exit id) W'
  | .goto t, _, W' => KeepsFrom B W W' ∧ IX (.goto t) W'
  | _, _, _ => False
def I01 (w : World) (I1 : World → Prop) : List Unit → World → Prop
  | [], W => Below w.heap.size w W
  | _ :: _, W => I1 W
theorem I01_own {w : World} {I1 : World → Prop} (h : OwnFrom w.heap.size (fun (_ : Unit) W => I1 W)) : OwnFrom w.heap.size (I01 w I1) := fun s X Y row hs hg hr => by
  cases s with
  | nil => exact ownFrom_below (β := Unit) (Nat.le_refl _) (Nat.le_refl _) () X Y row hs hg hr
  | cons a l => exact h () X Y row hs hg hr
section
variable {F : Fence} {P : Program} {n : Nat}
theorem wpIn_range1 {g : Operand} {ps : Array Tmp} {assign body : Code} {Q : Exit → Act → World → Prop} {a : Act} {w : World}
    (hro : F.round = none) (h1 : 1 ≤ n) {gf : Nat} {lb : Array Value} (hg : a.eval g = .func (.func gf) #[] lb) (hFg : F.fn gf) (eg : ∀ args w, (callFunc gf args).run P w = .ok (.enter gf args) w)
    {xs : Array Value} (hseq : SeqO F (n - 1) P gf lb (fun _ : Unit => xs) (fun _ _ => True) (fun ys => ys = [()]) (fun _ => True) 1 w) (hps : xs.size = ps.size)
    (I1 : World → Prop) (IX : Code → World → Prop) (hI1 : OwnFrom w.heap.size (fun (_ : Unit) W => I1 W)) (hIX : ∀ c, OwnFrom w.heap.size (fun (_ : Unit) W => IX c W)) (Ax : Act → World → Prop) (hAx : ∀ a', OwnFrom w.heap.size (fun (_ : Unit) W => Ax a' W))
    (hassign : ∀ (l : Nat) (W : World) (K : Act → World → Prop), (∀ a' W', Below W.heap.size W W' → Ax a' W' → K a' W') →
      assign.wpIn (F.inRound l) (n - 1 - 1) P (Exit.then K (fun _ _ _ => False)) { tmps := (ps.zip xs).foldl (fun t (p, v) => t.setIfInBounds p v) a.tmps, defers := [] } W)
    (hbody : ∀ (l : Nat) (a' : Act) (W : World), Below w.heap.size w W → Ax a' W → body.wpIn (F.inRound l) (n - 1 - 1) P (rd1 w.heap.size I1 IX W) a' W)
    (hdone : ∀ (D : Nat) (W : World), w.heap.size ≤ D → I1 W → W.heap[D]? = some (.deferred (some [])) → Q .normal { a with defers := { target := .collected D, args := #[] } :: a.defers } W)
    (hstop : ∀ (D : Nat) (c : Code) (W : World), w.heap.size ≤ D → IX c W → W.heap[D]? = some (.deferred (some [])) → c.wpIn F n P Q { a with defers := { target := .collected D, args := #[] } :: a.defers } W) :
    (Code.rangeFunc g ps assign body).wpIn F n P Q a w :=
  wpIn_rangeO (α := Unit) hro h1 hg hFg eg hseq (fun _ _ => trivial) (fun _ _ _ _ _ _ _ _ _ => trivial) (fun _ => hps) (I01 w I1) (fun c _ W => IX c W) (I01_own hI1) (fun c => fun s => hIX c ()) (Below.refl _ _) (fun _ a' W => Ax a' W) (fun _ a' => hAx a')
    (fun l pre x W K hI hK => hassign l W K fun a' W' hb ha => hK a' W' (keepsFrom_below hb) trivial (OwnFrom.below (I01_own hI1) hI hb) ha)
    (fun l pre x a' W hI ha hl => by
      cases pre with
      | cons y l => exact absurd hl (by simp)
      | nil =>
        refine Code.wpIn_mono ?_ (hbody l a' W hI ha)
        intro e a2 W2 h
        cases e <;> first | exact ⟨h.1, trivial, h.2⟩ | exact h.elim | exact h)
    (fun D xs W hD hx hI hd => by cases hx; exact hdone D W hD hI hd) (fun D c pre W hD _ hI hd => hstop D c W hD hI hd)
end
section
variable {P : Program} {fn : Func} {n : Nat} {L : List (Nat × Value)} {a : Act} {R : Ending → World → Prop} {w : World}
theorem Sl.ret1D (H : Sl n L a) {r : ResultVar} {v : Value} {D : Nat} (hk : w.heap[D]? = some (.deferred (some []))) (hr : fn.results = #[r]) (h : RV P (w.putObj D (.deferred none)) L r v) (hR : R (.returned v) (w.putObj D (.deferred none))) :
    bodyPostM Fence.wide 20 P fn R .ret (moreD [{ target := .collected D, args := #[] }] a) w := by
  show LeavesInM Fence.wide 20 P fn a.tmps R (a.defers ++ [{ target := .collected D, args := #[] }]) .returning w
  rw [H.defers]
  refine ⟨by simp, .inl ⟨D, _, rfl, run_takeDeferred hk, ?_⟩⟩
  refine ⟨_, ?_, hR⟩
  rw [results_of, hr]
  simp [h.run H]
theorem Sl.ret1DD (H : Sl n L a) {r : ResultVar} {v : Value} {D E : Nat} (hE : w.heap[E]? = some (.deferred (some []))) (hk : w.heap[D]? = some (.deferred (some []))) (hne : D ≠ E) (hr : fn.results = #[r]) (h : RV P ((w.putObj E (.deferred none)).putObj D (.deferred none)) L r v) (hR : R (.returned v) ((w.putObj E (.deferred none)).putObj D (.deferred none))) :
    bodyPostM Fence.wide 20 P fn R .ret (moreD [{ target := .collected E, args := #[] }, { target := .collected D, args := #[] }] a) w := by
  show LeavesInM Fence.wide 20 P fn a.tmps R (a.defers ++ [{ target := .collected E, args := #[] }, { target := .collected D, args := #[] }]) .returning w
  rw [H.defers]
  refine ⟨by simp, .inl ⟨E, _, rfl, run_takeDeferred hE, ?_⟩⟩
  refine ⟨by simp, .inl ⟨D, _, rfl, run_takeDeferred ((World.putObj_heap_other hne).trans hk), ?_⟩⟩
  refine ⟨_, ?_, hR⟩
  rw [results_of, hr]
  simp [h.run H]
theorem Sl.ret0D (H : Sl n L a) {D : Nat} (hk : w.heap[D]? = some (.deferred (some []))) (hr : fn.results = #[]) (hR : R (.returned (.tuple #[])) (w.putObj D (.deferred none))) :
    bodyPostM Fence.wide 20 P fn R .normal (moreD [{ target := .collected D, args := #[] }] a) w := by
  show LeavesInM Fence.wide 20 P fn a.tmps R (a.defers ++ [{ target := .collected D, args := #[] }]) .returning w
  rw [H.defers]
  refine ⟨by simp, .inl ⟨D, _, rfl, run_takeDeferred hk, ?_⟩⟩
  refine ⟨_, ?_, hR⟩
  rw [results_of, hr]
  simp
theorem Sl.assigned2 (H : Sl n L a) (p q : Nat) (x y : Value) (hp : Nat.blt p n = true) (hq : Nat.blt q n = true) : Sl n ((q, y) :: (p, x) :: L) { tmps := ((#[p, q] : Array Tmp).zip #[x, y]).foldl (fun t (p, v) => t.setIfInBounds p v) a.tmps, defers := [] } := by
  have := (H.put x hp).put y hq
  refine ⟨rfl, ?_, ?_⟩
  · have := this.size
    simpa [Act.put] using this
  · have := this.get
    simpa [Act.put] using this
end
theorem audible_any (ZA : Option Addr) (zc : Nat) (zs : List Int) (w : World) :
  Calls Tryz.prog 201 #[(.slice ZA zs.length zc)] w fun e w' => ∃ b, e = .returned (.func (.func 209) #[] #[.pointer (some ⟨b, 0, none⟩)]) ∧ Box w' b 22 [(.slice ZA zs.length zc)].toArray ∧ Below w.heap.size w w' := by
 have HP := Hp.start w
 refine w_enter 4 [(0, (.slice ZA zs.length zc))] Tryz.func201 rfl Tryz.ntmps201 (by kernel_rfl) (by kernel_rfl) fun a H => ?_
 refine zsq (zrg ?_)
 refine H.al HP 1 22 [(.slice ZA zs.length zc)] fun b_1 w_2 a H HP => ?_
 refine H.ge HP [(2, .nilFunc)] [] fun a H => ?_
 refine ztn (zsq (zrg ?_))
 refine H.ge HP [(3, (.func (.func 209) #[] #[(pt b_1 0)])), (2, (.func (.func 209) #[] #[(pt b_1 0)]))] [] fun a H => ?_
 refine ztn (zrt ?_)
 refine H.r1 (.func (.func 209) #[] #[(pt b_1 0)]) Tryz.results201 ?_
 exact ⟨b_1, rfl, HP.at_ 0 rfl, HP.bl⟩
theorem audible1_any (l bz : Nat) (ZA : Option Addr) (zc : Nat) (zs : List Int) (w : World) (hz : ∀ z ∈ zs, z = 0) (hzl : zs.length ≤ 1000000) (hbz : Box w bz 22 [(.slice ZA zs.length zc)].toArray) (hzr : IsRow 1 i1C w ZA zs) :
  Calls Tryz.prog 209 #[(.func (.yield l) #[] #[]), (pt bz 0)] w fun e w' => (∃ v, e = .returned v) ∧ Below w.heap.size w w' := by
 have HP := (((Hp.start w).keepF (rowF 1 i1C ZA zs) hzr (rowF_ok _ _ _ _) (fun k hk => ⟨hzr.lt k hk, fun x hx => by cases hx⟩)).keepF (boxK bz 22 [(.slice ZA zs.length zc)]) hbz (boxK_ok _ _ _) (fun k hk => ⟨boxK_lt hbz hk, fun x hx => by cases hx⟩))
 refine w_enter 23 [(0, (.func (.yield l) #[] #[])), (1, (pt bz 0))] Tryz.func209 rfl Tryz.ntmps209 (by kernel_rfl) (by kernel_rfl) fun a H => ?_
 refine zsq (zrg ?_)
 refine H.u 5 (.slice ZA zs.length zc) (ex_l1 (Box.cell (i := 0) (HP.fact 0 rfl : Box _ bz 22 _) rfl)) fun a H => ?_
 refine H.ge HP [(6, (ii zs.length)), (7, (ii 0))] [] fun a H => ?_
 refine ztn (zbk ?_)
 refine w_loop (fun mm a wv => ∃ (i : Nat), zs.length - i = mm ∧ Sl 23 [(7, (ii i)), (6, (ii zs.length)), (5, (.slice ZA zs.length zc)), (0, (.func (.yield l) #[] #[])), (1, (pt bz 0))] a ∧ Hp w wv [] [boxK bz 22 [(.slice ZA zs.length zc)], rowF 1 i1C ZA zs] ∧ (i ≤ zs.length)) (zs.length - 0) ?_ ?_
 ·exact ⟨0, (by omega), H.keep (by kernel_rfl), HP, (Nat.zero_le _)⟩
 rintro mm a w_1 ⟨i, hmeas, H, HP, hib⟩
 refine zsq (zrg ?_)
 refine H.ge HP [(8, (.bool (decide ((i : Int) < (zs.length : Int)))))] [] fun a H => ?_
 refine ztn (zsq ?_)
 refine w_if H rfl (fun g8 => ?_) (fun g8 => ?_)
 ·have g8p := of_decide_eq_true g8
  refine zsk (ztn (zsq (zbk (zsq ?_))))
  have hjm : i < zs.length := by omega
  refine zrg ?_
  obtain ⟨bu, ou, xe, hA, _, _, hxe, hxm, _⟩ := IsRow.get i1C_size (HP.fact 1 rfl : IsRow 1 i1C _ ZA zs) (i := i) hjm
  obtain rfl := hz xe hxm
  refine H.u 9 (.pointer (some ⟨bu, ou + i * 1, none⟩)) (ex_indexA (b := bu) (off := ou) (len := zs.length) (cap := zc) (e := 3) (k := 1) (ik := .i64) (i := (i : Int)) (m := i) hA (by kernel_rfl) (by kernel_rfl) rfl hjm (by kernel_rfl) (by kernel_rfl)) fun a H => H.u 10 (ii 0) (ex_l1 (by have hh := IsRow.cells i1C_size (HP.fact 1 rfl : IsRow 1 i1C _ ZA zs) hA hxe 0 _ rfl; rwa [Nat.add_zero] at hh)) fun a H => ?_
  refine H.ge HP [(4, (ii 0))] [] fun a H => ?_
  refine ztn (zsq (zrg ?_))
  refine H.go HP 1 [(11, (ii 0))] [] fun a H => H.v 12 (ii 0) fun a H => H.v 13 (ii 0) fun a H => ?_
  refine H.ge HP [(4, (ii 0))] [] fun a H => ?_
  refine ztn (zsq (zrg ?_))
  refine H.ge HP [(21, (.bool false))] [] fun a H => ?_
  refine ztn ?_
  refine w_iff H rfl ?_
  refine zsk (zibn (ztn (zrg ?_)))
  refine H.wi 22 ((i : Int) + 1) fun a H => ?_
  refine H.ge HP [(7, (ii ((i : Int) + 1)))] [] fun a H => ?_
  refine ztn ?_
  have H := H.as 7 (ii ((i + 1 : Nat) : Int)) rfl rfl
  refine ⟨_, ?_, i + 1, rfl, H.keep (by kernel_rfl), HP, (by omega)⟩
  omega
 have g8p := of_decide_eq_false g8
 refine wp_exit (then_exit (then_exit ?_))
 refine w_exit_here ?_
 refine H.end0 (fn := Tryz.f209) Tryz.results209  ?_
 exact ⟨⟨_, rfl⟩, HP.bl⟩
theorem measure_any (ZA : Option Addr) (zc : Nat) (zs : List Int) (w : World) (hz : ∀ z ∈ zs, z = 0) (hzl : zs.length ≤ 1000000) (hzr : IsRow 1 i1C w ZA zs) :
  Calls Tryz.prog 182 #[(.slice ZA zs.length zc)] w fun e w' => e = .returned (ii 0) ∧ Below w.heap.size w w' := by
 have HP := Hp.start w
 refine w_enterM 36 [(0, (.slice ZA zs.length zc))] Tryz.func182 rfl Tryz.ntmps182 (by kernel_rfl) (by kernel_rfl) fun a H => ?_
 refine zsq (zrg ?_)
 refine H.ge HP [(2, (ii 0))] [] fun a H => ?_
 refine ztn (zsq (zrg ?_))
 refine H.al HP 3 3 [(ii 0)] fun b_1 w_2 a H HP => H.al HP 4 3 [(ii 0)] fun b_3 w_4 a H HP => H.sh HP 1 0 (ii 0) rfl fun w_5 a H HP => H.sh HP 0 0 (ii 0) rfl fun w_6 a H HP => ?_
 refine znl (ztn (zsq (zsq (zrg ?_))))
 refine H.go HP 1 [(8, (.slice ZA zs.length zc))] [] fun a H => ?_
 refine H.cl 9 (Tryz.call201 _ _) (audible_any ZA zc zs w_6) ?_
 rintro e w_7 ⟨bz, rfl, hbz, hbf⟩
 refine ⟨_, rfl, ?_⟩
 intro a H
 have HP := HP.next hbf
 refine znl (ztn (zbk ?_))
 have hfun : a.eval (.tmp 9) = (.func (.func 209) #[] #[(pt bz 0)]) := H.eval (by kernel_rfl)
 have hbelW := HP.bl
 refine (wpIn_wide (n := 20)).1 ?_
 refine wpIn_range0 (F := Fence.wide) rfl (by omega) (gf := 209) (lb := #[(pt bz 0)]) hfun trivial (enters_of Tryz.func209 (by kernel_rfl) rfl) (fun l W hW => callsIn_wide.2 (audible1_any l bz ZA zc zs W hz hzl (hbz.next hW) (IsRow.below (IsRow.below hzr hbelW) hW))) fun D W hD hbW hdef => ?_
 rw [moreD_of _ H.defers]
 have HP := HP.next hbW
 refine zibn (ztn (zsq (zsq ?_)))
 refine w_regionM ?_
 refine H.ge HP [(17, (.bool true))] [0] fun a H => ?_
 refine ztn ?_
 refine w_iftM H rfl ?_
 refine zsq ?_
 refine w_regionM ?_
 refine H.ge HP [(2, (ii 0))] [] fun a H => ?_
 refine ztn (zrt (ztr ?_))
 have hd2 : W.heap[D]? = some (.deferred (some [])) := hdef
 have hfin : Below w.heap.size w W := HP.bl
 have hout : Below w.heap.size w (W.putObj D (.deferred none)) := hfin.trans (belowK_b (w := w) (Nat.le_refl _) _ D _ _ (by have := hbelW.size; omega) hd2 rfl rfl)
 refine H.ret1D hd2 (fn := Tryz.f182) Tryz.results182 (RV.tmp_ (v := (ii 0)) (by kernel_rfl)) ?_
 exact ⟨rfl, hout⟩
theorem lgain_any (ZA : Option Addr) (zc : Nat) (zs : List Int) (w : World) (hz : ∀ z ∈ zs, z = 0) (hzl : zs.length ≤ 1000000) (hzr : IsRow 1 i1C w ZA zs) :
  Calls Tryz.prog 146 #[(.slice ZA zs.length zc)] w fun e w' => e = .returned (ii 1000) ∧ Below w.heap.size w w' := by
 have HP := Hp.start w
 refine w_enter 11 [(0, (.slice ZA zs.length zc))] Tryz.func146 rfl Tryz.ntmps146 (by kernel_rfl) (by kernel_rfl) fun a H => ?_
 refine zsq (zrg ?_)
 refine H.ge HP [(2, (ii 0))] [] fun a H => ?_
 refine ztn (zsq (zrg ?_))
 refine H.go HP 1 [(4, (.slice ZA zs.length zc))] [] fun a H => H.cb HP 5 (Tryz.call182 _ _) (measure_any ZA zc zs w hz hzl (IsRow.below hzr HP.bl)) fun w_1 hb a H HP => ?_
 refine H.ge HP [(3, (ii 0))] [] fun a H => ?_
 refine ztn (zsq (zsq (zrg ?_)))
 refine H.ge HP [(7, (.bool true))] [] fun a H => ?_
 refine ztn ?_
 refine w_ift H rfl ?_
 refine zsq (zrg ?_)
 refine H.ge HP [(2, (ii 1000))] [] fun a H => ?_
 refine ztn (zrt (ztr ?_))
 refine H.r1 (ii 1000) Tryz.results146 ?_
 exact ⟨rfl, HP.bl⟩
theorem Hp.ne3 {w0 w : World} {L : List HB} {K : List FK} (H : Hp w0 w L K) (i j : Nat) {b b' t : Nat} {vs : List Value} {f f' : Bool} {l : List (Int × Value)} (hi : L[i]? = some (bx b t vs f)) (hj : L[j]? = some (mapB b' l f')) (h : i ≠ j) : b ≠ b' := fun e => by
 subst e
 rcases Nat.lt_or_gt_of_ne h with h | h
 ·exact List.pairwise_iff_getElem.1 H.apart i j (List.getElem?_eq_some_iff.1 hi).1 (List.getElem?_eq_some_iff.1 hj).1 h b (by rw [(List.getElem?_eq_some_iff.1 hi).2]; rfl) (by rw [(List.getElem?_eq_some_iff.1 hj).2]; rfl)
 ·exact List.pairwise_iff_getElem.1 H.apart j i (List.getElem?_eq_some_iff.1 hj).1 (List.getElem?_eq_some_iff.1 hi).1 h b (by rw [(List.getElem?_eq_some_iff.1 hj).2]; rfl) (by rw [(List.getElem?_eq_some_iff.1 hi).2]; rfl)
abbrev picsS : List PicA := [⟨true, bstr [107], 0⟩, ⟨false, bstr [112], 0⟩]
abbrev libS (A : Option Addr) (c : Nat) : List AstA := [⟨7, A, c, picsS⟩]
theorem libS_len {A : Option Addr} {c : Nat} : ∀ a ∈ libS A c, a.pics.length ≤ 2000000 := fun a h => by rcases List.mem_singleton.1 h with rfl; show 2 ≤ _; omega
theorem ret_findS {A : Option Addr} {c : Nat} {w : World} {e : Ending} {w' : World} (h : RetFind (findA 7 (libS A c)) w e w') : ∃ B d, e = .returned (.tuple #[.agg #[.int .i64 7, .slice B 2 d], .bool true]) ∧ IsPics w' B 2 picsS ∧ 2 ≤ d ∧ d ≤ maxLen ∧ (B = none → d = 0) ∧ Below w.heap.size w w' ∧ (∀ b off, B = some ⟨b, off, none⟩ → w.heap.size ≤ b) := h
theorem ints_flat (zs : List Int) : flat i1C zs = ints zs := by
 induction zs with
 | nil => rfl
 | cons z l ih => unfold flat at ih ⊢; rw [List.flatMap_cons, ih]; rfl
theorem row_ints {w : World} {A : Option Addr} {zs : List Int} (h : IsInts w A zs.length zs) : IsRow 1 i1C w A zs := by
 have h2 := ofInts h
 rw [← ints_flat] at h2
 exact h2
theorem Hp.agreeM {w0 w : World} {L : List HB} {K : List FK} (H : Hp w0 w L K) (f : Nat → Prop) (hf : ∀ x ∈ L, x.fresh = true ∨ ∀ k, x.fp k → f k) : Agree w0 w f :=
 ⟨H.os, H.tape, H.output, H.size, fun k hk hn => H.old k hk fun x hx hxk => by
  rcases hf x hx with h | h
  ·have := H.fresh x hx h k hxk; omega
  ·exact hn (h k hxk)⟩
theorem targets_any (LA : Option Addr) (lc : Nat) (w : World) :
  Calls Tryz.prog 93 #[(.slice LA 1 lc)] w fun e w' => ∃ bm b3 b1, e = .returned (.func (.func 145) #[] #[.pointer (some ⟨b3, 0, none⟩), .pointer (some ⟨b1, 0, none⟩)]) ∧ MapAt w' bm [] ∧ Box w' b3 255 [.map (some bm)].toArray ∧ Box w' b1 25 [(.slice LA 1 lc)].toArray ∧ b3 ≠ bm ∧ b1 ≠ bm ∧ w.heap.size ≤ bm ∧ w.heap.size ≤ b3 ∧ w.heap.size ≤ b1 ∧ Below w.heap.size w w' := by
 have HP := Hp.start w
 refine w_enter 6 [(0, (.slice LA 1 lc))] Tryz.func93 rfl Tryz.ntmps93 (by kernel_rfl) (by kernel_rfl) fun a H => ?_
 refine zsq (zrg ?_)
 refine H.al HP 1 25 [(.slice LA 1 lc)] fun b_1 w_2 a H HP => ?_
 refine H.ge HP [(2, .nilFunc)] [] fun a H => ?_
 refine ztn (zsq (zrg ?_))
 refine H.newMap HP 4 (by kernel_rfl) fun m_3 w_4 a H HP => ?_
 have HP : Hp w w_4 [(mapB m_3 [] true), bx b_1 25 [(.slice LA 1 lc)] true] [] := HP
 refine H.al HP 3 255 [(.map none)] fun b_5 w_6 a H HP => H.sh HP 0 0 (.map (some m_3)) rfl fun w_7 a H HP => ?_
 refine znl (ztn (zsq (zrg ?_)))
 refine H.ge HP [(5, (.func (.func 145) #[] #[(pt b_5 0), (pt b_1 0)])), (2, (.func (.func 145) #[] #[(pt b_5 0), (pt b_1 0)]))] [] fun a H => ?_
 refine ztn (zrt ?_)
 refine H.r1 (.func (.func 145) #[] #[(pt b_5 0), (pt b_1 0)]) Tryz.results93 ?_
 exact ⟨m_3, b_5, b_1, rfl, HP.mapAt 1 rfl, HP.at_ 0 rfl, HP.at_ 2 rfl, HP.ne3 0 1 rfl rfl (by decide), HP.ne3 2 1 rfl rfl (by decide), HP.fresh _ (List.mem_of_getElem? (show ([bx b_5 255 [(.map (some m_3))] true, (mapB m_3 [] true), bx b_1 25 [(.slice LA 1 lc)] true] : List HB)[1]? = some _ from rfl)) rfl _ rfl, HP.fresh _ (List.mem_of_getElem? (show ([bx b_5 255 [(.map (some m_3))] true, (mapB m_3 [] true), bx b_1 25 [(.slice LA 1 lc)] true] : List HB)[0]? = some _ from rfl)) rfl _ rfl, HP.fresh _ (List.mem_of_getElem? (show ([bx b_5 255 [(.map (some m_3))] true, (mapB m_3 [] true), bx b_1 25 [(.slice LA 1 lc)] true] : List HB)[2]? = some _ from rfl)) rfl _ rfl, HP.bl⟩
theorem target1_any (bm b3 b1 lc pc : Nat) (LA PA : Option Addr) (w : World) (hm : MapAt w bm []) (h3 : Box w b3 255 [(.map (some bm))].toArray) (h1 : Box w b1 25 [(.slice LA 1 lc)].toArray) (n3 : b3 ≠ bm) (n1 : b1 ≠ bm) (hlib : IsAsts w LA 1 (libS PA pc)) (hlm : ¬ libFp LA (libS PA pc) bm) :
  Calls Tryz.prog 145 #[.int .i64 7, (pt b3 0), (pt b1 0)] w fun e w' => e = .returned (ii 1000) ∧ MapAt w' bm [(7, .int .i64 1000)] ∧ w.grownBy w' (some bm) := by
 have HP := ((((Hp.ownM hm).keepF (astsK LA (libS PA pc)) hlib (fun _ _ h hk hs => IsAsts.keep h hk hs) (fun k hk => ⟨IsAsts.lt hlib hk, fun x hx => by simp only [List.mem_cons, List.not_mem_nil, or_false] at hx; rcases hx with rfl; exact fun e => hlm (e ▸ hk)⟩)).keepF (boxK b1 25 [(.slice LA 1 lc)]) h1 (boxK_ok _ _ _) (fun k hk => ⟨boxK_lt h1 hk, fun x hx => by simp only [List.mem_cons, List.not_mem_nil, or_false] at hx; rcases hx with rfl; exact fun e => n1 (hk.symm.trans e)⟩)).keepF (boxK b3 255 [(.map (some bm))]) h3 (boxK_ok _ _ _) (fun k hk => ⟨boxK_lt h3 hk, fun x hx => by simp only [List.mem_cons, List.not_mem_nil, or_false] at hx; rcases hx with rfl; exact fun e => n3 (hk.symm.trans e)⟩))
 refine w_enter 31 [(0, (ii 7)), (1, (pt b3 0)), (2, (pt b1 0))] Tryz.func145 rfl Tryz.ntmps145 (by kernel_rfl) (by kernel_rfl) fun a H => ?_
 refine zsq (zrg ?_)
 refine H.ge HP [(4, (ii 0))] [] fun a H => ?_
 refine ztn (zsq (zrg ?_))
 refine H.u 10 (.map (some bm)) (ex_l1 (Box.cell (i := 0) (HP.fact 0 rfl : Box _ b3 255 _) rfl)) fun a H => H.go HP 1 [(11, (ii 7))] [] fun a H => H.u 12 (.tuple #[(ii 0), (.bool false)]) (ex_lookup (l := []) (z := (ii 0)) (k := 7) (kt := 3) (et := 3) (s1 := 1) (s2 := 8) true (by kernel_rfl) (by kernel_rfl) (by kernel_rfl) (by kernel_rfl) (by kernel_rfl) (HP.mapAt 0 rfl)) fun a H => ?_
 refine H.ge HP [(5, (ii 0)), (6, (.bool false))] [] fun a H => ?_
 refine ztn (zsq (zsq (zrg ?_)))
 refine H.ge HP [(16, (.bool true))] [] fun a H => ?_
 refine ztn ?_
 refine w_ift H rfl ?_
 refine zsq (zrg ?_)
 refine H.ge HP [(5, (ii 1000))] [] fun a H => ?_
 refine ztn (zsq (zsq (zrg ?_)))
 refine H.u 18 (.slice LA 1 lc) (ex_l1 (Box.cell (i := 0) (HP.fact 1 rfl : Box _ b1 25 _) rfl)) fun a H => H.go HP 1 [(19, (ii 7))] [] fun a H => ?_
 refine H.cl 20 (Tryz.call43 _ _) (((mfind_any LA 1 lc (libS PA pc) 7 w (HP.fact 2 rfl) (by decide) libS_len).mono fun e w' h => ret_findS h)) ?_
 rintro e w_1 ⟨FB, fc, rfl, hfp, hfc1, hfc2, hfc3, hbf, hfr⟩
 refine ⟨_, rfl, ?_⟩
 intro a H
 have HP := (HP.next hbf).keepF ⟨rowFp 2 FB, fun w => IsPics w FB 2 picsS⟩ hfp (fun _ _ h hk hs => ⟨h.1, h.2.keep hk hs⟩) (fun j hj => row_sep HP hfp.2 hfr hj)
 refine H.go HP 3 [(21, (.agg #[(ii 7), (.slice FB 2 fc)])), (22, (.bool true))] [] fun a H => H.al HP 7 91 [(ii 0), (.slice none 0 0)] fun b_2 w_3 a H HP => H.sh HP 0 0 (.agg #[(ii 7), (.slice FB 2 fc)]) rfl fun w_4 a H HP => ?_
 refine H.ge HP [(8, (.bool true))] [] fun a H => ?_
 refine ztn (zsq (zrg ?_))
 refine H.ge HP [(23, (.bool true))] [] fun a H => ?_
 refine ztn ?_
 refine w_ift H rfl ?_
 refine zrg ?_
 refine H.go HP 1 [(24, (.agg #[(ii 7), (.slice FB 2 fc)]))] [0] fun a H => ?_
 refine H.cl 25 (Tryz.call147 _ _) (mpowers_any 7 FB 2 fc picsS w_4 (HP.fact 0 rfl) (by decide)) ?_
 rintro e w_5 ⟨ZB, zd, rfl, hzi, _, _, _, hbz⟩
 refine ⟨_, rfl, ?_⟩
 intro a H
 have HP := HP.next hbz
 refine H.cb HP 26 (Tryz.call146 _ _) (lgain_any ZB zd [0, 0] w_5 (by simp) (by decide) (row_ints hzi)) fun w_6 hb a H HP => ?_
 refine H.ge HP [(5, (ii 1000))] [] fun a H => ?_
 refine ztn (zrg ?_)
 refine H.u 27 (.map (some bm)) (ex_l1 (Box.cell (i := 0) (HP.fact 1 rfl : Box _ b3 255 _) rfl)) fun a H => H.go HP 2 [(28, (ii 7)), (29, (ii 1000))] [] fun a H => ?_
 refine Sl.pushM (kt := 3) (et := 3) (k := 7) (v := (ii 1000)) H HP 1 [bx b_2 91 [(ii 7), (.slice FB 2 fc)] true, (mapB bm ([] ++ [(7, (ii 1000))]) false)] (by kernel_rfl) (by kernel_rfl) (by kernel_rfl) (by kernel_rfl) (by kernel_rfl) (by kernel_rfl) rfl (rfl) (by kernel_rfl) fun w_7 a H HP => ?_
 have HP : Hp w w_7 [bx b_2 91 [(ii 7), (.slice FB 2 fc)] true, (mapB bm [(7, (ii 1000))] false)] [⟨rowFp 2 FB, fun w => IsPics w FB 2 picsS⟩, boxK b3 255 [(.map (some bm))], boxK b1 25 [(.slice LA 1 lc)], astsK LA (libS PA pc)] := HP
 refine znl (ztn (zsq (zrg ?_)))
 refine H.ge HP [(4, (ii 1000))] [] fun a H => ?_
 refine ztn (zrt ?_)
 refine H.r1 (ii 1000) Tryz.results145 ?_
 have HP : Hp w w_7 [bx b_2 91 [(ii 7), (.slice FB 2 fc)] true, (mapB bm [(7, (ii 1000))] false)] [⟨rowFp 2 FB, fun w => IsPics w FB 2 picsS⟩, boxK b3 255 [(.map (some bm))], boxK b1 25 [(.slice LA 1 lc)], astsK LA (libS PA pc)] := HP
 exact ⟨rfl, HP.mapAt 1 rfl, HP.only bm (by intro x hx; simp only [List.mem_cons, List.not_mem_nil, or_false] at hx; rcases hx with rfl | rfl; exact .inl rfl; exact .inr (fun k hk => hk))⟩
theorem gain1_any (k : Int) (b8 b7 bm b3 b1 lc pc : Nat) (LA PA : Option Addr) (w : World) (h8 : Box w b8 3 [.int .i64 1000].toArray) (h7 : Box w b7 71 [(.func (.func 145) #[] #[(pt b3 0), (pt b1 0)])].toArray) (n8 : b8 ≠ bm) (n78 : b7 ≠ b8) (n7 : b7 ≠ bm) (n38 : b3 ≠ b8) (n18 : b1 ≠ b8) (hl8 : ¬ libFp LA (libS PA pc) b8) (hm : MapAt w bm []) (h3 : Box w b3 255 [(.map (some bm))].toArray) (h1 : Box w b1 25 [(.slice LA 1 lc)].toArray) (n3 : b3 ≠ bm) (n1 : b1 ≠ bm) (hlib : IsAsts w LA 1 (libS PA pc)) (hlm : ¬ libFp LA (libS PA pc) bm) :
  Calls Tryz.prog 94 #[.int .i64 7, .int .i64 k, (pt b8 0), (pt b7 0)] w fun e w' => (∃ v, e = .returned v) ∧ Box w' b8 3 [.int .i64 1000].toArray ∧ Agree w w' (fun k => k = b8 ∨ k = bm) := by
 have HP := ((((((Hp.ownM hm).add (bx b8 3 [.int .i64 1000] false) h8 (bx_ok _ _ _ _) (fun k hk => by cases hk; exact h8.lt) (fun k hk => ⟨fun y hy e => by rcases List.mem_singleton.1 hy with rfl; exact n8 (hk.symm.trans e), fun _ h => by cases h⟩) (fun h => by cases h)).keepF (astsK LA (libS PA pc)) hlib (fun _ _ h hk hs => IsAsts.keep h hk hs) (fun k hk => ⟨IsAsts.lt hlib hk, fun x hx => by simp only [List.mem_cons, List.not_mem_nil, or_false] at hx; rcases hx with rfl | rfl; exact fun e => hl8 (e ▸ hk); exact fun e => hlm (e ▸ hk)⟩)).keepF (boxK b1 25 [(.slice LA 1 lc)]) h1 (boxK_ok _ _ _) (fun k hk => ⟨boxK_lt h1 hk, fun x hx => by simp only [List.mem_cons, List.not_mem_nil, or_false] at hx; rcases hx with rfl | rfl; exact fun e => n18 (hk.symm.trans e); exact fun e => n1 (hk.symm.trans e)⟩)).keepF (boxK b3 255 [(.map (some bm))]) h3 (boxK_ok _ _ _) (fun k hk => ⟨boxK_lt h3 hk, fun x hx => by simp only [List.mem_cons, List.not_mem_nil, or_false] at hx; rcases hx with rfl | rfl; exact fun e => n38 (hk.symm.trans e); exact fun e => n3 (hk.symm.trans e)⟩)).keepF (boxK b7 71 [(.func (.func 145) #[] #[(pt b3 0), (pt b1 0)])]) h7 (boxK_ok _ _ _) (fun k hk => ⟨boxK_lt h7 hk, fun x hx => by simp only [List.mem_cons, List.not_mem_nil, or_false] at hx; rcases hx with rfl | rfl; exact fun e => n78 (hk.symm.trans e); exact fun e => n7 (hk.symm.trans e)⟩))
 refine w_enter 12 [(0, (ii 7)), (1, (ii k)), (2, (pt b8 0)), (3, (pt b7 0))] Tryz.func94 rfl Tryz.ntmps94 (by kernel_rfl) (by kernel_rfl) fun a H => ?_
 have HP := HP.front 1 rfl _ rfl
 refine An.start (fun v => Hp (bareW w) v [bx b8 3 [(ii 1000)] false] [boxK b7 71 [(.func (.func 145) #[] #[(pt b3 0), (pt b1 0)])], boxK b3 255 [(.map (some bm))], boxK b1 25 [(.slice LA 1 lc)], astsK LA (libS PA pc)]) 6 7 HP wide_follows rfl fun w_1 HP => ?_
 refine An.go H (.inr ((HP.bareN 1))) 6 [0] [(6, (ii 1000))] [0] fun a H => ?_
 refine An.vw H ((HP.bareN 1)) 1 7 (.func (.func 145) #[] #[(pt b3 0), (pt b1 0)]) (fun _ hS => ex_l1 (Box.cell (i := 0) (hS.fact 0 rfl : Box _ b7 71 _) rfl)) fun a H => ?_
 refine An.go H (.inr ((HP.bareN 1))) 3 [2, 4] [(8, (ii 7)), (10, (ii k))] [] fun a H => ?_
 refine An.one 3 (by kernel_rfl) ?_
 refine Op.call H 9 rfl (by kernel_rfl) (Eq.trans (by kernel_rfl : _ = (callFunc 145 #[(ii 7), (pt b3 0), (pt b1 0)]).run Tryz.prog w_1) (Tryz.call145 _ _)) (target1_any bm b3 b1 lc pc LA PA w_1 (HP.mapAt 0 rfl) (HP.fact 1 rfl) (HP.fact 2 rfl) n3 n1 (HP.fact 3 rfl) hlm) ?_
 rintro e w_2 ⟨rfl, hmp, hgr⟩
 refine ⟨_, rfl, ?_⟩
 intro a H
 have HP := HP.changedM 0 (b := bm) (l := []) (f := false) rfl [(7, .int .i64 1000)] [(mapB bm [(7, .int .i64 1000)] false), bx b8 3 [(ii 1000)] false] rfl hgr hmp
 refine ⟨.inr ((HP.bareN 1)), ?_⟩
 refine An.one 5 (by kernel_rfl) ?_
 refine Op.call H 11 rfl (by kernel_rfl) (Eq.trans (by kernel_rfl : _ = (callFunc 95 #[(ii 1000), (ii 1000), (ii k)]).run Tryz.prog w_2) (Tryz.call95 _ _)) (ramp_any k w_2) ?_
 rintro e w_3 ⟨rfl, hb⟩
 refine ⟨_, rfl, ?_⟩
 intro a H
 have HP := HP.next hb
 refine ⟨.inr ((HP.bareN 1)), ?_⟩
 refine An.one 6 (by kernel_rfl) ?_
 refine Op.sh H HP 1 0 (ii 1000) rfl rfl fun w_4 a H HP => ?_
 refine ⟨.inl (by kernel_rfl), ?_⟩
 refine An.done (by kernel_rfl) ?_
 refine H.end0 (fn := Tryz.f94) Tryz.results94  ?_
 have HP : Hp w w_4 [(mapB bm [(7, .int .i64 1000)] false), bx b8 3 [(ii 1000)] false] [boxK b7 71 [(.func (.func 145) #[] #[(pt b3 0), (pt b1 0)])], boxK b3 255 [(.map (some bm))], boxK b1 25 [(.slice LA 1 lc)], astsK LA (libS PA pc)] := HP
 exact ⟨⟨_, rfl⟩, HP.at_ 1 rfl, HP.agreeM _ (by intro x hx; simp only [List.mem_cons, List.not_mem_nil, or_false] at hx; rcases hx with rfl | rfl; exact .inr (fun k hk => .inr hk); exact .inr (fun k hk => .inl hk))⟩
theorem begun_any (be : Nat) (fr : Int) (w : World) :
  Calls Tryz.prog 96 #[(.slice (some ⟨be, 0, none⟩) 1 1), .int .i64 fr] w fun e w' => ∃ b2 b3, e = .returned (.func (.func 150) #[] #[.pointer (some ⟨b2, 0, none⟩), .pointer (some ⟨b3, 0, none⟩)]) ∧ Box w' b2 101 [(.slice (some ⟨be, 0, none⟩) 1 1)].toArray ∧ Box w' b3 3 [.int .i64 fr].toArray ∧ Below w.heap.size w w' := by
 have HP := Hp.start w
 refine w_enter 6 [(0, (.slice (some ⟨be, 0, none⟩) 1 1)), (1, (ii fr))] Tryz.func96 rfl Tryz.ntmps96 (by kernel_rfl) (by kernel_rfl) fun a H => ?_
 refine zsq (zrg ?_)
 refine H.al HP 2 101 [(.slice (some ⟨be, 0, none⟩) 1 1)] fun b_1 w_2 a H HP => H.al HP 3 3 [(ii fr)] fun b_3 w_4 a H HP => ?_
 refine H.ge HP [(4, .nilFunc)] [] fun a H => ?_
 refine ztn (zsq (zrg ?_))
 refine H.ge HP [(5, (.func (.func 150) #[] #[(pt b_1 0), (pt b_3 0)])), (4, (.func (.func 150) #[] #[(pt b_1 0), (pt b_3 0)]))] [] fun a H => ?_
 refine ztn (zrt ?_)
 refine H.r1 (.func (.func 150) #[] #[(pt b_1 0), (pt b_3 0)]) Tryz.results96 ?_
 exact ⟨b_1, b_3, rfl, HP.at_ 1 rfl, HP.at_ 0 rfl, HP.bl⟩
theorem begun1_5 (be b2 b3 : Nat) (w : World) (h2 : Box w b2 101 [(.slice (some ⟨be, 0, none⟩) 1 1)].toArray) (h3 : Box w b3 3 [(ii 5)].toArray) (hev : Box w be 100 [(ii 1), (ii 7), (ii 5), (ii 2), (ii 0), (ii 3), (.slice none 0 0)].toArray) (m l : Nat) (J Jx : List Unit → World → Prop) (hJo : OwnFrom w.heap.size J) (h0 : J [] w) (hY : ∀ pre x W1, J pre W1 → pre.length < 1 → YieldAt Fence.wide m Tryz.prog l #[.int .i64 7, .int .i64 1] W1 fun e W' => ∃ b, e = .returned (.bool b) ∧ (b = true → J (pre ++ [x]) W') ∧ (b = false → Jx (pre ++ [x]) W')) :
  Calls Tryz.prog 150 #[(.func (.yield l) #[] #[]), (pt b2 0), (pt b3 0)] w fun e w' => (∃ v, e = .returned v) ∧ (J [()] w' ∨ Jx [()] w') := by
 have HP := ((((Hp.start w).keepF (boxK be 100 [(ii 1), (ii 7), (ii 5), (ii 2), (ii 0), (ii 3), (.slice none 0 0)]) hev (boxK_ok _ _ _) (fun k hk => ⟨boxK_lt hev hk, fun x hx => by cases hx⟩)).keepF (boxK b3 3 [(ii 5)]) h3 (boxK_ok _ _ _) (fun k hk => ⟨boxK_lt h3 hk, fun x hx => by cases hx⟩)).keepF (boxK b2 101 [(.slice (some ⟨be, 0, none⟩) 1 1)]) h2 (boxK_ok _ _ _) (fun k hk => ⟨boxK_lt h2 hk, fun x hx => by cases hx⟩))
 refine w_enter 45 [(0, (.func (.yield l) #[] #[])), (1, (pt b2 0)), (2, (pt b3 0))] Tryz.func150 rfl Tryz.ntmps150 (by kernel_rfl) (by kernel_rfl) fun a H => ?_
 refine zsq (zrg ?_)
 refine H.u 8 (.slice (some ⟨be, 0, none⟩) 1 1) (ex_l1 (Box.cell (i := 0) (HP.fact 0 rfl : Box _ b2 101 _) rfl)) fun a H => ?_
 refine H.ge HP [(9, (ii 1)), (10, (ii 0))] [] fun a H => ?_
 refine ztn (zbk ?_)
 refine w_loop (fun mm a wv => (mm = 1 ∧ Sl 45 [(10, .int .i64 0), (0, (.func (.yield l) #[] #[])), (8, (.slice (some ⟨be, 0, none⟩) 1 1)), (9, (ii 1)), (2, (pt b3 0))] a ∧ Hp w wv [] [boxK b2 101 [(.slice (some ⟨be, 0, none⟩) 1 1)], boxK b3 3 [(ii 5)], boxK be 100 [(ii 1), (ii 7), (ii 5), (ii 2), (ii 0), (ii 3), (.slice none 0 0)]]) ∨ (mm = 0 ∧ Sl 45 [(10, .int .i64 1), (0, (.func (.yield l) #[] #[])), (8, (.slice (some ⟨be, 0, none⟩) 1 1)), (9, (ii 1)), (2, (pt b3 0))] a ∧ J [()] wv)) 1 (.inl ⟨rfl, H.keep (by kernel_rfl), HP⟩) ?_
 rintro mm a w_1 (⟨rfl, H, HP⟩ | ⟨rfl, H, hJ1⟩)
 ·refine zsq (zrg ?_)
  refine H.ge HP [(11, (.bool true))] [] fun a H => ?_
  refine ztn (zsq ?_)
  refine w_ift H rfl ?_
  refine zsk (ztn (zsq (zbk (zsq (zrg ?_)))))
  refine H.v 12 (pt be 0) fun a H => H.u 13 (.agg #[(ii 1), (ii 7), (ii 5), (ii 2), (ii 0), (ii 3), (.slice none 0 0)]) (ex_lN [(ii 1), (ii 7), (ii 5), (ii 2), (ii 0), (ii 3), (.slice none 0 0)] (boxCells (HP.fact 2 rfl : Box _ be 100 _))) fun a H => H.al HP 5 100 [(ii 0), (ii 0), (ii 0), (ii 0), (ii 0), (ii 0), (.slice none 0 0)] fun b_2 w_3 a H HP => H.sh HP 0 0 (.agg #[(ii 1), (ii 7), (ii 5), (ii 2), (ii 0), (ii 3), (.slice none 0 0)]) rfl fun w_4 a H HP => ?_
  refine znl (ztn (zsq (zsq (zrg ?_))))
  refine H.go HP 2 [(15, (ii 5))] [0] fun a H => H.u 16 (ii 5) (ex_l1 (Box.cell (i := 0) (HP.fact 1 rfl : Box _ b3 3 _) rfl)) fun a H => ?_
  refine H.ge HP [(22, (.bool false))] [0] fun a H => ?_
  refine ztn ?_
  refine w_iff H rfl ?_
  refine zsk (ztn (zsq (zrg ?_)))
  refine H.ge HP [(6, (ii 2))] [0] fun a H => ?_
  refine ztn (zsq (zsq (zrg ?_)))
  refine H.u 25 (ii 5) (ex_l1 (Box.cell (i := 0) (HP.fact 1 rfl : Box _ b3 3 _) rfl)) fun a H => H.valE 26 (.int .u64 (IntKind.u64.wrap 5)) (.int .u64 5) (by kernel_rfl) (by kernel_rfl) (by kernel_rfl) fun a H => H.go HP 2 [(28, (ii 5))] [0] fun a H => H.valE 29 (.int .u64 (IntKind.u64.wrap 5)) (.int .u64 5) (by kernel_rfl) (by kernel_rfl) (by kernel_rfl) fun a H => H.valE 30 (.int .u64 (IntKind.u64.wrap (5 - 5))) (.int .u64 0) (by kernel_rfl) (by kernel_rfl) (by kernel_rfl) fun a H => ?_
  refine H.ge HP [(7, (.int .u64 0))] [] fun a H => ?_
  refine ztn (zsq (zrg ?_))
  refine H.go HP 2 [(31, (.int .u64 0)), (32, (ii 2))] [] fun a H => H.valE 33 (.int .u64 (IntKind.u64.wrap 2)) (.int .u64 2) (by kernel_rfl) (by kernel_rfl) (by kernel_rfl) fun a H => ?_
  refine H.ge HP [(34, (.bool true))] [] fun a H => ?_
  refine ztn ?_
  refine w_ift H rfl ?_
  refine zrg ?_
  refine H.go HP 1 [(35, (.int .u64 0))] [] fun a H => H.valE 36 (ii (IntKind.i64.wrap 0)) (ii 0) (by kernel_rfl) (by kernel_rfl) (by kernel_rfl) fun a H => H.valE 37 (ii (IntKind.i64.wrap (0 + 1))) (ii 1) (by kernel_rfl) (by kernel_rfl) (by kernel_rfl) fun a H => ?_
  refine H.ge HP [(6, (ii 1))] [] fun a H => ?_
  refine ztn (zsq ?_)
  refine w_regionI (m + 1) ?_
  refine H.valI 38 (.func (.yield l) #[] #[]) (by kernel_rfl) (by kernel_rfl) fun a H => ?_
  refine H.valI 39 (pt b_2 1) (by kernel_rfl) (by kernel_rfl) fun a H => ?_
  refine H.valI 40 (ii 7) (by kernel_rfl) (ex_l1 (HP.cell 0 rfl 1 rfl)) fun a H => ?_
  refine H.valI 41 (ii 1) (by kernel_rfl) (by kernel_rfl) fun a H => ?_
  refine H.callY 42 (l := l) (by kernel_rfl) (by kernel_rfl) (hY [] () _ (OwnFrom.below hJo h0 HP.bl) (by decide)) ?_
  rintro e w_5 ⟨bb, rfl, hjt, hjf⟩
  refine ⟨_, rfl, ?_⟩
  intro a H
  have HP := Hp.start w_5
  refine H.valI 43 (.bool (!bb)) (by kernel_rfl) (by kernel_rfl) fun a H => ?_
  refine wpListIn_nil ?_
  refine ztn ?_
  refine w_if H rfl (fun g43 => ?_) (fun g43 => ?_)
  ·have g43p := not_is_true g43
   refine zrt (zibr (ztr (ztr (zibr ?_))))
   refine H.ret0 (fn := Tryz.f150) Tryz.results150  ?_
   exact ⟨⟨_, rfl⟩, .inr (hjf g43p)⟩
  have g43p := not_is_false g43
  refine zsk (zibn (ztn (zrg ?_)))
  refine H.valE 44 (ii (IntKind.i64.wrap (0 + 1))) (ii 1) (by kernel_rfl) (by kernel_rfl) (by kernel_rfl) fun a H => ?_
  refine H.ge HP [(10, (ii 1))] [] fun a H => ?_
  refine ztn ?_
  exact ⟨0, by omega, .inr ⟨rfl, H.keep (by kernel_rfl), hjt g43p⟩⟩
 have HP := Hp.start w_1
 refine zsq (zrg ?_)
 refine H.ge HP [(11, (.bool false))] [] fun a H => ?_
 refine ztn (zsq ?_)
 refine w_iff H rfl ?_
 refine wp_exit (then_exit (then_exit ?_))
 refine w_exit_here ?_
 refine H.end0 (fn := Tryz.f150) Tryz.results150  ?_
 exact ⟨⟨_, rfl⟩, .inl hJ1⟩
theorem begun1_6 (be b2 b3 : Nat) (w : World) (h2 : Box w b2 101 [(.slice (some ⟨be, 0, none⟩) 1 1)].toArray) (h3 : Box w b3 3 [(ii 6)].toArray) (hev : Box w be 100 [(ii 1), (ii 7), (ii 5), (ii 2), (ii 0), (ii 3), (.slice none 0 0)].toArray) (m l : Nat) (J Jx : List Unit → World → Prop) (hJo : OwnFrom w.heap.size J) (h0 : J [] w) (hY : ∀ pre x W1, J pre W1 → pre.length < 1 → YieldAt Fence.wide m Tryz.prog l #[.int .i64 7, .int .i64 2] W1 fun e W' => ∃ b, e = .returned (.bool b) ∧ (b = true → J (pre ++ [x]) W') ∧ (b = false → Jx (pre ++ [x]) W')) :
  Calls Tryz.prog 150 #[(.func (.yield l) #[] #[]), (pt b2 0), (pt b3 0)] w fun e w' => (∃ v, e = .returned v) ∧ (J [()] w' ∨ Jx [()] w') := by
 have HP := ((((Hp.start w).keepF (boxK be 100 [(ii 1), (ii 7), (ii 5), (ii 2), (ii 0), (ii 3), (.slice none 0 0)]) hev (boxK_ok _ _ _) (fun k hk => ⟨boxK_lt hev hk, fun x hx => by cases hx⟩)).keepF (boxK b3 3 [(ii 6)]) h3 (boxK_ok _ _ _) (fun k hk => ⟨boxK_lt h3 hk, fun x hx => by cases hx⟩)).keepF (boxK b2 101 [(.slice (some ⟨be, 0, none⟩) 1 1)]) h2 (boxK_ok _ _ _) (fun k hk => ⟨boxK_lt h2 hk, fun x hx => by cases hx⟩))
 refine w_enter 45 [(0, (.func (.yield l) #[] #[])), (1, (pt b2 0)), (2, (pt b3 0))] Tryz.func150 rfl Tryz.ntmps150 (by kernel_rfl) (by kernel_rfl) fun a H => ?_
 refine zsq (zrg ?_)
 refine H.u 8 (.slice (some ⟨be, 0, none⟩) 1 1) (ex_l1 (Box.cell (i := 0) (HP.fact 0 rfl : Box _ b2 101 _) rfl)) fun a H => ?_
 refine H.ge HP [(9, (ii 1)), (10, (ii 0))] [] fun a H => ?_
 refine ztn (zbk ?_)
 refine w_loop (fun mm a wv => (mm = 1 ∧ Sl 45 [(10, .int .i64 0), (0, (.func (.yield l) #[] #[])), (8, (.slice (some ⟨be, 0, none⟩) 1 1)), (9, (ii 1)), (2, (pt b3 0))] a ∧ Hp w wv [] [boxK b2 101 [(.slice (some ⟨be, 0, none⟩) 1 1)], boxK b3 3 [(ii 6)], boxK be 100 [(ii 1), (ii 7), (ii 5), (ii 2), (ii 0), (ii 3), (.slice none 0 0)]]) ∨ (mm = 0 ∧ Sl 45 [(10, .int .i64 1), (0, (.func (.yield l) #[] #[])), (8, (.slice (some ⟨be, 0, none⟩) 1 1)), (9, (ii 1)), (2, (pt b3 0))] a ∧ J [()] wv)) 1 (.inl ⟨rfl, H.keep (by kernel_rfl), HP⟩) ?_
 rintro mm a w_1 (⟨rfl, H, HP⟩ | ⟨rfl, H, hJ1⟩)
 ·refine zsq (zrg ?_)
  refine H.ge HP [(11, (.bool true))] [] fun a H => ?_
  refine ztn (zsq ?_)
  refine w_ift H rfl ?_
  refine zsk (ztn (zsq (zbk (zsq (zrg ?_)))))
  refine H.v 12 (pt be 0) fun a H => H.u 13 (.agg #[(ii 1), (ii 7), (ii 5), (ii 2), (ii 0), (ii 3), (.slice none 0 0)]) (ex_lN [(ii 1), (ii 7), (ii 5), (ii 2), (ii 0), (ii 3), (.slice none 0 0)] (boxCells (HP.fact 2 rfl : Box _ be 100 _))) fun a H => H.al HP 5 100 [(ii 0), (ii 0), (ii 0), (ii 0), (ii 0), (ii 0), (.slice none 0 0)] fun b_2 w_3 a H HP => H.sh HP 0 0 (.agg #[(ii 1), (ii 7), (ii 5), (ii 2), (ii 0), (ii 3), (.slice none 0 0)]) rfl fun w_4 a H HP => ?_
  refine znl (ztn (zsq (zsq (zrg ?_))))
  refine H.go HP 2 [(15, (ii 5))] [0] fun a H => H.u 16 (ii 6) (ex_l1 (Box.cell (i := 0) (HP.fact 1 rfl : Box _ b3 3 _) rfl)) fun a H => ?_
  refine H.ge HP [(22, (.bool false))] [0] fun a H => ?_
  refine ztn ?_
  refine w_iff H rfl ?_
  refine zsk (ztn (zsq (zrg ?_)))
  refine H.ge HP [(6, (ii 2))] [0] fun a H => ?_
  refine ztn (zsq (zsq (zrg ?_)))
  refine H.u 25 (ii 6) (ex_l1 (Box.cell (i := 0) (HP.fact 1 rfl : Box _ b3 3 _) rfl)) fun a H => H.valE 26 (.int .u64 (IntKind.u64.wrap 6)) (.int .u64 6) (by kernel_rfl) (by kernel_rfl) (by kernel_rfl) fun a H => H.go HP 2 [(28, (ii 5))] [0] fun a H => H.valE 29 (.int .u64 (IntKind.u64.wrap 5)) (.int .u64 5) (by kernel_rfl) (by kernel_rfl) (by kernel_rfl) fun a H => H.valE 30 (.int .u64 (IntKind.u64.wrap (6 - 5))) (.int .u64 1) (by kernel_rfl) (by kernel_rfl) (by kernel_rfl) fun a H => ?_
  refine H.ge HP [(7, (.int .u64 1))] [] fun a H => ?_
  refine ztn (zsq (zrg ?_))
  refine H.go HP 2 [(31, (.int .u64 1)), (32, (ii 2))] [] fun a H => H.valE 33 (.int .u64 (IntKind.u64.wrap 2)) (.int .u64 2) (by kernel_rfl) (by kernel_rfl) (by kernel_rfl) fun a H => ?_
  refine H.ge HP [(34, (.bool true))] [] fun a H => ?_
  refine ztn ?_
  refine w_ift H rfl ?_
  refine zrg ?_
  refine H.go HP 1 [(35, (.int .u64 1))] [] fun a H => H.valE 36 (ii (IntKind.i64.wrap 1)) (ii 1) (by kernel_rfl) (by kernel_rfl) (by kernel_rfl) fun a H => H.valE 37 (ii (IntKind.i64.wrap (1 + 1))) (ii 2) (by kernel_rfl) (by kernel_rfl) (by kernel_rfl) fun a H => ?_
  refine H.ge HP [(6, (ii 2))] [] fun a H => ?_
  refine ztn (zsq ?_)
  refine w_regionI (m + 1) ?_
  refine H.valI 38 (.func (.yield l) #[] #[]) (by kernel_rfl) (by kernel_rfl) fun a H => ?_
  refine H.valI 39 (pt b_2 1) (by kernel_rfl) (by kernel_rfl) fun a H => ?_
  refine H.valI 40 (ii 7) (by kernel_rfl) (ex_l1 (HP.cell 0 rfl 1 rfl)) fun a H => ?_
  refine H.valI 41 (ii 2) (by kernel_rfl) (by kernel_rfl) fun a H => ?_
  refine H.callY 42 (l := l) (by kernel_rfl) (by kernel_rfl) (hY [] () _ (OwnFrom.below hJo h0 HP.bl) (by decide)) ?_
  rintro e w_5 ⟨bb, rfl, hjt, hjf⟩
  refine ⟨_, rfl, ?_⟩
  intro a H
  have HP := Hp.start w_5
  refine H.valI 43 (.bool (!bb)) (by kernel_rfl) (by kernel_rfl) fun a H => ?_
  refine wpListIn_nil ?_
  refine ztn ?_
  refine w_if H rfl (fun g43 => ?_) (fun g43 => ?_)
  ·have g43p := not_is_true g43
   refine zrt (zibr (ztr (ztr (zibr ?_))))
   refine H.ret0 (fn := Tryz.f150) Tryz.results150  ?_
   exact ⟨⟨_, rfl⟩, .inr (hjf g43p)⟩
  have g43p := not_is_false g43
  refine zsk (zibn (ztn (zrg ?_)))
  refine H.valE 44 (ii (IntKind.i64.wrap (0 + 1))) (ii 1) (by kernel_rfl) (by kernel_rfl) (by kernel_rfl) fun a H => ?_
  refine H.ge HP [(10, (ii 1))] [] fun a H => ?_
  refine ztn ?_
  exact ⟨0, by omega, .inr ⟨rfl, H.keep (by kernel_rfl), hjt g43p⟩⟩
 have HP := Hp.start w_1
 refine zsq (zrg ?_)
 refine H.ge HP [(11, (.bool false))] [] fun a H => ?_
 refine ztn (zsq ?_)
 refine w_iff H rfl ?_
 refine wp_exit (then_exit (then_exit ?_))
 refine w_exit_here ?_
 refine H.end0 (fn := Tryz.f150) Tryz.results150  ?_
 exact ⟨⟨_, rfl⟩, .inl hJ1⟩
end Go.Proofs.YthpbaaadkhdifaaGreatDoor
