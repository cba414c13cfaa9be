/- Part 8 of the proofs: SgA, SgB, SfE, SgC, Open3, OpenB, SgOp. -/
import Derived.Deep.Slices
import Derived.Deep.Fields
import Derived.ChangeSame
import Derived.ChangeArms
import Derived.SizedLaws
import Derived.OpenShut
import Derived.Test.YthpbaaadkhdifaaGreatDoorZcg
namespace Go.Proofs.YthpbaaadkhdifaaGreatDoor
set_option maxRecDepth 100000
set_option maxHeartbeats 4000000
open Go.ChangeShapes Go.WideShapes Go.ChangeAt Go.RowKit Go.Shelf
set_option linter.unusedVariables false
set_option linter.unusedSimpArgs false
structure LibOk (li : List AstA) : Prop where
  its : li.map (·.item) = libItems
  pics : ∀ a ∈ li, picsOk 30 a.pics
theorem LibOk.len {li : List AstA} (h : LibOk li) : li.length = 3 := by
  have := congrArg List.length h.its
  rwa [List.length_map] at this
theorem LibOk.max {li : List AstA} (h : LibOk li) : li.length ≤ maxLen := by rw [h.len]; decide
theorem LibOk.pl {li : List AstA} (h : LibOk li) : ∀ a ∈ li, a.pics.length ≤ 2000000 := fun a ha => by have := (h.pics a ha).1; omega
theorem LibOk.dl {li : List AstA} (h : LibOk li) : ∀ a ∈ li, ∀ q ∈ a.pics, q.data.size ≤ 400 := fun a ha q hq => ((h.pics a ha).2.1 q hq).1
theorem opt_pair {α β γ : Type} {f : α → β} {g : α → γ} {x y : Option α} (h : x.map (fun a => (f a, g a)) = y.map (fun a => (f a, g a))) : (x = none ∧ y = none) ∨ ∃ a b, x = some a ∧ y = some b ∧ f a = f b ∧ g a = g b := by
  cases x <;> cases y
  · exact .inl ⟨rfl, rfl⟩
  · cases h
  · cases h
  · simp only [Option.map_some, Option.some.injEq, Prod.mk.injEq] at h
    exact .inr ⟨_, _, rfl, rfl, h⟩
theorem findA_same {it : Int} : ∀ {l l' : List AstA}, sameA l' l → (findA it l').map (fun a => (a.item, a.pics)) = (findA it l).map (fun a => (a.item, a.pics))
  | [], [], _ => rfl
  | [], _ :: _, h => by cases h
  | _ :: _, [], h => by cases h
  | a :: l, b :: l', h => by
    unfold sameA at h
    simp only [List.map_cons, List.cons.injEq, Prod.mk.injEq] at h
    obtain ⟨⟨h1, h2⟩, h3⟩ := h
    unfold findA
    rw [h1]
    split
    · simp [h1, h2]
    · exact findA_same h3
theorem genuine_same {l l' : List AstA} (h : sameA l' l) (u : Un) : genuineP l' u = genuineP l u := by
  have hf := findA_same (it := u.item) h
  unfold genuineP
  rcases opt_pair hf with ⟨h1, h2⟩ | ⟨a, b, h1, h2, _, h3⟩
  · rw [h1, h2]
  · rw [h1, h2]
    simp only [h3]
theorem enters_same {l l' : List AstA} (h : sameA l' l) (f : Int) (u : Un) : entersS l' f u = entersS l f u := by
  have hf := findA_same (it := u.item) h
  unfold entersS
  rcases opt_pair hf with ⟨h1, h2⟩ | ⟨a, b, h1, h2, _, h3⟩
  · rw [h1, h2]
  · rw [h1, h2]
    simp only [h3]
theorem accept_same {l l' : List AstA} (h : sameA l' l) : acceptP l' = acceptP l := by
  funext fl c f s
  unfold acceptP
  split
  · rfl
  · rw [genuine_same h, enters_same h]
theorem choose_same {l l' : List AstA} (h : sameA l' l) : chooseC l' = chooseC l := by
  funext fl c f a b
  unfold chooseC
  rw [accept_same h]
theorem all_same {l l' : List AstA} (h : sameA l' l) : allC l' = allC l := by
  funext fl chs fr a b
  show _ = _
  unfold allC
  rw [choose_same h]
theorem ite_some {α : Type} {P : Prop} [Decidable P] {a u : α} (h : (if P then some a else none) = some u) : P ∧ a = u := by
  by_cases hp : P
  · rw [if_pos hp] at h; exact ⟨hp, Option.some.inj h⟩
  · rw [if_neg hp] at h; cases h
theorem accept_facts {li : List AstA} {fl : Option Int} {c : Ch} {f : Int} {s : List UInt8} {u : Un} (h : acceptP li fl c f s = some u) :
    unpackP c.num c.den s = some u ∧ (u.channel = c.number ∧ u.frame = f) ∧ genuineP li u = true ∧ (∃ x, fl = some x ∧ x ≤ u.version) ∧ (u.item = 0 ∨ contS c u = true ∨ entersS li c.full u = true) := by
  unfold acceptP at h
  cases hu : unpackP c.num c.den s with
  | none => rw [hu] at h; cases h
  | some u' =>
    rw [hu] at h
    simp only at h
    obtain ⟨hh, rfl⟩ := ite_some h
    · obtain ⟨h1, h2, h3, h4⟩ := hh
      simp only [Bool.and_eq_true, beq_iff_eq] at h1
      refine ⟨rfl, h1, h2, ?_, ?_⟩
      · cases fl with
        | none => cases h3
        | some x => exact ⟨x, rfl, of_decide_eq_true h3⟩
      · simp only [Bool.or_eq_true, beq_iff_eq] at h4
        exact h4
theorem take_cases (c : Ch) (f : Int) (x y : Option Un) : (takeP c f x y).1 = slateU c.number f ∨ x = some (takeP c f x y).1 ∨ y = some (takeP c f x y).1 := by
  cases x <;> cases y
  · exact .inl rfl
  · exact .inr (.inr rfl)
  · exact .inr (.inl rfl)
  · simp only [takeP]
    split
    · exact .inr (.inr rfl)
    · exact .inr (.inl rfl)
theorem genuine_slate {li : List AstA} {u : Un} (h : genuineP li u = true) (h0 : u.item = 0) : u.index = 0 ∧ u.key = true ∧ u.data = [] := by
  unfold genuineP at h
  rw [if_pos h0] at h
  simpa using h
theorem genuine_pic {li : List AstA} {u : Un} (h : genuineP li u = true) (h0 : u.item ≠ 0) : ∃ a, findA u.item li = some a ∧ 0 ≤ u.index ∧ u.index < (a.pics.length : Int) ∧ (a.pics.getD u.index.toNat picZ).key = u.key ∧ (a.pics.getD u.index.toNat picZ).str = u.data := by
  unfold genuineP at h
  rw [if_neg h0] at h
  split at h
  · cases h
  · rename_i a ha
    simp only [Bool.and_eq_true, decide_eq_true_eq, beq_iff_eq] at h
    exact ⟨a, ha, h.1, h.2.1, h.2.2.1, h.2.2.2⟩
structure ChOk (nm nb : Int) (c : Ch) : Prop where
  num : c.num = nm
  den : c.den = 1
  nb : c.number = nb
  lo : 0 ≤ c.index
  hi : c.index ≤ 29
  f0 : 0 ≤ c.full
  f1 : c.full ≤ 1000
theorem vstep_zero {f : Int} (h0 : 0 ≤ f) (h1 : f ≤ 1000) : vstep f 0 = some (min 1000 (f + 100) - 0) := by
  unfold vstep; rw [if_neg (by omega), if_neg (by omega)]
theorem accept_step {li : List AstA} {fl : Option Int} {c : Ch} {f : Int} {s : List UInt8} {u : Un} (h : acceptP li fl c f s = some u) (h0 : 0 ≤ c.full) (h1 : c.full ≤ 1000) : (vstep c.full (u.data.length : Int)).isSome = true := by
  obtain ⟨_, _, hg, _, h⟩ := accept_facts h
  by_cases hi : u.item = 0
  · rw [(genuine_slate hg hi).2.2]
    show (vstep c.full 0).isSome = true
    rw [vstep_zero h0 h1]; rfl
  · rcases h with h | h | h
    · exact absurd h hi
    · unfold contS at h
      simp only [Bool.and_eq_true] at h
      exact h.2.2
    · obtain ⟨a, ha, hx0, hx1, _, hs⟩ := genuine_pic hg hi
      unfold entersS at h
      rw [ha] at h
      simp only [Bool.and_eq_true] at h
      obtain ⟨_, _, _, h⟩ := h
      have hx : u.index.toNat < a.pics.length := by omega
      have hd : (sizesP a.pics).drop u.index.toNat = (u.data.length : Int) :: (sizesP a.pics).drop (u.index.toNat + 1) := by
        have hl : u.index.toNat < (sizesP a.pics).length := by rw [List.length_map]; exact hx
        rw [List.drop_eq_getElem_cons hl]
        congr 1
        rw [List.getElem_map]
        rw [← hs, List.getD_eq_getElem?_getD, List.getElem?_eq_getElem hx]
        show ((a.pics[u.index.toNat].data.data.size : Nat) : Int) = ((a.pics[u.index.toNat].data.data.toList.length : Nat) : Int)
        rw [Array.length_toList]
      rw [hd] at h
      split at h
      · cases h
      · rename_i nd hn
        have hr := (need_law _ c.full h0 h1).2 ⟨nd, hn, of_decide_eq_true h⟩
        simp only [vrun] at hr
        cases hv : vstep c.full (u.data.length : Int) with
        | none => rw [hv] at hr; cases hr
        | some g => rfl
structure Chosen (li : List AstA) (fl : Option Int) (c : Ch) (f : Int) (a b : List UInt8) (u : Un) (g tk : Int) : Prop where
  eq : chooseC li fl c f a b = (u, ⟨u.item, u.index, g, tk, c.number, c.num, c.den⟩)
  step : vstep c.full (u.data.length : Int) = some g
  gen : genuineP li u = true
  ch : u.channel = c.number
  fr : u.frame = f
  lo : 0 ≤ u.index
  hi : u.index ≤ 29
  dec : u.key = true ∨ (u.item = c.item ∧ u.index = c.index + 1)
  src : u.item = 0 ∨ ∃ s x, (s = a ∨ s = b) ∧ unpackP c.num c.den s = some u ∧ fl = some x ∧ x ≤ u.version
theorem chosen {li : List AstA} {nm nb : Int} {c : Ch} (hl : LibOk li) (hc : ChOk nm nb c) (fl : Option Int) (f : Int) (a b : List UInt8) : ∃ u g tk, Chosen li fl c f a b u g tk := by
  have key : ∀ u : Un, (u = slateU c.number f ∨ ∃ s, (s = a ∨ s = b) ∧ acceptP li fl c f s = some u) → ∃ g, (vstep c.full (u.data.length : Int) = some g) ∧ genuineP li u = true ∧ u.channel = c.number ∧ u.frame = f ∧ 0 ≤ u.index ∧ u.index ≤ 29 ∧ (u.key = true ∨ (u.item = c.item ∧ u.index = c.index + 1)) ∧ (u.item = 0 ∨ ∃ s x, (s = a ∨ s = b) ∧ unpackP c.num c.den s = some u ∧ fl = some x ∧ x ≤ u.version) := by
    intro u hu
    rcases hu with rfl | ⟨s, hs, hu⟩
    · exact ⟨_, vstep_zero hc.f0 hc.f1, rfl, rfl, rfl, Int.le_refl 0, (by show (0 : Int) ≤ 29; decide), .inl rfl, .inl rfl⟩
    · have hst := accept_step hu hc.f0 hc.f1
      obtain ⟨h1, ⟨h2, h3⟩, h4, ⟨x, h5, h6⟩, h7⟩ := accept_facts hu
      obtain ⟨g, hg⟩ := Option.isSome_iff_exists.1 hst
      have hx : 0 ≤ u.index ∧ u.index ≤ 29 := by
        by_cases hi : u.item = 0
        · rw [(genuine_slate h4 hi).1]; omega
        · obtain ⟨p, hp, i0, i1, _⟩ := genuine_pic h4 hi
          have := (hl.pics p (findA_mem hp).1).1
          omega
      refine ⟨g, hg, h4, h2, h3, hx.1, hx.2, ?_, .inr ⟨s, x, hs, h1, h5, h6⟩⟩
      rcases h7 with h7 | h7 | h7
      · exact .inl (genuine_slate h4 h7).2.1
      · unfold contS at h7
        simp only [Bool.and_eq_true, beq_iff_eq] at h7
        exact .inr ⟨h7.1, h7.2.1⟩
      · unfold entersS at h7
        split at h7
        · cases h7
        · simp only [Bool.and_eq_true] at h7
          exact .inl h7.1
  have hk := take_cases c f (acceptP li fl c f a) (acceptP li fl c f b)
  obtain ⟨g, h1, h2, h3, h4, h5, h6, h7, h8⟩ := key (takeP c f (acceptP li fl c f a) (acceptP li fl c f b)).1 (by
    rcases hk with h | h | h
    · exact .inl h
    · exact .inr ⟨a, .inl rfl, h⟩
    · exact .inr ⟨b, .inr rfl, h⟩)
  refine ⟨_, g, (takeP c f (acceptP li fl c f a) (acceptP li fl c f b)).2, ?_, h1, h2, h3, h4, h5, h6, h7, h8⟩
  show (_, showC c _ _) = _
  unfold showC
  rw [h1]; rfl
theorem Chosen.ok {li : List AstA} {fl : Option Int} {nm nb : Int} {c : Ch} {f : Int} {a b : List UInt8} {u : Un} {g tk : Int} (h : Chosen li fl c f a b u g tk) (hc : ChOk nm nb c) : ChOk nm nb ⟨u.item, u.index, g, tk, c.number, c.num, c.den⟩ :=
  ⟨hc.num, hc.den, hc.nb, h.lo, h.hi, (vstep_bd h.step).2.2.2.2.1, (vstep_bd h.step).2.2.2.2.2.1⟩
theorem unpack_x {rn rd : Int} {s : List UInt8} : unpackP rn rd (120 :: s) = none := by
  cases h : unpackP rn rd (120 :: s) with
  | none => rfl
  | some u =>
    exfalso
    have hp := pack_unpack h
    obtain ⟨_, hv, hl⟩ := packP_some hp
    have := pk_0 (S := streamU rn rd u) (ch := u.channel.toNat) (fr := u.frame.toNat) (j := 0) (by have := streamU_pos rn rd u; unfold pktN; omega)
    rw [← hl] at this
    have h2 : (120 :: s).getD (64 * 0 + 0) 0 = 120 := rfl
    rw [h2] at this
    exact absurd this (by decide)
theorem libraryL_any (XA : Option Addr) (xc : Nat) (xs : List Int) (w : World) (hxl : xs.length ≤ 1000000000000000) (hx : ∀ n ∈ xs, -9223372036854775808 ≤ n ∧ n ≤ 9223372036854775807) (hxr : IsRow 1 i1C w XA xs) :
    Calls Tryz.prog 11 #[.slice XA xs.length xc] w fun e w' => ∃ LA lc li, e = .returned (.slice LA li.length lc) ∧ LibOk li ∧ IsAsts w' LA li.length li ∧ Below w.heap.size w w' :=
  (library_any XA xc xs w hxl hx hxr).mono fun e w' ⟨A, c, li, he, hi, hp, hr, hb⟩ => by
    have hL : LibOk li := ⟨hi, hp⟩
    exact ⟨A, c, li, by rw [hL.len]; exact he, hL, ⟨⟨rfl, Rd.of_own hr.1⟩, fun a ha => (hr.2 a ha).1⟩, hb⟩
abbrev pl0 (IA : Option Addr) (ic : Nat) : PlS := ⟨3, 50, 500, IA, ic⟩
theorem plansL_any (w : World) : Calls Tryz.prog 12 #[] w fun e w' => ∃ AP cp I0 i0 I1 i1, e = .returned (.slice AP 2 cp) ∧ 2 ≤ cp ∧ IsRow 13 plnC w' AP [pl0 I0 i0, pl1 I1 i1] ∧ (∀ p ∈ [pl0 I0 i0, pl1 I1 i1], IsRow 5 itC w' p.IA its3) ∧ Below w.heap.size w w' :=
  (plans_any w).mono fun e w' ⟨A, c, ps, he, hk, hr, hb⟩ => by
    match ps, hk, hr with
    | [⟨p1, p2, p3, I0, i0⟩, ⟨q1, q2, q3, I1, i1⟩], hk, hr =>
      simp only [List.map_cons, List.map_nil, PlS.key, plKeys, List.cons.injEq, Prod.mk.injEq, and_true] at hk
      obtain ⟨⟨rfl, rfl, rfl⟩, rfl, rfl, rfl⟩ := hk
      exact ⟨A, c, I0, i0, I1, i1, he, (own_facts hr.1).1, Rd.of_own hr.1, fun p hp => (hr.2 p hp).1, hb⟩
    | [], hk, _ => cases hk
    | [_], hk, _ => simp [plKeys] at hk
    | _ :: _ :: _ :: _, hk, _ => simp [plKeys] at hk
theorem pl_at {w : World} {A : Option Addr} {p q : PlS} {l : List PlS} (h : IsRow 13 plnC w A (p :: l)) : ∃ b o, A = some ⟨b, o, none⟩ := by
  obtain ⟨b, o, _, hA, _⟩ := IsRow.get plnC_size h (i := 0) (Nat.zero_lt_succ _)
  exact ⟨b, o, hA⟩
def plOk (ps : List PlS) : Prop := (∀ p ∈ ps, (0 ≤ p.c ∧ p.c ≤ 39) ∧ rateOk p.nm 1 = true) ∧ okP [] ps = true ∧ 1 ≤ ps.length ∧ ps.length ≤ 40
theorem pl0_ok1 {IA : Option Addr} {ic : Nat} : (0 ≤ (pl0 IA ic).c ∧ (pl0 IA ic).c ≤ 39) ∧ rateOk (pl0 IA ic).nm 1 = true := ⟨⟨(by show (0 : Int) ≤ 3; decide), (by show (3 : Int) ≤ 39; decide)⟩, by kernel_rfl⟩
theorem pl1_ok1 {IA : Option Addr} {ic : Nat} : (0 ≤ (pl1 IA ic).c ∧ (pl1 IA ic).c ≤ 39) ∧ rateOk (pl1 IA ic).nm 1 = true := pl1_ok _ (List.mem_singleton.2 rfl)
theorem plOk0 {IA : Option Addr} {ic : Nat} : plOk [pl0 IA ic] := ⟨fun p hp => by rcases List.mem_singleton.1 hp with rfl; exact pl0_ok1, by kernel_rfl, Nat.le_refl 1, (by show 1 ≤ 40; decide)⟩
theorem plOk1 {IA : Option Addr} {ic : Nat} : plOk [pl1 IA ic] := ⟨pl1_ok, by kernel_rfl, Nat.le_refl 1, (by show 1 ≤ 40; decide)⟩
theorem plOk2 {IA IB : Option Addr} {ic id : Nat} : plOk [pl0 IA ic, pl1 IB id] := ⟨fun p hp => by
  rcases List.mem_cons.1 hp with rfl | hp
  · exact pl0_ok1
  · exact pl1_ok p hp, by kernel_rfl, (by show 1 ≤ 2; decide), (by show 2 ≤ 40; decide)⟩
theorem lib_item {li : List AstA} (h : LibOk li) {a : AstA} (ha : a ∈ li) : 1 ≤ a.item ∧ a.item ≤ 8 := by
  have : a.item ∈ libItems := by rw [← h.its]; exact List.mem_map_of_mem ha
  unfold libItems at this
  simp only [List.mem_cons, List.not_mem_nil, or_false] at this
  omega
theorem new_true {ps : List PlS} {li : List AstA} (hl : LibOk li) (hp : plOk ps) : newP ps li = true := by
  unfold newP
  rw [decide_eq_true hp.2.2.1, decide_eq_true hp.2.2.2, hp.2.1]
  simp only [Bool.true_and]
  exact List.all_eq_true.2 fun a ha => picsOk_valid (hl.pics a ha) (lib_item hl ha).1 (by have := (lib_item hl ha).2; omega)
theorem newL_any (AP : Option Addr) (cp lc : Nat) (ps : List PlS) (LA : Option Addr) (li : List AstA) (w : World) (hp : plOk ps) (hl : LibOk li) (hL : Laid w) (hits : ∀ p ∈ ps, IsRow 5 itC w p.IA its3) (hrp : IsRow 13 plnC w AP ps) (hlib : IsAsts w LA li.length li) :
    Calls Tryz.prog 13 #[.slice AP ps.length cp, .slice LA li.length lc] w fun e w' => ∃ bs bc cc SA sc l' rest, e = .returned (.tuple #[.pointer (some ⟨bs, 0, none⟩), .int .i64 0]) ∧ SelN ps li w.heap.size bs bc cc SA sc l' rest w' ∧ Below w.heap.size w w' :=
  (new_any AP cp lc ps LA li w hp.1 (by rw [hl.len]; decide) hL hits hrp hlib hl.max hl.pl).mono fun e w' h => by
    rcases h with ⟨h, _⟩ | ⟨_, h⟩
    · rw [new_true hl hp] at h; cases h
    · exact h
abbrev uv (u : Un) (B : Option Addr) (d : Nat) : Un := ⟨u.channel, u.frame, u.version, u.item, u.index, u.key, u.data, u.regions, u.gain, u.caption, u.os, u.of, B, d, []⟩
theorem uv_of {V u : Un} (h : bareU V = u) (ha : V.al = []) : V = uv u V.A V.c ∧ u.al = [] := by
  subst h
  cases V
  simp only at ha
  subst ha
  exact ⟨rfl, rfl⟩
abbrev chN (c : Ch) (u : Un) (g tk : Int) : Ch := ⟨u.item, u.index, g, tk, c.number, c.num, c.den⟩
def StrOk (nm : Int) (s : List UInt8) : Prop := s.length ≤ 1000000 ∧ ∀ u, unpackP nm 1 s = some u → u.al = []
theorem SentP.ok {nm : Int} {s : List UInt8} (h : SentP nm 1 s) : StrOk nm s := ⟨Nat.le_succ_of_le h.1, fun u hu => (h.2 u hu).1⟩
theorem SentP.okx {nm : Int} {s : List UInt8} (h : SentP nm 1 s) : StrOk nm (120 :: s) := ⟨Nat.succ_le_succ h.1, fun u hu => by rw [unpack_x] at hu; cases hu⟩
theorem strOk_nil (nm : Int) : StrOk nm [] := (sent_nil nm 1).ok
structure Sel1 (l' li : List AstA) : Prop where
  ok : LibOk li
  same : sameA l' li
  len : l'.length ≤ maxLen
  pics : ∀ a ∈ l', a.pics.length ≤ 2000000
theorem SelN.sel1 {ps : List PlS} {li : List AstA} {n0 bs bc cc : Nat} {SA : Option Addr} {sc : Nat} {l' : List AstA} {rest : List Value} {w : World} (h : SelN ps li n0 bs bc cc SA sc l' rest w) (hl : LibOk li) : Sel1 l' li := ⟨hl, h.same, h.len, h.pics⟩
theorem row_new {w w' : World} {e : TypeId} {size n c : Nat} {α : Type} {cs : α → Array Value} {A : Option Addr} {us : List α} (h : (rowsR w.heap.size e size cs okT feF (.slice A n c) us).F w') {q : Nat} (hq : rowFp n A q) : w.heap.size ≤ q := by
  obtain ⟨_, off, ea⟩ := hq
  exact (own_lt h.1 q (by rw [ea]; rfl)).2
theorem chooseL1 (bs bc cc sc : Nat) (SA : Option Addr) {l' li : List AstA} (hs : Sel1 l' li) (hd : Bool) (at_ od fr : Int) (rest : List Value) {nm nb : Int} (c : Ch) (hc : ChOk nm nb c) (AA AB : Option Addr) (ca cb : Nat) (la lb : List (List UInt8)) (w : World)
    (hla : ∀ s ∈ la, StrOk nm s) (hlb : ∀ s ∈ lb, StrOk nm s) (hat : 0 ≤ at_ ∧ at_ ≤ 9223372036854775807) (hfr : -9223372036854775808 ≤ fr ∧ fr ≤ 9223372036854775807) (hne : bs ≠ bc) (hcl : ¬ libFp SA l' bc) (h2c : 2 ≤ bc) (hca : ¬ rowFp la.length AA bc) (hcb : ¬ rowFp lb.length AB bc) (hL : Laid w) (hlib : IsAsts w SA l'.length l')
    (hS : Box w bs 111 (selL bc 1 cc SA l'.length sc hd at_ od).toArray) (hC : Box w bc 115 (flat chC [c] ++ rest).toArray) (hsa : IsRow 1 strC w AA la) (hsb : IsRow 1 strC w AB lb) :
    Calls Tryz.prog 20 #[.pointer (some ⟨bs, 0, none⟩), .int .i64 fr, .slice AA la.length ca, .slice AB lb.length cb] w fun e w' => ∃ A k u g tk B d, e = .returned (.slice A 1 k) ∧ Chosen li (floorP hd at_ od fr) c fr (la.getD 0 []) (lb.getD 0 []) u g tk ∧ u.al = [] ∧ IsRow 13 unC w' A [uv u B d] ∧ (∀ q, rowFp 1 A q → w.heap.size ≤ q) ∧ Box w' bc 115 (flat chC [chN c u g tk] ++ rest).toArray ∧ w.grownBy w' (some bc) := by
  have hcd := hc.den
  have hcn := hc.num
  have hgd : ∀ (l : List (List UInt8)), (∀ s ∈ l, StrOk nm s) → StrOk nm (l.getD 0 []) := fun l h => by
    cases l with
    | nil => exact strOk_nil _
    | cons s l => exact h s (List.mem_cons_self ..)
  refine (chooseA_any bs bc cc sc SA l' hd at_ od fr rest [c] AA AB ca cb la lb w Nat.zero_lt_one (by show 1 ≤ 40; decide) hat hfr (fun s hs => (hla s hs).1) (fun s hs => (hlb s hs).1) ?_ hne hcl h2c hca hcb hL hlib hs.len hs.pics hS hC hsa hsb).mono fun e w' h => ?_
  · intro i c' hi
    match i, hi with
    | 0, hi =>
      cases hi
      rw [hcn, hcd]
      exact ⟨⟨by have := hc.lo; omega, by have := hc.hi; omega⟩, (hgd la hla).2, (hgd lb hlb).2⟩
  · obtain ⟨u, g, tk, hch⟩ := chosen hs.ok hc (floorP hd at_ od fr) fr (la.getD 0 []) (lb.getD 0 [])
    have heq : allC l' (floorP hd at_ od fr) [c] fr la lb = [(u, chN c u g tk)] := by
      rw [all_same hs.same]
      show [chooseC li _ c fr _ _] = _
      rw [hch.eq]
    rw [heq] at h
    obtain ⟨A, k, us, he, hr, hu, ha, hb, hg⟩ := h
    match us, hu, hr, ha, he with
    | [V], hu, hr, ha, he =>
      simp only [List.map_cons, List.map_nil, List.cons.injEq, and_true] at hu
      obtain ⟨hV, hal⟩ := uv_of hu (ha V (List.mem_cons_self ..))
      refine ⟨A, k, u, g, tk, V.A, V.c, he, hch, hal, ?_, fun q hq => row_new hr hq, hb, hg⟩
      rw [← hV]
      exact IsRow.ofOwn hr rfl
    | [], hu, _, _, _ => cases hu
    | _ :: _ :: _, hu, _, _, _ => simp at hu
theorem chooseL2 (bs bc cc sc : Nat) (SA : Option Addr) {l' li : List AstA} (hs : Sel1 l' li) (hd : Bool) (at_ od fr : Int) (rest : List Value) {nm nb nm2 nb2 : Int} (c d : Ch) (hc : ChOk nm nb c) (hc2 : ChOk nm2 nb2 d) (AA AB : Option Addr) (ca cb : Nat) (la lb : List (List UInt8)) (w : World)
    (hla : (∀ s ∈ la, s.length ≤ 1000000) ∧ StrOk nm (la.getD 0 []) ∧ StrOk nm2 (la.getD 1 [])) (hlb : (∀ s ∈ lb, s.length ≤ 1000000) ∧ StrOk nm (lb.getD 0 []) ∧ StrOk nm2 (lb.getD 1 [])) (hat : 0 ≤ at_ ∧ at_ ≤ 9223372036854775807) (hfr : -9223372036854775808 ≤ fr ∧ fr ≤ 9223372036854775807) (hne : bs ≠ bc) (hcl : ¬ libFp SA l' bc) (h2c : 2 ≤ bc) (hca : ¬ rowFp la.length AA bc) (hcb : ¬ rowFp lb.length AB bc) (hL : Laid w) (hlib : IsAsts w SA l'.length l')
    (hS : Box w bs 111 (selL bc 2 cc SA l'.length sc hd at_ od).toArray) (hC : Box w bc 115 (flat chC [c, d] ++ rest).toArray) (hsa : IsRow 1 strC w AA la) (hsb : IsRow 1 strC w AB lb) :
    Calls Tryz.prog 20 #[.pointer (some ⟨bs, 0, none⟩), .int .i64 fr, .slice AA la.length ca, .slice AB lb.length cb] w fun e w' => ∃ A k u g tk u2 g2 tk2 B e1 B2 e2, e = .returned (.slice A 2 k) ∧ Chosen li (floorP hd at_ od fr) c fr (la.getD 0 []) (lb.getD 0 []) u g tk ∧ Chosen li (floorP hd at_ od fr) d fr (la.getD 1 []) (lb.getD 1 []) u2 g2 tk2 ∧ u.al = [] ∧ u2.al = [] ∧ IsRow 13 unC w' A [uv u B e1, uv u2 B2 e2] ∧ (∀ q, rowFp 2 A q → w.heap.size ≤ q) ∧ Box w' bc 115 (flat chC [chN c u g tk, chN d u2 g2 tk2] ++ rest).toArray ∧ w.grownBy w' (some bc) := by
  refine (chooseA_any bs bc cc sc SA l' hd at_ od fr rest [c, d] AA AB ca cb la lb w (by show 0 < 2; decide) (by show 2 ≤ 40; decide) hat hfr hla.1 hlb.1 ?_ hne hcl h2c hca hcb hL hlib hs.len hs.pics hS hC hsa hsb).mono fun e w' h => ?_
  · intro i c' hi
    match i, hi with
    | 0, hi =>
      cases hi
      rw [hc.num, hc.den]
      exact ⟨⟨by have := hc.lo; omega, by have := hc.hi; omega⟩, hla.2.1.2, hlb.2.1.2⟩
    | 1, hi =>
      cases hi
      rw [hc2.num, hc2.den]
      exact ⟨⟨by have := hc2.lo; omega, by have := hc2.hi; omega⟩, hla.2.2.2, hlb.2.2.2⟩
  · obtain ⟨u, g, tk, hch⟩ := chosen hs.ok hc (floorP hd at_ od fr) fr (la.getD 0 []) (lb.getD 0 [])
    obtain ⟨u2, g2, tk2, hch2⟩ := chosen hs.ok hc2 (floorP hd at_ od fr) fr (la.getD 1 []) (lb.getD 1 [])
    have heq : allC l' (floorP hd at_ od fr) [c, d] fr la lb = [(u, chN c u g tk), (u2, chN d u2 g2 tk2)] := by
      rw [all_same hs.same]
      show [chooseC li _ c fr _ _, chooseC li _ d fr _ _] = _
      rw [hch.eq, hch2.eq]
    rw [heq] at h
    obtain ⟨A, k, us, he, hr, hu, ha, hb, hg⟩ := h
    match us, hu, hr, ha, he with
    | [V, V2], hu, hr, ha, he =>
      simp only [List.map_cons, List.map_nil, List.cons.injEq, and_true] at hu
      obtain ⟨hV, hal⟩ := uv_of hu.1 (ha V (List.mem_cons_self ..))
      obtain ⟨hV2, hal2⟩ := uv_of hu.2 (ha V2 (List.mem_cons_of_mem _ (List.mem_cons_self ..)))
      refine ⟨A, k, u, g, tk, u2, g2, tk2, V.A, V.c, V2.A, V2.c, he, hch, hch2, hal, hal2, ?_, fun q hq => row_new hr hq, hb, hg⟩
      rw [← hV, ← hV2]
      exact IsRow.ofOwn hr rfl
    | [], hu, _, _, _ => cases hu
    | [_], hu, _, _, _ => simp at hu
    | _ :: _ :: _ :: _, hu, _, _, _ => simp at hu
theorem sane_any (w : World) (hL : Laid w) :
  Calls Tryz.prog 10 #[] w fun e w' => e = .returned (.bool true) ∧ Below w.heap.size w w' := by
 have HP := ((Hp.start w).keepF (laidK) hL laidK_ok (fun k hk => ⟨hL.lt k hk, fun x hx => by cases hx⟩))
 refine w_enter 200 [] Tryz.func10 rfl Tryz.ntmps10 (by kernel_rfl) (by kernel_rfl) fun a H => ?_
 refine zsq (zrg ?_)
 refine H.ge HP [(0, (.bool false))] [] fun a H => ?_
 refine ztn (zsq (zrg ?_))
 refine H.cl 22 (Tryz.call12 _ _) (plansS_any w) ?_
 rintro e w_1 ⟨AP, cp, IA, ic, rfl, hcp, hpr, hpi, hbp⟩
 refine ⟨_, rfl, ?_⟩
 intro a H
 have HP := ((HP.next hbp).keepF (rowF 13 plnC (dropA AP cp 1 13) [pl1 IA ic]) hpr (rowF_ok _ _ _ _) (fun k hk => ⟨hpr.lt k hk, fun x hx => by cases hx⟩)).keepF (itsK [pl1 IA ic]) hpi (itsK_ok _) (fun k hk => ⟨itsK_lt hpi hk, fun x hx => by cases hx⟩)
 refine H.u 23 (.slice (dropA AP cp 1 13) 1 (cp - 1)) (ex_sliceLo (len := 2) (i := 1) (sz := 13) (by kernel_rfl) (by kernel_rfl) (by kernel_rfl) (by kernel_rfl) rfl (by decide)) fun a H => ?_
 refine H.ge HP [(1, (.slice (dropA AP cp 1 13) 1 (cp - 1)))] [] fun a H => ?_
 refine ztn (zsq (zrg ?_))
 refine H.go HP 2 [(24, (.agg #[(.bool true), (.string (bstr ([107]))), (ii 0)])), (25, (.agg #[(.bool false), (.string (bstr ([112]))), (ii 0)]))] [] fun a H => H.alloc HP 26 (fun b => (.slice (some ⟨b, 0, none⟩) 2 2)) 96 [(.bool true), (.string (bstr ([107]))), (ii 0), (.bool false), (.string (bstr ([112]))), (ii 0)] (by kernel_rfl) (fun w => by kernel_rfl) fun b_2 w_3 a H HP => H.go HP 1 [(27, (.agg #[(ii 7), (.slice (some ⟨b_2, 0, none⟩) 2 2)]))] [] fun a H => H.alloc HP 28 (fun b => (.slice (some ⟨b, 0, none⟩) 1 1)) 91 [(ii 7), (.slice (some ⟨b_2, 0, none⟩) 2 2)] (by kernel_rfl) (fun w => by kernel_rfl) fun b_4 w_5 a H HP => ?_
 refine H.ge HP [(2, (.slice (some ⟨b_4, 0, none⟩) 1 1))] [] fun a H => ?_
 have hlib : IsAsts w_5 (some ⟨b_4, 0, none⟩) 1 (libS (some ⟨b_2, 0, none⟩) 2) := libS_box (HP.at_ 0 rfl) (HP.at_ 1 rfl)
 have HP := ((HP.tail rfl).tail rfl).keepF (astsK (some ⟨b_4, 0, none⟩) (libS (some ⟨b_2, 0, none⟩) 2)) hlib (fun _ _ h hk hs => IsAsts.keep h hk hs) (fun k hk => ⟨IsAsts.lt hlib hk, fun x hx => by cases hx⟩)
 refine ztn (zsq (zrg ?_))
 refine H.go HP 1 [(29, (.agg #[(ii 1), (ii 7), (ii 5), (ii 2), (ii 0), (ii 3), (.slice none 0 0)]))] [] fun a H => H.alloc HP 30 (fun b => (.slice (some ⟨b, 0, none⟩) 1 1)) 100 [(ii 1), (ii 7), (ii 5), (ii 2), (ii 0), (ii 3), (.slice none 0 0)] (by kernel_rfl) (fun w => by kernel_rfl) fun b_6 w_7 a H HP => H.go HP 1 [(31, (.agg #[(ii 0), (ii 0), (ii 0), (ii 0), (.slice none 0 0), (ii 0), (ii 0), (ii 0), (ii 0), (.slice none 0 0), (.slice none 0 0), (.slice none 0 0), (.slice none 0 0), (.slice (some ⟨b_6, 0, none⟩) 1 1), (.slice none 0 0), (ii 0), (.slice none 0 0), (ii 2)]))] [] fun a H => H.al HP 3 104 [(ii 0), (ii 0), (ii 0), (ii 0), (.slice none 0 0), (ii 0), (ii 0), (ii 0), (ii 0), (.slice none 0 0), (.slice none 0 0), (.slice none 0 0), (.slice none 0 0), (.slice none 0 0), (.slice none 0 0), (ii 0), (.slice none 0 0), (ii 0)] fun b_8 w_9 a H HP => H.st HP 0 b_8 0 18 104 true (.agg #[(ii 0), (ii 0), (ii 0), (ii 0), (.slice none 0 0), (ii 0), (ii 0), (ii 0), (ii 0), (.slice none 0 0), (.slice none 0 0), (.slice none 0 0), (.slice none 0 0), (.slice (some ⟨b_6, 0, none⟩) 1 1), (.slice none 0 0), (ii 0), (.slice none 0 0), (ii 2)]) [bx b_8 104 [(ii 0), (ii 0), (ii 0), (ii 0), (.slice none 0 0), (ii 0), (ii 0), (ii 0), (ii 0), (.slice none 0 0), (.slice none 0 0), (.slice none 0 0), (.slice none 0 0), (.slice (some ⟨b_6, 0, none⟩) 1 1), (.slice none 0 0), (ii 0), (.slice none 0 0), (ii 2)] true, bx b_6 100 [(ii 1), (ii 7), (ii 5), (ii 2), (ii 0), (ii 3), (.slice none 0 0)] true] rfl fun w_10 a H HP => ?_
 refine znl ?_
 have hbe := HP.at_ 1 rfl
 have hb3 := HP.at_ 0 rfl
 have HP := (((HP.tail rfl).tail rfl).keepF (boxK b_6 100 [(ii 1), (ii 7), (ii 5), (ii 2), (ii 0), (ii 3), (.slice none 0 0)]) hbe (boxK_ok _ _ _) (fun k hk => ⟨boxK_lt hbe hk, fun x hx => by cases hx⟩)).keepF (boxK b_8 104 [(ii 0), (ii 0), (ii 0), (ii 0), (.slice none 0 0), (ii 0), (ii 0), (ii 0), (ii 0), (.slice none 0 0), (.slice none 0 0), (.slice none 0 0), (.slice none 0 0), (.slice (some ⟨b_6, 0, none⟩) 1 1), (.slice none 0 0), (ii 0), (.slice none 0 0), (ii 2)]) hb3 (boxK_ok _ _ _) (fun k hk => ⟨boxK_lt hb3 hk, fun x hx => by cases hx⟩)
 refine ztn (zsq (zrg ?_))
 refine H.go HP 2 [(33, (.slice (dropA AP cp 1 13) 1 (cp - 1))), (34, (.slice (some ⟨b_4, 0, none⟩) 1 1))] [] fun a H => ?_
 refine H.cl 35 (Tryz.call13 _ _) ((new_any (dropA AP cp 1 13) (cp - 1) 1 [pl1 IA ic] (some ⟨b_4, 0, none⟩) (libS (some ⟨b_2, 0, none⟩) 2) w_10 pl1_ok libS_mx (HP.fact 5 rfl) (HP.fact 3 rfl) (HP.fact 4 rfl) (HP.fact 2 rfl) libS_mx2 libS_len).mono fun e w' h => newS2 h) ?_
 rintro e w_11 ⟨bs, bc, cc, SA, sc, SP, sq, rest, rfl, hN, hbn⟩
 refine ⟨_, rfl, ?_⟩
 intro a H
 have HP := sel_hp HP hN hbn
 refine H.ge HP [(4, (pt bs 0)), (5, (ii 0))] [] fun a H => ?_
 refine ztn (zsq (zrg ?_))
 refine H.go HP 1 [(39, (.slice (some ⟨b_4, 0, none⟩) 1 1))] [] fun a H => H.cb HP 40 (Tryz.call13 _ _) ((new_any none 0 1 [] (some ⟨b_4, 0, none⟩) (libS (some ⟨b_2, 0, none⟩) 2) w_11 (fun _ h => by cases h) libS_mx (HP.fact 6 rfl) (fun _ h => by cases h) (IsRow.nil _ _) (HP.fact 3 rfl) libS_mx2 libS_len).mono fun e w' h => newSN (LA := none) h) fun w_12 hb a H HP => ?_
 refine H.ge HP [(7, (ii 220))] [] fun a H => ?_
 refine ztn (zsq (zsq (zrg ?_)))
 refine H.ge HP [(52, (.bool false))] [] fun a H => ?_
 refine ztn ?_
 refine w_iff H rfl ?_
 refine zsk (ztn (zsq ?_))
 refine An.start (fun v => Hp w v [bx bs 111 [(.slice (some ⟨bc, 0, none⟩) 1 cc), (.slice SA 1 sc), (.bool false), (ii 0), (ii 0)] true, bx bc 115 (flat chC [ch0] ++ rest) true] [astsK SA (libS SP sq), boxK b_8 104 [(ii 0), (ii 0), (ii 0), (ii 0), (.slice none 0 0), (ii 0), (ii 0), (ii 0), (ii 0), (.slice none 0 0), (.slice none 0 0), (.slice none 0 0), (.slice none 0 0), (.slice (some ⟨b_6, 0, none⟩) 1 1), (.slice none 0 0), (ii 0), (.slice none 0 0), (ii 2)], boxK b_6 100 [(ii 1), (ii 7), (ii 5), (ii 2), (ii 0), (ii 3), (.slice none 0 0)], astsK (some ⟨b_4, 0, none⟩) (libS (some ⟨b_2, 0, none⟩) 2), itsK [pl1 IA ic], rowF 13 plnC (dropA AP cp 1 13) [pl1 IA ic], laidK]) 13 13 HP wide_follows rfl fun w_13 HP => ?_
 refine An.go H (.inr (HP)) 12 [0] [(54, (.slice (dropA AP cp 1 13) 1 (cp - 1)))] [] fun a H => ?_
 obtain ⟨bp, op, hpA⟩ := row_at plnC_size (HP.fact 5 rfl : IsRow 13 plnC _ (dropA AP cp 1 13) [pl1 IA ic])
 refine An.q H (.inr (HP)) 1 55 (.pointer (some ⟨bp, op + 0 * 13, none⟩)) (fun _ => ex_indexA (b := bp) (off := op) (len := 1) (cap := cp - 1) (e := 67) (k := 13) (ik := .i64) (i := 0) (m := 0) hpA (by kernel_rfl) (by kernel_rfl) rfl (by decide) (by kernel_rfl) (by kernel_rfl)) fun a H => ?_
 refine An.go H (.inr (HP)) 10 [2] [(56, (.pointer (some ⟨bp, op + 0 * 13 + 1, none⟩)))] [] fun a H => ?_
 refine An.vw H (HP) 3 57 (.agg #[(ii 25), (ii 1)]) (fun _ hS => ex_lN [(ii 25), (ii 1)] (pl_rate (hS.fact 5 rfl : IsRow 13 plnC _ (dropA AP cp 1 13) [pl1 IA ic]) hpA)) fun a H => ?_
 refine An.vw H (HP) 4 58 (.agg #[(ii 0), (ii 0), (ii 0), (ii 0), (.slice none 0 0), (ii 0), (ii 0), (ii 0), (ii 0), (.slice none 0 0), (.slice none 0 0), (.slice none 0 0), (.slice none 0 0), (.slice (some ⟨b_6, 0, none⟩) 1 1), (.slice none 0 0), (ii 0), (.slice none 0 0), (ii 2)]) (fun _ hS => ex_lN [(ii 0), (ii 0), (ii 0), (ii 0), (.slice none 0 0), (ii 0), (ii 0), (ii 0), (ii 0), (.slice none 0 0), (.slice none 0 0), (.slice none 0 0), (.slice none 0 0), (.slice (some ⟨b_6, 0, none⟩) 1 1), (.slice none 0 0), (ii 0), (.slice none 0 0), (ii 2)] (boxCells (hS.fact 1 rfl : Box _ b_8 104 _))) fun a H => ?_
 refine An.go H (.inr (HP)) 7 [5] [(59, (.slice (some ⟨b_4, 0, none⟩) 1 1))] [] fun a H => ?_
 refine An.one 6 (by kernel_rfl) ?_
 refine Op.call H 60 rfl (by kernel_rfl) (Eq.trans (by kernel_rfl : _ = (callFunc 33 #[(.agg #[(ii 0), (ii 0), (ii 0), (ii 0), (.slice none 0 0), (ii 0), (ii 0), (ii 0), (ii 0), (.slice none 0 0), (.slice none 0 0), (.slice none 0 0), (.slice none 0 0), (.slice (some ⟨b_6, 0, none⟩) 1 1), (.slice none 0 0), (ii 0), (.slice none 0 0), (ii 2)]), (.slice (some ⟨b_4, 0, none⟩) 1 1), (ii 5)]).run Tryz.prog w_13) (Tryz.call33 _ _)) (unit_5 b_6 1 2 (some ⟨b_4, 0, none⟩) (some ⟨b_2, 0, none⟩) w_13 (HP.fact 2 rfl) (HP.fact 3 rfl)) ?_
 rintro e w_14 ⟨OB5, oc5, rfl, hb⟩
 refine ⟨_, rfl, ?_⟩
 intro a H
 have HP := HP.next hb
 refine ⟨.inr (HP), ?_⟩
 refine An.one 7 (by kernel_rfl) ?_
 refine Op.call H 61 rfl (by kernel_rfl) (Eq.trans (by kernel_rfl : _ = (callFunc 28 #[(.agg #[(ii 25), (ii 1)]), (.agg #[(ii 0), (ii 5), (ii 2), (ii 7), (ii 0), (.bool true), (.string (bstr ([107]))), (ii 3), (ii 1000), (.string (bstr ([64, 0, 0]))), (ii 0), (ii 0), (.slice OB5 0 oc5)])]).run Tryz.prog w_14) (Tryz.call28 _ _)) ((by have hh := pack_any 25 1 (u5 OB5 oc5) w_14 (HP.fact 6 rfl) (alts_nil _ _) (Nat.zero_le _); rw [pack_s5] at hh; exact hh)) ?_
 rintro e w_15 ⟨rfl, hb⟩
 refine ⟨_, rfl, ?_⟩
 intro a H
 have HP := HP.next hb
 refine ⟨.inr (HP), ?_⟩
 refine An.go H (.inr (HP)) 0 [8, 9, 10, 11, 12] [(8, (.string (bstr s5)))] [] fun a H => ?_
 refine An.done (by kernel_rfl) ?_
 refine ztn (zsq ?_)
 refine An.start (fun v => Hp w v [bx bs 111 [(.slice (some ⟨bc, 0, none⟩) 1 cc), (.slice SA 1 sc), (.bool false), (ii 0), (ii 0)] true, bx bc 115 (flat chC [ch0] ++ rest) true] [astsK SA (libS SP sq), boxK b_8 104 [(ii 0), (ii 0), (ii 0), (ii 0), (.slice none 0 0), (ii 0), (ii 0), (ii 0), (ii 0), (.slice none 0 0), (.slice none 0 0), (.slice none 0 0), (.slice none 0 0), (.slice (some ⟨b_6, 0, none⟩) 1 1), (.slice none 0 0), (ii 0), (.slice none 0 0), (ii 2)], boxK b_6 100 [(ii 1), (ii 7), (ii 5), (ii 2), (ii 0), (ii 3), (.slice none 0 0)], astsK (some ⟨b_4, 0, none⟩) (libS (some ⟨b_2, 0, none⟩) 2), itsK [pl1 IA ic], rowF 13 plnC (dropA AP cp 1 13) [pl1 IA ic], laidK]) 13 13 HP wide_follows rfl fun w_16 HP => ?_
 refine An.go H (.inr (HP)) 12 [0] [(65, (.slice (dropA AP cp 1 13) 1 (cp - 1)))] [] fun a H => ?_
 refine An.q H (.inr (HP)) 1 66 (.pointer (some ⟨bp, op + 0 * 13, none⟩)) (fun _ => ex_indexA (b := bp) (off := op) (len := 1) (cap := cp - 1) (e := 67) (k := 13) (ik := .i64) (i := 0) (m := 0) hpA (by kernel_rfl) (by kernel_rfl) rfl (by decide) (by kernel_rfl) (by kernel_rfl)) fun a H => ?_
 refine An.go H (.inr (HP)) 10 [2] [(67, (.pointer (some ⟨bp, op + 0 * 13 + 1, none⟩)))] [] fun a H => ?_
 refine An.vw H (HP) 3 68 (.agg #[(ii 25), (ii 1)]) (fun _ hS => ex_lN [(ii 25), (ii 1)] (pl_rate (hS.fact 5 rfl : IsRow 13 plnC _ (dropA AP cp 1 13) [pl1 IA ic]) hpA)) fun a H => ?_
 refine An.vw H (HP) 4 69 (.agg #[(ii 0), (ii 0), (ii 0), (ii 0), (.slice none 0 0), (ii 0), (ii 0), (ii 0), (ii 0), (.slice none 0 0), (.slice none 0 0), (.slice none 0 0), (.slice none 0 0), (.slice (some ⟨b_6, 0, none⟩) 1 1), (.slice none 0 0), (ii 0), (.slice none 0 0), (ii 2)]) (fun _ hS => ex_lN [(ii 0), (ii 0), (ii 0), (ii 0), (.slice none 0 0), (ii 0), (ii 0), (ii 0), (ii 0), (.slice none 0 0), (.slice none 0 0), (.slice none 0 0), (.slice none 0 0), (.slice (some ⟨b_6, 0, none⟩) 1 1), (.slice none 0 0), (ii 0), (.slice none 0 0), (ii 2)] (boxCells (hS.fact 1 rfl : Box _ b_8 104 _))) fun a H => ?_
 refine An.go H (.inr (HP)) 7 [5] [(70, (.slice (some ⟨b_4, 0, none⟩) 1 1))] [] fun a H => ?_
 refine An.one 6 (by kernel_rfl) ?_
 refine Op.call H 71 rfl (by kernel_rfl) (Eq.trans (by kernel_rfl : _ = (callFunc 33 #[(.agg #[(ii 0), (ii 0), (ii 0), (ii 0), (.slice none 0 0), (ii 0), (ii 0), (ii 0), (ii 0), (.slice none 0 0), (.slice none 0 0), (.slice none 0 0), (.slice none 0 0), (.slice (some ⟨b_6, 0, none⟩) 1 1), (.slice none 0 0), (ii 0), (.slice none 0 0), (ii 2)]), (.slice (some ⟨b_4, 0, none⟩) 1 1), (ii 6)]).run Tryz.prog w_16) (Tryz.call33 _ _)) (unit_6 b_6 1 2 (some ⟨b_4, 0, none⟩) (some ⟨b_2, 0, none⟩) w_16 (HP.fact 2 rfl) (HP.fact 3 rfl)) ?_
 rintro e w_17 ⟨OB6, oc6, rfl, hb⟩
 refine ⟨_, rfl, ?_⟩
 intro a H
 have HP := HP.next hb
 refine ⟨.inr (HP), ?_⟩
 refine An.one 7 (by kernel_rfl) ?_
 refine Op.call H 72 rfl (by kernel_rfl) (Eq.trans (by kernel_rfl : _ = (callFunc 28 #[(.agg #[(ii 25), (ii 1)]), (.agg #[(ii 0), (ii 6), (ii 2), (ii 7), (ii 1), (.bool false), (.string (bstr ([112]))), (ii 3), (ii 1000), (.string (bstr ([0, 0, 0]))), (ii 0), (ii 0), (.slice OB6 0 oc6)])]).run Tryz.prog w_17) (Tryz.call28 _ _)) ((by have hh := pack_any 25 1 (u6 OB6 oc6) w_17 (HP.fact 6 rfl) (alts_nil _ _) (Nat.zero_le _); rw [pack_s6] at hh; exact hh)) ?_
 rintro e w_18 ⟨rfl, hb⟩
 refine ⟨_, rfl, ?_⟩
 intro a H
 have HP := HP.next hb
 refine ⟨.inr (HP), ?_⟩
 refine An.go H (.inr (HP)) 0 [8, 9, 10, 11, 12] [(10, (.string (bstr s6)))] [] fun a H => ?_
 refine An.done (by kernel_rfl) ?_
 refine ztn (zsq (zrg ?_))
 refine H.go HP 2 [(75, (pt bs 0)), (76, (.string (bstr s5)))] [] fun a H => H.alloc HP 77 (fun b => (.slice (some ⟨b, 0, none⟩) 1 1)) 9 [(.string (bstr s5))] (by kernel_rfl) (fun w => by kernel_rfl) fun b_19 w_20 a H HP => ?_
 refine H.cl 78 (Tryz.call20 _ _) ((chooseX bs bc cc sc sq SA SP false 0 0 4 rest ch0 cA (some ⟨b_19, 0, none⟩) none 1 0 [s5] [] w_20 (allA _ _) chA_ok s5_ok s0_ok (by decide) (by decide) (HP.ne 1 2 rfl rfl (by decide)) (HP.factNo 0 2 rfl rfl) (HP.ge2 6 2 rfl rfl) (rowFp_ne (HP.ne 0 2 rfl rfl (by decide))) rowFp_none (HP.fact 6 rfl) (HP.fact 0 rfl) (HP.at_ 1 rfl) (HP.at_ 2 rfl) (str1 (HP.at_ 0 rfl)) (IsRow.nil _ _)).mono fun e w' h => chooseX2 h) ?_
 rintro e w_21 ⟨AA, cA_, uA, rfl, hrA, ⟨hfA, hiA, hxA, hdA⟩, hqA, hbx, hgr⟩
 refine ⟨_, rfl, ?_⟩
 intro a H
 have HP := HP.changedRow 2 rfl (flat chC [cA.2] ++ rest) [bx b_19 9 [(.string (bstr s5))] true, bx bs 111 [(.slice (some ⟨bc, 0, none⟩) 1 cc), (.slice SA 1 sc), (.bool false), (ii 0), (ii 0)] true, bx bc 115 (flat chC [cA.2] ++ rest) true] (by kernel_rfl) hgr hbx hrA hqA
 refine H.ge HP [(12, (.slice AA 1 cA_))] [] fun a H => ?_
 refine ztn (zsq (zrg ?_))
 refine H.go HP 2 [(79, (pt bs 0)), (80, (.agg #[(ii 3), (ii 0), (ii 0), (ii 4), (ii 2), (ii 0), (ii 0), (ii 0), (ii 0), (ii 0), (ii 0), (ii 0), (ii 0), (ii 0), (ii 0), (ii 0), (ii 0), (.slice none 0 0), (ii 0), (ii 0), (ii 0), (ii 0), (ii 0), (ii 0), (ii 0), (ii 0), (ii 0), (ii 0), (ii 0), (ii 0), (.string (bstr ([])))]))] [] fun a H => ?_
 refine H.cl 81 (Tryz.call16 _ _) (receive_any bs bc 1 cc SA 1 sc false 0 0 0 4 2 w_21 (HP.at_ 1 rfl) (by decide)) ?_
 rintro e w_22 ⟨rfl, hbx, hgr⟩
 refine ⟨_, rfl, ?_⟩
 intro a H
 have HP := (HP.changed 1 rfl [(.slice (some ⟨bc, 0, none⟩) 1 cc), (.slice SA 1 sc), (.bool true), (ii 4), (ii 2)] [bx b_19 9 [(.string (bstr s5))] true, bx bs 111 [(.slice (some ⟨bc, 0, none⟩) 1 cc), (.slice SA 1 sc), (.bool true), (ii 4), (ii 2)] true, bx bc 115 (flat chC [cA.2] ++ rest) true] (by kernel_rfl) hgr (by have hh := hbx; rw [recv_new (by decide) (by decide) (.inl rfl)] at hh; exact hh))
 refine znl (ztn (zsq (zrg ?_)))
 refine H.go HP 2 [(82, (pt bs 0)), (83, (.string (bstr s5)))] [] fun a H => H.alloc HP 84 (fun b => (.slice (some ⟨b, 0, none⟩) 1 1)) 9 [(.string (bstr s5))] (by kernel_rfl) (fun w => by kernel_rfl) fun b_23 w_24 a H HP => ?_
 refine H.cl 85 (Tryz.call20 _ _) ((chooseX bs bc cc sc sq SA SP true 4 2 5 rest cA.2 cB (some ⟨b_23, 0, none⟩) none 1 0 [s5] [] w_24 (allB _ _) chB_ok s5_ok s0_ok (by decide) (by decide) (HP.ne 2 3 rfl rfl (by decide)) (HP.factNo 1 3 rfl rfl) (HP.ge2 7 3 rfl rfl) (rowFp_ne (HP.ne 0 3 rfl rfl (by decide))) rowFp_none (HP.fact 7 rfl) (HP.fact 1 rfl) (HP.at_ 2 rfl) (HP.at_ 3 rfl) (str1 (HP.at_ 0 rfl)) (IsRow.nil _ _)).mono fun e w' h => chooseX2 h) ?_
 rintro e w_25 ⟨AB, cB_, uB, rfl, hrB, ⟨hfB, hiB, hxB, hdB⟩, hqB, hbx, hgr⟩
 refine ⟨_, rfl, ?_⟩
 intro a H
 have HP := HP.changedRow 3 rfl (flat chC [cB.2] ++ rest) [bx b_23 9 [(.string (bstr s5))] true, bx b_19 9 [(.string (bstr s5))] true, bx bs 111 [(.slice (some ⟨bc, 0, none⟩) 1 cc), (.slice SA 1 sc), (.bool true), (ii 4), (ii 2)] true, bx bc 115 (flat chC [cB.2] ++ rest) true] (by kernel_rfl) hgr hbx hrB hqB
 refine H.ge HP [(13, (.slice AB 1 cB_))] [] fun a H => ?_
 refine ztn (zsq (zrg ?_))
 refine H.go HP 2 [(86, (pt bs 0)), (87, (.string (bstr s6)))] [] fun a H => H.alloc HP 88 (fun b => (.slice (some ⟨b, 0, none⟩) 1 1)) 9 [(.string (bstr s6))] (by kernel_rfl) (fun w => by kernel_rfl) fun b_26 w_27 a H HP => ?_
 refine H.cl 89 (Tryz.call20 _ _) ((chooseX bs bc cc sc sq SA SP true 4 2 6 rest cB.2 cC none (some ⟨b_26, 0, none⟩) 0 1 [] [s6] w_27 (allD _ _) chC_ok s0_ok s6_ok (by decide) (by decide) (HP.ne 3 4 rfl rfl (by decide)) (HP.factNo 2 4 rfl rfl) (HP.ge2 8 4 rfl rfl) rowFp_none (rowFp_ne (HP.ne 0 4 rfl rfl (by decide))) (HP.fact 8 rfl) (HP.fact 2 rfl) (HP.at_ 3 rfl) (HP.at_ 4 rfl) (IsRow.nil _ _) (str1 (HP.at_ 0 rfl))).mono fun e w' h => chooseX2 h) ?_
 rintro e w_28 ⟨AC, cC_, uC, rfl, hrC, ⟨hfC, hiC, hxC, hdC⟩, hqC, hbx, hgr⟩
 refine ⟨_, rfl, ?_⟩
 intro a H
 have HP := HP.changedRow 4 rfl (flat chC [cC.2] ++ rest) [bx b_26 9 [(.string (bstr s6))] true, bx b_23 9 [(.string (bstr s5))] true, bx b_19 9 [(.string (bstr s5))] true, bx bs 111 [(.slice (some ⟨bc, 0, none⟩) 1 cc), (.slice SA 1 sc), (.bool true), (ii 4), (ii 2)] true, bx bc 115 (flat chC [cC.2] ++ rest) true] (by kernel_rfl) hgr hbx hrC hqC
 refine H.ge HP [(14, (.slice AC 1 cC_))] [] fun a H => ?_
 refine ztn (zsq (zrg ?_))
 refine H.go HP 2 [(90, (pt bs 0)), (91, (.string (bstr s6)))] [] fun a H => H.alloc HP 92 (fun b => (.slice (some ⟨b, 0, none⟩) 1 1)) 9 [(.string (bstr s6))] (by kernel_rfl) (fun w => by kernel_rfl) fun b_29 w_30 a H HP => H.go HP 1 [(93, (.string (bstr s6)))] [] fun a H => H.alloc HP 94 (fun b => (.slice (some ⟨b, 0, none⟩) 1 1)) 9 [(.string (bstr s6))] (by kernel_rfl) (fun w => by kernel_rfl) fun b_31 w_32 a H HP => ?_
 refine H.cl 95 (Tryz.call20 _ _) ((chooseX bs bc cc sc sq SA SP true 4 2 7 rest cC.2 cD (some ⟨b_29, 0, none⟩) (some ⟨b_31, 0, none⟩) 1 1 [s6] [s6] w_32 (allE _ _) chD_ok s6_ok s6_ok (by decide) (by decide) (HP.ne 5 6 rfl rfl (by decide)) (HP.factNo 3 6 rfl rfl) (HP.ge2 9 6 rfl rfl) (rowFp_ne (HP.ne 1 6 rfl rfl (by decide))) (rowFp_ne (HP.ne 0 6 rfl rfl (by decide))) (HP.fact 9 rfl) (HP.fact 3 rfl) (HP.at_ 5 rfl) (HP.at_ 6 rfl) (str1 (HP.at_ 1 rfl)) (str1 (HP.at_ 0 rfl))).mono fun e w' h => chooseX2 h) ?_
 rintro e w_33 ⟨AD, cD_, uD, rfl, hrD, ⟨hfD, hiD, hxD, hdD⟩, hqD, hbx, hgr⟩
 refine ⟨_, rfl, ?_⟩
 intro a H
 have HP := HP.changedRow 6 rfl (flat chC [cD.2] ++ rest) [bx b_31 9 [(.string (bstr s6))] true, bx b_29 9 [(.string (bstr s6))] true, bx b_26 9 [(.string (bstr s6))] true, bx b_23 9 [(.string (bstr s5))] true, bx b_19 9 [(.string (bstr s5))] true, bx bs 111 [(.slice (some ⟨bc, 0, none⟩) 1 cc), (.slice SA 1 sc), (.bool true), (ii 4), (ii 2)] true, bx bc 115 (flat chC [cD.2] ++ rest) true] (by kernel_rfl) hgr hbx hrD hqD
 refine H.ge HP [(15, (.slice AD 1 cD_))] [] fun a H => ?_
 refine ztn (zsq (zrg ?_))
 refine H.go HP 1 [(97, (pt bs 0))] [] fun a H => H.cb HP 98 (Tryz.call25 _ _) ((by have hh := floor_any bs bc 1 cc SA (libS SP sq) sc true 4 2 12 w_33 (HP.at_ 5 rfl) (by decide) (by decide) (by decide); rw [sane_fl.1] at hh; exact hh)) fun w_34 hb a H HP => ?_
 refine H.ge HP [(16, (ii 2)), (17, (.bool true))] [] fun a H => ?_
 refine ztn (zsq (zrg ?_))
 refine H.go HP 1 [(102, (pt bs 0))] [] fun a H => H.cb HP 103 (Tryz.call25 _ _) ((by have hh := floor_any bs bc 1 cc SA (libS SP sq) sc true 4 2 13 w_34 (HP.at_ 5 rfl) (by decide) (by decide) (by decide); rw [sane_fl.2] at hh; exact hh)) fun w_35 hb a H HP => ?_
 refine H.ge HP [(19, (.bool false))] [] fun a H => ?_
 refine ztn (zsq (zsq (zrg ?_)))
 refine H.ge HP [(123, (.bool false))] [] fun a H => ?_
 refine ztn ?_
 refine w_iff H rfl ?_
 refine zsk (ztn (zsq (zrg ?_)))
 refine H.ge HP [(20, (.pointer none))] [] fun a H => ?_
 refine ztn (zsq (zrg ?_))
 refine H.go HP 2 [(124, (.pointer none)), (125, (.agg #[(ii 3), (ii 0), (ii 0), (ii 0), (ii 0), (ii 0), (ii 0), (ii 0), (ii 0), (ii 0), (ii 0), (ii 0), (ii 0), (ii 0), (ii 0), (ii 0), (ii 0), (.slice none 0 0), (ii 0), (ii 0), (ii 0), (ii 0), (ii 0), (ii 0), (ii 0), (ii 0), (ii 0), (ii 0), (ii 0), (ii 0), (.string (bstr ([])))]))] [] fun a H => H.cb HP 126 (Tryz.call16 _ _) (receiveN_any 0 0 0 w_35) fun w_36 hb a H HP => ?_
 refine znl (ztn (zsq (zrg ?_)))
 refine H.go HP 1 [(127, (.pointer none))] [] fun a H => H.cb HP 128 (Tryz.call20 _ _) (chooseN_any 1 w_36) fun w_37 hb a H HP => H.go HP 4 [(131, (.bool true)), (132, (.pointer none))] [] fun a H => H.cb HP 133 (Tryz.call22 _ _) (fullN_any 0 w_37) fun w_38 hb a H HP => ?_
 refine H.ge HP [(21, (.bool true))] [] fun a H => ?_
 refine ztn (zsq (zrg ?_))
 refine H.go HP 3 [(137, (.bool true)), (138, (.slice AA 1 cA_))] [] fun a H => ?_
 obtain ⟨bA, oA, hAA⟩ := row_at unC_size (HP.fact 3 rfl : IsRow 13 unC _ AA [uA])
 refine H.u 139 (.pointer (some ⟨bA, oA + 0 * 13, none⟩)) (ex_indexA (b := bA) (off := oA) (len := 1) (cap := cA_) (e := 76) (k := 13) (ik := .i64) (i := 0) (m := 0) hAA (by kernel_rfl) (by kernel_rfl) rfl (by decide) (by kernel_rfl) (by kernel_rfl)) fun a H => H.go HP 1 [(140, (.pointer (some ⟨bA, oA + 0 * 13 + 3, none⟩)))] [] fun a H => H.u 141 (ii 0) (ex_l1 (un_item (HP.fact 3 rfl : IsRow 13 unC _ AA [uA]) hAA (hiA.trans sane_A))) fun a H => H.go HP 4 [(144, (.bool true)), (145, (.slice AB 1 cB_))] [] fun a H => ?_
 obtain ⟨bB, oB, hAB⟩ := row_at unC_size (HP.fact 2 rfl : IsRow 13 unC _ AB [uB])
 refine H.u 146 (.pointer (some ⟨bB, oB + 0 * 13, none⟩)) (ex_indexA (b := bB) (off := oB) (len := 1) (cap := cB_) (e := 76) (k := 13) (ik := .i64) (i := 0) (m := 0) hAB (by kernel_rfl) (by kernel_rfl) rfl (by decide) (by kernel_rfl) (by kernel_rfl)) fun a H => H.go HP 1 [(147, (.pointer (some ⟨bB, oB + 0 * 13 + 3, none⟩)))] [] fun a H => H.u 148 (ii 7) (ex_l1 (un_item (HP.fact 2 rfl : IsRow 13 unC _ AB [uB]) hAB (hiB.trans sane_B.1))) fun a H => H.go HP 4 [(151, (.bool true)), (152, (.slice AB 1 cB_))] [] fun a H => H.u 153 (.pointer (some ⟨bB, oB + 0 * 13, none⟩)) (ex_indexA (b := bB) (off := oB) (len := 1) (cap := cB_) (e := 76) (k := 13) (ik := .i64) (i := 0) (m := 0) hAB (by kernel_rfl) (by kernel_rfl) rfl (by decide) (by kernel_rfl) (by kernel_rfl)) fun a H => H.go HP 1 [(154, (.pointer (some ⟨bB, oB + 0 * 13 + 6, none⟩)))] [] fun a H => H.u 155 (.string (bstr ([107]))) (ex_l1 (un_data (HP.fact 2 rfl : IsRow 13 unC _ AB [uB]) hAB (hdB.trans sane_B.2))) fun a H => H.valE 156 (.bool ((bstr ([107])).toList == (bstr ([107])).toList)) (.bool true) (by kernel_rfl) (by kernel_rfl) ((congrArg Value.bool (beq_self_eq_true _))) fun a H => H.go HP 3 [(158, (.bool true)), (159, (.slice AC 1 cC_))] [] fun a H => ?_
 obtain ⟨bC, oC, hAC⟩ := row_at unC_size (HP.fact 1 rfl : IsRow 13 unC _ AC [uC])
 refine H.u 160 (.pointer (some ⟨bC, oC + 0 * 13, none⟩)) (ex_indexA (b := bC) (off := oC) (len := 1) (cap := cC_) (e := 76) (k := 13) (ik := .i64) (i := 0) (m := 0) hAC (by kernel_rfl) (by kernel_rfl) rfl (by decide) (by kernel_rfl) (by kernel_rfl)) fun a H => H.go HP 1 [(161, (.pointer (some ⟨bC, oC + 0 * 13 + 4, none⟩)))] [] fun a H => H.u 162 (ii 1) (ex_l1 (un_index (HP.fact 1 rfl : IsRow 13 unC _ AC [uC]) hAC (hxC.trans sane_C))) fun a H => H.go HP 4 [(165, (.bool true)), (166, (.slice AD 1 cD_))] [] fun a H => ?_
 obtain ⟨bD, oD, hAD⟩ := row_at unC_size (HP.fact 0 rfl : IsRow 13 unC _ AD [uD])
 refine H.u 167 (.pointer (some ⟨bD, oD + 0 * 13, none⟩)) (ex_indexA (b := bD) (off := oD) (len := 1) (cap := cD_) (e := 76) (k := 13) (ik := .i64) (i := 0) (m := 0) hAD (by kernel_rfl) (by kernel_rfl) rfl (by decide) (by kernel_rfl) (by kernel_rfl)) fun a H => H.go HP 1 [(168, (.pointer (some ⟨bD, oD + 0 * 13 + 3, none⟩)))] [] fun a H => H.u 169 (ii 0) (ex_l1 (un_item (HP.fact 0 rfl : IsRow 13 unC _ AD [uD]) hAD (hiD.trans sane_D.1))) fun a H => H.go HP 4 [(172, (.bool true)), (173, (.slice AD 1 cD_))] [] fun a H => H.u 174 (.pointer (some ⟨bD, oD + 0 * 13, none⟩)) (ex_indexA (b := bD) (off := oD) (len := 1) (cap := cD_) (e := 76) (k := 13) (ik := .i64) (i := 0) (m := 0) hAD (by kernel_rfl) (by kernel_rfl) rfl (by decide) (by kernel_rfl) (by kernel_rfl)) fun a H => H.go HP 1 [(175, (.pointer (some ⟨bD, oD + 0 * 13 + 1, none⟩)))] [] fun a H => H.u 176 (ii 7) (ex_l1 (un_frame (HP.fact 0 rfl : IsRow 13 unC _ AD [uD]) hAD (hfD.trans sane_D.2))) fun a H => H.go HP 15 [(190, (.bool true)), (191, (pt bs 0))] [] fun a H => H.cb HP 192 (Tryz.call22 _ _) ((by have hh := full_any bs bc cc _ _ _ _ [cD.2] rest 0 w_38 (by decide) (by decide) (HP.at_ 5 rfl) (HP.at_ 6 rfl); rw [full_D0] at hh; exact hh)) fun w_39 hb a H HP => H.valE 193 (.bool (decide (cD.2.full > 500))) (.bool true) (by kernel_rfl) (by kernel_rfl) ((congrArg Value.bool sane_full.1)) fun a H => H.go HP 3 [(195, (.bool true)), (196, (pt bs 0))] [] fun a H => H.cb HP 197 (Tryz.call22 _ _) ((by have hh := full_any bs bc cc _ _ _ _ [cD.2] rest 1 w_39 (by decide) (by decide) (HP.at_ 5 rfl) (HP.at_ 6 rfl); rw [full_D1] at hh; exact hh)) fun w_40 hb a H HP => ?_
 refine H.ge HP [(0, (.bool true))] [] fun a H => ?_
 refine ztn (zrt ?_)
 refine H.r1 (.bool true) Tryz.results10 ?_
 exact ⟨rfl, HP.bl⟩
def in64 (n : Int) : Prop := -9223372036854775808 ≤ n ∧ n ≤ 9223372036854775807
abbrev ar9 (q : Nat → Int) : Array Value := #[.int .i64 (q 0), .int .i64 (q 1), .int .i64 (q 2), .int .i64 (q 3), .int .i64 (q 4), .int .i64 (q 5), .int .i64 (q 6), .int .i64 (q 7), .int .i64 (q 8)]
abbrev ar5 (q : Nat → Int) : Array Value := #[.int .i64 (q 0), .int .i64 (q 1), .int .i64 (q 2), .int .i64 (q 3), .int .i64 (q 4)]
theorem ar9_size (q : Nat → Int) : (ar9 q).size = 9 := rfl
theorem ar5_size (q : Nat → Int) : (ar5 q).size = 5 := rfl
theorem beatL_any (fr x : Int) (w : World) (hf : 0 ≤ fr ∧ fr ≤ 1000000) (hx : in64 x) :
    Calls Tryz.prog 15 #[.int .i64 fr, .int .i64 x] w fun e w' => ∃ mf mn r, e = .returned (.tuple #[.agg (msgC 2 mf mn), .bool r]) ∧ (0 ≤ mf ∧ mf ≤ fr) ∧ (1 ≤ mn ∧ mn ≤ 3) ∧ Below w.heap.size w w' :=
  (beat_any fr x w hf hx).mono fun e w' ⟨he, hb⟩ => by
    have h1 := pickI_lt x 4 (by omega)
    have h2 := pickI_lt (x.tdiv 4) 8 (by omega)
    exact ⟨_, _, _, he, by omega, by omega, hb⟩
theorem ex_make2 {P : Program} {ρ : Operand → Value} {w : World} {t e : TypeId} {x y : Operand} {dst : Option Tmp} {ty : TypeId} {pos : String} {af : Array Edge} {g : Option (Nat × Bool)} {n size bytes : Nat} {z : Value} {vs : List Value} (hx : ρ x = .int .i64 (n : Int)) (hy : ρ y = .int .i64 (n : Int)) (hu : P.underlying t = some (.slice e)) (hinf : infoB P e = some (some z, size, bytes)) (h1 : n * size ≤ 16777216) (h2 : bytes * n ≤ 281474976710656) (h3 : n ≤ 1000000) (hv : (madeCells z.cells (n * size)).toList = vs) :
    (execOp ρ ⟨dst, .makeSlice t x y, ty, pos, af, g⟩).run P w = .ok (.value (.slice (some ⟨w.heap.size, 0, none⟩) n n)) (w.alloc (.cells vs.toArray e)) := by
  subst hv
  obtain ⟨i, hi, hz, hs, hb⟩ := infoB_spec hinf
  have := run_makeSlice (P := P) w t e i z hu hi hz .i64 .i64 (n : Int) (n : Int) (by omega) (by omega) (by rw [hs, Int.toNat_natCast]; exact h1) (by rw [hb]; have h4 : ((bytes * n : Nat) : Int) ≤ ((281474976710656 : Nat) : Int) := Int.ofNat_le.2 h2; rw [Int.natCast_mul] at h4; exact h4) (by omega)
  simp only [execOp, hx, hy, Sem.run_bind, this, Result.andThen_ok, Sem.run_pure, hs]
  simp
theorem its_0 {w : World} {p q : PlS} (h : ∀ x ∈ [p, q], IsRow 5 itC w x.IA its3) : ∀ x ∈ [p], IsRow 5 itC w x.IA its3 := fun x hx => h x (List.mem_cons.2 (.inl (List.mem_singleton.1 hx)))
theorem its_1 {w : World} {p q : PlS} (h : ∀ x ∈ [p, q], IsRow 5 itC w x.IA its3) : ∀ x ∈ [q], IsRow 5 itC w x.IA its3 := fun x hx => h x (List.mem_cons_of_mem _ hx)
theorem pl_take {w : World} {A : Option Addr} {p q : PlS} (h : IsRow 13 plnC w A [p, q]) : IsRow 13 plnC w A [p] := IsRow.take plnC_size h (j := 1) (Nat.le_succ 1)
theorem pl_drop {w : World} {A : Option Addr} {cp : Nat} {p q : PlS} (h : IsRow 13 plnC w A [p, q]) (hc : 2 ≤ cp) : IsRow 13 plnC w (dropA A cp 1 13) [q] := IsRow.dropA plnC_size (l := [p, q]) (i := 1) h hc (Nat.le_succ 1)
theorem ch_ok0 (p : PlS) : ChOk p.nm p.c (mkCh p) := ⟨rfl, rfl, rfl, Int.le_refl 0, (by show (0 : Int) ≤ 29; decide), (by show (0 : Int) ≤ 500; decide), (by show (500 : Int) ≤ 1000; decide)⟩
theorem alts_uv {w : World} (u : Un) (B : Option Addr) (d : Nat) : IsAlts w (uv u B d).A (uv u B d).al.length (uv u B d).al := alts_nil w B
structure BeatOk (hd : Bool) (at_ od : Int) (i : Int) : Prop where
  a0 : 0 ≤ at_
  a1 : at_ ≤ i
  o0 : 0 ≤ od
  o1 : od ≤ 5
theorem recv_ok {hd hd1 : Bool} {at_ od at1 od1 mf mn i : Int} (h : BeatOk hd at_ od i) (hr : recvP (hd, at_, od) mf mn = (hd1, at1, od1)) (h1 : 0 ≤ mf ∧ mf ≤ i) (h2 : 1 ≤ mn ∧ mn ≤ 5) : BeatOk hd1 at1 od1 i := by
  unfold recvP at hr
  split at hr
  · cases hr; exact ⟨h1.1, h1.2, by omega, h2.2⟩
  · cases hr; exact h
theorem beat_more {hd : Bool} {at_ od i : Int} (h : BeatOk hd at_ od i) : BeatOk hd at_ od (i + 1) := ⟨h.a0, by have := h.a1; omega, h.o0, h.o1⟩
theorem beat_zero : BeatOk false 0 0 0 := ⟨by omega, by omega, by omega, by omega⟩
theorem row_at2 {α : Type} {k : Nat} {cs : α → Array Value} {w : World} {A : Option Addr} {x y : α} (hk : ∀ e, (cs e).size = k) (h : IsRow k cs w A [x, y]) : ∃ b o, A = some ⟨b, o, none⟩ := by
  obtain ⟨b, o, _, hA, _⟩ := IsRow.get hk h (i := 0) (Nat.zero_lt_succ 1)
  exact ⟨b, o, hA⟩
theorem Chosen.det {li : List AstA} {fl : Option Int} {c : Ch} {f : Int} {a b : List UInt8} {u v : Un} {g tk g' tk' : Int} (h : Chosen li fl c f a b u g tk) (h' : Chosen li fl c f a b v g' tk') : u = v ∧ g = g' ∧ tk = tk' := by
  have e := h.eq.symm.trans h'.eq
  simp only [Prod.mk.injEq, Ch.mk.injEq] at e
  exact ⟨e.1, e.2.2.2.1, e.2.2.2.2.1⟩
theorem rows_ok {P : List UInt8 → Prop} {s : List UInt8} (h : P s) : ∀ x ∈ [s], P x := fun x hx => by rcases List.mem_singleton.1 hx with rfl; exact h
theorem rows_no {P : List UInt8 → Prop} : ∀ x ∈ ([] : List (List UInt8)), P x := fun x hx => by cases hx
open Go.Deep
structure Op (P : Program) (t : TypeId) (α : Type) where
  size : Nat
  cells : α → List Value
  ok : World → α → Prop
  csize : P.cellsOf t = size
  len : ∀ a, (cells a).length = size
  opens : ∀ {H : Type} {enc : TypeId × Value → H} {w : World} {base : Nat} {held : Bool} {fuel : Nat} {cs : List Value} {x : DataW H × List MemPlace},
    DataW.trod enc P w base (fun _ => true) held fuel t cs = some x → (∀ n ∈ x.1.weights P t, n ≤ reachBytes) → ∃ a, cs = cells a ∧ ok w a
structure SlA (α : Type) where
  A : Option Addr
  c : Nat
  l : List α
section
variable {P : Program} {t e : TypeId} {α β : Type}
noncomputable def opInt (k : IntKind) (hu : P.underlying t = some (.int k)) (hc : P.cellsOf t = 1) : Op P t Int where
  size := 1
  cells n := [.int k n]
  ok _ n := (Lit.int k n).wf = true
  csize := hc
  len _ := rfl
  opens h _ := by
    obtain ⟨n, rfl, rfl, hw⟩ := DataW.trod_int hu h
    exact ⟨n, rfl, hw⟩
theorem weightsAll_mem {H : Type} {d : DataW H} {l : List (DataW H)} (h : d ∈ l) : ∀ n ∈ d.weights P e, n ∈ DataW.weightsAll P e l := by
  induction l with
  | nil => cases h
  | cons y l ih =>
    intro n hn
    rw [DataW.weightsAll]
    rcases List.mem_cons.1 h with rfl | h
    · exact List.mem_append_left _ hn
    · exact List.mem_append_right _ (ih h n hn)
theorem choose_list {Q : Nat → α → Prop} : ∀ n : Nat, (∀ i, i < n → ∃ a, Q i a) → ∃ l : List α, l.length = n ∧ ∀ i a, l[i]? = some a → Q i a := by
  intro n
  induction n with
  | zero => intro _; exact ⟨[], rfl, by simp⟩
  | succ n ih =>
    intro h
    obtain ⟨l, hl, hq⟩ := ih (fun i hi => h i (by omega))
    obtain ⟨a, ha⟩ := h n (by omega)
    refine ⟨l ++ [a], by simp [hl], fun i b hb => ?_⟩
    by_cases hi : i < l.length
    · rw [List.getElem?_append_left hi] at hb
      exact hq i b hb
    · rw [List.getElem?_append_right (by omega)] at hb
      have h0 : i - l.length = 0 := by
        have := (List.getElem?_eq_some_iff.1 hb).1
        simp at this
        omega
      rw [h0] at hb
      simp at hb
      subst hb
      obtain rfl : i = n := by omega
      exact ha
theorem flatO_get {f : α → List Value} {s : Nat} (hf : ∀ a, (f a).length = s) : ∀ (l : List α) (i j : Nat) (a : α), l[i]? = some a → j < s → (l.flatMap f)[i * s + j]? = (f a)[j]? := by
  intro l
  induction l with
  | nil => intro i j a h; simp at h
  | cons y l ih =>
    intro i j a h hj
    cases i with
    | zero =>
      simp at h
      subst h
      simp only [List.flatMap_cons, Nat.zero_mul, Nat.zero_add]
      rw [List.getElem?_append_left (by rw [hf]; exact hj)]
    | succ i =>
      simp only [List.flatMap_cons]
      rw [List.getElem?_append_right (by rw [hf, Nat.add_mul]; omega), hf, show (i + 1) * s + j - s = i * s + j by rw [Nat.add_mul]; omega]
      exact ih i j a (by simpa using h) hj
theorem flatO_len {f : α → List Value} {s : Nat} (hf : ∀ a, (f a).length = s) : ∀ l : List α, (l.flatMap f).length = l.length * s := by
  intro l
  induction l with
  | nil => simp
  | cons y l ih => simp only [List.flatMap_cons, List.length_append, List.length_cons, ih, hf, Nat.add_mul]; omega
theorem rd_of_cells {w : World} {a : Addr} {s : Nat} {f : α → List Value} (hf : ∀ x, (f x).length = s) (hs : 0 < s) {l : List α}
    (h : ∀ i x, l[i]? = some x → ∀ j, j < s → w.cell? ((a.add (i * s)).add j) = (f x)[j]?) : Rd w s (some a) l.length (l.flatMap f) := by
  refine ⟨flatO_len hf l, ?_⟩
  by_cases hn : l.length = 0
  · exact .inl hn
  · have hl : 0 < l.length := by omega
    have h0 := h 0 l[0] (List.getElem?_eq_getElem hl) 0 hs
    have hv : ∃ v, (f l[0])[0]? = some v := ⟨_, List.getElem?_eq_getElem (by rw [hf]; exact hs)⟩
    obtain ⟨v, hv⟩ := hv
    rw [hv] at h0
    have hsp : a.spot = none := by
      unfold World.cell? at h0
      split at h0
      · by_cases hs : a.spot.isSome = true
        · simp [Addr.add, hs] at h0
        · simpa using hs
      · simp at h0
    obtain ⟨b, off, sp⟩ := a
    simp only at hsp
    subst hsp
    have e0 : (((⟨b, off, none⟩ : Addr).add (0 * s)).add 0) = ⟨b, off, none⟩ := by simp [Addr.add]
    rw [e0] at h0
    refine .inr ⟨b, off, rfl, World.block_lt_of_cell? w _ h0, fun i hi => ?_⟩
    have hq : i / s < l.length := Nat.div_lt_of_lt_mul (by rw [Nat.mul_comm]; exact hi)
    have hm : i % s < s := Nat.mod_lt _ hs
    have hx := h (i / s) l[i / s] (List.getElem?_eq_getElem hq) (i % s) hm
    have hg := flatO_get hf l (i / s) (i % s) _ (List.getElem?_eq_getElem hq) hm
    have hi2 : i / s * s + i % s = i := by rw [Nat.mul_comm]; exact Nat.div_add_mod i s
    rw [hi2] at hg
    rw [hg, ← hx]
    congr 1
    simp only [Addr.add]
    split <;> split <;> simp <;> omega
noncomputable def opSlice (o : Op P e α) (bytes : Nat) (hu : P.underlying t = some (.slice e)) (hb : P.bytesOf e = bytes) (hc : P.cellsOf t = 1) (hs : 0 < o.size) : Op P t (SlA α) where
  size := 1
  cells s := [.slice s.A s.l.length s.c]
  ok w s := Rd w o.size s.A s.l.length (s.l.flatMap o.cells) ∧ (∀ a ∈ s.l, o.ok w a) ∧ s.l.length ≤ s.c ∧ s.c ≤ maxLen ∧ (s.A = none → s.c = 0) ∧ s.c * bytes ≤ reachBytes
  csize := hc
  len _ := rfl
  opens {H enc w base held fuel cs x} h hw := by
    rcases open_slice hu h with ⟨rfl, rfl⟩ | ⟨a, len, cap, m, n, D, Pl, rfl, hba, hl, hm, hmm, rfl, hi⟩
    · exact ⟨⟨none, 0, []⟩, rfl, Rd.nil _ _ _, by simp, Nat.le_refl _, Nat.zero_le _, fun _ => rfl, by simp⟩
    · simp only [if_true] at hmm
      subst hmm
      have hwt : ∀ k ∈ ((len + (m - len)) * bytes) :: DataW.weightsAll P e ((List.range len).map D), k ≤ reachBytes := by
        intro k hk
        simp only [DataW.weights, hu, hb] at hw
        rcases List.mem_cons.1 hk with rfl | hk
        · exact hw _ (by simp)
        · exact hw k (by simp [hk])
      obtain ⟨l, hll, hq⟩ := choose_list (Q := fun i x => (∀ j, j < o.size → w.cell? ((a.add (i * o.size)).add j) = (o.cells x)[j]?) ∧ o.ok w x) len (fun i hi' => by
        obtain ⟨cs', hcs, htr⟩ := hi i (by omega)
        obtain ⟨x, rfl, hok⟩ := o.opens htr (fun k hk => hwt k (List.mem_cons_of_mem _ (weightsAll_mem (d := D i) (List.mem_map.2 ⟨i, by simpa using hi', rfl⟩) k hk)))
        rw [o.csize] at hcs
        obtain ⟨_, _, hat⟩ := World.cells?_some hcs
        exact ⟨x, hat, hok⟩)
      subst hll
      refine ⟨⟨some a, m, l⟩, rfl, rd_of_cells o.len hs (fun i x hx => (hq i x hx).1), fun x hx => ?_, hl, hm, (fun h => by cases h), ?_⟩
      · obtain ⟨i, hi', hx'⟩ := List.getElem_of_mem hx
        exact (hq i x (by rw [List.getElem?_eq_getElem hi', hx'])).2
      · have := hwt _ (List.mem_cons_self ..)
        rwa [Nat.add_sub_cancel' hl] at this
noncomputable def opMap (o : Op P t α) (f : α → β) (cells' : β → List Value) (ok' : World → β → Prop) (h1 : ∀ a, o.cells a = cells' (f a)) (h2 : ∀ w a, o.ok w a → ok' w (f a)) (h3 : ∀ b, (cells' b).length = o.size) : Op P t β where
  size := o.size
  cells := cells'
  ok := ok'
  csize := o.csize
  len := h3
  opens h hw := by
    obtain ⟨a, ha, hok⟩ := o.opens h hw
    exact ⟨f a, by rw [ha, h1], h2 _ _ hok⟩
end
theorem flat_range_take {cs : List Value} {n s : Nat} (h : cs.length = n * s) : (List.range n).flatMap (fun i => (cs.drop (i * s)).take s) = cs := by
  induction n generalizing cs with
  | zero => simp at h; subst h; rfl
  | succ n ih =>
    rw [List.range_succ_eq_map, List.flatMap_cons, List.flatMap_map, Nat.zero_mul, List.drop_zero]
    have hl : (cs.drop s).length = n * s := by rw [List.length_drop, h, Nat.succ_mul]; omega
    have := ih hl
    simp only [List.drop_drop] at this
    have e : (fun i => (cs.drop (i.succ * s)).take s) = fun i => (cs.drop (s + i * s)).take s := by
      funext i; rw [Nat.succ_mul, Nat.add_comm]
    rw [e, this, List.take_append_drop]
theorem flat_range_len {f : Nat → List Value} {s : Nat} (hf : ∀ a, (f a).length = s) (n : Nat) : ((List.range n).flatMap f).length = n * s := by
  rw [flatO_len (f := f) hf, List.length_range]
section
variable {P : Program} {t e : TypeId} {α β : Type}
noncomputable def opArr (o : Op P e α) (n : Nat) (hn : 0 < n) (hu : P.underlying t = some (.array n e)) (hc : P.cellsOf t = n * o.size) : Op P t (Nat → α) where
  size := n * o.size
  cells f := (List.range n).flatMap fun i => o.cells (f i)
  ok w f := ∀ i, o.ok w (f i)
  csize := hc
  len f := flat_range_len (fun i => o.len (f i)) n
  opens {H enc w base held fuel cs x} h hw := by
    obtain ⟨xs, m, _, rfl, hcl, hxl, hf⟩ := DataW.trod_array hu h
    have hwt : ∀ k ∈ DataW.weightsAll P e (xs.map (·.1)), k ≤ reachBytes := fun k hk => hw k (by simpa [DataW.weights, hu] using hk)
    obtain ⟨l, hll, hq⟩ := choose_list (Q := fun i a => (cs.drop (i * o.size)).take o.size = o.cells a ∧ o.ok w a) n (fun i hi => by
      have g := hf i hi
      rw [o.csize] at g
      rw [List.getElem?_eq_getElem (by omega)] at g
      obtain ⟨a, ha, hok⟩ := o.opens g (fun k hk => hwt k (weightsAll_mem (List.mem_map.2 ⟨xs[i]'(by omega), List.getElem_mem _, rfl⟩) k hk))
      exact ⟨a, ha, hok⟩)
    have h0 : 0 < l.length := by omega
    refine ⟨fun i => l.getD i l[0], ?_, fun i => ?_⟩
    · rw [hc] at hcl
      conv => lhs; rw [← flat_range_take hcl]
      have key : ∀ i ∈ List.range n, (cs.drop (i * o.size)).take o.size = o.cells (l.getD i l[0]) := by
        intro i hi
        have hi' : i < l.length := by rw [List.mem_range] at hi; omega
        have := (hq i l[i] (List.getElem?_eq_getElem hi')).1
        rw [this]
        simp [List.getD, List.getElem?_eq_getElem hi']
      rw [List.flatMap_def, List.flatMap_def, List.map_congr_left key]
    · by_cases hi : i < l.length
      · have := (hq i l[i] (List.getElem?_eq_getElem hi)).2
        simpa [List.getD, List.getElem?_eq_getElem hi] using this
      · have := (hq 0 l[0] (List.getElem?_eq_getElem h0)).2
        simpa [List.getD, List.getElem?_eq_none (by omega : l.length ≤ i)] using this
end
theorem in64_of {n : Int} (h : (Lit.int .i64 n).wf = true) : in64 n := by
  unfold in64
  simp [Lit.wf, IntKind.min, IntKind.max, IntKind.signed, IntKind.bits] at h
  omega
noncomputable def opI0 : Op Tryz.prog 3 Int := opInt .i64 Tryz.underlying3 (by kernel_rfl)
noncomputable def opI : Op Tryz.prog 3 Int := opMap opI0 id (fun a => (i1C a).toList) (fun _ a => in64 a) (fun a => rfl) (fun w a h => in64_of h) (fun _ => rfl)
noncomputable def op9 : Op Tryz.prog 50 (Nat → Int) := opMap (opArr opI0 9 (by decide) Tryz.underlying50 (by kernel_rfl)) (fun f k => f (min k 8)) (fun a => (ar9 a).toList) (fun _ a => ∀ k, in64 (a k)) (fun a => rfl) (fun w a h => fun k => in64_of (h _)) (fun _ => rfl)
noncomputable def op5 : Op Tryz.prog 86 (Nat → Int) := opMap (opArr opI0 5 (by decide) Tryz.underlying86 (by kernel_rfl)) (fun f k => f (min k 4)) (fun a => (ar5 a).toList) (fun _ a => ∀ k, in64 (a k)) (fun a => rfl) (fun w a h => fun k => in64_of (h _)) (fun _ => rfl)
noncomputable def opInts : Op Tryz.prog 22 (SlA Int) := opSlice opI 8 Tryz.underlying22 (by kernel_rfl) (by kernel_rfl) (by decide)
noncomputable def op9s : Op Tryz.prog 23 (SlA (Nat → Int)) := opSlice op9 72 Tryz.underlying23 (by kernel_rfl) (by kernel_rfl) (by decide)
noncomputable def op5s : Op Tryz.prog 84 (SlA (Nat → Int)) := opSlice op5 40 Tryz.underlying84 (by kernel_rfl) (by kernel_rfl) (by decide)
structure RowOk {α : Type} (k : Nat) (cs : α → Array Value) (w : World) (s : SlA α) (ok : α → Prop) (most : Nat) : Prop where
  row : IsRow k cs w s.A s.l
  all : ∀ a ∈ s.l, ok a
  len : s.l.length ≤ most
theorem ints_ok {w : World} {s : SlA Int} (h : opInts.ok w s) : RowOk 1 i1C w s in64 1000000000000000 := by
  obtain ⟨h1, h2, h3, h4, h5, h6⟩ := h
  refine ⟨h1, h2, ?_⟩
  have : s.c * 8 ≤ 140737488351232 := h6
  omega
theorem ar9_ok {w : World} {s : SlA (Nat → Int)} (h : op9s.ok w s) : RowOk 9 ar9 w s (fun q => ∀ k, in64 (q k)) 1000000000000000 := by
  obtain ⟨h1, h2, h3, h4, h5, h6⟩ := h
  refine ⟨h1, h2, ?_⟩
  have : s.c * 72 ≤ 140737488351232 := h6
  omega
theorem ar5_ok {w : World} {s : SlA (Nat → Int)} (h : op5s.ok w s) : RowOk 5 ar5 w s (fun q => ∀ k, in64 (q k)) 1000000000000000 := by
  obtain ⟨h1, h2, h3, h4, h5, h6⟩ := h
  refine ⟨h1, h2, ?_⟩
  have : s.c * 40 ≤ 140737488351232 := h6
  omega
end Go.Proofs.YthpbaaadkhdifaaGreatDoor
