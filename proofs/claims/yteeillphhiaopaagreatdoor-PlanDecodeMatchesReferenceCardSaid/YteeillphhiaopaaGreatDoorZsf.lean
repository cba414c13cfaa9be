/- Part 6 of the proofs: DeB, DeC, DeD, RcC, DeE, DeF, SymX, DeG. -/
import Derived.WalkKit
import Derived.LaidEql
import Derived.Stop.Asserts
import Derived.RowKitTokens
import Derived.Defers
import Derived.Recover
import Derived.Test.YteeillphhiaopaaGreatDoorZse
namespace Go.Proofs.YteeillphhiaopaaGreatDoor
set_option maxRecDepth 100000
set_option maxHeartbeats 4000000
open Go.ChangeShapes Go.WideShapes Go.ChangeAt Go.RowKit
set_option linter.unusedVariables false
set_option linter.unusedSimpArgs false
theorem wint_none (s : List UInt8) (k : Nat) (w : World) (hl : s.length ≤ 1000000) (hk : k ≤ s.length) (hR : rdInt s k = none) :
    Calls Tryz.prog 134 #[.string (bstr s), .int .i64 ((k : Nat) : Int)] w fun e w' => e = .returned (.tuple #[.int .i64 0, .int .i64 0, .int .i64 10]) ∧ Below w.heap.size w w' := by
  refine (wint_any (bstr s) k w (by rw [bstr_size]; omega) (by rw [bstr_size]; exact hk)).mono ?_
  rintro e w' ⟨rfl, rfl⟩
  refine ⟨?_, Below.refl _ _⟩
  rw [show (bstr s).data.toList = s by simp, hR]
  rfl
theorem wint_some (s : List UInt8) (k : Nat) (w : World) (hl : s.length ≤ 1000000) (hk : k ≤ s.length) (n : Int) (k1 : Nat) (hR : rdInt s k = some (n, k1)) :
    Calls Tryz.prog 134 #[.string (bstr s), .int .i64 ((k : Nat) : Int)] w fun e w' => e = .returned (.tuple #[.int .i64 n, .int .i64 ((k1 : Nat) : Int), .int .i64 0]) ∧ Below w.heap.size w w' := by
  refine (wint_any (bstr s) k w (by rw [bstr_size]; omega) (by rw [bstr_size]; exact hk)).mono ?_
  rintro e w' ⟨rfl, rfl⟩
  refine ⟨?_, Below.refl _ _⟩
  rw [show (bstr s).data.toList = s by simp, hR]
  rfl
def rC (s : List UInt8) (k : Nat) : List Value := [.string (bstr s), .int .i64 ((k : Nat) : Int)]
abbrev pan (a0 a1 : Addr) (E : Int) : List PanicEntry := panicOf (if E = 10 then a0 else a1)
theorem Hp.own2 {w : World} {b c t u : Nat} {vs us : List Value} (h : Box w b t vs.toArray) (h' : Box w c u us.toArray) (hne : b ≠ c) : Hp w w [bx b t vs false, bx c u us false] [] :=
  (Hp.own h').add (bx b t vs false) h (bx_ok _ _ _ _) (fun k hk => by cases hk; exact h.lt) (fun k hk => ⟨fun y hy hyk => by rcases List.mem_singleton.1 hy with rfl; cases hk; exact hne hyk, fun _ h => by cases h⟩) fun h => by cases h
theorem Hp.grow {w0 w : World} {L : List HB} {K : List FK} (H : Hp w0 w L K) (i : Nat) {x : HB} (hi : L[i]? = some x) (x' : HB) (L' : List HB) (hL : L.set i x' = L') (hF : x'.F w) (hok : x'.ok) (hall : ∀ k, x.fp k → x'.fp k)
    (hnew : ∀ k, x'.fp k → x.fp k ∨ (w0.heap.size ≤ k ∧ k < w.heap.size ∧ (∀ y ∈ L, ¬ y.fp k) ∧ ∀ q ∈ K, ¬ q.fp k)) (hfr : x'.fresh = x.fresh) : Hp w0 w L' K := by
  subst hL
  have hm := mem_set H.apart (x' := x') hi
  have hxm := List.mem_of_getElem? hi
  have hil := (List.getElem?_eq_some_iff.1 hi).1
  have hx'm : x' ∈ L.set i x' := List.mem_iff_getElem?.2 ⟨i, by rw [List.getElem?_set]; simp [hil]⟩
  have hback : ∀ y ∈ L, y = x ∨ y ∈ L.set i x' := by
    intro y hy
    obtain ⟨k, hk⟩ := List.mem_iff_getElem?.1 hy
    by_cases e : i = k
    · subst e; rw [hi] at hk; cases hk; exact .inl rfl
    · exact .inr (List.mem_iff_getElem?.2 ⟨k, by rw [List.getElem?_set_ne e]; exact hk⟩)
  have hnot : ∀ y ∈ L, ∀ k, x'.fp k → y.fp k → x.fp k := fun y hy k hk hy' => (hnew k hk).resolve_right fun h => h.2.2.1 y hy hy'
  refine ⟨H.os, H.tape, H.output, H.size, fun k hk hn => ?_, fun y hy => ?_, ?_, fun y hy hfy k hk => ?_, fun p hp => ?_⟩
  · have hx : ¬ x.fp k := fun h => hn x' hx'm (hall k h)
    refine H.old k hk fun y hy => ?_
    rcases hback y hy with rfl | hy
    · exact hx
    · exact hn y hy
  · rcases hm y hy with rfl | ⟨hy, hne⟩
    · exact ⟨hF, hok, fun k hk => by
        rcases hnew k hk with h | h
        · exact (H.res x hxm).2.2 k h
        · exact h.2.1⟩
    · exact H.res y hy
  · exact pairwise_set H.apart hi (fun z hz h k hk hk' => h k hk (hnot z hz k hk' hk)) (fun z hz h k hk hk' => h k (hnot z hz k hk hk') hk')
  · rcases hm y hy with rfl | ⟨hy, _⟩
    · rcases hnew k hk with h | h
      · exact H.fresh x hxm (hfr ▸ hfy) k h
      · exact h.1
    · exact H.fresh y hy hfy k hk
  · obtain ⟨k1, k2, k3⟩ := H.kept p hp
    refine ⟨k1, k2, fun k hk => ⟨(k3 k hk).1, fun y hy hy' => ?_⟩⟩
    rcases hm y hy with rfl | ⟨hy, _⟩
    · rcases hnew k hy' with h | h
      · exact (k3 k hk).2 x hxm h
      · exact h.2.2.2 p hp hk
    · exact (k3 k hk).2 y hy hy'
theorem box_ptr {w : World} {sb t i o tb : Nat} {os : List Nat} (h : Box w sb t (os.map (fun o => Value.pointer (some ⟨tb, o, none⟩))).toArray) (ho : os[i]? = some o) : w.cell? ⟨sb, 0 + i * 1, none⟩ = some (.pointer (some ⟨tb, o, none⟩)) := by
  refine h.cell ?_
  rw [Nat.zero_add, Nat.mul_one]
  simp [ho]
def NumPost (a0 a1 : Addr) (s : List UInt8) (k rb : Nat) (w : World) (e : Ending) (w' : World) : Prop :=
  Agree w w' (fun j => j = rb) ∧ ((rdInt s k = none ∧ e = .panicked (pan a0 a1 10) ∧ Box w' rb 103 (rC s k).toArray) ∨ (∃ n k1, rdInt s k = some (n, k1) ∧ k1 ≤ s.length ∧ e = .returned (.int .i64 n) ∧ Box w' rb 103 (rC s k1).toArray))
def NumsPost (a0 a1 : Addr) (s : List UInt8) (k rb tb ty : Nat) (us : List Value) (os : List Nat) (w : World) (e : Ending) (w' : World) : Prop :=
  Agree w w' (fun j => j = rb ∨ j = tb) ∧ ((∃ (k1 : Nat) (us1 : List Value), rdN s os.length k = .error 10 ∧ k1 ≤ s.length ∧ e = .panicked (pan a0 a1 10) ∧ Box w' rb 103 (rC s k1).toArray ∧ Box w' tb ty us1.toArray ∧ us1.length = us.length) ∨
    (∃ l k1, rdN s os.length k = .ok (l, k1) ∧ k1 ≤ s.length ∧ l.length = os.length ∧ e = .returned (.tuple #[]) ∧ Box w' rb 103 (rC s k1).toArray ∧ Box w' tb ty (putAt us os l).toArray))
theorem Agree.only {w w' : World} {b : Nat} (h : w.grownBy w' (some b)) : Agree w w' (fun j => j = b) := Agree.of_grown h fun k e => (Option.some.inj e).symm
theorem Hp.changed1 {w0 w w' : World} {L : List HB} {K : List FK} (H : Hp w0 w L K) (i : Nat) {b t : Nat} {vs : List Value} {f : Bool} (hi : L[i]? = some (bx b t vs f)) (vs' : List Value) (L' : List HB) (hL : L.set i (bx b t vs' f) = L') (hag : Agree w w' (fun k => k = b)) (h1 : Box w' b t vs'.toArray) : Hp w0 w' L' K :=
  H.mut i hi (bx b t vs' f) _ hL hag h1 (bx_ok _ _ _ _) (fun k hk => by cases hk; exact h1.lt) (fun k hk => .inl hk) (fun k _ hk => hk) rfl
theorem number_none (a0 a1 : Addr) (s : List UInt8) (k rb : Nat) (w : World) (hL : LaidP a0 a1 w) (hsep : ∀ j, lpFp a0 a1 j → j ≠ rb) (h : Box w rb 103 (rC s k).toArray) (hl : s.length ≤ 1000000) (hk : k ≤ s.length) (hR : rdInt s k = none) : Calls Tryz.prog 128 #[.pointer (some ⟨rb, 0, none⟩)] w (NumPost a0 a1 s k rb w) := by
 have HP : Hp w w [bx rb 103 [.string (bstr s), .int .i64 (k : Int)] false] [laidK a0 a1] := (Hp.own h).keepF (laidK a0 a1) hL (laidK_ok _ _) (fun j hj => ⟨hL.lt j hj, by simpa [bx] using hsep j hj⟩)
 refine w_enter 27 [(0, (pt rb 0))] Tryz.func128 rfl Tryz.ntmps128 (by kernel_rfl) (by kernel_rfl) fun a H => ?_
 refine sq (rg ?_)
 refine H.v 2 (ii 0) fun a H => ?_
 refine nl (tn (sq ?_))
 refine An.start (fun v => Hp w v [bx rb 103 [(.string (bstr s)), (ii k)] false] [laidK a0 a1]) 16 16 HP wide_follows rfl fun w_1 HP => ?_
 refine An.p H (.inr HP) 0 7 (pt rb 0) fun a H => ?_
 refine An.p H (.inr HP) 1 8 (pt rb 0) fun a H => ?_
 refine An.p H (.inr HP) 2 9 (pt rb 0) fun a H => ?_
 refine An.vw H (HP) 3 10 (.string (bstr s)) (fun _ hS => ex_l1 (hS.cell 0 rfl 0 rfl)) fun a H => ?_
 refine An.p H (.inr HP) 4 11 (pt rb 0) fun a H => ?_
 refine An.p H (.inr HP) 5 12 (pt rb 0) fun a H => ?_
 refine An.p H (.inr HP) 6 13 (pt rb 1) fun a H => ?_
 refine An.vw H (HP) 7 14 (ii k) (fun _ hS => ex_l1 (hS.cell 0 rfl 1 rfl)) fun a H => ?_
 refine An.one 8 (by kernel_rfl) ?_
 refine Op.call H 15 rfl (by kernel_rfl) (Eq.trans (by kernel_rfl : _ = (callFunc 134 #[(.string (bstr s)), (ii k)]).run Tryz.prog w_1) (Tryz.call134 _ _)) (wint_none s k w_1 hl hk hR) ?_
 rintro e w_2 ⟨rfl, hb⟩
 refine ⟨_, rfl, ?_⟩
 intro a H
 have HP := HP.next hb
 refine ⟨.inr (HP), ?_⟩
 refine An.p H (.inr HP) 9 6 (.tuple #[(ii 0), (ii 0), (ii 10)]) fun a H => ?_
 refine An.p H (.inr HP) 10 16 (ii 0) fun a H => ?_
 refine An.p H (.inr HP) 11 17 (ii 0) fun a H => ?_
 refine An.p H (.inr HP) 12 18 (ii 10) fun a H => ?_
 refine An.p H (.inr HP) 13 3 (ii 0) fun a H => ?_
 refine An.p H (.inr HP) 14 4 (ii 0) fun a H => ?_
 refine An.p H (.inr HP) 15 5 (ii 10) fun a H => ?_
 refine An.done (by kernel_rfl) ?_
 refine tn (sq (sq (rg ?_)))
 refine H.v 19 (ii 10) fun a H => H.v 20 (.bool true) fun a H => ?_
 refine nl (tn ?_)
 refine w_ift H rfl ?_
 refine rg ?_
 refine H.u 21 (.iface 212 (.pointer (some a0))) (ex_l1 ((HP.fact 0 rfl : LaidP a0 a1 _).c0)) fun a H => ?_
 refine H.panic0 (v := (.iface 212 (.pointer (some a0)))) (w' := w_2) (by kernel_rfl) (by kernel_rfl) ?_
 refine then_panic ?_
 refine H.endP ?_
 exact ⟨HP.agree _ (by simp [bx]), .inl ⟨hR, rfl, HP.at_ 0 rfl⟩⟩
theorem number_some (a0 a1 : Addr) (s : List UInt8) (k rb : Nat) (w : World) (hL : LaidP a0 a1 w) (hsep : ∀ j, lpFp a0 a1 j → j ≠ rb) (h : Box w rb 103 (rC s k).toArray) (hl : s.length ≤ 1000000) (hk : k ≤ s.length) (n : Int) (k1 : Nat) (hR : rdInt s k = some (n, k1)) : Calls Tryz.prog 128 #[.pointer (some ⟨rb, 0, none⟩)] w (NumPost a0 a1 s k rb w) := by
 have HP : Hp w w [bx rb 103 [.string (bstr s), .int .i64 (k : Int)] false] [laidK a0 a1] := (Hp.own h).keepF (laidK a0 a1) hL (laidK_ok _ _) (fun j hj => ⟨hL.lt j hj, by simpa [bx] using hsep j hj⟩)
 refine w_enter 27 [(0, (pt rb 0))] Tryz.func128 rfl Tryz.ntmps128 (by kernel_rfl) (by kernel_rfl) fun a H => ?_
 refine sq (rg ?_)
 refine H.v 2 (ii 0) fun a H => ?_
 refine nl (tn (sq ?_))
 refine An.start (fun v => Hp w v [bx rb 103 [(.string (bstr s)), (ii k)] false] [laidK a0 a1]) 16 16 HP wide_follows rfl fun w_1 HP => ?_
 refine An.p H (.inr HP) 0 7 (pt rb 0) fun a H => ?_
 refine An.p H (.inr HP) 1 8 (pt rb 0) fun a H => ?_
 refine An.p H (.inr HP) 2 9 (pt rb 0) fun a H => ?_
 refine An.vw H (HP) 3 10 (.string (bstr s)) (fun _ hS => ex_l1 (hS.cell 0 rfl 0 rfl)) fun a H => ?_
 refine An.p H (.inr HP) 4 11 (pt rb 0) fun a H => ?_
 refine An.p H (.inr HP) 5 12 (pt rb 0) fun a H => ?_
 refine An.p H (.inr HP) 6 13 (pt rb 1) fun a H => ?_
 refine An.vw H (HP) 7 14 (ii k) (fun _ hS => ex_l1 (hS.cell 0 rfl 1 rfl)) fun a H => ?_
 refine An.one 8 (by kernel_rfl) ?_
 refine Op.call H 15 rfl (by kernel_rfl) (Eq.trans (by kernel_rfl : _ = (callFunc 134 #[(.string (bstr s)), (ii k)]).run Tryz.prog w_1) (Tryz.call134 _ _)) (wint_some s k w_1 hl hk n k1 hR) ?_
 rintro e w_2 ⟨rfl, hb⟩
 refine ⟨_, rfl, ?_⟩
 intro a H
 have HP := HP.next hb
 refine ⟨.inr (HP), ?_⟩
 refine An.p H (.inr HP) 9 6 (.tuple #[(ii n), (ii k1), (ii 0)]) fun a H => ?_
 refine An.p H (.inr HP) 10 16 (ii n) fun a H => ?_
 refine An.p H (.inr HP) 11 17 (ii k1) fun a H => ?_
 refine An.p H (.inr HP) 12 18 (ii 0) fun a H => ?_
 refine An.p H (.inr HP) 13 3 (ii n) fun a H => ?_
 refine An.p H (.inr HP) 14 4 (ii k1) fun a H => ?_
 refine An.p H (.inr HP) 15 5 (ii 0) fun a H => ?_
 refine An.done (by kernel_rfl) ?_
 refine tn (sq (sq (rg ?_)))
 refine H.v 19 (ii 0) fun a H => H.v 20 (.bool false) fun a H => ?_
 refine nl (tn ?_)
 refine w_iff H rfl ?_
 refine sk (tn (sq (rg ?_)))
 refine H.v 22 (pt rb 0) fun a H => H.v 23 (ii k1) fun a H => H.v 24 (pt rb 0) fun a H => H.v 25 (pt rb 1) fun a H => H.st HP 0 rb 1 1 103 false (ii k1) [bx rb 103 [(.string (bstr s)), (ii k1)] false] rfl fun w_3 a H HP => ?_
 refine nl (tn (sq (rg ?_)))
 refine H.v 26 (ii n) fun a H => H.v 2 (ii n) fun a H => ?_
 refine nl (tn (rt ?_))
 refine H.r1 (ii n) Tryz.results128 ?_
 exact ⟨HP.agree _ (by simp [bx]), .inr ⟨n, k1, hR, (rdInt_lt hk hR).2, rfl, HP.at_ 0 rfl⟩⟩
theorem number_any (a0 a1 : Addr) (s : List UInt8) (k rb : Nat) (w : World) (hL : LaidP a0 a1 w) (hsep : ∀ j, lpFp a0 a1 j → j ≠ rb) (h : Box w rb 103 (rC s k).toArray) (hl : s.length ≤ 1000000) (hk : k ≤ s.length) : Calls Tryz.prog 128 #[.pointer (some ⟨rb, 0, none⟩)] w (NumPost a0 a1 s k rb w) := by
 cases hR : rdInt s k with
 | none => exact number_none a0 a1 s k rb w hL hsep h hl hk hR
 | some p => exact number_some a0 a1 s k rb w hL hsep h hl hk p.1 p.2 hR
theorem numbers_any (a0 a1 : Addr) (s : List UInt8) (k rb tb ty sb : Nat) (us : List Value) (os : List Nat) (w : World) (hL : LaidP a0 a1 w) (hsep : ∀ j, lpFp a0 a1 j → j ≠ rb ∧ j ≠ tb) (h : Box w rb 103 (rC s k).toArray) (ht : Box w tb ty us.toArray) (hsb : Box w sb 150 (os.map (fun o => Value.pointer (some ⟨tb, o, none⟩))).toArray) (hne : rb ≠ tb) (hs : sb ≠ rb ∧ sb ≠ tb) (hos : ∀ o ∈ os, o < us.length) (hom : os.length ≤ 100) (hl : s.length ≤ 1000000) (hk : k ≤ s.length) :
  Calls Tryz.prog 99 #[.pointer (some ⟨rb, 0, none⟩), .slice (some ⟨sb, 0, none⟩) os.length os.length] w (NumsPost a0 a1 s k rb tb ty us os w) := by
 have HP0 : Hp w w [bx rb 103 (rC s k) false, bx tb ty (putAt us os []) false] [] := by rw [show putAt us os [] = us by cases os <;> rfl]; exact Hp.own2 h ht hne
 have HP : Hp w w [bx rb 103 (rC s k) false, bx tb ty (putAt us os []) false] [boxK sb 150 (os.map (fun o => Value.pointer (some ⟨tb, o, none⟩))), laidK a0 a1] :=
  (HP0.keepF (laidK a0 a1) hL (laidK_ok _ _) (fun j hj => ⟨hL.lt j hj, by simpa [bx] using hsep j hj⟩)).keepF _ hsb (boxK_ok _ _ _) (fun j hj => ⟨by cases hj; exact hsb.lt, by cases hj; simpa [bx] using hs⟩)
 refine w_enter 17 [(0, (pt rb 0)), (1, (.slice (some ⟨sb, 0, none⟩) os.length os.length))] Tryz.func99 rfl Tryz.ntmps99 (by kernel_rfl) (by kernel_rfl) fun a H => ?_
 refine sq (rg ?_)
 refine H.v 6 (.slice (some ⟨sb, 0, none⟩) os.length os.length) fun a H => H.v 7 (ii os.length) fun a H => H.v 8 (ii 0) fun a H => ?_
 refine nl (tn (bk ?_))
 refine w_loop (fun mm a wv => ∃ (i : Nat), ∃ (kq : Nat), ∃ (l : List Int), os.length - i = mm ∧ Sl 17 [(8, (ii i)), (7, (ii os.length)), (6, (.slice (some ⟨sb, 0, none⟩) os.length os.length)), (0, (pt rb 0)), (1, (.slice (some ⟨sb, 0, none⟩) os.length os.length))] a ∧ Hp w wv [bx rb 103 (rC s kq) false, bx tb ty (putAt us os l) false] [boxK sb 150 (os.map (fun o => Value.pointer (some ⟨tb, o, none⟩))), laidK a0 a1] ∧ (i ≤ os.length) ∧ (kq ≤ s.length) ∧ (l.length = i) ∧ (rdN s os.length k = pre l (rdN s (os.length - i) kq))) (os.length - 0) ?_ ?_
 ·exact ⟨0, k, [], (by omega), H.keep (by kernel_rfl), HP, (Nat.zero_le _), hk, rfl, (pre_nil _).symm⟩
 rintro mm a w_1 ⟨i, kq, l, hmeas, H, HP, hib, hkq, hll, hrel⟩
 refine sq (rg ?_)
 refine H.v 9 (.bool (decide ((i : Int) < (os.length : Int)))) fun a H => ?_
 refine nl (tn (sq ?_))
 refine w_if H rfl (fun g9 => ?_) (fun g9 => ?_)
 ·have g9p := of_decide_eq_true g9
  refine sk (tn (sq (bk (sq ?_))))
  obtain ⟨o, ho⟩ : ∃ o, os[i]? = some o := ⟨_, List.getElem?_eq_getElem (by omega)⟩
  have hou := hos o (List.mem_of_getElem? ho)
  refine rg ?_
  refine H.u 10 (.pointer (some ⟨sb, 0 + i * 1, none⟩)) (ex_index (b := sb) (off := 0) (len := os.length) (cap := os.length) (e := 150) (k := 1) (ik := .i64) (i := (i : Int)) (m := i) (by kernel_rfl) (by kernel_rfl) (by omega) (by omega) (by kernel_rfl) (by kernel_rfl)) fun a H => H.u 11 (pt tb o) (ex_l1 (box_ptr (HP.fact 0 rfl) ho)) fun a H => H.v 5 (pt tb o) fun a H => ?_
  refine nl (tn (rg ?_))
  refine H.v 12 (pt tb o) fun a H => H.v 13 (pt rb 0) fun a H => ?_
  refine H.callP 14 (by kernel_rfl) (Eq.trans (by kernel_rfl : _ = (callFunc 128 #[(pt rb 0)]).run Tryz.prog w_1) (Tryz.call128 _ _)) (number_any a0 a1 s kq rb w_1 (HP.fact 1 rfl) (fun j hj => (hsep j hj).1) (HP.at_ 0 rfl) hl hkq) ?_
  rintro e w_2 ⟨hag, (⟨hR, rfl, hbx⟩ | ⟨z, k2, hR, hk2, rfl, hbx⟩)⟩
  ·refine .inr ⟨_, rfl, ?_⟩
   intro a H
   have HP := HP.changed1 0 rfl (rC s kq) _ rfl hag hbx
   refine inb_panic ?_
   refine then_panic ?_
   refine then_panic ?_
   refine inb_panic ?_
   refine H.endP ?_
   exact ⟨HP.agree _ (by simp [bx]), .inl ⟨kq, _, by rw [hrel, show os.length - i = (os.length - (i + 1)) + 1 by omega]; exact rdN_none hR, hkq, rfl, HP.at_ 0 rfl, HP.at_ 1 rfl, putAt_len _ _ _⟩⟩
  refine .inl ⟨_, rfl, ?_⟩
  intro a H
  have HP := HP.changed1 0 rfl (rC s k2) _ rfl hag hbx
  refine H.v 15 (pt tb o) fun a H => H.store HP 1 tb o 1 ty _ false (ii z) [bx rb 103 (rC s k2) false, bx tb ty (putAt us os (l ++ [z])) false] (by kernel_rfl) (by kernel_rfl) (by kernel_rfl) rfl (by kernel_rfl) (by kernel_rfl) (by kernel_rfl) (by show Nat.ble (o + 1) _ = true; rw [Nat.ble_eq, putAt_len]; omega) (by rw [putAt_snoc us os l (by rw [hll]; exact ho)]; rfl) fun w_3 a H HP => ?_
  refine nl (ibn (tn (rg ?_)))
  refine H.valE 16 (ii (IntKind.i64.wrap ((i : Int) + 1))) (ii ((i : Int) + 1)) (by kernel_rfl) (by kernel_rfl) ((by rw [wrap_ini64 _ (by omega)])) fun a H => H.v 8 (ii ((i : Int) + 1)) fun a H => ?_
  refine nl (tn ?_)
  have H := H.as 8 (ii ((i + 1 : Nat) : Int)) rfl rfl
  refine ⟨_, ?_, i + 1, k2, l ++ [z], rfl, H.keep (by kernel_rfl), HP, (by omega), hk2, (by rw [List.length_append, hll]; rfl), (by rw [hrel, show os.length - i = (os.length - (i + 1)) + 1 by omega]; exact rdN_step hR)⟩
  omega
 have g9p := of_decide_eq_false g9
 refine wp_exit (then_exit (then_exit ?_))
 refine w_exit_here ?_
 refine H.end0 (fn := Tryz.f99) Tryz.results99  ?_
 exact ⟨HP.agree _ (by simp [bx]), .inr ⟨l, kq, by rw [hrel, show os.length - i = 0 by omega]; exact pre_ok _ _, hkq, by omega, rfl, HP.at_ 0 rfl, HP.at_ 1 rfl⟩⟩
theorem len2 {l : List Int} (h : l.length = 2) : ∃ z0 z1, l = [z0, z1] := by
 match l, h with
 | [z0, z1], _ => exact ⟨z0, z1, rfl⟩
theorem len4 {l : List Int} (h : l.length = 4) : ∃ z0 z1 z2 z3, l = [z0, z1, z2, z3] := by
 match l, h with
 | [z0, z1, z2, z3], _ => exact ⟨z0, z1, z2, z3, rfl⟩
theorem len5 {l : List Int} (h : l.length = 5) : ∃ z0 z1 z2 z3 z4, l = [z0, z1, z2, z3, z4] := by
 match l, h with
 | [z0, z1, z2, z3, z4], _ => exact ⟨z0, z1, z2, z3, z4, rfl⟩
theorem len6 {l : List Int} (h : l.length = 6) : ∃ z0 z1 z2 z3 z4 z5, l = [z0, z1, z2, z3, z4, z5] := by
 match l, h with
 | [z0, z1, z2, z3, z4, z5], _ => exact ⟨z0, z1, z2, z3, z4, z5, rfl⟩
theorem len7 {l : List Int} (h : l.length = 7) : ∃ z0 z1 z2 z3 z4 z5 z6, l = [z0, z1, z2, z3, z4, z5, z6] := by
 match l, h with
 | [z0, z1, z2, z3, z4, z5, z6], _ => exact ⟨z0, z1, z2, z3, z4, z5, z6, rfl⟩
theorem len8 {l : List Int} (h : l.length = 8) : ∃ z0 z1 z2 z3 z4 z5 z6 z7, l = [z0, z1, z2, z3, z4, z5, z6, z7] := by
 match l, h with
 | [z0, z1, z2, z3, z4, z5, z6, z7], _ => exact ⟨z0, z1, z2, z3, z4, z5, z6, z7, rfl⟩
theorem rdInt_in {s : List UInt8} {k k1 : Nat} {n : Int} (hk : k ≤ s.length) (h : rdInt s k = some (n, k1)) : -4611686018427387903 ≤ n ∧ n ≤ 4611686018427387903 := by
 obtain ⟨h1, h2, _⟩ := rdInt_canon hk h
 exact ⟨h1, h2⟩
theorem Hp.neB {w0 w : World} {L : List HB} {K : List FK} (H : Hp w0 w L K) (i j : Nat) {b c t u : Nat} {vs us : List Value} {f f' : Bool} (hi : L[i]? = some (bx b t vs f)) (hj : L[j]? = some (bx c u us f')) (hij : i < j) : b ≠ c := fun e => pair_at H.apart hi hj hij b rfl e
theorem Hp.factNe {w0 w : World} {L : List HB} {K : List FK} (H : Hp w0 w L K) (q i : Nat) {p : FK} {b t : Nat} {vs : List Value} {f : Bool} (hq : K[q]? = some p) (hi : L[i]? = some (bx b t vs f)) : ∀ j, p.fp j → j ≠ b := fun j hj e =>
 ((H.kept p (List.mem_of_getElem? hq)).2.2 j hj).2 _ (List.mem_of_getElem? hi) e
theorem Hp.ltK {w0 w : World} {L : List HB} {K : List FK} (H : Hp w0 w L K) : ∀ q ∈ K, ∀ j, q.fp j → j < w.heap.size := fun q hq j hj => ((H.kept q hq).2.2 j hj).1
theorem Hp.pendN {α : Type} {base : Nat} {e : TypeId} {size : Nat} {cs : α → Array Value} {ok : α → World → Prop} {fe : α → Nat → Prop} {v : Value} {l : List α} {w0 w : World} {L : List HB} {K : List FK} (H : Hp w0 w L K) (i : Nat) (hi : L[i]? = some (rowsR base e size cs ok fe v l)) (hel : ElOk ok fe) (p : α) (L' : List HB) (hL : L.set i (rowsP base e size cs ok fe v l p) = L') (hp : ok p w)
  (hn : ∀ k, fe p k → w0.heap.size ≤ k ∧ k < w.heap.size ∧ (∀ y ∈ L, ¬ y.fp k) ∧ ∀ q ∈ K, ¬ q.fp k) : Hp w0 w L' K :=
 H.grow i hi (rowsP base e size cs ok fe v l p) L' hL ⟨H.held i hi, hp, fun k hk => ⟨(hn k hk).2.1, fun hv => (hn k hk).2.2.1 _ (List.mem_of_getElem? hi) (.inl hv)⟩⟩ (rowsP_ok hel) (fun k hk => .inl hk) (fun k hk => hk.elim .inl fun h => .inr (hn k h)) rfl
theorem elOk_en : ElOk (fun (x : Ent) w => x.ok w) Ent.fp := fun _ _ _ h hk hs => Ent.ok.keep h hk hs
def ElPost {α : Type} (cs : α → Array Value) (el : Nat → RdR α) (a0 a1 : Addr) (s : List UInt8) (k rb b ty : Nat) (w : World) (e : Ending) (w' : World) : Prop :=
 Agree w w' (fun j => j = rb ∨ j = b) ∧ ((∃ (E : Int) (k1 : Nat) (us1 : List Value), el k = .error E ∧ (E = 10 ∨ E = 80) ∧ k1 ≤ s.length ∧ e = .panicked (pan a0 a1 E) ∧ Box w' rb 103 (rC s k1).toArray ∧ Box w' b ty us1.toArray) ∨
  (∃ (x : α) (k1 : Nat), el k = .ok (x, k1) ∧ k1 ≤ s.length ∧ e = .returned (.tuple #[]) ∧ Box w' rb 103 (rC s k1).toArray ∧ Box w' b ty (cs x).toList.toArray))
def ElPostE (a0 a1 : Addr) (s : List UInt8) (k rb b ty : Nat) (w : World) (e : Ending) (w' : World) : Prop :=
 Agree w w' (fun j => j = rb ∨ j = b) ∧ ((∃ (E : Int) (k1 : Nat) (us1 : List Value), rdEnt s k = .error E ∧ (E = 10 ∨ E = 80) ∧ k1 ≤ s.length ∧ e = .panicked (pan a0 a1 E) ∧ Box w' rb 103 (rC s k1).toArray ∧ Box w' b ty us1.toArray) ∨
  (∃ (x : Ent) (k1 : Nat), rdEnt s k = .ok (x.nv, k1) ∧ k1 ≤ s.length ∧ e = .returned (.tuple #[]) ∧ Box w' rb 103 (rC s k1).toArray ∧ Box w' b ty (enC x).toList.toArray ∧ x.ok w' ∧ ∀ j, x.fp j → w.heap.size ≤ j))
def ListPost {α : Type} (size : Nat) (cs : α → Array Value) (el : Nat → RdR α) (most : Nat) (a0 a1 : Addr) (s : List UInt8) (k rb : Nat) (w : World) (e : Ending) (w' : World) : Prop :=
 Agree w w' (fun j => j = rb) ∧ ((∃ (E : Int) (k1 : Nat), rdC s most el k = .error E ∧ (E = 10 ∨ E = 80) ∧ k1 ≤ s.length ∧ e = .panicked (pan a0 a1 E) ∧ Box w' rb 103 (rC s k1).toArray) ∨
  (∃ (A : Option Addr) (c : Nat) (l : List α) (k1 : Nat), rdC s most el k = .ok (l, k1) ∧ k1 ≤ s.length ∧ e = .returned (.slice A l.length c) ∧ Box w' rb 103 (rC s k1).toArray ∧ IsRow size cs w' A l ∧ (∀ j, rowFp l.length A j → w.heap.size ≤ j) ∧ l.length ≤ most))
def ListPostE (a0 a1 : Addr) (s : List UInt8) (k rb : Nat) (w : World) (e : Ending) (w' : World) : Prop :=
 Agree w w' (fun j => j = rb) ∧ ((∃ (E : Int) (k1 : Nat), rdC s 4000 (rdEnt s) k = .error E ∧ (E = 10 ∨ E = 80) ∧ k1 ≤ s.length ∧ e = .panicked (pan a0 a1 E) ∧ Box w' rb 103 (rC s k1).toArray) ∨
  (∃ (A : Option Addr) (c : Nat) (l : List Ent) (k1 : Nat), rdC s 4000 (rdEnt s) k = .ok (l.map Ent.nv, k1) ∧ k1 ≤ s.length ∧ e = .returned (.slice A l.length c) ∧ Box w' rb 103 (rC s k1).toArray ∧ IsEn w' A l ∧ (∀ j, enFp A l j → w.heap.size ≤ j) ∧ l.length ≤ 4000))
theorem flat_new {α : Type} {base e size : Nat} {cs : α → Array Value} {ok : α → World → Prop} {fe : α → Nat → Prop} {A : Option Addr} {n c : Nat} {l : List α} {w : World} (h : (rowsR base e size cs ok fe (.slice A n c) l).F w) : ∀ j, rowFp l.length A j → base ≤ j := by
 intro j hj
 obtain ⟨_, off, rfl⟩ := hj
 exact (own_lt h.1 j rfl).2
theorem en_new {base e size : Nat} {cs : Ent → Array Value} {ok : Ent → World → Prop} {A : Option Addr} {n c : Nat} {l : List Ent} {w : World} {n0 : Nat} (h : (rowsR base e size cs ok Ent.fp (.slice A n c) l).F w) (hf : ∀ k, (rowsR base e size cs ok Ent.fp (.slice A n c) l).fp k → n0 ≤ k) : ∀ j, enFp A l j → n0 ≤ j := by
 rintro j (hj | ⟨x, hx, hj⟩)
 ·obtain ⟨_, off, rfl⟩ := hj
  exact hf j (.inl rfl)
 ·exact hf j (.inr ⟨x, hx, hj⟩)
theorem Hp.sub2 {w0 w : World} {L : List HB} {K : List FK} (H : Hp w0 w L K) (is : List Nat) (L' : List HB) (hL : placed L is = L') (hd : distinct is = true) (hf : ∀ x ∈ L, x.fresh = true ∨ x ∈ L') : Hp w0 w L' K := by
 subst hL
 have hm : ∀ x ∈ placed L is, x ∈ L := fun x hx => by obtain ⟨i, _, hi⟩ := placed_mem hx; exact List.mem_of_getElem? hi
 refine ⟨H.os, H.tape, H.output, H.size, fun k hk hn => H.old k hk fun x hx h => ?_, fun x hx => H.res x (hm x hx), ?_, fun x hx => H.fresh x (hm x hx), fun p hp => let ⟨h1, h2, h3⟩ := H.kept p hp; ⟨h1, h2, fun k hk => ⟨(h3 k hk).1, fun x hx => (h3 k hk).2 x (hm x hx)⟩⟩⟩
 ·rcases hf x hx with h' | h'
  ·have := H.fresh x hx h' k h; omega
  ·exact hn x h' h
 ·clear hf hm
  induction is with
  | nil => exact .nil
  | cons i is ih =>
   simp only [distinct, Bool.and_eq_true, Bool.not_eq_true', List.contains_eq_mem, decide_eq_false_iff_not] at hd
   simp only [placed]
   split
   ·rename_i x hx
    refine .cons (fun y hy => ?_) (ih hd.2)
    obtain ⟨j, hj, e⟩ := placed_mem hy
    exact pairwise_at H.apart hx e fun h => hd.1 (h ▸ hj)
   ·exact ih hd.2
theorem rcS_any (a0 a1 : Addr) (s : List UInt8) (k rb br b : Nat) (w : World) (hL : LaidP a0 a1 w) (hsep : ∀ j, lpFp a0 a1 j → j ≠ rb ∧ j ≠ b) (h : Box w rb 103 (rC s k).toArray) (hb : Box w b 76 [(ii 0), (ii 0)].toArray) (hne : rb ≠ b) (hbr : Box w br 148 #[.pointer (some ⟨rb, 0, none⟩)]) (hbn : br ≠ rb ∧ br ≠ b) (hl : s.length ≤ 1000000) (hk : k ≤ s.length) :
  Calls Tryz.prog 101 #[.pointer (some ⟨b, 0, none⟩), .pointer (some ⟨br, 0, none⟩)] w (ElPost altC (rdM altOf s 2) a0 a1 s k rb b 76 w) := by
 have HP : Hp w w [bx rb 103 (rC s k) false, bx b 76 [(ii 0), (ii 0)] false] [boxK br 148 [.pointer (some ⟨rb, 0, none⟩)], laidK a0 a1] := ((Hp.own2 h hb hne).keepF (laidK a0 a1) hL (laidK_ok _ _) (fun j hj => ⟨hL.lt j hj, by simpa [bx] using hsep j hj⟩)).keepF (boxK br 148 [.pointer (some ⟨rb, 0, none⟩)]) hbr (boxK_ok _ _ _) (fun j hj => ⟨by cases hj; exact hbr.lt, by cases hj; simpa [bx] using hbn⟩)
 refine w_enter 12 [(0, (pt b 0)), (1, (pt br 0))] Tryz.func101 rfl Tryz.ntmps101 (by kernel_rfl) (by kernel_rfl) fun a H => ?_
 refine An.start (fun v => Hp w v [bx rb 103 (rC s k) false, bx b 76 [(ii 0), (ii 0)] false] [boxK br 148 [.pointer (some ⟨rb, 0, none⟩)], laidK a0 a1]) 8 9 HP wide_follows rfl fun w_1 HP => ?_
 refine An.vw H (HP) 0 3 (pt rb 0) (fun _ hS => ex_l1 ((hS.fact 0 rfl : Box _ br 148 _).cell (i := 0) rfl)) fun a H => ?_
 refine An.p H (.inr HP) 1 4 (pt b 0) fun a H => ?_
 refine An.p H (.inr HP) 2 5 (pt b 0) fun a H => ?_
 refine An.p H (.inr HP) 3 6 (pt b 0) fun a H => ?_
 refine An.p H (.inr HP) 4 7 (pt b 0) fun a H => ?_
 refine An.p H (.inr HP) 5 8 (pt b 0) fun a H => ?_
 refine An.p H (.inr HP) 6 9 (pt b 1) fun a H => ?_
 refine An.one 7 (by kernel_rfl) ?_
 refine Op.alloc H HP 10 (fun b => (.slice (some ⟨b, 0, none⟩) 2 2)) 150 [(pt b 0), (pt b 1)] rfl (by kernel_rfl) (fun w => by kernel_rfl) fun b_2 w_3 a H HP => ?_
 refine ⟨.inr ((HP.tail rfl)), ?_⟩
 refine An.one 8 (by kernel_rfl) ?_
 refine Op.callP H 11 rfl (by kernel_rfl) (Eq.trans (by kernel_rfl : _ = (callFunc 99 #[(pt rb 0), (.slice (some ⟨b_2, 0, none⟩) 2 2)]).run Tryz.prog w_3) (Tryz.call99 _ _)) (numbers_any a0 a1 s k rb b 76 b_2 [(ii 0), (ii 0)] [0, 1] w_3 (HP.fact 1 rfl) hsep (HP.at_ 1 rfl) (HP.at_ 2 rfl) (HP.at_ 0 rfl) hne ⟨HP.neB 0 1 rfl rfl (by decide), HP.neB 0 2 rfl rfl (by decide)⟩ (by simp) (by decide) hl hk) ?_
 rintro e w_4 ⟨hag, (⟨k2, us2, hE, hk2, rfl, hb1, hb2, _⟩ | ⟨l, k2, hE, hk2, hll, rfl, hb1, hb2⟩)⟩
 ·refine .inr ⟨_, rfl, ?_⟩
  intro a H
  have HP := HP.changed2 1 2 rfl rfl (rC s k2) us2 _ rfl (by decide) hag hb1 hb2
  refine H.endP ?_
  exact ⟨HP.agree _ (by simp [bx, rowsR]), .inl ⟨10, k2, us2, by unfold rdM; rw [show rdN s 2 k = .error 10 from hE], .inl rfl, hk2, rfl, HP.at_ 1 rfl, HP.at_ 2 rfl⟩⟩
 refine .inl ⟨_, rfl, ?_⟩
 intro a H
 obtain ⟨z0, z1, rfl⟩ := len2 hll
 have HP := HP.changed2 1 2 rfl rfl (rC s k2) [(ii z0), (ii z1)] _ rfl (by decide) hag hb1 hb2
 refine ⟨.inl (by kernel_rfl), ?_⟩
 refine An.done (by kernel_rfl) ?_
 refine H.end0 (fn := Tryz.f101) Tryz.results101  ?_
 exact ⟨HP.agree _ (by simp [bx, rowsR]), .inr ⟨altOf [z0, z1], k2, by unfold rdM; rw [show rdN s 2 k = .ok ([z0, z1], k2) from hE], hk2, rfl, HP.at_ 1 rfl, HP.at_ 2 rfl⟩⟩
theorem rcI_any (a0 a1 : Addr) (s : List UInt8) (k rb br b : Nat) (w : World) (hL : LaidP a0 a1 w) (hsep : ∀ j, lpFp a0 a1 j → j ≠ rb ∧ j ≠ b) (h : Box w rb 103 (rC s k).toArray) (hb : Box w b 38 [(ii 0), (ii 0), (ii 0), (ii 0), (ii 0)].toArray) (hne : rb ≠ b) (hbr : Box w br 148 #[.pointer (some ⟨rb, 0, none⟩)]) (hbn : br ≠ rb ∧ br ≠ b) (hl : s.length ≤ 1000000) (hk : k ≤ s.length) :
  Calls Tryz.prog 103 #[.pointer (some ⟨b, 0, none⟩), .pointer (some ⟨br, 0, none⟩)] w (ElPost itC (rdM itOf s 5) a0 a1 s k rb b 38 w) := by
 have HP : Hp w w [bx rb 103 (rC s k) false, bx b 38 [(ii 0), (ii 0), (ii 0), (ii 0), (ii 0)] false] [boxK br 148 [.pointer (some ⟨rb, 0, none⟩)], laidK a0 a1] := ((Hp.own2 h hb hne).keepF (laidK a0 a1) hL (laidK_ok _ _) (fun j hj => ⟨hL.lt j hj, by simpa [bx] using hsep j hj⟩)).keepF (boxK br 148 [.pointer (some ⟨rb, 0, none⟩)]) hbr (boxK_ok _ _ _) (fun j hj => ⟨by cases hj; exact hbr.lt, by cases hj; simpa [bx] using hbn⟩)
 refine w_enter 21 [(0, (pt b 0)), (1, (pt br 0))] Tryz.func103 rfl Tryz.ntmps103 (by kernel_rfl) (by kernel_rfl) fun a H => ?_
 refine An.start (fun v => Hp w v [bx rb 103 (rC s k) false, bx b 38 [(ii 0), (ii 0), (ii 0), (ii 0), (ii 0)] false] [boxK br 148 [.pointer (some ⟨rb, 0, none⟩)], laidK a0 a1]) 17 18 HP wide_follows rfl fun w_1 HP => ?_
 refine An.vw H (HP) 0 3 (pt rb 0) (fun _ hS => ex_l1 ((hS.fact 0 rfl : Box _ br 148 _).cell (i := 0) rfl)) fun a H => ?_
 refine An.p H (.inr HP) 1 4 (pt b 0) fun a H => ?_
 refine An.p H (.inr HP) 2 5 (pt b 0) fun a H => ?_
 refine An.p H (.inr HP) 3 6 (pt b 0) fun a H => ?_
 refine An.p H (.inr HP) 4 7 (pt b 0) fun a H => ?_
 refine An.p H (.inr HP) 5 8 (pt b 0) fun a H => ?_
 refine An.p H (.inr HP) 6 9 (pt b 1) fun a H => ?_
 refine An.p H (.inr HP) 7 10 (pt b 0) fun a H => ?_
 refine An.p H (.inr HP) 8 11 (pt b 0) fun a H => ?_
 refine An.p H (.inr HP) 9 12 (pt b 2) fun a H => ?_
 refine An.p H (.inr HP) 10 13 (pt b 0) fun a H => ?_
 refine An.p H (.inr HP) 11 14 (pt b 0) fun a H => ?_
 refine An.p H (.inr HP) 12 15 (pt b 3) fun a H => ?_
 refine An.p H (.inr HP) 13 16 (pt b 0) fun a H => ?_
 refine An.p H (.inr HP) 14 17 (pt b 0) fun a H => ?_
 refine An.p H (.inr HP) 15 18 (pt b 4) fun a H => ?_
 refine An.one 16 (by kernel_rfl) ?_
 refine Op.alloc H HP 19 (fun b => (.slice (some ⟨b, 0, none⟩) 5 5)) 150 [(pt b 0), (pt b 1), (pt b 2), (pt b 3), (pt b 4)] rfl (by kernel_rfl) (fun w => by kernel_rfl) fun b_2 w_3 a H HP => ?_
 refine ⟨.inr ((HP.tail rfl)), ?_⟩
 refine An.one 17 (by kernel_rfl) ?_
 refine Op.callP H 20 rfl (by kernel_rfl) (Eq.trans (by kernel_rfl : _ = (callFunc 99 #[(pt rb 0), (.slice (some ⟨b_2, 0, none⟩) 5 5)]).run Tryz.prog w_3) (Tryz.call99 _ _)) (numbers_any a0 a1 s k rb b 38 b_2 [(ii 0), (ii 0), (ii 0), (ii 0), (ii 0)] [0, 1, 2, 3, 4] w_3 (HP.fact 1 rfl) hsep (HP.at_ 1 rfl) (HP.at_ 2 rfl) (HP.at_ 0 rfl) hne ⟨HP.neB 0 1 rfl rfl (by decide), HP.neB 0 2 rfl rfl (by decide)⟩ (by simp) (by decide) hl hk) ?_
 rintro e w_4 ⟨hag, (⟨k2, us2, hE, hk2, rfl, hb1, hb2, _⟩ | ⟨l, k2, hE, hk2, hll, rfl, hb1, hb2⟩)⟩
 ·refine .inr ⟨_, rfl, ?_⟩
  intro a H
  have HP := HP.changed2 1 2 rfl rfl (rC s k2) us2 _ rfl (by decide) hag hb1 hb2
  refine H.endP ?_
  exact ⟨HP.agree _ (by simp [bx, rowsR]), .inl ⟨10, k2, us2, by unfold rdM; rw [show rdN s 5 k = .error 10 from hE], .inl rfl, hk2, rfl, HP.at_ 1 rfl, HP.at_ 2 rfl⟩⟩
 refine .inl ⟨_, rfl, ?_⟩
 intro a H
 obtain ⟨z0, z1, z2, z3, z4, rfl⟩ := len5 hll
 have HP := HP.changed2 1 2 rfl rfl (rC s k2) [(ii z0), (ii z1), (ii z2), (ii z3), (ii z4)] _ rfl (by decide) hag hb1 hb2
 refine ⟨.inl (by kernel_rfl), ?_⟩
 refine An.done (by kernel_rfl) ?_
 refine H.end0 (fn := Tryz.f103) Tryz.results103  ?_
 exact ⟨HP.agree _ (by simp [bx, rowsR]), .inr ⟨itOf [z0, z1, z2, z3, z4], k2, by unfold rdM; rw [show rdN s 5 k = .ok ([z0, z1, z2, z3, z4], k2) from hE], hk2, rfl, HP.at_ 1 rfl, HP.at_ 2 rfl⟩⟩
theorem rcA_any (a0 a1 : Addr) (s : List UInt8) (k rb br b : Nat) (w : World) (hL : LaidP a0 a1 w) (hsep : ∀ j, lpFp a0 a1 j → j ≠ rb ∧ j ≠ b) (h : Box w rb 103 (rC s k).toArray) (hb : Box w b 62 [(ii 0), (ii 0)].toArray) (hne : rb ≠ b) (hbr : Box w br 148 #[.pointer (some ⟨rb, 0, none⟩)]) (hbn : br ≠ rb ∧ br ≠ b) (hl : s.length ≤ 1000000) (hk : k ≤ s.length) :
  Calls Tryz.prog 107 #[.pointer (some ⟨b, 0, none⟩), .pointer (some ⟨br, 0, none⟩)] w (ElPost altC (rdM altOf s 2) a0 a1 s k rb b 62 w) := by
 have HP : Hp w w [bx rb 103 (rC s k) false, bx b 62 [(ii 0), (ii 0)] false] [boxK br 148 [.pointer (some ⟨rb, 0, none⟩)], laidK a0 a1] := ((Hp.own2 h hb hne).keepF (laidK a0 a1) hL (laidK_ok _ _) (fun j hj => ⟨hL.lt j hj, by simpa [bx] using hsep j hj⟩)).keepF (boxK br 148 [.pointer (some ⟨rb, 0, none⟩)]) hbr (boxK_ok _ _ _) (fun j hj => ⟨by cases hj; exact hbr.lt, by cases hj; simpa [bx] using hbn⟩)
 refine w_enter 12 [(0, (pt b 0)), (1, (pt br 0))] Tryz.func107 rfl Tryz.ntmps107 (by kernel_rfl) (by kernel_rfl) fun a H => ?_
 refine An.start (fun v => Hp w v [bx rb 103 (rC s k) false, bx b 62 [(ii 0), (ii 0)] false] [boxK br 148 [.pointer (some ⟨rb, 0, none⟩)], laidK a0 a1]) 8 9 HP wide_follows rfl fun w_1 HP => ?_
 refine An.vw H (HP) 0 3 (pt rb 0) (fun _ hS => ex_l1 ((hS.fact 0 rfl : Box _ br 148 _).cell (i := 0) rfl)) fun a H => ?_
 refine An.p H (.inr HP) 1 4 (pt b 0) fun a H => ?_
 refine An.p H (.inr HP) 2 5 (pt b 0) fun a H => ?_
 refine An.p H (.inr HP) 3 6 (pt b 0) fun a H => ?_
 refine An.p H (.inr HP) 4 7 (pt b 0) fun a H => ?_
 refine An.p H (.inr HP) 5 8 (pt b 0) fun a H => ?_
 refine An.p H (.inr HP) 6 9 (pt b 1) fun a H => ?_
 refine An.one 7 (by kernel_rfl) ?_
 refine Op.alloc H HP 10 (fun b => (.slice (some ⟨b, 0, none⟩) 2 2)) 150 [(pt b 0), (pt b 1)] rfl (by kernel_rfl) (fun w => by kernel_rfl) fun b_2 w_3 a H HP => ?_
 refine ⟨.inr ((HP.tail rfl)), ?_⟩
 refine An.one 8 (by kernel_rfl) ?_
 refine Op.callP H 11 rfl (by kernel_rfl) (Eq.trans (by kernel_rfl : _ = (callFunc 99 #[(pt rb 0), (.slice (some ⟨b_2, 0, none⟩) 2 2)]).run Tryz.prog w_3) (Tryz.call99 _ _)) (numbers_any a0 a1 s k rb b 62 b_2 [(ii 0), (ii 0)] [0, 1] w_3 (HP.fact 1 rfl) hsep (HP.at_ 1 rfl) (HP.at_ 2 rfl) (HP.at_ 0 rfl) hne ⟨HP.neB 0 1 rfl rfl (by decide), HP.neB 0 2 rfl rfl (by decide)⟩ (by simp) (by decide) hl hk) ?_
 rintro e w_4 ⟨hag, (⟨k2, us2, hE, hk2, rfl, hb1, hb2, _⟩ | ⟨l, k2, hE, hk2, hll, rfl, hb1, hb2⟩)⟩
 ·refine .inr ⟨_, rfl, ?_⟩
  intro a H
  have HP := HP.changed2 1 2 rfl rfl (rC s k2) us2 _ rfl (by decide) hag hb1 hb2
  refine H.endP ?_
  exact ⟨HP.agree _ (by simp [bx, rowsR]), .inl ⟨10, k2, us2, by unfold rdM; rw [show rdN s 2 k = .error 10 from hE], .inl rfl, hk2, rfl, HP.at_ 1 rfl, HP.at_ 2 rfl⟩⟩
 refine .inl ⟨_, rfl, ?_⟩
 intro a H
 obtain ⟨z0, z1, rfl⟩ := len2 hll
 have HP := HP.changed2 1 2 rfl rfl (rC s k2) [(ii z0), (ii z1)] _ rfl (by decide) hag hb1 hb2
 refine ⟨.inl (by kernel_rfl), ?_⟩
 refine An.done (by kernel_rfl) ?_
 refine H.end0 (fn := Tryz.f107) Tryz.results107  ?_
 exact ⟨HP.agree _ (by simp [bx, rowsR]), .inr ⟨altOf [z0, z1], k2, by unfold rdM; rw [show rdN s 2 k = .ok ([z0, z1], k2) from hE], hk2, rfl, HP.at_ 1 rfl, HP.at_ 2 rfl⟩⟩
theorem rcB_any (a0 a1 : Addr) (s : List UInt8) (k rb br b : Nat) (w : World) (hL : LaidP a0 a1 w) (hsep : ∀ j, lpFp a0 a1 j → j ≠ rb ∧ j ≠ b) (h : Box w rb 103 (rC s k).toArray) (hb : Box w b 47 [(ii 0), (ii 0), (ii 0), (ii 0), (ii 0), (ii 0), (ii 0)].toArray) (hne : rb ≠ b) (hbr : Box w br 148 #[.pointer (some ⟨rb, 0, none⟩)]) (hbn : br ≠ rb ∧ br ≠ b) (hl : s.length ≤ 1000000) (hk : k ≤ s.length) :
  Calls Tryz.prog 109 #[.pointer (some ⟨b, 0, none⟩), .pointer (some ⟨br, 0, none⟩)] w (ElPost bkC (rdM bkOf s 7) a0 a1 s k rb b 47 w) := by
 have HP : Hp w w [bx rb 103 (rC s k) false, bx b 47 [(ii 0), (ii 0), (ii 0), (ii 0), (ii 0), (ii 0), (ii 0)] false] [boxK br 148 [.pointer (some ⟨rb, 0, none⟩)], laidK a0 a1] := ((Hp.own2 h hb hne).keepF (laidK a0 a1) hL (laidK_ok _ _) (fun j hj => ⟨hL.lt j hj, by simpa [bx] using hsep j hj⟩)).keepF (boxK br 148 [.pointer (some ⟨rb, 0, none⟩)]) hbr (boxK_ok _ _ _) (fun j hj => ⟨by cases hj; exact hbr.lt, by cases hj; simpa [bx] using hbn⟩)
 refine w_enter 27 [(0, (pt b 0)), (1, (pt br 0))] Tryz.func109 rfl Tryz.ntmps109 (by kernel_rfl) (by kernel_rfl) fun a H => ?_
 refine An.start (fun v => Hp w v [bx rb 103 (rC s k) false, bx b 47 [(ii 0), (ii 0), (ii 0), (ii 0), (ii 0), (ii 0), (ii 0)] false] [boxK br 148 [.pointer (some ⟨rb, 0, none⟩)], laidK a0 a1]) 23 24 HP wide_follows rfl fun w_1 HP => ?_
 refine An.vw H (HP) 0 3 (pt rb 0) (fun _ hS => ex_l1 ((hS.fact 0 rfl : Box _ br 148 _).cell (i := 0) rfl)) fun a H => ?_
 refine An.p H (.inr HP) 1 4 (pt b 0) fun a H => ?_
 refine An.p H (.inr HP) 2 5 (pt b 0) fun a H => ?_
 refine An.p H (.inr HP) 3 6 (pt b 0) fun a H => ?_
 refine An.p H (.inr HP) 4 7 (pt b 0) fun a H => ?_
 refine An.p H (.inr HP) 5 8 (pt b 0) fun a H => ?_
 refine An.p H (.inr HP) 6 9 (pt b 1) fun a H => ?_
 refine An.p H (.inr HP) 7 10 (pt b 0) fun a H => ?_
 refine An.p H (.inr HP) 8 11 (pt b 0) fun a H => ?_
 refine An.p H (.inr HP) 9 12 (pt b 2) fun a H => ?_
 refine An.p H (.inr HP) 10 13 (pt b 0) fun a H => ?_
 refine An.p H (.inr HP) 11 14 (pt b 0) fun a H => ?_
 refine An.p H (.inr HP) 12 15 (pt b 3) fun a H => ?_
 refine An.p H (.inr HP) 13 16 (pt b 0) fun a H => ?_
 refine An.p H (.inr HP) 14 17 (pt b 0) fun a H => ?_
 refine An.p H (.inr HP) 15 18 (pt b 4) fun a H => ?_
 refine An.p H (.inr HP) 16 19 (pt b 0) fun a H => ?_
 refine An.p H (.inr HP) 17 20 (pt b 0) fun a H => ?_
 refine An.p H (.inr HP) 18 21 (pt b 5) fun a H => ?_
 refine An.p H (.inr HP) 19 22 (pt b 0) fun a H => ?_
 refine An.p H (.inr HP) 20 23 (pt b 0) fun a H => ?_
 refine An.p H (.inr HP) 21 24 (pt b 6) fun a H => ?_
 refine An.one 22 (by kernel_rfl) ?_
 refine Op.alloc H HP 25 (fun b => (.slice (some ⟨b, 0, none⟩) 7 7)) 150 [(pt b 0), (pt b 1), (pt b 2), (pt b 3), (pt b 4), (pt b 5), (pt b 6)] rfl (by kernel_rfl) (fun w => by kernel_rfl) fun b_2 w_3 a H HP => ?_
 refine ⟨.inr ((HP.tail rfl)), ?_⟩
 refine An.one 23 (by kernel_rfl) ?_
 refine Op.callP H 26 rfl (by kernel_rfl) (Eq.trans (by kernel_rfl : _ = (callFunc 99 #[(pt rb 0), (.slice (some ⟨b_2, 0, none⟩) 7 7)]).run Tryz.prog w_3) (Tryz.call99 _ _)) (numbers_any a0 a1 s k rb b 47 b_2 [(ii 0), (ii 0), (ii 0), (ii 0), (ii 0), (ii 0), (ii 0)] [0, 1, 2, 3, 4, 5, 6] w_3 (HP.fact 1 rfl) hsep (HP.at_ 1 rfl) (HP.at_ 2 rfl) (HP.at_ 0 rfl) hne ⟨HP.neB 0 1 rfl rfl (by decide), HP.neB 0 2 rfl rfl (by decide)⟩ (by simp) (by decide) hl hk) ?_
 rintro e w_4 ⟨hag, (⟨k2, us2, hE, hk2, rfl, hb1, hb2, _⟩ | ⟨l, k2, hE, hk2, hll, rfl, hb1, hb2⟩)⟩
 ·refine .inr ⟨_, rfl, ?_⟩
  intro a H
  have HP := HP.changed2 1 2 rfl rfl (rC s k2) us2 _ rfl (by decide) hag hb1 hb2
  refine H.endP ?_
  exact ⟨HP.agree _ (by simp [bx, rowsR]), .inl ⟨10, k2, us2, by unfold rdM; rw [show rdN s 7 k = .error 10 from hE], .inl rfl, hk2, rfl, HP.at_ 1 rfl, HP.at_ 2 rfl⟩⟩
 refine .inl ⟨_, rfl, ?_⟩
 intro a H
 obtain ⟨z0, z1, z2, z3, z4, z5, z6, rfl⟩ := len7 hll
 have HP := HP.changed2 1 2 rfl rfl (rC s k2) [(ii z0), (ii z1), (ii z2), (ii z3), (ii z4), (ii z5), (ii z6)] _ rfl (by decide) hag hb1 hb2
 refine ⟨.inl (by kernel_rfl), ?_⟩
 refine An.done (by kernel_rfl) ?_
 refine H.end0 (fn := Tryz.f109) Tryz.results109  ?_
 exact ⟨HP.agree _ (by simp [bx, rowsR]), .inr ⟨bkOf [z0, z1, z2, z3, z4, z5, z6], k2, by unfold rdM; rw [show rdN s 7 k = .ok ([z0, z1, z2, z3, z4, z5, z6], k2) from hE], hk2, rfl, HP.at_ 1 rfl, HP.at_ 2 rfl⟩⟩
theorem rcC_any (a0 a1 : Addr) (s : List UInt8) (k rb br b : Nat) (w : World) (hL : LaidP a0 a1 w) (hsep : ∀ j, lpFp a0 a1 j → j ≠ rb ∧ j ≠ b) (h : Box w rb 103 (rC s k).toArray) (hb : Box w b 73 [(ii 0), (ii 0), (ii 0), (ii 0), (ii 0), (ii 0), (ii 0), (ii 0)].toArray) (hne : rb ≠ b) (hbr : Box w br 148 #[.pointer (some ⟨rb, 0, none⟩)]) (hbn : br ≠ rb ∧ br ≠ b) (hl : s.length ≤ 1000000) (hk : k ≤ s.length) :
  Calls Tryz.prog 111 #[.pointer (some ⟨b, 0, none⟩), .pointer (some ⟨br, 0, none⟩)] w (ElPost clC (rdM clOf s 8) a0 a1 s k rb b 73 w) := by
 have HP : Hp w w [bx rb 103 (rC s k) false, bx b 73 [(ii 0), (ii 0), (ii 0), (ii 0), (ii 0), (ii 0), (ii 0), (ii 0)] false] [boxK br 148 [.pointer (some ⟨rb, 0, none⟩)], laidK a0 a1] := ((Hp.own2 h hb hne).keepF (laidK a0 a1) hL (laidK_ok _ _) (fun j hj => ⟨hL.lt j hj, by simpa [bx] using hsep j hj⟩)).keepF (boxK br 148 [.pointer (some ⟨rb, 0, none⟩)]) hbr (boxK_ok _ _ _) (fun j hj => ⟨by cases hj; exact hbr.lt, by cases hj; simpa [bx] using hbn⟩)
 refine w_enter 30 [(0, (pt b 0)), (1, (pt br 0))] Tryz.func111 rfl Tryz.ntmps111 (by kernel_rfl) (by kernel_rfl) fun a H => ?_
 refine An.start (fun v => Hp w v [bx rb 103 (rC s k) false, bx b 73 [(ii 0), (ii 0), (ii 0), (ii 0), (ii 0), (ii 0), (ii 0), (ii 0)] false] [boxK br 148 [.pointer (some ⟨rb, 0, none⟩)], laidK a0 a1]) 26 27 HP wide_follows rfl fun w_1 HP => ?_
 refine An.vw H (HP) 0 3 (pt rb 0) (fun _ hS => ex_l1 ((hS.fact 0 rfl : Box _ br 148 _).cell (i := 0) rfl)) fun a H => ?_
 refine An.p H (.inr HP) 1 4 (pt b 0) fun a H => ?_
 refine An.p H (.inr HP) 2 5 (pt b 0) fun a H => ?_
 refine An.p H (.inr HP) 3 6 (pt b 0) fun a H => ?_
 refine An.p H (.inr HP) 4 7 (pt b 0) fun a H => ?_
 refine An.p H (.inr HP) 5 8 (pt b 0) fun a H => ?_
 refine An.p H (.inr HP) 6 9 (pt b 1) fun a H => ?_
 refine An.p H (.inr HP) 7 10 (pt b 0) fun a H => ?_
 refine An.p H (.inr HP) 8 11 (pt b 0) fun a H => ?_
 refine An.p H (.inr HP) 9 12 (pt b 2) fun a H => ?_
 refine An.p H (.inr HP) 10 13 (pt b 0) fun a H => ?_
 refine An.p H (.inr HP) 11 14 (pt b 0) fun a H => ?_
 refine An.p H (.inr HP) 12 15 (pt b 3) fun a H => ?_
 refine An.p H (.inr HP) 13 16 (pt b 0) fun a H => ?_
 refine An.p H (.inr HP) 14 17 (pt b 0) fun a H => ?_
 refine An.p H (.inr HP) 15 18 (pt b 4) fun a H => ?_
 refine An.p H (.inr HP) 16 19 (pt b 0) fun a H => ?_
 refine An.p H (.inr HP) 17 20 (pt b 0) fun a H => ?_
 refine An.p H (.inr HP) 18 21 (pt b 5) fun a H => ?_
 refine An.p H (.inr HP) 19 22 (pt b 0) fun a H => ?_
 refine An.p H (.inr HP) 20 23 (pt b 0) fun a H => ?_
 refine An.p H (.inr HP) 21 24 (pt b 6) fun a H => ?_
 refine An.p H (.inr HP) 22 25 (pt b 0) fun a H => ?_
 refine An.p H (.inr HP) 23 26 (pt b 0) fun a H => ?_
 refine An.p H (.inr HP) 24 27 (pt b 7) fun a H => ?_
 refine An.one 25 (by kernel_rfl) ?_
 refine Op.alloc H HP 28 (fun b => (.slice (some ⟨b, 0, none⟩) 8 8)) 150 [(pt b 0), (pt b 1), (pt b 2), (pt b 3), (pt b 4), (pt b 5), (pt b 6), (pt b 7)] rfl (by kernel_rfl) (fun w => by kernel_rfl) fun b_2 w_3 a H HP => ?_
 refine ⟨.inr ((HP.tail rfl)), ?_⟩
 refine An.one 26 (by kernel_rfl) ?_
 refine Op.callP H 29 rfl (by kernel_rfl) (Eq.trans (by kernel_rfl : _ = (callFunc 99 #[(pt rb 0), (.slice (some ⟨b_2, 0, none⟩) 8 8)]).run Tryz.prog w_3) (Tryz.call99 _ _)) (numbers_any a0 a1 s k rb b 73 b_2 [(ii 0), (ii 0), (ii 0), (ii 0), (ii 0), (ii 0), (ii 0), (ii 0)] [0, 1, 2, 3, 4, 5, 6, 7] w_3 (HP.fact 1 rfl) hsep (HP.at_ 1 rfl) (HP.at_ 2 rfl) (HP.at_ 0 rfl) hne ⟨HP.neB 0 1 rfl rfl (by decide), HP.neB 0 2 rfl rfl (by decide)⟩ (by simp) (by decide) hl hk) ?_
 rintro e w_4 ⟨hag, (⟨k2, us2, hE, hk2, rfl, hb1, hb2, _⟩ | ⟨l, k2, hE, hk2, hll, rfl, hb1, hb2⟩)⟩
 ·refine .inr ⟨_, rfl, ?_⟩
  intro a H
  have HP := HP.changed2 1 2 rfl rfl (rC s k2) us2 _ rfl (by decide) hag hb1 hb2
  refine H.endP ?_
  exact ⟨HP.agree _ (by simp [bx, rowsR]), .inl ⟨10, k2, us2, by unfold rdM; rw [show rdN s 8 k = .error 10 from hE], .inl rfl, hk2, rfl, HP.at_ 1 rfl, HP.at_ 2 rfl⟩⟩
 refine .inl ⟨_, rfl, ?_⟩
 intro a H
 obtain ⟨z0, z1, z2, z3, z4, z5, z6, z7, rfl⟩ := len8 hll
 have HP := HP.changed2 1 2 rfl rfl (rC s k2) [(ii z0), (ii z1), (ii z2), (ii z3), (ii z4), (ii z5), (ii z6), (ii z7)] _ rfl (by decide) hag hb1 hb2
 refine ⟨.inl (by kernel_rfl), ?_⟩
 refine An.done (by kernel_rfl) ?_
 refine H.end0 (fn := Tryz.f111) Tryz.results111  ?_
 exact ⟨HP.agree _ (by simp [bx, rowsR]), .inr ⟨clOf [z0, z1, z2, z3, z4, z5, z6, z7], k2, by unfold rdM; rw [show rdN s 8 k = .ok ([z0, z1, z2, z3, z4, z5, z6, z7], k2) from hE], hk2, rfl, HP.at_ 1 rfl, HP.at_ 2 rfl⟩⟩
theorem listS_any (a0 a1 : Addr) (s : List UInt8) (k rb br : Nat) (w : World) (hL : LaidP a0 a1 w) (hsep : ∀ j, lpFp a0 a1 j → j ≠ rb) (h : Box w rb 103 (rC s k).toArray) (hbr : Box w br 148 #[.pointer (some ⟨rb, 0, none⟩)]) (hbn : br ≠ rb) (hl : s.length ≤ 1000000) (hk : k ≤ s.length) :
  Calls Tryz.prog 100 #[.pointer (some ⟨rb, 0, none⟩), .int .i64 40, .func (.func 101) #[] #[.pointer (some ⟨br, 0, none⟩)]] w (ListPost 2 altC (rdM altOf s 2) 40 a0 a1 s k rb w) := by
 have HP : Hp w w [bx rb 103 (rC s k) false] [boxK br 148 [.pointer (some ⟨rb, 0, none⟩)], laidK a0 a1] := ((Hp.own h).keepF (laidK a0 a1) hL (laidK_ok _ _) (fun j hj => ⟨hL.lt j hj, by simpa [bx] using hsep j hj⟩)).keepF (boxK br 148 [.pointer (some ⟨rb, 0, none⟩)]) hbr (boxK_ok _ _ _) (fun j hj => ⟨by cases hj; exact hbr.lt, by cases hj; simpa [bx] using hbn⟩)
 refine w_enter 31 [(0, (pt rb 0)), (1, (ii 40)), (2, (.func (.func 101) #[] #[(pt br 0)]))] Tryz.func100 rfl Tryz.ntmps100 (by kernel_rfl) (by kernel_rfl) fun a H => ?_
 refine sq (rg ?_)
 refine H.v 6 (.slice none 0 0) fun a H => ?_
 refine nl (tn (sq (rg ?_)))
 refine H.v 10 (pt rb 0) fun a H => ?_
 refine H.callP 11 (by kernel_rfl) (Eq.trans (by kernel_rfl : _ = (callFunc 128 #[(pt rb 0)]).run Tryz.prog w) (Tryz.call128 _ _)) (number_any a0 a1 s k rb w (HP.fact 1 rfl) hsep (HP.at_ 0 rfl) hl hk) ?_
 rintro e w_1 ⟨hag, (⟨hR, rfl, hbx⟩ | ⟨n, k1, hR, hk1, rfl, hbx⟩)⟩
 ·refine .inr ⟨_, rfl, ?_⟩
  intro a H
  have HP := HP.changed1 0 rfl (rC s k) [bx rb 103 (rC s k) false] (by kernel_rfl) hag hbx
  refine then_panic ?_
  refine H.endP ?_
  exact ⟨HP.agree _ (by simp [bx, rowsR]), .inl ⟨10, k, by unfold rdC; rw [hR], .inl rfl, hk, rfl, HP.at_ 0 rfl⟩⟩
 refine .inl ⟨_, rfl, ?_⟩
 intro a H
 have HP := HP.changed1 0 rfl (rC s k1) [bx rb 103 (rC s k1) false] (by kernel_rfl) hag hbx
 obtain ⟨hn1, hn2⟩ := rdInt_in hk hR
 refine H.v 7 (ii n) fun a H => ?_
 refine nl (tn (sq (sq (rg ?_))))
 refine H.v 12 (ii n) fun a H => H.v 13 (.bool (decide (n < 0))) fun a H => H.v 14 (.bool (decide (n < 0))) fun a H => ?_
 refine H.split 14 rfl (fun g14 H => ?_) (fun g14 H => ?_)
 ·have g14p := of_decide_eq_true g14
  iterate 3 refine H.sx rfl fun a H => ?_
  refine H.vx rfl (.bool true) fun a H => ?_
  refine nl (tn ?_)
  refine w_ift H rfl ?_
  refine rg ?_
  refine H.u 19 (.iface 212 (.pointer (some a1))) (ex_l1 ((HP.fact 1 rfl : LaidP a0 a1 _).c1)) fun a H => ?_
  refine H.panic0 (v := (.iface 212 (.pointer (some a1)))) (w' := w_1) (by kernel_rfl) (by kernel_rfl) ?_
  refine then_panic ?_
  refine H.endP ?_
  exact ⟨HP.agree _ (by simp [bx, rowsR]), .inl ⟨80, k1, by unfold rdC; rw [hR]; simp only; rw [if_pos (by omega)], .inr rfl, hk1, rfl, HP.at_ 0 rfl⟩⟩
 have g14p := of_decide_eq_false g14
 refine H.v 15 (ii n) fun a H => H.v 16 (ii 40) fun a H => H.v 17 (.bool (decide (n > 40))) fun a H => H.v 18 (.bool (decide (n > 40))) fun a H => ?_
 refine nl (tn ?_)
 refine w_if H rfl (fun g18 => ?_) (fun g18 => ?_)
 ·have g18p := of_decide_eq_true g18
  refine rg ?_
  refine H.u 19 (.iface 212 (.pointer (some a1))) (ex_l1 ((HP.fact 1 rfl : LaidP a0 a1 _).c1)) fun a H => ?_
  refine H.panic0 (v := (.iface 212 (.pointer (some a1)))) (w' := w_1) (by kernel_rfl) (by kernel_rfl) ?_
  refine then_panic ?_
  refine H.endP ?_
  exact ⟨HP.agree _ (by simp [bx, rowsR]), .inl ⟨80, k1, by unfold rdC; rw [hR]; simp only; rw [if_pos (by omega)], .inr rfl, hk1, rfl, HP.at_ 0 rfl⟩⟩
 have g18p := of_decide_eq_false g18
 refine sk (tn (sq ?_))
 obtain ⟨m, rfl⟩ : ∃ m : Nat, n = m := ⟨n.toNat, by omega⟩
 have hrel0 : rdC s 40 (rdM altOf s 2) k = rdL (rdM altOf s 2) m k1 := by unfold rdC; rw [hR]; simp only; rw [if_neg (by omega), Int.toNat_natCast]
 refine rg ?_
 refine H.v 8 (.slice none 0 0) fun a H => ?_
 refine nl ?_
 have HP := HP.nilRow w.heap.size 76 2 altC (fun _ _ => True) (fun _ _ => False) elOk_flat
 refine tn (sq (sq (rg ?_)))
 refine H.v 20 (ii m) fun a H => H.v 21 (ii 0) fun a H => ?_
 refine nl (tn (bk ?_))
 refine w_loop (fun mm a wv => ∃ (i : Nat), ∃ (kq : Nat), ∃ (l : List (Int × Int)), ∃ (B : Option Addr), ∃ (cc : Nat), m - i = mm ∧ Sl 31 [(21, (ii i)), (20, (ii m)), (8, (.slice B i cc)), (0, (pt rb 0)), (2, (.func (.func 101) #[] #[(pt br 0)]))] a ∧ Hp w wv [(rowsR w.heap.size 76 2 altC (fun _ _ => True) (fun _ _ => False) (.slice B i cc) l), bx rb 103 (rC s kq) false] [boxK br 148 [.pointer (some ⟨rb, 0, none⟩)], laidK a0 a1] ∧ (i ≤ m) ∧ (l.length = i) ∧ (kq ≤ s.length) ∧ (rdC s 40 (rdM altOf s 2) k = pre (l) (rdL (rdM altOf s 2) (m - i) kq))) (m - 0) ?_ ?_
 ·exact ⟨0, k1, [], none, 0, (by omega), H.keep (by kernel_rfl), HP, (Nat.zero_le _), rfl, hk1, (by rw [hrel0]; exact (pre_nil _).symm)⟩
 rintro mm a w_2 ⟨i, kq, l, B, cc, hmeas, H, HP, hi, hll, hkq, hrel⟩
 refine sq (rg ?_)
 refine H.v 22 (.bool (decide ((i : Int) < (m : Int)))) fun a H => ?_
 refine nl (tn (sq ?_))
 refine w_if H rfl (fun g22 => ?_) (fun g22 => ?_)
 ·have g22p := of_decide_eq_true g22
  refine sk (tn (sq (bk (sq (rg ?_)))))
  refine H.al HP 9 76 [(ii 0), (ii 0)] fun b_3 w_4 a H HP => ?_
  refine nl (tn (sq (rg ?_)))
  refine H.v 23 (.func (.func 101) #[] #[(pt br 0)]) fun a H => ?_
  refine H.callP 24 (by kernel_rfl) (Eq.trans (by kernel_rfl : _ = (callFunc 101 #[(pt b_3 0), (pt br 0)]).run Tryz.prog w_4) (Tryz.call101 _ _)) (rcS_any a0 a1 s kq rb br b_3 w_4 (HP.fact 1 rfl) (fun j hj => ⟨HP.factNe 1 2 rfl rfl j hj, HP.factNe 1 0 rfl rfl j hj⟩) (HP.at_ 2 rfl) (HP.at_ 0 rfl) ((HP.neB 0 2 rfl rfl (by decide)).symm) (HP.fact 0 rfl) ⟨HP.factNe 0 2 rfl rfl br rfl, HP.factNe 0 0 rfl rfl br rfl⟩ hl hkq) ?_
  rintro e w_5 ⟨hag, (⟨E, k2, us2, hE, hE2, hk2, rfl, hb1, hb2⟩ | ⟨x, k2, hE, hk2, rfl, hb1, hb2⟩)⟩
  ·refine .inr ⟨_, rfl, ?_⟩
   intro a H
   have HP := HP.changed2 2 0 rfl rfl (rC s k2) us2 _ rfl (by decide) hag hb1 hb2
   refine then_panic ?_
   refine inb_panic ?_
   refine then_panic ?_
   refine then_panic ?_
   refine inb_panic ?_
   refine then_panic ?_
   refine H.endP ?_
   exact ⟨HP.agree _ (by simp [bx, rowsR]), .inl ⟨E, k2, by rw [hrel, show m - i = (m - (i + 1)) + 1 by omega]; exact rdL_err hE, hE2, hk2, rfl, HP.at_ 2 rfl⟩⟩
  refine .inl ⟨_, rfl, ?_⟩
  intro a H
  have HP := HP.changed2 2 0 rfl rfl (rC s k2) (alL x) _ rfl (by decide) hag hb1 hb2
  refine nl (tn (rg ?_))
  refine H.v 25 (.slice B i cc) fun a H => H.u 26 (alV x) (ex_lN (alL x) (HP.cells 0 rfl 0 2 (by kernel_rfl))) fun a H => H.alloc HP 27 (fun b => (.slice (some ⟨b, 0, none⟩) 1 1)) 76 (alL x) (by kernel_rfl) (fun w => by kernel_rfl) fun b_6 w_7 a H HP => ?_
  have HP := HP.pend0 2 rfl elOk_flat x [bx b_6 76 (alL x) true, bx b_3 76 (alL x) true, (rowsP w.heap.size 76 2 altC (fun _ _ => True) (fun _ _ => False) (.slice B i cc) l x), bx rb 103 (rC s k2) false] (by kernel_rfl) trivial (fun _ h => h)
  refine H.push HP 28 2 0 (v := (.slice B i cc)) (e := 76) (p := x) (l := l) (cs := altC) (ok := (fun _ _ => True)) (fe := (fun _ _ => False)) (size := 2) (z := (.agg #[(ii 0), (ii 0)])) (bytes := 16) (bb := b_6) (tb := 76) (fb := true) (by kernel_rfl) elOk_flat (by kernel_rfl) (by kernel_rfl) rfl (by kernel_rfl) (by kernel_rfl) (by kernel_rfl) (by kernel_rfl) (by kernel_rfl) rfl (by kernel_rfl) (by rw [hll]; unfold maxLen; omega) (by rw [hll]; omega) fun B_8 c_9 w_10 a H HP => ?_
  have HP : Hp w w_10 [bx b_6 76 (alL x) true, bx b_3 76 (alL x) true, (rowsR w.heap.size 76 2 altC (fun _ _ => True) (fun _ _ => False) (.slice B_8 (l.length + 1) c_9) (l ++ [x])), bx rb 103 (rC s k2) false] [boxK br 148 [.pointer (some ⟨rb, 0, none⟩)], laidK a0 a1] := HP
  rw [hll] at H HP
  refine H.v 8 (.slice B_8 (i + 1) c_9) fun a H => ?_
  refine nl (ibn (tn (rg ?_)))
  refine H.valE 29 (ii (IntKind.i64.wrap ((i : Int) + 1))) (ii ((i : Int) + 1)) (by kernel_rfl) (by kernel_rfl) ((by rw [wrap_ini64 _ (by omega)])) fun a H => H.v 21 (ii ((i : Int) + 1)) fun a H => ?_
  refine nl (tn ?_)
  have HP := HP.tail rfl
  have HP := HP.tail rfl
  have H := H.as 21 (ii ((i + 1 : Nat) : Int)) rfl rfl
  refine ⟨_, ?_, i + 1, k2, l ++ [x], B_8, c_9, rfl, H.keep (by kernel_rfl), HP, (by omega), (by rw [List.length_append, hll]; rfl), hk2, (by rw [hrel, show m - i = (m - (i + 1)) + 1 by omega]; exact rdL_step hE)⟩
  omega
 have g22p := of_decide_eq_false g22
 refine wp_exit (then_exit (then_exit ?_))
 refine w_exit_here ?_
 refine tn (sq (rg ?_))
 refine H.v 30 (.slice B i cc) fun a H => H.v 6 (.slice B i cc) fun a H => ?_
 refine nl (tn (rt ?_))
 refine H.r1 (.slice B i cc) Tryz.results100 ?_
 have hrow := HP.held 0 rfl
 have hfr := HP.fresh _ (List.mem_of_getElem? (i := 0) rfl) rfl
 have hres : rdC s 40 (rdM altOf s 2) k = .ok (l, kq) := by rw [hrel, show m - i = 0 by omega]; exact pre_ok _ _
 subst hll
 exact ⟨HP.agree _ (by simp [bx, rowsR]), .inr ⟨B, cc, l, kq, hres, hkq, rfl, HP.at_ 1 rfl, Rd.of_own hrow.1, flat_new hrow, by omega⟩⟩
theorem listI_any (a0 a1 : Addr) (s : List UInt8) (k rb br : Nat) (w : World) (hL : LaidP a0 a1 w) (hsep : ∀ j, lpFp a0 a1 j → j ≠ rb) (h : Box w rb 103 (rC s k).toArray) (hbr : Box w br 148 #[.pointer (some ⟨rb, 0, none⟩)]) (hbn : br ≠ rb) (hl : s.length ≤ 1000000) (hk : k ≤ s.length) :
  Calls Tryz.prog 102 #[.pointer (some ⟨rb, 0, none⟩), .int .i64 4000, .func (.func 103) #[] #[.pointer (some ⟨br, 0, none⟩)]] w (ListPost 5 itC (rdM itOf s 5) 4000 a0 a1 s k rb w) := by
 have HP : Hp w w [bx rb 103 (rC s k) false] [boxK br 148 [.pointer (some ⟨rb, 0, none⟩)], laidK a0 a1] := ((Hp.own h).keepF (laidK a0 a1) hL (laidK_ok _ _) (fun j hj => ⟨hL.lt j hj, by simpa [bx] using hsep j hj⟩)).keepF (boxK br 148 [.pointer (some ⟨rb, 0, none⟩)]) hbr (boxK_ok _ _ _) (fun j hj => ⟨by cases hj; exact hbr.lt, by cases hj; simpa [bx] using hbn⟩)
 refine w_enter 31 [(0, (pt rb 0)), (1, (ii 4000)), (2, (.func (.func 103) #[] #[(pt br 0)]))] Tryz.func102 rfl Tryz.ntmps102 (by kernel_rfl) (by kernel_rfl) fun a H => ?_
 refine sq (rg ?_)
 refine H.v 6 (.slice none 0 0) fun a H => ?_
 refine nl (tn (sq (rg ?_)))
 refine H.v 10 (pt rb 0) fun a H => ?_
 refine H.callP 11 (by kernel_rfl) (Eq.trans (by kernel_rfl : _ = (callFunc 128 #[(pt rb 0)]).run Tryz.prog w) (Tryz.call128 _ _)) (number_any a0 a1 s k rb w (HP.fact 1 rfl) hsep (HP.at_ 0 rfl) hl hk) ?_
 rintro e w_1 ⟨hag, (⟨hR, rfl, hbx⟩ | ⟨n, k1, hR, hk1, rfl, hbx⟩)⟩
 ·refine .inr ⟨_, rfl, ?_⟩
  intro a H
  have HP := HP.changed1 0 rfl (rC s k) [bx rb 103 (rC s k) false] (by kernel_rfl) hag hbx
  refine then_panic ?_
  refine H.endP ?_
  exact ⟨HP.agree _ (by simp [bx, rowsR]), .inl ⟨10, k, by unfold rdC; rw [hR], .inl rfl, hk, rfl, HP.at_ 0 rfl⟩⟩
 refine .inl ⟨_, rfl, ?_⟩
 intro a H
 have HP := HP.changed1 0 rfl (rC s k1) [bx rb 103 (rC s k1) false] (by kernel_rfl) hag hbx
 obtain ⟨hn1, hn2⟩ := rdInt_in hk hR
 refine H.v 7 (ii n) fun a H => ?_
 refine nl (tn (sq (sq (rg ?_))))
 refine H.v 12 (ii n) fun a H => H.v 13 (.bool (decide (n < 0))) fun a H => H.v 14 (.bool (decide (n < 0))) fun a H => ?_
 refine H.split 14 rfl (fun g14 H => ?_) (fun g14 H => ?_)
 ·have g14p := of_decide_eq_true g14
  iterate 3 refine H.sx rfl fun a H => ?_
  refine H.vx rfl (.bool true) fun a H => ?_
  refine nl (tn ?_)
  refine w_ift H rfl ?_
  refine rg ?_
  refine H.u 19 (.iface 212 (.pointer (some a1))) (ex_l1 ((HP.fact 1 rfl : LaidP a0 a1 _).c1)) fun a H => ?_
  refine H.panic0 (v := (.iface 212 (.pointer (some a1)))) (w' := w_1) (by kernel_rfl) (by kernel_rfl) ?_
  refine then_panic ?_
  refine H.endP ?_
  exact ⟨HP.agree _ (by simp [bx, rowsR]), .inl ⟨80, k1, by unfold rdC; rw [hR]; simp only; rw [if_pos (by omega)], .inr rfl, hk1, rfl, HP.at_ 0 rfl⟩⟩
 have g14p := of_decide_eq_false g14
 refine H.v 15 (ii n) fun a H => H.v 16 (ii 4000) fun a H => H.v 17 (.bool (decide (n > 4000))) fun a H => H.v 18 (.bool (decide (n > 4000))) fun a H => ?_
 refine nl (tn ?_)
 refine w_if H rfl (fun g18 => ?_) (fun g18 => ?_)
 ·have g18p := of_decide_eq_true g18
  refine rg ?_
  refine H.u 19 (.iface 212 (.pointer (some a1))) (ex_l1 ((HP.fact 1 rfl : LaidP a0 a1 _).c1)) fun a H => ?_
  refine H.panic0 (v := (.iface 212 (.pointer (some a1)))) (w' := w_1) (by kernel_rfl) (by kernel_rfl) ?_
  refine then_panic ?_
  refine H.endP ?_
  exact ⟨HP.agree _ (by simp [bx, rowsR]), .inl ⟨80, k1, by unfold rdC; rw [hR]; simp only; rw [if_pos (by omega)], .inr rfl, hk1, rfl, HP.at_ 0 rfl⟩⟩
 have g18p := of_decide_eq_false g18
 refine sk (tn (sq ?_))
 obtain ⟨m, rfl⟩ : ∃ m : Nat, n = m := ⟨n.toNat, by omega⟩
 have hrel0 : rdC s 4000 (rdM itOf s 5) k = rdL (rdM itOf s 5) m k1 := by unfold rdC; rw [hR]; simp only; rw [if_neg (by omega), Int.toNat_natCast]
 refine rg ?_
 refine H.v 8 (.slice none 0 0) fun a H => ?_
 refine nl ?_
 have HP := HP.nilRow w.heap.size 38 5 itC (fun _ _ => True) (fun _ _ => False) elOk_flat
 refine tn (sq (sq (rg ?_)))
 refine H.v 20 (ii m) fun a H => H.v 21 (ii 0) fun a H => ?_
 refine nl (tn (bk ?_))
 refine w_loop (fun mm a wv => ∃ (i : Nat), ∃ (kq : Nat), ∃ (l : List (Itm)), ∃ (B : Option Addr), ∃ (cc : Nat), m - i = mm ∧ Sl 31 [(21, (ii i)), (20, (ii m)), (8, (.slice B i cc)), (0, (pt rb 0)), (2, (.func (.func 103) #[] #[(pt br 0)]))] a ∧ Hp w wv [(rowsR w.heap.size 38 5 itC (fun _ _ => True) (fun _ _ => False) (.slice B i cc) l), bx rb 103 (rC s kq) false] [boxK br 148 [.pointer (some ⟨rb, 0, none⟩)], laidK a0 a1] ∧ (i ≤ m) ∧ (l.length = i) ∧ (kq ≤ s.length) ∧ (rdC s 4000 (rdM itOf s 5) k = pre (l) (rdL (rdM itOf s 5) (m - i) kq))) (m - 0) ?_ ?_
 ·exact ⟨0, k1, [], none, 0, (by omega), H.keep (by kernel_rfl), HP, (Nat.zero_le _), rfl, hk1, (by rw [hrel0]; exact (pre_nil _).symm)⟩
 rintro mm a w_2 ⟨i, kq, l, B, cc, hmeas, H, HP, hi, hll, hkq, hrel⟩
 refine sq (rg ?_)
 refine H.v 22 (.bool (decide ((i : Int) < (m : Int)))) fun a H => ?_
 refine nl (tn (sq ?_))
 refine w_if H rfl (fun g22 => ?_) (fun g22 => ?_)
 ·have g22p := of_decide_eq_true g22
  refine sk (tn (sq (bk (sq (rg ?_)))))
  refine H.al HP 9 38 [(ii 0), (ii 0), (ii 0), (ii 0), (ii 0)] fun b_3 w_4 a H HP => ?_
  refine nl (tn (sq (rg ?_)))
  refine H.v 23 (.func (.func 103) #[] #[(pt br 0)]) fun a H => ?_
  refine H.callP 24 (by kernel_rfl) (Eq.trans (by kernel_rfl : _ = (callFunc 103 #[(pt b_3 0), (pt br 0)]).run Tryz.prog w_4) (Tryz.call103 _ _)) (rcI_any a0 a1 s kq rb br b_3 w_4 (HP.fact 1 rfl) (fun j hj => ⟨HP.factNe 1 2 rfl rfl j hj, HP.factNe 1 0 rfl rfl j hj⟩) (HP.at_ 2 rfl) (HP.at_ 0 rfl) ((HP.neB 0 2 rfl rfl (by decide)).symm) (HP.fact 0 rfl) ⟨HP.factNe 0 2 rfl rfl br rfl, HP.factNe 0 0 rfl rfl br rfl⟩ hl hkq) ?_
  rintro e w_5 ⟨hag, (⟨E, k2, us2, hE, hE2, hk2, rfl, hb1, hb2⟩ | ⟨x, k2, hE, hk2, rfl, hb1, hb2⟩)⟩
  ·refine .inr ⟨_, rfl, ?_⟩
   intro a H
   have HP := HP.changed2 2 0 rfl rfl (rC s k2) us2 _ rfl (by decide) hag hb1 hb2
   refine then_panic ?_
   refine inb_panic ?_
   refine then_panic ?_
   refine then_panic ?_
   refine inb_panic ?_
   refine then_panic ?_
   refine H.endP ?_
   exact ⟨HP.agree _ (by simp [bx, rowsR]), .inl ⟨E, k2, by rw [hrel, show m - i = (m - (i + 1)) + 1 by omega]; exact rdL_err hE, hE2, hk2, rfl, HP.at_ 2 rfl⟩⟩
  refine .inl ⟨_, rfl, ?_⟩
  intro a H
  have HP := HP.changed2 2 0 rfl rfl (rC s k2) (itL x) _ rfl (by decide) hag hb1 hb2
  refine nl (tn (rg ?_))
  refine H.v 25 (.slice B i cc) fun a H => H.u 26 (itV x) (ex_lN (itL x) (HP.cells 0 rfl 0 5 (by kernel_rfl))) fun a H => H.alloc HP 27 (fun b => (.slice (some ⟨b, 0, none⟩) 1 1)) 38 (itL x) (by kernel_rfl) (fun w => by kernel_rfl) fun b_6 w_7 a H HP => ?_
  have HP := HP.pend0 2 rfl elOk_flat x [bx b_6 38 (itL x) true, bx b_3 38 (itL x) true, (rowsP w.heap.size 38 5 itC (fun _ _ => True) (fun _ _ => False) (.slice B i cc) l x), bx rb 103 (rC s k2) false] (by kernel_rfl) trivial (fun _ h => h)
  refine H.push HP 28 2 0 (v := (.slice B i cc)) (e := 38) (p := x) (l := l) (cs := itC) (ok := (fun _ _ => True)) (fe := (fun _ _ => False)) (size := 5) (z := (.agg #[(ii 0), (ii 0), (ii 0), (ii 0), (ii 0)])) (bytes := 40) (bb := b_6) (tb := 38) (fb := true) (by kernel_rfl) elOk_flat (by kernel_rfl) (by kernel_rfl) rfl (by kernel_rfl) (by kernel_rfl) (by kernel_rfl) (by kernel_rfl) (by kernel_rfl) rfl (by kernel_rfl) (by rw [hll]; unfold maxLen; omega) (by rw [hll]; omega) fun B_8 c_9 w_10 a H HP => ?_
  have HP : Hp w w_10 [bx b_6 38 (itL x) true, bx b_3 38 (itL x) true, (rowsR w.heap.size 38 5 itC (fun _ _ => True) (fun _ _ => False) (.slice B_8 (l.length + 1) c_9) (l ++ [x])), bx rb 103 (rC s k2) false] [boxK br 148 [.pointer (some ⟨rb, 0, none⟩)], laidK a0 a1] := HP
  rw [hll] at H HP
  refine H.v 8 (.slice B_8 (i + 1) c_9) fun a H => ?_
  refine nl (ibn (tn (rg ?_)))
  refine H.valE 29 (ii (IntKind.i64.wrap ((i : Int) + 1))) (ii ((i : Int) + 1)) (by kernel_rfl) (by kernel_rfl) ((by rw [wrap_ini64 _ (by omega)])) fun a H => H.v 21 (ii ((i : Int) + 1)) fun a H => ?_
  refine nl (tn ?_)
  have HP := HP.tail rfl
  have HP := HP.tail rfl
  have H := H.as 21 (ii ((i + 1 : Nat) : Int)) rfl rfl
  refine ⟨_, ?_, i + 1, k2, l ++ [x], B_8, c_9, rfl, H.keep (by kernel_rfl), HP, (by omega), (by rw [List.length_append, hll]; rfl), hk2, (by rw [hrel, show m - i = (m - (i + 1)) + 1 by omega]; exact rdL_step hE)⟩
  omega
 have g22p := of_decide_eq_false g22
 refine wp_exit (then_exit (then_exit ?_))
 refine w_exit_here ?_
 refine tn (sq (rg ?_))
 refine H.v 30 (.slice B i cc) fun a H => H.v 6 (.slice B i cc) fun a H => ?_
 refine nl (tn (rt ?_))
 refine H.r1 (.slice B i cc) Tryz.results102 ?_
 have hrow := HP.held 0 rfl
 have hfr := HP.fresh _ (List.mem_of_getElem? (i := 0) rfl) rfl
 have hres : rdC s 4000 (rdM itOf s 5) k = .ok (l, kq) := by rw [hrel, show m - i = 0 by omega]; exact pre_ok _ _
 subst hll
 exact ⟨HP.agree _ (by simp [bx, rowsR]), .inr ⟨B, cc, l, kq, hres, hkq, rfl, HP.at_ 1 rfl, Rd.of_own hrow.1, flat_new hrow, by omega⟩⟩
theorem listA_any (a0 a1 : Addr) (s : List UInt8) (k rb br : Nat) (w : World) (hL : LaidP a0 a1 w) (hsep : ∀ j, lpFp a0 a1 j → j ≠ rb) (h : Box w rb 103 (rC s k).toArray) (hbr : Box w br 148 #[.pointer (some ⟨rb, 0, none⟩)]) (hbn : br ≠ rb) (hl : s.length ≤ 1000000) (hk : k ≤ s.length) :
  Calls Tryz.prog 106 #[.pointer (some ⟨rb, 0, none⟩), .int .i64 7, .func (.func 107) #[] #[.pointer (some ⟨br, 0, none⟩)]] w (ListPost 2 altC (rdM altOf s 2) 7 a0 a1 s k rb w) := by
 have HP : Hp w w [bx rb 103 (rC s k) false] [boxK br 148 [.pointer (some ⟨rb, 0, none⟩)], laidK a0 a1] := ((Hp.own h).keepF (laidK a0 a1) hL (laidK_ok _ _) (fun j hj => ⟨hL.lt j hj, by simpa [bx] using hsep j hj⟩)).keepF (boxK br 148 [.pointer (some ⟨rb, 0, none⟩)]) hbr (boxK_ok _ _ _) (fun j hj => ⟨by cases hj; exact hbr.lt, by cases hj; simpa [bx] using hbn⟩)
 refine w_enter 31 [(0, (pt rb 0)), (1, (ii 7)), (2, (.func (.func 107) #[] #[(pt br 0)]))] Tryz.func106 rfl Tryz.ntmps106 (by kernel_rfl) (by kernel_rfl) fun a H => ?_
 refine sq (rg ?_)
 refine H.v 6 (.slice none 0 0) fun a H => ?_
 refine nl (tn (sq (rg ?_)))
 refine H.v 10 (pt rb 0) fun a H => ?_
 refine H.callP 11 (by kernel_rfl) (Eq.trans (by kernel_rfl : _ = (callFunc 128 #[(pt rb 0)]).run Tryz.prog w) (Tryz.call128 _ _)) (number_any a0 a1 s k rb w (HP.fact 1 rfl) hsep (HP.at_ 0 rfl) hl hk) ?_
 rintro e w_1 ⟨hag, (⟨hR, rfl, hbx⟩ | ⟨n, k1, hR, hk1, rfl, hbx⟩)⟩
 ·refine .inr ⟨_, rfl, ?_⟩
  intro a H
  have HP := HP.changed1 0 rfl (rC s k) [bx rb 103 (rC s k) false] (by kernel_rfl) hag hbx
  refine then_panic ?_
  refine H.endP ?_
  exact ⟨HP.agree _ (by simp [bx, rowsR]), .inl ⟨10, k, by unfold rdC; rw [hR], .inl rfl, hk, rfl, HP.at_ 0 rfl⟩⟩
 refine .inl ⟨_, rfl, ?_⟩
 intro a H
 have HP := HP.changed1 0 rfl (rC s k1) [bx rb 103 (rC s k1) false] (by kernel_rfl) hag hbx
 obtain ⟨hn1, hn2⟩ := rdInt_in hk hR
 refine H.v 7 (ii n) fun a H => ?_
 refine nl (tn (sq (sq (rg ?_))))
 refine H.v 12 (ii n) fun a H => H.v 13 (.bool (decide (n < 0))) fun a H => H.v 14 (.bool (decide (n < 0))) fun a H => ?_
 refine H.split 14 rfl (fun g14 H => ?_) (fun g14 H => ?_)
 ·have g14p := of_decide_eq_true g14
  iterate 3 refine H.sx rfl fun a H => ?_
  refine H.vx rfl (.bool true) fun a H => ?_
  refine nl (tn ?_)
  refine w_ift H rfl ?_
  refine rg ?_
  refine H.u 19 (.iface 212 (.pointer (some a1))) (ex_l1 ((HP.fact 1 rfl : LaidP a0 a1 _).c1)) fun a H => ?_
  refine H.panic0 (v := (.iface 212 (.pointer (some a1)))) (w' := w_1) (by kernel_rfl) (by kernel_rfl) ?_
  refine then_panic ?_
  refine H.endP ?_
  exact ⟨HP.agree _ (by simp [bx, rowsR]), .inl ⟨80, k1, by unfold rdC; rw [hR]; simp only; rw [if_pos (by omega)], .inr rfl, hk1, rfl, HP.at_ 0 rfl⟩⟩
 have g14p := of_decide_eq_false g14
 refine H.v 15 (ii n) fun a H => H.v 16 (ii 7) fun a H => H.v 17 (.bool (decide (n > 7))) fun a H => H.v 18 (.bool (decide (n > 7))) fun a H => ?_
 refine nl (tn ?_)
 refine w_if H rfl (fun g18 => ?_) (fun g18 => ?_)
 ·have g18p := of_decide_eq_true g18
  refine rg ?_
  refine H.u 19 (.iface 212 (.pointer (some a1))) (ex_l1 ((HP.fact 1 rfl : LaidP a0 a1 _).c1)) fun a H => ?_
  refine H.panic0 (v := (.iface 212 (.pointer (some a1)))) (w' := w_1) (by kernel_rfl) (by kernel_rfl) ?_
  refine then_panic ?_
  refine H.endP ?_
  exact ⟨HP.agree _ (by simp [bx, rowsR]), .inl ⟨80, k1, by unfold rdC; rw [hR]; simp only; rw [if_pos (by omega)], .inr rfl, hk1, rfl, HP.at_ 0 rfl⟩⟩
 have g18p := of_decide_eq_false g18
 refine sk (tn (sq ?_))
 obtain ⟨m, rfl⟩ : ∃ m : Nat, n = m := ⟨n.toNat, by omega⟩
 have hrel0 : rdC s 7 (rdM altOf s 2) k = rdL (rdM altOf s 2) m k1 := by unfold rdC; rw [hR]; simp only; rw [if_neg (by omega), Int.toNat_natCast]
 refine rg ?_
 refine H.v 8 (.slice none 0 0) fun a H => ?_
 refine nl ?_
 have HP := HP.nilRow w.heap.size 62 2 altC (fun _ _ => True) (fun _ _ => False) elOk_flat
 refine tn (sq (sq (rg ?_)))
 refine H.v 20 (ii m) fun a H => H.v 21 (ii 0) fun a H => ?_
 refine nl (tn (bk ?_))
 refine w_loop (fun mm a wv => ∃ (i : Nat), ∃ (kq : Nat), ∃ (l : List (Int × Int)), ∃ (B : Option Addr), ∃ (cc : Nat), m - i = mm ∧ Sl 31 [(21, (ii i)), (20, (ii m)), (8, (.slice B i cc)), (0, (pt rb 0)), (2, (.func (.func 107) #[] #[(pt br 0)]))] a ∧ Hp w wv [(rowsR w.heap.size 62 2 altC (fun _ _ => True) (fun _ _ => False) (.slice B i cc) l), bx rb 103 (rC s kq) false] [boxK br 148 [.pointer (some ⟨rb, 0, none⟩)], laidK a0 a1] ∧ (i ≤ m) ∧ (l.length = i) ∧ (kq ≤ s.length) ∧ (rdC s 7 (rdM altOf s 2) k = pre (l) (rdL (rdM altOf s 2) (m - i) kq))) (m - 0) ?_ ?_
 ·exact ⟨0, k1, [], none, 0, (by omega), H.keep (by kernel_rfl), HP, (Nat.zero_le _), rfl, hk1, (by rw [hrel0]; exact (pre_nil _).symm)⟩
 rintro mm a w_2 ⟨i, kq, l, B, cc, hmeas, H, HP, hi, hll, hkq, hrel⟩
 refine sq (rg ?_)
 refine H.v 22 (.bool (decide ((i : Int) < (m : Int)))) fun a H => ?_
 refine nl (tn (sq ?_))
 refine w_if H rfl (fun g22 => ?_) (fun g22 => ?_)
 ·have g22p := of_decide_eq_true g22
  refine sk (tn (sq (bk (sq (rg ?_)))))
  refine H.al HP 9 62 [(ii 0), (ii 0)] fun b_3 w_4 a H HP => ?_
  refine nl (tn (sq (rg ?_)))
  refine H.v 23 (.func (.func 107) #[] #[(pt br 0)]) fun a H => ?_
  refine H.callP 24 (by kernel_rfl) (Eq.trans (by kernel_rfl : _ = (callFunc 107 #[(pt b_3 0), (pt br 0)]).run Tryz.prog w_4) (Tryz.call107 _ _)) (rcA_any a0 a1 s kq rb br b_3 w_4 (HP.fact 1 rfl) (fun j hj => ⟨HP.factNe 1 2 rfl rfl j hj, HP.factNe 1 0 rfl rfl j hj⟩) (HP.at_ 2 rfl) (HP.at_ 0 rfl) ((HP.neB 0 2 rfl rfl (by decide)).symm) (HP.fact 0 rfl) ⟨HP.factNe 0 2 rfl rfl br rfl, HP.factNe 0 0 rfl rfl br rfl⟩ hl hkq) ?_
  rintro e w_5 ⟨hag, (⟨E, k2, us2, hE, hE2, hk2, rfl, hb1, hb2⟩ | ⟨x, k2, hE, hk2, rfl, hb1, hb2⟩)⟩
  ·refine .inr ⟨_, rfl, ?_⟩
   intro a H
   have HP := HP.changed2 2 0 rfl rfl (rC s k2) us2 _ rfl (by decide) hag hb1 hb2
   refine then_panic ?_
   refine inb_panic ?_
   refine then_panic ?_
   refine then_panic ?_
   refine inb_panic ?_
   refine then_panic ?_
   refine H.endP ?_
   exact ⟨HP.agree _ (by simp [bx, rowsR]), .inl ⟨E, k2, by rw [hrel, show m - i = (m - (i + 1)) + 1 by omega]; exact rdL_err hE, hE2, hk2, rfl, HP.at_ 2 rfl⟩⟩
  refine .inl ⟨_, rfl, ?_⟩
  intro a H
  have HP := HP.changed2 2 0 rfl rfl (rC s k2) (alL x) _ rfl (by decide) hag hb1 hb2
  refine nl (tn (rg ?_))
  refine H.v 25 (.slice B i cc) fun a H => H.u 26 (alV x) (ex_lN (alL x) (HP.cells 0 rfl 0 2 (by kernel_rfl))) fun a H => H.alloc HP 27 (fun b => (.slice (some ⟨b, 0, none⟩) 1 1)) 62 (alL x) (by kernel_rfl) (fun w => by kernel_rfl) fun b_6 w_7 a H HP => ?_
  have HP := HP.pend0 2 rfl elOk_flat x [bx b_6 62 (alL x) true, bx b_3 62 (alL x) true, (rowsP w.heap.size 62 2 altC (fun _ _ => True) (fun _ _ => False) (.slice B i cc) l x), bx rb 103 (rC s k2) false] (by kernel_rfl) trivial (fun _ h => h)
  refine H.push HP 28 2 0 (v := (.slice B i cc)) (e := 62) (p := x) (l := l) (cs := altC) (ok := (fun _ _ => True)) (fe := (fun _ _ => False)) (size := 2) (z := (.agg #[(ii 0), (ii 0)])) (bytes := 16) (bb := b_6) (tb := 62) (fb := true) (by kernel_rfl) elOk_flat (by kernel_rfl) (by kernel_rfl) rfl (by kernel_rfl) (by kernel_rfl) (by kernel_rfl) (by kernel_rfl) (by kernel_rfl) rfl (by kernel_rfl) (by rw [hll]; unfold maxLen; omega) (by rw [hll]; omega) fun B_8 c_9 w_10 a H HP => ?_
  have HP : Hp w w_10 [bx b_6 62 (alL x) true, bx b_3 62 (alL x) true, (rowsR w.heap.size 62 2 altC (fun _ _ => True) (fun _ _ => False) (.slice B_8 (l.length + 1) c_9) (l ++ [x])), bx rb 103 (rC s k2) false] [boxK br 148 [.pointer (some ⟨rb, 0, none⟩)], laidK a0 a1] := HP
  rw [hll] at H HP
  refine H.v 8 (.slice B_8 (i + 1) c_9) fun a H => ?_
  refine nl (ibn (tn (rg ?_)))
  refine H.valE 29 (ii (IntKind.i64.wrap ((i : Int) + 1))) (ii ((i : Int) + 1)) (by kernel_rfl) (by kernel_rfl) ((by rw [wrap_ini64 _ (by omega)])) fun a H => H.v 21 (ii ((i : Int) + 1)) fun a H => ?_
  refine nl (tn ?_)
  have HP := HP.tail rfl
  have HP := HP.tail rfl
  have H := H.as 21 (ii ((i + 1 : Nat) : Int)) rfl rfl
  refine ⟨_, ?_, i + 1, k2, l ++ [x], B_8, c_9, rfl, H.keep (by kernel_rfl), HP, (by omega), (by rw [List.length_append, hll]; rfl), hk2, (by rw [hrel, show m - i = (m - (i + 1)) + 1 by omega]; exact rdL_step hE)⟩
  omega
 have g22p := of_decide_eq_false g22
 refine wp_exit (then_exit (then_exit ?_))
 refine w_exit_here ?_
 refine tn (sq (rg ?_))
 refine H.v 30 (.slice B i cc) fun a H => H.v 6 (.slice B i cc) fun a H => ?_
 refine nl (tn (rt ?_))
 refine H.r1 (.slice B i cc) Tryz.results106 ?_
 have hrow := HP.held 0 rfl
 have hfr := HP.fresh _ (List.mem_of_getElem? (i := 0) rfl) rfl
 have hres : rdC s 7 (rdM altOf s 2) k = .ok (l, kq) := by rw [hrel, show m - i = 0 by omega]; exact pre_ok _ _
 subst hll
 exact ⟨HP.agree _ (by simp [bx, rowsR]), .inr ⟨B, cc, l, kq, hres, hkq, rfl, HP.at_ 1 rfl, Rd.of_own hrow.1, flat_new hrow, by omega⟩⟩
theorem listB_any (a0 a1 : Addr) (s : List UInt8) (k rb br : Nat) (w : World) (hL : LaidP a0 a1 w) (hsep : ∀ j, lpFp a0 a1 j → j ≠ rb) (h : Box w rb 103 (rC s k).toArray) (hbr : Box w br 148 #[.pointer (some ⟨rb, 0, none⟩)]) (hbn : br ≠ rb) (hl : s.length ≤ 1000000) (hk : k ≤ s.length) :
  Calls Tryz.prog 108 #[.pointer (some ⟨rb, 0, none⟩), .int .i64 2000, .func (.func 109) #[] #[.pointer (some ⟨br, 0, none⟩)]] w (ListPost 7 bkC (rdM bkOf s 7) 2000 a0 a1 s k rb w) := by
 have HP : Hp w w [bx rb 103 (rC s k) false] [boxK br 148 [.pointer (some ⟨rb, 0, none⟩)], laidK a0 a1] := ((Hp.own h).keepF (laidK a0 a1) hL (laidK_ok _ _) (fun j hj => ⟨hL.lt j hj, by simpa [bx] using hsep j hj⟩)).keepF (boxK br 148 [.pointer (some ⟨rb, 0, none⟩)]) hbr (boxK_ok _ _ _) (fun j hj => ⟨by cases hj; exact hbr.lt, by cases hj; simpa [bx] using hbn⟩)
 refine w_enter 31 [(0, (pt rb 0)), (1, (ii 2000)), (2, (.func (.func 109) #[] #[(pt br 0)]))] Tryz.func108 rfl Tryz.ntmps108 (by kernel_rfl) (by kernel_rfl) fun a H => ?_
 refine sq (rg ?_)
 refine H.v 6 (.slice none 0 0) fun a H => ?_
 refine nl (tn (sq (rg ?_)))
 refine H.v 10 (pt rb 0) fun a H => ?_
 refine H.callP 11 (by kernel_rfl) (Eq.trans (by kernel_rfl : _ = (callFunc 128 #[(pt rb 0)]).run Tryz.prog w) (Tryz.call128 _ _)) (number_any a0 a1 s k rb w (HP.fact 1 rfl) hsep (HP.at_ 0 rfl) hl hk) ?_
 rintro e w_1 ⟨hag, (⟨hR, rfl, hbx⟩ | ⟨n, k1, hR, hk1, rfl, hbx⟩)⟩
 ·refine .inr ⟨_, rfl, ?_⟩
  intro a H
  have HP := HP.changed1 0 rfl (rC s k) [bx rb 103 (rC s k) false] (by kernel_rfl) hag hbx
  refine then_panic ?_
  refine H.endP ?_
  exact ⟨HP.agree _ (by simp [bx, rowsR]), .inl ⟨10, k, by unfold rdC; rw [hR], .inl rfl, hk, rfl, HP.at_ 0 rfl⟩⟩
 refine .inl ⟨_, rfl, ?_⟩
 intro a H
 have HP := HP.changed1 0 rfl (rC s k1) [bx rb 103 (rC s k1) false] (by kernel_rfl) hag hbx
 obtain ⟨hn1, hn2⟩ := rdInt_in hk hR
 refine H.v 7 (ii n) fun a H => ?_
 refine nl (tn (sq (sq (rg ?_))))
 refine H.v 12 (ii n) fun a H => H.v 13 (.bool (decide (n < 0))) fun a H => H.v 14 (.bool (decide (n < 0))) fun a H => ?_
 refine H.split 14 rfl (fun g14 H => ?_) (fun g14 H => ?_)
 ·have g14p := of_decide_eq_true g14
  iterate 3 refine H.sx rfl fun a H => ?_
  refine H.vx rfl (.bool true) fun a H => ?_
  refine nl (tn ?_)
  refine w_ift H rfl ?_
  refine rg ?_
  refine H.u 19 (.iface 212 (.pointer (some a1))) (ex_l1 ((HP.fact 1 rfl : LaidP a0 a1 _).c1)) fun a H => ?_
  refine H.panic0 (v := (.iface 212 (.pointer (some a1)))) (w' := w_1) (by kernel_rfl) (by kernel_rfl) ?_
  refine then_panic ?_
  refine H.endP ?_
  exact ⟨HP.agree _ (by simp [bx, rowsR]), .inl ⟨80, k1, by unfold rdC; rw [hR]; simp only; rw [if_pos (by omega)], .inr rfl, hk1, rfl, HP.at_ 0 rfl⟩⟩
 have g14p := of_decide_eq_false g14
 refine H.v 15 (ii n) fun a H => H.v 16 (ii 2000) fun a H => H.v 17 (.bool (decide (n > 2000))) fun a H => H.v 18 (.bool (decide (n > 2000))) fun a H => ?_
 refine nl (tn ?_)
 refine w_if H rfl (fun g18 => ?_) (fun g18 => ?_)
 ·have g18p := of_decide_eq_true g18
  refine rg ?_
  refine H.u 19 (.iface 212 (.pointer (some a1))) (ex_l1 ((HP.fact 1 rfl : LaidP a0 a1 _).c1)) fun a H => ?_
  refine H.panic0 (v := (.iface 212 (.pointer (some a1)))) (w' := w_1) (by kernel_rfl) (by kernel_rfl) ?_
  refine then_panic ?_
  refine H.endP ?_
  exact ⟨HP.agree _ (by simp [bx, rowsR]), .inl ⟨80, k1, by unfold rdC; rw [hR]; simp only; rw [if_pos (by omega)], .inr rfl, hk1, rfl, HP.at_ 0 rfl⟩⟩
 have g18p := of_decide_eq_false g18
 refine sk (tn (sq ?_))
 obtain ⟨m, rfl⟩ : ∃ m : Nat, n = m := ⟨n.toNat, by omega⟩
 have hrel0 : rdC s 2000 (rdM bkOf s 7) k = rdL (rdM bkOf s 7) m k1 := by unfold rdC; rw [hR]; simp only; rw [if_neg (by omega), Int.toNat_natCast]
 refine rg ?_
 refine H.v 8 (.slice none 0 0) fun a H => ?_
 refine nl ?_
 have HP := HP.nilRow w.heap.size 47 7 bkC (fun _ _ => True) (fun _ _ => False) elOk_flat
 refine tn (sq (sq (rg ?_)))
 refine H.v 20 (ii m) fun a H => H.v 21 (ii 0) fun a H => ?_
 refine nl (tn (bk ?_))
 refine w_loop (fun mm a wv => ∃ (i : Nat), ∃ (kq : Nat), ∃ (l : List (Bkg)), ∃ (B : Option Addr), ∃ (cc : Nat), m - i = mm ∧ Sl 31 [(21, (ii i)), (20, (ii m)), (8, (.slice B i cc)), (0, (pt rb 0)), (2, (.func (.func 109) #[] #[(pt br 0)]))] a ∧ Hp w wv [(rowsR w.heap.size 47 7 bkC (fun _ _ => True) (fun _ _ => False) (.slice B i cc) l), bx rb 103 (rC s kq) false] [boxK br 148 [.pointer (some ⟨rb, 0, none⟩)], laidK a0 a1] ∧ (i ≤ m) ∧ (l.length = i) ∧ (kq ≤ s.length) ∧ (rdC s 2000 (rdM bkOf s 7) k = pre (l) (rdL (rdM bkOf s 7) (m - i) kq))) (m - 0) ?_ ?_
 ·exact ⟨0, k1, [], none, 0, (by omega), H.keep (by kernel_rfl), HP, (Nat.zero_le _), rfl, hk1, (by rw [hrel0]; exact (pre_nil _).symm)⟩
 rintro mm a w_2 ⟨i, kq, l, B, cc, hmeas, H, HP, hi, hll, hkq, hrel⟩
 refine sq (rg ?_)
 refine H.v 22 (.bool (decide ((i : Int) < (m : Int)))) fun a H => ?_
 refine nl (tn (sq ?_))
 refine w_if H rfl (fun g22 => ?_) (fun g22 => ?_)
 ·have g22p := of_decide_eq_true g22
  refine sk (tn (sq (bk (sq (rg ?_)))))
  refine H.al HP 9 47 [(ii 0), (ii 0), (ii 0), (ii 0), (ii 0), (ii 0), (ii 0)] fun b_3 w_4 a H HP => ?_
  refine nl (tn (sq (rg ?_)))
  refine H.v 23 (.func (.func 109) #[] #[(pt br 0)]) fun a H => ?_
  refine H.callP 24 (by kernel_rfl) (Eq.trans (by kernel_rfl : _ = (callFunc 109 #[(pt b_3 0), (pt br 0)]).run Tryz.prog w_4) (Tryz.call109 _ _)) (rcB_any a0 a1 s kq rb br b_3 w_4 (HP.fact 1 rfl) (fun j hj => ⟨HP.factNe 1 2 rfl rfl j hj, HP.factNe 1 0 rfl rfl j hj⟩) (HP.at_ 2 rfl) (HP.at_ 0 rfl) ((HP.neB 0 2 rfl rfl (by decide)).symm) (HP.fact 0 rfl) ⟨HP.factNe 0 2 rfl rfl br rfl, HP.factNe 0 0 rfl rfl br rfl⟩ hl hkq) ?_
  rintro e w_5 ⟨hag, (⟨E, k2, us2, hE, hE2, hk2, rfl, hb1, hb2⟩ | ⟨x, k2, hE, hk2, rfl, hb1, hb2⟩)⟩
  ·refine .inr ⟨_, rfl, ?_⟩
   intro a H
   have HP := HP.changed2 2 0 rfl rfl (rC s k2) us2 _ rfl (by decide) hag hb1 hb2
   refine then_panic ?_
   refine inb_panic ?_
   refine then_panic ?_
   refine then_panic ?_
   refine inb_panic ?_
   refine then_panic ?_
   refine H.endP ?_
   exact ⟨HP.agree _ (by simp [bx, rowsR]), .inl ⟨E, k2, by rw [hrel, show m - i = (m - (i + 1)) + 1 by omega]; exact rdL_err hE, hE2, hk2, rfl, HP.at_ 2 rfl⟩⟩
  refine .inl ⟨_, rfl, ?_⟩
  intro a H
  have HP := HP.changed2 2 0 rfl rfl (rC s k2) (bkL x) _ rfl (by decide) hag hb1 hb2
  refine nl (tn (rg ?_))
  refine H.v 25 (.slice B i cc) fun a H => H.u 26 (bkV x) (ex_lN (bkL x) (HP.cells 0 rfl 0 7 (by kernel_rfl))) fun a H => H.alloc HP 27 (fun b => (.slice (some ⟨b, 0, none⟩) 1 1)) 47 (bkL x) (by kernel_rfl) (fun w => by kernel_rfl) fun b_6 w_7 a H HP => ?_
  have HP := HP.pend0 2 rfl elOk_flat x [bx b_6 47 (bkL x) true, bx b_3 47 (bkL x) true, (rowsP w.heap.size 47 7 bkC (fun _ _ => True) (fun _ _ => False) (.slice B i cc) l x), bx rb 103 (rC s k2) false] (by kernel_rfl) trivial (fun _ h => h)
  refine H.push HP 28 2 0 (v := (.slice B i cc)) (e := 47) (p := x) (l := l) (cs := bkC) (ok := (fun _ _ => True)) (fe := (fun _ _ => False)) (size := 7) (z := (.agg #[(ii 0), (ii 0), (ii 0), (ii 0), (ii 0), (ii 0), (ii 0)])) (bytes := 56) (bb := b_6) (tb := 47) (fb := true) (by kernel_rfl) elOk_flat (by kernel_rfl) (by kernel_rfl) rfl (by kernel_rfl) (by kernel_rfl) (by kernel_rfl) (by kernel_rfl) (by kernel_rfl) rfl (by kernel_rfl) (by rw [hll]; unfold maxLen; omega) (by rw [hll]; omega) fun B_8 c_9 w_10 a H HP => ?_
  have HP : Hp w w_10 [bx b_6 47 (bkL x) true, bx b_3 47 (bkL x) true, (rowsR w.heap.size 47 7 bkC (fun _ _ => True) (fun _ _ => False) (.slice B_8 (l.length + 1) c_9) (l ++ [x])), bx rb 103 (rC s k2) false] [boxK br 148 [.pointer (some ⟨rb, 0, none⟩)], laidK a0 a1] := HP
  rw [hll] at H HP
  refine H.v 8 (.slice B_8 (i + 1) c_9) fun a H => ?_
  refine nl (ibn (tn (rg ?_)))
  refine H.valE 29 (ii (IntKind.i64.wrap ((i : Int) + 1))) (ii ((i : Int) + 1)) (by kernel_rfl) (by kernel_rfl) ((by rw [wrap_ini64 _ (by omega)])) fun a H => H.v 21 (ii ((i : Int) + 1)) fun a H => ?_
  refine nl (tn ?_)
  have HP := HP.tail rfl
  have HP := HP.tail rfl
  have H := H.as 21 (ii ((i + 1 : Nat) : Int)) rfl rfl
  refine ⟨_, ?_, i + 1, k2, l ++ [x], B_8, c_9, rfl, H.keep (by kernel_rfl), HP, (by omega), (by rw [List.length_append, hll]; rfl), hk2, (by rw [hrel, show m - i = (m - (i + 1)) + 1 by omega]; exact rdL_step hE)⟩
  omega
 have g22p := of_decide_eq_false g22
 refine wp_exit (then_exit (then_exit ?_))
 refine w_exit_here ?_
 refine tn (sq (rg ?_))
 refine H.v 30 (.slice B i cc) fun a H => H.v 6 (.slice B i cc) fun a H => ?_
 refine nl (tn (rt ?_))
 refine H.r1 (.slice B i cc) Tryz.results108 ?_
 have hrow := HP.held 0 rfl
 have hfr := HP.fresh _ (List.mem_of_getElem? (i := 0) rfl) rfl
 have hres : rdC s 2000 (rdM bkOf s 7) k = .ok (l, kq) := by rw [hrel, show m - i = 0 by omega]; exact pre_ok _ _
 subst hll
 exact ⟨HP.agree _ (by simp [bx, rowsR]), .inr ⟨B, cc, l, kq, hres, hkq, rfl, HP.at_ 1 rfl, Rd.of_own hrow.1, flat_new hrow, by omega⟩⟩
theorem listC_any (a0 a1 : Addr) (s : List UInt8) (k rb br : Nat) (w : World) (hL : LaidP a0 a1 w) (hsep : ∀ j, lpFp a0 a1 j → j ≠ rb) (h : Box w rb 103 (rC s k).toArray) (hbr : Box w br 148 #[.pointer (some ⟨rb, 0, none⟩)]) (hbn : br ≠ rb) (hl : s.length ≤ 1000000) (hk : k ≤ s.length) :
  Calls Tryz.prog 110 #[.pointer (some ⟨rb, 0, none⟩), .int .i64 400, .func (.func 111) #[] #[.pointer (some ⟨br, 0, none⟩)]] w (ListPost 8 clC (rdM clOf s 8) 400 a0 a1 s k rb w) := by
 have HP : Hp w w [bx rb 103 (rC s k) false] [boxK br 148 [.pointer (some ⟨rb, 0, none⟩)], laidK a0 a1] := ((Hp.own h).keepF (laidK a0 a1) hL (laidK_ok _ _) (fun j hj => ⟨hL.lt j hj, by simpa [bx] using hsep j hj⟩)).keepF (boxK br 148 [.pointer (some ⟨rb, 0, none⟩)]) hbr (boxK_ok _ _ _) (fun j hj => ⟨by cases hj; exact hbr.lt, by cases hj; simpa [bx] using hbn⟩)
 refine w_enter 31 [(0, (pt rb 0)), (1, (ii 400)), (2, (.func (.func 111) #[] #[(pt br 0)]))] Tryz.func110 rfl Tryz.ntmps110 (by kernel_rfl) (by kernel_rfl) fun a H => ?_
 refine sq (rg ?_)
 refine H.v 6 (.slice none 0 0) fun a H => ?_
 refine nl (tn (sq (rg ?_)))
 refine H.v 10 (pt rb 0) fun a H => ?_
 refine H.callP 11 (by kernel_rfl) (Eq.trans (by kernel_rfl : _ = (callFunc 128 #[(pt rb 0)]).run Tryz.prog w) (Tryz.call128 _ _)) (number_any a0 a1 s k rb w (HP.fact 1 rfl) hsep (HP.at_ 0 rfl) hl hk) ?_
 rintro e w_1 ⟨hag, (⟨hR, rfl, hbx⟩ | ⟨n, k1, hR, hk1, rfl, hbx⟩)⟩
 ·refine .inr ⟨_, rfl, ?_⟩
  intro a H
  have HP := HP.changed1 0 rfl (rC s k) [bx rb 103 (rC s k) false] (by kernel_rfl) hag hbx
  refine then_panic ?_
  refine H.endP ?_
  exact ⟨HP.agree _ (by simp [bx, rowsR]), .inl ⟨10, k, by unfold rdC; rw [hR], .inl rfl, hk, rfl, HP.at_ 0 rfl⟩⟩
 refine .inl ⟨_, rfl, ?_⟩
 intro a H
 have HP := HP.changed1 0 rfl (rC s k1) [bx rb 103 (rC s k1) false] (by kernel_rfl) hag hbx
 obtain ⟨hn1, hn2⟩ := rdInt_in hk hR
 refine H.v 7 (ii n) fun a H => ?_
 refine nl (tn (sq (sq (rg ?_))))
 refine H.v 12 (ii n) fun a H => H.v 13 (.bool (decide (n < 0))) fun a H => H.v 14 (.bool (decide (n < 0))) fun a H => ?_
 refine H.split 14 rfl (fun g14 H => ?_) (fun g14 H => ?_)
 ·have g14p := of_decide_eq_true g14
  iterate 3 refine H.sx rfl fun a H => ?_
  refine H.vx rfl (.bool true) fun a H => ?_
  refine nl (tn ?_)
  refine w_ift H rfl ?_
  refine rg ?_
  refine H.u 19 (.iface 212 (.pointer (some a1))) (ex_l1 ((HP.fact 1 rfl : LaidP a0 a1 _).c1)) fun a H => ?_
  refine H.panic0 (v := (.iface 212 (.pointer (some a1)))) (w' := w_1) (by kernel_rfl) (by kernel_rfl) ?_
  refine then_panic ?_
  refine H.endP ?_
  exact ⟨HP.agree _ (by simp [bx, rowsR]), .inl ⟨80, k1, by unfold rdC; rw [hR]; simp only; rw [if_pos (by omega)], .inr rfl, hk1, rfl, HP.at_ 0 rfl⟩⟩
 have g14p := of_decide_eq_false g14
 refine H.v 15 (ii n) fun a H => H.v 16 (ii 400) fun a H => H.v 17 (.bool (decide (n > 400))) fun a H => H.v 18 (.bool (decide (n > 400))) fun a H => ?_
 refine nl (tn ?_)
 refine w_if H rfl (fun g18 => ?_) (fun g18 => ?_)
 ·have g18p := of_decide_eq_true g18
  refine rg ?_
  refine H.u 19 (.iface 212 (.pointer (some a1))) (ex_l1 ((HP.fact 1 rfl : LaidP a0 a1 _).c1)) fun a H => ?_
  refine H.panic0 (v := (.iface 212 (.pointer (some a1)))) (w' := w_1) (by kernel_rfl) (by kernel_rfl) ?_
  refine then_panic ?_
  refine H.endP ?_
  exact ⟨HP.agree _ (by simp [bx, rowsR]), .inl ⟨80, k1, by unfold rdC; rw [hR]; simp only; rw [if_pos (by omega)], .inr rfl, hk1, rfl, HP.at_ 0 rfl⟩⟩
 have g18p := of_decide_eq_false g18
 refine sk (tn (sq ?_))
 obtain ⟨m, rfl⟩ : ∃ m : Nat, n = m := ⟨n.toNat, by omega⟩
 have hrel0 : rdC s 400 (rdM clOf s 8) k = rdL (rdM clOf s 8) m k1 := by unfold rdC; rw [hR]; simp only; rw [if_neg (by omega), Int.toNat_natCast]
 refine rg ?_
 refine H.v 8 (.slice none 0 0) fun a H => ?_
 refine nl ?_
 have HP := HP.nilRow w.heap.size 73 8 clC (fun _ _ => True) (fun _ _ => False) elOk_flat
 refine tn (sq (sq (rg ?_)))
 refine H.v 20 (ii m) fun a H => H.v 21 (ii 0) fun a H => ?_
 refine nl (tn (bk ?_))
 refine w_loop (fun mm a wv => ∃ (i : Nat), ∃ (kq : Nat), ∃ (l : List (Cls)), ∃ (B : Option Addr), ∃ (cc : Nat), m - i = mm ∧ Sl 31 [(21, (ii i)), (20, (ii m)), (8, (.slice B i cc)), (0, (pt rb 0)), (2, (.func (.func 111) #[] #[(pt br 0)]))] a ∧ Hp w wv [(rowsR w.heap.size 73 8 clC (fun _ _ => True) (fun _ _ => False) (.slice B i cc) l), bx rb 103 (rC s kq) false] [boxK br 148 [.pointer (some ⟨rb, 0, none⟩)], laidK a0 a1] ∧ (i ≤ m) ∧ (l.length = i) ∧ (kq ≤ s.length) ∧ (rdC s 400 (rdM clOf s 8) k = pre (l) (rdL (rdM clOf s 8) (m - i) kq))) (m - 0) ?_ ?_
 ·exact ⟨0, k1, [], none, 0, (by omega), H.keep (by kernel_rfl), HP, (Nat.zero_le _), rfl, hk1, (by rw [hrel0]; exact (pre_nil _).symm)⟩
 rintro mm a w_2 ⟨i, kq, l, B, cc, hmeas, H, HP, hi, hll, hkq, hrel⟩
 refine sq (rg ?_)
 refine H.v 22 (.bool (decide ((i : Int) < (m : Int)))) fun a H => ?_
 refine nl (tn (sq ?_))
 refine w_if H rfl (fun g22 => ?_) (fun g22 => ?_)
 ·have g22p := of_decide_eq_true g22
  refine sk (tn (sq (bk (sq (rg ?_)))))
  refine H.al HP 9 73 [(ii 0), (ii 0), (ii 0), (ii 0), (ii 0), (ii 0), (ii 0), (ii 0)] fun b_3 w_4 a H HP => ?_
  refine nl (tn (sq (rg ?_)))
  refine H.v 23 (.func (.func 111) #[] #[(pt br 0)]) fun a H => ?_
  refine H.callP 24 (by kernel_rfl) (Eq.trans (by kernel_rfl : _ = (callFunc 111 #[(pt b_3 0), (pt br 0)]).run Tryz.prog w_4) (Tryz.call111 _ _)) (rcC_any a0 a1 s kq rb br b_3 w_4 (HP.fact 1 rfl) (fun j hj => ⟨HP.factNe 1 2 rfl rfl j hj, HP.factNe 1 0 rfl rfl j hj⟩) (HP.at_ 2 rfl) (HP.at_ 0 rfl) ((HP.neB 0 2 rfl rfl (by decide)).symm) (HP.fact 0 rfl) ⟨HP.factNe 0 2 rfl rfl br rfl, HP.factNe 0 0 rfl rfl br rfl⟩ hl hkq) ?_
  rintro e w_5 ⟨hag, (⟨E, k2, us2, hE, hE2, hk2, rfl, hb1, hb2⟩ | ⟨x, k2, hE, hk2, rfl, hb1, hb2⟩)⟩
  ·refine .inr ⟨_, rfl, ?_⟩
   intro a H
   have HP := HP.changed2 2 0 rfl rfl (rC s k2) us2 _ rfl (by decide) hag hb1 hb2
   refine then_panic ?_
   refine inb_panic ?_
   refine then_panic ?_
   refine then_panic ?_
   refine inb_panic ?_
   refine then_panic ?_
   refine H.endP ?_
   exact ⟨HP.agree _ (by simp [bx, rowsR]), .inl ⟨E, k2, by rw [hrel, show m - i = (m - (i + 1)) + 1 by omega]; exact rdL_err hE, hE2, hk2, rfl, HP.at_ 2 rfl⟩⟩
  refine .inl ⟨_, rfl, ?_⟩
  intro a H
  have HP := HP.changed2 2 0 rfl rfl (rC s k2) (clL x) _ rfl (by decide) hag hb1 hb2
  refine nl (tn (rg ?_))
  refine H.v 25 (.slice B i cc) fun a H => H.u 26 (clV x) (ex_lN (clL x) (HP.cells 0 rfl 0 8 (by kernel_rfl))) fun a H => H.alloc HP 27 (fun b => (.slice (some ⟨b, 0, none⟩) 1 1)) 73 (clL x) (by kernel_rfl) (fun w => by kernel_rfl) fun b_6 w_7 a H HP => ?_
  have HP := HP.pend0 2 rfl elOk_flat x [bx b_6 73 (clL x) true, bx b_3 73 (clL x) true, (rowsP w.heap.size 73 8 clC (fun _ _ => True) (fun _ _ => False) (.slice B i cc) l x), bx rb 103 (rC s k2) false] (by kernel_rfl) trivial (fun _ h => h)
  refine H.push HP 28 2 0 (v := (.slice B i cc)) (e := 73) (p := x) (l := l) (cs := clC) (ok := (fun _ _ => True)) (fe := (fun _ _ => False)) (size := 8) (z := (.agg #[(ii 0), (ii 0), (ii 0), (ii 0), (ii 0), (ii 0), (ii 0), (ii 0)])) (bytes := 64) (bb := b_6) (tb := 73) (fb := true) (by kernel_rfl) elOk_flat (by kernel_rfl) (by kernel_rfl) rfl (by kernel_rfl) (by kernel_rfl) (by kernel_rfl) (by kernel_rfl) (by kernel_rfl) rfl (by kernel_rfl) (by rw [hll]; unfold maxLen; omega) (by rw [hll]; omega) fun B_8 c_9 w_10 a H HP => ?_
  have HP : Hp w w_10 [bx b_6 73 (clL x) true, bx b_3 73 (clL x) true, (rowsR w.heap.size 73 8 clC (fun _ _ => True) (fun _ _ => False) (.slice B_8 (l.length + 1) c_9) (l ++ [x])), bx rb 103 (rC s k2) false] [boxK br 148 [.pointer (some ⟨rb, 0, none⟩)], laidK a0 a1] := HP
  rw [hll] at H HP
  refine H.v 8 (.slice B_8 (i + 1) c_9) fun a H => ?_
  refine nl (ibn (tn (rg ?_)))
  refine H.valE 29 (ii (IntKind.i64.wrap ((i : Int) + 1))) (ii ((i : Int) + 1)) (by kernel_rfl) (by kernel_rfl) ((by rw [wrap_ini64 _ (by omega)])) fun a H => H.v 21 (ii ((i : Int) + 1)) fun a H => ?_
  refine nl (tn ?_)
  have HP := HP.tail rfl
  have HP := HP.tail rfl
  have H := H.as 21 (ii ((i + 1 : Nat) : Int)) rfl rfl
  refine ⟨_, ?_, i + 1, k2, l ++ [x], B_8, c_9, rfl, H.keep (by kernel_rfl), HP, (by omega), (by rw [List.length_append, hll]; rfl), hk2, (by rw [hrel, show m - i = (m - (i + 1)) + 1 by omega]; exact rdL_step hE)⟩
  omega
 have g22p := of_decide_eq_false g22
 refine wp_exit (then_exit (then_exit ?_))
 refine w_exit_here ?_
 refine tn (sq (rg ?_))
 refine H.v 30 (.slice B i cc) fun a H => H.v 6 (.slice B i cc) fun a H => ?_
 refine nl (tn (rt ?_))
 refine H.r1 (.slice B i cc) Tryz.results110 ?_
 have hrow := HP.held 0 rfl
 have hfr := HP.fresh _ (List.mem_of_getElem? (i := 0) rfl) rfl
 have hres : rdC s 400 (rdM clOf s 8) k = .ok (l, kq) := by rw [hrel, show m - i = 0 by omega]; exact pre_ok _ _
 subst hll
 exact ⟨HP.agree _ (by simp [bx, rowsR]), .inr ⟨B, cc, l, kq, hres, hkq, rfl, HP.at_ 1 rfl, Rd.of_own hrow.1, flat_new hrow, by omega⟩⟩
theorem rcE_any (a0 a1 : Addr) (s : List UInt8) (k rb br b : Nat) (w : World) (hL : LaidP a0 a1 w) (hsep : ∀ j, lpFp a0 a1 j → j ≠ rb ∧ j ≠ b) (h : Box w rb 103 (rC s k).toArray) (hb : Box w b 43 [(ii 0), (ii 0), (ii 0), (ii 0), (ii 0), (ii 0), (.slice none 0 0)].toArray) (hne : rb ≠ b) (hbr : Box w br 148 #[.pointer (some ⟨rb, 0, none⟩)]) (hbn : br ≠ rb ∧ br ≠ b) (hl : s.length ≤ 1000000) (hk : k ≤ s.length) :
  Calls Tryz.prog 105 #[.pointer (some ⟨b, 0, none⟩), .pointer (some ⟨br, 0, none⟩)] w (ElPostE a0 a1 s k rb b 43 w) := by
 have HP : Hp w w [bx rb 103 (rC s k) false, bx b 43 [(ii 0), (ii 0), (ii 0), (ii 0), (ii 0), (ii 0), (.slice none 0 0)] false] [boxK br 148 [.pointer (some ⟨rb, 0, none⟩)], laidK a0 a1] := ((Hp.own2 h hb hne).keepF (laidK a0 a1) hL (laidK_ok _ _) (fun j hj => ⟨hL.lt j hj, by simpa [bx] using hsep j hj⟩)).keepF (boxK br 148 [.pointer (some ⟨rb, 0, none⟩)]) hbr (boxK_ok _ _ _) (fun j hj => ⟨by cases hj; exact hbr.lt, by cases hj; simpa [bx] using hbn⟩)
 refine w_enter 30 [(0, (pt b 0)), (1, (pt br 0))] Tryz.func105 rfl Tryz.ntmps105 (by kernel_rfl) (by kernel_rfl) fun a H => ?_
 refine sq ?_
 refine An.start (fun v => Hp w v [bx rb 103 (rC s k) false, bx b 43 [(ii 0), (ii 0), (ii 0), (ii 0), (ii 0), (ii 0), (.slice none 0 0)] false] [boxK br 148 [.pointer (some ⟨rb, 0, none⟩)], laidK a0 a1]) 20 21 HP wide_follows rfl fun w_1 HP => ?_
 refine An.vw H (HP) 0 3 (pt rb 0) (fun _ hS => ex_l1 ((hS.fact 0 rfl : Box _ br 148 _).cell (i := 0) rfl)) fun a H => ?_
 refine An.p H (.inr HP) 1 4 (pt b 0) fun a H => ?_
 refine An.p H (.inr HP) 2 5 (pt b 0) fun a H => ?_
 refine An.p H (.inr HP) 3 6 (pt b 0) fun a H => ?_
 refine An.p H (.inr HP) 4 7 (pt b 0) fun a H => ?_
 refine An.p H (.inr HP) 5 8 (pt b 0) fun a H => ?_
 refine An.p H (.inr HP) 6 9 (pt b 1) fun a H => ?_
 refine An.p H (.inr HP) 7 10 (pt b 0) fun a H => ?_
 refine An.p H (.inr HP) 8 11 (pt b 0) fun a H => ?_
 refine An.p H (.inr HP) 9 12 (pt b 2) fun a H => ?_
 refine An.p H (.inr HP) 10 13 (pt b 0) fun a H => ?_
 refine An.p H (.inr HP) 11 14 (pt b 0) fun a H => ?_
 refine An.p H (.inr HP) 12 15 (pt b 3) fun a H => ?_
 refine An.p H (.inr HP) 13 16 (pt b 0) fun a H => ?_
 refine An.p H (.inr HP) 14 17 (pt b 0) fun a H => ?_
 refine An.p H (.inr HP) 15 18 (pt b 4) fun a H => ?_
 refine An.p H (.inr HP) 16 19 (pt b 0) fun a H => ?_
 refine An.p H (.inr HP) 17 20 (pt b 0) fun a H => ?_
 refine An.p H (.inr HP) 18 21 (pt b 5) fun a H => ?_
 refine An.one 19 (by kernel_rfl) ?_
 refine Op.alloc H HP 22 (fun b => (.slice (some ⟨b, 0, none⟩) 6 6)) 150 [(pt b 0), (pt b 1), (pt b 2), (pt b 3), (pt b 4), (pt b 5)] rfl (by kernel_rfl) (fun w => by kernel_rfl) fun b_2 w_3 a H HP => ?_
 refine ⟨.inr ((HP.tail rfl)), ?_⟩
 refine An.one 20 (by kernel_rfl) ?_
 refine Op.callP H 23 rfl (by kernel_rfl) (Eq.trans (by kernel_rfl : _ = (callFunc 99 #[(pt rb 0), (.slice (some ⟨b_2, 0, none⟩) 6 6)]).run Tryz.prog w_3) (Tryz.call99 _ _)) (numbers_any a0 a1 s k rb b 43 b_2 [(ii 0), (ii 0), (ii 0), (ii 0), (ii 0), (ii 0), (.slice none 0 0)] [0, 1, 2, 3, 4, 5] w_3 (HP.fact 1 rfl) hsep (HP.at_ 1 rfl) (HP.at_ 2 rfl) (HP.at_ 0 rfl) hne ⟨HP.neB 0 1 rfl rfl (by decide), HP.neB 0 2 rfl rfl (by decide)⟩ (by simp) (by decide) hl hk) ?_
 rintro e w_4 ⟨hag, (⟨k2, us2, hE, hk2, rfl, hb1, hb2, _⟩ | ⟨l, k2, hE, hk2, hll, rfl, hb1, hb2⟩)⟩
 ·refine .inr ⟨_, rfl, ?_⟩
  intro a H
  have HP := HP.changed2 1 2 rfl rfl (rC s k2) us2 _ rfl (by decide) hag hb1 hb2
  refine then_panic ?_
  refine H.endP ?_
  exact ⟨HP.agree _ (by simp [bx, rowsR]), .inl ⟨10, k2, us2, by unfold rdEnt; rw [show rdN s 6 k = .error 10 from hE], .inl rfl, hk2, rfl, HP.at_ 1 rfl, HP.at_ 2 rfl⟩⟩
 refine .inl ⟨_, rfl, ?_⟩
 intro a H
 obtain ⟨z0, z1, z2, z3, z4, z5, rfl⟩ := len6 hll
 have HP := HP.changed2 1 2 rfl rfl (rC s k2) [(ii z0), (ii z1), (ii z2), (ii z3), (ii z4), (ii z5), (.slice none 0 0)] _ rfl (by decide) hag hb1 hb2
 refine ⟨.inl (by kernel_rfl), ?_⟩
 refine An.done (by kernel_rfl) ?_
 refine tn ?_
 have hsz1 := HP.size
 refine rg ?_
 refine H.v 24 (pt b 0) fun a H => H.u 25 (pt rb 0) (ex_l1 ((HP.fact 0 rfl : Box _ br 148 _).cell (i := 0) rfl)) fun a H => H.v 26 (.func (.func 107) #[] #[(pt br 0)]) fun a H => ?_
 have hlt0 := HP.lt
 refine H.callP 27 (by kernel_rfl) (Eq.trans (by kernel_rfl : _ = (callFunc 106 #[(pt rb 0), (ii 7), (.func (.func 107) #[] #[(pt br 0)])]).run Tryz.prog w_4) (Tryz.call106 _ _)) (listA_any a0 a1 s k2 rb br w_4 (HP.fact 1 rfl) (fun j hj => HP.factNe 1 1 rfl rfl j hj) (HP.at_ 1 rfl) (HP.fact 0 rfl) (HP.factNe 0 1 rfl rfl br rfl) hl hk2) ?_
 rintro e w_5 ⟨hag3, (⟨E, k3, hE3, hEE, hk3, rfl, hb3⟩ | ⟨A, c, al, k3, hE3, hk3, rfl, hb3, hrow, hnew, hmost⟩)⟩
 ·refine .inr ⟨_, rfl, ?_⟩
  intro a H
  have HP := HP.changed1 1 rfl (rC s k3) _ rfl hag3 hb3
  refine H.endP ?_
  exact ⟨HP.agree _ (by simp [bx, rowsR]), .inl ⟨E, k3, _, by unfold rdEnt; rw [show rdN s 6 k = .ok ([z0, z1, z2, z3, z4, z5], k2) from hE]; simp only; rw [hE3], hEE, hk3, rfl, HP.at_ 1 rfl, HP.at_ 2 rfl⟩⟩
 refine .inl ⟨_, rfl, ?_⟩
 intro a H
 have HP := HP.changed1 1 rfl (rC s k3) [bx b_2 150 [(pt b 0), (pt b 1), (pt b 2), (pt b 3), (pt b 4), (pt b 5)] true, bx rb 103 (rC s k3) false, bx b 43 [(ii z0), (ii z1), (ii z2), (ii z3), (ii z4), (ii z5), (.slice none 0 0)] false] (by kernel_rfl) hag3 hb3
 have HP := HP.keepF (alK A al) hrow (alK_ok _ _) (fun j hj => ⟨hrow.lt j hj, fun y hy hyk => by simp only [List.mem_cons, List.not_mem_nil, or_false] at hy; rcases hy with rfl | rfl | rfl <;> (first | exact Nat.lt_irrefl _ (Nat.lt_of_lt_of_le (hlt0 _ (List.mem_of_getElem? (i := 0) rfl) j hyk) (hnew j hj)) | exact Nat.lt_irrefl _ (Nat.lt_of_lt_of_le (hlt0 _ (List.mem_of_getElem? (i := 1) rfl) j hyk) (hnew j hj)) | exact Nat.lt_irrefl _ (Nat.lt_of_lt_of_le (hlt0 _ (List.mem_of_getElem? (i := 2) rfl) j hyk) (hnew j hj)))⟩)
 refine H.v 28 (pt b 0) fun a H => H.v 29 (pt b 6) fun a H => H.st HP 2 b 6 1 43 false (.slice A al.length c) [bx b_2 150 [(pt b 0), (pt b 1), (pt b 2), (pt b 3), (pt b 4), (pt b 5)] true, bx rb 103 (rC s k3) false, bx b 43 [(ii z0), (ii z1), (ii z2), (ii z3), (ii z4), (ii z5), (.slice A al.length c)] false] rfl fun w_6 a H HP => ?_
 refine nl ?_
 refine H.end0 (fn := Tryz.f105) Tryz.results105  ?_
 exact ⟨HP.agree _ (by simp [bx, rowsR]), .inr ⟨⟨z0, z1, z2, z3, z4, z5, A, c, al⟩, k3, by unfold rdEnt; rw [show rdN s 6 k = .ok ([z0, z1, z2, z3, z4, z5], k2) from hE]; simp only; rw [hE3]; rfl, hk3, rfl, HP.at_ 1 rfl, HP.at_ 2 rfl, ⟨HP.fact 0 rfl, by unfold maxLen; show al.length ≤ _; omega⟩, fun j hj => Nat.le_trans hsz1 (hnew j hj)⟩⟩
theorem listE_any (a0 a1 : Addr) (s : List UInt8) (k rb br : Nat) (w : World) (hL : LaidP a0 a1 w) (hsep : ∀ j, lpFp a0 a1 j → j ≠ rb) (h : Box w rb 103 (rC s k).toArray) (hbr : Box w br 148 #[.pointer (some ⟨rb, 0, none⟩)]) (hbn : br ≠ rb) (hl : s.length ≤ 1000000) (hk : k ≤ s.length) :
  Calls Tryz.prog 104 #[.pointer (some ⟨rb, 0, none⟩), .int .i64 4000, .func (.func 105) #[] #[.pointer (some ⟨br, 0, none⟩)]] w (ListPostE a0 a1 s k rb w) := by
 have HP : Hp w w [bx rb 103 (rC s k) false] [boxK br 148 [.pointer (some ⟨rb, 0, none⟩)], laidK a0 a1] := ((Hp.own h).keepF (laidK a0 a1) hL (laidK_ok _ _) (fun j hj => ⟨hL.lt j hj, by simpa [bx] using hsep j hj⟩)).keepF (boxK br 148 [.pointer (some ⟨rb, 0, none⟩)]) hbr (boxK_ok _ _ _) (fun j hj => ⟨by cases hj; exact hbr.lt, by cases hj; simpa [bx] using hbn⟩)
 refine w_enter 31 [(0, (pt rb 0)), (1, (ii 4000)), (2, (.func (.func 105) #[] #[(pt br 0)]))] Tryz.func104 rfl Tryz.ntmps104 (by kernel_rfl) (by kernel_rfl) fun a H => ?_
 refine sq (rg ?_)
 refine H.v 6 (.slice none 0 0) fun a H => ?_
 refine nl (tn (sq (rg ?_)))
 refine H.v 10 (pt rb 0) fun a H => ?_
 refine H.callP 11 (by kernel_rfl) (Eq.trans (by kernel_rfl : _ = (callFunc 128 #[(pt rb 0)]).run Tryz.prog w) (Tryz.call128 _ _)) (number_any a0 a1 s k rb w (HP.fact 1 rfl) hsep (HP.at_ 0 rfl) hl hk) ?_
 rintro e w_1 ⟨hag, (⟨hR, rfl, hbx⟩ | ⟨n, k1, hR, hk1, rfl, hbx⟩)⟩
 ·refine .inr ⟨_, rfl, ?_⟩
  intro a H
  have HP := HP.changed1 0 rfl (rC s k) [bx rb 103 (rC s k) false] (by kernel_rfl) hag hbx
  refine then_panic ?_
  refine H.endP ?_
  exact ⟨HP.agree _ (by simp [bx, rowsR]), .inl ⟨10, k, by unfold rdC; rw [hR], .inl rfl, hk, rfl, HP.at_ 0 rfl⟩⟩
 refine .inl ⟨_, rfl, ?_⟩
 intro a H
 have HP := HP.changed1 0 rfl (rC s k1) [bx rb 103 (rC s k1) false] (by kernel_rfl) hag hbx
 obtain ⟨hn1, hn2⟩ := rdInt_in hk hR
 refine H.v 7 (ii n) fun a H => ?_
 refine nl (tn (sq (sq (rg ?_))))
 refine H.v 12 (ii n) fun a H => H.v 13 (.bool (decide (n < 0))) fun a H => H.v 14 (.bool (decide (n < 0))) fun a H => ?_
 refine H.split 14 rfl (fun g14 H => ?_) (fun g14 H => ?_)
 ·have g14p := of_decide_eq_true g14
  iterate 3 refine H.sx rfl fun a H => ?_
  refine H.vx rfl (.bool true) fun a H => ?_
  refine nl (tn ?_)
  refine w_ift H rfl ?_
  refine rg ?_
  refine H.u 19 (.iface 212 (.pointer (some a1))) (ex_l1 ((HP.fact 1 rfl : LaidP a0 a1 _).c1)) fun a H => ?_
  refine H.panic0 (v := (.iface 212 (.pointer (some a1)))) (w' := w_1) (by kernel_rfl) (by kernel_rfl) ?_
  refine then_panic ?_
  refine H.endP ?_
  exact ⟨HP.agree _ (by simp [bx, rowsR]), .inl ⟨80, k1, by unfold rdC; rw [hR]; simp only; rw [if_pos (by omega)], .inr rfl, hk1, rfl, HP.at_ 0 rfl⟩⟩
 have g14p := of_decide_eq_false g14
 refine H.v 15 (ii n) fun a H => H.v 16 (ii 4000) fun a H => H.v 17 (.bool (decide (n > 4000))) fun a H => H.v 18 (.bool (decide (n > 4000))) fun a H => ?_
 refine nl (tn ?_)
 refine w_if H rfl (fun g18 => ?_) (fun g18 => ?_)
 ·have g18p := of_decide_eq_true g18
  refine rg ?_
  refine H.u 19 (.iface 212 (.pointer (some a1))) (ex_l1 ((HP.fact 1 rfl : LaidP a0 a1 _).c1)) fun a H => ?_
  refine H.panic0 (v := (.iface 212 (.pointer (some a1)))) (w' := w_1) (by kernel_rfl) (by kernel_rfl) ?_
  refine then_panic ?_
  refine H.endP ?_
  exact ⟨HP.agree _ (by simp [bx, rowsR]), .inl ⟨80, k1, by unfold rdC; rw [hR]; simp only; rw [if_pos (by omega)], .inr rfl, hk1, rfl, HP.at_ 0 rfl⟩⟩
 have g18p := of_decide_eq_false g18
 refine sk (tn (sq ?_))
 obtain ⟨m, rfl⟩ : ∃ m : Nat, n = m := ⟨n.toNat, by omega⟩
 have hrel0 : rdC s 4000 (rdEnt s) k = rdL (rdEnt s) m k1 := by unfold rdC; rw [hR]; simp only; rw [if_neg (by omega), Int.toNat_natCast]
 refine rg ?_
 refine H.v 8 (.slice none 0 0) fun a H => ?_
 refine nl ?_
 have HP := HP.nilRow w.heap.size 43 7 enC (fun (x : Ent) w => x.ok w) Ent.fp elOk_en
 refine tn (sq (sq (rg ?_)))
 refine H.v 20 (ii m) fun a H => H.v 21 (ii 0) fun a H => ?_
 refine nl (tn (bk ?_))
 refine w_loop (fun mm a wv => ∃ (i : Nat), ∃ (kq : Nat), ∃ (l : List (Ent)), ∃ (B : Option Addr), ∃ (cc : Nat), m - i = mm ∧ Sl 31 [(21, (ii i)), (20, (ii m)), (8, (.slice B i cc)), (0, (pt rb 0)), (2, (.func (.func 105) #[] #[(pt br 0)]))] a ∧ Hp w wv [(rowsR w.heap.size 43 7 enC (fun (x : Ent) w => x.ok w) Ent.fp (.slice B i cc) l), bx rb 103 (rC s kq) false] [boxK br 148 [.pointer (some ⟨rb, 0, none⟩)], laidK a0 a1] ∧ (i ≤ m) ∧ (l.length = i) ∧ (kq ≤ s.length) ∧ (rdC s 4000 (rdEnt s) k = pre ((l).map Ent.nv) (rdL (rdEnt s) (m - i) kq))) (m - 0) ?_ ?_
 ·exact ⟨0, k1, [], none, 0, (by omega), H.keep (by kernel_rfl), HP, (Nat.zero_le _), rfl, hk1, (by rw [hrel0]; exact (pre_nil _).symm)⟩
 rintro mm a w_2 ⟨i, kq, l, B, cc, hmeas, H, HP, hi, hll, hkq, hrel⟩
 refine sq (rg ?_)
 refine H.v 22 (.bool (decide ((i : Int) < (m : Int)))) fun a H => ?_
 refine nl (tn (sq ?_))
 refine w_if H rfl (fun g22 => ?_) (fun g22 => ?_)
 ·have g22p := of_decide_eq_true g22
  refine sk (tn (sq (bk (sq (rg ?_)))))
  refine H.al HP 9 43 [(ii 0), (ii 0), (ii 0), (ii 0), (ii 0), (ii 0), (.slice none 0 0)] fun b_3 w_4 a H HP => ?_
  refine nl (tn (sq (rg ?_)))
  refine H.v 23 (.func (.func 105) #[] #[(pt br 0)]) fun a H => ?_
  have hlt0 := HP.lt
  have hK0 := HP.ltK
  have hsz0 := HP.size
  refine H.callP 24 (by kernel_rfl) (Eq.trans (by kernel_rfl : _ = (callFunc 105 #[(pt b_3 0), (pt br 0)]).run Tryz.prog w_4) (Tryz.call105 _ _)) (rcE_any a0 a1 s kq rb br b_3 w_4 (HP.fact 1 rfl) (fun j hj => ⟨HP.factNe 1 2 rfl rfl j hj, HP.factNe 1 0 rfl rfl j hj⟩) (HP.at_ 2 rfl) (HP.at_ 0 rfl) ((HP.neB 0 2 rfl rfl (by decide)).symm) (HP.fact 0 rfl) ⟨HP.factNe 0 2 rfl rfl br rfl, HP.factNe 0 0 rfl rfl br rfl⟩ hl hkq) ?_
  rintro e w_5 ⟨hag, (⟨E, k2, us2, hE, hE2, hk2, rfl, hb1, hb2⟩ | ⟨x, k2, hE, hk2, rfl, hb1, hb2, hxo, hnew⟩)⟩
  ·refine .inr ⟨_, rfl, ?_⟩
   intro a H
   have HP := HP.changed2 2 0 rfl rfl (rC s k2) us2 _ rfl (by decide) hag hb1 hb2
   refine then_panic ?_
   refine inb_panic ?_
   refine then_panic ?_
   refine then_panic ?_
   refine inb_panic ?_
   refine then_panic ?_
   refine H.endP ?_
   exact ⟨HP.agree _ (by simp [bx, rowsR]), .inl ⟨E, k2, by rw [hrel, show m - i = (m - (i + 1)) + 1 by omega]; exact rdL_err hE, hE2, hk2, rfl, HP.at_ 2 rfl⟩⟩
  refine .inl ⟨_, rfl, ?_⟩
  intro a H
  have HP := HP.changed2 2 0 rfl rfl (rC s k2) (enL x) [bx b_3 43 (enL x) true, (rowsR w.heap.size 43 7 enC (fun (x : Ent) w => x.ok w) Ent.fp (.slice B i cc) l), bx rb 103 (rC s k2) false] (by kernel_rfl) (by decide) hag hb1 hb2
  have hs0 := HP.size
  have HP := HP.pendN 1 rfl elOk_en x [bx b_3 43 (enL x) true, (rowsP w.heap.size 43 7 enC (fun (x : Ent) w => x.ok w) Ent.fp (.slice B i cc) l x), bx rb 103 (rC s k2) false] (by kernel_rfl) hxo (fun j hj => ⟨Nat.le_trans hsz0 (hnew j hj), hxo.1.lt j hj, fun y hy hyk => by simp only [List.mem_cons, List.not_mem_nil, or_false] at hy; rcases hy with rfl | rfl | rfl <;> (first | exact Nat.lt_irrefl _ (Nat.lt_of_lt_of_le (hlt0 _ (List.mem_of_getElem? (i := 0) rfl) j hyk) (hnew j hj)) | exact Nat.lt_irrefl _ (Nat.lt_of_lt_of_le (hlt0 _ (List.mem_of_getElem? (i := 1) rfl) j hyk) (hnew j hj)) | exact Nat.lt_irrefl _ (Nat.lt_of_lt_of_le (hlt0 _ (List.mem_of_getElem? (i := 2) rfl) j hyk) (hnew j hj))), fun q hq hqk => Nat.lt_irrefl _ (Nat.lt_of_lt_of_le (hK0 q hq j hqk) (hnew j hj))⟩)
  refine nl (tn (rg ?_))
  refine H.v 25 (.slice B i cc) fun a H => H.u 26 (enV x) (ex_lN (enL x) (HP.cells 0 rfl 0 7 (by kernel_rfl))) fun a H => H.alloc HP 27 (fun b => (.slice (some ⟨b, 0, none⟩) 1 1)) 43 (enL x) (by kernel_rfl) (fun w => by kernel_rfl) fun b_6 w_7 a H HP => ?_
  refine H.push HP 28 2 0 (v := (.slice B i cc)) (e := 43) (p := x) (l := l) (cs := enC) (ok := (fun (x : Ent) w => x.ok w)) (fe := Ent.fp) (size := 7) (z := (.agg #[(ii 0), (ii 0), (ii 0), (ii 0), (ii 0), (ii 0), (.slice none 0 0)])) (bytes := 72) (bb := b_6) (tb := 43) (fb := true) (by kernel_rfl) elOk_en (by kernel_rfl) (by kernel_rfl) rfl (by kernel_rfl) (by kernel_rfl) (by kernel_rfl) (by kernel_rfl) (by kernel_rfl) rfl (by kernel_rfl) (by rw [hll]; unfold maxLen; omega) (by rw [hll]; omega) fun B_8 c_9 w_10 a H HP => ?_
  have HP : Hp w w_10 [bx b_6 43 (enL x) true, bx b_3 43 (enL x) true, (rowsR w.heap.size 43 7 enC (fun (x : Ent) w => x.ok w) Ent.fp (.slice B_8 (l.length + 1) c_9) (l ++ [x])), bx rb 103 (rC s k2) false] [boxK br 148 [.pointer (some ⟨rb, 0, none⟩)], laidK a0 a1] := HP
  rw [hll] at H HP
  refine H.v 8 (.slice B_8 (i + 1) c_9) fun a H => ?_
  refine nl (ibn (tn (rg ?_)))
  refine H.valE 29 (ii (IntKind.i64.wrap ((i : Int) + 1))) (ii ((i : Int) + 1)) (by kernel_rfl) (by kernel_rfl) ((by rw [wrap_ini64 _ (by omega)])) fun a H => H.v 21 (ii ((i : Int) + 1)) fun a H => ?_
  refine nl (tn ?_)
  have HP := HP.tail rfl
  have HP := HP.tail rfl
  have H := H.as 21 (ii ((i + 1 : Nat) : Int)) rfl rfl
  refine ⟨_, ?_, i + 1, k2, l ++ [x], B_8, c_9, rfl, H.keep (by kernel_rfl), HP, (by omega), (by rw [List.length_append, hll]; rfl), hk2, (by rw [hrel, show m - i = (m - (i + 1)) + 1 by omega, List.map_append]; exact rdL_step hE)⟩
  omega
 have g22p := of_decide_eq_false g22
 refine wp_exit (then_exit (then_exit ?_))
 refine w_exit_here ?_
 refine tn (sq (rg ?_))
 refine H.v 30 (.slice B i cc) fun a H => H.v 6 (.slice B i cc) fun a H => ?_
 refine nl (tn (rt ?_))
 refine H.r1 (.slice B i cc) Tryz.results104 ?_
 have hrow := HP.held 0 rfl
 have hfr := HP.fresh _ (List.mem_of_getElem? (i := 0) rfl) rfl
 have hres : rdC s 4000 (rdEnt s) k = .ok ((l).map Ent.nv, kq) := by rw [hrel, show m - i = 0 by omega]; exact pre_ok _ _
 subst hll
 exact ⟨HP.agree _ (by simp [bx, rowsR]), .inr ⟨B, cc, l, kq, hres, hkq, rfl, HP.at_ 1 rfl, ⟨Rd.of_own hrow.1, fun e he => (hrow.2 e he).1⟩, en_new hrow hfr, by omega⟩⟩
theorem stg_ent {s : List UInt8} {k k1 k2 : Nat} {E E1 E2 : Int} {a b c d e f : Int} {al : Alts} (h : Stg (rdN s 6) k E [a, b, c, d, e, f] k1 E1) (h2 : Stg (rdC s 7 (rdM altOf s 2)) k1 E1 al k2 E2) : Stg (rdEnt s) k E ⟨a, b, c, d, e, f, al⟩ k2 E2 := by
 refine ⟨fun h3 => ?_, fun h3 => ?_⟩
 ·obtain ⟨g1, g2⟩ := h2.1 h3
  obtain ⟨g3, g4⟩ := h.1 g1
  exact ⟨g3, by unfold rdEnt; rw [g4]; simp only; rw [g2]; rfl⟩
 ·rcases h2.2 h3 with ⟨g1, rfl⟩ | ⟨g1, g2⟩
  ·rcases h.2 g1 with g3 | ⟨g3, g4⟩
   ·exact .inl g3
   ·exact .inr ⟨g3, by unfold rdEnt; rw [g4]⟩
  ·obtain ⟨g3, g4⟩ := h.1 g1
   exact .inr ⟨g3, by unfold rdEnt; rw [g4]; simp only; rw [g2]⟩
theorem nRw_bad (b : Nat) (s : List UInt8) (k : Nat) (w : World) (E : Int) (hE : E ≠ 0) (h : Box w b 106 [.string (bstr s), .int .i64 (k : Int), .int .i64 E].toArray) (hl : s.length ≤ 1000000) (hk : k ≤ s.length) :
  Calls Tryz.prog 64 #[.pointer (some ⟨b, 0, none⟩)] w fun e w' => e = .returned (ii (nR s (k, E)).1) ∧ Box w' b 106 (inCells s (nR s (k, E)).2).toArray ∧ Agree w w' (fun j => j = b) := by
 have HP := Hp.own (vs := [.string (bstr s), .int .i64 (k : Int), .int .i64 E]) h
 have hN : nR s (k, E) = (0, (k, E)) := by unfold nR; rw [if_pos hE]
 refine w_enter 34 [(0, (pt b 0))] Tryz.func64 rfl Tryz.ntmps64 (by kernel_rfl) (by kernel_rfl) fun a H => ?_
 refine sq (rg ?_)
 refine H.v 2 (ii 0) fun a H => ?_
 refine nl (tn (sq (sq (rg ?_))))
 refine H.v 6 (pt b 0) fun a H => H.v 7 (pt b 0) fun a H => H.v 8 (pt b 2) fun a H => H.u 9 (ii E) (ex_l1 (HP.cell 0 rfl 2 rfl)) fun a H => H.valE 10 (.bool (E != 0)) (.bool true) (by kernel_rfl) (by kernel_rfl) ((congrArg Value.bool (bne_iff_ne.2 hE))) fun a H => ?_
 refine nl (tn ?_)
 refine w_ift H rfl ?_
 refine sq (rg ?_)
 refine H.v 2 (ii 0) fun a H => ?_
 refine nl (tn (rt (tr ?_)))
 refine H.r1 (ii 0) Tryz.results64 ?_
 exact ⟨by rw [hN], by rw [hN]; exact HP.at_ 0 rfl, HP.agree _ (by simp [bx])⟩
theorem nRw_none (b : Nat) (s : List UInt8) (k : Nat) (w : World) (hR : rdInt s k = none) (h : Box w b 106 [.string (bstr s), .int .i64 (k : Int), .int .i64 0].toArray) (hl : s.length ≤ 1000000) (hk : k ≤ s.length) :
  Calls Tryz.prog 64 #[.pointer (some ⟨b, 0, none⟩)] w fun e w' => e = .returned (ii (nR s (k, 0)).1) ∧ Box w' b 106 (inCells s (nR s (k, 0)).2).toArray ∧ Agree w w' (fun j => j = b) := by
 have HP := Hp.own (vs := [.string (bstr s), .int .i64 (k : Int), .int .i64 0]) h
 have hN : nR s (k, 0) = (0, (k, 10)) := by unfold nR; rw [if_neg (by simp)]; simp only [hR]
 refine w_enter 34 [(0, (pt b 0))] Tryz.func64 rfl Tryz.ntmps64 (by kernel_rfl) (by kernel_rfl) fun a H => ?_
 refine sq (rg ?_)
 refine H.v 2 (ii 0) fun a H => ?_
 refine nl (tn (sq (sq (rg ?_))))
 refine H.v 6 (pt b 0) fun a H => H.v 7 (pt b 0) fun a H => H.v 8 (pt b 2) fun a H => H.u 9 (ii 0) (ex_l1 (HP.cell 0 rfl 2 rfl)) fun a H => H.v 10 (.bool false) fun a H => ?_
 refine nl (tn ?_)
 refine w_iff H rfl ?_
 refine sk (tn (sq ?_))
 refine An.start (fun v => Hp w v [bx b 106 [(.string (bstr s)), (ii k), (ii 0)] false] []) 16 16 HP wide_follows rfl fun w_1 HP => ?_
 refine An.p H (.inr HP) 0 12 (pt b 0) fun a H => ?_
 refine An.p H (.inr HP) 1 13 (pt b 0) fun a H => ?_
 refine An.p H (.inr HP) 2 14 (pt b 0) fun a H => ?_
 refine An.vw H (HP) 3 15 (.string (bstr s)) (fun _ hS => ex_l1 (hS.cell 0 rfl 0 rfl)) fun a H => ?_
 refine An.p H (.inr HP) 4 16 (pt b 0) fun a H => ?_
 refine An.p H (.inr HP) 5 17 (pt b 0) fun a H => ?_
 refine An.p H (.inr HP) 6 18 (pt b 1) fun a H => ?_
 refine An.vw H (HP) 7 19 (ii k) (fun _ hS => ex_l1 (hS.cell 0 rfl 1 rfl)) fun a H => ?_
 refine An.one 8 (by kernel_rfl) ?_
 refine Op.call H 20 rfl (by kernel_rfl) (Eq.trans (by kernel_rfl : _ = (callFunc 112 #[(.string (bstr s)), (ii k)]).run Tryz.prog w_1) (Tryz.call112 _ _)) ((by have hh := rint_any s k w_1 hl hk; rw [hR] at hh; exact hh)) ?_
 rintro e w_2 ⟨rfl, hb⟩
 refine ⟨_, rfl, ?_⟩
 intro a H
 have HP := HP.next hb
 refine ⟨.inr (HP), ?_⟩
 refine An.p H (.inr HP) 9 11 (.tuple #[(ii 0), (ii 0), (ii 10)]) fun a H => ?_
 refine An.p H (.inr HP) 10 21 (ii 0) fun a H => ?_
 refine An.p H (.inr HP) 11 22 (ii 0) fun a H => ?_
 refine An.p H (.inr HP) 12 23 (ii 10) fun a H => ?_
 refine An.p H (.inr HP) 13 3 (ii 0) fun a H => ?_
 refine An.p H (.inr HP) 14 4 (ii 0) fun a H => ?_
 refine An.p H (.inr HP) 15 5 (ii 10) fun a H => ?_
 refine An.done (by kernel_rfl) ?_
 refine tn (sq (sq (rg ?_)))
 refine H.v 24 (ii 10) fun a H => H.v 25 (.bool true) fun a H => ?_
 refine nl (tn ?_)
 refine w_ift H rfl ?_
 refine sq (rg ?_)
 refine H.v 26 (pt b 0) fun a H => H.v 27 (pt b 0) fun a H => H.v 28 (pt b 2) fun a H => H.st HP 0 b 2 1 106 false (ii 10) [bx b 106 [(.string (bstr s)), (ii k), (ii 10)] false] rfl fun w_3 a H HP => ?_
 refine nl (tn (sq (rg ?_)))
 refine H.v 2 (ii 0) fun a H => ?_
 refine nl (tn (rt (tr ?_)))
 refine H.r1 (ii 0) Tryz.results64 ?_
 exact ⟨by rw [hN], by rw [hN]; exact HP.at_ 0 rfl, HP.agree _ (by simp [bx])⟩
theorem nRw_some (b : Nat) (s : List UInt8) (k : Nat) (w : World) (n : Int) (e : Nat) (hR : rdInt s k = some (n, e)) (h : Box w b 106 [.string (bstr s), .int .i64 (k : Int), .int .i64 0].toArray) (hl : s.length ≤ 1000000) (hk : k ≤ s.length) :
  Calls Tryz.prog 64 #[.pointer (some ⟨b, 0, none⟩)] w fun e w' => e = .returned (ii (nR s (k, 0)).1) ∧ Box w' b 106 (inCells s (nR s (k, 0)).2).toArray ∧ Agree w w' (fun j => j = b) := by
 have HP := Hp.own (vs := [.string (bstr s), .int .i64 (k : Int), .int .i64 0]) h
 have hN : nR s (k, 0) = (n, (e, 0)) := by unfold nR; rw [if_neg (by simp)]; simp only [hR]
 refine w_enter 34 [(0, (pt b 0))] Tryz.func64 rfl Tryz.ntmps64 (by kernel_rfl) (by kernel_rfl) fun a H => ?_
 refine sq (rg ?_)
 refine H.v 2 (ii 0) fun a H => ?_
 refine nl (tn (sq (sq (rg ?_))))
 refine H.v 6 (pt b 0) fun a H => H.v 7 (pt b 0) fun a H => H.v 8 (pt b 2) fun a H => H.u 9 (ii 0) (ex_l1 (HP.cell 0 rfl 2 rfl)) fun a H => H.v 10 (.bool false) fun a H => ?_
 refine nl (tn ?_)
 refine w_iff H rfl ?_
 refine sk (tn (sq ?_))
 refine An.start (fun v => Hp w v [bx b 106 [(.string (bstr s)), (ii k), (ii 0)] false] []) 16 16 HP wide_follows rfl fun w_1 HP => ?_
 refine An.p H (.inr HP) 0 12 (pt b 0) fun a H => ?_
 refine An.p H (.inr HP) 1 13 (pt b 0) fun a H => ?_
 refine An.p H (.inr HP) 2 14 (pt b 0) fun a H => ?_
 refine An.vw H (HP) 3 15 (.string (bstr s)) (fun _ hS => ex_l1 (hS.cell 0 rfl 0 rfl)) fun a H => ?_
 refine An.p H (.inr HP) 4 16 (pt b 0) fun a H => ?_
 refine An.p H (.inr HP) 5 17 (pt b 0) fun a H => ?_
 refine An.p H (.inr HP) 6 18 (pt b 1) fun a H => ?_
 refine An.vw H (HP) 7 19 (ii k) (fun _ hS => ex_l1 (hS.cell 0 rfl 1 rfl)) fun a H => ?_
 refine An.one 8 (by kernel_rfl) ?_
 refine Op.call H 20 rfl (by kernel_rfl) (Eq.trans (by kernel_rfl : _ = (callFunc 112 #[(.string (bstr s)), (ii k)]).run Tryz.prog w_1) (Tryz.call112 _ _)) ((by have hh := rint_any s k w_1 hl hk; rw [hR] at hh; exact hh)) ?_
 rintro e w_2 ⟨rfl, hb⟩
 refine ⟨_, rfl, ?_⟩
 intro a H
 have HP := HP.next hb
 refine ⟨.inr (HP), ?_⟩
 refine An.p H (.inr HP) 9 11 (.tuple #[(ii n), (ii e), (ii 0)]) fun a H => ?_
 refine An.p H (.inr HP) 10 21 (ii n) fun a H => ?_
 refine An.p H (.inr HP) 11 22 (ii e) fun a H => ?_
 refine An.p H (.inr HP) 12 23 (ii 0) fun a H => ?_
 refine An.p H (.inr HP) 13 3 (ii n) fun a H => ?_
 refine An.p H (.inr HP) 14 4 (ii e) fun a H => ?_
 refine An.p H (.inr HP) 15 5 (ii 0) fun a H => ?_
 refine An.done (by kernel_rfl) ?_
 refine tn (sq (sq (rg ?_)))
 refine H.v 24 (ii 0) fun a H => H.v 25 (.bool false) fun a H => ?_
 refine nl (tn ?_)
 refine w_iff H rfl ?_
 refine sk (tn (sq (rg ?_)))
 refine H.v 29 (pt b 0) fun a H => H.v 30 (ii e) fun a H => H.v 31 (pt b 0) fun a H => H.v 32 (pt b 1) fun a H => H.st HP 0 b 1 1 106 false (ii e) [bx b 106 [(.string (bstr s)), (ii e), (ii 0)] false] rfl fun w_3 a H HP => ?_
 refine nl (tn (sq (rg ?_)))
 refine H.v 33 (ii n) fun a H => H.v 2 (ii n) fun a H => ?_
 refine nl (tn (rt ?_))
 refine H.r1 (ii n) Tryz.results64 ?_
 exact ⟨by rw [hN], by rw [hN]; exact HP.at_ 0 rfl, HP.agree _ (by simp [bx])⟩
theorem nR_any (b : Nat) (s : List UInt8) (q : Nat × Int) (w : World) (h : Box w b 106 (inCells s q).toArray) (hl : s.length ≤ 1000000) (hk : q.1 ≤ s.length) :
  Calls Tryz.prog 64 #[.pointer (some ⟨b, 0, none⟩)] w fun e w' => e = .returned (ii (nR s q).1) ∧ Box w' b 106 (inCells s (nR s q).2).toArray ∧ Agree w w' (fun j => j = b) := by
 obtain ⟨k, E⟩ := q
 by_cases hE : E = 0
 ·subst hE
  cases hR : rdInt s k with
  | none => exact nRw_none b s k w hR h hl hk
  | some p => exact nRw_some b s k w p.1 p.2 hR h hl hk
 ·exact nRw_bad b s k w E hE h hl hk
theorem cnt_gen (most b : Nat) (s : List UInt8) (q : Nat × Int) (w : World) (h : Box w b 106 (inCells s q).toArray) (hl : s.length ≤ 1000000) (hk : q.1 ≤ s.length) :
  Calls Tryz.prog 63 #[.pointer (some ⟨b, 0, none⟩), .int .i64 (most : Int), .int .i64 80] w fun e w' => e = .returned (ii (cntR most s q).1) ∧ Box w' b 106 (inCells s (cntR most s q).2).toArray ∧ Agree w w' (fun j => j = b) := by
 have HP := Hp.own (vs := inCells s q) h
 obtain ⟨n1, k1, E1, hN⟩ : ∃ n k E, nR s q = (n, (k, E)) := ⟨_, _, _, rfl⟩
 refine w_enter 34 [(0, (pt b 0)), (1, (ii most)), (2, (ii 80))] Tryz.func63 rfl Tryz.ntmps63 (by kernel_rfl) (by kernel_rfl) fun a H => ?_
 refine sq (rg ?_)
 refine H.v 6 (ii 0) fun a H => ?_
 refine nl (tn (sq (rg ?_)))
 refine H.v 8 (pt b 0) fun a H => ?_
 refine H.cl 9 (Tryz.call64 _ _) ((by have hh := nR_any b s q w (HP.at_ 0 rfl) hl hk; simp only [hN] at hh; exact hh)) ?_
 rintro e w_1 ⟨rfl, hbx, hgr⟩
 refine ⟨_, rfl, ?_⟩
 intro a H
 have HP := HP.changed1 0 rfl [.string (bstr s), .int .i64 (k1 : Int), .int .i64 E1] _ rfl hgr hbx
 refine H.v 7 (ii n1) fun a H => ?_
 refine nl (tn (sq (sq (rg ?_))))
 refine H.v 10 (pt b 0) fun a H => H.v 11 (pt b 0) fun a H => H.v 12 (pt b 2) fun a H => H.u 13 (ii E1) (ex_l1 (HP.cell 0 rfl 2 rfl)) fun a H => H.v 14 (.bool (E1 == 0)) fun a H => H.v 15 (.bool (E1 == 0)) fun a H => ?_
 refine H.split 15 rfl (fun g15 H => ?_) (fun g15 H => ?_)
 ·have g15p := eq_of_beq g15
  refine H.v 16 (ii n1) fun a H => H.v 17 (.bool (decide (n1 < 0))) fun a H => H.v 18 (.bool (decide (n1 < 0))) fun a H => ?_
  refine H.split 18 rfl (fun g18 H => ?_) (fun g18 H => ?_)
  ·have g18p := of_decide_eq_true g18
   iterate 3 refine H.sx rfl fun a H => ?_
   iterate 2 refine H.vx rfl (.bool true) fun a H => ?_
   refine nl (tn ?_)
   refine w_ift H rfl ?_
   refine rg ?_
   refine H.v 24 (pt b 0) fun a H => H.v 25 (ii 80) fun a H => H.v 26 (pt b 0) fun a H => H.v 27 (pt b 2) fun a H => H.st HP 0 b 2 1 106 false (ii 80) [bx b 106 [(.string (bstr s)), (ii k1), (ii 80)] false] rfl fun w_2 a H HP => ?_
   refine nl (tn (sq (sq (rg ?_))))
   refine H.v 28 (pt b 0) fun a H => H.v 29 (pt b 0) fun a H => H.v 30 (pt b 2) fun a H => H.u 31 (ii 80) (ex_l1 (HP.cell 0 rfl 2 rfl)) fun a H => H.v 32 (.bool true) fun a H => ?_
   refine nl (tn ?_)
   refine w_ift H rfl ?_
   refine sq (rg ?_)
   refine H.v 6 (ii 0) fun a H => ?_
   refine nl (tn (rt (tr ?_)))
   refine H.r1 (ii 0) Tryz.results63 ?_
   have hc : cntR most s q = (0, (k1, 80)) := by unfold cntR; rw [hN]; simp only; rw [if_pos ⟨by omega, by omega⟩]
   exact ⟨by rw [hc], by rw [hc]; exact HP.at_ 0 rfl, HP.agree _ (by simp [bx])⟩
  have g18p := of_decide_eq_false g18
  refine H.v 19 (ii n1) fun a H => H.v 20 (ii most) fun a H => H.v 21 (.bool (decide (n1 > (most : Int)))) fun a H => H.v 22 (.bool (decide (n1 > (most : Int)))) fun a H => H.v 23 (.bool (decide (n1 > (most : Int)))) fun a H => ?_
  refine nl (tn ?_)
  refine w_if H rfl (fun g23 => ?_) (fun g23 => ?_)
  ·have g23p := of_decide_eq_true g23
   refine rg ?_
   refine H.v 24 (pt b 0) fun a H => H.v 25 (ii 80) fun a H => H.v 26 (pt b 0) fun a H => H.v 27 (pt b 2) fun a H => H.st HP 0 b 2 1 106 false (ii 80) [bx b 106 [(.string (bstr s)), (ii k1), (ii 80)] false] rfl fun w_3 a H HP => ?_
   refine nl (tn (sq (sq (rg ?_))))
   refine H.v 28 (pt b 0) fun a H => H.v 29 (pt b 0) fun a H => H.v 30 (pt b 2) fun a H => H.u 31 (ii 80) (ex_l1 (HP.cell 0 rfl 2 rfl)) fun a H => H.v 32 (.bool true) fun a H => ?_
   refine nl (tn ?_)
   refine w_ift H rfl ?_
   refine sq (rg ?_)
   refine H.v 6 (ii 0) fun a H => ?_
   refine nl (tn (rt (tr ?_)))
   refine H.r1 (ii 0) Tryz.results63 ?_
   have hc : cntR most s q = (0, (k1, 80)) := by unfold cntR; rw [hN]; simp only; rw [if_pos ⟨by omega, by omega⟩]
   exact ⟨by rw [hc], by rw [hc]; exact HP.at_ 0 rfl, HP.agree _ (by simp [bx])⟩
  have g23p := of_decide_eq_false g23
  refine sk (tn (sq (sq (rg ?_))))
  refine H.v 28 (pt b 0) fun a H => H.v 29 (pt b 0) fun a H => H.v 30 (pt b 2) fun a H => H.u 31 (ii E1) (ex_l1 (HP.cell 0 rfl 2 rfl)) fun a H => H.v 32 (.bool (E1 != 0)) fun a H => ?_
  refine nl (tn ?_)
  refine w_if H rfl (fun g32 => ?_) (fun g32 => ?_)
  ·have g32p := bne_iff_ne.1 g32
   refine sq (rg ?_)
   refine H.v 6 (ii 0) fun a H => ?_
   refine nl (tn (rt (tr ?_)))
   refine H.r1 (ii 0) Tryz.results63 ?_
   have hc : cntR most s q = (0, (k1, E1)) := by first | (exfalso; omega) | (unfold cntR; rw [hN]; simp only; rw [if_neg (by omega), if_pos (by omega)])
   exact ⟨by rw [hc], by rw [hc]; exact HP.at_ 0 rfl, HP.agree _ (by simp [bx])⟩
  have g32p := eq_of_bne_false g32
  refine sk (tn (sq (rg ?_)))
  refine H.v 33 (ii n1) fun a H => H.v 6 (ii n1) fun a H => ?_
  refine nl (tn (rt ?_))
  refine H.r1 (ii n1) Tryz.results63 ?_
  have hc : cntR most s q = (n1, (k1, E1)) := by first | (exfalso; omega) | (unfold cntR; rw [hN]; simp only; rw [if_neg (by omega), if_neg (by omega)])
  exact ⟨by rw [hc], by rw [hc]; exact HP.at_ 0 rfl, HP.agree _ (by simp [bx])⟩
 have g15p := ne_of_beq_false g15
 iterate 7 refine H.sx rfl fun a H => ?_
 refine H.v 23 (.bool false) fun a H => ?_
 refine nl (tn ?_)
 refine w_iff H rfl ?_
 refine sk (tn (sq (sq (rg ?_))))
 refine H.v 28 (pt b 0) fun a H => H.v 29 (pt b 0) fun a H => H.v 30 (pt b 2) fun a H => H.u 31 (ii E1) (ex_l1 (HP.cell 0 rfl 2 rfl)) fun a H => H.v 32 (.bool (E1 != 0)) fun a H => ?_
 refine nl (tn ?_)
 refine w_if H rfl (fun g32 => ?_) (fun g32 => ?_)
 ·have g32p := bne_iff_ne.1 g32
  refine sq (rg ?_)
  refine H.v 6 (ii 0) fun a H => ?_
  refine nl (tn (rt (tr ?_)))
  refine H.r1 (ii 0) Tryz.results63 ?_
  have hc : cntR most s q = (0, (k1, E1)) := by first | (exfalso; omega) | (unfold cntR; rw [hN]; simp only; rw [if_neg (by omega), if_pos (by omega)])
  exact ⟨by rw [hc], by rw [hc]; exact HP.at_ 0 rfl, HP.agree _ (by simp [bx])⟩
 have g32p := eq_of_bne_false g32
 refine sk (tn (sq (rg ?_)))
 refine H.v 33 (ii n1) fun a H => H.v 6 (ii n1) fun a H => ?_
 refine nl (tn (rt ?_))
 refine H.r1 (ii n1) Tryz.results63 ?_
 have hc : cntR most s q = (n1, (k1, E1)) := by first | (exfalso; omega) | (unfold cntR; rw [hN]; simp only; rw [if_neg (by omega), if_neg (by omega)])
 exact ⟨by rw [hc], by rw [hc]; exact HP.at_ 0 rfl, HP.agree _ (by simp [bx])⟩
abbrev cnt_any := @cnt_gen
theorem rclause_any (b : Nat) (s : List UInt8) (k : Nat) (E : Int) (w : World) (h : Box w b 106 (inCells s (k, E)).toArray) (hl : s.length ≤ 1000000) (hk : k ≤ s.length) :
  Calls Tryz.prog 66 #[.pointer (some ⟨b, 0, none⟩)] w fun e w' => Agree w w' (fun j => j = b) ∧ ∃ (x : Cls) (k1 : Nat) (E1 : Int), k1 ≤ s.length ∧ Stg (rdM clOf s 8) k E x k1 E1 ∧ e = .returned (.agg (clC x)) ∧ Box w' b 106 (inCells s (k1, E1)).toArray := by
 have HP := Hp.own (vs := inCells s (k, E)) h
 refine w_enter 29 [(0, (pt b 0))] Tryz.func66 rfl Tryz.ntmps66 (by kernel_rfl) (by kernel_rfl) fun a H => ?_
 refine sq (rg ?_)
 refine H.al HP 2 73 [(ii 0), (ii 0), (ii 0), (ii 0), (ii 0), (ii 0), (ii 0), (ii 0)] fun b_1 w_2 a H HP => ?_
 refine nl (tn (sq (rg ?_)))
 refine H.v 4 (pt b 0) fun a H => ?_
 obtain ⟨n1, k1, E1, h1⟩ : ∃ nn kk ee, nR s (k, E) = (nn, (kk, ee)) := ⟨_, _, _, rfl⟩
 have hk1 : k1 ≤ s.length := by have := nR_le (s := s) (q := (k, E)) hk; rw [h1] at this; exact this
 refine H.cl 5 (Tryz.call64 _ _) ((by have hh := nR_any b s (k, E) w_2 (HP.at_ 1 rfl) hl hk; simp only [h1] at hh; exact hh)) ?_
 rintro e w_3 ⟨rfl, hbx, hgr⟩
 refine ⟨_, rfl, ?_⟩
 intro a H
 have HP := HP.changed1 1 rfl (inCells s (k1, E1)) _ rfl hgr hbx
 refine H.v 6 (.agg #[(ii n1), (ii 0), (ii 0), (ii 0), (ii 0), (ii 0), (ii 0), (ii 0)]) fun a H => H.al HP 3 73 [(ii 0), (ii 0), (ii 0), (ii 0), (ii 0), (ii 0), (ii 0), (ii 0)] fun b_4 w_5 a H HP => H.st HP 0 b_4 0 8 73 true (.agg #[(ii n1), (ii 0), (ii 0), (ii 0), (ii 0), (ii 0), (ii 0), (ii 0)]) [bx b_4 73 [(ii n1), (ii 0), (ii 0), (ii 0), (ii 0), (ii 0), (ii 0), (ii 0)] true, bx b_1 73 [(ii 0), (ii 0), (ii 0), (ii 0), (ii 0), (ii 0), (ii 0), (ii 0)] true, bx b 106 (inCells s (k1, E1)) false] rfl fun w_6 a H HP => ?_
 refine nl (tn (sq (rg ?_)))
 refine H.v 7 (pt b 0) fun a H => ?_
 obtain ⟨n2, k2, E2, h2⟩ : ∃ nn kk ee, nR s (k1, E1) = (nn, (kk, ee)) := ⟨_, _, _, rfl⟩
 have hk2 : k2 ≤ s.length := by have := nR_le (s := s) (q := (k1, E1)) hk1; rw [h2] at this; exact this
 refine H.cl 8 (Tryz.call64 _ _) ((by have hh := nR_any b s (k1, E1) w_6 (HP.at_ 2 rfl) hl hk1; simp only [h2] at hh; exact hh)) ?_
 rintro e w_7 ⟨rfl, hbx, hgr⟩
 refine ⟨_, rfl, ?_⟩
 intro a H
 have HP := HP.changed1 2 rfl (inCells s (k2, E2)) _ rfl hgr hbx
 refine H.v 9 (pt b_4 1) fun a H => H.st HP 0 b_4 1 1 73 true (ii n2) [bx b_4 73 [(ii n1), (ii n2), (ii 0), (ii 0), (ii 0), (ii 0), (ii 0), (ii 0)] true, bx b_1 73 [(ii 0), (ii 0), (ii 0), (ii 0), (ii 0), (ii 0), (ii 0), (ii 0)] true, bx b 106 (inCells s (k2, E2)) false] rfl fun w_8 a H HP => ?_
 refine nl (tn (sq (rg ?_)))
 refine H.v 10 (pt b 0) fun a H => ?_
 obtain ⟨n3, k3, E3, h3⟩ : ∃ nn kk ee, nR s (k2, E2) = (nn, (kk, ee)) := ⟨_, _, _, rfl⟩
 have hk3 : k3 ≤ s.length := by have := nR_le (s := s) (q := (k2, E2)) hk2; rw [h3] at this; exact this
 refine H.cl 11 (Tryz.call64 _ _) ((by have hh := nR_any b s (k2, E2) w_8 (HP.at_ 2 rfl) hl hk2; simp only [h3] at hh; exact hh)) ?_
 rintro e w_9 ⟨rfl, hbx, hgr⟩
 refine ⟨_, rfl, ?_⟩
 intro a H
 have HP := HP.changed1 2 rfl (inCells s (k3, E3)) _ rfl hgr hbx
 refine H.v 12 (pt b_4 2) fun a H => H.st HP 0 b_4 2 1 73 true (ii n3) [bx b_4 73 [(ii n1), (ii n2), (ii n3), (ii 0), (ii 0), (ii 0), (ii 0), (ii 0)] true, bx b_1 73 [(ii 0), (ii 0), (ii 0), (ii 0), (ii 0), (ii 0), (ii 0), (ii 0)] true, bx b 106 (inCells s (k3, E3)) false] rfl fun w_10 a H HP => ?_
 refine nl (tn (sq (rg ?_)))
 refine H.v 13 (pt b 0) fun a H => ?_
 obtain ⟨n4, k4, E4, h4⟩ : ∃ nn kk ee, nR s (k3, E3) = (nn, (kk, ee)) := ⟨_, _, _, rfl⟩
 have hk4 : k4 ≤ s.length := by have := nR_le (s := s) (q := (k3, E3)) hk3; rw [h4] at this; exact this
 refine H.cl 14 (Tryz.call64 _ _) ((by have hh := nR_any b s (k3, E3) w_10 (HP.at_ 2 rfl) hl hk3; simp only [h4] at hh; exact hh)) ?_
 rintro e w_11 ⟨rfl, hbx, hgr⟩
 refine ⟨_, rfl, ?_⟩
 intro a H
 have HP := HP.changed1 2 rfl (inCells s (k4, E4)) _ rfl hgr hbx
 refine H.v 15 (pt b_4 3) fun a H => H.st HP 0 b_4 3 1 73 true (ii n4) [bx b_4 73 [(ii n1), (ii n2), (ii n3), (ii n4), (ii 0), (ii 0), (ii 0), (ii 0)] true, bx b_1 73 [(ii 0), (ii 0), (ii 0), (ii 0), (ii 0), (ii 0), (ii 0), (ii 0)] true, bx b 106 (inCells s (k4, E4)) false] rfl fun w_12 a H HP => ?_
 refine nl (tn (sq (rg ?_)))
 refine H.v 16 (pt b 0) fun a H => ?_
 obtain ⟨n5, k5, E5, h5⟩ : ∃ nn kk ee, nR s (k4, E4) = (nn, (kk, ee)) := ⟨_, _, _, rfl⟩
 have hk5 : k5 ≤ s.length := by have := nR_le (s := s) (q := (k4, E4)) hk4; rw [h5] at this; exact this
 refine H.cl 17 (Tryz.call64 _ _) ((by have hh := nR_any b s (k4, E4) w_12 (HP.at_ 2 rfl) hl hk4; simp only [h5] at hh; exact hh)) ?_
 rintro e w_13 ⟨rfl, hbx, hgr⟩
 refine ⟨_, rfl, ?_⟩
 intro a H
 have HP := HP.changed1 2 rfl (inCells s (k5, E5)) _ rfl hgr hbx
 refine H.v 18 (pt b_4 4) fun a H => H.st HP 0 b_4 4 1 73 true (ii n5) [bx b_4 73 [(ii n1), (ii n2), (ii n3), (ii n4), (ii n5), (ii 0), (ii 0), (ii 0)] true, bx b_1 73 [(ii 0), (ii 0), (ii 0), (ii 0), (ii 0), (ii 0), (ii 0), (ii 0)] true, bx b 106 (inCells s (k5, E5)) false] rfl fun w_14 a H HP => ?_
 refine nl (tn (sq (rg ?_)))
 refine H.v 19 (pt b 0) fun a H => ?_
 obtain ⟨n6, k6, E6, h6⟩ : ∃ nn kk ee, nR s (k5, E5) = (nn, (kk, ee)) := ⟨_, _, _, rfl⟩
 have hk6 : k6 ≤ s.length := by have := nR_le (s := s) (q := (k5, E5)) hk5; rw [h6] at this; exact this
 refine H.cl 20 (Tryz.call64 _ _) ((by have hh := nR_any b s (k5, E5) w_14 (HP.at_ 2 rfl) hl hk5; simp only [h6] at hh; exact hh)) ?_
 rintro e w_15 ⟨rfl, hbx, hgr⟩
 refine ⟨_, rfl, ?_⟩
 intro a H
 have HP := HP.changed1 2 rfl (inCells s (k6, E6)) _ rfl hgr hbx
 refine H.v 21 (pt b_4 5) fun a H => H.st HP 0 b_4 5 1 73 true (ii n6) [bx b_4 73 [(ii n1), (ii n2), (ii n3), (ii n4), (ii n5), (ii n6), (ii 0), (ii 0)] true, bx b_1 73 [(ii 0), (ii 0), (ii 0), (ii 0), (ii 0), (ii 0), (ii 0), (ii 0)] true, bx b 106 (inCells s (k6, E6)) false] rfl fun w_16 a H HP => ?_
 refine nl (tn (sq (rg ?_)))
 refine H.v 22 (pt b 0) fun a H => ?_
 obtain ⟨n7, k7, E7, h7⟩ : ∃ nn kk ee, nR s (k6, E6) = (nn, (kk, ee)) := ⟨_, _, _, rfl⟩
 have hk7 : k7 ≤ s.length := by have := nR_le (s := s) (q := (k6, E6)) hk6; rw [h7] at this; exact this
 refine H.cl 23 (Tryz.call64 _ _) ((by have hh := nR_any b s (k6, E6) w_16 (HP.at_ 2 rfl) hl hk6; simp only [h7] at hh; exact hh)) ?_
 rintro e w_17 ⟨rfl, hbx, hgr⟩
 refine ⟨_, rfl, ?_⟩
 intro a H
 have HP := HP.changed1 2 rfl (inCells s (k7, E7)) _ rfl hgr hbx
 refine H.v 24 (pt b_4 6) fun a H => H.st HP 0 b_4 6 1 73 true (ii n7) [bx b_4 73 [(ii n1), (ii n2), (ii n3), (ii n4), (ii n5), (ii n6), (ii n7), (ii 0)] true, bx b_1 73 [(ii 0), (ii 0), (ii 0), (ii 0), (ii 0), (ii 0), (ii 0), (ii 0)] true, bx b 106 (inCells s (k7, E7)) false] rfl fun w_18 a H HP => ?_
 refine nl (tn (sq (rg ?_)))
 refine H.v 25 (pt b 0) fun a H => ?_
 obtain ⟨n8, k8, E8, h8⟩ : ∃ nn kk ee, nR s (k7, E7) = (nn, (kk, ee)) := ⟨_, _, _, rfl⟩
 have hk8 : k8 ≤ s.length := by have := nR_le (s := s) (q := (k7, E7)) hk7; rw [h8] at this; exact this
 refine H.cl 26 (Tryz.call64 _ _) ((by have hh := nR_any b s (k7, E7) w_18 (HP.at_ 2 rfl) hl hk7; simp only [h8] at hh; exact hh)) ?_
 rintro e w_19 ⟨rfl, hbx, hgr⟩
 refine ⟨_, rfl, ?_⟩
 intro a H
 have HP := HP.changed1 2 rfl (inCells s (k8, E8)) _ rfl hgr hbx
 refine H.v 27 (pt b_4 7) fun a H => H.st HP 0 b_4 7 1 73 true (ii n8) [bx b_4 73 [(ii n1), (ii n2), (ii n3), (ii n4), (ii n5), (ii n6), (ii n7), (ii n8)] true, bx b_1 73 [(ii 0), (ii 0), (ii 0), (ii 0), (ii 0), (ii 0), (ii 0), (ii 0)] true, bx b 106 (inCells s (k8, E8)) false] rfl fun w_20 a H HP => ?_
 refine nl (tn (sq (rg ?_)))
 refine H.u 28 (.agg #[(ii n1), (ii n2), (ii n3), (ii n4), (ii n5), (ii n6), (ii n7), (ii n8)]) (ex_lN [(ii n1), (ii n2), (ii n3), (ii n4), (ii n5), (ii n6), (ii n7), (ii n8)] (HP.cells 0 rfl 0 8 (by kernel_rfl))) fun a H => H.st HP 1 b_1 0 8 73 true (.agg #[(ii n1), (ii n2), (ii n3), (ii n4), (ii n5), (ii n6), (ii n7), (ii n8)]) [bx b_4 73 [(ii n1), (ii n2), (ii n3), (ii n4), (ii n5), (ii n6), (ii n7), (ii n8)] true, bx b_1 73 [(ii n1), (ii n2), (ii n3), (ii n4), (ii n5), (ii n6), (ii n7), (ii n8)] true, bx b 106 (inCells s (k8, E8)) false] rfl fun w_21 a H HP => ?_
 refine nl (tn (rt ?_))
 refine H.ret1 (fn := Tryz.f66) Tryz.results66 (RV.cellN (vs := [(ii n1), (ii n2), (ii n3), (ii n4), (ii n5), (ii n6), (ii n7), (ii n8)]) (b := b_1) (off := 0) (k := 8) (by kernel_rfl) (by kernel_rfl) (by kernel_rfl) rfl (HP.cells 1 rfl 0 8 (by kernel_rfl))) ?_
 exact ⟨HP.agree _ (by simp [bx, rowsR]), _, k8, E8, hk8, stg_map clOf (stg_snoc (stg_snoc (stg_snoc (stg_snoc (stg_snoc (stg_snoc (stg_snoc (stg_snoc (stg_nil s k E) h1) h2) h3) h4) h5) h6) h7) h8), rfl, HP.at_ 2 rfl⟩
theorem rentryIn_any (b : Nat) (s : List UInt8) (k : Nat) (E : Int) (w : World) (h : Box w b 106 (inCells s (k, E)).toArray) (hl : s.length ≤ 1000000) (hk : k ≤ s.length) :
  Calls Tryz.prog 65 #[.pointer (some ⟨b, 0, none⟩), .int .i64 80] w fun e w' => Agree w w' (fun j => j = b) ∧ ∃ (x : Ent) (k1 : Nat) (E1 : Int), k1 ≤ s.length ∧ Stg (rdEnt s) k E x.nv k1 E1 ∧ e = .returned (.agg (enC x)) ∧ Box w' b 106 (inCells s (k1, E1)).toArray ∧ x.ok w' ∧ ∀ j, x.fp j → w.heap.size ≤ j := by
 have HP := Hp.own (vs := inCells s (k, E)) h
 refine w_enter 55 [(0, (pt b 0)), (1, (ii 80))] Tryz.func65 rfl Tryz.ntmps65 (by kernel_rfl) (by kernel_rfl) fun a H => ?_
 refine sq (rg ?_)
 refine H.al HP 4 43 [(ii 0), (ii 0), (ii 0), (ii 0), (ii 0), (ii 0), (.slice none 0 0)] fun b_1 w_2 a H HP => ?_
 refine nl (tn (sq (rg ?_)))
 refine H.v 9 (pt b 0) fun a H => ?_
 obtain ⟨n1, k1, E1, h1⟩ : ∃ nn kk ee, nR s (k, E) = (nn, (kk, ee)) := ⟨_, _, _, rfl⟩
 have hk1 : k1 ≤ s.length := by have := nR_le (s := s) (q := (k, E)) hk; rw [h1] at this; exact this
 refine H.cl 10 (Tryz.call64 _ _) ((by have hh := nR_any b s (k, E) w_2 (HP.at_ 1 rfl) hl hk; simp only [h1] at hh; exact hh)) ?_
 rintro e w_3 ⟨rfl, hbx, hgr⟩
 refine ⟨_, rfl, ?_⟩
 intro a H
 have HP := HP.changed1 1 rfl (inCells s (k1, E1)) _ rfl hgr hbx
 refine H.v 11 (.agg #[(ii n1), (ii 0), (ii 0), (ii 0), (ii 0), (ii 0), (.slice none 0 0)]) fun a H => H.al HP 5 43 [(ii 0), (ii 0), (ii 0), (ii 0), (ii 0), (ii 0), (.slice none 0 0)] fun b_4 w_5 a H HP => H.st HP 0 b_4 0 7 43 true (.agg #[(ii n1), (ii 0), (ii 0), (ii 0), (ii 0), (ii 0), (.slice none 0 0)]) [bx b_4 43 [(ii n1), (ii 0), (ii 0), (ii 0), (ii 0), (ii 0), (.slice none 0 0)] true, bx b_1 43 [(ii 0), (ii 0), (ii 0), (ii 0), (ii 0), (ii 0), (.slice none 0 0)] true, bx b 106 (inCells s (k1, E1)) false] rfl fun w_6 a H HP => ?_
 refine nl (tn (sq (rg ?_)))
 refine H.v 12 (pt b 0) fun a H => ?_
 obtain ⟨n2, k2, E2, h2⟩ : ∃ nn kk ee, nR s (k1, E1) = (nn, (kk, ee)) := ⟨_, _, _, rfl⟩
 have hk2 : k2 ≤ s.length := by have := nR_le (s := s) (q := (k1, E1)) hk1; rw [h2] at this; exact this
 refine H.cl 13 (Tryz.call64 _ _) ((by have hh := nR_any b s (k1, E1) w_6 (HP.at_ 2 rfl) hl hk1; simp only [h2] at hh; exact hh)) ?_
 rintro e w_7 ⟨rfl, hbx, hgr⟩
 refine ⟨_, rfl, ?_⟩
 intro a H
 have HP := HP.changed1 2 rfl (inCells s (k2, E2)) _ rfl hgr hbx
 refine H.v 14 (pt b_4 1) fun a H => H.st HP 0 b_4 1 1 43 true (ii n2) [bx b_4 43 [(ii n1), (ii n2), (ii 0), (ii 0), (ii 0), (ii 0), (.slice none 0 0)] true, bx b_1 43 [(ii 0), (ii 0), (ii 0), (ii 0), (ii 0), (ii 0), (.slice none 0 0)] true, bx b 106 (inCells s (k2, E2)) false] rfl fun w_8 a H HP => ?_
 refine nl (tn (sq (rg ?_)))
 refine H.v 15 (pt b 0) fun a H => ?_
 obtain ⟨n3, k3, E3, h3⟩ : ∃ nn kk ee, nR s (k2, E2) = (nn, (kk, ee)) := ⟨_, _, _, rfl⟩
 have hk3 : k3 ≤ s.length := by have := nR_le (s := s) (q := (k2, E2)) hk2; rw [h3] at this; exact this
 refine H.cl 16 (Tryz.call64 _ _) ((by have hh := nR_any b s (k2, E2) w_8 (HP.at_ 2 rfl) hl hk2; simp only [h3] at hh; exact hh)) ?_
 rintro e w_9 ⟨rfl, hbx, hgr⟩
 refine ⟨_, rfl, ?_⟩
 intro a H
 have HP := HP.changed1 2 rfl (inCells s (k3, E3)) _ rfl hgr hbx
 refine H.v 17 (pt b_4 2) fun a H => H.st HP 0 b_4 2 1 43 true (ii n3) [bx b_4 43 [(ii n1), (ii n2), (ii n3), (ii 0), (ii 0), (ii 0), (.slice none 0 0)] true, bx b_1 43 [(ii 0), (ii 0), (ii 0), (ii 0), (ii 0), (ii 0), (.slice none 0 0)] true, bx b 106 (inCells s (k3, E3)) false] rfl fun w_10 a H HP => ?_
 refine nl (tn (sq (rg ?_)))
 refine H.v 18 (pt b 0) fun a H => ?_
 obtain ⟨n4, k4, E4, h4⟩ : ∃ nn kk ee, nR s (k3, E3) = (nn, (kk, ee)) := ⟨_, _, _, rfl⟩
 have hk4 : k4 ≤ s.length := by have := nR_le (s := s) (q := (k3, E3)) hk3; rw [h4] at this; exact this
 refine H.cl 19 (Tryz.call64 _ _) ((by have hh := nR_any b s (k3, E3) w_10 (HP.at_ 2 rfl) hl hk3; simp only [h4] at hh; exact hh)) ?_
 rintro e w_11 ⟨rfl, hbx, hgr⟩
 refine ⟨_, rfl, ?_⟩
 intro a H
 have HP := HP.changed1 2 rfl (inCells s (k4, E4)) _ rfl hgr hbx
 refine H.v 20 (pt b_4 3) fun a H => H.st HP 0 b_4 3 1 43 true (ii n4) [bx b_4 43 [(ii n1), (ii n2), (ii n3), (ii n4), (ii 0), (ii 0), (.slice none 0 0)] true, bx b_1 43 [(ii 0), (ii 0), (ii 0), (ii 0), (ii 0), (ii 0), (.slice none 0 0)] true, bx b 106 (inCells s (k4, E4)) false] rfl fun w_12 a H HP => ?_
 refine nl (tn (sq (rg ?_)))
 refine H.v 21 (pt b 0) fun a H => ?_
 obtain ⟨n5, k5, E5, h5⟩ : ∃ nn kk ee, nR s (k4, E4) = (nn, (kk, ee)) := ⟨_, _, _, rfl⟩
 have hk5 : k5 ≤ s.length := by have := nR_le (s := s) (q := (k4, E4)) hk4; rw [h5] at this; exact this
 refine H.cl 22 (Tryz.call64 _ _) ((by have hh := nR_any b s (k4, E4) w_12 (HP.at_ 2 rfl) hl hk4; simp only [h5] at hh; exact hh)) ?_
 rintro e w_13 ⟨rfl, hbx, hgr⟩
 refine ⟨_, rfl, ?_⟩
 intro a H
 have HP := HP.changed1 2 rfl (inCells s (k5, E5)) _ rfl hgr hbx
 refine H.v 23 (pt b_4 4) fun a H => H.st HP 0 b_4 4 1 43 true (ii n5) [bx b_4 43 [(ii n1), (ii n2), (ii n3), (ii n4), (ii n5), (ii 0), (.slice none 0 0)] true, bx b_1 43 [(ii 0), (ii 0), (ii 0), (ii 0), (ii 0), (ii 0), (.slice none 0 0)] true, bx b 106 (inCells s (k5, E5)) false] rfl fun w_14 a H HP => ?_
 refine nl (tn (sq (rg ?_)))
 refine H.v 24 (pt b 0) fun a H => ?_
 obtain ⟨n6, k6, E6, h6⟩ : ∃ nn kk ee, nR s (k5, E5) = (nn, (kk, ee)) := ⟨_, _, _, rfl⟩
 have hk6 : k6 ≤ s.length := by have := nR_le (s := s) (q := (k5, E5)) hk5; rw [h6] at this; exact this
 refine H.cl 25 (Tryz.call64 _ _) ((by have hh := nR_any b s (k5, E5) w_14 (HP.at_ 2 rfl) hl hk5; simp only [h6] at hh; exact hh)) ?_
 rintro e w_15 ⟨rfl, hbx, hgr⟩
 refine ⟨_, rfl, ?_⟩
 intro a H
 have HP := HP.changed1 2 rfl (inCells s (k6, E6)) _ rfl hgr hbx
 refine H.v 26 (pt b_4 5) fun a H => H.st HP 0 b_4 5 1 43 true (ii n6) [bx b_4 43 [(ii n1), (ii n2), (ii n3), (ii n4), (ii n5), (ii n6), (.slice none 0 0)] true, bx b_1 43 [(ii 0), (ii 0), (ii 0), (ii 0), (ii 0), (ii 0), (.slice none 0 0)] true, bx b 106 (inCells s (k6, E6)) false] rfl fun w_16 a H HP => ?_
 refine nl (tn (sq (rg ?_)))
 refine H.v 27 (pt b 0) fun a H => H.v 28 (ii 80) fun a H => ?_
 obtain ⟨c7, k7, E7, h7⟩ : ∃ nn kk ee, cntR 7 s (k6, E6) = (nn, (kk, ee)) := ⟨_, _, _, rfl⟩
 have hk7 : k7 ≤ s.length := by have := cntR_le (most := 7) (s := s) (q := (k6, E6)) hk6; rw [h7] at this; exact this
 obtain ⟨m7, rfl, hm7⟩ := cnt_nat h7
 refine H.cl 29 (Tryz.call63 _ _) ((by have hh := cnt_any 7 b s (k6, E6) w_16 (HP.at_ 2 rfl) hl hk6; simp only [h7] at hh; exact hh)) ?_
 rintro e w_17 ⟨rfl, hbx, hgr⟩
 refine ⟨_, rfl, ?_⟩
 intro a H
 have HP := HP.changed1 2 rfl (inCells s (k7, E7)) _ rfl hgr hbx
 refine H.v 6 (ii m7) fun a H => ?_
 refine nl ?_
 have HP := HP.nilRow w.heap.size 62 2 altC (fun _ _ => True) (fun _ _ => False) elOk_flat
 refine tn (sq (sq (rg ?_)))
 refine H.v 7 (ii 0) fun a H => ?_
 refine nl (tn (bk ?_))
 refine w_loop (fun mm a wv => ∃ (i : Nat), ∃ (kq : Nat), ∃ (Eq : Int), ∃ (al : Alts), ∃ (B : Option Addr), ∃ (cc : Nat), m7 - i = mm ∧ Sl 55 [(7, (ii i)), (6, (ii m7)), (0, (pt b 0)), (4, (pt b_1 0)), (5, (pt b_4 0))] a ∧ Hp w wv [(rowsR w.heap.size 62 2 altC (fun _ _ => True) (fun _ _ => False) (.slice B i cc) al), bx b_4 43 [(ii n1), (ii n2), (ii n3), (ii n4), (ii n5), (ii n6), (.slice B i cc)] true, bx b_1 43 [(ii 0), (ii 0), (ii 0), (ii 0), (ii 0), (ii 0), (.slice none 0 0)] true, bx b 106 (inCells s (kq, Eq)) false] [] ∧ (i ≤ m7) ∧ (al.length = i) ∧ (kq ≤ s.length) ∧ (LI (rdM altOf s 2) m7 k7 E7 i kq Eq al)) (m7 - 0) ?_ ?_
 ·exact ⟨0, k7, E7, ([] : Alts), none, 0, (by omega), H.keep (by kernel_rfl), HP, (Nat.zero_le _), rfl, hk7, (li_start _ h7)⟩
 rintro mm a w_18 ⟨i, kq, Eq, al, B, cc, hmeas, H, HP, hi, hal, hkq, hrel⟩
 refine sq (sq (rg ?_))
 refine H.v 30 (ii i) fun a H => H.v 31 (ii m7) fun a H => H.v 32 (.bool (decide ((i : Int) < (m7 : Int)))) fun a H => H.v 33 (.bool (decide ((i : Int) < (m7 : Int)))) fun a H => ?_
 refine H.split 33 rfl (fun g33 H => ?_) (fun g33 H => ?_)
 ·have g33p := of_decide_eq_true g33
  refine H.v 34 (pt b 0) fun a H => H.v 35 (pt b 0) fun a H => H.v 36 (pt b 2) fun a H => H.u 37 (ii Eq) (ex_l1 (v := (ii Eq)) (HP.cell 3 rfl 2 rfl)) fun a H => H.v 38 (.bool (Eq == 0)) fun a H => H.v 39 (.bool (Eq == 0)) fun a H => ?_
  refine nl (tn ?_)
  refine w_if H rfl (fun g39 => ?_) (fun g39 => ?_)
  ·have g39p := eq_of_beq g39
   refine sk (tn (sq (bk (sq ?_))))
   have hE0 : Eq = 0 := by omega
   subst hE0
   have HP : Hp w w_18 [(rowsR w.heap.size 62 2 altC (fun _ _ => True) (fun _ _ => False) (.slice B i cc) al), bx b_4 43 [(ii n1), (ii n2), (ii n3), (ii n4), (ii n5), (ii n6), (.slice B i cc)] true, bx b_1 43 [(ii 0), (ii 0), (ii 0), (ii 0), (ii 0), (ii 0), (.slice none 0 0)] true, bx b 106 (inCells s (kq, 0)) false] [] := HP
   refine rg ?_
   refine H.v 42 (pt b 0) fun a H => ?_
   obtain ⟨n8, k8, E8, h8⟩ : ∃ nn kk ee, nR s (kq, 0) = (nn, (kk, ee)) := ⟨_, _, _, rfl⟩
   have hk8 : k8 ≤ s.length := by have := nR_le (s := s) (q := (kq, 0)) hkq; rw [h8] at this; exact this
   refine H.cl 43 (Tryz.call64 _ _) ((by have hh := nR_any b s (kq, 0) w_18 (HP.at_ 3 rfl) hl hkq; simp only [h8] at hh; exact hh)) ?_
   rintro e w_19 ⟨rfl, hbx, hgr⟩
   refine ⟨_, rfl, ?_⟩
   intro a H
   have HP := HP.changed1 3 rfl (inCells s (k8, E8)) _ rfl hgr hbx
   refine H.v 44 (.agg #[(ii n8), (ii 0)]) fun a H => H.al HP 8 62 [(ii 0), (ii 0)] fun b_20 w_21 a H HP => H.st HP 0 b_20 0 2 62 true (.agg #[(ii n8), (ii 0)]) [bx b_20 62 [(ii n8), (ii 0)] true, (rowsR w.heap.size 62 2 altC (fun _ _ => True) (fun _ _ => False) (.slice B i cc) al), bx b_4 43 [(ii n1), (ii n2), (ii n3), (ii n4), (ii n5), (ii n6), (.slice B i cc)] true, bx b_1 43 [(ii 0), (ii 0), (ii 0), (ii 0), (ii 0), (ii 0), (.slice none 0 0)] true, bx b 106 (inCells s (k8, E8)) false] rfl fun w_22 a H HP => ?_
   refine nl (tn (sq (rg ?_)))
   refine H.v 45 (pt b 0) fun a H => ?_
   obtain ⟨n9, k9, E9, h9⟩ : ∃ nn kk ee, nR s (k8, E8) = (nn, (kk, ee)) := ⟨_, _, _, rfl⟩
   have hk9 : k9 ≤ s.length := by have := nR_le (s := s) (q := (k8, E8)) hk8; rw [h9] at this; exact this
   refine H.cl 46 (Tryz.call64 _ _) ((by have hh := nR_any b s (k8, E8) w_22 (HP.at_ 4 rfl) hl hk8; simp only [h9] at hh; exact hh)) ?_
   rintro e w_23 ⟨rfl, hbx, hgr⟩
   refine ⟨_, rfl, ?_⟩
   intro a H
   have HP := HP.changed1 4 rfl (inCells s (k9, E9)) _ rfl hgr hbx
   refine H.v 47 (pt b_20 1) fun a H => H.st HP 0 b_20 1 1 62 true (ii n9) [bx b_20 62 [(ii n8), (ii n9)] true, (rowsR w.heap.size 62 2 altC (fun _ _ => True) (fun _ _ => False) (.slice B i cc) al), bx b_4 43 [(ii n1), (ii n2), (ii n3), (ii n4), (ii n5), (ii n6), (.slice B i cc)] true, bx b_1 43 [(ii 0), (ii 0), (ii 0), (ii 0), (ii 0), (ii 0), (.slice none 0 0)] true, bx b 106 (inCells s (k9, E9)) false] rfl fun w_24 a H HP => ?_
   refine nl (tn (rg ?_))
   refine H.v 48 (pt b_4 6) fun a H => H.u 49 (.slice B i cc) (ex_l1 (HP.cell 2 rfl 6 rfl)) fun a H => H.u 50 (.agg #[(ii n8), (ii n9)]) (ex_lN [(ii n8), (ii n9)] (HP.cells 0 rfl 0 2 (by kernel_rfl))) fun a H => H.alloc HP 51 (fun b => (.slice (some ⟨b, 0, none⟩) 1 1)) 62 [(ii n8), (ii n9)] (by kernel_rfl) (fun w => by kernel_rfl) fun b_25 w_26 a H HP => ?_
   have HP := HP.pend0 2 rfl elOk_flat (n8, n9) [bx b_25 62 [(ii n8), (ii n9)] true, bx b_20 62 [(ii n8), (ii n9)] true, (rowsP w.heap.size 62 2 altC (fun _ _ => True) (fun _ _ => False) (.slice B i cc) al (n8, n9)), bx b_4 43 [(ii n1), (ii n2), (ii n3), (ii n4), (ii n5), (ii n6), (.slice B i cc)] true, bx b_1 43 [(ii 0), (ii 0), (ii 0), (ii 0), (ii 0), (ii 0), (.slice none 0 0)] true, bx b 106 (inCells s (k9, E9)) false] (by kernel_rfl) trivial (fun _ h => h)
   refine H.push HP 52 2 0 (v := (.slice B i cc)) (e := 62) (p := (n8, n9)) (l := al) (cs := altC) (ok := (fun _ _ => True)) (fe := (fun _ _ => False)) (size := 2) (z := (.agg #[.int .i64 0, .int .i64 0])) (bytes := 16) (bb := b_25) (tb := 62) (fb := true) (by kernel_rfl) elOk_flat (by kernel_rfl) (by kernel_rfl) rfl (by kernel_rfl) (by kernel_rfl) (by kernel_rfl) (by kernel_rfl) (by kernel_rfl) rfl (by kernel_rfl) (by rw [hal]; unfold maxLen; omega) (by rw [hal]; omega) fun B_27 c_28 w_29 a H HP => ?_
   have HP : Hp w w_29 [bx b_25 62 [(ii n8), (ii n9)] true, bx b_20 62 [(ii n8), (ii n9)] true, (rowsR w.heap.size 62 2 altC (fun _ _ => True) (fun _ _ => False) (.slice B_27 (al.length + 1) c_28) (al ++ [(n8, n9)])), bx b_4 43 [(ii n1), (ii n2), (ii n3), (ii n4), (ii n5), (ii n6), (.slice B i cc)] true, bx b_1 43 [(ii 0), (ii 0), (ii 0), (ii 0), (ii 0), (ii 0), (.slice none 0 0)] true, bx b 106 (inCells s (k9, E9)) false] [] := HP
   rw [hal] at H HP
   refine H.v 53 (pt b_4 6) fun a H => H.st HP 3 b_4 6 1 43 true (.slice B_27 (i + 1) c_28) [bx b_25 62 [(ii n8), (ii n9)] true, bx b_20 62 [(ii n8), (ii n9)] true, (rowsR w.heap.size 62 2 altC (fun _ _ => True) (fun _ _ => False) (.slice B_27 (i + 1) c_28) (al ++ [(n8, n9)])), bx b_4 43 [(ii n1), (ii n2), (ii n3), (ii n4), (ii n5), (ii n6), (.slice B_27 (i + 1) c_28)] true, bx b_1 43 [(ii 0), (ii 0), (ii 0), (ii 0), (ii 0), (ii 0), (.slice none 0 0)] true, bx b 106 (inCells s (k9, E9)) false] rfl fun w_30 a H HP => ?_
   refine nl (ibn (tn (rg ?_)))
   refine H.v 40 (ii i) fun a H => H.valE 41 (ii (IntKind.i64.wrap ((i : Int) + 1))) (ii ((i : Int) + 1)) (by kernel_rfl) (by kernel_rfl) ((by rw [wrap_ini64 _ (by omega)])) fun a H => H.v 7 (ii ((i : Int) + 1)) fun a H => ?_
   refine nl (tn ?_)
   have HP := HP.tail rfl
   have HP := HP.tail rfl
   have H := H.as 7 (ii ((i + 1 : Nat) : Int)) rfl rfl
   refine ⟨_, ?_, i + 1, k9, E9, al ++ [(n8, n9)], B_27, c_28, rfl, H.keep (by kernel_rfl), HP, (by omega), (by rw [List.length_append, hal]; rfl), hk9, (li_step hrel (by omega) (stg_map altOf (stg_snoc (stg_snoc (stg_nil s kq 0) h8) h9)))⟩
   omega
  have g39p := ne_of_beq_false g39
  refine wp_exit (then_exit (then_exit ?_))
  refine w_exit_here ?_
  refine tn (sq ?_)
  subst hal
  refine rg ?_
  refine H.u 54 (.agg #[(ii n1), (ii n2), (ii n3), (ii n4), (ii n5), (ii n6), (.slice B al.length cc)]) (ex_lN [(ii n1), (ii n2), (ii n3), (ii n4), (ii n5), (ii n6), (.slice B al.length cc)] (HP.cells 1 rfl 0 7 (by kernel_rfl))) fun a H => H.st HP 2 b_1 0 7 43 true (.agg #[(ii n1), (ii n2), (ii n3), (ii n4), (ii n5), (ii n6), (.slice B al.length cc)]) [(rowsR w.heap.size 62 2 altC (fun _ _ => True) (fun _ _ => False) (.slice B al.length cc) al), bx b_4 43 [(ii n1), (ii n2), (ii n3), (ii n4), (ii n5), (ii n6), (.slice B al.length cc)] true, bx b_1 43 [(ii n1), (ii n2), (ii n3), (ii n4), (ii n5), (ii n6), (.slice B al.length cc)] true, bx b 106 (inCells s (kq, Eq)) false] rfl fun w_31 a H HP => ?_
  refine nl (tn (rt ?_))
  refine H.ret1 (fn := Tryz.f65) Tryz.results65 (RV.cellN (vs := [(ii n1), (ii n2), (ii n3), (ii n4), (ii n5), (ii n6), (.slice B al.length cc)]) (b := b_1) (off := 0) (k := 7) (by kernel_rfl) (by kernel_rfl) (by kernel_rfl) rfl (HP.cells 2 rfl 0 7 (by kernel_rfl))) ?_
  have hs6 := (stg_snoc (stg_snoc (stg_snoc (stg_snoc (stg_snoc (stg_snoc (stg_nil s k E) h1) h2) h3) h4) h5) h6)
  have hs7 := li_end (E := Eq) h7 hrel hi (by omega)
  have hrow := HP.held 0 rfl
  exact ⟨HP.agree _ (by simp [bx, rowsR]), ⟨n1, n2, n3, n4, n5, n6, B, cc, al⟩, kq, Eq, hkq, stg_ent hs6 hs7, rfl, HP.at_ 3 rfl, ⟨Rd.of_own hrow.1, by show al.length ≤ maxLen; unfold maxLen; omega⟩, fun j hj => flat_new hrow j hj⟩
 have g33p := of_decide_eq_false g33
 iterate 5 refine H.sx rfl fun a H => ?_
 refine H.v 39 (.bool false) fun a H => ?_
 refine nl (tn ?_)
 refine w_iff H rfl ?_
 refine wp_exit (then_exit (then_exit ?_))
 refine w_exit_here ?_
 refine tn (sq ?_)
 subst hal
 refine rg ?_
 refine H.u 54 (.agg #[(ii n1), (ii n2), (ii n3), (ii n4), (ii n5), (ii n6), (.slice B al.length cc)]) (ex_lN [(ii n1), (ii n2), (ii n3), (ii n4), (ii n5), (ii n6), (.slice B al.length cc)] (HP.cells 1 rfl 0 7 (by kernel_rfl))) fun a H => H.st HP 2 b_1 0 7 43 true (.agg #[(ii n1), (ii n2), (ii n3), (ii n4), (ii n5), (ii n6), (.slice B al.length cc)]) [(rowsR w.heap.size 62 2 altC (fun _ _ => True) (fun _ _ => False) (.slice B al.length cc) al), bx b_4 43 [(ii n1), (ii n2), (ii n3), (ii n4), (ii n5), (ii n6), (.slice B al.length cc)] true, bx b_1 43 [(ii n1), (ii n2), (ii n3), (ii n4), (ii n5), (ii n6), (.slice B al.length cc)] true, bx b 106 (inCells s (kq, Eq)) false] rfl fun w_32 a H HP => ?_
 refine nl (tn (rt ?_))
 refine H.ret1 (fn := Tryz.f65) Tryz.results65 (RV.cellN (vs := [(ii n1), (ii n2), (ii n3), (ii n4), (ii n5), (ii n6), (.slice B al.length cc)]) (b := b_1) (off := 0) (k := 7) (by kernel_rfl) (by kernel_rfl) (by kernel_rfl) rfl (HP.cells 2 rfl 0 7 (by kernel_rfl))) ?_
 have hs6 := (stg_snoc (stg_snoc (stg_snoc (stg_snoc (stg_snoc (stg_snoc (stg_nil s k E) h1) h2) h3) h4) h5) h6)
 have hs7 := li_end (E := Eq) h7 hrel hi (by omega)
 have hrow := HP.held 0 rfl
 exact ⟨HP.agree _ (by simp [bx, rowsR]), ⟨n1, n2, n3, n4, n5, n6, B, cc, al⟩, kq, Eq, hkq, stg_ent hs6 hs7, rfl, HP.at_ 3 rfl, ⟨Rd.of_own hrow.1, by show al.length ≤ maxLen; unfold maxLen; omega⟩, fun j hj => flat_new hrow j hj⟩
def PlanPost (a0 a1 : Addr) (s : List UInt8) (rb : Nat) (w : World) (e : Ending) (w' : World) : Prop :=
 Agree w w' (fun j => j = rb) ∧ ((∃ (E : Int) (k1 : Nat), rdPl s = .error E ∧ (E = 10 ∨ E = 80) ∧ e = .panicked (pan a0 a1 E) ∧ Box w' rb 103 (rC s k1).toArray) ∨
  (∃ (p : Pln) (k1 : Nat), rdPl s = .ok (p.nv, k1) ∧ k1 ≤ s.length ∧ e = .returned (.agg (plC p).toArray) ∧ Box w' rb 103 (rC s k1).toArray ∧ IsPln w' p ∧ ∀ j, p.fp j → w.heap.size ≤ j))
theorem rdplan_any (a0 a1 : Addr) (s : List UInt8) (rb : Nat) (w : World) (hL : LaidP a0 a1 w) (hsep : ∀ j, lpFp a0 a1 j → j ≠ rb) (h : Box w rb 103 (rC s 0).toArray) (hl : s.length ≤ 1000000) :
  Calls Tryz.prog 61 #[.pointer (some ⟨rb, 0, none⟩)] w (PlanPost a0 a1 s rb w) := by
 have HP : Hp w w [bx rb 103 (rC s 0) false] [laidK a0 a1] := (Hp.own h).keepF (laidK a0 a1) hL (laidK_ok _ _) (fun j hj => ⟨hL.lt j hj, by simpa [bx] using hsep j hj⟩)
 refine w_enter 43 [(0, (pt rb 0))] Tryz.func61 rfl Tryz.ntmps61 (by kernel_rfl) (by kernel_rfl) fun a H => ?_
 refine sq (rg ?_)
 refine H.al HP 1 148 [(pt rb 0)] fun b_1 w_2 a H HP => H.al HP 2 32 [(ii 0), (ii 0), (ii 0), (ii 0), (.slice none 0 0), (ii 0), (ii 0), (ii 0), (ii 0), (.slice none 0 0), (.slice none 0 0), (.slice none 0 0), (.slice none 0 0)] fun b_3 w_4 a H HP => ?_
 refine nl (tn (sq (rg ?_)))
 refine H.al HP 3 32 [(ii 0), (ii 0), (ii 0), (ii 0), (.slice none 0 0), (ii 0), (ii 0), (ii 0), (ii 0), (.slice none 0 0), (.slice none 0 0), (.slice none 0 0), (.slice none 0 0)] fun b_5 w_6 a H HP => ?_
 refine nl (tn (sq (rg ?_)))
 refine H.u 4 (pt rb 0) (ex_l1 (HP.cell 2 rfl 0 rfl)) fun a H => H.v 5 (pt b_5 0) fun a H => H.v 6 (pt b_5 1) fun a H => H.v 7 (pt b_5 1) fun a H => H.v 8 (pt b_5 1) fun a H => H.v 9 (pt b_5 2) fun a H => H.v 10 (pt b_5 3) fun a H => H.v 11 (pt b_5 3) fun a H => H.alloc HP 12 (fun b => (.slice (some ⟨b, 0, none⟩) 4 4)) 150 [(pt b_5 0), (pt b_5 1), (pt b_5 2), (pt b_5 3)] (by kernel_rfl) (fun w => by kernel_rfl) fun b_7 w_8 a H HP => ?_
 refine H.callP 13 (by kernel_rfl) (Eq.trans (by kernel_rfl : _ = (callFunc 99 #[(pt rb 0), (.slice (some ⟨b_7, 0, none⟩) 4 4)]).run Tryz.prog w_8) (Tryz.call99 _ _)) (numbers_any a0 a1 s 0 rb b_5 32 b_7 [(ii 0), (ii 0), (ii 0), (ii 0), (.slice none 0 0), (ii 0), (ii 0), (ii 0), (ii 0), (.slice none 0 0), (.slice none 0 0), (.slice none 0 0), (.slice none 0 0)] [0, 1, 2, 3] w_8 (HP.fact 0 rfl) (fun j hj => ⟨HP.factNe 0 4 rfl rfl j hj, HP.factNe 0 1 rfl rfl j hj⟩) (HP.at_ 4 rfl) (HP.at_ 1 rfl) (HP.at_ 0 rfl) ((HP.neB 1 4 rfl rfl (by decide)).symm) ⟨HP.neB 0 4 rfl rfl (by decide), HP.neB 0 1 rfl rfl (by decide)⟩ (by simp) (by decide) hl (Nat.zero_le _)) ?_
 rintro e w_9 ⟨hag, (⟨k1, us2, hE1, hk1, rfl, hb1, hb2, _⟩ | ⟨l, k1, hE1, hk1, hll, rfl, hb1, hb2⟩)⟩
 ·refine .inr ⟨_, rfl, ?_⟩
  intro a H
  have HP := HP.changed2 4 1 rfl rfl (rC s k1) us2 _ rfl (by decide) hag hb1 hb2
  replace hE1 : rdN s 4 0 = .error 10 := hE1
  refine then_panic ?_
  refine H.endP ?_
  exact ⟨HP.agree _ (by simp [bx, rowsR]), .inl ⟨10, k1, by unfold rdPl; rw [hE1], .inl rfl, rfl, HP.at_ 4 rfl⟩⟩
 refine .inl ⟨_, rfl, ?_⟩
 intro a H
 obtain ⟨z0, z1, z2, z3, rfl⟩ := len4 hll
 replace hE1 : rdN s 4 0 = .ok ([z0, z1, z2, z3], k1) := hE1
 have HP := HP.changed2 4 1 rfl rfl (rC s k1) [(ii z0), (ii z1), (ii z2), (ii z3), (.slice none 0 0), (ii 0), (ii 0), (ii 0), (ii 0), (.slice none 0 0), (.slice none 0 0), (.slice none 0 0), (.slice none 0 0)] _ rfl (by decide) hag hb1 hb2
 refine nl (tn (sq (rg ?_)))
 refine H.u 14 (pt rb 0) (ex_l1 (HP.cell 3 rfl 0 rfl)) fun a H => H.v 15 (.func (.func 101) #[] #[(pt b_1 0)]) fun a H => ?_
 have hlt0 := HP.lt
 refine H.callP 16 (by kernel_rfl) (Eq.trans (by kernel_rfl : _ = (callFunc 100 #[(pt rb 0), (ii 40), (.func (.func 101) #[] #[(pt b_1 0)])]).run Tryz.prog w_9) (Tryz.call100 _ _)) (listS_any a0 a1 s k1 rb b_1 w_9 (HP.fact 0 rfl) (fun j hj => HP.factNe 0 4 rfl rfl j hj) (HP.at_ 4 rfl) (HP.at_ 3 rfl) (HP.neB 3 4 rfl rfl (by decide)) hl hk1) ?_
 rintro e w_10 ⟨hag, (⟨E, k2, hE2, hEE, hk2, rfl, hb1⟩ | ⟨A1, c1, sh, k2, hE2, hk2, rfl, hb1, hrow, hnew2, hmost2⟩)⟩
 ·refine .inr ⟨_, rfl, ?_⟩
  intro a H
  have HP := HP.changed1 4 rfl (rC s k2) _ rfl hag hb1
  refine then_panic ?_
  refine H.endP ?_
  exact ⟨HP.agree _ (by simp [bx, rowsR]), .inl ⟨E, k2, by unfold rdPl; rw [hE1]; simp only; rw [hE2], hEE, rfl, HP.at_ 4 rfl⟩⟩
 refine .inl ⟨_, rfl, ?_⟩
 intro a H
 have hsz2 := HP.size
 have HP := HP.changed1 4 rfl (rC s k2) [bx b_7 150 [(pt b_5 0), (pt b_5 1), (pt b_5 2), (pt b_5 3)] true, bx b_5 32 [(ii z0), (ii z1), (ii z2), (ii z3), (.slice none 0 0), (ii 0), (ii 0), (ii 0), (ii 0), (.slice none 0 0), (.slice none 0 0), (.slice none 0 0), (.slice none 0 0)] true, bx b_3 32 [(ii 0), (ii 0), (ii 0), (ii 0), (.slice none 0 0), (ii 0), (ii 0), (ii 0), (ii 0), (.slice none 0 0), (.slice none 0 0), (.slice none 0 0), (.slice none 0 0)] true, bx b_1 148 [(pt rb 0)] true, bx rb 103 (rC s k2) false] (by kernel_rfl) hag hb1
 have HP := HP.keepF (rowF 2 altC A1 sh) hrow (rowF_ok _ _ _ _) (fun j hj => ⟨hrow.lt j hj, fun y hy hyk => by simp only [List.mem_cons, List.not_mem_nil, or_false] at hy; rcases hy with rfl | rfl | rfl | rfl | rfl <;> (first | exact Nat.lt_irrefl _ (Nat.lt_of_lt_of_le (hlt0 _ (List.mem_of_getElem? (i := 0) rfl) j hyk) (hnew2 j hj)) | exact Nat.lt_irrefl _ (Nat.lt_of_lt_of_le (hlt0 _ (List.mem_of_getElem? (i := 1) rfl) j hyk) (hnew2 j hj)) | exact Nat.lt_irrefl _ (Nat.lt_of_lt_of_le (hlt0 _ (List.mem_of_getElem? (i := 2) rfl) j hyk) (hnew2 j hj)) | exact Nat.lt_irrefl _ (Nat.lt_of_lt_of_le (hlt0 _ (List.mem_of_getElem? (i := 3) rfl) j hyk) (hnew2 j hj)) | exact Nat.lt_irrefl _ (Nat.lt_of_lt_of_le (hlt0 _ (List.mem_of_getElem? (i := 4) rfl) j hyk) (hnew2 j hj)))⟩)
 refine H.v 17 (pt b_5 3) fun a H => H.v 18 (pt b_5 4) fun a H => H.st HP 1 b_5 4 1 32 true (.slice A1 sh.length c1) [bx b_7 150 [(pt b_5 0), (pt b_5 1), (pt b_5 2), (pt b_5 3)] true, bx b_5 32 [(ii z0), (ii z1), (ii z2), (ii z3), (.slice A1 sh.length c1), (ii 0), (ii 0), (ii 0), (ii 0), (.slice none 0 0), (.slice none 0 0), (.slice none 0 0), (.slice none 0 0)] true, bx b_3 32 [(ii 0), (ii 0), (ii 0), (ii 0), (.slice none 0 0), (ii 0), (ii 0), (ii 0), (ii 0), (.slice none 0 0), (.slice none 0 0), (.slice none 0 0), (.slice none 0 0)] true, bx b_1 148 [(pt rb 0)] true, bx rb 103 (rC s k2) false] rfl fun w_11 a H HP => ?_
 refine nl (tn (sq (rg ?_)))
 refine H.u 19 (pt rb 0) (ex_l1 (HP.cell 3 rfl 0 rfl)) fun a H => H.v 20 (pt b_5 5) fun a H => H.v 21 (pt b_5 6) fun a H => H.v 22 (pt b_5 7) fun a H => H.v 23 (pt b_5 8) fun a H => H.alloc HP 24 (fun b => (.slice (some ⟨b, 0, none⟩) 4 4)) 150 [(pt b_5 5), (pt b_5 6), (pt b_5 7), (pt b_5 8)] (by kernel_rfl) (fun w => by kernel_rfl) fun b_12 w_13 a H HP => ?_
 refine H.callP 25 (by kernel_rfl) (Eq.trans (by kernel_rfl : _ = (callFunc 99 #[(pt rb 0), (.slice (some ⟨b_12, 0, none⟩) 4 4)]).run Tryz.prog w_13) (Tryz.call99 _ _)) (numbers_any a0 a1 s k2 rb b_5 32 b_12 [(ii z0), (ii z1), (ii z2), (ii z3), (.slice A1 sh.length c1), (ii 0), (ii 0), (ii 0), (ii 0), (.slice none 0 0), (.slice none 0 0), (.slice none 0 0), (.slice none 0 0)] [5, 6, 7, 8] w_13 (HP.fact 1 rfl) (fun j hj => ⟨HP.factNe 1 5 rfl rfl j hj, HP.factNe 1 2 rfl rfl j hj⟩) (HP.at_ 5 rfl) (HP.at_ 2 rfl) (HP.at_ 0 rfl) ((HP.neB 2 5 rfl rfl (by decide)).symm) ⟨HP.neB 0 5 rfl rfl (by decide), HP.neB 0 2 rfl rfl (by decide)⟩ (by simp) (by decide) hl hk2) ?_
 rintro e w_14 ⟨hag, (⟨k3, us2, hE3, hk3, rfl, hb1, hb2, _⟩ | ⟨l, k3, hE3, hk3, hll, rfl, hb1, hb2⟩)⟩
 ·refine .inr ⟨_, rfl, ?_⟩
  intro a H
  have HP := HP.changed2 5 2 rfl rfl (rC s k3) us2 _ rfl (by decide) hag hb1 hb2
  replace hE3 : rdN s 4 k2 = .error 10 := hE3
  refine then_panic ?_
  refine H.endP ?_
  exact ⟨HP.agree _ (by simp [bx, rowsR]), .inl ⟨10, k3, by unfold rdPl; rw [hE1]; simp only; rw [hE2]; simp only; rw [hE3], .inl rfl, rfl, HP.at_ 5 rfl⟩⟩
 refine .inl ⟨_, rfl, ?_⟩
 intro a H
 obtain ⟨y0, y1, y2, y3, rfl⟩ := len4 hll
 replace hE3 : rdN s 4 k2 = .ok ([y0, y1, y2, y3], k3) := hE3
 have HP := HP.changed2 5 2 rfl rfl (rC s k3) [(ii z0), (ii z1), (ii z2), (ii z3), (.slice A1 sh.length c1), (ii y0), (ii y1), (ii y2), (ii y3), (.slice none 0 0), (.slice none 0 0), (.slice none 0 0), (.slice none 0 0)] _ rfl (by decide) hag hb1 hb2
 refine nl (tn (sq (rg ?_)))
 refine H.u 26 (pt rb 0) (ex_l1 (HP.cell 4 rfl 0 rfl)) fun a H => H.v 27 (.func (.func 103) #[] #[(pt b_1 0)]) fun a H => ?_
 have hlt0 := HP.lt
 refine H.callP 28 (by kernel_rfl) (Eq.trans (by kernel_rfl : _ = (callFunc 102 #[(pt rb 0), (ii 4000), (.func (.func 103) #[] #[(pt b_1 0)])]).run Tryz.prog w_14) (Tryz.call102 _ _)) (listI_any a0 a1 s k3 rb b_1 w_14 (HP.fact 1 rfl) (fun j hj => HP.factNe 1 5 rfl rfl j hj) (HP.at_ 5 rfl) (HP.at_ 4 rfl) (HP.neB 4 5 rfl rfl (by decide)) hl hk3) ?_
 rintro e w_15 ⟨hag, (⟨E, k4, hE4, hEE, hk4, rfl, hb1⟩ | ⟨A2, c2, its, k4, hE4, hk4, rfl, hb1, hrow, hnew4, hmost4⟩)⟩
 ·refine .inr ⟨_, rfl, ?_⟩
  intro a H
  have HP := HP.changed1 5 rfl (rC s k4) _ rfl hag hb1
  refine then_panic ?_
  refine H.endP ?_
  exact ⟨HP.agree _ (by simp [bx, rowsR]), .inl ⟨E, k4, by unfold rdPl; rw [hE1]; simp only; rw [hE2]; simp only; rw [hE3]; simp only; rw [hE4], hEE, rfl, HP.at_ 5 rfl⟩⟩
 refine .inl ⟨_, rfl, ?_⟩
 intro a H
 have hsz4 := HP.size
 have HP := HP.changed1 5 rfl (rC s k4) [bx b_12 150 [(pt b_5 5), (pt b_5 6), (pt b_5 7), (pt b_5 8)] true, bx b_7 150 [(pt b_5 0), (pt b_5 1), (pt b_5 2), (pt b_5 3)] true, bx b_5 32 [(ii z0), (ii z1), (ii z2), (ii z3), (.slice A1 sh.length c1), (ii y0), (ii y1), (ii y2), (ii y3), (.slice none 0 0), (.slice none 0 0), (.slice none 0 0), (.slice none 0 0)] true, bx b_3 32 [(ii 0), (ii 0), (ii 0), (ii 0), (.slice none 0 0), (ii 0), (ii 0), (ii 0), (ii 0), (.slice none 0 0), (.slice none 0 0), (.slice none 0 0), (.slice none 0 0)] true, bx b_1 148 [(pt rb 0)] true, bx rb 103 (rC s k4) false] (by kernel_rfl) hag hb1
 have HP := HP.keepF (rowF 5 itC A2 its) hrow (rowF_ok _ _ _ _) (fun j hj => ⟨hrow.lt j hj, fun y hy hyk => by simp only [List.mem_cons, List.not_mem_nil, or_false] at hy; rcases hy with rfl | rfl | rfl | rfl | rfl | rfl <;> (first | exact Nat.lt_irrefl _ (Nat.lt_of_lt_of_le (hlt0 _ (List.mem_of_getElem? (i := 0) rfl) j hyk) (hnew4 j hj)) | exact Nat.lt_irrefl _ (Nat.lt_of_lt_of_le (hlt0 _ (List.mem_of_getElem? (i := 1) rfl) j hyk) (hnew4 j hj)) | exact Nat.lt_irrefl _ (Nat.lt_of_lt_of_le (hlt0 _ (List.mem_of_getElem? (i := 2) rfl) j hyk) (hnew4 j hj)) | exact Nat.lt_irrefl _ (Nat.lt_of_lt_of_le (hlt0 _ (List.mem_of_getElem? (i := 3) rfl) j hyk) (hnew4 j hj)) | exact Nat.lt_irrefl _ (Nat.lt_of_lt_of_le (hlt0 _ (List.mem_of_getElem? (i := 4) rfl) j hyk) (hnew4 j hj)) | exact Nat.lt_irrefl _ (Nat.lt_of_lt_of_le (hlt0 _ (List.mem_of_getElem? (i := 5) rfl) j hyk) (hnew4 j hj)))⟩)
 refine H.v 29 (pt b_5 9) fun a H => H.st HP 2 b_5 9 1 32 true (.slice A2 its.length c2) [bx b_12 150 [(pt b_5 5), (pt b_5 6), (pt b_5 7), (pt b_5 8)] true, bx b_7 150 [(pt b_5 0), (pt b_5 1), (pt b_5 2), (pt b_5 3)] true, bx b_5 32 [(ii z0), (ii z1), (ii z2), (ii z3), (.slice A1 sh.length c1), (ii y0), (ii y1), (ii y2), (ii y3), (.slice A2 its.length c2), (.slice none 0 0), (.slice none 0 0), (.slice none 0 0)] true, bx b_3 32 [(ii 0), (ii 0), (ii 0), (ii 0), (.slice none 0 0), (ii 0), (ii 0), (ii 0), (ii 0), (.slice none 0 0), (.slice none 0 0), (.slice none 0 0), (.slice none 0 0)] true, bx b_1 148 [(pt rb 0)] true, bx rb 103 (rC s k4) false] rfl fun w_16 a H HP => ?_
 refine nl (tn (sq (rg ?_)))
 refine H.u 30 (pt rb 0) (ex_l1 (HP.cell 4 rfl 0 rfl)) fun a H => H.v 31 (.func (.func 105) #[] #[(pt b_1 0)]) fun a H => ?_
 have hlt0 := HP.lt
 refine H.callP 32 (by kernel_rfl) (Eq.trans (by kernel_rfl : _ = (callFunc 104 #[(pt rb 0), (ii 4000), (.func (.func 105) #[] #[(pt b_1 0)])]).run Tryz.prog w_16) (Tryz.call104 _ _)) (listE_any a0 a1 s k4 rb b_1 w_16 (HP.fact 2 rfl) (fun j hj => HP.factNe 2 5 rfl rfl j hj) (HP.at_ 5 rfl) (HP.at_ 4 rfl) (HP.neB 4 5 rfl rfl (by decide)) hl hk4) ?_
 rintro e w_17 ⟨hag, (⟨E, k5, hE5, hEE, hk5, rfl, hb1⟩ | ⟨A3, c3, es, k5, hE5, hk5, rfl, hb1, hrow, hnew5, hmost5⟩)⟩
 ·refine .inr ⟨_, rfl, ?_⟩
  intro a H
  have HP := HP.changed1 5 rfl (rC s k5) _ rfl hag hb1
  refine then_panic ?_
  refine H.endP ?_
  exact ⟨HP.agree _ (by simp [bx, rowsR]), .inl ⟨E, k5, by unfold rdPl; rw [hE1]; simp only; rw [hE2]; simp only; rw [hE3]; simp only; rw [hE4]; simp only; rw [hE5], hEE, rfl, HP.at_ 5 rfl⟩⟩
 refine .inl ⟨_, rfl, ?_⟩
 intro a H
 have hsz5 := HP.size
 have HP := HP.changed1 5 rfl (rC s k5) [bx b_12 150 [(pt b_5 5), (pt b_5 6), (pt b_5 7), (pt b_5 8)] true, bx b_7 150 [(pt b_5 0), (pt b_5 1), (pt b_5 2), (pt b_5 3)] true, bx b_5 32 [(ii z0), (ii z1), (ii z2), (ii z3), (.slice A1 sh.length c1), (ii y0), (ii y1), (ii y2), (ii y3), (.slice A2 its.length c2), (.slice none 0 0), (.slice none 0 0), (.slice none 0 0)] true, bx b_3 32 [(ii 0), (ii 0), (ii 0), (ii 0), (.slice none 0 0), (ii 0), (ii 0), (ii 0), (ii 0), (.slice none 0 0), (.slice none 0 0), (.slice none 0 0), (.slice none 0 0)] true, bx b_1 148 [(pt rb 0)] true, bx rb 103 (rC s k5) false] (by kernel_rfl) hag hb1
 have HP := HP.keepF (enF A3 es) hrow (enF_ok _ _) (fun j hj => ⟨hrow.lt j hj, fun y hy hyk => by simp only [List.mem_cons, List.not_mem_nil, or_false] at hy; rcases hy with rfl | rfl | rfl | rfl | rfl | rfl <;> (first | exact Nat.lt_irrefl _ (Nat.lt_of_lt_of_le (hlt0 _ (List.mem_of_getElem? (i := 0) rfl) j hyk) (hnew5 j hj)) | exact Nat.lt_irrefl _ (Nat.lt_of_lt_of_le (hlt0 _ (List.mem_of_getElem? (i := 1) rfl) j hyk) (hnew5 j hj)) | exact Nat.lt_irrefl _ (Nat.lt_of_lt_of_le (hlt0 _ (List.mem_of_getElem? (i := 2) rfl) j hyk) (hnew5 j hj)) | exact Nat.lt_irrefl _ (Nat.lt_of_lt_of_le (hlt0 _ (List.mem_of_getElem? (i := 3) rfl) j hyk) (hnew5 j hj)) | exact Nat.lt_irrefl _ (Nat.lt_of_lt_of_le (hlt0 _ (List.mem_of_getElem? (i := 4) rfl) j hyk) (hnew5 j hj)) | exact Nat.lt_irrefl _ (Nat.lt_of_lt_of_le (hlt0 _ (List.mem_of_getElem? (i := 5) rfl) j hyk) (hnew5 j hj)))⟩)
 refine H.v 33 (pt b_5 10) fun a H => H.st HP 2 b_5 10 1 32 true (.slice A3 es.length c3) [bx b_12 150 [(pt b_5 5), (pt b_5 6), (pt b_5 7), (pt b_5 8)] true, bx b_7 150 [(pt b_5 0), (pt b_5 1), (pt b_5 2), (pt b_5 3)] true, bx b_5 32 [(ii z0), (ii z1), (ii z2), (ii z3), (.slice A1 sh.length c1), (ii y0), (ii y1), (ii y2), (ii y3), (.slice A2 its.length c2), (.slice A3 es.length c3), (.slice none 0 0), (.slice none 0 0)] true, bx b_3 32 [(ii 0), (ii 0), (ii 0), (ii 0), (.slice none 0 0), (ii 0), (ii 0), (ii 0), (ii 0), (.slice none 0 0), (.slice none 0 0), (.slice none 0 0), (.slice none 0 0)] true, bx b_1 148 [(pt rb 0)] true, bx rb 103 (rC s k5) false] rfl fun w_18 a H HP => ?_
 refine nl (tn (sq (rg ?_)))
 refine H.u 34 (pt rb 0) (ex_l1 (HP.cell 4 rfl 0 rfl)) fun a H => H.v 35 (.func (.func 109) #[] #[(pt b_1 0)]) fun a H => ?_
 have hlt0 := HP.lt
 refine H.callP 36 (by kernel_rfl) (Eq.trans (by kernel_rfl : _ = (callFunc 108 #[(pt rb 0), (ii 2000), (.func (.func 109) #[] #[(pt b_1 0)])]).run Tryz.prog w_18) (Tryz.call108 _ _)) (listB_any a0 a1 s k5 rb b_1 w_18 (HP.fact 3 rfl) (fun j hj => HP.factNe 3 5 rfl rfl j hj) (HP.at_ 5 rfl) (HP.at_ 4 rfl) (HP.neB 4 5 rfl rfl (by decide)) hl hk5) ?_
 rintro e w_19 ⟨hag, (⟨E, k6, hE6, hEE, hk6, rfl, hb1⟩ | ⟨A4, c4, bs, k6, hE6, hk6, rfl, hb1, hrow, hnew6, hmost6⟩)⟩
 ·refine .inr ⟨_, rfl, ?_⟩
  intro a H
  have HP := HP.changed1 5 rfl (rC s k6) _ rfl hag hb1
  refine then_panic ?_
  refine H.endP ?_
  exact ⟨HP.agree _ (by simp [bx, rowsR]), .inl ⟨E, k6, by unfold rdPl; rw [hE1]; simp only; rw [hE2]; simp only; rw [hE3]; simp only; rw [hE4]; simp only; rw [hE5]; simp only; rw [hE6], hEE, rfl, HP.at_ 5 rfl⟩⟩
 refine .inl ⟨_, rfl, ?_⟩
 intro a H
 have hsz6 := HP.size
 have HP := HP.changed1 5 rfl (rC s k6) [bx b_12 150 [(pt b_5 5), (pt b_5 6), (pt b_5 7), (pt b_5 8)] true, bx b_7 150 [(pt b_5 0), (pt b_5 1), (pt b_5 2), (pt b_5 3)] true, bx b_5 32 [(ii z0), (ii z1), (ii z2), (ii z3), (.slice A1 sh.length c1), (ii y0), (ii y1), (ii y2), (ii y3), (.slice A2 its.length c2), (.slice A3 es.length c3), (.slice none 0 0), (.slice none 0 0)] true, bx b_3 32 [(ii 0), (ii 0), (ii 0), (ii 0), (.slice none 0 0), (ii 0), (ii 0), (ii 0), (ii 0), (.slice none 0 0), (.slice none 0 0), (.slice none 0 0), (.slice none 0 0)] true, bx b_1 148 [(pt rb 0)] true, bx rb 103 (rC s k6) false] (by kernel_rfl) hag hb1
 have HP := HP.keepF (rowF 7 bkC A4 bs) hrow (rowF_ok _ _ _ _) (fun j hj => ⟨hrow.lt j hj, fun y hy hyk => by simp only [List.mem_cons, List.not_mem_nil, or_false] at hy; rcases hy with rfl | rfl | rfl | rfl | rfl | rfl <;> (first | exact Nat.lt_irrefl _ (Nat.lt_of_lt_of_le (hlt0 _ (List.mem_of_getElem? (i := 0) rfl) j hyk) (hnew6 j hj)) | exact Nat.lt_irrefl _ (Nat.lt_of_lt_of_le (hlt0 _ (List.mem_of_getElem? (i := 1) rfl) j hyk) (hnew6 j hj)) | exact Nat.lt_irrefl _ (Nat.lt_of_lt_of_le (hlt0 _ (List.mem_of_getElem? (i := 2) rfl) j hyk) (hnew6 j hj)) | exact Nat.lt_irrefl _ (Nat.lt_of_lt_of_le (hlt0 _ (List.mem_of_getElem? (i := 3) rfl) j hyk) (hnew6 j hj)) | exact Nat.lt_irrefl _ (Nat.lt_of_lt_of_le (hlt0 _ (List.mem_of_getElem? (i := 4) rfl) j hyk) (hnew6 j hj)) | exact Nat.lt_irrefl _ (Nat.lt_of_lt_of_le (hlt0 _ (List.mem_of_getElem? (i := 5) rfl) j hyk) (hnew6 j hj)))⟩)
 refine H.v 37 (pt b_5 11) fun a H => H.st HP 2 b_5 11 1 32 true (.slice A4 bs.length c4) [bx b_12 150 [(pt b_5 5), (pt b_5 6), (pt b_5 7), (pt b_5 8)] true, bx b_7 150 [(pt b_5 0), (pt b_5 1), (pt b_5 2), (pt b_5 3)] true, bx b_5 32 [(ii z0), (ii z1), (ii z2), (ii z3), (.slice A1 sh.length c1), (ii y0), (ii y1), (ii y2), (ii y3), (.slice A2 its.length c2), (.slice A3 es.length c3), (.slice A4 bs.length c4), (.slice none 0 0)] true, bx b_3 32 [(ii 0), (ii 0), (ii 0), (ii 0), (.slice none 0 0), (ii 0), (ii 0), (ii 0), (ii 0), (.slice none 0 0), (.slice none 0 0), (.slice none 0 0), (.slice none 0 0)] true, bx b_1 148 [(pt rb 0)] true, bx rb 103 (rC s k6) false] rfl fun w_20 a H HP => ?_
 refine nl (tn (sq (rg ?_)))
 refine H.u 38 (pt rb 0) (ex_l1 (HP.cell 4 rfl 0 rfl)) fun a H => H.v 39 (.func (.func 111) #[] #[(pt b_1 0)]) fun a H => ?_
 have hlt0 := HP.lt
 refine H.callP 40 (by kernel_rfl) (Eq.trans (by kernel_rfl : _ = (callFunc 110 #[(pt rb 0), (ii 400), (.func (.func 111) #[] #[(pt b_1 0)])]).run Tryz.prog w_20) (Tryz.call110 _ _)) (listC_any a0 a1 s k6 rb b_1 w_20 (HP.fact 4 rfl) (fun j hj => HP.factNe 4 5 rfl rfl j hj) (HP.at_ 5 rfl) (HP.at_ 4 rfl) (HP.neB 4 5 rfl rfl (by decide)) hl hk6) ?_
 rintro e w_21 ⟨hag, (⟨E, k7, hE7, hEE, hk7, rfl, hb1⟩ | ⟨A5, c5, cs, k7, hE7, hk7, rfl, hb1, hrow, hnew7, hmost7⟩)⟩
 ·refine .inr ⟨_, rfl, ?_⟩
  intro a H
  have HP := HP.changed1 5 rfl (rC s k7) _ rfl hag hb1
  refine then_panic ?_
  refine H.endP ?_
  exact ⟨HP.agree _ (by simp [bx, rowsR]), .inl ⟨E, k7, by unfold rdPl; rw [hE1]; simp only; rw [hE2]; simp only; rw [hE3]; simp only; rw [hE4]; simp only; rw [hE5]; simp only; rw [hE6]; simp only; rw [hE7], hEE, rfl, HP.at_ 5 rfl⟩⟩
 refine .inl ⟨_, rfl, ?_⟩
 intro a H
 have hsz7 := HP.size
 have HP := HP.changed1 5 rfl (rC s k7) [bx b_12 150 [(pt b_5 5), (pt b_5 6), (pt b_5 7), (pt b_5 8)] true, bx b_7 150 [(pt b_5 0), (pt b_5 1), (pt b_5 2), (pt b_5 3)] true, bx b_5 32 [(ii z0), (ii z1), (ii z2), (ii z3), (.slice A1 sh.length c1), (ii y0), (ii y1), (ii y2), (ii y3), (.slice A2 its.length c2), (.slice A3 es.length c3), (.slice A4 bs.length c4), (.slice none 0 0)] true, bx b_3 32 [(ii 0), (ii 0), (ii 0), (ii 0), (.slice none 0 0), (ii 0), (ii 0), (ii 0), (ii 0), (.slice none 0 0), (.slice none 0 0), (.slice none 0 0), (.slice none 0 0)] true, bx b_1 148 [(pt rb 0)] true, bx rb 103 (rC s k7) false] (by kernel_rfl) hag hb1
 have HP := HP.keepF (rowF 8 clC A5 cs) hrow (rowF_ok _ _ _ _) (fun j hj => ⟨hrow.lt j hj, fun y hy hyk => by simp only [List.mem_cons, List.not_mem_nil, or_false] at hy; rcases hy with rfl | rfl | rfl | rfl | rfl | rfl <;> (first | exact Nat.lt_irrefl _ (Nat.lt_of_lt_of_le (hlt0 _ (List.mem_of_getElem? (i := 0) rfl) j hyk) (hnew7 j hj)) | exact Nat.lt_irrefl _ (Nat.lt_of_lt_of_le (hlt0 _ (List.mem_of_getElem? (i := 1) rfl) j hyk) (hnew7 j hj)) | exact Nat.lt_irrefl _ (Nat.lt_of_lt_of_le (hlt0 _ (List.mem_of_getElem? (i := 2) rfl) j hyk) (hnew7 j hj)) | exact Nat.lt_irrefl _ (Nat.lt_of_lt_of_le (hlt0 _ (List.mem_of_getElem? (i := 3) rfl) j hyk) (hnew7 j hj)) | exact Nat.lt_irrefl _ (Nat.lt_of_lt_of_le (hlt0 _ (List.mem_of_getElem? (i := 4) rfl) j hyk) (hnew7 j hj)) | exact Nat.lt_irrefl _ (Nat.lt_of_lt_of_le (hlt0 _ (List.mem_of_getElem? (i := 5) rfl) j hyk) (hnew7 j hj)))⟩)
 refine H.v 41 (pt b_5 12) fun a H => H.st HP 2 b_5 12 1 32 true (.slice A5 cs.length c5) [bx b_12 150 [(pt b_5 5), (pt b_5 6), (pt b_5 7), (pt b_5 8)] true, bx b_7 150 [(pt b_5 0), (pt b_5 1), (pt b_5 2), (pt b_5 3)] true, bx b_5 32 [(ii z0), (ii z1), (ii z2), (ii z3), (.slice A1 sh.length c1), (ii y0), (ii y1), (ii y2), (ii y3), (.slice A2 its.length c2), (.slice A3 es.length c3), (.slice A4 bs.length c4), (.slice A5 cs.length c5)] true, bx b_3 32 [(ii 0), (ii 0), (ii 0), (ii 0), (.slice none 0 0), (ii 0), (ii 0), (ii 0), (ii 0), (.slice none 0 0), (.slice none 0 0), (.slice none 0 0), (.slice none 0 0)] true, bx b_1 148 [(pt rb 0)] true, bx rb 103 (rC s k7) false] rfl fun w_22 a H HP => ?_
 refine nl (tn (sq (rg ?_)))
 refine H.u 42 (.agg #[(ii z0), (ii z1), (ii z2), (ii z3), (.slice A1 sh.length c1), (ii y0), (ii y1), (ii y2), (ii y3), (.slice A2 its.length c2), (.slice A3 es.length c3), (.slice A4 bs.length c4), (.slice A5 cs.length c5)]) (ex_lN [(ii z0), (ii z1), (ii z2), (ii z3), (.slice A1 sh.length c1), (ii y0), (ii y1), (ii y2), (ii y3), (.slice A2 its.length c2), (.slice A3 es.length c3), (.slice A4 bs.length c4), (.slice A5 cs.length c5)] (HP.cells 2 rfl 0 13 (by kernel_rfl))) fun a H => H.st HP 3 b_3 0 13 32 true (.agg #[(ii z0), (ii z1), (ii z2), (ii z3), (.slice A1 sh.length c1), (ii y0), (ii y1), (ii y2), (ii y3), (.slice A2 its.length c2), (.slice A3 es.length c3), (.slice A4 bs.length c4), (.slice A5 cs.length c5)]) [bx b_12 150 [(pt b_5 5), (pt b_5 6), (pt b_5 7), (pt b_5 8)] true, bx b_7 150 [(pt b_5 0), (pt b_5 1), (pt b_5 2), (pt b_5 3)] true, bx b_5 32 [(ii z0), (ii z1), (ii z2), (ii z3), (.slice A1 sh.length c1), (ii y0), (ii y1), (ii y2), (ii y3), (.slice A2 its.length c2), (.slice A3 es.length c3), (.slice A4 bs.length c4), (.slice A5 cs.length c5)] true, bx b_3 32 [(ii z0), (ii z1), (ii z2), (ii z3), (.slice A1 sh.length c1), (ii y0), (ii y1), (ii y2), (ii y3), (.slice A2 its.length c2), (.slice A3 es.length c3), (.slice A4 bs.length c4), (.slice A5 cs.length c5)] true, bx b_1 148 [(pt rb 0)] true, bx rb 103 (rC s k7) false] rfl fun w_23 a H HP => ?_
 refine nl (tn (rt ?_))
 refine H.ret1 (fn := Tryz.f61) Tryz.results61 (RV.cellN (vs := [(ii z0), (ii z1), (ii z2), (ii z3), (.slice A1 sh.length c1), (ii y0), (ii y1), (ii y2), (ii y3), (.slice A2 its.length c2), (.slice A3 es.length c3), (.slice A4 bs.length c4), (.slice A5 cs.length c5)]) (b := b_3) (off := 0) (k := 13) (by kernel_rfl) (by kernel_rfl) (by kernel_rfl) rfl (HP.cells 3 rfl 0 13 (by kernel_rfl))) ?_
 refine ⟨HP.agree _ (by simp [bx, rowsR]), .inr ⟨(⟨z0, z1, z2, z3, A1, c1, sh, y0, y1, y2, y3, A2, c2, its, A3, c3, es, A4, c4, bs, A5, c5, cs⟩ : Pln), k7, by unfold rdPl; rw [hE1]; simp only; rw [hE2]; simp only; rw [hE3]; simp only; rw [hE4]; simp only; rw [hE5]; simp only; rw [hE6]; simp only; rw [hE7]; rfl, hk7, rfl, HP.at_ 5 rfl, ⟨HP.fact 4 rfl, HP.fact 3 rfl, HP.fact 2 rfl, HP.fact 1 rfl, HP.fact 0 rfl, ?_, ?_, ?_, ?_, ?_⟩, ?_⟩⟩
 ·show List.length sh ≤ maxLen; unfold maxLen; omega
 ·show List.length its ≤ maxLen; unfold maxLen; omega
 ·show List.length es ≤ maxLen; unfold maxLen; omega
 ·show List.length bs ≤ maxLen; unfold maxLen; omega
 ·show List.length cs ≤ maxLen; unfold maxLen; omega
 rintro j (hj | hj | hj | hj | hj)
 ·exact Nat.le_trans hsz2 (hnew2 j hj)
 ·exact Nat.le_trans hsz4 (hnew4 j hj)
 ·exact Nat.le_trans hsz5 (hnew5 j hj)
 ·exact Nat.le_trans hsz6 (hnew6 j hj)
 exact Nat.le_trans hsz7 (hnew7 j hj)
open Go.Extern.Stop Go.Stop Go.Extern
theorem isTypeOf (v : Value) (w : World) : (Extern.ReflectliteType.typeOf #[.iface 212 v]).run Tryz.prog w = .ok (.iface 188 (.agg #[.pointer (some ⟨3, 212, none⟩)])) w := by kernel_rfl
noncomputable def cmpF : Array Value → Sem Value := (Extern.find Tryz.f157).getD fun _ => pure .nilIface
theorem cmpF_is : Extern.find Tryz.f157 = some cmpF := by kernel_rfl
theorem isComparable (w : World) : (cmpF #[.agg #[.pointer (some ⟨3, 212, none⟩)]]).run Tryz.prog w = .ok (.bool true) w := by kernel_rfl
theorem isMethodComparable (v : Value) (w : World) : (Go.method 347 188 v "Comparable").run Tryz.prog w = .ok (157, v) w := by kernel_rfl
theorem isComp : (Tryz.prog.info? 212).map (·.comparable) = some true := by kernel_rfl
theorem isSize : (Tryz.prog.info? 236).map (·.size) = some 1 := by kernel_rfl
theorem noIsE (v : Value) (xT : TypeId) (w : World) : (Instr.typeAssert (.iface 212 v) xT 190 true).run Tryz.prog w = .ok (.tuple #[.nilIface, .bool false]) w := run_typeAssert_lacksB Tryz.underlying190 (by kernel_rfl) (by kernel_rfl) v xT w
theorem noUnwrapE (v : Value) (xT : TypeId) (w : World) : (Instr.typeAssert (.iface 212 v) xT 193 true).run Tryz.prog w = .ok (.tuple #[.nilIface, .bool false]) w := run_typeAssert_lacksB Tryz.underlying193 (by kernel_rfl) (by kernel_rfl) v xT w
theorem noUnwrapsE (v : Value) (xT : TypeId) (w : World) : (Instr.typeAssert (.iface 212 v) xT 195 true).run Tryz.prog w = .ok (.tuple #[.nilIface, .bool false]) w := run_typeAssert_lacksB Tryz.underlying195 (by kernel_rfl) (by kernel_rfl) v xT w
theorem isErrorE (v : Value) (xT : TypeId) (w : World) : (Instr.typeAssert (.iface 212 v) xT 99 true).run Tryz.prog w = .ok (.tuple #[.iface 212 v, .bool true]) w := run_typeAssert_hasB Tryz.underlying99 (by kernel_rfl) v xT w
set_option maxRecDepth 100000 in
set_option maxHeartbeats 2000000 in
theorem is_same (a : Addr) (w : World) :
    Calls Tryz.prog 60 #[.iface 212 (.pointer (some a)), .iface 212 (.pointer (some a))] w fun e w' => e = .returned (.bool true) ∧ w' = w := by
  obtain ⟨i, hi, hcmp⟩ := Option.map_eq_some_iff.1 isComp
  obtain ⟨j, hj, hjs⟩ := Option.map_eq_some_iff.1 isSize
  have h8 := @run_callFunc_extern Tryz.prog 97 _ Extern.ReflectliteType.typeOf Tryz.func97 (by kernel_rfl) (by kernel_rfl) (by kernel_rfl) (by kernel_rfl)
  have h32 := @run_callFunc_extern Tryz.prog 157 _ cmpF Tryz.func157 (by kernel_rfl) (by kernel_rfl) (by kernel_rfl) cmpF_is
  have tT := isTypeOf
  have cT := isComparable
  have mR := isMethodComparable
  have heq := run_eql_iface_ptr_same (P := Tryz.prog) w a Tryz.underlying99 Tryz.underlying212 hi hcmp hj
  go_enter Tryz.func60, Tryz.ntmps60
  go_wp2
  refine wp_loop_rounds 1 ?_
  rw [rounds_succ]
  go_wp2
  go_ret
  exact ⟨rfl, rfl⟩
set_option maxRecDepth 100000 in
set_option maxHeartbeats 2000000 in
theorem is_other (a b : Addr) (ca cb : Array Value) (ta tb : TypeId) (w : World) (hne : a ≠ b) (ha : w.heap[a.block]? = some (.cells ca ta (0, 0))) (hb : w.heap[b.block]? = some (.cells cb tb (0, 0))) :
    Calls Tryz.prog 60 #[.iface 212 (.pointer (some a)), .iface 212 (.pointer (some b))] w fun e w' => e = .returned (.bool false) ∧ w' = w := by
  obtain ⟨i, hi, hcmp⟩ := Option.map_eq_some_iff.1 isComp
  obtain ⟨j, hj, hjs⟩ := Option.map_eq_some_iff.1 isSize
  have h8 := @run_callFunc_extern Tryz.prog 97 _ Extern.ReflectliteType.typeOf Tryz.func97 (by kernel_rfl) (by kernel_rfl) (by kernel_rfl) (by kernel_rfl)
  have h32 := @run_callFunc_extern Tryz.prog 157 _ cmpF Tryz.func157 (by kernel_rfl) (by kernel_rfl) (by kernel_rfl) cmpF_is
  have tT := isTypeOf
  have cT := isComparable
  have mR := isMethodComparable
  have nE := noIsE
  have uE := noUnwrapE
  have vE := noUnwrapsE
  have heq := run_eql_iface_ptr_other (P := Tryz.prog) w Tryz.underlying99 Tryz.underlying212 hi hcmp hj (by rw [hjs]; decide) hne ha hb
  go_enter Tryz.func60, Tryz.ntmps60
  go_wp2
  refine wp_loop_rounds 1 ?_
  rw [rounds_succ]
  go_wp2
  go_ret
  exact ⟨rfl, rfl⟩
structure SlD (ds : List Deferred) (n : Nat) (L : List (Nat × Value)) (a : Act) : Prop where
  defers : a.defers = ds
  size : a.tmps.size = n
  get : ∀ k v, look k L = some v → a.tmps.getD k undef = v
theorem SlD.put {ds : List Deferred} {n d : Nat} {L : List (Nat × Value)} {a : Act} (H : SlD ds n L a) (v : Value) (hd : Nat.blt d n = true) : SlD ds n ((d, v) :: L) (a.put (some d) v) := by
  have hd' : d < n := by simp [Nat.blt] at hd; omega
  refine ⟨H.defers, by simp [Act.put, H.size], fun k u hk => ?_⟩
  rw [look_cons] at hk
  by_cases h : d = k
  · subst h
    simp only [if_true, Option.some.injEq] at hk
    subst hk
    simp [Act.put, H.size, hd']
  · rw [if_neg h] at hk
    have := H.get k u hk
    simp only [Act.put]
    rw [Array.getD_eq_getD_getElem?] at this ⊢
    rw [Array.getElem?_setIfInBounds_ne h]
    exact this
theorem SlD.eval {ds : List Deferred} {n : Nat} {L : List (Nat × Value)} {a : Act} (H : SlD ds n L a) {x : Operand} (h : knows L x = true) : a.eval x = ev L x := by
  cases x with
  | tmp t =>
    simp only [knows] at h
    cases hl : look t L with
    | none => rw [hl] at h; cases h
    | some v => simp only [Act.eval, ev, hl, Option.getD_some]; exact H.get t v hl
  | _ => rfl
theorem SlD.exec {ds : List Deferred} {n : Nat} {L : List (Nat × Value)} {a : Act} (H : SlD ds n L a) {o : Oper} (hk : knowsAll L o.op.operands.toList = true) (hs : notSelect o.op = true) : execOp a.eval o = execOp (ev L) o :=
  execOp_congr o (fun cs b e => by rw [e] at hs; cases hs) fun x hx => H.eval (knowsAll_spec hk x (by simpa using hx))
theorem SlD.keep {ds : List Deferred} {n : Nat} {L L' : List (Nat × Value)} {a : Act} (H : SlD ds n L a) (h : (L'.map fun p => look p.1 L) = L'.map fun p => some p.2) : SlD ds n L' a := ⟨H.defers, H.size, fun k v hk => H.get k v (keeps_spec h k v hk)⟩
theorem SlD.wanted {ds : List Deferred} {n : Nat} {L : List (Nat × Value)} {a : Act} (H : SlD ds n L a) {ops : Array Oper} {o : Oper} {b : Bool} (h : wantedL ops L o = some b) : Region.wanted o (yielded ops a.tmps) = b := by
  unfold wantedL at h
  unfold Region.wanted
  cases hg : o.guard with
  | none => rw [hg] at h; simpa using h
  | some jw =>
    obtain ⟨j, want⟩ := jw
    rw [hg] at h
    simp only at h ⊢
    unfold yielded
    cases hd : (ops[j]?).bind (·.dst) with
    | none => rw [hd] at h; cases h
    | some d =>
      rw [hd] at h
      simp only at h
      cases hl : look d L with
      | none => rw [hl] at h; cases h
      | some v =>
        rw [hl] at h
        have hv := H.get d v hl
        have hv' : a.tmps[d]? = some v ∨ (a.tmps[d]? = none ∧ v = undef) := by
          rw [Array.getD_eq_getD_getElem?] at hv
          cases hh : a.tmps[d]? with
          | none => rw [hh] at hv; exact .inr ⟨rfl, hv.symm⟩
          | some u => rw [hh] at hv; exact .inl (by simpa using hv)
        cases v with
        | bool c =>
          rcases hv' with hv' | ⟨_, hv'⟩
          · simp [hv'] at h ⊢; exact h
          · cases hv'
        | _ =>
          simp only [Option.some.injEq] at h
          subst h
          rcases hv' with hv' | ⟨hv', _⟩ <;> simp [hv']
theorem SlD.as {ds : List Deferred} {n : Nat} {L : List (Nat × Value)} {a : Act} {u : Value} (H : SlD ds n L a) (d : Nat) (v : Value) (hl : look d L = some u) (hv : u = v) : SlD ds n ((d, v) :: L) a :=
  ⟨H.defers, H.size, fun k x hk => by
    rw [look_cons] at hk
    by_cases h : d = k
    · subst h; rw [if_pos rfl] at hk; cases hk; rw [← hv]; exact H.get _ _ hl
    · rw [if_neg h] at hk; exact H.get k x hk⟩
section
variable {P : Program} {ops : Array Oper} {Q : Exit → Act → World → Prop} {a : Act} {w w' : World} {rest : List Oper} {o : Oper} {n i : Nat} {L : List (Nat × Value)} {ds : List Deferred} {KK : Act → World → Prop}
theorem SlD.valW (H : SlD ds n L a) (d : Nat) (v : Value) (hc : chk ops n L o d = true)
    (hx : (execOp (ev L) o).run P w = .ok (.value v) w') (k : ∀ a', SlD ds n ((d, v) :: L) a' → wpList P ops Q rest a' w') : wpList P ops Q (o :: rest) a w := by
  obtain ⟨hd, hn, hk, hs, hw⟩ := chk_spec hc
  refine wpList_wanted (H.wanted hw) ?_
  unfold Oper.wp
  rw [H.exec hk hs, hx, Oper.upon_value, hd]
  exact k _ (H.put v hn)
theorem SlD.val (H : SlD ds n L a) (d : Nat) (v : Value) (hc : chk ops n L o d = true)
    (hx : (execOp (ev L) o).run P w = .ok (.value v) w) (k : ∀ a', SlD ds n ((d, v) :: L) a' → wpList P ops Q rest a' w) : wpList P ops Q (o :: rest) a w := H.valW d v hc hx k
theorem SlD.valE (H : SlD ds n L a) (d : Nat) (u v : Value) (hc : chk ops n L o d = true)
    (hx : (execOp (ev L) o).run P w = .ok (.value u) w) (hv : u = v) (k : ∀ a', SlD ds n ((d, v) :: L) a' → wpList P ops Q rest a' w) : wpList P ops Q (o :: rest) a w := by
  subst hv; exact H.val d u hc hx k
theorem SlD.alloc {w0 : World} {LH : List HB} {K : List FK} (H : SlD ds n L a) (HP : Hp w0 w LH K) (d : Nat) (V : Nat → Value) (t : TypeId) (vs : List Value) (hc : chk ops n L o d = true)
    (hx : ∀ w, (execOp (ev L) o).run P w = .ok (.value (V w.heap.size)) (w.alloc (.cells vs.toArray t)))
    (k : ∀ b w' a', SlD ds n ((d, V b) :: L) a' → Hp w0 w' (bx b t vs true :: LH) K → wpList P ops Q rest a' w') : wpList P ops Q (o :: rest) a w :=
  H.valW d _ hc (hx w) fun a' H' => k _ _ a' H' (HP.alloc t vs)
theorem SlD.store {w0 : World} {LH : List HB} {K : List FK} {t : TypeId} {x y : Operand} {ty : TypeId} {pos : String} {af : Array Edge} {g : Option (Nat × Bool)} (H : SlD ds n L a) (HP : Hp w0 w LH K) (i b off k : Nat) (tb : TypeId) (us : List Value) (f : Bool) (v : Value) (LH' : List HB)
    (hc : chk0 ops L ⟨none, .store t x y, ty, pos, af, g⟩ = true) (hx : ev L x = .pointer (some ⟨b, off, none⟩)) (hy : ev L y = v) (hi : LH[i]? = some (bx b tb us f)) (hs : sizeB P t = some k) (hv : v.cells.size = k) (h1 : oneCells v.cells.toList = true) (hl : Nat.ble (off + v.cells.toList.length) us.length = true)
    (hL : LH.set i (bx b tb (setAll us off v.cells.toList) f) = LH')
    (kk : ∀ w' a', SlD ds n L a' → Hp w0 w' LH' K → wpList P ops Q rest a' w') : wpList P ops Q (⟨none, .store t x y, ty, pos, af, g⟩ :: rest) a w := by
  obtain ⟨hd, hk, hs', hw⟩ := chk0_spec hc
  refine wpList_wanted (H.wanted hw) ?_
  obtain ⟨w', hr, hw'⟩ := run_storeCells (P := P) (off := off) v.cells.toList us 0 w LH K HP hi h1 (by simpa [Nat.ble_eq] using hl)
  unfold Oper.wp
  rw [H.exec hk hs']
  simp only [execOp, hx, hy, Instr.storeAt, Instr.sureAddr, storeVar, Sem.run_bind, Sem.run_pure, Result.andThen_ok, run_sizeOf hs, hv]
  simp only [ne_eq, not_true_eq_false, if_false, hr, Result.andThen_ok, Oper.upon_skip]
  exact kk w' _ H (hL ▸ hw')
theorem SlD.call (H : SlD ds n L a) (d : Nat) {f : FuncId} {args : Array Value} {R : Ending → World → Prop} (hc : chk ops n L o d = true)
    (hx : (execOp (ev L) o).run P w = .ok (.enter f args) w') (hC : Calls P f args w' R) (k : ∀ e w'', R e w'' → ∃ v, e = .returned v ∧ ∀ a', SlD ds n ((d, v) :: L) a' → wpList P ops Q rest a' w'') : wpList P ops Q (o :: rest) a w := by
  obtain ⟨hd, hn, hk, hs, hw⟩ := chk_spec hc
  refine wpList_wanted (H.wanted hw) ?_
  unfold Oper.wp
  rw [H.exec hk hs, hx, Oper.upon_enter]
  refine hC.mono fun e w'' he => ?_
  obtain ⟨v, rfl, hv⟩ := k e w'' he
  rw [hd]
  exact hv _ (H.put v hn)
theorem wp_callPD (H : SlD ds n L a) (d : Nat) {f : FuncId} {args : Array Value} {R : Ending → World → Prop} (hc : chk ops n L o d = true)
    (hx : (execOp (ev L) o).run P w = .ok (.enter f args) w') (hC : Calls P f args w' R) (k : ∀ e w'', R e w'' → (∃ v, e = .returned v ∧ ∀ a', SlD ds n ((d, v) :: L) a' → KK a' w'') ∨ ∃ c, e = .panicked c ∧ ∀ a', SlD ds n L a' → Q (.panic c) a' w'') : o.wp P a w KK Q := by
  obtain ⟨hd, hn, hk, hs, hw⟩ := chk_spec hc
  unfold Oper.wp
  rw [H.exec hk hs, hx, Oper.upon_enter]
  refine hC.mono fun e w'' he => ?_
  rcases k e w'' he with ⟨v, rfl, hv⟩ | ⟨c, rfl, hv⟩
  · rw [hd]
    exact hv _ (H.put v hn)
  · exact hv _ H
theorem SlD.callP (H : SlD ds n L a) (d : Nat) {f : FuncId} {args : Array Value} {R : Ending → World → Prop} (hc : chk ops n L o d = true)
    (hx : (execOp (ev L) o).run P w = .ok (.enter f args) w') (hC : Calls P f args w' R) (k : ∀ e w'', R e w'' → (∃ v, e = .returned v ∧ ∀ a', SlD ds n ((d, v) :: L) a' → wpList P ops Q rest a' w'') ∨ ∃ c, e = .panicked c ∧ ∀ a', SlD ds n L a' → Q (.panic c) a' w'') : wpList P ops Q (o :: rest) a w :=
  wpList_wanted (H.wanted (chk_spec hc).2.2.2.2) (wp_callPD H d hc hx hC k)
theorem SlD.panic0 (H : SlD ds n L a) {v : Value} (hc : chk0 ops L o = true) (hx : (execOp (ev L) o).run P w = .halt (.panic v) w') (k : Q (.panic [{ v := v, recovered := false }]) a w') : wpList P ops Q (o :: rest) a w := by
  obtain ⟨hd, hk, hs, hw⟩ := chk0_spec hc
  refine wpList_wanted (H.wanted hw) ?_
  unfold Oper.wp
  rw [H.exec hk hs, hx, Oper.upon_panic]
  exact k
theorem SlD.v (H : SlD ds n L a) (d : Nat) (v : Value) (k : ∀ a', SlD ds n ((d, v) :: L) a' → wpList P ops Q rest a' w) (hc : chk ops n L o d = true := by kernel_rfl) (hx : (execOp (ev L) o).run P w = .ok (.value v) w := by kernel_rfl) : wpList P ops Q (o :: rest) a w := H.val d v hc hx k
theorem SlD.u (H : SlD ds n L a) (d : Nat) (v : Value) (hx : (execOp (ev L) o).run P w = .ok (.value v) w) (k : ∀ a', SlD ds n ((d, v) :: L) a' → wpList P ops Q rest a' w) (hc : chk ops n L o d = true := by kernel_rfl) : wpList P ops Q (o :: rest) a w := H.val d v hc hx k
theorem SlD.defer (H : SlD ds n L a) {d : Deferred} (hc : chk0 ops L o = true) (hx : (execOp (ev L) o).run P w = .ok (.defer d) w) (k : ∀ a', SlD (d :: ds) n L a' → wpList P ops Q rest a' w) : wpList P ops Q (o :: rest) a w := by
  obtain ⟨hd, hk, hs, hw⟩ := chk0_spec hc
  refine wpList_wanted (H.wanted hw) ?_
  unfold Oper.wp
  rw [H.exec hk hs, hx, Oper.upon_defer, hd]
  exact k _ ⟨by simp [Act.put, H.defers], H.size, H.get⟩
end
section
variable {P : Program} {Q : Exit → Act → World → Prop} {a : Act} {w : World} {n : Nat} {L : List (Nat × Value)} {ds : List Deferred}
theorem w_ifD {x y : Code} {t : Nat} {e : Bool} (H : SlD ds n L a) (hl : look t L = some (.bool e)) (ht : e = true → x.wp P Q a w) (hf : e = false → y.wp P Q a w) : (Code.cond (.tmp t) x y).wp P Q a w :=
  wp_cond_split (t := e) (by simp only [Act.eval]; exact H.get t _ hl) ht hf
end
theorem Sl.toD {n : Nat} {L : List (Nat × Value)} {a : Act} (H : Sl n L a) : SlD [] n L a := ⟨H.defers, H.size, H.get⟩
theorem w_enterD {P : Program} {f : FuncId} {fn : Func} {c : Code} {args : List Value} {w : World} {R : Ending → World → Prop} (n : Nat) (L : List (Nat × Value)) (hf : P.funcs[f]? = some fn) (hb : fn.body = some c) (hn : fn.ntmps = n)
    (hle : Nat.ble args.length n = true) (hk : (L.map fun p => look p.1 (args.zipIdx.map fun p => (p.2, p.1))) = L.map fun p => some p.2) (k : ∀ a, SlD [] n L a → c.wp P (bodyPostD P fn R) a w) : Calls P f args.toArray w R := by
 refine calls_of_wp_defers hf hb ?_
 rw [hn]
 exact k _ (Sl.enter args n L hle hk).toD
theorem wpOpsS_recover {P : Program} {ops : Array Oper} {Q : Exit → Act → List Frame → World → Prop} {rest : List Nat} {i : Nat} {o : Oper} {a : Act} {cs cs' : List Frame} {w : World} {v : Value} (ho : ops[i]? = some o) (hg : o.guard = none) (hx : (execOp a.eval o).run P w = .ok .recover w)
    (hrec : (recoverD cs = some (v, cs')) ∨ (recoverD cs = none ∧ v = .nilIface ∧ cs' = cs)) (h : wpOpsS P ops Q rest (a.put o.dst v) cs' w) : wpOpsS P ops Q (i :: rest) a cs w := by
  have hw : Region.wanted o (yielded ops a.tmps) = true := by simp [Region.wanted, hg]
  simp only [wpOpsS, ho, hw, if_true, hx]
  rcases hrec with hr | ⟨hr, rfl, rfl⟩
  · simp only [hr]; exact h
  · simp only [hr]; exact h
theorem wpOpsS_val {P : Program} {ops : Array Oper} {Q : Exit → Act → List Frame → World → Prop} {rest : List Nat} {i : Nat} {o : Oper} {a : Act} {cs : List Frame} {w : World} {v : Value} (ho : ops[i]? = some o) (hg : o.guard = none) (hx : (execOp a.eval o).run P w = .ok (.value v) w)
    (h : wpOpsS P ops Q rest (a.put o.dst v) cs w) : wpOpsS P ops Q (i :: rest) a cs w := by
  have hw : Region.wanted o (yielded ops a.tmps) = true := by simp [Region.wanted, hg]
  simp only [wpOpsS, ho, hw, if_true, hx]
  exact h
theorem wpS_recover {P : Program} {Q : Exit → Act → List Frame → World → Prop} {id d d' : Nat} {ty ty' : TypeId} {pos pos' : String} {af : Array Edge} {a : Act} {n : Nat} {L : List (Nat × Value)} {cs cs' : List Frame} {w : World} {v : Value} (H : Sl n L a) (h1 : Nat.blt d n = true) (h2 : Nat.blt d' n = true)
    (hrec : (recoverD cs = some (v, cs')) ∨ (recoverD cs = none ∧ v = .nilIface ∧ cs' = cs)) (h : ∀ a', Sl n ((d', v) :: (d, v) :: L) a' → Q .normal a' cs' w) :
    (Code.region id #[⟨some d, .call { callee := .builtin .recover, args := #[], argTypes := #[] }, ty, pos, #[], none⟩, ⟨some d', .assign (.tmp d), ty', pos', af, none⟩] false).wpS P Q a cs w := by
  refine wpS_region ?_
  refine wpOpsS_recover (i := 0) rfl rfl rfl hrec ?_
  have H1 := H.put v h1
  refine wpOpsS_val (i := 1) (v := v) rfl rfl ?_ ?_
  · have := H1.get d v (by rw [look_cons]; simp)
    have e : (execOp (a.put (some d) v).eval ⟨some d', .assign (.tmp d), ty', pos', af, none⟩).run P w = .ok (.value v) w := by
      simp only [execOp, Act.eval]
      rw [this]
      rfl
    exact e
  · exact h _ (H1.put v h2)
def CaughtPost (pb eb : Nat) (v : Value) (older : List PanicEntry) (E : Int) (w : World) (e : Ending) (u : FrameMode) (w' : World) : Prop :=
 e = .returned (.tuple #[]) ∧ u = .panicking ({ v := v, recovered := true } :: older) ∧ Agree w w' (fun j => j = pb ∨ j = eb) ∧ Box w' pb 32 [(.int .i64 0), (.int .i64 0), (.int .i64 0), (.int .i64 0), (.slice none 0 0), (.int .i64 0), (.int .i64 0), (.int .i64 0), (.int .i64 0), (.slice none 0 0), (.slice none 0 0), (.slice none 0 0), (.slice none 0 0)].toArray ∧ Box w' eb 52 [.int .i64 E].toArray
def plZ : Pln := ⟨0, 0, 0, 0, none, 0, [], 0, 0, 0, 0, none, 0, [], none, 0, [], none, 0, [], none, 0, []⟩
theorem plZ_is (w : World) : IsPln w plZ := ⟨IsRow.nil _ _, IsRow.nil _ _, ⟨IsRow.nil _ _, fun _ h => by cases h⟩, IsRow.nil _ _, IsRow.nil _ _, Nat.zero_le _, Nat.zero_le _, Nat.zero_le _, Nat.zero_le _, Nat.zero_le _⟩
theorem plZ_fp {n : Nat} : ∀ j, plZ.fp j → n ≤ j := by
 rintro j (h | h | (h | ⟨_, h, _⟩) | h | h)
 ·exact absurd h.1 (by decide)
 ·exact absurd h.1 (by decide)
 ·exact absurd h.1 (by decide)
 ·cases h
 ·exact absurd h.1 (by decide)
 ·exact absurd h.1 (by decide)
def DecPost (s : List UInt8) (w : World) (e : Ending) (w' : World) : Prop :=
 ∃ p : Pln, e = .returned (.tuple #[.agg (plC p).toArray, .int .i64 (decN s).2]) ∧ p.nv = (decN s).1 ∧ IsPln w' p ∧ (∀ j, p.fp j → w.heap.size ≤ j) ∧ Below w.heap.size w w'
theorem ex_isError {ρ : Operand → Value} {w : World} {x : Operand} {dst : Option Tmp} {ty : TypeId} {pos : String} {af : Array Edge} {g : Option (Nat × Bool)} {v : Value} {xT : TypeId} (hx : ρ x = .iface 212 v) :
  (execOp ρ ⟨dst, .typeAssert x xT 99 true, ty, pos, af, g⟩).run Tryz.prog w = .ok (.value (.tuple #[.iface 212 v, .bool true])) w := by
 simp only [execOp, hx, Sem.run_bind, isErrorE v xT w, Result.andThen_ok, Sem.run_pure]
theorem Hp.eqW {w0 w w' : World} {L : List HB} {K : List FK} (H : Hp w0 w L K) (h : w' = w) : Hp w0 w' L K := by rw [h]; exact H
theorem ret_none {P : Program} {fn : Func} (hr : fn.results = #[]) (tmps : Array Value) (w : World) : (results fn tmps).run P w = .ok (.tuple #[]) w := by
 unfold results
 rw [hr]
 simp
section
variable {P : Program} {fn : Func} {R : Ending → World → Prop} {a : Act} {w : World} {n : Nat} {L : List (Nat × Value)} {ds : List Deferred}
theorem SlD.leaveP {c : List PanicEntry} (H : SlD ds n L a) (h : Leaves P fn a.tmps R ds (.panicking c) w) : bodyPostD P fn R (.panic c) a w := by
 show Leaves _ _ _ _ _ _ _
 rw [H.defers]; exact h
theorem SlD.leaveR (H : SlD ds n L a) (h : Leaves P fn a.tmps R ds .returning w) : bodyPostD P fn R .ret a w := by
 show Leaves _ _ _ _ _ _ _
 rw [H.defers]; exact h
theorem RV.runD (H : SlD ds n L a) {r : ResultVar} {v : Value} (h : RV P w L r v) : (resOf a.tmps r).run P w = .ok v w := by
 cases r with
 | tmp t => simp only [resOf, H.get t v h, Sem.run_pure]
 | cell p t =>
  obtain ⟨q, hq, hl⟩ := h
  simp only [resOf, H.get p _ hq, asAddr, Sem.run_bind, Sem.run_pure, Result.andThen_ok, hl]
theorem retD2 (H : SlD ds n L a) {r s : ResultVar} {v u : Value} (hr : fn.results = #[r, s]) (h : RV P w L r v) (h' : RV P w L s u) : (results fn a.tmps).run P w = .ok (.tuple #[v, u]) w := by
 rw [results_of, hr]
 simp [h.runD H, h'.runD H]
theorem leaves_done {tmps : Array Value} {v : Value} (h : (results fn tmps).run P w = .ok v w) (hR : R (.returned v) w) : Leaves P fn tmps R [] .returning w := ⟨v, h, hR⟩
end
set_option maxRecDepth 100000 in
set_option maxHeartbeats 2000000 in
theorem catch_idle (pb eb : Nat) (w : World) :
  CallsD Tryz.prog 59 #[.pointer (some ⟨pb, 0, none⟩), .pointer (some ⟨eb, 0, none⟩)] .returning w fun e u' w' => e = .returned (.tuple #[]) ∧ u' = .returning ∧ w' = w := by
 refine callsD_of_wpS Tryz.func59 rfl fun c₀ cs hu => ?_
 have H0 := Sl.enter [.pointer (some ⟨pb, 0, none⟩), .pointer (some ⟨eb, 0, none⟩)] 18 [(0, .pointer (some ⟨pb, 0, none⟩)), (1, .pointer (some ⟨eb, 0, none⟩))] (by kernel_rfl) (by unfold keeps; kernel_rfl)
 refine wpS_seq (wpS_recover H0 (cs' := c₀ :: cs) (v := .nilIface) (by kernel_rfl) (by kernel_rfl) (.inr ⟨by simp only [recoverD, hu], rfl, rfl⟩) fun a H => ?_)
 refine wpS_of_wp ?_
 refine wp_seq (wp_seq (w_region ?_))
 refine H.v 6 .nilIface fun a H => ?_
 refine H.v 7 (.bool true) fun a H => ?_
 refine wpList_nil (then_normal ?_)
 refine w_ift H rfl (wp_ret (then_ret ?_))
 refine ⟨H.defers, .returning, by rw [← hu], _, ret_none (fn := Tryz.f59) rfl _ _, rfl, rfl, rfl⟩
set_option maxRecDepth 100000 in
set_option maxHeartbeats 4000000 in
theorem catch_bytes (a0 a1 : Addr) (pb eb : Nat) (u0 u1 u2 u3 u4 u5 u6 u7 u8 u9 u10 u11 u12 : Value) (older : List PanicEntry) (w : World) (hL : LaidP a0 a1 w) (hsep : ∀ j, lpFp a0 a1 j → j ≠ pb ∧ j ≠ eb) (hp : Box w pb 32 [u0, u1, u2, u3, u4, u5, u6, u7, u8, u9, u10, u11, u12].toArray) (he : Box w eb 52 #[.int .i64 0]) (hne : pb ≠ eb) :
  CallsD Tryz.prog 59 #[.pointer (some ⟨pb, 0, none⟩), .pointer (some ⟨eb, 0, none⟩)] (.panicking ({ v := errV a0, recovered := false } :: older)) w (CaughtPost pb eb (errV a0) older 10 w) := by
 have HP : Hp w w [bx pb 32 [u0, u1, u2, u3, u4, u5, u6, u7, u8, u9, u10, u11, u12] false, bx eb 52 [.int .i64 0] false] [laidK a0 a1] := (Hp.own2 hp he hne).keepF (laidK a0 a1) hL (laidK_ok _ _) (fun j hj => ⟨hL.lt j hj, by simpa [bx] using hsep j hj⟩)
 refine callsD_of_wpS Tryz.func59 rfl fun c₀ cs hu => ?_
 have H0 := Sl.enter [.pointer (some ⟨pb, 0, none⟩), .pointer (some ⟨eb, 0, none⟩)] 18 [(0, .pointer (some ⟨pb, 0, none⟩)), (1, .pointer (some ⟨eb, 0, none⟩))] (by kernel_rfl) (by unfold keeps; kernel_rfl)
 refine wpS_seq (wpS_recover H0 (cs' := { c₀ with mode := .panicking ({ v := errV a0, recovered := true } :: older) } :: cs) (v := errV a0) (by kernel_rfl) (by kernel_rfl) (.inl (by simp only [recoverD, hu])) fun a H => ?_)
 refine wpS_of_wp ?_
 refine wp_seq (wp_seq (w_region ?_))
 refine H.v 6 (.iface 212 (.pointer (some a0))) fun a H => ?_
 refine H.v 7 (.bool false) fun a H => ?_
 refine wpList_nil (then_normal ?_)
 refine w_iff H rfl ?_
 refine wp_skip (then_normal (wp_seq (w_region ?_)))
 refine H.v 8 (.agg #[(ii 0), (ii 0), (ii 0), (ii 0), (.slice none 0 0), (ii 0), (ii 0), (ii 0), (ii 0), (.slice none 0 0), (.slice none 0 0), (.slice none 0 0), (.slice none 0 0)]) fun a H => ?_
 refine H.store HP 0 pb 0 13 32 _ false (.agg #[(ii 0), (ii 0), (ii 0), (ii 0), (.slice none 0 0), (ii 0), (ii 0), (ii 0), (ii 0), (.slice none 0 0), (.slice none 0 0), (.slice none 0 0), (.slice none 0 0)]) [bx pb 32 [(ii 0), (ii 0), (ii 0), (ii 0), (.slice none 0 0), (ii 0), (ii 0), (ii 0), (ii 0), (.slice none 0 0), (.slice none 0 0), (.slice none 0 0), (.slice none 0 0)] false, bx eb 52 [(ii 0)] false] (by kernel_rfl) (by kernel_rfl) (by kernel_rfl) rfl (by kernel_rfl) (by kernel_rfl) (by kernel_rfl) (by kernel_rfl) (by kernel_rfl) fun w_1 a H HP => ?_
 refine H.store HP 1 eb 0 1 52 _ false (ii 80) [bx pb 32 [(ii 0), (ii 0), (ii 0), (ii 0), (.slice none 0 0), (ii 0), (ii 0), (ii 0), (ii 0), (.slice none 0 0), (.slice none 0 0), (.slice none 0 0), (.slice none 0 0)] false, bx eb 52 [(ii 80)] false] (by kernel_rfl) (by kernel_rfl) (by kernel_rfl) rfl (by kernel_rfl) (by kernel_rfl) (by kernel_rfl) (by kernel_rfl) (by kernel_rfl) fun w_2 a H HP => ?_
 refine wpList_nil (then_normal (wp_seq (w_region ?_)))
 refine H.v 10 (.iface 212 (.pointer (some a0))) fun a H => ?_
 refine H.u 11 (.tuple #[(.iface 212 (.pointer (some a0))), (.bool true)]) (ex_isError (by kernel_rfl)) fun a H => ?_
 refine H.v 9 (.tuple #[(.iface 212 (.pointer (some a0))), (.bool true)]) fun a H => ?_
 refine H.v 12 (.iface 212 (.pointer (some a0))) fun a H => ?_
 refine H.v 13 (.bool true) fun a H => ?_
 refine H.v 3 (.iface 212 (.pointer (some a0))) fun a H => ?_
 refine H.v 4 (.bool true) fun a H => ?_
 refine wpList_nil (then_normal (wp_seq (w_region ?_)))
 refine H.v 14 (.bool true) fun a H => ?_
 refine wpList_nil (then_normal ?_)
 refine w_ift H rfl ?_
 refine wp_seq (w_region ?_)
 refine H.v 15 (.iface 212 (.pointer (some a0))) fun a H => ?_
 refine H.u 16 (.iface 212 (.pointer (some a0))) (ex_l1 ((HP.fact 0 rfl : LaidP a0 a1 _).c0)) fun a H => ?_
 refine H.call 17 (by kernel_rfl) (Eq.trans (by kernel_rfl : _ = (callFunc 60 #[(.iface 212 (.pointer (some a0))), (.iface 212 (.pointer (some a0)))]).run Tryz.prog w_2) (Tryz.call60 _ _)) (is_same a0 w_2) ?_
 rintro e w_3 ⟨rfl, hw⟩
 refine ⟨_, rfl, ?_⟩
 intro a H
 have HP := HP.eqW hw
 refine wpList_nil (then_normal ?_)
 refine w_ift H rfl ?_
 refine w_region ?_
 refine H.store HP 1 eb 0 1 52 _ false (ii 10) [bx pb 32 [(ii 0), (ii 0), (ii 0), (ii 0), (.slice none 0 0), (ii 0), (ii 0), (ii 0), (ii 0), (.slice none 0 0), (.slice none 0 0), (.slice none 0 0), (.slice none 0 0)] false, bx eb 52 [(ii 10)] false] (by kernel_rfl) (by kernel_rfl) (by kernel_rfl) rfl (by kernel_rfl) (by kernel_rfl) (by kernel_rfl) (by kernel_rfl) (by kernel_rfl) fun w_4 a H HP => ?_
 refine wpList_nil ?_
 exact ⟨H.defers, _, rfl, _, ret_none (fn := Tryz.f59) rfl _ _, rfl, rfl, HP.agree _ (by simp [bx]), HP.at_ 0 rfl, HP.at_ 1 rfl⟩
set_option maxRecDepth 100000 in
set_option maxHeartbeats 4000000 in
theorem catch_plan (a0 a1 : Addr) (pb eb : Nat) (u0 u1 u2 u3 u4 u5 u6 u7 u8 u9 u10 u11 u12 : Value) (older : List PanicEntry) (w : World) (hL : LaidP a0 a1 w) (hsep : ∀ j, lpFp a0 a1 j → j ≠ pb ∧ j ≠ eb) (hp : Box w pb 32 [u0, u1, u2, u3, u4, u5, u6, u7, u8, u9, u10, u11, u12].toArray) (he : Box w eb 52 #[.int .i64 0]) (hne : pb ≠ eb) :
  CallsD Tryz.prog 59 #[.pointer (some ⟨pb, 0, none⟩), .pointer (some ⟨eb, 0, none⟩)] (.panicking ({ v := errV a1, recovered := false } :: older)) w (CaughtPost pb eb (errV a1) older 80 w) := by
 have HP : Hp w w [bx pb 32 [u0, u1, u2, u3, u4, u5, u6, u7, u8, u9, u10, u11, u12] false, bx eb 52 [.int .i64 0] false] [laidK a0 a1] := (Hp.own2 hp he hne).keepF (laidK a0 a1) hL (laidK_ok _ _) (fun j hj => ⟨hL.lt j hj, by simpa [bx] using hsep j hj⟩)
 refine callsD_of_wpS Tryz.func59 rfl fun c₀ cs hu => ?_
 have H0 := Sl.enter [.pointer (some ⟨pb, 0, none⟩), .pointer (some ⟨eb, 0, none⟩)] 18 [(0, .pointer (some ⟨pb, 0, none⟩)), (1, .pointer (some ⟨eb, 0, none⟩))] (by kernel_rfl) (by unfold keeps; kernel_rfl)
 refine wpS_seq (wpS_recover H0 (cs' := { c₀ with mode := .panicking ({ v := errV a1, recovered := true } :: older) } :: cs) (v := errV a1) (by kernel_rfl) (by kernel_rfl) (.inl (by simp only [recoverD, hu])) fun a H => ?_)
 refine wpS_of_wp ?_
 refine wp_seq (wp_seq (w_region ?_))
 refine H.v 6 (.iface 212 (.pointer (some a1))) fun a H => ?_
 refine H.v 7 (.bool false) fun a H => ?_
 refine wpList_nil (then_normal ?_)
 refine w_iff H rfl ?_
 refine wp_skip (then_normal (wp_seq (w_region ?_)))
 refine H.v 8 (.agg #[(ii 0), (ii 0), (ii 0), (ii 0), (.slice none 0 0), (ii 0), (ii 0), (ii 0), (ii 0), (.slice none 0 0), (.slice none 0 0), (.slice none 0 0), (.slice none 0 0)]) fun a H => ?_
 refine H.store HP 0 pb 0 13 32 _ false (.agg #[(ii 0), (ii 0), (ii 0), (ii 0), (.slice none 0 0), (ii 0), (ii 0), (ii 0), (ii 0), (.slice none 0 0), (.slice none 0 0), (.slice none 0 0), (.slice none 0 0)]) [bx pb 32 [(ii 0), (ii 0), (ii 0), (ii 0), (.slice none 0 0), (ii 0), (ii 0), (ii 0), (ii 0), (.slice none 0 0), (.slice none 0 0), (.slice none 0 0), (.slice none 0 0)] false, bx eb 52 [(ii 0)] false] (by kernel_rfl) (by kernel_rfl) (by kernel_rfl) rfl (by kernel_rfl) (by kernel_rfl) (by kernel_rfl) (by kernel_rfl) (by kernel_rfl) fun w_1 a H HP => ?_
 refine H.store HP 1 eb 0 1 52 _ false (ii 80) [bx pb 32 [(ii 0), (ii 0), (ii 0), (ii 0), (.slice none 0 0), (ii 0), (ii 0), (ii 0), (ii 0), (.slice none 0 0), (.slice none 0 0), (.slice none 0 0), (.slice none 0 0)] false, bx eb 52 [(ii 80)] false] (by kernel_rfl) (by kernel_rfl) (by kernel_rfl) rfl (by kernel_rfl) (by kernel_rfl) (by kernel_rfl) (by kernel_rfl) (by kernel_rfl) fun w_2 a H HP => ?_
 refine wpList_nil (then_normal (wp_seq (w_region ?_)))
 refine H.v 10 (.iface 212 (.pointer (some a1))) fun a H => ?_
 refine H.u 11 (.tuple #[(.iface 212 (.pointer (some a1))), (.bool true)]) (ex_isError (by kernel_rfl)) fun a H => ?_
 refine H.v 9 (.tuple #[(.iface 212 (.pointer (some a1))), (.bool true)]) fun a H => ?_
 refine H.v 12 (.iface 212 (.pointer (some a1))) fun a H => ?_
 refine H.v 13 (.bool true) fun a H => ?_
 refine H.v 3 (.iface 212 (.pointer (some a1))) fun a H => ?_
 refine H.v 4 (.bool true) fun a H => ?_
 refine wpList_nil (then_normal (wp_seq (w_region ?_)))
 refine H.v 14 (.bool true) fun a H => ?_
 refine wpList_nil (then_normal ?_)
 refine w_ift H rfl ?_
 refine wp_seq (w_region ?_)
 refine H.v 15 (.iface 212 (.pointer (some a1))) fun a H => ?_
 refine H.u 16 (.iface 212 (.pointer (some a0))) (ex_l1 ((HP.fact 0 rfl : LaidP a0 a1 _).c0)) fun a H => ?_
 refine H.call 17 (by kernel_rfl) (Eq.trans (by kernel_rfl : _ = (callFunc 60 #[(.iface 212 (.pointer (some a1))), (.iface 212 (.pointer (some a0)))]).run Tryz.prog w_2) (Tryz.call60 _ _)) ((by obtain ⟨c0, t0, hb0⟩ := (HP.fact 0 rfl : LaidP a0 a1 _).b0; obtain ⟨c1, t1, hb1⟩ := (HP.fact 0 rfl : LaidP a0 a1 _).b1; exact is_other a1 a0 c1 c0 t1 t0 w_2 hL.ne.symm hb1 hb0)) ?_
 rintro e w_3 ⟨rfl, hw⟩
 refine ⟨_, rfl, ?_⟩
 intro a H
 have HP := HP.eqW hw
 refine wpList_nil (then_normal ?_)
 refine w_iff H rfl ?_
 refine wp_skip ?_
 exact ⟨H.defers, _, rfl, _, ret_none (fn := Tryz.f59) rfl _ _, rfl, rfl, HP.agree _ (by simp [bx]), HP.at_ 0 rfl, HP.at_ 1 rfl⟩
theorem catch_any (a0 a1 : Addr) (E : Int) (hE : E = 10 ∨ E = 80) (pb eb : Nat) (u0 u1 u2 u3 u4 u5 u6 u7 u8 u9 u10 u11 u12 : Value) (older : List PanicEntry) (w : World) (hL : LaidP a0 a1 w) (hsep : ∀ j, lpFp a0 a1 j → j ≠ pb ∧ j ≠ eb) (hp : Box w pb 32 [u0, u1, u2, u3, u4, u5, u6, u7, u8, u9, u10, u11, u12].toArray) (he : Box w eb 52 #[.int .i64 0]) (hne : pb ≠ eb) :
  CallsD Tryz.prog 59 #[.pointer (some ⟨pb, 0, none⟩), .pointer (some ⟨eb, 0, none⟩)] (.panicking ({ v := errV (if E = 10 then a0 else a1), recovered := false } :: older)) w (CaughtPost pb eb (errV (if E = 10 then a0 else a1)) older E w) := by
 rcases hE with rfl | rfl
 ·exact catch_bytes a0 a1 pb eb u0 u1 u2 u3 u4 u5 u6 u7 u8 u9 u10 u11 u12 older w hL hsep hp he hne
 ·exact catch_plan a0 a1 pb eb u0 u1 u2 u3 u4 u5 u6 u7 u8 u9 u10 u11 u12 older w hL hsep hp he hne
theorem decode_any (a0 a1 : Addr) (s : List UInt8) (w : World) (hL : LaidP a0 a1 w) (hl : s.length ≤ 1000000) :
  Calls Tryz.prog 27 #[.string (bstr s)] w (DecPost s w) := by
 have HP := Hp.start w
 refine w_enterD 20 [(0, (.string (bstr s)))] Tryz.func27 rfl Tryz.ntmps27 (by kernel_rfl) (by kernel_rfl) fun a H => ?_
 refine sq (rg ?_)
 refine H.alloc HP 2 (fun b => (pt b 0)) 32 [(ii 0), (ii 0), (ii 0), (ii 0), (.slice none 0 0), (ii 0), (ii 0), (ii 0), (ii 0), (.slice none 0 0), (.slice none 0 0), (.slice none 0 0), (.slice none 0 0)] (by kernel_rfl) (fun w => by kernel_rfl) fun b_1 w_2 a H HP => H.alloc HP 3 (fun b => (pt b 0)) 52 [(ii 0)] (by kernel_rfl) (fun w => by kernel_rfl) fun b_3 w_4 a H HP => ?_
 refine nl (tn (sq (rg ?_)))
 refine H.v 5 (.func (.func 59) #[] #[(pt b_1 0), (pt b_3 0)]) fun a H => ?_
 refine SlD.defer H (d := { target := .fn (.func 59) #[(pt b_1 0), (pt b_3 0)], args := #[] }) (by kernel_rfl) (by kernel_rfl) fun a H => ?_
 refine nl (tn (sq (rg ?_)))
 refine H.v 6 (.string (bstr s)) fun a H => H.v 7 (.agg #[(.string (bstr s)), (ii 0)]) fun a H => H.alloc HP 4 (fun b => (pt b 0)) 103 [(.string (bstr ([]))), (ii 0)] (by kernel_rfl) (fun w => by kernel_rfl) fun b_5 w_6 a H HP => H.store HP 0 b_5 0 2 103 _ true (.agg #[(.string (bstr s)), (ii 0)]) [bx b_5 103 [(.string (bstr s)), (ii 0)] true, bx b_3 52 [(ii 0)] true, bx b_1 32 [(ii 0), (ii 0), (ii 0), (ii 0), (.slice none 0 0), (ii 0), (ii 0), (ii 0), (ii 0), (.slice none 0 0), (.slice none 0 0), (.slice none 0 0), (.slice none 0 0)] true] (by kernel_rfl) (by kernel_rfl) (by kernel_rfl) rfl (by kernel_rfl) (by kernel_rfl) (by kernel_rfl) (by kernel_rfl) (by kernel_rfl) fun w_7 a H HP => ?_
 refine nl (tn (sq (rg ?_)))
 have hlt0 := HP.lt
 have hsz0 := HP.size
 refine H.callP 8 (by kernel_rfl) (Eq.trans (by kernel_rfl : _ = (callFunc 61 #[(pt b_5 0)]).run Tryz.prog w_7) (Tryz.call61 _ _)) (rdplan_any a0 a1 s b_5 w_7 (hL.below HP.bl) (fun j hj e => by have h1 := HP.fresh _ (List.mem_of_getElem? (i := 0) rfl) rfl j e; have h2 := hL.lt j hj; omega) (HP.at_ 0 rfl) hl) ?_
 rintro e w_8 ⟨hag, (⟨E, k1, hE, hEE, rfl, hb1⟩ | ⟨p, k1, hE, hk1, rfl, hb1, hpl, hnew⟩)⟩
 ·refine .inr ⟨_, rfl, ?_⟩
  intro a H
  have HP := HP.changed1 0 rfl (rC s k1) _ rfl hag hb1
  refine then_panic ?_
  refine H.leaveP ?_
  refine leaves_cons (f := 59) (args := #[.pointer (some ⟨b_1, 0, none⟩), .pointer (some ⟨b_3, 0, none⟩)]) (by simp) (by kernel_rfl) ?_
  refine (catch_any a0 a1 E hEE b_1 b_3 (ii 0) (ii 0) (ii 0) (ii 0) (.slice none 0 0) (ii 0) (ii 0) (ii 0) (ii 0) (.slice none 0 0) (.slice none 0 0) (.slice none 0 0) (.slice none 0 0) [] w_8 (hL.below HP.bl) (fun j hj => ⟨fun e => by have h1 := HP.fresh _ (List.mem_of_getElem? (i := 2) rfl) rfl j e; have h2 := hL.lt j hj; omega, fun e => by have h1 := HP.fresh _ (List.mem_of_getElem? (i := 1) rfl) rfl j e; have h2 := hL.lt j hj; omega⟩) (HP.at_ 2 rfl) (HP.at_ 1 rfl) ((HP.neB 1 2 rfl rfl (by decide)).symm)).mono ?_
  rintro e u1 w1 ⟨rfl, rfl, hag2, hp2, he2⟩
  have HP := HP.changed2 2 1 rfl rfl [(ii 0), (ii 0), (ii 0), (ii 0), (.slice none 0 0), (ii 0), (ii 0), (ii 0), (ii 0), (.slice none 0 0), (.slice none 0 0), (.slice none 0 0), (.slice none 0 0)] [.int .i64 E] _ rfl (by decide) hag2 hp2 he2
  refine leaves_done (fn := Tryz.f27) (retD2 H Tryz.results27 (RV.cellN (vs := [(ii 0), (ii 0), (ii 0), (ii 0), (.slice none 0 0), (ii 0), (ii 0), (ii 0), (ii 0), (.slice none 0 0), (.slice none 0 0), (.slice none 0 0), (.slice none 0 0)]) (b := b_1) (off := 0) (k := 13) (by kernel_rfl) (by kernel_rfl) (by kernel_rfl) rfl (HP.cells 2 rfl 0 13 (by kernel_rfl))) (RV.cell1 (q := ⟨b_3, 0, none⟩) (v := .int .i64 E) (by kernel_rfl) (by kernel_rfl) (HP.cell 1 rfl 0 rfl))) ?_
  exact ⟨plZ, by rw [show decN s = (zeroN, E) from by unfold decN; rw [hE]] <;> rfl, by rw [show decN s = (zeroN, E) from by unfold decN; rw [hE]] <;> rfl, plZ_is _, plZ_fp, HP.below (by kernel_rfl)⟩
 refine .inl ⟨_, rfl, ?_⟩
 intro a H
 have HP := HP.changed1 0 rfl (rC s k1) [bx b_5 103 [(.string (bstr s)), (ii k1)] true, bx b_3 52 [(ii 0)] true, bx b_1 32 [(ii 0), (ii 0), (ii 0), (ii 0), (.slice none 0 0), (ii 0), (ii 0), (ii 0), (ii 0), (.slice none 0 0), (.slice none 0 0), (.slice none 0 0), (.slice none 0 0)] true] (by kernel_rfl) hag hb1
 have HP := HP.keepF (plnK p) hpl (plnK_ok p) (fun j hj => ⟨hpl.lt j hj, fun y hy hyk => by simp only [List.mem_cons, List.not_mem_nil, or_false] at hy; rcases hy with rfl | rfl | rfl <;> (first | exact Nat.lt_irrefl _ (Nat.lt_of_lt_of_le (hlt0 _ (List.mem_of_getElem? (i := 0) rfl) j hyk) (hnew j hj)) | exact Nat.lt_irrefl _ (Nat.lt_of_lt_of_le (hlt0 _ (List.mem_of_getElem? (i := 1) rfl) j hyk) (hnew j hj)) | exact Nat.lt_irrefl _ (Nat.lt_of_lt_of_le (hlt0 _ (List.mem_of_getElem? (i := 2) rfl) j hyk) (hnew j hj)))⟩)
 refine H.store HP 2 b_1 0 13 32 _ true (plV p) [bx b_5 103 [(.string (bstr s)), (ii k1)] true, bx b_3 52 [(ii 0)] true, bx b_1 32 (plL p) true] (by kernel_rfl) (by kernel_rfl) (by kernel_rfl) rfl (by kernel_rfl) (by kernel_rfl) (by kernel_rfl) (by kernel_rfl) (by kernel_rfl) fun w_9 a H HP => ?_
 refine nl (tn (sq (sq (rg ?_))))
 refine H.v 9 (pt b_5 1) fun a H => H.u 10 (ii k1) (ex_l1 (HP.cell 0 rfl 1 rfl)) fun a H => H.v 11 (.string (bstr s)) fun a H => H.v 12 (ii s.length) fun a H => H.v 13 (.bool (decide ((k1 : Int) < (s.length : Int)))) fun a H => ?_
 refine nl (tn ?_)
 refine w_ifD H rfl (fun g13 => ?_) (fun g13 => ?_)
 ·have g13p := of_decide_eq_true g13
  refine rg ?_
  refine H.u 14 (.iface 212 (.pointer (some a0))) (ex_l1 ((hL.below HP.bl).c0)) fun a H => ?_
  refine H.panic0 (v := (.iface 212 (.pointer (some a0)))) (w' := w_9) (by kernel_rfl) (by kernel_rfl) ?_
  refine then_panic ?_
  refine H.leaveP ?_
  refine leaves_cons (f := 59) (args := #[.pointer (some ⟨b_1, 0, none⟩), .pointer (some ⟨b_3, 0, none⟩)]) (by simp) (by kernel_rfl) ?_
  refine (catch_bytes a0 a1 b_1 b_3 (ii p.channel) (ii p.num) (ii p.den) (ii p.offset) (.slice p.SA p.sh.length p.sc) (ii p.epoch) (ii p.regions) (ii p.length) (ii p.fill) (.slice p.IA p.its.length p.ic) (.slice p.EA p.es.length p.ec) (.slice p.BA p.bs.length p.bc) (.slice p.CA p.cs.length p.cc) [] w_9 (hL.below HP.bl) (fun j hj => ⟨fun e => by have h1 := HP.fresh _ (List.mem_of_getElem? (i := 2) rfl) rfl j e; have h2 := hL.lt j hj; omega, fun e => by have h1 := HP.fresh _ (List.mem_of_getElem? (i := 1) rfl) rfl j e; have h2 := hL.lt j hj; omega⟩) (HP.at_ 2 rfl) (HP.at_ 1 rfl) ((HP.neB 1 2 rfl rfl (by decide)).symm)).mono ?_
  rintro e u1 w1 ⟨rfl, rfl, hag2, hp2, he2⟩
  have HP := HP.changed2 2 1 rfl rfl [(ii 0), (ii 0), (ii 0), (ii 0), (.slice none 0 0), (ii 0), (ii 0), (ii 0), (ii 0), (.slice none 0 0), (.slice none 0 0), (.slice none 0 0), (.slice none 0 0)] [.int .i64 10] _ rfl (by decide) hag2 hp2 he2
  refine leaves_done (fn := Tryz.f27) (retD2 H Tryz.results27 (RV.cellN (vs := [(ii 0), (ii 0), (ii 0), (ii 0), (.slice none 0 0), (ii 0), (ii 0), (ii 0), (ii 0), (.slice none 0 0), (.slice none 0 0), (.slice none 0 0), (.slice none 0 0)]) (b := b_1) (off := 0) (k := 13) (by kernel_rfl) (by kernel_rfl) (by kernel_rfl) rfl (HP.cells 2 rfl 0 13 (by kernel_rfl))) (RV.cell1 (q := ⟨b_3, 0, none⟩) (v := .int .i64 10) (by kernel_rfl) (by kernel_rfl) (HP.cell 1 rfl 0 rfl))) ?_
  exact ⟨plZ, by rw [show decN s = (zeroN, 10) from by unfold decN; rw [hE]; simp only; rw [if_pos (by omega)]] <;> rfl, by rw [show decN s = (zeroN, 10) from by unfold decN; rw [hE]; simp only; rw [if_pos (by omega)]] <;> rfl, plZ_is _, plZ_fp, HP.below (by kernel_rfl)⟩
 have g13p := of_decide_eq_false g13
 refine sk (tn (sq (sq (rg ?_))))
 refine H.u 15 (plV p) (ex_lN (plL p) (HP.cells 2 rfl 0 13 (by kernel_rfl))) fun a H => ?_
 refine H.call 16 (by kernel_rfl) (Eq.trans (by kernel_rfl : _ = (callFunc 14 #[(plV p)]).run Tryz.prog w_9) (Tryz.call14 _ _)) (valid_any p w_9 (HP.fact 0 rfl) (hL.below HP.bl).rates) ?_
 rintro e w_10 ⟨rfl, hb⟩
 refine ⟨_, rfl, ?_⟩
 intro a H
 have HP := HP.next hb
 refine H.v 17 (.bool (!(validPl p))) fun a H => ?_
 refine nl (tn ?_)
 refine w_ifD H rfl (fun g17 => ?_) (fun g17 => ?_)
 ·have g17p := not_is_true g17
  refine rg ?_
  refine H.u 18 (.iface 212 (.pointer (some a1))) (ex_l1 ((hL.below HP.bl).c1)) fun a H => ?_
  refine H.panic0 (v := (.iface 212 (.pointer (some a1)))) (w' := w_10) (by kernel_rfl) (by kernel_rfl) ?_
  refine then_panic ?_
  refine H.leaveP ?_
  refine leaves_cons (f := 59) (args := #[.pointer (some ⟨b_1, 0, none⟩), .pointer (some ⟨b_3, 0, none⟩)]) (by simp) (by kernel_rfl) ?_
  refine (catch_plan a0 a1 b_1 b_3 (ii p.channel) (ii p.num) (ii p.den) (ii p.offset) (.slice p.SA p.sh.length p.sc) (ii p.epoch) (ii p.regions) (ii p.length) (ii p.fill) (.slice p.IA p.its.length p.ic) (.slice p.EA p.es.length p.ec) (.slice p.BA p.bs.length p.bc) (.slice p.CA p.cs.length p.cc) [] w_10 (hL.below HP.bl) (fun j hj => ⟨fun e => by have h1 := HP.fresh _ (List.mem_of_getElem? (i := 2) rfl) rfl j e; have h2 := hL.lt j hj; omega, fun e => by have h1 := HP.fresh _ (List.mem_of_getElem? (i := 1) rfl) rfl j e; have h2 := hL.lt j hj; omega⟩) (HP.at_ 2 rfl) (HP.at_ 1 rfl) ((HP.neB 1 2 rfl rfl (by decide)).symm)).mono ?_
  rintro e u1 w1 ⟨rfl, rfl, hag2, hp2, he2⟩
  have HP := HP.changed2 2 1 rfl rfl [(ii 0), (ii 0), (ii 0), (ii 0), (.slice none 0 0), (ii 0), (ii 0), (ii 0), (ii 0), (.slice none 0 0), (.slice none 0 0), (.slice none 0 0), (.slice none 0 0)] [.int .i64 80] _ rfl (by decide) hag2 hp2 he2
  refine leaves_done (fn := Tryz.f27) (retD2 H Tryz.results27 (RV.cellN (vs := [(ii 0), (ii 0), (ii 0), (ii 0), (.slice none 0 0), (ii 0), (ii 0), (ii 0), (ii 0), (.slice none 0 0), (.slice none 0 0), (.slice none 0 0), (.slice none 0 0)]) (b := b_1) (off := 0) (k := 13) (by kernel_rfl) (by kernel_rfl) (by kernel_rfl) rfl (HP.cells 2 rfl 0 13 (by kernel_rfl))) (RV.cell1 (q := ⟨b_3, 0, none⟩) (v := .int .i64 80) (by kernel_rfl) (by kernel_rfl) (HP.cell 1 rfl 0 rfl))) ?_
  exact ⟨plZ, by rw [show decN s = (zeroN, 80) from by unfold decN; rw [hE]; simp only; rw [if_neg (by omega), ← validPl_nv, show validPl p = false from by assumption] <;> rfl] <;> rfl, by rw [show decN s = (zeroN, 80) from by unfold decN; rw [hE]; simp only; rw [if_neg (by omega), ← validPl_nv, show validPl p = false from by assumption] <;> rfl] <;> rfl, plZ_is _, plZ_fp, HP.below (by kernel_rfl)⟩
 have g17p := not_is_false g17
 refine sk (tn (sq (rg ?_)))
 refine H.u 19 (plV p) (ex_lN (plL p) (HP.cells 2 rfl 0 13 (by kernel_rfl))) fun a H => H.store HP 2 b_1 0 13 32 _ true (plV p) [bx b_5 103 [(.string (bstr s)), (ii k1)] true, bx b_3 52 [(ii 0)] true, bx b_1 32 (plL p) true] (by kernel_rfl) (by kernel_rfl) (by kernel_rfl) rfl (by kernel_rfl) (by kernel_rfl) (by kernel_rfl) (by kernel_rfl) (by kernel_rfl) fun w_11 a H HP => H.store HP 1 b_3 0 1 52 _ true (ii 0) [bx b_5 103 [(.string (bstr s)), (ii k1)] true, bx b_3 52 [(ii 0)] true, bx b_1 32 (plL p) true] (by kernel_rfl) (by kernel_rfl) (by kernel_rfl) rfl (by kernel_rfl) (by kernel_rfl) (by kernel_rfl) (by kernel_rfl) (by kernel_rfl) fun w_12 a H HP => ?_
 refine nl (tn (rt ?_))
 refine H.leaveR ?_
 refine leaves_cons (f := 59) (args := #[.pointer (some ⟨b_1, 0, none⟩), .pointer (some ⟨b_3, 0, none⟩)]) (by simp) (by kernel_rfl) ?_
 refine (catch_idle b_1 b_3 w_12).mono ?_
 rintro e u1 w1 ⟨rfl, rfl, rfl⟩
 refine leaves_done (fn := Tryz.f27) (retD2 H Tryz.results27 (RV.cellN (vs := (plL p)) (b := b_1) (off := 0) (k := 13) (by kernel_rfl) (by kernel_rfl) (by kernel_rfl) rfl (HP.cells 2 rfl 0 13 (by kernel_rfl))) (RV.cell1 (q := ⟨b_3, 0, none⟩) (v := .int .i64 0) (by kernel_rfl) (by kernel_rfl) (HP.cell 1 rfl 0 rfl))) ?_
 exact ⟨p, by rw [show decN s = (p.nv, 0) from by unfold decN; rw [hE]; simp only; rw [if_neg (by omega), ← validPl_nv, show validPl p = true from by assumption] <;> rfl] <;> rfl, by rw [show decN s = (p.nv, 0) from by unfold decN; rw [hE]; simp only; rw [if_neg (by omega), ← validPl_nv, show validPl p = true from by assumption] <;> rfl] <;> rfl, HP.fact 0 rfl, fun j hj => Nat.le_trans hsz0 (hnew j hj), HP.below (by kernel_rfl)⟩
end Go.Proofs.YteeillphhiaopaaGreatDoor
