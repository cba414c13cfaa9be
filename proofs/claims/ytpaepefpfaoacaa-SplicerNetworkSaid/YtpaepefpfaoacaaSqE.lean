/- Contract of sane. -/
import Derived.Test.YtpaepefpfaoacaaSqD
namespace Go.Proofs.Ytpaepefpfaoacaa
open Go.ChangeShapes Go.WideShapes Go.ChangeAt Go.RowKit
set_option linter.unusedVariables false
set_option linter.unusedSimpArgs false

def picR (A : Option Addr) (l : List PicA) : HB := ⟨rowFp l.length A, fun w => IsPics w A l.length l, true⟩
theorem picR_ok (A : Option Addr) (l : List PicA) : (picR A l).ok := fun _ _ h hk hs => ⟨h.1, h.2.keep hk hs⟩
theorem Rd.of_box2 {w : World} {b t n : Nat} {vs : List Value} (h : Box w b t vs.toArray) (hl : vs.length = n * 2) : Rd w 2 (some ⟨b, 0, none⟩) n vs :=
  ⟨hl, .inr ⟨b, 0, rfl, h.lt, fun i hi => by
    have hi' : i < vs.length := by omega
    rw [Nat.zero_add, List.getElem?_eq_getElem hi']
    exact h.cell (by simp [List.getElem?_eq_getElem hi'])⟩⟩
theorem ex_eqSh {ρ : Operand → Value} {w : World} {x y : Operand} {dst : Option Tmp} {ty : TypeId} {pos : String} {af : Array Edge} {g : Option (Nat × Bool)} {a0 a1 a2 b0 b1 b2 : Int}
    (hx : ρ x = .agg #[.int .i64 a0, .int .i64 a1, .int .i64 a2]) (hy : ρ y = .agg #[.int .i64 b0, .int .i64 b1, .int .i64 b2]) : (execOp ρ ⟨dst, .binOp .eql 36 x y 36, ty, pos, af, g⟩).run Try.prog w = .ok (.value (.bool ((a0 == b0) && ((a1 == b1) && (a2 == b2))))) w := by
  by_cases h0 : a0 = b0 <;> by_cases h1 : a1 = b1 <;> by_cases h2 : a2 = b2 <;> simp [execOp, hx, hy, go_sem, h0, h1, h2]
theorem lib2 {w : World} {b : Nat} {A A' : Option Addr} {c c' : Nat} (hb : Box w b 49 [Value.int .i64 5, .slice A (filePics 1 1 1 40).length c, .int .i64 7, .slice A' (filePics 2 1 1 2).length c'].toArray) (h1 : IsPics w A (filePics 1 1 1 40).length (filePics 1 1 1 40)) (h2 : IsPics w A' (filePics 2 1 1 2).length (filePics 2 1 1 2))
    (q1 : (filePics 1 1 1 40).length ≤ c) (q2 : c ≤ maxLen) (q3 : A = none → c = 0) (r1 : (filePics 2 1 1 2).length ≤ c') (r2 : c' ≤ maxLen) (r3 : A' = none → c' = 0) : IsAsts w (some ⟨b, 0, none⟩) 2 [⟨5, A, c, filePics 1 1 1 40⟩, ⟨7, A', c', filePics 2 1 1 2⟩] := by
  refine ⟨⟨rfl, Rd.of_box2 hb rfl⟩, fun a ha => ?_⟩
  simp only [List.mem_cons, List.not_mem_nil, or_false] at ha
  rcases ha with rfl | rfl
  · exact ⟨h1, q1, q2, q3, trivial⟩
  · exact ⟨h2, r1, r2, r3, trivial⟩
theorem new_ok (ch r : Int) (A : Option Addr) (n c : Nat) (l : List AstA) (w : World) (h : IsAsts w A n l) (hp : (∀ a ∈ l, a.pics.length ≤ 2000000) ∧ n ≤ 1000000) (hok : newOk ch r l = true) :
    Calls Try.prog 10 #[.int .i64 ch, .int .i64 r, .slice A n c] w fun e w' => ∃ b k, e = .returned (.tuple #[.pointer (some ⟨b, 0, none⟩), .int .i64 0]) ∧ SpN w' b k ⟨500, p5Z, []⟩ none 0 ∧ k.channel = ch ∧ k.region = r ∧ sameA k.store l ∧ Below w.heap.size w w' ∧ ∀ j, splFp b k ⟨500, p5Z, []⟩ none j → w.heap.size ≤ j :=
  (new_any ch r A n c l w h hp.2 hp.1).mono fun e w' h => by
    rcases h with ⟨h, _⟩ | ⟨_, h⟩
    · rw [hok] at h; cases h
    · exact h
theorem new_bad (ch r : Int) (A : Option Addr) (n c : Nat) (l : List AstA) (w : World) (h : IsAsts w A n l) (hp : (∀ a ∈ l, a.pics.length ≤ 2000000) ∧ n ≤ 1000000) (hok : newOk ch r l = false) :
    Calls Try.prog 10 #[.int .i64 ch, .int .i64 r, .slice A n c] w fun e w' => e = .returned (.tuple #[.pointer none, .int .i64 230]) ∧ Below w.heap.size w w' :=
  (new_any ch r A n c l w h hp.2 hp.1).mono fun e w' h => by
    rcases h with ⟨_, h⟩ | ⟨h, _⟩
    · exact h
    · rw [hok] at h; cases h
theorem stepS_spec {k : SpK} {s : Sp} {u u' : UnitA} (h : u.spec = u'.spec) : stepS k s u = stepS k s u' := by
  obtain ⟨a1, a2, a3, a4, a5, a6, a7, a8, a9, a10, a11, a12, a13, a14, a15⟩ := u
  obtain ⟨b1, b2, b3, b4, b5, b6, b7, b8, b9, b10, b11, b12, b13, b14, b15⟩ := u'
  simp only [UnitA.spec, US.mk.injEq] at h
  obtain ⟨rfl, rfl, rfl, rfl, rfl, rfl, rfl, rfl, rfl, rfl, rfl⟩ := h
  rfl
theorem altP_bd {k : SpK} {s : Sp} {u : UnitA} {p : P5} (h : altP k s u = some p) : 0 ≤ p.index := by
  unfold altP at h
  cases ha : altAt k.region k.store u with
  | none => rw [ha] at h; cases h
  | some q =>
    rw [ha] at h
    obtain ⟨p', n⟩ := q
    simp only at h
    split at h
    · cases h
      unfold altAt at ha
      split at ha
      · cases ha
      · split at ha
        · cases ha
        · split at ha
          · cases ha
          · split at ha
            · cases ha
            · cases ha; simp only; omega
    · cases h
theorem stepS_inv {k : SpK} {s : Sp} {u : UnitA} (h : s.inv) (h1 : -9223372036854775808 ≤ u.index) (h2 : -9223372036854775808 ≤ u.frame) : (stepS k s u).2.2.inv := by
  unfold stepS
  split
  · exact ⟨by simp [Sp.shown, p5Z], h.2⟩
  · split
    · exact ⟨by simp [Sp.shown, p5Z], h.2⟩
    · refine ⟨?_, notedP_frames h.2 h2⟩
      simp only [Sp.shown]
      unfold pickP
      cases ha : altP k (s.noting k.region u) u with
      | some p => have := altP_bd ha; simp only; omega
      | none =>
        simp only
        split
        · exact h1
        · simp [p5Z]
/-! ### The fixed example -/
def xS : ByteArray := ByteArray.mk #[120]
def saneU (j : Nat) : UnitA := ⟨0, ((10 + j : Nat) : Int), 3, 5, ((10 + j : Nat) : Int), true, xS, 3, 0, ByteArray.mk #[], if j < 12 then 20 else 0, if j < 12 then 2 else 0, none, 0, if j < 12 then [(1, 7)] else []⟩
def KSane (k : SpK) : Prop := k.channel = 0 ∧ k.region = 1 ∧ (k.store.map fun a => (a.item, a.pics)) = [(5, filePics 1 1 1 40), (7, filePics 2 1 1 2)]
def saneSt (k : SpK) : Nat → Sp
  | 0 => ⟨500, p5Z, []⟩
  | j + 1 => (stepS k (saneSt k j) (saneU j)).2.2
theorem saneInv {k : SpK} {j : Nat} (hk : KSane k) (hj : j ≤ 13) : (saneSt k j).inv := by
  induction j with
  | zero => exact ⟨by simp [saneSt, p5Z], fun _ h => by cases h⟩
  | succ j ih => exact stepS_inv (ih (by omega)) (by simp only [saneU]; omega) (by simp only [saneU]; omega)
theorem KSane.form {k : SpK} (h : KSane k) : ∃ SA sc A c A' c', k = ⟨0, 1, [⟨5, A, c, filePics 1 1 1 40⟩, ⟨7, A', c', filePics 2 1 1 2⟩], SA, sc⟩ := by
  obtain ⟨ch, r, st, SA, sc⟩ := k
  obtain ⟨h1, h2, h3⟩ := h
  simp only at h1 h2 h3
  subst h1
  subst h2
  match st, h3 with
  | [], h3 => cases h3
  | [a], h3 => simp at h3
  | a :: b :: c :: l, h3 => simp at h3
  | [a, b], h3 =>
    obtain ⟨i, A, c, p⟩ := a
    obtain ⟨i', A', c', p'⟩ := b
    simp only [List.map_cons, List.map_nil, List.cons.injEq, Prod.mk.injEq, and_true] at h3
    obtain ⟨⟨rfl, rfl⟩, rfl, rfl⟩ := h3
    exact ⟨SA, sc, A, c, A', c', rfl⟩
theorem lib2_len {A A' : Option Addr} {c c' : Nat} : ∀ a ∈ ([⟨5, A, c, filePics 1 1 1 40⟩, ⟨7, A', c', filePics 2 1 1 2⟩] : List AstA), a.pics.length ≤ 2000000 := by
  intro a ha
  simp only [List.mem_cons, List.not_mem_nil, or_false] at ha
  rcases ha with rfl | rfl <;> simp [filePics]
theorem saneU_spec1 {j : Nat} {A : Option Addr} {c : Nat} (h : j < 12) : UnitA.spec ⟨0, ((10 + j : Nat) : Int), 3, 5, ((10 + j : Nat) : Int), true, ByteArray.mk #[120], 3, 0, ByteArray.mk #[], 20, 2, A, c, [(1, 7)]⟩ = (saneU j).spec := by
  simp [saneU, UnitA.spec, h, xS]
theorem saneU_spec2 {j : Nat} {A : Option Addr} {c : Nat} (h : ¬ j < 12) : UnitA.spec ⟨0, ((10 + j : Nat) : Int), 3, 5, ((10 + j : Nat) : Int), true, ByteArray.mk #[120], 3, 0, ByteArray.mk #[], 0, 0, A, c, []⟩ = (saneU j).spec := by
  simp [saneU, UnitA.spec, h, xS]
set_option maxRecDepth 100000 in
theorem saneOut5 {k : SpK} {j : Nat} (hk : KSane k) (hj : j < 10 ∨ j = 12) : (((stepS k (saneSt k j) (saneU j)).1.item == 5) && (((stepS k (saneSt k j) (saneU j)).1.index == ((10 + j : Nat) : Int)) && ((stepS k (saneSt k j) (saneU j)).2.1 == 3))) = true := by
  obtain ⟨SA, sc, A, c, A', c', rfl⟩ := hk.form
  have h' : j = 0 ∨ j = 1 ∨ j = 2 ∨ j = 3 ∨ j = 4 ∨ j = 5 ∨ j = 6 ∨ j = 7 ∨ j = 8 ∨ j = 9 ∨ j = 12 := by omega
  clear hj
  rcases h' with rfl | rfl | rfl | rfl | rfl | rfl | rfl | rfl | rfl | rfl | rfl <;> (show _ = true; kernel_rfl)
set_option maxRecDepth 100000 in
theorem saneOut7 {k : SpK} {j : Nat} (hk : KSane k) (hj : j = 10 ∨ j = 11) : (((stepS k (saneSt k j) (saneU j)).1.item == 7) && (((stepS k (saneSt k j) (saneU j)).1.index == ((10 + j : Nat) : Int) - 20) && ((stepS k (saneSt k j) (saneU j)).2.1 == 3))) = true := by
  obtain ⟨SA, sc, A, c, A', c', rfl⟩ := hk.form
  rcases hj with rfl | rfl <;> kernel_rfl
theorem saneLast {k : SpK} {s : Sp} (hk : KSane k) : (((stepS k s ⟨0, 23, 2, 0, 0, false, ByteArray.mk #[], 0, 0, ByteArray.mk #[], 0, 0, none, 0, []⟩).1.item == 0) && (((stepS k s ⟨0, 23, 2, 0, 0, false, ByteArray.mk #[], 0, 0, ByteArray.mk #[], 0, 0, none, 0, []⟩).1.index == 0) && ((stepS k s ⟨0, 23, 2, 0, 0, false, ByteArray.mk #[], 0, 0, ByteArray.mk #[], 0, 0, none, 0, []⟩).2.1 == 2))) = true := by
  rw [stepS_slate k s _ hk.1.symm rfl]
  rfl
set_option maxRecDepth 100000 in
set_option maxHeartbeats 8000000 in
theorem sane_any (w : World) : Calls Try.prog 8 #[] w fun e w' => e = .returned (.bool true) ∧ Below w.heap.size w w' := by
  have HP := Hp.start w
  refine w_enter 78 [] Try.func8 rfl Try.ntmps8 (by kernel_rfl) (by kernel_rfl) ?_
  intro a H
  refine wp_seq ?_
  refine w_region ?_
  refine H.val 0 (.bool false) (by kernel_rfl) (by kernel_rfl) ?_
  intro a H
  refine wpList_nil ?_
  refine then_normal ?_
  refine wp_seq ?_
  refine w_region ?_
  refine H.call 10 (by kernel_rfl) (Eq.trans (by kernel_rfl : _ = (callFunc 23 #[(.int .i64 5), (.int .i64 40), (.int .i64 1), (.int .i64 1), (.int .i64 1)]).run Try.prog w) (Try.call23 _ _)) ((by have := file_any 5 40 1 1 1 w (by omega) (by omega) (by omega) (by omega) (by omega); exact this)) ?_
  rintro e w_4 ⟨B_2, c_3, rfl, q1file1, q2file1, q3file1, q4file1, hb, q5⟩
  refine ⟨_, rfl, ?_⟩
  intro a H
  have HP := HP.gain hb (picR B_2 (filePics 1 1 1 40)) q1file1 (picR_ok _ _) (fun k hk => row_lt q1file1.2 hk) (fun k hk => hk.2.elim fun off e => q5 k off e)
  refine H.call 11 (by kernel_rfl) (Eq.trans (by kernel_rfl : _ = (callFunc 23 #[(.int .i64 7), (.int .i64 2), (.int .i64 2), (.int .i64 1), (.int .i64 1)]).run Try.prog w_4) (Try.call23 _ _)) ((by have := file_any 7 2 2 1 1 w_4 (by omega) (by omega) (by omega) (by omega) (by omega); exact this)) ?_
  rintro e w_8 ⟨B_6, c_7, rfl, q1file2, q2file2, q3file2, q4file2, hb, q5⟩
  refine ⟨_, rfl, ?_⟩
  intro a H
  have HP := HP.gain hb (picR B_6 (filePics 2 1 1 2)) q1file2 (picR_ok _ _) (fun k hk => row_lt q1file2.2 hk) (fun k hk => hk.2.elim fun off e => q5 k off e)
  refine H.alloc HP 12 (fun b => (.slice (some ⟨b, 0, none⟩) 2 2)) 49 [(.int .i64 5), (.slice B_2 ((filePics 1 1 1 40).length) c_3), (.int .i64 7), (.slice B_6 ((filePics 2 1 1 2).length) c_7)] (by kernel_rfl) (fun w => by kernel_rfl) ?_
  intro b_9 w_10 a H HP
  refine H.val 1 (.slice (some ⟨b_9, 0, none⟩) 2 2) (by kernel_rfl) (by kernel_rfl) ?_
  intro a H
  refine wpList_nil ?_
  refine then_normal ?_
  refine wp_seq ?_
  refine w_region ?_
  refine H.val 14 (.slice (some ⟨b_9, 0, none⟩) 2 2) (by kernel_rfl) (by kernel_rfl) ?_
  intro a H
  refine H.call 15 (by kernel_rfl) (Eq.trans (by kernel_rfl : _ = (callFunc 10 #[(.int .i64 0), (.int .i64 1), (.slice (some ⟨b_9, 0, none⟩) 2 2)]).run Try.prog w_10) (Try.call10 _ _)) ((new_ok 0 1 (some ⟨b_9, 0, none⟩) 2 2 [⟨5, B_2, c_3, filePics 1 1 1 40⟩, ⟨7, B_6, c_7, filePics 2 1 1 2⟩] w_10 (lib2 (HP.at_ 0 rfl) (HP.held 2 rfl) (HP.held 1 rfl) q2file1 q3file1 q4file1 q2file2 q3file2 q4file2) ⟨lib2_len, by omega⟩ (by kernel_rfl))) ?_
  rintro e w_11 ⟨b, k, rfl, hspn, hkc, hkr, hks, hb, hnew⟩
  refine ⟨_, rfl, ?_⟩
  intro a H
  have HP := HP.gain hb (splR b k ⟨500, p5Z, []⟩ none 0) hspn (splR_ok _ _ _ _ _) (splR_lt hspn) hnew
  refine H.val 13 (.tuple #[(.pointer (some ⟨b, 0, none⟩)), (.int .i64 0)]) (by kernel_rfl) (by kernel_rfl) ?_
  intro a H
  refine H.val 16 (.pointer (some ⟨b, 0, none⟩)) (by kernel_rfl) (by kernel_rfl) ?_
  intro a H
  refine H.val 17 (.int .i64 0) (by kernel_rfl) (by kernel_rfl) ?_
  intro a H
  refine H.val 2 (.pointer (some ⟨b, 0, none⟩)) (by kernel_rfl) (by kernel_rfl) ?_
  intro a H
  refine H.val 3 (.int .i64 0) (by kernel_rfl) (by kernel_rfl) ?_
  intro a H
  refine wpList_nil ?_
  refine then_normal ?_
  refine wp_seq ?_
  refine w_region ?_
  refine H.val 19 (.slice (some ⟨b_9, 0, none⟩) 2 2) (by kernel_rfl) (by kernel_rfl) ?_
  intro a H
  refine H.call 20 (by kernel_rfl) (Eq.trans (by kernel_rfl : _ = (callFunc 10 #[(.int .i64 0), (.int .i64 8), (.slice (some ⟨b_9, 0, none⟩) 2 2)]).run Try.prog w_11) (Try.call10 _ _)) ((new_bad 0 8 (some ⟨b_9, 0, none⟩) 2 2 [⟨5, B_2, c_3, filePics 1 1 1 40⟩, ⟨7, B_6, c_7, filePics 2 1 1 2⟩] w_11 (lib2 (HP.at_ 1 rfl) (HP.held 3 rfl) (HP.held 2 rfl) q2file1 q3file1 q4file1 q2file2 q3file2 q4file2) ⟨lib2_len, by omega⟩ (by kernel_rfl))) ?_
  rintro e w_12 ⟨rfl, hb⟩
  refine ⟨_, rfl, ?_⟩
  intro a H
  have HP := HP.next hb
  refine H.val 18 (.tuple #[(.pointer none), (.int .i64 230)]) (by kernel_rfl) (by kernel_rfl) ?_
  intro a H
  refine H.val 21 (.pointer none) (by kernel_rfl) (by kernel_rfl) ?_
  intro a H
  refine H.val 22 (.int .i64 230) (by kernel_rfl) (by kernel_rfl) ?_
  intro a H
  refine H.val 4 (.pointer none) (by kernel_rfl) (by kernel_rfl) ?_
  intro a H
  refine H.val 5 (.int .i64 230) (by kernel_rfl) (by kernel_rfl) ?_
  intro a H
  refine wpList_nil ?_
  refine then_normal ?_
  refine wp_seq ?_
  refine wp_seq ?_
  refine w_region ?_
  refine H.val 23 (.int .i64 0) (by kernel_rfl) (by kernel_rfl) ?_
  intro a H
  refine H.val 24 (.bool false) (by kernel_rfl) (by kernel_rfl) ?_
  intro a H
  refine H.val 25 (.bool false) (by kernel_rfl) (by kernel_rfl) ?_
  intro a H
  refine H.val 26 (.int .i64 230) (by kernel_rfl) (by kernel_rfl) ?_
  intro a H
  refine H.val 27 (.bool false) (by kernel_rfl) (by kernel_rfl) ?_
  intro a H
  refine H.val 28 (.bool false) (by kernel_rfl) (by kernel_rfl) ?_
  intro a H
  refine H.val 29 (.bool false) (by kernel_rfl) (by kernel_rfl) ?_
  intro a H
  refine H.val 30 (.pointer (some ⟨b, 0, none⟩)) (by kernel_rfl) (by kernel_rfl) ?_
  intro a H
  refine H.val 31 (.bool false) (by kernel_rfl) (by kernel_rfl) ?_
  intro a H
  refine H.val 32 (.bool false) (by kernel_rfl) (by kernel_rfl) ?_
  intro a H
  refine H.val 33 (.bool false) (by kernel_rfl) (by kernel_rfl) ?_
  intro a H
  refine H.val 34 (.pointer (some ⟨b, 0, none⟩)) (by kernel_rfl) (by kernel_rfl) ?_
  intro a H
  refine H.call 35 (by kernel_rfl) (Eq.trans (by kernel_rfl : _ = (callFunc 17 #[(.pointer (some ⟨b, 0, none⟩))]).run Try.prog w_12) (Try.call17 _ _)) (full_any b k ⟨500, p5Z, []⟩ w_12 (HP.held 0 rfl).ok) ?_
  rintro e w_13 ⟨rfl, hw⟩
  refine ⟨_, rfl, ?_⟩
  intro a H
  have HP := hw ▸ HP
  refine H.val 36 (.bool false) (by kernel_rfl) (by kernel_rfl) ?_
  intro a H
  refine H.val 37 (.bool false) (by kernel_rfl) (by kernel_rfl) ?_
  intro a H
  refine wpList_nil ?_
  have H := H.keep (L' := [(37, (.bool false)), (5, (.int .i64 230)), (4, (.pointer none)), (22, (.int .i64 230)), (21, (.pointer none)), (18, (.tuple #[(.pointer none), (.int .i64 230)])), (20, (.tuple #[(.pointer none), (.int .i64 230)])), (19, (.slice (some ⟨b_9, 0, none⟩) 2 2)), (3, (.int .i64 0)), (2, (.pointer (some ⟨b, 0, none⟩))), (17, (.int .i64 0)), (16, (.pointer (some ⟨b, 0, none⟩))), (13, (.tuple #[(.pointer (some ⟨b, 0, none⟩)), (.int .i64 0)])), (15, (.tuple #[(.pointer (some ⟨b, 0, none⟩)), (.int .i64 0)])), (14, (.slice (some ⟨b_9, 0, none⟩) 2 2)), (1, (.slice (some ⟨b_9, 0, none⟩) 2 2)), (12, (.slice (some ⟨b_9, 0, none⟩) 2 2)), (11, (.agg #[(.int .i64 7), (.slice B_6 ((filePics 2 1 1 2).length) c_7)])), (10, (.agg #[(.int .i64 5), (.slice B_2 ((filePics 1 1 1 40).length) c_3)])), (0, (.bool false))]) (by kernel_rfl)
  refine then_normal ?_
  refine w_iff H rfl ?_
  refine wp_skip ?_
  refine then_normal ?_
  refine wp_seq ?_
  refine w_region ?_
  refine H.val 6 (.bool true) (by kernel_rfl) (by kernel_rfl) ?_
  intro a H
  refine wpList_nil ?_
  refine then_normal ?_
  refine wp_seq ?_
  refine wp_seq ?_
  refine w_region ?_
  refine H.val 7 (.int .i64 10) (by kernel_rfl) (by kernel_rfl) ?_
  intro a H
  refine wpList_nil ?_
  refine then_normal ?_
  refine wp_block ?_
  obtain ⟨hkk, hkr⟩ : KSane k ∧ k.region = 1 := ⟨⟨hkc, hkr, hks⟩, hkr⟩
  have HP := HP.front 0 rfl [(splR b k ⟨500, p5Z, []⟩ none 0), bx b_9 49 [(.int .i64 5), (.slice B_2 ((filePics 1 1 1 40).length) c_3), (.int .i64 7), (.slice B_6 ((filePics 2 1 1 2).length) c_7)] true, (picR B_6 (filePics 2 1 1 2)), (picR B_2 (filePics 1 1 1 40))] (by kernel_rfl)
  have HP := (((HP.tail2 rfl).tail2 rfl).tail2 rfl)
  have H := H.as 7 (.int .i64 ((10 + 0 : Nat) : Int)) rfl rfl
  refine w_loop (fun mm a v => ∃ (j : Nat), ∃ (NA : Option Addr), ∃ (nc : Nat), 13 - j = mm ∧ Sl 78 [(7, (.int .i64 ((10 + j : Nat) : Int))), (6, (.bool true)), (2, (.pointer (some ⟨b, 0, none⟩))), (0, (.bool false))] a ∧ Hp w v [(splR b k (saneSt k j) NA nc)] [] ∧ (j ≤ 13)) (13 - 0) ?_ ?_
  · exact ⟨0, none, 0, (by omega), H.keep (by kernel_rfl), HP, by omega⟩
  rintro mm a w_14 ⟨j, NA, nc, hmeas, H, HP, hj⟩
  refine wp_seq ?_
  refine wp_seq ?_
  refine w_region ?_
  refine H.val 38 (.int .i64 ((10 + j : Nat) : Int)) (by kernel_rfl) (by kernel_rfl) ?_
  intro a H
  refine H.val 39 (.bool (decide (((10 + j : Nat) : Int) < 23))) (by kernel_rfl) (by kernel_rfl) ?_
  intro a H
  refine wpList_nil ?_
  refine then_normal ?_
  refine w_if H rfl (fun g39 => ?_) (fun g39 => ?_)
  · have g39p := of_decide_eq_true g39
    refine wp_skip ?_
    refine then_normal ?_
    refine wp_seq ?_
    refine wp_block ?_
    refine wp_seq ?_
    refine w_region ?_
    refine H.val 42 (.int .i64 ((10 + j : Nat) : Int)) (by kernel_rfl) (by kernel_rfl) ?_
    intro a H
    refine H.val 43 (.int .i64 ((10 + j : Nat) : Int)) (by kernel_rfl) (by kernel_rfl) ?_
    intro a H
    refine H.val 44 (.agg #[(.int .i64 0), (.int .i64 ((10 + j : Nat) : Int)), (.int .i64 3), (.int .i64 5), (.int .i64 ((10 + j : Nat) : Int)), (.bool true), (.string (ByteArray.mk #[120])), (.int .i64 3), (.int .i64 0), (.string (ByteArray.mk #[])), (.int .i64 0), (.int .i64 0), (.slice none 0 0)]) (by kernel_rfl) (by kernel_rfl) ?_
    intro a H
    refine H.alloc HP 8 (fun b => (.pointer (some ⟨b, 0, none⟩))) 46 [(.int .i64 0), (.int .i64 0), (.int .i64 0), (.int .i64 0), (.int .i64 0), (.bool false), (.string (ByteArray.mk #[])), (.int .i64 0), (.int .i64 0), (.string (ByteArray.mk #[])), (.int .i64 0), (.int .i64 0), (.slice none 0 0)] (by kernel_rfl) (fun w => by kernel_rfl) ?_
    intro b_15 w_16 a H HP
    refine H.store HP 0 b_15 0 13 46 [(.int .i64 0), (.int .i64 0), (.int .i64 0), (.int .i64 0), (.int .i64 0), (.bool false), (.string (ByteArray.mk #[])), (.int .i64 0), (.int .i64 0), (.string (ByteArray.mk #[])), (.int .i64 0), (.int .i64 0), (.slice none 0 0)] true (.agg #[(.int .i64 0), (.int .i64 ((10 + j : Nat) : Int)), (.int .i64 3), (.int .i64 5), (.int .i64 ((10 + j : Nat) : Int)), (.bool true), (.string (ByteArray.mk #[120])), (.int .i64 3), (.int .i64 0), (.string (ByteArray.mk #[])), (.int .i64 0), (.int .i64 0), (.slice none 0 0)]) [bx b_15 46 [(.int .i64 0), (.int .i64 ((10 + j : Nat) : Int)), (.int .i64 3), (.int .i64 5), (.int .i64 ((10 + j : Nat) : Int)), (.bool true), (.string (ByteArray.mk #[120])), (.int .i64 3), (.int .i64 0), (.string (ByteArray.mk #[])), (.int .i64 0), (.int .i64 0), (.slice none 0 0)] true, (splR b k (saneSt k j) NA nc)] (by kernel_rfl) (by kernel_rfl) (by kernel_rfl) rfl (by kernel_rfl) (by kernel_rfl) (by kernel_rfl) (by kernel_rfl) (by kernel_rfl) ?_
    intro w_17 a H HP
    refine wpList_nil ?_
    refine then_normal ?_
    refine wp_seq ?_
    refine wp_seq ?_
    refine w_region ?_
    refine H.val 45 (.int .i64 ((10 + j : Nat) : Int)) (by kernel_rfl) (by kernel_rfl) ?_
    intro a H
    refine H.val 46 (.bool (decide (((10 + j : Nat) : Int) < 22))) (by kernel_rfl) (by kernel_rfl) ?_
    intro a H
    refine wpList_nil ?_
    refine then_normal ?_
    refine w_if H rfl (fun g46 => ?_) (fun g46 => ?_)
    · have g46p := of_decide_eq_true g46
      refine w_region ?_
      refine H.val 47 (.agg #[(.int .i64 1), (.int .i64 7)]) (by kernel_rfl) (by kernel_rfl) ?_
      intro a H
      refine H.alloc HP 48 (fun b => (.slice (some ⟨b, 0, none⟩) 1 1)) 69 [(.int .i64 1), (.int .i64 7)] (by kernel_rfl) (fun w => by kernel_rfl) ?_
      intro b_18 w_19 a H HP
      refine H.val 49 (.agg #[(.int .i64 20), (.int .i64 2), (.slice (some ⟨b_18, 0, none⟩) 1 1)]) (by kernel_rfl) (by kernel_rfl) ?_
      intro a H
      refine H.val 50 (.pointer (some ⟨b_15, 10, none⟩)) (by kernel_rfl) (by kernel_rfl) ?_
      intro a H
      refine H.store HP 1 b_15 10 3 46 [(.int .i64 0), (.int .i64 ((10 + j : Nat) : Int)), (.int .i64 3), (.int .i64 5), (.int .i64 ((10 + j : Nat) : Int)), (.bool true), (.string (ByteArray.mk #[120])), (.int .i64 3), (.int .i64 0), (.string (ByteArray.mk #[])), (.int .i64 0), (.int .i64 0), (.slice none 0 0)] true (.agg #[(.int .i64 20), (.int .i64 2), (.slice (some ⟨b_18, 0, none⟩) 1 1)]) [bx b_18 69 [(.int .i64 1), (.int .i64 7)] true, bx b_15 46 [(.int .i64 0), (.int .i64 ((10 + j : Nat) : Int)), (.int .i64 3), (.int .i64 5), (.int .i64 ((10 + j : Nat) : Int)), (.bool true), (.string (ByteArray.mk #[120])), (.int .i64 3), (.int .i64 0), (.string (ByteArray.mk #[])), (.int .i64 20), (.int .i64 2), (.slice (some ⟨b_18, 0, none⟩) 1 1)] true, (splR b k (saneSt k j) NA nc)] (by kernel_rfl) (by kernel_rfl) (by kernel_rfl) rfl (by kernel_rfl) (by kernel_rfl) (by kernel_rfl) (by kernel_rfl) (by kernel_rfl) ?_
      intro w_20 a H HP
      refine wpList_nil ?_
      refine then_normal ?_
      refine wp_seq ?_
      refine w_region ?_
      refine H.val 51 (.int .i64 ((10 + j : Nat) : Int)) (by kernel_rfl) (by kernel_rfl) ?_
      intro a H
      refine H.val 52 (.agg #[(.int .i64 5), (.int .i64 ((10 + j : Nat) : Int)), (.int .i64 3)]) (by kernel_rfl) (by kernel_rfl) ?_
      intro a H
      refine H.alloc HP 9 (fun b => (.pointer (some ⟨b, 0, none⟩))) 36 [(.int .i64 0), (.int .i64 0), (.int .i64 0)] (by kernel_rfl) (fun w => by kernel_rfl) ?_
      intro b_21 w_22 a H HP
      refine H.store HP 0 b_21 0 3 36 [(.int .i64 0), (.int .i64 0), (.int .i64 0)] true (.agg #[(.int .i64 5), (.int .i64 ((10 + j : Nat) : Int)), (.int .i64 3)]) [bx b_21 36 [(.int .i64 5), (.int .i64 ((10 + j : Nat) : Int)), (.int .i64 3)] true, bx b_18 69 [(.int .i64 1), (.int .i64 7)] true, bx b_15 46 [(.int .i64 0), (.int .i64 ((10 + j : Nat) : Int)), (.int .i64 3), (.int .i64 5), (.int .i64 ((10 + j : Nat) : Int)), (.bool true), (.string (ByteArray.mk #[120])), (.int .i64 3), (.int .i64 0), (.string (ByteArray.mk #[])), (.int .i64 20), (.int .i64 2), (.slice (some ⟨b_18, 0, none⟩) 1 1)] true, (splR b k (saneSt k j) NA nc)] (by kernel_rfl) (by kernel_rfl) (by kernel_rfl) rfl (by kernel_rfl) (by kernel_rfl) (by kernel_rfl) (by kernel_rfl) (by kernel_rfl) ?_
      intro w_23 a H HP
      refine wpList_nil ?_
      refine then_normal ?_
      refine wp_seq ?_
      refine wp_seq ?_
      refine w_region ?_
      refine H.val 53 (.int .i64 ((10 + j : Nat) : Int)) (by kernel_rfl) (by kernel_rfl) ?_
      intro a H
      refine H.val 54 (.bool (((10 + j : Nat) : Int) == 20)) (by kernel_rfl) (by kernel_rfl) ?_
      intro a H
      refine H.val 55 (.bool (((10 + j : Nat) : Int) == 20)) (by kernel_rfl) (by kernel_rfl) ?_
      intro a H
      refine H.split 55 rfl (fun g55 H => ?_) (fun g55 H => ?_)
      · have g55p := eq_of_beq g55
        refine H.skip 56 (by kernel_rfl) ?_
        intro a H
        refine H.skip 57 (by kernel_rfl) ?_
        intro a H
        refine H.val 58 (.bool true) (by kernel_rfl) (by kernel_rfl) ?_
        intro a H
        refine wpList_nil ?_
        have H := H.keep (L' := [(58, (.bool true)), (9, (.pointer (some ⟨b_21, 0, none⟩))), (52, (.agg #[(.int .i64 5), (.int .i64 ((10 + j : Nat) : Int)), (.int .i64 3)])), (51, (.int .i64 ((10 + j : Nat) : Int))), (50, (.pointer (some ⟨b_15, 10, none⟩))), (49, (.agg #[(.int .i64 20), (.int .i64 2), (.slice (some ⟨b_18, 0, none⟩) 1 1)])), (48, (.slice (some ⟨b_18, 0, none⟩) 1 1)), (47, (.agg #[(.int .i64 1), (.int .i64 7)])), (46, (.bool (decide (((10 + j : Nat) : Int) < 22)))), (45, (.int .i64 ((10 + j : Nat) : Int))), (8, (.pointer (some ⟨b_15, 0, none⟩))), (44, (.agg #[(.int .i64 0), (.int .i64 ((10 + j : Nat) : Int)), (.int .i64 3), (.int .i64 5), (.int .i64 ((10 + j : Nat) : Int)), (.bool true), (.string (ByteArray.mk #[120])), (.int .i64 3), (.int .i64 0), (.string (ByteArray.mk #[])), (.int .i64 0), (.int .i64 0), (.slice none 0 0)])), (43, (.int .i64 ((10 + j : Nat) : Int))), (42, (.int .i64 ((10 + j : Nat) : Int))), (39, (.bool (decide (((10 + j : Nat) : Int) < 23)))), (38, (.int .i64 ((10 + j : Nat) : Int))), (7, (.int .i64 ((10 + j : Nat) : Int))), (6, (.bool true)), (2, (.pointer (some ⟨b, 0, none⟩))), (0, (.bool false))]) (by kernel_rfl)
        refine then_normal ?_
        refine w_ift H rfl ?_
        refine w_region ?_
        refine H.val 59 (.int .i64 ((10 + j : Nat) : Int)) (by kernel_rfl) (by kernel_rfl) ?_
        intro a H
        refine H.valE 60 (.int .i64 (IntKind.i64.wrap (((10 + j : Nat) : Int) - 20))) (.int .i64 (((10 + j : Nat) : Int) - 20)) (by kernel_rfl) (by kernel_rfl) ((by rw [wrap_ini64 _ (by omega)])) ?_
        intro a H
        refine H.val 61 (.agg #[(.int .i64 7), (.int .i64 (((10 + j : Nat) : Int) - 20)), (.int .i64 3)]) (by kernel_rfl) (by kernel_rfl) ?_
        intro a H
        refine H.store HP 0 b_21 0 3 36 [(.int .i64 5), (.int .i64 ((10 + j : Nat) : Int)), (.int .i64 3)] true (.agg #[(.int .i64 7), (.int .i64 (((10 + j : Nat) : Int) - 20)), (.int .i64 3)]) [bx b_21 36 [(.int .i64 7), (.int .i64 (((10 + j : Nat) : Int) - 20)), (.int .i64 3)] true, bx b_18 69 [(.int .i64 1), (.int .i64 7)] true, bx b_15 46 [(.int .i64 0), (.int .i64 ((10 + j : Nat) : Int)), (.int .i64 3), (.int .i64 5), (.int .i64 ((10 + j : Nat) : Int)), (.bool true), (.string (ByteArray.mk #[120])), (.int .i64 3), (.int .i64 0), (.string (ByteArray.mk #[])), (.int .i64 20), (.int .i64 2), (.slice (some ⟨b_18, 0, none⟩) 1 1)] true, (splR b k (saneSt k j) NA nc)] (by kernel_rfl) (by kernel_rfl) (by kernel_rfl) rfl (by kernel_rfl) (by kernel_rfl) (by kernel_rfl) (by kernel_rfl) (by kernel_rfl) ?_
        intro w_24 a H HP
        refine wpList_nil ?_
        refine then_normal ?_
        have HP := HP.front 3 rfl [(splR b k (saneSt k j) NA nc), bx b_21 36 [(.int .i64 7), (.int .i64 (((10 + j : Nat) : Int) - 20)), (.int .i64 3)] true, bx b_18 69 [(.int .i64 1), (.int .i64 7)] true, bx b_15 46 [(.int .i64 0), (.int .i64 ((10 + j : Nat) : Int)), (.int .i64 3), (.int .i64 5), (.int .i64 ((10 + j : Nat) : Int)), (.bool true), (.string (ByteArray.mk #[120])), (.int .i64 3), (.int .i64 0), (.string (ByteArray.mk #[])), (.int .i64 20), (.int .i64 2), (.slice (some ⟨b_18, 0, none⟩) 1 1)] true] (by kernel_rfl)
        refine An.start (fun v => Hp w v [bx b_21 36 [(.int .i64 7), (.int .i64 (((10 + j : Nat) : Int) - 20)), (.int .i64 3)] true, bx b_18 69 [(.int .i64 1), (.int .i64 7)] true, bx b_15 46 [(.int .i64 0), (.int .i64 ((10 + j : Nat) : Int)), (.int .i64 3), (.int .i64 5), (.int .i64 ((10 + j : Nat) : Int)), (.bool true), (.string (ByteArray.mk #[120])), (.int .i64 3), (.int .i64 0), (.string (ByteArray.mk #[])), (.int .i64 20), (.int .i64 2), (.slice (some ⟨b_18, 0, none⟩) 1 1)] true] []) 9 9 HP wide_follows rfl ?_
        intro w_25 HP
        refine An.pure H (.inr ((HP.tail rfl))) 0 62 (.bool true) rfl (by kernel_rfl) (by kernel_rfl) (fun _ _ _ h => h) (fun _ => by kernel_rfl) ?_
        intro a H
        refine An.pure H (.inr ((HP.tail rfl))) 1 63 (.bool true) rfl (by kernel_rfl) (by kernel_rfl) (fun _ _ _ h => h) (fun _ => by kernel_rfl) ?_
        intro a H
        refine An.pure H (.inr ((HP.tail rfl))) 2 64 (.pointer (some ⟨b, 0, none⟩)) rfl (by kernel_rfl) (by kernel_rfl) (fun _ _ _ h => h) (fun _ => by kernel_rfl) ?_
        intro a H
        refine An.val H ((HP.tail rfl)) 3 65 (.agg #[(.int .i64 0), (.int .i64 ((10 + j : Nat) : Int)), (.int .i64 3), (.int .i64 5), (.int .i64 ((10 + j : Nat) : Int)), (.bool true), (.string (ByteArray.mk #[120])), (.int .i64 3), (.int .i64 0), (.string (ByteArray.mk #[])), (.int .i64 20), (.int .i64 2), (.slice (some ⟨b_18, 0, none⟩) 1 1)]) rfl (by kernel_rfl) (by kernel_rfl) (fun _ _ _ h => h) (fun _ hS => ex_loadN (vs := [(.int .i64 0), (.int .i64 ((10 + j : Nat) : Int)), (.int .i64 3), (.int .i64 5), (.int .i64 ((10 + j : Nat) : Int)), (.bool true), (.string (ByteArray.mk #[120])), (.int .i64 3), (.int .i64 0), (.string (ByteArray.mk #[])), (.int .i64 20), (.int .i64 2), (.slice (some ⟨b_18, 0, none⟩) 1 1)]) (by kernel_rfl) (by kernel_rfl) (by kernel_rfl) rfl (hS.cells 2 rfl 0 13 (by kernel_rfl))) ?_
        intro a H
        refine An.val H ((HP.tail rfl)) 5 67 (.agg #[(.int .i64 7), (.int .i64 (((10 + j : Nat) : Int) - 20)), (.int .i64 3)]) rfl (by kernel_rfl) (by kernel_rfl) (fun _ _ _ h => h) (fun _ hS => ex_loadN (vs := [(.int .i64 7), (.int .i64 (((10 + j : Nat) : Int) - 20)), (.int .i64 3)]) (by kernel_rfl) (by kernel_rfl) (by kernel_rfl) rfl (hS.cells 0 rfl 0 3 (by kernel_rfl))) ?_
        intro a H
        refine An.one 4 (by kernel_rfl) ?_
        refine Op.call H 66 rfl (by kernel_rfl) (Eq.trans (by kernel_rfl : _ = (callFunc 14 #[(.pointer (some ⟨b, 0, none⟩)), (.agg #[(.int .i64 0), (.int .i64 ((10 + j : Nat) : Int)), (.int .i64 3), (.int .i64 5), (.int .i64 ((10 + j : Nat) : Int)), (.bool true), (.string (ByteArray.mk #[120])), (.int .i64 3), (.int .i64 0), (.string (ByteArray.mk #[])), (.int .i64 20), (.int .i64 2), (.slice (some ⟨b_18, 0, none⟩) 1 1)])]).run Try.prog w_25) (Try.call14 _ _)) (step_any b k (saneSt k j) ⟨0, ((10 + j : Nat) : Int), 3, 5, ((10 + j : Nat) : Int), true, (ByteArray.mk #[120]), 3, 0, (ByteArray.mk #[]), 20, 2, (some ⟨b_18, 0, none⟩), 1, [(1, 7)]⟩ w_25 NA nc (HP.held 0 rfl) ⟨⟨rfl, Rd.of_box2 (HP.at_ 2 rfl) rfl⟩, by simp [maxLen], by simp only [UnitA.bd]; omega⟩ (fun jj hj e => by obtain ⟨_, o, e2⟩ := hj; cases e2; exact pairwise_at HP.apart (i := 2) (j := 0) rfl rfl (by omega) _ rfl (.inl e)) (by rw [hkr]; omega) (by rw [hkr]; omega) (saneInv hkk (by omega))) ?_
        rintro e w_28 ⟨rfl, NB_26, cB_27, hsp, hq, hg⟩
        refine ⟨_, rfl, ?_⟩
        intro a H
        have HP := HP.stepped 0 rfl [(splR b k (stepS k (saneSt k j) ⟨0, ((10 + j : Nat) : Int), 3, 5, ((10 + j : Nat) : Int), true, (ByteArray.mk #[120]), 3, 0, (ByteArray.mk #[]), 20, 2, (some ⟨b_18, 0, none⟩), 1, [(1, 7)]⟩).2.2 NB_26 cB_27), bx b_21 36 [(.int .i64 7), (.int .i64 (((10 + j : Nat) : Int) - 20)), (.int .i64 3)] true, bx b_18 69 [(.int .i64 1), (.int .i64 7)] true, bx b_15 46 [(.int .i64 0), (.int .i64 ((10 + j : Nat) : Int)), (.int .i64 3), (.int .i64 5), (.int .i64 ((10 + j : Nat) : Int)), (.bool true), (.string (ByteArray.mk #[120])), (.int .i64 3), (.int .i64 0), (.string (ByteArray.mk #[])), (.int .i64 20), (.int .i64 2), (.slice (some ⟨b_18, 0, none⟩) 1 1)] true] (by kernel_rfl) hsp hq hg
        refine ⟨.inr ((HP.tail rfl)), ?_⟩
        refine An.pureE H (.inr ((HP.tail rfl))) 6 68 (.bool ((((stepS k (saneSt k j) ⟨0, ((10 + j : Nat) : Int), 3, 5, ((10 + j : Nat) : Int), true, (ByteArray.mk #[120]), 3, 0, (ByteArray.mk #[]), 20, 2, (some ⟨b_18, 0, none⟩), 1, [(1, 7)]⟩).1.item) == 7) && ((((stepS k (saneSt k j) ⟨0, ((10 + j : Nat) : Int), 3, 5, ((10 + j : Nat) : Int), true, (ByteArray.mk #[120]), 3, 0, (ByteArray.mk #[]), 20, 2, (some ⟨b_18, 0, none⟩), 1, [(1, 7)]⟩).1.index) == (((10 + j : Nat) : Int) - 20)) && (((stepS k (saneSt k j) ⟨0, ((10 + j : Nat) : Int), 3, 5, ((10 + j : Nat) : Int), true, (ByteArray.mk #[120]), 3, 0, (ByteArray.mk #[]), 20, 2, (some ⟨b_18, 0, none⟩), 1, [(1, 7)]⟩).2.1) == 3)))) (.bool true) rfl (by kernel_rfl) (by kernel_rfl) (fun _ _ _ h => h) (fun _ => ex_eqSh (a0 := ((stepS k (saneSt k j) ⟨0, ((10 + j : Nat) : Int), 3, 5, ((10 + j : Nat) : Int), true, (ByteArray.mk #[120]), 3, 0, (ByteArray.mk #[]), 20, 2, (some ⟨b_18, 0, none⟩), 1, [(1, 7)]⟩).1.item)) (a1 := ((stepS k (saneSt k j) ⟨0, ((10 + j : Nat) : Int), 3, 5, ((10 + j : Nat) : Int), true, (ByteArray.mk #[120]), 3, 0, (ByteArray.mk #[]), 20, 2, (some ⟨b_18, 0, none⟩), 1, [(1, 7)]⟩).1.index)) (a2 := ((stepS k (saneSt k j) ⟨0, ((10 + j : Nat) : Int), 3, 5, ((10 + j : Nat) : Int), true, (ByteArray.mk #[120]), 3, 0, (ByteArray.mk #[]), 20, 2, (some ⟨b_18, 0, none⟩), 1, [(1, 7)]⟩).2.1)) (b0 := 7) (b1 := (((10 + j : Nat) : Int) - 20)) (b2 := 3) (by kernel_rfl) (by kernel_rfl)) ((congrArg Value.bool (by rw [stepS_spec (u := ⟨0, ((10 + j : Nat) : Int), 3, 5, ((10 + j : Nat) : Int), true, (ByteArray.mk #[120]), 3, 0, (ByteArray.mk #[]), 20, 2, (some ⟨b_18, 0, none⟩), 1, [(1, 7)]⟩) (u' := saneU j) (saneU_spec1 (by omega))]; exact saneOut7 hkk (by omega)))) ?_
        intro a H
        refine An.pure H (.inr ((HP.tail rfl))) 7 69 (.bool true) rfl (by kernel_rfl) (by kernel_rfl) (fun _ _ _ h => h) (fun _ => by kernel_rfl) ?_
        intro a H
        refine An.pure H (.inr ((HP.tail rfl))) 8 6 (.bool true) rfl (by kernel_rfl) (by kernel_rfl) (fun _ _ _ h => h) (fun _ => by kernel_rfl) ?_
        intro a H
        refine An.done (by kernel_rfl) ?_
        have H := H.keep (L' := [(6, (.bool true)), (61, (.agg #[(.int .i64 7), (.int .i64 (((10 + j : Nat) : Int) - 20)), (.int .i64 3)])), (60, (.int .i64 (((10 + j : Nat) : Int) - 20))), (59, (.int .i64 ((10 + j : Nat) : Int))), (58, (.bool true)), (9, (.pointer (some ⟨b_21, 0, none⟩))), (52, (.agg #[(.int .i64 5), (.int .i64 ((10 + j : Nat) : Int)), (.int .i64 3)])), (51, (.int .i64 ((10 + j : Nat) : Int))), (50, (.pointer (some ⟨b_15, 10, none⟩))), (49, (.agg #[(.int .i64 20), (.int .i64 2), (.slice (some ⟨b_18, 0, none⟩) 1 1)])), (48, (.slice (some ⟨b_18, 0, none⟩) 1 1)), (47, (.agg #[(.int .i64 1), (.int .i64 7)])), (46, (.bool (decide (((10 + j : Nat) : Int) < 22)))), (45, (.int .i64 ((10 + j : Nat) : Int))), (8, (.pointer (some ⟨b_15, 0, none⟩))), (44, (.agg #[(.int .i64 0), (.int .i64 ((10 + j : Nat) : Int)), (.int .i64 3), (.int .i64 5), (.int .i64 ((10 + j : Nat) : Int)), (.bool true), (.string (ByteArray.mk #[120])), (.int .i64 3), (.int .i64 0), (.string (ByteArray.mk #[])), (.int .i64 0), (.int .i64 0), (.slice none 0 0)])), (43, (.int .i64 ((10 + j : Nat) : Int))), (42, (.int .i64 ((10 + j : Nat) : Int))), (39, (.bool (decide (((10 + j : Nat) : Int) < 23)))), (38, (.int .i64 ((10 + j : Nat) : Int))), (7, (.int .i64 ((10 + j : Nat) : Int))), (2, (.pointer (some ⟨b, 0, none⟩))), (0, (.bool false))]) (by kernel_rfl)
        refine inb_normal ?_
        refine then_normal ?_
        refine w_region ?_
        refine H.val 40 (.int .i64 ((10 + j : Nat) : Int)) (by kernel_rfl) (by kernel_rfl) ?_
        intro a H
        refine H.valE 41 (.int .i64 (IntKind.i64.wrap (((10 + j : Nat) : Int) + 1))) (.int .i64 (((10 + j : Nat) : Int) + 1)) (by kernel_rfl) (by kernel_rfl) ((by rw [wrap_ini64 _ (by omega)])) ?_
        intro a H
        refine H.val 7 (.int .i64 (((10 + j : Nat) : Int) + 1)) (by kernel_rfl) (by kernel_rfl) ?_
        intro a H
        refine wpList_nil ?_
        refine then_normal ?_
        have H := H.as 7 (.int .i64 ((10 + (j + 1) : Nat) : Int)) rfl (by congr 1)
        refine ⟨_, ?_, j + 1, NB_26, cB_27, rfl, H.keep (by kernel_rfl), (by have hh := (((HP.tail2 rfl).tail2 rfl).tail2 rfl); rw [stepS_spec (u := ⟨0, ((10 + j : Nat) : Int), 3, 5, ((10 + j : Nat) : Int), true, (ByteArray.mk #[120]), 3, 0, (ByteArray.mk #[]), 20, 2, (some ⟨b_18, 0, none⟩), 1, [(1, 7)]⟩) (u' := saneU j) (saneU_spec1 (by omega))] at hh; exact hh), by omega⟩
        omega
      · have g55p := ne_of_beq_false g55
        refine H.val 56 (.int .i64 ((10 + j : Nat) : Int)) (by kernel_rfl) (by kernel_rfl) ?_
        intro a H
        refine H.val 57 (.bool (((10 + j : Nat) : Int) == 21)) (by kernel_rfl) (by kernel_rfl) ?_
        intro a H
        refine H.val 58 (.bool (((10 + j : Nat) : Int) == 21)) (by kernel_rfl) (by kernel_rfl) ?_
        intro a H
        refine wpList_nil ?_
        have H := H.keep (L' := [(58, (.bool (((10 + j : Nat) : Int) == 21))), (9, (.pointer (some ⟨b_21, 0, none⟩))), (52, (.agg #[(.int .i64 5), (.int .i64 ((10 + j : Nat) : Int)), (.int .i64 3)])), (51, (.int .i64 ((10 + j : Nat) : Int))), (50, (.pointer (some ⟨b_15, 10, none⟩))), (49, (.agg #[(.int .i64 20), (.int .i64 2), (.slice (some ⟨b_18, 0, none⟩) 1 1)])), (48, (.slice (some ⟨b_18, 0, none⟩) 1 1)), (47, (.agg #[(.int .i64 1), (.int .i64 7)])), (46, (.bool (decide (((10 + j : Nat) : Int) < 22)))), (45, (.int .i64 ((10 + j : Nat) : Int))), (8, (.pointer (some ⟨b_15, 0, none⟩))), (44, (.agg #[(.int .i64 0), (.int .i64 ((10 + j : Nat) : Int)), (.int .i64 3), (.int .i64 5), (.int .i64 ((10 + j : Nat) : Int)), (.bool true), (.string (ByteArray.mk #[120])), (.int .i64 3), (.int .i64 0), (.string (ByteArray.mk #[])), (.int .i64 0), (.int .i64 0), (.slice none 0 0)])), (43, (.int .i64 ((10 + j : Nat) : Int))), (42, (.int .i64 ((10 + j : Nat) : Int))), (39, (.bool (decide (((10 + j : Nat) : Int) < 23)))), (38, (.int .i64 ((10 + j : Nat) : Int))), (7, (.int .i64 ((10 + j : Nat) : Int))), (6, (.bool true)), (2, (.pointer (some ⟨b, 0, none⟩))), (0, (.bool false))]) (by kernel_rfl)
        refine then_normal ?_
        refine w_if H rfl (fun g58 => ?_) (fun g58 => ?_)
        · have g58p := eq_of_beq g58
          refine w_region ?_
          refine H.val 59 (.int .i64 ((10 + j : Nat) : Int)) (by kernel_rfl) (by kernel_rfl) ?_
          intro a H
          refine H.valE 60 (.int .i64 (IntKind.i64.wrap (((10 + j : Nat) : Int) - 20))) (.int .i64 (((10 + j : Nat) : Int) - 20)) (by kernel_rfl) (by kernel_rfl) ((by rw [wrap_ini64 _ (by omega)])) ?_
          intro a H
          refine H.val 61 (.agg #[(.int .i64 7), (.int .i64 (((10 + j : Nat) : Int) - 20)), (.int .i64 3)]) (by kernel_rfl) (by kernel_rfl) ?_
          intro a H
          refine H.store HP 0 b_21 0 3 36 [(.int .i64 5), (.int .i64 ((10 + j : Nat) : Int)), (.int .i64 3)] true (.agg #[(.int .i64 7), (.int .i64 (((10 + j : Nat) : Int) - 20)), (.int .i64 3)]) [bx b_21 36 [(.int .i64 7), (.int .i64 (((10 + j : Nat) : Int) - 20)), (.int .i64 3)] true, bx b_18 69 [(.int .i64 1), (.int .i64 7)] true, bx b_15 46 [(.int .i64 0), (.int .i64 ((10 + j : Nat) : Int)), (.int .i64 3), (.int .i64 5), (.int .i64 ((10 + j : Nat) : Int)), (.bool true), (.string (ByteArray.mk #[120])), (.int .i64 3), (.int .i64 0), (.string (ByteArray.mk #[])), (.int .i64 20), (.int .i64 2), (.slice (some ⟨b_18, 0, none⟩) 1 1)] true, (splR b k (saneSt k j) NA nc)] (by kernel_rfl) (by kernel_rfl) (by kernel_rfl) rfl (by kernel_rfl) (by kernel_rfl) (by kernel_rfl) (by kernel_rfl) (by kernel_rfl) ?_
          intro w_29 a H HP
          refine wpList_nil ?_
          refine then_normal ?_
          have HP := HP.front 3 rfl [(splR b k (saneSt k j) NA nc), bx b_21 36 [(.int .i64 7), (.int .i64 (((10 + j : Nat) : Int) - 20)), (.int .i64 3)] true, bx b_18 69 [(.int .i64 1), (.int .i64 7)] true, bx b_15 46 [(.int .i64 0), (.int .i64 ((10 + j : Nat) : Int)), (.int .i64 3), (.int .i64 5), (.int .i64 ((10 + j : Nat) : Int)), (.bool true), (.string (ByteArray.mk #[120])), (.int .i64 3), (.int .i64 0), (.string (ByteArray.mk #[])), (.int .i64 20), (.int .i64 2), (.slice (some ⟨b_18, 0, none⟩) 1 1)] true] (by kernel_rfl)
          refine An.start (fun v => Hp w v [bx b_21 36 [(.int .i64 7), (.int .i64 (((10 + j : Nat) : Int) - 20)), (.int .i64 3)] true, bx b_18 69 [(.int .i64 1), (.int .i64 7)] true, bx b_15 46 [(.int .i64 0), (.int .i64 ((10 + j : Nat) : Int)), (.int .i64 3), (.int .i64 5), (.int .i64 ((10 + j : Nat) : Int)), (.bool true), (.string (ByteArray.mk #[120])), (.int .i64 3), (.int .i64 0), (.string (ByteArray.mk #[])), (.int .i64 20), (.int .i64 2), (.slice (some ⟨b_18, 0, none⟩) 1 1)] true] []) 9 9 HP wide_follows rfl ?_
          intro w_30 HP
          refine An.pure H (.inr ((HP.tail rfl))) 0 62 (.bool true) rfl (by kernel_rfl) (by kernel_rfl) (fun _ _ _ h => h) (fun _ => by kernel_rfl) ?_
          intro a H
          refine An.pure H (.inr ((HP.tail rfl))) 1 63 (.bool true) rfl (by kernel_rfl) (by kernel_rfl) (fun _ _ _ h => h) (fun _ => by kernel_rfl) ?_
          intro a H
          refine An.pure H (.inr ((HP.tail rfl))) 2 64 (.pointer (some ⟨b, 0, none⟩)) rfl (by kernel_rfl) (by kernel_rfl) (fun _ _ _ h => h) (fun _ => by kernel_rfl) ?_
          intro a H
          refine An.val H ((HP.tail rfl)) 3 65 (.agg #[(.int .i64 0), (.int .i64 ((10 + j : Nat) : Int)), (.int .i64 3), (.int .i64 5), (.int .i64 ((10 + j : Nat) : Int)), (.bool true), (.string (ByteArray.mk #[120])), (.int .i64 3), (.int .i64 0), (.string (ByteArray.mk #[])), (.int .i64 20), (.int .i64 2), (.slice (some ⟨b_18, 0, none⟩) 1 1)]) rfl (by kernel_rfl) (by kernel_rfl) (fun _ _ _ h => h) (fun _ hS => ex_loadN (vs := [(.int .i64 0), (.int .i64 ((10 + j : Nat) : Int)), (.int .i64 3), (.int .i64 5), (.int .i64 ((10 + j : Nat) : Int)), (.bool true), (.string (ByteArray.mk #[120])), (.int .i64 3), (.int .i64 0), (.string (ByteArray.mk #[])), (.int .i64 20), (.int .i64 2), (.slice (some ⟨b_18, 0, none⟩) 1 1)]) (by kernel_rfl) (by kernel_rfl) (by kernel_rfl) rfl (hS.cells 2 rfl 0 13 (by kernel_rfl))) ?_
          intro a H
          refine An.val H ((HP.tail rfl)) 5 67 (.agg #[(.int .i64 7), (.int .i64 (((10 + j : Nat) : Int) - 20)), (.int .i64 3)]) rfl (by kernel_rfl) (by kernel_rfl) (fun _ _ _ h => h) (fun _ hS => ex_loadN (vs := [(.int .i64 7), (.int .i64 (((10 + j : Nat) : Int) - 20)), (.int .i64 3)]) (by kernel_rfl) (by kernel_rfl) (by kernel_rfl) rfl (hS.cells 0 rfl 0 3 (by kernel_rfl))) ?_
          intro a H
          refine An.one 4 (by kernel_rfl) ?_
          refine Op.call H 66 rfl (by kernel_rfl) (Eq.trans (by kernel_rfl : _ = (callFunc 14 #[(.pointer (some ⟨b, 0, none⟩)), (.agg #[(.int .i64 0), (.int .i64 ((10 + j : Nat) : Int)), (.int .i64 3), (.int .i64 5), (.int .i64 ((10 + j : Nat) : Int)), (.bool true), (.string (ByteArray.mk #[120])), (.int .i64 3), (.int .i64 0), (.string (ByteArray.mk #[])), (.int .i64 20), (.int .i64 2), (.slice (some ⟨b_18, 0, none⟩) 1 1)])]).run Try.prog w_30) (Try.call14 _ _)) (step_any b k (saneSt k j) ⟨0, ((10 + j : Nat) : Int), 3, 5, ((10 + j : Nat) : Int), true, (ByteArray.mk #[120]), 3, 0, (ByteArray.mk #[]), 20, 2, (some ⟨b_18, 0, none⟩), 1, [(1, 7)]⟩ w_30 NA nc (HP.held 0 rfl) ⟨⟨rfl, Rd.of_box2 (HP.at_ 2 rfl) rfl⟩, by simp [maxLen], by simp only [UnitA.bd]; omega⟩ (fun jj hj e => by obtain ⟨_, o, e2⟩ := hj; cases e2; exact pairwise_at HP.apart (i := 2) (j := 0) rfl rfl (by omega) _ rfl (.inl e)) (by rw [hkr]; omega) (by rw [hkr]; omega) (saneInv hkk (by omega))) ?_
          rintro e w_33 ⟨rfl, NB_31, cB_32, hsp, hq, hg⟩
          refine ⟨_, rfl, ?_⟩
          intro a H
          have HP := HP.stepped 0 rfl [(splR b k (stepS k (saneSt k j) ⟨0, ((10 + j : Nat) : Int), 3, 5, ((10 + j : Nat) : Int), true, (ByteArray.mk #[120]), 3, 0, (ByteArray.mk #[]), 20, 2, (some ⟨b_18, 0, none⟩), 1, [(1, 7)]⟩).2.2 NB_31 cB_32), bx b_21 36 [(.int .i64 7), (.int .i64 (((10 + j : Nat) : Int) - 20)), (.int .i64 3)] true, bx b_18 69 [(.int .i64 1), (.int .i64 7)] true, bx b_15 46 [(.int .i64 0), (.int .i64 ((10 + j : Nat) : Int)), (.int .i64 3), (.int .i64 5), (.int .i64 ((10 + j : Nat) : Int)), (.bool true), (.string (ByteArray.mk #[120])), (.int .i64 3), (.int .i64 0), (.string (ByteArray.mk #[])), (.int .i64 20), (.int .i64 2), (.slice (some ⟨b_18, 0, none⟩) 1 1)] true] (by kernel_rfl) hsp hq hg
          refine ⟨.inr ((HP.tail rfl)), ?_⟩
          refine An.pureE H (.inr ((HP.tail rfl))) 6 68 (.bool ((((stepS k (saneSt k j) ⟨0, ((10 + j : Nat) : Int), 3, 5, ((10 + j : Nat) : Int), true, (ByteArray.mk #[120]), 3, 0, (ByteArray.mk #[]), 20, 2, (some ⟨b_18, 0, none⟩), 1, [(1, 7)]⟩).1.item) == 7) && ((((stepS k (saneSt k j) ⟨0, ((10 + j : Nat) : Int), 3, 5, ((10 + j : Nat) : Int), true, (ByteArray.mk #[120]), 3, 0, (ByteArray.mk #[]), 20, 2, (some ⟨b_18, 0, none⟩), 1, [(1, 7)]⟩).1.index) == (((10 + j : Nat) : Int) - 20)) && (((stepS k (saneSt k j) ⟨0, ((10 + j : Nat) : Int), 3, 5, ((10 + j : Nat) : Int), true, (ByteArray.mk #[120]), 3, 0, (ByteArray.mk #[]), 20, 2, (some ⟨b_18, 0, none⟩), 1, [(1, 7)]⟩).2.1) == 3)))) (.bool true) rfl (by kernel_rfl) (by kernel_rfl) (fun _ _ _ h => h) (fun _ => ex_eqSh (a0 := ((stepS k (saneSt k j) ⟨0, ((10 + j : Nat) : Int), 3, 5, ((10 + j : Nat) : Int), true, (ByteArray.mk #[120]), 3, 0, (ByteArray.mk #[]), 20, 2, (some ⟨b_18, 0, none⟩), 1, [(1, 7)]⟩).1.item)) (a1 := ((stepS k (saneSt k j) ⟨0, ((10 + j : Nat) : Int), 3, 5, ((10 + j : Nat) : Int), true, (ByteArray.mk #[120]), 3, 0, (ByteArray.mk #[]), 20, 2, (some ⟨b_18, 0, none⟩), 1, [(1, 7)]⟩).1.index)) (a2 := ((stepS k (saneSt k j) ⟨0, ((10 + j : Nat) : Int), 3, 5, ((10 + j : Nat) : Int), true, (ByteArray.mk #[120]), 3, 0, (ByteArray.mk #[]), 20, 2, (some ⟨b_18, 0, none⟩), 1, [(1, 7)]⟩).2.1)) (b0 := 7) (b1 := (((10 + j : Nat) : Int) - 20)) (b2 := 3) (by kernel_rfl) (by kernel_rfl)) ((congrArg Value.bool (by rw [stepS_spec (u := ⟨0, ((10 + j : Nat) : Int), 3, 5, ((10 + j : Nat) : Int), true, (ByteArray.mk #[120]), 3, 0, (ByteArray.mk #[]), 20, 2, (some ⟨b_18, 0, none⟩), 1, [(1, 7)]⟩) (u' := saneU j) (saneU_spec1 (by omega))]; exact saneOut7 hkk (by omega)))) ?_
          intro a H
          refine An.pure H (.inr ((HP.tail rfl))) 7 69 (.bool true) rfl (by kernel_rfl) (by kernel_rfl) (fun _ _ _ h => h) (fun _ => by kernel_rfl) ?_
          intro a H
          refine An.pure H (.inr ((HP.tail rfl))) 8 6 (.bool true) rfl (by kernel_rfl) (by kernel_rfl) (fun _ _ _ h => h) (fun _ => by kernel_rfl) ?_
          intro a H
          refine An.done (by kernel_rfl) ?_
          have H := H.keep (L' := [(6, (.bool true)), (61, (.agg #[(.int .i64 7), (.int .i64 (((10 + j : Nat) : Int) - 20)), (.int .i64 3)])), (60, (.int .i64 (((10 + j : Nat) : Int) - 20))), (59, (.int .i64 ((10 + j : Nat) : Int))), (58, (.bool (((10 + j : Nat) : Int) == 21))), (9, (.pointer (some ⟨b_21, 0, none⟩))), (52, (.agg #[(.int .i64 5), (.int .i64 ((10 + j : Nat) : Int)), (.int .i64 3)])), (51, (.int .i64 ((10 + j : Nat) : Int))), (50, (.pointer (some ⟨b_15, 10, none⟩))), (49, (.agg #[(.int .i64 20), (.int .i64 2), (.slice (some ⟨b_18, 0, none⟩) 1 1)])), (48, (.slice (some ⟨b_18, 0, none⟩) 1 1)), (47, (.agg #[(.int .i64 1), (.int .i64 7)])), (46, (.bool (decide (((10 + j : Nat) : Int) < 22)))), (45, (.int .i64 ((10 + j : Nat) : Int))), (8, (.pointer (some ⟨b_15, 0, none⟩))), (44, (.agg #[(.int .i64 0), (.int .i64 ((10 + j : Nat) : Int)), (.int .i64 3), (.int .i64 5), (.int .i64 ((10 + j : Nat) : Int)), (.bool true), (.string (ByteArray.mk #[120])), (.int .i64 3), (.int .i64 0), (.string (ByteArray.mk #[])), (.int .i64 0), (.int .i64 0), (.slice none 0 0)])), (43, (.int .i64 ((10 + j : Nat) : Int))), (42, (.int .i64 ((10 + j : Nat) : Int))), (39, (.bool (decide (((10 + j : Nat) : Int) < 23)))), (38, (.int .i64 ((10 + j : Nat) : Int))), (7, (.int .i64 ((10 + j : Nat) : Int))), (2, (.pointer (some ⟨b, 0, none⟩))), (0, (.bool false))]) (by kernel_rfl)
          refine inb_normal ?_
          refine then_normal ?_
          refine w_region ?_
          refine H.val 40 (.int .i64 ((10 + j : Nat) : Int)) (by kernel_rfl) (by kernel_rfl) ?_
          intro a H
          refine H.valE 41 (.int .i64 (IntKind.i64.wrap (((10 + j : Nat) : Int) + 1))) (.int .i64 (((10 + j : Nat) : Int) + 1)) (by kernel_rfl) (by kernel_rfl) ((by rw [wrap_ini64 _ (by omega)])) ?_
          intro a H
          refine H.val 7 (.int .i64 (((10 + j : Nat) : Int) + 1)) (by kernel_rfl) (by kernel_rfl) ?_
          intro a H
          refine wpList_nil ?_
          refine then_normal ?_
          have H := H.as 7 (.int .i64 ((10 + (j + 1) : Nat) : Int)) rfl (by congr 1)
          refine ⟨_, ?_, j + 1, NB_31, cB_32, rfl, H.keep (by kernel_rfl), (by have hh := (((HP.tail2 rfl).tail2 rfl).tail2 rfl); rw [stepS_spec (u := ⟨0, ((10 + j : Nat) : Int), 3, 5, ((10 + j : Nat) : Int), true, (ByteArray.mk #[120]), 3, 0, (ByteArray.mk #[]), 20, 2, (some ⟨b_18, 0, none⟩), 1, [(1, 7)]⟩) (u' := saneU j) (saneU_spec1 (by omega))] at hh; exact hh), by omega⟩
          omega
        · have g58p := ne_of_beq_false g58
          refine wp_skip ?_
          refine then_normal ?_
          have HP := HP.front 3 rfl [(splR b k (saneSt k j) NA nc), bx b_21 36 [(.int .i64 5), (.int .i64 ((10 + j : Nat) : Int)), (.int .i64 3)] true, bx b_18 69 [(.int .i64 1), (.int .i64 7)] true, bx b_15 46 [(.int .i64 0), (.int .i64 ((10 + j : Nat) : Int)), (.int .i64 3), (.int .i64 5), (.int .i64 ((10 + j : Nat) : Int)), (.bool true), (.string (ByteArray.mk #[120])), (.int .i64 3), (.int .i64 0), (.string (ByteArray.mk #[])), (.int .i64 20), (.int .i64 2), (.slice (some ⟨b_18, 0, none⟩) 1 1)] true] (by kernel_rfl)
          refine An.start (fun v => Hp w v [bx b_21 36 [(.int .i64 5), (.int .i64 ((10 + j : Nat) : Int)), (.int .i64 3)] true, bx b_18 69 [(.int .i64 1), (.int .i64 7)] true, bx b_15 46 [(.int .i64 0), (.int .i64 ((10 + j : Nat) : Int)), (.int .i64 3), (.int .i64 5), (.int .i64 ((10 + j : Nat) : Int)), (.bool true), (.string (ByteArray.mk #[120])), (.int .i64 3), (.int .i64 0), (.string (ByteArray.mk #[])), (.int .i64 20), (.int .i64 2), (.slice (some ⟨b_18, 0, none⟩) 1 1)] true] []) 9 9 HP wide_follows rfl ?_
          intro w_34 HP
          refine An.pure H (.inr ((HP.tail rfl))) 0 62 (.bool true) rfl (by kernel_rfl) (by kernel_rfl) (fun _ _ _ h => h) (fun _ => by kernel_rfl) ?_
          intro a H
          refine An.pure H (.inr ((HP.tail rfl))) 1 63 (.bool true) rfl (by kernel_rfl) (by kernel_rfl) (fun _ _ _ h => h) (fun _ => by kernel_rfl) ?_
          intro a H
          refine An.pure H (.inr ((HP.tail rfl))) 2 64 (.pointer (some ⟨b, 0, none⟩)) rfl (by kernel_rfl) (by kernel_rfl) (fun _ _ _ h => h) (fun _ => by kernel_rfl) ?_
          intro a H
          refine An.val H ((HP.tail rfl)) 3 65 (.agg #[(.int .i64 0), (.int .i64 ((10 + j : Nat) : Int)), (.int .i64 3), (.int .i64 5), (.int .i64 ((10 + j : Nat) : Int)), (.bool true), (.string (ByteArray.mk #[120])), (.int .i64 3), (.int .i64 0), (.string (ByteArray.mk #[])), (.int .i64 20), (.int .i64 2), (.slice (some ⟨b_18, 0, none⟩) 1 1)]) rfl (by kernel_rfl) (by kernel_rfl) (fun _ _ _ h => h) (fun _ hS => ex_loadN (vs := [(.int .i64 0), (.int .i64 ((10 + j : Nat) : Int)), (.int .i64 3), (.int .i64 5), (.int .i64 ((10 + j : Nat) : Int)), (.bool true), (.string (ByteArray.mk #[120])), (.int .i64 3), (.int .i64 0), (.string (ByteArray.mk #[])), (.int .i64 20), (.int .i64 2), (.slice (some ⟨b_18, 0, none⟩) 1 1)]) (by kernel_rfl) (by kernel_rfl) (by kernel_rfl) rfl (hS.cells 2 rfl 0 13 (by kernel_rfl))) ?_
          intro a H
          refine An.val H ((HP.tail rfl)) 5 67 (.agg #[(.int .i64 5), (.int .i64 ((10 + j : Nat) : Int)), (.int .i64 3)]) rfl (by kernel_rfl) (by kernel_rfl) (fun _ _ _ h => h) (fun _ hS => ex_loadN (vs := [(.int .i64 5), (.int .i64 ((10 + j : Nat) : Int)), (.int .i64 3)]) (by kernel_rfl) (by kernel_rfl) (by kernel_rfl) rfl (hS.cells 0 rfl 0 3 (by kernel_rfl))) ?_
          intro a H
          refine An.one 4 (by kernel_rfl) ?_
          refine Op.call H 66 rfl (by kernel_rfl) (Eq.trans (by kernel_rfl : _ = (callFunc 14 #[(.pointer (some ⟨b, 0, none⟩)), (.agg #[(.int .i64 0), (.int .i64 ((10 + j : Nat) : Int)), (.int .i64 3), (.int .i64 5), (.int .i64 ((10 + j : Nat) : Int)), (.bool true), (.string (ByteArray.mk #[120])), (.int .i64 3), (.int .i64 0), (.string (ByteArray.mk #[])), (.int .i64 20), (.int .i64 2), (.slice (some ⟨b_18, 0, none⟩) 1 1)])]).run Try.prog w_34) (Try.call14 _ _)) (step_any b k (saneSt k j) ⟨0, ((10 + j : Nat) : Int), 3, 5, ((10 + j : Nat) : Int), true, (ByteArray.mk #[120]), 3, 0, (ByteArray.mk #[]), 20, 2, (some ⟨b_18, 0, none⟩), 1, [(1, 7)]⟩ w_34 NA nc (HP.held 0 rfl) ⟨⟨rfl, Rd.of_box2 (HP.at_ 2 rfl) rfl⟩, by simp [maxLen], by simp only [UnitA.bd]; omega⟩ (fun jj hj e => by obtain ⟨_, o, e2⟩ := hj; cases e2; exact pairwise_at HP.apart (i := 2) (j := 0) rfl rfl (by omega) _ rfl (.inl e)) (by rw [hkr]; omega) (by rw [hkr]; omega) (saneInv hkk (by omega))) ?_
          rintro e w_37 ⟨rfl, NB_35, cB_36, hsp, hq, hg⟩
          refine ⟨_, rfl, ?_⟩
          intro a H
          have HP := HP.stepped 0 rfl [(splR b k (stepS k (saneSt k j) ⟨0, ((10 + j : Nat) : Int), 3, 5, ((10 + j : Nat) : Int), true, (ByteArray.mk #[120]), 3, 0, (ByteArray.mk #[]), 20, 2, (some ⟨b_18, 0, none⟩), 1, [(1, 7)]⟩).2.2 NB_35 cB_36), bx b_21 36 [(.int .i64 5), (.int .i64 ((10 + j : Nat) : Int)), (.int .i64 3)] true, bx b_18 69 [(.int .i64 1), (.int .i64 7)] true, bx b_15 46 [(.int .i64 0), (.int .i64 ((10 + j : Nat) : Int)), (.int .i64 3), (.int .i64 5), (.int .i64 ((10 + j : Nat) : Int)), (.bool true), (.string (ByteArray.mk #[120])), (.int .i64 3), (.int .i64 0), (.string (ByteArray.mk #[])), (.int .i64 20), (.int .i64 2), (.slice (some ⟨b_18, 0, none⟩) 1 1)] true] (by kernel_rfl) hsp hq hg
          refine ⟨.inr ((HP.tail rfl)), ?_⟩
          refine An.pureE H (.inr ((HP.tail rfl))) 6 68 (.bool ((((stepS k (saneSt k j) ⟨0, ((10 + j : Nat) : Int), 3, 5, ((10 + j : Nat) : Int), true, (ByteArray.mk #[120]), 3, 0, (ByteArray.mk #[]), 20, 2, (some ⟨b_18, 0, none⟩), 1, [(1, 7)]⟩).1.item) == 5) && ((((stepS k (saneSt k j) ⟨0, ((10 + j : Nat) : Int), 3, 5, ((10 + j : Nat) : Int), true, (ByteArray.mk #[120]), 3, 0, (ByteArray.mk #[]), 20, 2, (some ⟨b_18, 0, none⟩), 1, [(1, 7)]⟩).1.index) == ((10 + j : Nat) : Int)) && (((stepS k (saneSt k j) ⟨0, ((10 + j : Nat) : Int), 3, 5, ((10 + j : Nat) : Int), true, (ByteArray.mk #[120]), 3, 0, (ByteArray.mk #[]), 20, 2, (some ⟨b_18, 0, none⟩), 1, [(1, 7)]⟩).2.1) == 3)))) (.bool true) rfl (by kernel_rfl) (by kernel_rfl) (fun _ _ _ h => h) (fun _ => ex_eqSh (a0 := ((stepS k (saneSt k j) ⟨0, ((10 + j : Nat) : Int), 3, 5, ((10 + j : Nat) : Int), true, (ByteArray.mk #[120]), 3, 0, (ByteArray.mk #[]), 20, 2, (some ⟨b_18, 0, none⟩), 1, [(1, 7)]⟩).1.item)) (a1 := ((stepS k (saneSt k j) ⟨0, ((10 + j : Nat) : Int), 3, 5, ((10 + j : Nat) : Int), true, (ByteArray.mk #[120]), 3, 0, (ByteArray.mk #[]), 20, 2, (some ⟨b_18, 0, none⟩), 1, [(1, 7)]⟩).1.index)) (a2 := ((stepS k (saneSt k j) ⟨0, ((10 + j : Nat) : Int), 3, 5, ((10 + j : Nat) : Int), true, (ByteArray.mk #[120]), 3, 0, (ByteArray.mk #[]), 20, 2, (some ⟨b_18, 0, none⟩), 1, [(1, 7)]⟩).2.1)) (b0 := 5) (b1 := ((10 + j : Nat) : Int)) (b2 := 3) (by kernel_rfl) (by kernel_rfl)) ((congrArg Value.bool (by rw [stepS_spec (u := ⟨0, ((10 + j : Nat) : Int), 3, 5, ((10 + j : Nat) : Int), true, (ByteArray.mk #[120]), 3, 0, (ByteArray.mk #[]), 20, 2, (some ⟨b_18, 0, none⟩), 1, [(1, 7)]⟩) (u' := saneU j) (saneU_spec1 (by omega))]; exact saneOut5 hkk (by omega)))) ?_
          intro a H
          refine An.pure H (.inr ((HP.tail rfl))) 7 69 (.bool true) rfl (by kernel_rfl) (by kernel_rfl) (fun _ _ _ h => h) (fun _ => by kernel_rfl) ?_
          intro a H
          refine An.pure H (.inr ((HP.tail rfl))) 8 6 (.bool true) rfl (by kernel_rfl) (by kernel_rfl) (fun _ _ _ h => h) (fun _ => by kernel_rfl) ?_
          intro a H
          refine An.done (by kernel_rfl) ?_
          have H := H.keep (L' := [(6, (.bool true)), (58, (.bool (((10 + j : Nat) : Int) == 21))), (9, (.pointer (some ⟨b_21, 0, none⟩))), (52, (.agg #[(.int .i64 5), (.int .i64 ((10 + j : Nat) : Int)), (.int .i64 3)])), (51, (.int .i64 ((10 + j : Nat) : Int))), (50, (.pointer (some ⟨b_15, 10, none⟩))), (49, (.agg #[(.int .i64 20), (.int .i64 2), (.slice (some ⟨b_18, 0, none⟩) 1 1)])), (48, (.slice (some ⟨b_18, 0, none⟩) 1 1)), (47, (.agg #[(.int .i64 1), (.int .i64 7)])), (46, (.bool (decide (((10 + j : Nat) : Int) < 22)))), (45, (.int .i64 ((10 + j : Nat) : Int))), (8, (.pointer (some ⟨b_15, 0, none⟩))), (44, (.agg #[(.int .i64 0), (.int .i64 ((10 + j : Nat) : Int)), (.int .i64 3), (.int .i64 5), (.int .i64 ((10 + j : Nat) : Int)), (.bool true), (.string (ByteArray.mk #[120])), (.int .i64 3), (.int .i64 0), (.string (ByteArray.mk #[])), (.int .i64 0), (.int .i64 0), (.slice none 0 0)])), (43, (.int .i64 ((10 + j : Nat) : Int))), (42, (.int .i64 ((10 + j : Nat) : Int))), (39, (.bool (decide (((10 + j : Nat) : Int) < 23)))), (38, (.int .i64 ((10 + j : Nat) : Int))), (7, (.int .i64 ((10 + j : Nat) : Int))), (2, (.pointer (some ⟨b, 0, none⟩))), (0, (.bool false))]) (by kernel_rfl)
          refine inb_normal ?_
          refine then_normal ?_
          refine w_region ?_
          refine H.val 40 (.int .i64 ((10 + j : Nat) : Int)) (by kernel_rfl) (by kernel_rfl) ?_
          intro a H
          refine H.valE 41 (.int .i64 (IntKind.i64.wrap (((10 + j : Nat) : Int) + 1))) (.int .i64 (((10 + j : Nat) : Int) + 1)) (by kernel_rfl) (by kernel_rfl) ((by rw [wrap_ini64 _ (by omega)])) ?_
          intro a H
          refine H.val 7 (.int .i64 (((10 + j : Nat) : Int) + 1)) (by kernel_rfl) (by kernel_rfl) ?_
          intro a H
          refine wpList_nil ?_
          refine then_normal ?_
          have H := H.as 7 (.int .i64 ((10 + (j + 1) : Nat) : Int)) rfl (by congr 1)
          refine ⟨_, ?_, j + 1, NB_35, cB_36, rfl, H.keep (by kernel_rfl), (by have hh := (((HP.tail2 rfl).tail2 rfl).tail2 rfl); rw [stepS_spec (u := ⟨0, ((10 + j : Nat) : Int), 3, 5, ((10 + j : Nat) : Int), true, (ByteArray.mk #[120]), 3, 0, (ByteArray.mk #[]), 20, 2, (some ⟨b_18, 0, none⟩), 1, [(1, 7)]⟩) (u' := saneU j) (saneU_spec1 (by omega))] at hh; exact hh), by omega⟩
          omega
    · have g46p := of_decide_eq_false g46
      refine wp_skip ?_
      refine then_normal ?_
      refine wp_seq ?_
      refine w_region ?_
      refine H.val 51 (.int .i64 ((10 + j : Nat) : Int)) (by kernel_rfl) (by kernel_rfl) ?_
      intro a H
      refine H.val 52 (.agg #[(.int .i64 5), (.int .i64 ((10 + j : Nat) : Int)), (.int .i64 3)]) (by kernel_rfl) (by kernel_rfl) ?_
      intro a H
      refine H.alloc HP 9 (fun b => (.pointer (some ⟨b, 0, none⟩))) 36 [(.int .i64 0), (.int .i64 0), (.int .i64 0)] (by kernel_rfl) (fun w => by kernel_rfl) ?_
      intro b_38 w_39 a H HP
      refine H.store HP 0 b_38 0 3 36 [(.int .i64 0), (.int .i64 0), (.int .i64 0)] true (.agg #[(.int .i64 5), (.int .i64 ((10 + j : Nat) : Int)), (.int .i64 3)]) [bx b_38 36 [(.int .i64 5), (.int .i64 ((10 + j : Nat) : Int)), (.int .i64 3)] true, bx b_15 46 [(.int .i64 0), (.int .i64 ((10 + j : Nat) : Int)), (.int .i64 3), (.int .i64 5), (.int .i64 ((10 + j : Nat) : Int)), (.bool true), (.string (ByteArray.mk #[120])), (.int .i64 3), (.int .i64 0), (.string (ByteArray.mk #[])), (.int .i64 0), (.int .i64 0), (.slice none 0 0)] true, (splR b k (saneSt k j) NA nc)] (by kernel_rfl) (by kernel_rfl) (by kernel_rfl) rfl (by kernel_rfl) (by kernel_rfl) (by kernel_rfl) (by kernel_rfl) (by kernel_rfl) ?_
      intro w_40 a H HP
      refine wpList_nil ?_
      refine then_normal ?_
      refine wp_seq ?_
      refine wp_seq ?_
      refine w_region ?_
      refine H.val 53 (.int .i64 ((10 + j : Nat) : Int)) (by kernel_rfl) (by kernel_rfl) ?_
      intro a H
      refine H.val 54 (.bool (((10 + j : Nat) : Int) == 20)) (by kernel_rfl) (by kernel_rfl) ?_
      intro a H
      refine H.val 55 (.bool (((10 + j : Nat) : Int) == 20)) (by kernel_rfl) (by kernel_rfl) ?_
      intro a H
      refine H.split 55 rfl (fun g55 H => ?_) (fun g55 H => ?_)
      · have g55p := eq_of_beq g55
        refine H.skip 56 (by kernel_rfl) ?_
        intro a H
        refine H.skip 57 (by kernel_rfl) ?_
        intro a H
        refine H.val 58 (.bool true) (by kernel_rfl) (by kernel_rfl) ?_
        intro a H
        refine wpList_nil ?_
        have H := H.keep (L' := [(58, (.bool true)), (9, (.pointer (some ⟨b_38, 0, none⟩))), (52, (.agg #[(.int .i64 5), (.int .i64 ((10 + j : Nat) : Int)), (.int .i64 3)])), (51, (.int .i64 ((10 + j : Nat) : Int))), (46, (.bool (decide (((10 + j : Nat) : Int) < 22)))), (45, (.int .i64 ((10 + j : Nat) : Int))), (8, (.pointer (some ⟨b_15, 0, none⟩))), (44, (.agg #[(.int .i64 0), (.int .i64 ((10 + j : Nat) : Int)), (.int .i64 3), (.int .i64 5), (.int .i64 ((10 + j : Nat) : Int)), (.bool true), (.string (ByteArray.mk #[120])), (.int .i64 3), (.int .i64 0), (.string (ByteArray.mk #[])), (.int .i64 0), (.int .i64 0), (.slice none 0 0)])), (43, (.int .i64 ((10 + j : Nat) : Int))), (42, (.int .i64 ((10 + j : Nat) : Int))), (39, (.bool (decide (((10 + j : Nat) : Int) < 23)))), (38, (.int .i64 ((10 + j : Nat) : Int))), (7, (.int .i64 ((10 + j : Nat) : Int))), (6, (.bool true)), (2, (.pointer (some ⟨b, 0, none⟩))), (0, (.bool false))]) (by kernel_rfl)
        refine then_normal ?_
        refine w_ift H rfl ?_
        exfalso; omega
      · have g55p := ne_of_beq_false g55
        refine H.val 56 (.int .i64 ((10 + j : Nat) : Int)) (by kernel_rfl) (by kernel_rfl) ?_
        intro a H
        refine H.val 57 (.bool (((10 + j : Nat) : Int) == 21)) (by kernel_rfl) (by kernel_rfl) ?_
        intro a H
        refine H.val 58 (.bool (((10 + j : Nat) : Int) == 21)) (by kernel_rfl) (by kernel_rfl) ?_
        intro a H
        refine wpList_nil ?_
        have H := H.keep (L' := [(58, (.bool (((10 + j : Nat) : Int) == 21))), (9, (.pointer (some ⟨b_38, 0, none⟩))), (52, (.agg #[(.int .i64 5), (.int .i64 ((10 + j : Nat) : Int)), (.int .i64 3)])), (51, (.int .i64 ((10 + j : Nat) : Int))), (46, (.bool (decide (((10 + j : Nat) : Int) < 22)))), (45, (.int .i64 ((10 + j : Nat) : Int))), (8, (.pointer (some ⟨b_15, 0, none⟩))), (44, (.agg #[(.int .i64 0), (.int .i64 ((10 + j : Nat) : Int)), (.int .i64 3), (.int .i64 5), (.int .i64 ((10 + j : Nat) : Int)), (.bool true), (.string (ByteArray.mk #[120])), (.int .i64 3), (.int .i64 0), (.string (ByteArray.mk #[])), (.int .i64 0), (.int .i64 0), (.slice none 0 0)])), (43, (.int .i64 ((10 + j : Nat) : Int))), (42, (.int .i64 ((10 + j : Nat) : Int))), (39, (.bool (decide (((10 + j : Nat) : Int) < 23)))), (38, (.int .i64 ((10 + j : Nat) : Int))), (7, (.int .i64 ((10 + j : Nat) : Int))), (6, (.bool true)), (2, (.pointer (some ⟨b, 0, none⟩))), (0, (.bool false))]) (by kernel_rfl)
        refine then_normal ?_
        refine w_if H rfl (fun g58 => ?_) (fun g58 => ?_)
        · have g58p := eq_of_beq g58
          exfalso; omega
        · have g58p := ne_of_beq_false g58
          refine wp_skip ?_
          refine then_normal ?_
          have HP := HP.front 2 rfl [(splR b k (saneSt k j) NA nc), bx b_38 36 [(.int .i64 5), (.int .i64 ((10 + j : Nat) : Int)), (.int .i64 3)] true, bx b_15 46 [(.int .i64 0), (.int .i64 ((10 + j : Nat) : Int)), (.int .i64 3), (.int .i64 5), (.int .i64 ((10 + j : Nat) : Int)), (.bool true), (.string (ByteArray.mk #[120])), (.int .i64 3), (.int .i64 0), (.string (ByteArray.mk #[])), (.int .i64 0), (.int .i64 0), (.slice none 0 0)] true] (by kernel_rfl)
          refine An.start (fun v => Hp w v [bx b_38 36 [(.int .i64 5), (.int .i64 ((10 + j : Nat) : Int)), (.int .i64 3)] true, bx b_15 46 [(.int .i64 0), (.int .i64 ((10 + j : Nat) : Int)), (.int .i64 3), (.int .i64 5), (.int .i64 ((10 + j : Nat) : Int)), (.bool true), (.string (ByteArray.mk #[120])), (.int .i64 3), (.int .i64 0), (.string (ByteArray.mk #[])), (.int .i64 0), (.int .i64 0), (.slice none 0 0)] true] []) 9 9 HP wide_follows rfl ?_
          intro w_41 HP
          refine An.pure H (.inr ((HP.tail rfl))) 0 62 (.bool true) rfl (by kernel_rfl) (by kernel_rfl) (fun _ _ _ h => h) (fun _ => by kernel_rfl) ?_
          intro a H
          refine An.pure H (.inr ((HP.tail rfl))) 1 63 (.bool true) rfl (by kernel_rfl) (by kernel_rfl) (fun _ _ _ h => h) (fun _ => by kernel_rfl) ?_
          intro a H
          refine An.pure H (.inr ((HP.tail rfl))) 2 64 (.pointer (some ⟨b, 0, none⟩)) rfl (by kernel_rfl) (by kernel_rfl) (fun _ _ _ h => h) (fun _ => by kernel_rfl) ?_
          intro a H
          refine An.val H ((HP.tail rfl)) 3 65 (.agg #[(.int .i64 0), (.int .i64 ((10 + j : Nat) : Int)), (.int .i64 3), (.int .i64 5), (.int .i64 ((10 + j : Nat) : Int)), (.bool true), (.string (ByteArray.mk #[120])), (.int .i64 3), (.int .i64 0), (.string (ByteArray.mk #[])), (.int .i64 0), (.int .i64 0), (.slice none 0 0)]) rfl (by kernel_rfl) (by kernel_rfl) (fun _ _ _ h => h) (fun _ hS => ex_loadN (vs := [(.int .i64 0), (.int .i64 ((10 + j : Nat) : Int)), (.int .i64 3), (.int .i64 5), (.int .i64 ((10 + j : Nat) : Int)), (.bool true), (.string (ByteArray.mk #[120])), (.int .i64 3), (.int .i64 0), (.string (ByteArray.mk #[])), (.int .i64 0), (.int .i64 0), (.slice none 0 0)]) (by kernel_rfl) (by kernel_rfl) (by kernel_rfl) rfl (hS.cells 1 rfl 0 13 (by kernel_rfl))) ?_
          intro a H
          refine An.val H ((HP.tail rfl)) 5 67 (.agg #[(.int .i64 5), (.int .i64 ((10 + j : Nat) : Int)), (.int .i64 3)]) rfl (by kernel_rfl) (by kernel_rfl) (fun _ _ _ h => h) (fun _ hS => ex_loadN (vs := [(.int .i64 5), (.int .i64 ((10 + j : Nat) : Int)), (.int .i64 3)]) (by kernel_rfl) (by kernel_rfl) (by kernel_rfl) rfl (hS.cells 0 rfl 0 3 (by kernel_rfl))) ?_
          intro a H
          refine An.one 4 (by kernel_rfl) ?_
          refine Op.call H 66 rfl (by kernel_rfl) (Eq.trans (by kernel_rfl : _ = (callFunc 14 #[(.pointer (some ⟨b, 0, none⟩)), (.agg #[(.int .i64 0), (.int .i64 ((10 + j : Nat) : Int)), (.int .i64 3), (.int .i64 5), (.int .i64 ((10 + j : Nat) : Int)), (.bool true), (.string (ByteArray.mk #[120])), (.int .i64 3), (.int .i64 0), (.string (ByteArray.mk #[])), (.int .i64 0), (.int .i64 0), (.slice none 0 0)])]).run Try.prog w_41) (Try.call14 _ _)) (step_any b k (saneSt k j) ⟨0, ((10 + j : Nat) : Int), 3, 5, ((10 + j : Nat) : Int), true, (ByteArray.mk #[120]), 3, 0, (ByteArray.mk #[]), 0, 0, none, 0, []⟩ w_41 NA nc (HP.held 0 rfl) ⟨IsAlts.nil _ _, by simp [maxLen], by simp only [UnitA.bd]; omega⟩ (fun j hj _ => by have := hj.1; simp at this) (by rw [hkr]; omega) (by rw [hkr]; omega) (saneInv hkk (by omega))) ?_
          rintro e w_44 ⟨rfl, NB_42, cB_43, hsp, hq, hg⟩
          refine ⟨_, rfl, ?_⟩
          intro a H
          have HP := HP.stepped 0 rfl [(splR b k (stepS k (saneSt k j) ⟨0, ((10 + j : Nat) : Int), 3, 5, ((10 + j : Nat) : Int), true, (ByteArray.mk #[120]), 3, 0, (ByteArray.mk #[]), 0, 0, none, 0, []⟩).2.2 NB_42 cB_43), bx b_38 36 [(.int .i64 5), (.int .i64 ((10 + j : Nat) : Int)), (.int .i64 3)] true, bx b_15 46 [(.int .i64 0), (.int .i64 ((10 + j : Nat) : Int)), (.int .i64 3), (.int .i64 5), (.int .i64 ((10 + j : Nat) : Int)), (.bool true), (.string (ByteArray.mk #[120])), (.int .i64 3), (.int .i64 0), (.string (ByteArray.mk #[])), (.int .i64 0), (.int .i64 0), (.slice none 0 0)] true] (by kernel_rfl) hsp hq hg
          refine ⟨.inr ((HP.tail rfl)), ?_⟩
          refine An.pureE H (.inr ((HP.tail rfl))) 6 68 (.bool ((((stepS k (saneSt k j) ⟨0, ((10 + j : Nat) : Int), 3, 5, ((10 + j : Nat) : Int), true, (ByteArray.mk #[120]), 3, 0, (ByteArray.mk #[]), 0, 0, none, 0, []⟩).1.item) == 5) && ((((stepS k (saneSt k j) ⟨0, ((10 + j : Nat) : Int), 3, 5, ((10 + j : Nat) : Int), true, (ByteArray.mk #[120]), 3, 0, (ByteArray.mk #[]), 0, 0, none, 0, []⟩).1.index) == ((10 + j : Nat) : Int)) && (((stepS k (saneSt k j) ⟨0, ((10 + j : Nat) : Int), 3, 5, ((10 + j : Nat) : Int), true, (ByteArray.mk #[120]), 3, 0, (ByteArray.mk #[]), 0, 0, none, 0, []⟩).2.1) == 3)))) (.bool true) rfl (by kernel_rfl) (by kernel_rfl) (fun _ _ _ h => h) (fun _ => ex_eqSh (a0 := ((stepS k (saneSt k j) ⟨0, ((10 + j : Nat) : Int), 3, 5, ((10 + j : Nat) : Int), true, (ByteArray.mk #[120]), 3, 0, (ByteArray.mk #[]), 0, 0, none, 0, []⟩).1.item)) (a1 := ((stepS k (saneSt k j) ⟨0, ((10 + j : Nat) : Int), 3, 5, ((10 + j : Nat) : Int), true, (ByteArray.mk #[120]), 3, 0, (ByteArray.mk #[]), 0, 0, none, 0, []⟩).1.index)) (a2 := ((stepS k (saneSt k j) ⟨0, ((10 + j : Nat) : Int), 3, 5, ((10 + j : Nat) : Int), true, (ByteArray.mk #[120]), 3, 0, (ByteArray.mk #[]), 0, 0, none, 0, []⟩).2.1)) (b0 := 5) (b1 := ((10 + j : Nat) : Int)) (b2 := 3) (by kernel_rfl) (by kernel_rfl)) ((congrArg Value.bool (by rw [stepS_spec (u := ⟨0, ((10 + j : Nat) : Int), 3, 5, ((10 + j : Nat) : Int), true, (ByteArray.mk #[120]), 3, 0, (ByteArray.mk #[]), 0, 0, none, 0, []⟩) (u' := saneU j) (saneU_spec2 (by omega))]; exact saneOut5 hkk (by omega)))) ?_
          intro a H
          refine An.pure H (.inr ((HP.tail rfl))) 7 69 (.bool true) rfl (by kernel_rfl) (by kernel_rfl) (fun _ _ _ h => h) (fun _ => by kernel_rfl) ?_
          intro a H
          refine An.pure H (.inr ((HP.tail rfl))) 8 6 (.bool true) rfl (by kernel_rfl) (by kernel_rfl) (fun _ _ _ h => h) (fun _ => by kernel_rfl) ?_
          intro a H
          refine An.done (by kernel_rfl) ?_
          have H := H.keep (L' := [(6, (.bool true)), (58, (.bool (((10 + j : Nat) : Int) == 21))), (9, (.pointer (some ⟨b_38, 0, none⟩))), (52, (.agg #[(.int .i64 5), (.int .i64 ((10 + j : Nat) : Int)), (.int .i64 3)])), (51, (.int .i64 ((10 + j : Nat) : Int))), (46, (.bool (decide (((10 + j : Nat) : Int) < 22)))), (45, (.int .i64 ((10 + j : Nat) : Int))), (8, (.pointer (some ⟨b_15, 0, none⟩))), (44, (.agg #[(.int .i64 0), (.int .i64 ((10 + j : Nat) : Int)), (.int .i64 3), (.int .i64 5), (.int .i64 ((10 + j : Nat) : Int)), (.bool true), (.string (ByteArray.mk #[120])), (.int .i64 3), (.int .i64 0), (.string (ByteArray.mk #[])), (.int .i64 0), (.int .i64 0), (.slice none 0 0)])), (43, (.int .i64 ((10 + j : Nat) : Int))), (42, (.int .i64 ((10 + j : Nat) : Int))), (39, (.bool (decide (((10 + j : Nat) : Int) < 23)))), (38, (.int .i64 ((10 + j : Nat) : Int))), (7, (.int .i64 ((10 + j : Nat) : Int))), (2, (.pointer (some ⟨b, 0, none⟩))), (0, (.bool false))]) (by kernel_rfl)
          refine inb_normal ?_
          refine then_normal ?_
          refine w_region ?_
          refine H.val 40 (.int .i64 ((10 + j : Nat) : Int)) (by kernel_rfl) (by kernel_rfl) ?_
          intro a H
          refine H.valE 41 (.int .i64 (IntKind.i64.wrap (((10 + j : Nat) : Int) + 1))) (.int .i64 (((10 + j : Nat) : Int) + 1)) (by kernel_rfl) (by kernel_rfl) ((by rw [wrap_ini64 _ (by omega)])) ?_
          intro a H
          refine H.val 7 (.int .i64 (((10 + j : Nat) : Int) + 1)) (by kernel_rfl) (by kernel_rfl) ?_
          intro a H
          refine wpList_nil ?_
          refine then_normal ?_
          have H := H.as 7 (.int .i64 ((10 + (j + 1) : Nat) : Int)) rfl (by congr 1)
          refine ⟨_, ?_, j + 1, NB_42, cB_43, rfl, H.keep (by kernel_rfl), (by have hh := ((HP.tail2 rfl).tail2 rfl); rw [stepS_spec (u := ⟨0, ((10 + j : Nat) : Int), 3, 5, ((10 + j : Nat) : Int), true, (ByteArray.mk #[120]), 3, 0, (ByteArray.mk #[]), 0, 0, none, 0, []⟩) (u' := saneU j) (saneU_spec2 (by omega))] at hh; exact hh), by omega⟩
          omega
  · have g39p := of_decide_eq_false g39
    refine wp_exit ?_
    refine then_exit ?_
    refine then_exit ?_
    refine w_exit_here ?_
    refine then_normal ?_
    refine wp_seq ?_
    have hj13 : j = 13 := by omega
    subst hj13
    refine w_region ?_
    refine H.val 70 (.bool true) (by kernel_rfl) (by kernel_rfl) ?_
    intro a H
    refine H.val 71 (.bool true) (by kernel_rfl) (by kernel_rfl) ?_
    intro a H
    refine H.val 72 (.pointer (some ⟨b, 0, none⟩)) (by kernel_rfl) (by kernel_rfl) ?_
    intro a H
    refine H.val 73 (.agg #[(.int .i64 0), (.int .i64 23), (.int .i64 2), (.int .i64 0), (.int .i64 0), (.bool false), (.string (ByteArray.mk #[])), (.int .i64 0), (.int .i64 0), (.string (ByteArray.mk #[])), (.int .i64 0), (.int .i64 0), (.slice none 0 0)]) (by kernel_rfl) (by kernel_rfl) ?_
    intro a H
    refine H.call 74 (by kernel_rfl) (Eq.trans (by kernel_rfl : _ = (callFunc 14 #[(.pointer (some ⟨b, 0, none⟩)), (.agg #[(.int .i64 0), (.int .i64 23), (.int .i64 2), (.int .i64 0), (.int .i64 0), (.bool false), (.string (ByteArray.mk #[])), (.int .i64 0), (.int .i64 0), (.string (ByteArray.mk #[])), (.int .i64 0), (.int .i64 0), (.slice none 0 0)])]).run Try.prog w_14) (Try.call14 _ _)) (step_any b k (saneSt k 13) ⟨0, 23, 2, 0, 0, false, (ByteArray.mk #[]), 0, 0, (ByteArray.mk #[]), 0, 0, none, 0, []⟩ w_14 NA nc (HP.held 0 rfl) ⟨IsAlts.nil _ _, by simp [maxLen], by simp only [UnitA.bd]; omega⟩ (fun j hj _ => by have := hj.1; simp at this) (by rw [hkr]; omega) (by rw [hkr]; omega) (saneInv hkk (by omega))) ?_
    rintro e w_47 ⟨rfl, NB_45, cB_46, hsp, hq, hg⟩
    refine ⟨_, rfl, ?_⟩
    intro a H
    have HP := HP.stepped 0 rfl [(splR b k (stepS k (saneSt k 13) ⟨0, 23, 2, 0, 0, false, (ByteArray.mk #[]), 0, 0, (ByteArray.mk #[]), 0, 0, none, 0, []⟩).2.2 NB_45 cB_46)] (by kernel_rfl) hsp hq hg
    refine H.val 75 (.agg #[(.int .i64 0), (.int .i64 0), (.int .i64 2)]) (by kernel_rfl) (by kernel_rfl) ?_
    intro a H
    refine H.valE 76 (.bool ((((stepS k (saneSt k 13) ⟨0, 23, 2, 0, 0, false, (ByteArray.mk #[]), 0, 0, (ByteArray.mk #[]), 0, 0, none, 0, []⟩).1.item) == 0) && ((((stepS k (saneSt k 13) ⟨0, 23, 2, 0, 0, false, (ByteArray.mk #[]), 0, 0, (ByteArray.mk #[]), 0, 0, none, 0, []⟩).1.index) == 0) && (((stepS k (saneSt k 13) ⟨0, 23, 2, 0, 0, false, (ByteArray.mk #[]), 0, 0, (ByteArray.mk #[]), 0, 0, none, 0, []⟩).2.1) == 2)))) (.bool true) (by kernel_rfl) (ex_eqSh (a0 := ((stepS k (saneSt k 13) ⟨0, 23, 2, 0, 0, false, (ByteArray.mk #[]), 0, 0, (ByteArray.mk #[]), 0, 0, none, 0, []⟩).1.item)) (a1 := ((stepS k (saneSt k 13) ⟨0, 23, 2, 0, 0, false, (ByteArray.mk #[]), 0, 0, (ByteArray.mk #[]), 0, 0, none, 0, []⟩).1.index)) (a2 := ((stepS k (saneSt k 13) ⟨0, 23, 2, 0, 0, false, (ByteArray.mk #[]), 0, 0, (ByteArray.mk #[]), 0, 0, none, 0, []⟩).2.1)) (b0 := 0) (b1 := 0) (b2 := 2) (by kernel_rfl) (by kernel_rfl)) ((congrArg Value.bool (by exact saneLast hkk))) ?_
    intro a H
    refine H.val 77 (.bool true) (by kernel_rfl) (by kernel_rfl) ?_
    intro a H
    refine H.val 0 (.bool true) (by kernel_rfl) (by kernel_rfl) ?_
    intro a H
    refine wpList_nil ?_
    have H := H.keep (L' := [(0, (.bool true)), (39, (.bool (decide (((10 + 13 : Nat) : Int) < 23)))), (38, (.int .i64 ((10 + 13 : Nat) : Int))), (7, (.int .i64 ((10 + 13 : Nat) : Int))), (6, (.bool true)), (2, (.pointer (some ⟨b, 0, none⟩)))]) (by kernel_rfl)
    refine then_normal ?_
    refine wp_ret ?_
    refine H.ret1 (fn := Try.f8) Try.results8 (RV.tmp_ (v := (.bool true)) (by kernel_rfl)) ?_
    exact ⟨rfl, (HP.below (by kernel_rfl))⟩
end Go.Proofs.Ytpaepefpfaoacaa
