/- The statement PlanEncodeMatchesReference: for every input the law returns true and leaves its arguments as they were. No condition. -/
import Derived.WalkKit
import Derived.LaidEql
import Derived.Stop.Asserts
import Derived.RowKitTokens
import Derived.Defers
import Derived.Recover
import Derived.Deep.Slices
import Derived.Deep.Fields
import Derived.ChangeSame
import Derived.ChangeArms
import Derived.SizedLaws
import Derived.Test.YteeillphhiaopaaGreatDoorCards
import Derived.Test.YteeillphhiaopaaGreatDoorTie
import Derived.ProofKit
import Derived.OpenShut
import Derived.ShutString
import Derived.ChangeOld
import Derived.Below
import Derived.SevenTiedAt
import Derived.Test.YteeillphhiaopaaGreatDoorZrf
namespace Go.Proofs.YteeillphhiaopaaGreatDoor
set_option maxRecDepth 100000
set_option maxHeartbeats 4000000
open Go.ChangeShapes Go.WideShapes Go.ChangeAt Go.RowKit
set_option linter.unusedVariables false
set_option linter.unusedSimpArgs false
def PlanPost (a0 a1 : Addr) (s : List UInt8) (rb : Nat) (w : World) (e : Ending) (w' : World) : Prop :=
 Agree w w' (fun j => j = rb) ∧ ((∃ (E : Int) (k1 : Nat), rdPl s = .error E ∧ (E = 10 ∨ E = 80) ∧ e = .panicked (pan a0 a1 E) ∧ Box w' rb 103 (rC s k1).toArray) ∨
  (∃ (p : Pln) (k1 : Nat), rdPl s = .ok (p.nv, k1) ∧ k1 ≤ s.length ∧ e = .returned (.agg (plC p).toArray) ∧ Box w' rb 103 (rC s k1).toArray ∧ IsPln w' p ∧ ∀ j, p.fp j → w.heap.size ≤ j))
theorem rdplan_any (a0 a1 : Addr) (s : List UInt8) (rb : Nat) (w : World) (hL : LaidP a0 a1 w) (hsep : ∀ j, lpFp a0 a1 j → j ≠ rb) (h : Box w rb 103 (rC s 0).toArray) (hl : s.length ≤ 1000000) :
  Calls Tryz.prog 61 #[.pointer (some ⟨rb, 0, none⟩)] w (PlanPost a0 a1 s rb w) := by
 have HP : Hp w w [bx rb 103 (rC s 0) false] [laidK a0 a1] := (Hp.own h).keepF (laidK a0 a1) hL (laidK_ok _ _) (fun j hj => ⟨hL.lt j hj, by simpa [bx] using hsep j hj⟩)
 refine w_enter 43 [(0, (pt rb 0))] Tryz.func61 rfl Tryz.ntmps61 (by kernel_rfl) (by kernel_rfl) fun a H => ?_
 refine sq (rg ?_)
 refine H.al HP 1 148 [(pt rb 0)] fun b_1 w_2 a H HP => H.al HP 2 32 [(ii 0), (ii 0), (ii 0), (ii 0), (.slice none 0 0), (ii 0), (ii 0), (ii 0), (ii 0), (.slice none 0 0), (.slice none 0 0), (.slice none 0 0), (.slice none 0 0)] fun b_3 w_4 a H HP => ?_
 refine nl (tn (sq (rg ?_)))
 refine H.al HP 3 32 [(ii 0), (ii 0), (ii 0), (ii 0), (.slice none 0 0), (ii 0), (ii 0), (ii 0), (ii 0), (.slice none 0 0), (.slice none 0 0), (.slice none 0 0), (.slice none 0 0)] fun b_5 w_6 a H HP => ?_
 refine nl (tn (sq (rg ?_)))
 refine H.u 4 (pt rb 0) (ex_l1 (HP.cell 2 rfl 0 rfl)) fun a H => H.v 5 (pt b_5 0) fun a H => H.v 6 (pt b_5 1) fun a H => H.v 7 (pt b_5 1) fun a H => H.v 8 (pt b_5 1) fun a H => H.v 9 (pt b_5 2) fun a H => H.v 10 (pt b_5 3) fun a H => H.v 11 (pt b_5 3) fun a H => H.alloc HP 12 (fun b => (.slice (some ⟨b, 0, none⟩) 4 4)) 150 [(pt b_5 0), (pt b_5 1), (pt b_5 2), (pt b_5 3)] (by kernel_rfl) (fun w => by kernel_rfl) fun b_7 w_8 a H HP => ?_
 refine H.callP 13 (by kernel_rfl) (Eq.trans (by kernel_rfl : _ = (callFunc 99 #[(pt rb 0), (.slice (some ⟨b_7, 0, none⟩) 4 4)]).run Tryz.prog w_8) (Tryz.call99 _ _)) (numbers_any a0 a1 s 0 rb b_5 32 b_7 [(ii 0), (ii 0), (ii 0), (ii 0), (.slice none 0 0), (ii 0), (ii 0), (ii 0), (ii 0), (.slice none 0 0), (.slice none 0 0), (.slice none 0 0), (.slice none 0 0)] [0, 1, 2, 3] w_8 (HP.fact 0 rfl) (fun j hj => ⟨HP.factNe 0 4 rfl rfl j hj, HP.factNe 0 1 rfl rfl j hj⟩) (HP.at_ 4 rfl) (HP.at_ 1 rfl) (HP.at_ 0 rfl) ((HP.neB 1 4 rfl rfl (by decide)).symm) ⟨HP.neB 0 4 rfl rfl (by decide), HP.neB 0 1 rfl rfl (by decide)⟩ (by simp) (by decide) hl (Nat.zero_le _)) ?_
 rintro e w_9 ⟨hag, (⟨k1, us2, hE1, hk1, rfl, hb1, hb2, _⟩ | ⟨l, k1, hE1, hk1, hll, rfl, hb1, hb2⟩)⟩
 ·refine .inr ⟨_, rfl, ?_⟩
  intro a H
  have HP := HP.changed2 4 1 rfl rfl (rC s k1) us2 _ rfl (by decide) hag hb1 hb2
  replace hE1 : rdN s 4 0 = .error 10 := hE1
  refine then_panic ?_
  refine H.endP ?_
  exact ⟨HP.agree _ (by simp [bx, rowsR]), .inl ⟨10, k1, by unfold rdPl; rw [hE1], .inl rfl, rfl, HP.at_ 4 rfl⟩⟩
 refine .inl ⟨_, rfl, ?_⟩
 intro a H
 obtain ⟨z0, z1, z2, z3, rfl⟩ := len4 hll
 replace hE1 : rdN s 4 0 = .ok ([z0, z1, z2, z3], k1) := hE1
 have HP := HP.changed2 4 1 rfl rfl (rC s k1) [(ii z0), (ii z1), (ii z2), (ii z3), (.slice none 0 0), (ii 0), (ii 0), (ii 0), (ii 0), (.slice none 0 0), (.slice none 0 0), (.slice none 0 0), (.slice none 0 0)] _ rfl (by decide) hag hb1 hb2
 refine nl (tn (sq (rg ?_)))
 refine H.u 14 (pt rb 0) (ex_l1 (HP.cell 3 rfl 0 rfl)) fun a H => H.v 15 (.func (.func 101) #[] #[(pt b_1 0)]) fun a H => ?_
 have hlt0 := HP.lt
 refine H.callP 16 (by kernel_rfl) (Eq.trans (by kernel_rfl : _ = (callFunc 100 #[(pt rb 0), (ii 40), (.func (.func 101) #[] #[(pt b_1 0)])]).run Tryz.prog w_9) (Tryz.call100 _ _)) (listS_any a0 a1 s k1 rb b_1 w_9 (HP.fact 0 rfl) (fun j hj => HP.factNe 0 4 rfl rfl j hj) (HP.at_ 4 rfl) (HP.at_ 3 rfl) (HP.neB 3 4 rfl rfl (by decide)) hl hk1) ?_
 rintro e w_10 ⟨hag, (⟨E, k2, hE2, hEE, hk2, rfl, hb1⟩ | ⟨A1, c1, sh, k2, hE2, hk2, rfl, hb1, hrow, hnew2, hmost2⟩)⟩
 ·refine .inr ⟨_, rfl, ?_⟩
  intro a H
  have HP := HP.changed1 4 rfl (rC s k2) _ rfl hag hb1
  refine then_panic ?_
  refine H.endP ?_
  exact ⟨HP.agree _ (by simp [bx, rowsR]), .inl ⟨E, k2, by unfold rdPl; rw [hE1]; simp only; rw [hE2], hEE, rfl, HP.at_ 4 rfl⟩⟩
 refine .inl ⟨_, rfl, ?_⟩
 intro a H
 have hsz2 := HP.size
 have HP := HP.changed1 4 rfl (rC s k2) [bx b_7 150 [(pt b_5 0), (pt b_5 1), (pt b_5 2), (pt b_5 3)] true, bx b_5 32 [(ii z0), (ii z1), (ii z2), (ii z3), (.slice none 0 0), (ii 0), (ii 0), (ii 0), (ii 0), (.slice none 0 0), (.slice none 0 0), (.slice none 0 0), (.slice none 0 0)] true, bx b_3 32 [(ii 0), (ii 0), (ii 0), (ii 0), (.slice none 0 0), (ii 0), (ii 0), (ii 0), (ii 0), (.slice none 0 0), (.slice none 0 0), (.slice none 0 0), (.slice none 0 0)] true, bx b_1 148 [(pt rb 0)] true, bx rb 103 (rC s k2) false] (by kernel_rfl) hag hb1
 have HP := HP.keepF (rowF 2 altC A1 sh) hrow (rowF_ok _ _ _ _) (fun j hj => ⟨hrow.lt j hj, fun y hy hyk => by simp only [List.mem_cons, List.not_mem_nil, or_false] at hy; rcases hy with rfl | rfl | rfl | rfl | rfl <;> (first | exact Nat.lt_irrefl _ (Nat.lt_of_lt_of_le (hlt0 _ (List.mem_of_getElem? (i := 0) rfl) j hyk) (hnew2 j hj)) | exact Nat.lt_irrefl _ (Nat.lt_of_lt_of_le (hlt0 _ (List.mem_of_getElem? (i := 1) rfl) j hyk) (hnew2 j hj)) | exact Nat.lt_irrefl _ (Nat.lt_of_lt_of_le (hlt0 _ (List.mem_of_getElem? (i := 2) rfl) j hyk) (hnew2 j hj)) | exact Nat.lt_irrefl _ (Nat.lt_of_lt_of_le (hlt0 _ (List.mem_of_getElem? (i := 3) rfl) j hyk) (hnew2 j hj)) | exact Nat.lt_irrefl _ (Nat.lt_of_lt_of_le (hlt0 _ (List.mem_of_getElem? (i := 4) rfl) j hyk) (hnew2 j hj)))⟩)
 refine H.v 17 (pt b_5 3) fun a H => H.v 18 (pt b_5 4) fun a H => H.st HP 1 b_5 4 1 32 true (.slice A1 sh.length c1) [bx b_7 150 [(pt b_5 0), (pt b_5 1), (pt b_5 2), (pt b_5 3)] true, bx b_5 32 [(ii z0), (ii z1), (ii z2), (ii z3), (.slice A1 sh.length c1), (ii 0), (ii 0), (ii 0), (ii 0), (.slice none 0 0), (.slice none 0 0), (.slice none 0 0), (.slice none 0 0)] true, bx b_3 32 [(ii 0), (ii 0), (ii 0), (ii 0), (.slice none 0 0), (ii 0), (ii 0), (ii 0), (ii 0), (.slice none 0 0), (.slice none 0 0), (.slice none 0 0), (.slice none 0 0)] true, bx b_1 148 [(pt rb 0)] true, bx rb 103 (rC s k2) false] rfl fun w_11 a H HP => ?_
 refine nl (tn (sq (rg ?_)))
 refine H.u 19 (pt rb 0) (ex_l1 (HP.cell 3 rfl 0 rfl)) fun a H => H.v 20 (pt b_5 5) fun a H => H.v 21 (pt b_5 6) fun a H => H.v 22 (pt b_5 7) fun a H => H.v 23 (pt b_5 8) fun a H => H.alloc HP 24 (fun b => (.slice (some ⟨b, 0, none⟩) 4 4)) 150 [(pt b_5 5), (pt b_5 6), (pt b_5 7), (pt b_5 8)] (by kernel_rfl) (fun w => by kernel_rfl) fun b_12 w_13 a H HP => ?_
 refine H.callP 25 (by kernel_rfl) (Eq.trans (by kernel_rfl : _ = (callFunc 99 #[(pt rb 0), (.slice (some ⟨b_12, 0, none⟩) 4 4)]).run Tryz.prog w_13) (Tryz.call99 _ _)) (numbers_any a0 a1 s k2 rb b_5 32 b_12 [(ii z0), (ii z1), (ii z2), (ii z3), (.slice A1 sh.length c1), (ii 0), (ii 0), (ii 0), (ii 0), (.slice none 0 0), (.slice none 0 0), (.slice none 0 0), (.slice none 0 0)] [5, 6, 7, 8] w_13 (HP.fact 1 rfl) (fun j hj => ⟨HP.factNe 1 5 rfl rfl j hj, HP.factNe 1 2 rfl rfl j hj⟩) (HP.at_ 5 rfl) (HP.at_ 2 rfl) (HP.at_ 0 rfl) ((HP.neB 2 5 rfl rfl (by decide)).symm) ⟨HP.neB 0 5 rfl rfl (by decide), HP.neB 0 2 rfl rfl (by decide)⟩ (by simp) (by decide) hl hk2) ?_
 rintro e w_14 ⟨hag, (⟨k3, us2, hE3, hk3, rfl, hb1, hb2, _⟩ | ⟨l, k3, hE3, hk3, hll, rfl, hb1, hb2⟩)⟩
 ·refine .inr ⟨_, rfl, ?_⟩
  intro a H
  have HP := HP.changed2 5 2 rfl rfl (rC s k3) us2 _ rfl (by decide) hag hb1 hb2
  replace hE3 : rdN s 4 k2 = .error 10 := hE3
  refine then_panic ?_
  refine H.endP ?_
  exact ⟨HP.agree _ (by simp [bx, rowsR]), .inl ⟨10, k3, by unfold rdPl; rw [hE1]; simp only; rw [hE2]; simp only; rw [hE3], .inl rfl, rfl, HP.at_ 5 rfl⟩⟩
 refine .inl ⟨_, rfl, ?_⟩
 intro a H
 obtain ⟨y0, y1, y2, y3, rfl⟩ := len4 hll
 replace hE3 : rdN s 4 k2 = .ok ([y0, y1, y2, y3], k3) := hE3
 have HP := HP.changed2 5 2 rfl rfl (rC s k3) [(ii z0), (ii z1), (ii z2), (ii z3), (.slice A1 sh.length c1), (ii y0), (ii y1), (ii y2), (ii y3), (.slice none 0 0), (.slice none 0 0), (.slice none 0 0), (.slice none 0 0)] _ rfl (by decide) hag hb1 hb2
 refine nl (tn (sq (rg ?_)))
 refine H.u 26 (pt rb 0) (ex_l1 (HP.cell 4 rfl 0 rfl)) fun a H => H.v 27 (.func (.func 103) #[] #[(pt b_1 0)]) fun a H => ?_
 have hlt0 := HP.lt
 refine H.callP 28 (by kernel_rfl) (Eq.trans (by kernel_rfl : _ = (callFunc 102 #[(pt rb 0), (ii 4000), (.func (.func 103) #[] #[(pt b_1 0)])]).run Tryz.prog w_14) (Tryz.call102 _ _)) (listI_any a0 a1 s k3 rb b_1 w_14 (HP.fact 1 rfl) (fun j hj => HP.factNe 1 5 rfl rfl j hj) (HP.at_ 5 rfl) (HP.at_ 4 rfl) (HP.neB 4 5 rfl rfl (by decide)) hl hk3) ?_
 rintro e w_15 ⟨hag, (⟨E, k4, hE4, hEE, hk4, rfl, hb1⟩ | ⟨A2, c2, its, k4, hE4, hk4, rfl, hb1, hrow, hnew4, hmost4⟩)⟩
 ·refine .inr ⟨_, rfl, ?_⟩
  intro a H
  have HP := HP.changed1 5 rfl (rC s k4) _ rfl hag hb1
  refine then_panic ?_
  refine H.endP ?_
  exact ⟨HP.agree _ (by simp [bx, rowsR]), .inl ⟨E, k4, by unfold rdPl; rw [hE1]; simp only; rw [hE2]; simp only; rw [hE3]; simp only; rw [hE4], hEE, rfl, HP.at_ 5 rfl⟩⟩
 refine .inl ⟨_, rfl, ?_⟩
 intro a H
 have hsz4 := HP.size
 have HP := HP.changed1 5 rfl (rC s k4) [bx b_12 150 [(pt b_5 5), (pt b_5 6), (pt b_5 7), (pt b_5 8)] true, bx b_7 150 [(pt b_5 0), (pt b_5 1), (pt b_5 2), (pt b_5 3)] true, bx b_5 32 [(ii z0), (ii z1), (ii z2), (ii z3), (.slice A1 sh.length c1), (ii y0), (ii y1), (ii y2), (ii y3), (.slice none 0 0), (.slice none 0 0), (.slice none 0 0), (.slice none 0 0)] true, bx b_3 32 [(ii 0), (ii 0), (ii 0), (ii 0), (.slice none 0 0), (ii 0), (ii 0), (ii 0), (ii 0), (.slice none 0 0), (.slice none 0 0), (.slice none 0 0), (.slice none 0 0)] true, bx b_1 148 [(pt rb 0)] true, bx rb 103 (rC s k4) false] (by kernel_rfl) hag hb1
 have HP := HP.keepF (rowF 5 itC A2 its) hrow (rowF_ok _ _ _ _) (fun j hj => ⟨hrow.lt j hj, fun y hy hyk => by simp only [List.mem_cons, List.not_mem_nil, or_false] at hy; rcases hy with rfl | rfl | rfl | rfl | rfl | rfl <;> (first | exact Nat.lt_irrefl _ (Nat.lt_of_lt_of_le (hlt0 _ (List.mem_of_getElem? (i := 0) rfl) j hyk) (hnew4 j hj)) | exact Nat.lt_irrefl _ (Nat.lt_of_lt_of_le (hlt0 _ (List.mem_of_getElem? (i := 1) rfl) j hyk) (hnew4 j hj)) | exact Nat.lt_irrefl _ (Nat.lt_of_lt_of_le (hlt0 _ (List.mem_of_getElem? (i := 2) rfl) j hyk) (hnew4 j hj)) | exact Nat.lt_irrefl _ (Nat.lt_of_lt_of_le (hlt0 _ (List.mem_of_getElem? (i := 3) rfl) j hyk) (hnew4 j hj)) | exact Nat.lt_irrefl _ (Nat.lt_of_lt_of_le (hlt0 _ (List.mem_of_getElem? (i := 4) rfl) j hyk) (hnew4 j hj)) | exact Nat.lt_irrefl _ (Nat.lt_of_lt_of_le (hlt0 _ (List.mem_of_getElem? (i := 5) rfl) j hyk) (hnew4 j hj)))⟩)
 refine H.v 29 (pt b_5 9) fun a H => H.st HP 2 b_5 9 1 32 true (.slice A2 its.length c2) [bx b_12 150 [(pt b_5 5), (pt b_5 6), (pt b_5 7), (pt b_5 8)] true, bx b_7 150 [(pt b_5 0), (pt b_5 1), (pt b_5 2), (pt b_5 3)] true, bx b_5 32 [(ii z0), (ii z1), (ii z2), (ii z3), (.slice A1 sh.length c1), (ii y0), (ii y1), (ii y2), (ii y3), (.slice A2 its.length c2), (.slice none 0 0), (.slice none 0 0), (.slice none 0 0)] true, bx b_3 32 [(ii 0), (ii 0), (ii 0), (ii 0), (.slice none 0 0), (ii 0), (ii 0), (ii 0), (ii 0), (.slice none 0 0), (.slice none 0 0), (.slice none 0 0), (.slice none 0 0)] true, bx b_1 148 [(pt rb 0)] true, bx rb 103 (rC s k4) false] rfl fun w_16 a H HP => ?_
 refine nl (tn (sq (rg ?_)))
 refine H.u 30 (pt rb 0) (ex_l1 (HP.cell 4 rfl 0 rfl)) fun a H => H.v 31 (.func (.func 105) #[] #[(pt b_1 0)]) fun a H => ?_
 have hlt0 := HP.lt
 refine H.callP 32 (by kernel_rfl) (Eq.trans (by kernel_rfl : _ = (callFunc 104 #[(pt rb 0), (ii 4000), (.func (.func 105) #[] #[(pt b_1 0)])]).run Tryz.prog w_16) (Tryz.call104 _ _)) (listE_any a0 a1 s k4 rb b_1 w_16 (HP.fact 2 rfl) (fun j hj => HP.factNe 2 5 rfl rfl j hj) (HP.at_ 5 rfl) (HP.at_ 4 rfl) (HP.neB 4 5 rfl rfl (by decide)) hl hk4) ?_
 rintro e w_17 ⟨hag, (⟨E, k5, hE5, hEE, hk5, rfl, hb1⟩ | ⟨A3, c3, es, k5, hE5, hk5, rfl, hb1, hrow, hnew5, hmost5⟩)⟩
 ·refine .inr ⟨_, rfl, ?_⟩
  intro a H
  have HP := HP.changed1 5 rfl (rC s k5) _ rfl hag hb1
  refine then_panic ?_
  refine H.endP ?_
  exact ⟨HP.agree _ (by simp [bx, rowsR]), .inl ⟨E, k5, by unfold rdPl; rw [hE1]; simp only; rw [hE2]; simp only; rw [hE3]; simp only; rw [hE4]; simp only; rw [hE5], hEE, rfl, HP.at_ 5 rfl⟩⟩
 refine .inl ⟨_, rfl, ?_⟩
 intro a H
 have hsz5 := HP.size
 have HP := HP.changed1 5 rfl (rC s k5) [bx b_12 150 [(pt b_5 5), (pt b_5 6), (pt b_5 7), (pt b_5 8)] true, bx b_7 150 [(pt b_5 0), (pt b_5 1), (pt b_5 2), (pt b_5 3)] true, bx b_5 32 [(ii z0), (ii z1), (ii z2), (ii z3), (.slice A1 sh.length c1), (ii y0), (ii y1), (ii y2), (ii y3), (.slice A2 its.length c2), (.slice none 0 0), (.slice none 0 0), (.slice none 0 0)] true, bx b_3 32 [(ii 0), (ii 0), (ii 0), (ii 0), (.slice none 0 0), (ii 0), (ii 0), (ii 0), (ii 0), (.slice none 0 0), (.slice none 0 0), (.slice none 0 0), (.slice none 0 0)] true, bx b_1 148 [(pt rb 0)] true, bx rb 103 (rC s k5) false] (by kernel_rfl) hag hb1
 have HP := HP.keepF (enF A3 es) hrow (enF_ok _ _) (fun j hj => ⟨hrow.lt j hj, fun y hy hyk => by simp only [List.mem_cons, List.not_mem_nil, or_false] at hy; rcases hy with rfl | rfl | rfl | rfl | rfl | rfl <;> (first | exact Nat.lt_irrefl _ (Nat.lt_of_lt_of_le (hlt0 _ (List.mem_of_getElem? (i := 0) rfl) j hyk) (hnew5 j hj)) | exact Nat.lt_irrefl _ (Nat.lt_of_lt_of_le (hlt0 _ (List.mem_of_getElem? (i := 1) rfl) j hyk) (hnew5 j hj)) | exact Nat.lt_irrefl _ (Nat.lt_of_lt_of_le (hlt0 _ (List.mem_of_getElem? (i := 2) rfl) j hyk) (hnew5 j hj)) | exact Nat.lt_irrefl _ (Nat.lt_of_lt_of_le (hlt0 _ (List.mem_of_getElem? (i := 3) rfl) j hyk) (hnew5 j hj)) | exact Nat.lt_irrefl _ (Nat.lt_of_lt_of_le (hlt0 _ (List.mem_of_getElem? (i := 4) rfl) j hyk) (hnew5 j hj)) | exact Nat.lt_irrefl _ (Nat.lt_of_lt_of_le (hlt0 _ (List.mem_of_getElem? (i := 5) rfl) j hyk) (hnew5 j hj)))⟩)
 refine H.v 33 (pt b_5 10) fun a H => H.st HP 2 b_5 10 1 32 true (.slice A3 es.length c3) [bx b_12 150 [(pt b_5 5), (pt b_5 6), (pt b_5 7), (pt b_5 8)] true, bx b_7 150 [(pt b_5 0), (pt b_5 1), (pt b_5 2), (pt b_5 3)] true, bx b_5 32 [(ii z0), (ii z1), (ii z2), (ii z3), (.slice A1 sh.length c1), (ii y0), (ii y1), (ii y2), (ii y3), (.slice A2 its.length c2), (.slice A3 es.length c3), (.slice none 0 0), (.slice none 0 0)] true, bx b_3 32 [(ii 0), (ii 0), (ii 0), (ii 0), (.slice none 0 0), (ii 0), (ii 0), (ii 0), (ii 0), (.slice none 0 0), (.slice none 0 0), (.slice none 0 0), (.slice none 0 0)] true, bx b_1 148 [(pt rb 0)] true, bx rb 103 (rC s k5) false] rfl fun w_18 a H HP => ?_
 refine nl (tn (sq (rg ?_)))
 refine H.u 34 (pt rb 0) (ex_l1 (HP.cell 4 rfl 0 rfl)) fun a H => H.v 35 (.func (.func 109) #[] #[(pt b_1 0)]) fun a H => ?_
 have hlt0 := HP.lt
 refine H.callP 36 (by kernel_rfl) (Eq.trans (by kernel_rfl : _ = (callFunc 108 #[(pt rb 0), (ii 2000), (.func (.func 109) #[] #[(pt b_1 0)])]).run Tryz.prog w_18) (Tryz.call108 _ _)) (listB_any a0 a1 s k5 rb b_1 w_18 (HP.fact 3 rfl) (fun j hj => HP.factNe 3 5 rfl rfl j hj) (HP.at_ 5 rfl) (HP.at_ 4 rfl) (HP.neB 4 5 rfl rfl (by decide)) hl hk5) ?_
 rintro e w_19 ⟨hag, (⟨E, k6, hE6, hEE, hk6, rfl, hb1⟩ | ⟨A4, c4, bs, k6, hE6, hk6, rfl, hb1, hrow, hnew6, hmost6⟩)⟩
 ·refine .inr ⟨_, rfl, ?_⟩
  intro a H
  have HP := HP.changed1 5 rfl (rC s k6) _ rfl hag hb1
  refine then_panic ?_
  refine H.endP ?_
  exact ⟨HP.agree _ (by simp [bx, rowsR]), .inl ⟨E, k6, by unfold rdPl; rw [hE1]; simp only; rw [hE2]; simp only; rw [hE3]; simp only; rw [hE4]; simp only; rw [hE5]; simp only; rw [hE6], hEE, rfl, HP.at_ 5 rfl⟩⟩
 refine .inl ⟨_, rfl, ?_⟩
 intro a H
 have hsz6 := HP.size
 have HP := HP.changed1 5 rfl (rC s k6) [bx b_12 150 [(pt b_5 5), (pt b_5 6), (pt b_5 7), (pt b_5 8)] true, bx b_7 150 [(pt b_5 0), (pt b_5 1), (pt b_5 2), (pt b_5 3)] true, bx b_5 32 [(ii z0), (ii z1), (ii z2), (ii z3), (.slice A1 sh.length c1), (ii y0), (ii y1), (ii y2), (ii y3), (.slice A2 its.length c2), (.slice A3 es.length c3), (.slice none 0 0), (.slice none 0 0)] true, bx b_3 32 [(ii 0), (ii 0), (ii 0), (ii 0), (.slice none 0 0), (ii 0), (ii 0), (ii 0), (ii 0), (.slice none 0 0), (.slice none 0 0), (.slice none 0 0), (.slice none 0 0)] true, bx b_1 148 [(pt rb 0)] true, bx rb 103 (rC s k6) false] (by kernel_rfl) hag hb1
 have HP := HP.keepF (rowF 7 bkC A4 bs) hrow (rowF_ok _ _ _ _) (fun j hj => ⟨hrow.lt j hj, fun y hy hyk => by simp only [List.mem_cons, List.not_mem_nil, or_false] at hy; rcases hy with rfl | rfl | rfl | rfl | rfl | rfl <;> (first | exact Nat.lt_irrefl _ (Nat.lt_of_lt_of_le (hlt0 _ (List.mem_of_getElem? (i := 0) rfl) j hyk) (hnew6 j hj)) | exact Nat.lt_irrefl _ (Nat.lt_of_lt_of_le (hlt0 _ (List.mem_of_getElem? (i := 1) rfl) j hyk) (hnew6 j hj)) | exact Nat.lt_irrefl _ (Nat.lt_of_lt_of_le (hlt0 _ (List.mem_of_getElem? (i := 2) rfl) j hyk) (hnew6 j hj)) | exact Nat.lt_irrefl _ (Nat.lt_of_lt_of_le (hlt0 _ (List.mem_of_getElem? (i := 3) rfl) j hyk) (hnew6 j hj)) | exact Nat.lt_irrefl _ (Nat.lt_of_lt_of_le (hlt0 _ (List.mem_of_getElem? (i := 4) rfl) j hyk) (hnew6 j hj)) | exact Nat.lt_irrefl _ (Nat.lt_of_lt_of_le (hlt0 _ (List.mem_of_getElem? (i := 5) rfl) j hyk) (hnew6 j hj)))⟩)
 refine H.v 37 (pt b_5 11) fun a H => H.st HP 2 b_5 11 1 32 true (.slice A4 bs.length c4) [bx b_12 150 [(pt b_5 5), (pt b_5 6), (pt b_5 7), (pt b_5 8)] true, bx b_7 150 [(pt b_5 0), (pt b_5 1), (pt b_5 2), (pt b_5 3)] true, bx b_5 32 [(ii z0), (ii z1), (ii z2), (ii z3), (.slice A1 sh.length c1), (ii y0), (ii y1), (ii y2), (ii y3), (.slice A2 its.length c2), (.slice A3 es.length c3), (.slice A4 bs.length c4), (.slice none 0 0)] true, bx b_3 32 [(ii 0), (ii 0), (ii 0), (ii 0), (.slice none 0 0), (ii 0), (ii 0), (ii 0), (ii 0), (.slice none 0 0), (.slice none 0 0), (.slice none 0 0), (.slice none 0 0)] true, bx b_1 148 [(pt rb 0)] true, bx rb 103 (rC s k6) false] rfl fun w_20 a H HP => ?_
 refine nl (tn (sq (rg ?_)))
 refine H.u 38 (pt rb 0) (ex_l1 (HP.cell 4 rfl 0 rfl)) fun a H => H.v 39 (.func (.func 111) #[] #[(pt b_1 0)]) fun a H => ?_
 have hlt0 := HP.lt
 refine H.callP 40 (by kernel_rfl) (Eq.trans (by kernel_rfl : _ = (callFunc 110 #[(pt rb 0), (ii 400), (.func (.func 111) #[] #[(pt b_1 0)])]).run Tryz.prog w_20) (Tryz.call110 _ _)) (listC_any a0 a1 s k6 rb b_1 w_20 (HP.fact 4 rfl) (fun j hj => HP.factNe 4 5 rfl rfl j hj) (HP.at_ 5 rfl) (HP.at_ 4 rfl) (HP.neB 4 5 rfl rfl (by decide)) hl hk6) ?_
 rintro e w_21 ⟨hag, (⟨E, k7, hE7, hEE, hk7, rfl, hb1⟩ | ⟨A5, c5, cs, k7, hE7, hk7, rfl, hb1, hrow, hnew7, hmost7⟩)⟩
 ·refine .inr ⟨_, rfl, ?_⟩
  intro a H
  have HP := HP.changed1 5 rfl (rC s k7) _ rfl hag hb1
  refine then_panic ?_
  refine H.endP ?_
  exact ⟨HP.agree _ (by simp [bx, rowsR]), .inl ⟨E, k7, by unfold rdPl; rw [hE1]; simp only; rw [hE2]; simp only; rw [hE3]; simp only; rw [hE4]; simp only; rw [hE5]; simp only; rw [hE6]; simp only; rw [hE7], hEE, rfl, HP.at_ 5 rfl⟩⟩
 refine .inl ⟨_, rfl, ?_⟩
 intro a H
 have hsz7 := HP.size
 have HP := HP.changed1 5 rfl (rC s k7) [bx b_12 150 [(pt b_5 5), (pt b_5 6), (pt b_5 7), (pt b_5 8)] true, bx b_7 150 [(pt b_5 0), (pt b_5 1), (pt b_5 2), (pt b_5 3)] true, bx b_5 32 [(ii z0), (ii z1), (ii z2), (ii z3), (.slice A1 sh.length c1), (ii y0), (ii y1), (ii y2), (ii y3), (.slice A2 its.length c2), (.slice A3 es.length c3), (.slice A4 bs.length c4), (.slice none 0 0)] true, bx b_3 32 [(ii 0), (ii 0), (ii 0), (ii 0), (.slice none 0 0), (ii 0), (ii 0), (ii 0), (ii 0), (.slice none 0 0), (.slice none 0 0), (.slice none 0 0), (.slice none 0 0)] true, bx b_1 148 [(pt rb 0)] true, bx rb 103 (rC s k7) false] (by kernel_rfl) hag hb1
 have HP := HP.keepF (rowF 8 clC A5 cs) hrow (rowF_ok _ _ _ _) (fun j hj => ⟨hrow.lt j hj, fun y hy hyk => by simp only [List.mem_cons, List.not_mem_nil, or_false] at hy; rcases hy with rfl | rfl | rfl | rfl | rfl | rfl <;> (first | exact Nat.lt_irrefl _ (Nat.lt_of_lt_of_le (hlt0 _ (List.mem_of_getElem? (i := 0) rfl) j hyk) (hnew7 j hj)) | exact Nat.lt_irrefl _ (Nat.lt_of_lt_of_le (hlt0 _ (List.mem_of_getElem? (i := 1) rfl) j hyk) (hnew7 j hj)) | exact Nat.lt_irrefl _ (Nat.lt_of_lt_of_le (hlt0 _ (List.mem_of_getElem? (i := 2) rfl) j hyk) (hnew7 j hj)) | exact Nat.lt_irrefl _ (Nat.lt_of_lt_of_le (hlt0 _ (List.mem_of_getElem? (i := 3) rfl) j hyk) (hnew7 j hj)) | exact Nat.lt_irrefl _ (Nat.lt_of_lt_of_le (hlt0 _ (List.mem_of_getElem? (i := 4) rfl) j hyk) (hnew7 j hj)) | exact Nat.lt_irrefl _ (Nat.lt_of_lt_of_le (hlt0 _ (List.mem_of_getElem? (i := 5) rfl) j hyk) (hnew7 j hj)))⟩)
 refine H.v 41 (pt b_5 12) fun a H => H.st HP 2 b_5 12 1 32 true (.slice A5 cs.length c5) [bx b_12 150 [(pt b_5 5), (pt b_5 6), (pt b_5 7), (pt b_5 8)] true, bx b_7 150 [(pt b_5 0), (pt b_5 1), (pt b_5 2), (pt b_5 3)] true, bx b_5 32 [(ii z0), (ii z1), (ii z2), (ii z3), (.slice A1 sh.length c1), (ii y0), (ii y1), (ii y2), (ii y3), (.slice A2 its.length c2), (.slice A3 es.length c3), (.slice A4 bs.length c4), (.slice A5 cs.length c5)] true, bx b_3 32 [(ii 0), (ii 0), (ii 0), (ii 0), (.slice none 0 0), (ii 0), (ii 0), (ii 0), (ii 0), (.slice none 0 0), (.slice none 0 0), (.slice none 0 0), (.slice none 0 0)] true, bx b_1 148 [(pt rb 0)] true, bx rb 103 (rC s k7) false] rfl fun w_22 a H HP => ?_
 refine nl (tn (sq (rg ?_)))
 refine H.u 42 (.agg #[(ii z0), (ii z1), (ii z2), (ii z3), (.slice A1 sh.length c1), (ii y0), (ii y1), (ii y2), (ii y3), (.slice A2 its.length c2), (.slice A3 es.length c3), (.slice A4 bs.length c4), (.slice A5 cs.length c5)]) (ex_lN [(ii z0), (ii z1), (ii z2), (ii z3), (.slice A1 sh.length c1), (ii y0), (ii y1), (ii y2), (ii y3), (.slice A2 its.length c2), (.slice A3 es.length c3), (.slice A4 bs.length c4), (.slice A5 cs.length c5)] (HP.cells 2 rfl 0 13 (by kernel_rfl))) fun a H => H.st HP 3 b_3 0 13 32 true (.agg #[(ii z0), (ii z1), (ii z2), (ii z3), (.slice A1 sh.length c1), (ii y0), (ii y1), (ii y2), (ii y3), (.slice A2 its.length c2), (.slice A3 es.length c3), (.slice A4 bs.length c4), (.slice A5 cs.length c5)]) [bx b_12 150 [(pt b_5 5), (pt b_5 6), (pt b_5 7), (pt b_5 8)] true, bx b_7 150 [(pt b_5 0), (pt b_5 1), (pt b_5 2), (pt b_5 3)] true, bx b_5 32 [(ii z0), (ii z1), (ii z2), (ii z3), (.slice A1 sh.length c1), (ii y0), (ii y1), (ii y2), (ii y3), (.slice A2 its.length c2), (.slice A3 es.length c3), (.slice A4 bs.length c4), (.slice A5 cs.length c5)] true, bx b_3 32 [(ii z0), (ii z1), (ii z2), (ii z3), (.slice A1 sh.length c1), (ii y0), (ii y1), (ii y2), (ii y3), (.slice A2 its.length c2), (.slice A3 es.length c3), (.slice A4 bs.length c4), (.slice A5 cs.length c5)] true, bx b_1 148 [(pt rb 0)] true, bx rb 103 (rC s k7) false] rfl fun w_23 a H HP => ?_
 refine nl (tn (rt ?_))
 refine H.ret1 (fn := Tryz.f61) Tryz.results61 (RV.cellN (vs := [(ii z0), (ii z1), (ii z2), (ii z3), (.slice A1 sh.length c1), (ii y0), (ii y1), (ii y2), (ii y3), (.slice A2 its.length c2), (.slice A3 es.length c3), (.slice A4 bs.length c4), (.slice A5 cs.length c5)]) (b := b_3) (off := 0) (k := 13) (by kernel_rfl) (by kernel_rfl) (by kernel_rfl) rfl (HP.cells 3 rfl 0 13 (by kernel_rfl))) ?_
 refine ⟨HP.agree _ (by simp [bx, rowsR]), .inr ⟨(⟨z0, z1, z2, z3, A1, c1, sh, y0, y1, y2, y3, A2, c2, its, A3, c3, es, A4, c4, bs, A5, c5, cs⟩ : Pln), k7, by unfold rdPl; rw [hE1]; simp only; rw [hE2]; simp only; rw [hE3]; simp only; rw [hE4]; simp only; rw [hE5]; simp only; rw [hE6]; simp only; rw [hE7]; rfl, hk7, rfl, HP.at_ 5 rfl, ⟨HP.fact 4 rfl, HP.fact 3 rfl, HP.fact 2 rfl, HP.fact 1 rfl, HP.fact 0 rfl, ?_, ?_, ?_, ?_, ?_⟩, ?_⟩⟩
 ·show List.length sh ≤ maxLen; unfold maxLen; omega
 ·show List.length its ≤ maxLen; unfold maxLen; omega
 ·show List.length es ≤ maxLen; unfold maxLen; omega
 ·show List.length bs ≤ maxLen; unfold maxLen; omega
 ·show List.length cs ≤ maxLen; unfold maxLen; omega
 rintro j (hj | hj | hj | hj | hj)
 ·exact Nat.le_trans hsz2 (hnew2 j hj)
 ·exact Nat.le_trans hsz4 (hnew4 j hj)
 ·exact Nat.le_trans hsz5 (hnew5 j hj)
 ·exact Nat.le_trans hsz6 (hnew6 j hj)
 exact Nat.le_trans hsz7 (hnew7 j hj)
end Go.Proofs.YteeillphhiaopaaGreatDoor
namespace Go.Proofs.YteeillphhiaopaaGreatDoor
set_option maxRecDepth 100000
set_option maxHeartbeats 4000000
open Go.ChangeShapes Go.WideShapes Go.ChangeAt Go.RowKit Go.Extern.Stop Go.Stop Go.Extern
set_option linter.unusedVariables false
theorem isTypeOf (v : Value) (w : World) : (Extern.ReflectliteType.typeOf #[.iface 212 v]).run Tryz.prog w = .ok (.iface 188 (.agg #[.pointer (some ⟨3, 212, none⟩)])) w := by kernel_rfl
noncomputable def cmpF : Array Value → Sem Value := (Extern.find Tryz.f157).getD fun _ => pure .nilIface
theorem cmpF_is : Extern.find Tryz.f157 = some cmpF := by kernel_rfl
theorem isComparable (w : World) : (cmpF #[.agg #[.pointer (some ⟨3, 212, none⟩)]]).run Tryz.prog w = .ok (.bool true) w := by kernel_rfl
theorem isMethodComparable (v : Value) (w : World) : (Go.method 347 188 v "Comparable").run Tryz.prog w = .ok (157, v) w := by kernel_rfl
theorem isComp : (Tryz.prog.info? 212).map (·.comparable) = some true := by kernel_rfl
theorem isSize : (Tryz.prog.info? 236).map (·.size) = some 1 := by kernel_rfl
theorem noIsE (v : Value) (xT : TypeId) (w : World) : (Instr.typeAssert (.iface 212 v) xT 190 true).run Tryz.prog w = .ok (.tuple #[.nilIface, .bool false]) w := run_typeAssert_lacksB Tryz.underlying190 (by kernel_rfl) (by kernel_rfl) v xT w
theorem noUnwrapE (v : Value) (xT : TypeId) (w : World) : (Instr.typeAssert (.iface 212 v) xT 193 true).run Tryz.prog w = .ok (.tuple #[.nilIface, .bool false]) w := run_typeAssert_lacksB Tryz.underlying193 (by kernel_rfl) (by kernel_rfl) v xT w
theorem noUnwrapsE (v : Value) (xT : TypeId) (w : World) : (Instr.typeAssert (.iface 212 v) xT 195 true).run Tryz.prog w = .ok (.tuple #[.nilIface, .bool false]) w := run_typeAssert_lacksB Tryz.underlying195 (by kernel_rfl) (by kernel_rfl) v xT w
theorem isErrorE (v : Value) (xT : TypeId) (w : World) : (Instr.typeAssert (.iface 212 v) xT 99 true).run Tryz.prog w = .ok (.tuple #[.iface 212 v, .bool true]) w := run_typeAssert_hasB Tryz.underlying99 (by kernel_rfl) v xT w
set_option maxRecDepth 100000 in
set_option maxHeartbeats 2000000 in
theorem is_same (a : Addr) (w : World) :
    Calls Tryz.prog 60 #[.iface 212 (.pointer (some a)), .iface 212 (.pointer (some a))] w fun e w' => e = .returned (.bool true) ∧ w' = w := by
  obtain ⟨i, hi, hcmp⟩ := Option.map_eq_some_iff.1 isComp
  obtain ⟨j, hj, hjs⟩ := Option.map_eq_some_iff.1 isSize
  have h8 := @run_callFunc_extern Tryz.prog 97 _ Extern.ReflectliteType.typeOf Tryz.func97 (by kernel_rfl) (by kernel_rfl) (by kernel_rfl) (by kernel_rfl)
  have h32 := @run_callFunc_extern Tryz.prog 157 _ cmpF Tryz.func157 (by kernel_rfl) (by kernel_rfl) (by kernel_rfl) cmpF_is
  have tT := isTypeOf
  have cT := isComparable
  have mR := isMethodComparable
  have heq := run_eql_iface_ptr_same (P := Tryz.prog) w a Tryz.underlying99 Tryz.underlying212 hi hcmp hj
  go_enter Tryz.func60, Tryz.ntmps60
  go_wp2
  refine wp_loop_rounds 1 ?_
  rw [rounds_succ]
  go_wp2
  go_ret
  exact ⟨rfl, rfl⟩
set_option maxRecDepth 100000 in
set_option maxHeartbeats 2000000 in
theorem is_other (a b : Addr) (ca cb : Array Value) (ta tb : TypeId) (w : World) (hne : a ≠ b) (ha : w.heap[a.block]? = some (.cells ca ta (0, 0))) (hb : w.heap[b.block]? = some (.cells cb tb (0, 0))) :
    Calls Tryz.prog 60 #[.iface 212 (.pointer (some a)), .iface 212 (.pointer (some b))] w fun e w' => e = .returned (.bool false) ∧ w' = w := by
  obtain ⟨i, hi, hcmp⟩ := Option.map_eq_some_iff.1 isComp
  obtain ⟨j, hj, hjs⟩ := Option.map_eq_some_iff.1 isSize
  have h8 := @run_callFunc_extern Tryz.prog 97 _ Extern.ReflectliteType.typeOf Tryz.func97 (by kernel_rfl) (by kernel_rfl) (by kernel_rfl) (by kernel_rfl)
  have h32 := @run_callFunc_extern Tryz.prog 157 _ cmpF Tryz.func157 (by kernel_rfl) (by kernel_rfl) (by kernel_rfl) cmpF_is
  have tT := isTypeOf
  have cT := isComparable
  have mR := isMethodComparable
  have nE := noIsE
  have uE := noUnwrapE
  have vE := noUnwrapsE
  have heq := run_eql_iface_ptr_other (P := Tryz.prog) w Tryz.underlying99 Tryz.underlying212 hi hcmp hj (by rw [hjs]; decide) hne ha hb
  go_enter Tryz.func60, Tryz.ntmps60
  go_wp2
  refine wp_loop_rounds 1 ?_
  rw [rounds_succ]
  go_wp2
  go_ret
  exact ⟨rfl, rfl⟩
end Go.Proofs.YteeillphhiaopaaGreatDoor
namespace Go.Proofs.YteeillphhiaopaaGreatDoor
set_option maxRecDepth 100000
set_option maxHeartbeats 4000000
open Go.ChangeShapes Go.WideShapes Go.ChangeAt Go.RowKit
set_option linter.unusedVariables false
structure SlD (ds : List Deferred) (n : Nat) (L : List (Nat × Value)) (a : Act) : Prop where
  defers : a.defers = ds
  size : a.tmps.size = n
  get : ∀ k v, look k L = some v → a.tmps.getD k undef = v
theorem SlD.put {ds : List Deferred} {n d : Nat} {L : List (Nat × Value)} {a : Act} (H : SlD ds n L a) (v : Value) (hd : Nat.blt d n = true) : SlD ds n ((d, v) :: L) (a.put (some d) v) := by
  have hd' : d < n := by simp [Nat.blt] at hd; omega
  refine ⟨H.defers, by simp [Act.put, H.size], fun k u hk => ?_⟩
  rw [look_cons] at hk
  by_cases h : d = k
  · subst h
    simp only [if_true, Option.some.injEq] at hk
    subst hk
    simp [Act.put, H.size, hd']
  · rw [if_neg h] at hk
    have := H.get k u hk
    simp only [Act.put]
    rw [Array.getD_eq_getD_getElem?] at this ⊢
    rw [Array.getElem?_setIfInBounds_ne h]
    exact this
theorem SlD.eval {ds : List Deferred} {n : Nat} {L : List (Nat × Value)} {a : Act} (H : SlD ds n L a) {x : Operand} (h : knows L x = true) : a.eval x = ev L x := by
  cases x with
  | tmp t =>
    simp only [knows] at h
    cases hl : look t L with
    | none => rw [hl] at h; cases h
    | some v => simp only [Act.eval, ev, hl, Option.getD_some]; exact H.get t v hl
  | _ => rfl
theorem SlD.exec {ds : List Deferred} {n : Nat} {L : List (Nat × Value)} {a : Act} (H : SlD ds n L a) {o : Oper} (hk : knowsAll L o.op.operands.toList = true) (hs : notSelect o.op = true) : execOp a.eval o = execOp (ev L) o :=
  execOp_congr o (fun cs b e => by rw [e] at hs; cases hs) fun x hx => H.eval (knowsAll_spec hk x (by simpa using hx))
theorem SlD.keep {ds : List Deferred} {n : Nat} {L L' : List (Nat × Value)} {a : Act} (H : SlD ds n L a) (h : (L'.map fun p => look p.1 L) = L'.map fun p => some p.2) : SlD ds n L' a := ⟨H.defers, H.size, fun k v hk => H.get k v (keeps_spec h k v hk)⟩
theorem SlD.wanted {ds : List Deferred} {n : Nat} {L : List (Nat × Value)} {a : Act} (H : SlD ds n L a) {ops : Array Oper} {o : Oper} {b : Bool} (h : wantedL ops L o = some b) : Region.wanted o (yielded ops a.tmps) = b := by
  unfold wantedL at h
  unfold Region.wanted
  cases hg : o.guard with
  | none => rw [hg] at h; simpa using h
  | some jw =>
    obtain ⟨j, want⟩ := jw
    rw [hg] at h
    simp only at h ⊢
    unfold yielded
    cases hd : (ops[j]?).bind (·.dst) with
    | none => rw [hd] at h; cases h
    | some d =>
      rw [hd] at h
      simp only at h
      cases hl : look d L with
      | none => rw [hl] at h; cases h
      | some v =>
        rw [hl] at h
        have hv := H.get d v hl
        have hv' : a.tmps[d]? = some v ∨ (a.tmps[d]? = none ∧ v = undef) := by
          rw [Array.getD_eq_getD_getElem?] at hv
          cases hh : a.tmps[d]? with
          | none => rw [hh] at hv; exact .inr ⟨rfl, hv.symm⟩
          | some u => rw [hh] at hv; exact .inl (by simpa using hv)
        cases v with
        | bool c =>
          rcases hv' with hv' | ⟨_, hv'⟩
          · simp [hv'] at h ⊢; exact h
          · cases hv'
        | _ =>
          simp only [Option.some.injEq] at h
          subst h
          rcases hv' with hv' | ⟨hv', _⟩ <;> simp [hv']
theorem SlD.as {ds : List Deferred} {n : Nat} {L : List (Nat × Value)} {a : Act} {u : Value} (H : SlD ds n L a) (d : Nat) (v : Value) (hl : look d L = some u) (hv : u = v) : SlD ds n ((d, v) :: L) a :=
  ⟨H.defers, H.size, fun k x hk => by
    rw [look_cons] at hk
    by_cases h : d = k
    · subst h; rw [if_pos rfl] at hk; cases hk; rw [← hv]; exact H.get _ _ hl
    · rw [if_neg h] at hk; exact H.get k x hk⟩
section
variable {P : Program} {ops : Array Oper} {Q : Exit → Act → World → Prop} {a : Act} {w w' : World} {rest : List Oper} {o : Oper} {n i : Nat} {L : List (Nat × Value)} {ds : List Deferred} {KK : Act → World → Prop}
theorem SlD.valW (H : SlD ds n L a) (d : Nat) (v : Value) (hc : chk ops n L o d = true)
    (hx : (execOp (ev L) o).run P w = .ok (.value v) w') (k : ∀ a', SlD ds n ((d, v) :: L) a' → wpList P ops Q rest a' w') : wpList P ops Q (o :: rest) a w := by
  obtain ⟨hd, hn, hk, hs, hw⟩ := chk_spec hc
  refine wpList_wanted (H.wanted hw) ?_
  unfold Oper.wp
  rw [H.exec hk hs, hx, Oper.upon_value, hd]
  exact k _ (H.put v hn)
theorem SlD.val (H : SlD ds n L a) (d : Nat) (v : Value) (hc : chk ops n L o d = true)
    (hx : (execOp (ev L) o).run P w = .ok (.value v) w) (k : ∀ a', SlD ds n ((d, v) :: L) a' → wpList P ops Q rest a' w) : wpList P ops Q (o :: rest) a w := H.valW d v hc hx k
theorem SlD.valE (H : SlD ds n L a) (d : Nat) (u v : Value) (hc : chk ops n L o d = true)
    (hx : (execOp (ev L) o).run P w = .ok (.value u) w) (hv : u = v) (k : ∀ a', SlD ds n ((d, v) :: L) a' → wpList P ops Q rest a' w) : wpList P ops Q (o :: rest) a w := by
  subst hv; exact H.val d u hc hx k
theorem SlD.alloc {w0 : World} {LH : List HB} {K : List FK} (H : SlD ds n L a) (HP : Hp w0 w LH K) (d : Nat) (V : Nat → Value) (t : TypeId) (vs : List Value) (hc : chk ops n L o d = true)
    (hx : ∀ w, (execOp (ev L) o).run P w = .ok (.value (V w.heap.size)) (w.alloc (.cells vs.toArray t)))
    (k : ∀ b w' a', SlD ds n ((d, V b) :: L) a' → Hp w0 w' (bx b t vs true :: LH) K → wpList P ops Q rest a' w') : wpList P ops Q (o :: rest) a w :=
  H.valW d _ hc (hx w) fun a' H' => k _ _ a' H' (HP.alloc t vs)
theorem SlD.store {w0 : World} {LH : List HB} {K : List FK} {t : TypeId} {x y : Operand} {ty : TypeId} {pos : String} {af : Array Edge} {g : Option (Nat × Bool)} (H : SlD ds n L a) (HP : Hp w0 w LH K) (i b off k : Nat) (tb : TypeId) (us : List Value) (f : Bool) (v : Value) (LH' : List HB)
    (hc : chk0 ops L ⟨none, .store t x y, ty, pos, af, g⟩ = true) (hx : ev L x = .pointer (some ⟨b, off, none⟩)) (hy : ev L y = v) (hi : LH[i]? = some (bx b tb us f)) (hs : sizeB P t = some k) (hv : v.cells.size = k) (h1 : oneCells v.cells.toList = true) (hl : Nat.ble (off + v.cells.toList.length) us.length = true)
    (hL : LH.set i (bx b tb (setAll us off v.cells.toList) f) = LH')
    (kk : ∀ w' a', SlD ds n L a' → Hp w0 w' LH' K → wpList P ops Q rest a' w') : wpList P ops Q (⟨none, .store t x y, ty, pos, af, g⟩ :: rest) a w := by
  obtain ⟨hd, hk, hs', hw⟩ := chk0_spec hc
  refine wpList_wanted (H.wanted hw) ?_
  obtain ⟨w', hr, hw'⟩ := run_storeCells (P := P) (off := off) v.cells.toList us 0 w LH K HP hi h1 (by simpa [Nat.ble_eq] using hl)
  unfold Oper.wp
  rw [H.exec hk hs']
  simp only [execOp, hx, hy, Instr.storeAt, Instr.sureAddr, storeVar, Sem.run_bind, Sem.run_pure, Result.andThen_ok, run_sizeOf hs, hv]
  simp only [ne_eq, not_true_eq_false, if_false, hr, Result.andThen_ok, Oper.upon_skip]
  exact kk w' _ H (hL ▸ hw')
theorem SlD.call (H : SlD ds n L a) (d : Nat) {f : FuncId} {args : Array Value} {R : Ending → World → Prop} (hc : chk ops n L o d = true)
    (hx : (execOp (ev L) o).run P w = .ok (.enter f args) w') (hC : Calls P f args w' R) (k : ∀ e w'', R e w'' → ∃ v, e = .returned v ∧ ∀ a', SlD ds n ((d, v) :: L) a' → wpList P ops Q rest a' w'') : wpList P ops Q (o :: rest) a w := by
  obtain ⟨hd, hn, hk, hs, hw⟩ := chk_spec hc
  refine wpList_wanted (H.wanted hw) ?_
  unfold Oper.wp
  rw [H.exec hk hs, hx, Oper.upon_enter]
  refine hC.mono fun e w'' he => ?_
  obtain ⟨v, rfl, hv⟩ := k e w'' he
  rw [hd]
  exact hv _ (H.put v hn)
theorem wp_callPD (H : SlD ds n L a) (d : Nat) {f : FuncId} {args : Array Value} {R : Ending → World → Prop} (hc : chk ops n L o d = true)
    (hx : (execOp (ev L) o).run P w = .ok (.enter f args) w') (hC : Calls P f args w' R) (k : ∀ e w'', R e w'' → (∃ v, e = .returned v ∧ ∀ a', SlD ds n ((d, v) :: L) a' → KK a' w'') ∨ ∃ c, e = .panicked c ∧ ∀ a', SlD ds n L a' → Q (.panic c) a' w'') : o.wp P a w KK Q := by
  obtain ⟨hd, hn, hk, hs, hw⟩ := chk_spec hc
  unfold Oper.wp
  rw [H.exec hk hs, hx, Oper.upon_enter]
  refine hC.mono fun e w'' he => ?_
  rcases k e w'' he with ⟨v, rfl, hv⟩ | ⟨c, rfl, hv⟩
  · rw [hd]
    exact hv _ (H.put v hn)
  · exact hv _ H
theorem SlD.callP (H : SlD ds n L a) (d : Nat) {f : FuncId} {args : Array Value} {R : Ending → World → Prop} (hc : chk ops n L o d = true)
    (hx : (execOp (ev L) o).run P w = .ok (.enter f args) w') (hC : Calls P f args w' R) (k : ∀ e w'', R e w'' → (∃ v, e = .returned v ∧ ∀ a', SlD ds n ((d, v) :: L) a' → wpList P ops Q rest a' w'') ∨ ∃ c, e = .panicked c ∧ ∀ a', SlD ds n L a' → Q (.panic c) a' w'') : wpList P ops Q (o :: rest) a w :=
  wpList_wanted (H.wanted (chk_spec hc).2.2.2.2) (wp_callPD H d hc hx hC k)
theorem SlD.panic0 (H : SlD ds n L a) {v : Value} (hc : chk0 ops L o = true) (hx : (execOp (ev L) o).run P w = .halt (.panic v) w') (k : Q (.panic [{ v := v, recovered := false }]) a w') : wpList P ops Q (o :: rest) a w := by
  obtain ⟨hd, hk, hs, hw⟩ := chk0_spec hc
  refine wpList_wanted (H.wanted hw) ?_
  unfold Oper.wp
  rw [H.exec hk hs, hx, Oper.upon_panic]
  exact k
theorem SlD.v (H : SlD ds n L a) (d : Nat) (v : Value) (k : ∀ a', SlD ds n ((d, v) :: L) a' → wpList P ops Q rest a' w) (hc : chk ops n L o d = true := by kernel_rfl) (hx : (execOp (ev L) o).run P w = .ok (.value v) w := by kernel_rfl) : wpList P ops Q (o :: rest) a w := H.val d v hc hx k
theorem SlD.u (H : SlD ds n L a) (d : Nat) (v : Value) (hx : (execOp (ev L) o).run P w = .ok (.value v) w) (k : ∀ a', SlD ds n ((d, v) :: L) a' → wpList P ops Q rest a' w) (hc : chk ops n L o d = true := by kernel_rfl) : wpList P ops Q (o :: rest) a w := H.val d v hc hx k
theorem SlD.defer (H : SlD ds n L a) {d : Deferred} (hc : chk0 ops L o = true) (hx : (execOp (ev L) o).run P w = .ok (.defer d) w) (k : ∀ a', SlD (d :: ds) n L a' → wpList P ops Q rest a' w) : wpList P ops Q (o :: rest) a w := by
  obtain ⟨hd, hk, hs, hw⟩ := chk0_spec hc
  refine wpList_wanted (H.wanted hw) ?_
  unfold Oper.wp
  rw [H.exec hk hs, hx, Oper.upon_defer, hd]
  exact k _ ⟨by simp [Act.put, H.defers], H.size, H.get⟩
end
section
variable {P : Program} {Q : Exit → Act → World → Prop} {a : Act} {w : World} {n : Nat} {L : List (Nat × Value)} {ds : List Deferred}
theorem w_ifD {x y : Code} {t : Nat} {e : Bool} (H : SlD ds n L a) (hl : look t L = some (.bool e)) (ht : e = true → x.wp P Q a w) (hf : e = false → y.wp P Q a w) : (Code.cond (.tmp t) x y).wp P Q a w :=
  wp_cond_split (t := e) (by simp only [Act.eval]; exact H.get t _ hl) ht hf
end
theorem Sl.toD {n : Nat} {L : List (Nat × Value)} {a : Act} (H : Sl n L a) : SlD [] n L a := ⟨H.defers, H.size, H.get⟩
theorem w_enterD {P : Program} {f : FuncId} {fn : Func} {c : Code} {args : List Value} {w : World} {R : Ending → World → Prop} (n : Nat) (L : List (Nat × Value)) (hf : P.funcs[f]? = some fn) (hb : fn.body = some c) (hn : fn.ntmps = n)
    (hle : Nat.ble args.length n = true) (hk : (L.map fun p => look p.1 (args.zipIdx.map fun p => (p.2, p.1))) = L.map fun p => some p.2) (k : ∀ a, SlD [] n L a → c.wp P (bodyPostD P fn R) a w) : Calls P f args.toArray w R := by
 refine calls_of_wp_defers hf hb ?_
 rw [hn]
 exact k _ (Sl.enter args n L hle hk).toD
theorem wpOpsS_recover {P : Program} {ops : Array Oper} {Q : Exit → Act → List Frame → World → Prop} {rest : List Nat} {i : Nat} {o : Oper} {a : Act} {cs cs' : List Frame} {w : World} {v : Value} (ho : ops[i]? = some o) (hg : o.guard = none) (hx : (execOp a.eval o).run P w = .ok .recover w)
    (hrec : (recoverD cs = some (v, cs')) ∨ (recoverD cs = none ∧ v = .nilIface ∧ cs' = cs)) (h : wpOpsS P ops Q rest (a.put o.dst v) cs' w) : wpOpsS P ops Q (i :: rest) a cs w := by
  have hw : Region.wanted o (yielded ops a.tmps) = true := by simp [Region.wanted, hg]
  simp only [wpOpsS, ho, hw, if_true, hx]
  rcases hrec with hr | ⟨hr, rfl, rfl⟩
  · simp only [hr]; exact h
  · simp only [hr]; exact h
theorem wpOpsS_val {P : Program} {ops : Array Oper} {Q : Exit → Act → List Frame → World → Prop} {rest : List Nat} {i : Nat} {o : Oper} {a : Act} {cs : List Frame} {w : World} {v : Value} (ho : ops[i]? = some o) (hg : o.guard = none) (hx : (execOp a.eval o).run P w = .ok (.value v) w)
    (h : wpOpsS P ops Q rest (a.put o.dst v) cs w) : wpOpsS P ops Q (i :: rest) a cs w := by
  have hw : Region.wanted o (yielded ops a.tmps) = true := by simp [Region.wanted, hg]
  simp only [wpOpsS, ho, hw, if_true, hx]
  exact h
theorem wpS_recover {P : Program} {Q : Exit → Act → List Frame → World → Prop} {id d d' : Nat} {ty ty' : TypeId} {pos pos' : String} {af : Array Edge} {a : Act} {n : Nat} {L : List (Nat × Value)} {cs cs' : List Frame} {w : World} {v : Value} (H : Sl n L a) (h1 : Nat.blt d n = true) (h2 : Nat.blt d' n = true)
    (hrec : (recoverD cs = some (v, cs')) ∨ (recoverD cs = none ∧ v = .nilIface ∧ cs' = cs)) (h : ∀ a', Sl n ((d', v) :: (d, v) :: L) a' → Q .normal a' cs' w) :
    (Code.region id #[⟨some d, .call { callee := .builtin .recover, args := #[], argTypes := #[] }, ty, pos, #[], none⟩, ⟨some d', .assign (.tmp d), ty', pos', af, none⟩] false).wpS P Q a cs w := by
  refine wpS_region ?_
  refine wpOpsS_recover (i := 0) rfl rfl rfl hrec ?_
  have H1 := H.put v h1
  refine wpOpsS_val (i := 1) (v := v) rfl rfl ?_ ?_
  · have := H1.get d v (by rw [look_cons]; simp)
    have e : (execOp (a.put (some d) v).eval ⟨some d', .assign (.tmp d), ty', pos', af, none⟩).run P w = .ok (.value v) w := by
      simp only [execOp, Act.eval]
      rw [this]
      rfl
    exact e
  · exact h _ (H1.put v h2)
end Go.Proofs.YteeillphhiaopaaGreatDoor
namespace Go.Proofs.YteeillphhiaopaaGreatDoor
set_option maxRecDepth 100000
set_option maxHeartbeats 4000000
open Go.ChangeShapes Go.WideShapes Go.ChangeAt Go.RowKit
set_option linter.unusedVariables false
set_option linter.unusedSimpArgs false
def CaughtPost (pb eb : Nat) (v : Value) (older : List PanicEntry) (E : Int) (w : World) (e : Ending) (u : FrameMode) (w' : World) : Prop :=
 e = .returned (.tuple #[]) ∧ u = .panicking ({ v := v, recovered := true } :: older) ∧ Agree w w' (fun j => j = pb ∨ j = eb) ∧ Box w' pb 32 [(.int .i64 0), (.int .i64 0), (.int .i64 0), (.int .i64 0), (.slice none 0 0), (.int .i64 0), (.int .i64 0), (.int .i64 0), (.int .i64 0), (.slice none 0 0), (.slice none 0 0), (.slice none 0 0), (.slice none 0 0)].toArray ∧ Box w' eb 52 [.int .i64 E].toArray
def plZ : Pln := ⟨0, 0, 0, 0, none, 0, [], 0, 0, 0, 0, none, 0, [], none, 0, [], none, 0, [], none, 0, []⟩
theorem plZ_is (w : World) : IsPln w plZ := ⟨IsRow.nil _ _, IsRow.nil _ _, ⟨IsRow.nil _ _, fun _ h => by cases h⟩, IsRow.nil _ _, IsRow.nil _ _, Nat.zero_le _, Nat.zero_le _, Nat.zero_le _, Nat.zero_le _, Nat.zero_le _⟩
theorem plZ_fp {n : Nat} : ∀ j, plZ.fp j → n ≤ j := by
 rintro j (h | h | (h | ⟨_, h, _⟩) | h | h)
 ·exact absurd h.1 (by decide)
 ·exact absurd h.1 (by decide)
 ·exact absurd h.1 (by decide)
 ·cases h
 ·exact absurd h.1 (by decide)
 ·exact absurd h.1 (by decide)
def DecPost (s : List UInt8) (w : World) (e : Ending) (w' : World) : Prop :=
 ∃ p : Pln, e = .returned (.tuple #[.agg (plC p).toArray, .int .i64 (decN s).2]) ∧ p.nv = (decN s).1 ∧ IsPln w' p ∧ (∀ j, p.fp j → w.heap.size ≤ j) ∧ Below w.heap.size w w'
theorem ex_isError {ρ : Operand → Value} {w : World} {x : Operand} {dst : Option Tmp} {ty : TypeId} {pos : String} {af : Array Edge} {g : Option (Nat × Bool)} {v : Value} {xT : TypeId} (hx : ρ x = .iface 212 v) :
  (execOp ρ ⟨dst, .typeAssert x xT 99 true, ty, pos, af, g⟩).run Tryz.prog w = .ok (.value (.tuple #[.iface 212 v, .bool true])) w := by
 simp only [execOp, hx, Sem.run_bind, isErrorE v xT w, Result.andThen_ok, Sem.run_pure]
theorem Hp.eqW {w0 w w' : World} {L : List HB} {K : List FK} (H : Hp w0 w L K) (h : w' = w) : Hp w0 w' L K := by rw [h]; exact H
theorem ret_none {P : Program} {fn : Func} (hr : fn.results = #[]) (tmps : Array Value) (w : World) : (results fn tmps).run P w = .ok (.tuple #[]) w := by
 unfold results
 rw [hr]
 simp
section
variable {P : Program} {fn : Func} {R : Ending → World → Prop} {a : Act} {w : World} {n : Nat} {L : List (Nat × Value)} {ds : List Deferred}
theorem SlD.leaveP {c : List PanicEntry} (H : SlD ds n L a) (h : Leaves P fn a.tmps R ds (.panicking c) w) : bodyPostD P fn R (.panic c) a w := by
 show Leaves _ _ _ _ _ _ _
 rw [H.defers]; exact h
theorem SlD.leaveR (H : SlD ds n L a) (h : Leaves P fn a.tmps R ds .returning w) : bodyPostD P fn R .ret a w := by
 show Leaves _ _ _ _ _ _ _
 rw [H.defers]; exact h
theorem RV.runD (H : SlD ds n L a) {r : ResultVar} {v : Value} (h : RV P w L r v) : (resOf a.tmps r).run P w = .ok v w := by
 cases r with
 | tmp t => simp only [resOf, H.get t v h, Sem.run_pure]
 | cell p t =>
  obtain ⟨q, hq, hl⟩ := h
  simp only [resOf, H.get p _ hq, asAddr, Sem.run_bind, Sem.run_pure, Result.andThen_ok, hl]
theorem retD2 (H : SlD ds n L a) {r s : ResultVar} {v u : Value} (hr : fn.results = #[r, s]) (h : RV P w L r v) (h' : RV P w L s u) : (results fn a.tmps).run P w = .ok (.tuple #[v, u]) w := by
 rw [results_of, hr]
 simp [h.runD H, h'.runD H]
theorem leaves_done {tmps : Array Value} {v : Value} (h : (results fn tmps).run P w = .ok v w) (hR : R (.returned v) w) : Leaves P fn tmps R [] .returning w := ⟨v, h, hR⟩
end
set_option maxRecDepth 100000 in
set_option maxHeartbeats 2000000 in
theorem catch_idle (pb eb : Nat) (w : World) :
  CallsD Tryz.prog 59 #[.pointer (some ⟨pb, 0, none⟩), .pointer (some ⟨eb, 0, none⟩)] .returning w fun e u' w' => e = .returned (.tuple #[]) ∧ u' = .returning ∧ w' = w := by
 refine callsD_of_wpS Tryz.func59 rfl fun c₀ cs hu => ?_
 have H0 := Sl.enter [.pointer (some ⟨pb, 0, none⟩), .pointer (some ⟨eb, 0, none⟩)] 18 [(0, .pointer (some ⟨pb, 0, none⟩)), (1, .pointer (some ⟨eb, 0, none⟩))] (by kernel_rfl) (by unfold keeps; kernel_rfl)
 refine wpS_seq (wpS_recover H0 (cs' := c₀ :: cs) (v := .nilIface) (by kernel_rfl) (by kernel_rfl) (.inr ⟨by simp only [recoverD, hu], rfl, rfl⟩) fun a H => ?_)
 refine wpS_of_wp ?_
 refine wp_seq (wp_seq (w_region ?_))
 refine H.v 6 .nilIface fun a H => ?_
 refine H.v 7 (.bool true) fun a H => ?_
 refine wpList_nil (then_normal ?_)
 refine w_ift H rfl (wp_ret (then_ret ?_))
 refine ⟨H.defers, .returning, by rw [← hu], _, ret_none (fn := Tryz.f59) rfl _ _, rfl, rfl, rfl⟩
set_option maxRecDepth 100000 in
set_option maxHeartbeats 4000000 in
theorem catch_bytes (a0 a1 : Addr) (pb eb : Nat) (u0 u1 u2 u3 u4 u5 u6 u7 u8 u9 u10 u11 u12 : Value) (older : List PanicEntry) (w : World) (hL : LaidP a0 a1 w) (hsep : ∀ j, lpFp a0 a1 j → j ≠ pb ∧ j ≠ eb) (hp : Box w pb 32 [u0, u1, u2, u3, u4, u5, u6, u7, u8, u9, u10, u11, u12].toArray) (he : Box w eb 52 #[.int .i64 0]) (hne : pb ≠ eb) :
  CallsD Tryz.prog 59 #[.pointer (some ⟨pb, 0, none⟩), .pointer (some ⟨eb, 0, none⟩)] (.panicking ({ v := errV a0, recovered := false } :: older)) w (CaughtPost pb eb (errV a0) older 10 w) := by
 have HP : Hp w w [bx pb 32 [u0, u1, u2, u3, u4, u5, u6, u7, u8, u9, u10, u11, u12] false, bx eb 52 [.int .i64 0] false] [laidK a0 a1] := (Hp.own2 hp he hne).keepF (laidK a0 a1) hL (laidK_ok _ _) (fun j hj => ⟨hL.lt j hj, by simpa [bx] using hsep j hj⟩)
 refine callsD_of_wpS Tryz.func59 rfl fun c₀ cs hu => ?_
 have H0 := Sl.enter [.pointer (some ⟨pb, 0, none⟩), .pointer (some ⟨eb, 0, none⟩)] 18 [(0, .pointer (some ⟨pb, 0, none⟩)), (1, .pointer (some ⟨eb, 0, none⟩))] (by kernel_rfl) (by unfold keeps; kernel_rfl)
 refine wpS_seq (wpS_recover H0 (cs' := { c₀ with mode := .panicking ({ v := errV a0, recovered := true } :: older) } :: cs) (v := errV a0) (by kernel_rfl) (by kernel_rfl) (.inl (by simp only [recoverD, hu])) fun a H => ?_)
 refine wpS_of_wp ?_
 refine wp_seq (wp_seq (w_region ?_))
 refine H.v 6 (.iface 212 (.pointer (some a0))) fun a H => ?_
 refine H.v 7 (.bool false) fun a H => ?_
 refine wpList_nil (then_normal ?_)
 refine w_iff H rfl ?_
 refine wp_skip (then_normal (wp_seq (w_region ?_)))
 refine H.v 8 (.agg #[(ii 0), (ii 0), (ii 0), (ii 0), (.slice none 0 0), (ii 0), (ii 0), (ii 0), (ii 0), (.slice none 0 0), (.slice none 0 0), (.slice none 0 0), (.slice none 0 0)]) fun a H => ?_
 refine H.store HP 0 pb 0 13 32 _ false (.agg #[(ii 0), (ii 0), (ii 0), (ii 0), (.slice none 0 0), (ii 0), (ii 0), (ii 0), (ii 0), (.slice none 0 0), (.slice none 0 0), (.slice none 0 0), (.slice none 0 0)]) [bx pb 32 [(ii 0), (ii 0), (ii 0), (ii 0), (.slice none 0 0), (ii 0), (ii 0), (ii 0), (ii 0), (.slice none 0 0), (.slice none 0 0), (.slice none 0 0), (.slice none 0 0)] false, bx eb 52 [(ii 0)] false] (by kernel_rfl) (by kernel_rfl) (by kernel_rfl) rfl (by kernel_rfl) (by kernel_rfl) (by kernel_rfl) (by kernel_rfl) (by kernel_rfl) fun w_1 a H HP => ?_
 refine H.store HP 1 eb 0 1 52 _ false (ii 80) [bx pb 32 [(ii 0), (ii 0), (ii 0), (ii 0), (.slice none 0 0), (ii 0), (ii 0), (ii 0), (ii 0), (.slice none 0 0), (.slice none 0 0), (.slice none 0 0), (.slice none 0 0)] false, bx eb 52 [(ii 80)] false] (by kernel_rfl) (by kernel_rfl) (by kernel_rfl) rfl (by kernel_rfl) (by kernel_rfl) (by kernel_rfl) (by kernel_rfl) (by kernel_rfl) fun w_2 a H HP => ?_
 refine wpList_nil (then_normal (wp_seq (w_region ?_)))
 refine H.v 10 (.iface 212 (.pointer (some a0))) fun a H => ?_
 refine H.u 11 (.tuple #[(.iface 212 (.pointer (some a0))), (.bool true)]) (ex_isError (by kernel_rfl)) fun a H => ?_
 refine H.v 9 (.tuple #[(.iface 212 (.pointer (some a0))), (.bool true)]) fun a H => ?_
 refine H.v 12 (.iface 212 (.pointer (some a0))) fun a H => ?_
 refine H.v 13 (.bool true) fun a H => ?_
 refine H.v 3 (.iface 212 (.pointer (some a0))) fun a H => ?_
 refine H.v 4 (.bool true) fun a H => ?_
 refine wpList_nil (then_normal (wp_seq (w_region ?_)))
 refine H.v 14 (.bool true) fun a H => ?_
 refine wpList_nil (then_normal ?_)
 refine w_ift H rfl ?_
 refine wp_seq (w_region ?_)
 refine H.v 15 (.iface 212 (.pointer (some a0))) fun a H => ?_
 refine H.u 16 (.iface 212 (.pointer (some a0))) (ex_l1 ((HP.fact 0 rfl : LaidP a0 a1 _).c0)) fun a H => ?_
 refine H.call 17 (by kernel_rfl) (Eq.trans (by kernel_rfl : _ = (callFunc 60 #[(.iface 212 (.pointer (some a0))), (.iface 212 (.pointer (some a0)))]).run Tryz.prog w_2) (Tryz.call60 _ _)) (is_same a0 w_2) ?_
 rintro e w_3 ⟨rfl, hw⟩
 refine ⟨_, rfl, ?_⟩
 intro a H
 have HP := HP.eqW hw
 refine wpList_nil (then_normal ?_)
 refine w_ift H rfl ?_
 refine w_region ?_
 refine H.store HP 1 eb 0 1 52 _ false (ii 10) [bx pb 32 [(ii 0), (ii 0), (ii 0), (ii 0), (.slice none 0 0), (ii 0), (ii 0), (ii 0), (ii 0), (.slice none 0 0), (.slice none 0 0), (.slice none 0 0), (.slice none 0 0)] false, bx eb 52 [(ii 10)] false] (by kernel_rfl) (by kernel_rfl) (by kernel_rfl) rfl (by kernel_rfl) (by kernel_rfl) (by kernel_rfl) (by kernel_rfl) (by kernel_rfl) fun w_4 a H HP => ?_
 refine wpList_nil ?_
 exact ⟨H.defers, _, rfl, _, ret_none (fn := Tryz.f59) rfl _ _, rfl, rfl, HP.agree _ (by simp [bx]), HP.at_ 0 rfl, HP.at_ 1 rfl⟩
set_option maxRecDepth 100000 in
set_option maxHeartbeats 4000000 in
theorem catch_plan (a0 a1 : Addr) (pb eb : Nat) (u0 u1 u2 u3 u4 u5 u6 u7 u8 u9 u10 u11 u12 : Value) (older : List PanicEntry) (w : World) (hL : LaidP a0 a1 w) (hsep : ∀ j, lpFp a0 a1 j → j ≠ pb ∧ j ≠ eb) (hp : Box w pb 32 [u0, u1, u2, u3, u4, u5, u6, u7, u8, u9, u10, u11, u12].toArray) (he : Box w eb 52 #[.int .i64 0]) (hne : pb ≠ eb) :
  CallsD Tryz.prog 59 #[.pointer (some ⟨pb, 0, none⟩), .pointer (some ⟨eb, 0, none⟩)] (.panicking ({ v := errV a1, recovered := false } :: older)) w (CaughtPost pb eb (errV a1) older 80 w) := by
 have HP : Hp w w [bx pb 32 [u0, u1, u2, u3, u4, u5, u6, u7, u8, u9, u10, u11, u12] false, bx eb 52 [.int .i64 0] false] [laidK a0 a1] := (Hp.own2 hp he hne).keepF (laidK a0 a1) hL (laidK_ok _ _) (fun j hj => ⟨hL.lt j hj, by simpa [bx] using hsep j hj⟩)
 refine callsD_of_wpS Tryz.func59 rfl fun c₀ cs hu => ?_
 have H0 := Sl.enter [.pointer (some ⟨pb, 0, none⟩), .pointer (some ⟨eb, 0, none⟩)] 18 [(0, .pointer (some ⟨pb, 0, none⟩)), (1, .pointer (some ⟨eb, 0, none⟩))] (by kernel_rfl) (by unfold keeps; kernel_rfl)
 refine wpS_seq (wpS_recover H0 (cs' := { c₀ with mode := .panicking ({ v := errV a1, recovered := true } :: older) } :: cs) (v := errV a1) (by kernel_rfl) (by kernel_rfl) (.inl (by simp only [recoverD, hu])) fun a H => ?_)
 refine wpS_of_wp ?_
 refine wp_seq (wp_seq (w_region ?_))
 refine H.v 6 (.iface 212 (.pointer (some a1))) fun a H => ?_
 refine H.v 7 (.bool false) fun a H => ?_
 refine wpList_nil (then_normal ?_)
 refine w_iff H rfl ?_
 refine wp_skip (then_normal (wp_seq (w_region ?_)))
 refine H.v 8 (.agg #[(ii 0), (ii 0), (ii 0), (ii 0), (.slice none 0 0), (ii 0), (ii 0), (ii 0), (ii 0), (.slice none 0 0), (.slice none 0 0), (.slice none 0 0), (.slice none 0 0)]) fun a H => ?_
 refine H.store HP 0 pb 0 13 32 _ false (.agg #[(ii 0), (ii 0), (ii 0), (ii 0), (.slice none 0 0), (ii 0), (ii 0), (ii 0), (ii 0), (.slice none 0 0), (.slice none 0 0), (.slice none 0 0), (.slice none 0 0)]) [bx pb 32 [(ii 0), (ii 0), (ii 0), (ii 0), (.slice none 0 0), (ii 0), (ii 0), (ii 0), (ii 0), (.slice none 0 0), (.slice none 0 0), (.slice none 0 0), (.slice none 0 0)] false, bx eb 52 [(ii 0)] false] (by kernel_rfl) (by kernel_rfl) (by kernel_rfl) rfl (by kernel_rfl) (by kernel_rfl) (by kernel_rfl) (by kernel_rfl) (by kernel_rfl) fun w_1 a H HP => ?_
 refine H.store HP 1 eb 0 1 52 _ false (ii 80) [bx pb 32 [(ii 0), (ii 0), (ii 0), (ii 0), (.slice none 0 0), (ii 0), (ii 0), (ii 0), (ii 0), (.slice none 0 0), (.slice none 0 0), (.slice none 0 0), (.slice none 0 0)] false, bx eb 52 [(ii 80)] false] (by kernel_rfl) (by kernel_rfl) (by kernel_rfl) rfl (by kernel_rfl) (by kernel_rfl) (by kernel_rfl) (by kernel_rfl) (by kernel_rfl) fun w_2 a H HP => ?_
 refine wpList_nil (then_normal (wp_seq (w_region ?_)))
 refine H.v 10 (.iface 212 (.pointer (some a1))) fun a H => ?_
 refine H.u 11 (.tuple #[(.iface 212 (.pointer (some a1))), (.bool true)]) (ex_isError (by kernel_rfl)) fun a H => ?_
 refine H.v 9 (.tuple #[(.iface 212 (.pointer (some a1))), (.bool true)]) fun a H => ?_
 refine H.v 12 (.iface 212 (.pointer (some a1))) fun a H => ?_
 refine H.v 13 (.bool true) fun a H => ?_
 refine H.v 3 (.iface 212 (.pointer (some a1))) fun a H => ?_
 refine H.v 4 (.bool true) fun a H => ?_
 refine wpList_nil (then_normal (wp_seq (w_region ?_)))
 refine H.v 14 (.bool true) fun a H => ?_
 refine wpList_nil (then_normal ?_)
 refine w_ift H rfl ?_
 refine wp_seq (w_region ?_)
 refine H.v 15 (.iface 212 (.pointer (some a1))) fun a H => ?_
 refine H.u 16 (.iface 212 (.pointer (some a0))) (ex_l1 ((HP.fact 0 rfl : LaidP a0 a1 _).c0)) fun a H => ?_
 refine H.call 17 (by kernel_rfl) (Eq.trans (by kernel_rfl : _ = (callFunc 60 #[(.iface 212 (.pointer (some a1))), (.iface 212 (.pointer (some a0)))]).run Tryz.prog w_2) (Tryz.call60 _ _)) ((by obtain ⟨c0, t0, hb0⟩ := (HP.fact 0 rfl : LaidP a0 a1 _).b0; obtain ⟨c1, t1, hb1⟩ := (HP.fact 0 rfl : LaidP a0 a1 _).b1; exact is_other a1 a0 c1 c0 t1 t0 w_2 hL.ne.symm hb1 hb0)) ?_
 rintro e w_3 ⟨rfl, hw⟩
 refine ⟨_, rfl, ?_⟩
 intro a H
 have HP := HP.eqW hw
 refine wpList_nil (then_normal ?_)
 refine w_iff H rfl ?_
 refine wp_skip ?_
 exact ⟨H.defers, _, rfl, _, ret_none (fn := Tryz.f59) rfl _ _, rfl, rfl, HP.agree _ (by simp [bx]), HP.at_ 0 rfl, HP.at_ 1 rfl⟩
theorem catch_any (a0 a1 : Addr) (E : Int) (hE : E = 10 ∨ E = 80) (pb eb : Nat) (u0 u1 u2 u3 u4 u5 u6 u7 u8 u9 u10 u11 u12 : Value) (older : List PanicEntry) (w : World) (hL : LaidP a0 a1 w) (hsep : ∀ j, lpFp a0 a1 j → j ≠ pb ∧ j ≠ eb) (hp : Box w pb 32 [u0, u1, u2, u3, u4, u5, u6, u7, u8, u9, u10, u11, u12].toArray) (he : Box w eb 52 #[.int .i64 0]) (hne : pb ≠ eb) :
  CallsD Tryz.prog 59 #[.pointer (some ⟨pb, 0, none⟩), .pointer (some ⟨eb, 0, none⟩)] (.panicking ({ v := errV (if E = 10 then a0 else a1), recovered := false } :: older)) w (CaughtPost pb eb (errV (if E = 10 then a0 else a1)) older E w) := by
 rcases hE with rfl | rfl
 ·exact catch_bytes a0 a1 pb eb u0 u1 u2 u3 u4 u5 u6 u7 u8 u9 u10 u11 u12 older w hL hsep hp he hne
 ·exact catch_plan a0 a1 pb eb u0 u1 u2 u3 u4 u5 u6 u7 u8 u9 u10 u11 u12 older w hL hsep hp he hne
theorem decode_any (a0 a1 : Addr) (s : List UInt8) (w : World) (hL : LaidP a0 a1 w) (hl : s.length ≤ 1000000) :
  Calls Tryz.prog 27 #[.string (bstr s)] w (DecPost s w) := by
 have HP := Hp.start w
 refine w_enterD 20 [(0, (.string (bstr s)))] Tryz.func27 rfl Tryz.ntmps27 (by kernel_rfl) (by kernel_rfl) fun a H => ?_
 refine sq (rg ?_)
 refine H.alloc HP 2 (fun b => (pt b 0)) 32 [(ii 0), (ii 0), (ii 0), (ii 0), (.slice none 0 0), (ii 0), (ii 0), (ii 0), (ii 0), (.slice none 0 0), (.slice none 0 0), (.slice none 0 0), (.slice none 0 0)] (by kernel_rfl) (fun w => by kernel_rfl) fun b_1 w_2 a H HP => H.alloc HP 3 (fun b => (pt b 0)) 52 [(ii 0)] (by kernel_rfl) (fun w => by kernel_rfl) fun b_3 w_4 a H HP => ?_
 refine nl (tn (sq (rg ?_)))
 refine H.v 5 (.func (.func 59) #[] #[(pt b_1 0), (pt b_3 0)]) fun a H => ?_
 refine SlD.defer H (d := { target := .fn (.func 59) #[(pt b_1 0), (pt b_3 0)], args := #[] }) (by kernel_rfl) (by kernel_rfl) fun a H => ?_
 refine nl (tn (sq (rg ?_)))
 refine H.v 6 (.string (bstr s)) fun a H => H.v 7 (.agg #[(.string (bstr s)), (ii 0)]) fun a H => H.alloc HP 4 (fun b => (pt b 0)) 103 [(.string (bstr ([]))), (ii 0)] (by kernel_rfl) (fun w => by kernel_rfl) fun b_5 w_6 a H HP => H.store HP 0 b_5 0 2 103 _ true (.agg #[(.string (bstr s)), (ii 0)]) [bx b_5 103 [(.string (bstr s)), (ii 0)] true, bx b_3 52 [(ii 0)] true, bx b_1 32 [(ii 0), (ii 0), (ii 0), (ii 0), (.slice none 0 0), (ii 0), (ii 0), (ii 0), (ii 0), (.slice none 0 0), (.slice none 0 0), (.slice none 0 0), (.slice none 0 0)] true] (by kernel_rfl) (by kernel_rfl) (by kernel_rfl) rfl (by kernel_rfl) (by kernel_rfl) (by kernel_rfl) (by kernel_rfl) (by kernel_rfl) fun w_7 a H HP => ?_
 refine nl (tn (sq (rg ?_)))
 have hlt0 := HP.lt
 have hsz0 := HP.size
 refine H.callP 8 (by kernel_rfl) (Eq.trans (by kernel_rfl : _ = (callFunc 61 #[(pt b_5 0)]).run Tryz.prog w_7) (Tryz.call61 _ _)) (rdplan_any a0 a1 s b_5 w_7 (hL.below HP.bl) (fun j hj e => by have h1 := HP.fresh _ (List.mem_of_getElem? (i := 0) rfl) rfl j e; have h2 := hL.lt j hj; omega) (HP.at_ 0 rfl) hl) ?_
 rintro e w_8 ⟨hag, (⟨E, k1, hE, hEE, rfl, hb1⟩ | ⟨p, k1, hE, hk1, rfl, hb1, hpl, hnew⟩)⟩
 ·refine .inr ⟨_, rfl, ?_⟩
  intro a H
  have HP := HP.changed1 0 rfl (rC s k1) _ rfl hag hb1
  refine then_panic ?_
  refine H.leaveP ?_
  refine leaves_cons (f := 59) (args := #[.pointer (some ⟨b_1, 0, none⟩), .pointer (some ⟨b_3, 0, none⟩)]) (by simp) (by kernel_rfl) ?_
  refine (catch_any a0 a1 E hEE b_1 b_3 (ii 0) (ii 0) (ii 0) (ii 0) (.slice none 0 0) (ii 0) (ii 0) (ii 0) (ii 0) (.slice none 0 0) (.slice none 0 0) (.slice none 0 0) (.slice none 0 0) [] w_8 (hL.below HP.bl) (fun j hj => ⟨fun e => by have h1 := HP.fresh _ (List.mem_of_getElem? (i := 2) rfl) rfl j e; have h2 := hL.lt j hj; omega, fun e => by have h1 := HP.fresh _ (List.mem_of_getElem? (i := 1) rfl) rfl j e; have h2 := hL.lt j hj; omega⟩) (HP.at_ 2 rfl) (HP.at_ 1 rfl) ((HP.neB 1 2 rfl rfl (by decide)).symm)).mono ?_
  rintro e u1 w1 ⟨rfl, rfl, hag2, hp2, he2⟩
  have HP := HP.changed2 2 1 rfl rfl [(ii 0), (ii 0), (ii 0), (ii 0), (.slice none 0 0), (ii 0), (ii 0), (ii 0), (ii 0), (.slice none 0 0), (.slice none 0 0), (.slice none 0 0), (.slice none 0 0)] [.int .i64 E] _ rfl (by decide) hag2 hp2 he2
  refine leaves_done (fn := Tryz.f27) (retD2 H Tryz.results27 (RV.cellN (vs := [(ii 0), (ii 0), (ii 0), (ii 0), (.slice none 0 0), (ii 0), (ii 0), (ii 0), (ii 0), (.slice none 0 0), (.slice none 0 0), (.slice none 0 0), (.slice none 0 0)]) (b := b_1) (off := 0) (k := 13) (by kernel_rfl) (by kernel_rfl) (by kernel_rfl) rfl (HP.cells 2 rfl 0 13 (by kernel_rfl))) (RV.cell1 (q := ⟨b_3, 0, none⟩) (v := .int .i64 E) (by kernel_rfl) (by kernel_rfl) (HP.cell 1 rfl 0 rfl))) ?_
  exact ⟨plZ, by rw [show decN s = (zeroN, E) from by unfold decN; rw [hE]] <;> rfl, by rw [show decN s = (zeroN, E) from by unfold decN; rw [hE]] <;> rfl, plZ_is _, plZ_fp, HP.below (by kernel_rfl)⟩
 refine .inl ⟨_, rfl, ?_⟩
 intro a H
 have HP := HP.changed1 0 rfl (rC s k1) [bx b_5 103 [(.string (bstr s)), (ii k1)] true, bx b_3 52 [(ii 0)] true, bx b_1 32 [(ii 0), (ii 0), (ii 0), (ii 0), (.slice none 0 0), (ii 0), (ii 0), (ii 0), (ii 0), (.slice none 0 0), (.slice none 0 0), (.slice none 0 0), (.slice none 0 0)] true] (by kernel_rfl) hag hb1
 have HP := HP.keepF (plnK p) hpl (plnK_ok p) (fun j hj => ⟨hpl.lt j hj, fun y hy hyk => by simp only [List.mem_cons, List.not_mem_nil, or_false] at hy; rcases hy with rfl | rfl | rfl <;> (first | exact Nat.lt_irrefl _ (Nat.lt_of_lt_of_le (hlt0 _ (List.mem_of_getElem? (i := 0) rfl) j hyk) (hnew j hj)) | exact Nat.lt_irrefl _ (Nat.lt_of_lt_of_le (hlt0 _ (List.mem_of_getElem? (i := 1) rfl) j hyk) (hnew j hj)) | exact Nat.lt_irrefl _ (Nat.lt_of_lt_of_le (hlt0 _ (List.mem_of_getElem? (i := 2) rfl) j hyk) (hnew j hj)))⟩)
 refine H.store HP 2 b_1 0 13 32 _ true (plV p) [bx b_5 103 [(.string (bstr s)), (ii k1)] true, bx b_3 52 [(ii 0)] true, bx b_1 32 (plL p) true] (by kernel_rfl) (by kernel_rfl) (by kernel_rfl) rfl (by kernel_rfl) (by kernel_rfl) (by kernel_rfl) (by kernel_rfl) (by kernel_rfl) fun w_9 a H HP => ?_
 refine nl (tn (sq (sq (rg ?_))))
 refine H.v 9 (pt b_5 1) fun a H => H.u 10 (ii k1) (ex_l1 (HP.cell 0 rfl 1 rfl)) fun a H => H.v 11 (.string (bstr s)) fun a H => H.v 12 (ii s.length) fun a H => H.v 13 (.bool (decide ((k1 : Int) < (s.length : Int)))) fun a H => ?_
 refine nl (tn ?_)
 refine w_ifD H rfl (fun g13 => ?_) (fun g13 => ?_)
 ·have g13p := of_decide_eq_true g13
  refine rg ?_
  refine H.u 14 (.iface 212 (.pointer (some a0))) (ex_l1 ((hL.below HP.bl).c0)) fun a H => ?_
  refine H.panic0 (v := (.iface 212 (.pointer (some a0)))) (w' := w_9) (by kernel_rfl) (by kernel_rfl) ?_
  refine then_panic ?_
  refine H.leaveP ?_
  refine leaves_cons (f := 59) (args := #[.pointer (some ⟨b_1, 0, none⟩), .pointer (some ⟨b_3, 0, none⟩)]) (by simp) (by kernel_rfl) ?_
  refine (catch_bytes a0 a1 b_1 b_3 (ii p.channel) (ii p.num) (ii p.den) (ii p.offset) (.slice p.SA p.sh.length p.sc) (ii p.epoch) (ii p.regions) (ii p.length) (ii p.fill) (.slice p.IA p.its.length p.ic) (.slice p.EA p.es.length p.ec) (.slice p.BA p.bs.length p.bc) (.slice p.CA p.cs.length p.cc) [] w_9 (hL.below HP.bl) (fun j hj => ⟨fun e => by have h1 := HP.fresh _ (List.mem_of_getElem? (i := 2) rfl) rfl j e; have h2 := hL.lt j hj; omega, fun e => by have h1 := HP.fresh _ (List.mem_of_getElem? (i := 1) rfl) rfl j e; have h2 := hL.lt j hj; omega⟩) (HP.at_ 2 rfl) (HP.at_ 1 rfl) ((HP.neB 1 2 rfl rfl (by decide)).symm)).mono ?_
  rintro e u1 w1 ⟨rfl, rfl, hag2, hp2, he2⟩
  have HP := HP.changed2 2 1 rfl rfl [(ii 0), (ii 0), (ii 0), (ii 0), (.slice none 0 0), (ii 0), (ii 0), (ii 0), (ii 0), (.slice none 0 0), (.slice none 0 0), (.slice none 0 0), (.slice none 0 0)] [.int .i64 10] _ rfl (by decide) hag2 hp2 he2
  refine leaves_done (fn := Tryz.f27) (retD2 H Tryz.results27 (RV.cellN (vs := [(ii 0), (ii 0), (ii 0), (ii 0), (.slice none 0 0), (ii 0), (ii 0), (ii 0), (ii 0), (.slice none 0 0), (.slice none 0 0), (.slice none 0 0), (.slice none 0 0)]) (b := b_1) (off := 0) (k := 13) (by kernel_rfl) (by kernel_rfl) (by kernel_rfl) rfl (HP.cells 2 rfl 0 13 (by kernel_rfl))) (RV.cell1 (q := ⟨b_3, 0, none⟩) (v := .int .i64 10) (by kernel_rfl) (by kernel_rfl) (HP.cell 1 rfl 0 rfl))) ?_
  exact ⟨plZ, by rw [show decN s = (zeroN, 10) from by unfold decN; rw [hE]; simp only; rw [if_pos (by omega)]] <;> rfl, by rw [show decN s = (zeroN, 10) from by unfold decN; rw [hE]; simp only; rw [if_pos (by omega)]] <;> rfl, plZ_is _, plZ_fp, HP.below (by kernel_rfl)⟩
 have g13p := of_decide_eq_false g13
 refine sk (tn (sq (sq (rg ?_))))
 refine H.u 15 (plV p) (ex_lN (plL p) (HP.cells 2 rfl 0 13 (by kernel_rfl))) fun a H => ?_
 refine H.call 16 (by kernel_rfl) (Eq.trans (by kernel_rfl : _ = (callFunc 14 #[(plV p)]).run Tryz.prog w_9) (Tryz.call14 _ _)) (valid_any p w_9 (HP.fact 0 rfl) (hL.below HP.bl).rates) ?_
 rintro e w_10 ⟨rfl, hb⟩
 refine ⟨_, rfl, ?_⟩
 intro a H
 have HP := HP.next hb
 refine H.v 17 (.bool (!(validPl p))) fun a H => ?_
 refine nl (tn ?_)
 refine w_ifD H rfl (fun g17 => ?_) (fun g17 => ?_)
 ·have g17p := not_is_true g17
  refine rg ?_
  refine H.u 18 (.iface 212 (.pointer (some a1))) (ex_l1 ((hL.below HP.bl).c1)) fun a H => ?_
  refine H.panic0 (v := (.iface 212 (.pointer (some a1)))) (w' := w_10) (by kernel_rfl) (by kernel_rfl) ?_
  refine then_panic ?_
  refine H.leaveP ?_
  refine leaves_cons (f := 59) (args := #[.pointer (some ⟨b_1, 0, none⟩), .pointer (some ⟨b_3, 0, none⟩)]) (by simp) (by kernel_rfl) ?_
  refine (catch_plan a0 a1 b_1 b_3 (ii p.channel) (ii p.num) (ii p.den) (ii p.offset) (.slice p.SA p.sh.length p.sc) (ii p.epoch) (ii p.regions) (ii p.length) (ii p.fill) (.slice p.IA p.its.length p.ic) (.slice p.EA p.es.length p.ec) (.slice p.BA p.bs.length p.bc) (.slice p.CA p.cs.length p.cc) [] w_10 (hL.below HP.bl) (fun j hj => ⟨fun e => by have h1 := HP.fresh _ (List.mem_of_getElem? (i := 2) rfl) rfl j e; have h2 := hL.lt j hj; omega, fun e => by have h1 := HP.fresh _ (List.mem_of_getElem? (i := 1) rfl) rfl j e; have h2 := hL.lt j hj; omega⟩) (HP.at_ 2 rfl) (HP.at_ 1 rfl) ((HP.neB 1 2 rfl rfl (by decide)).symm)).mono ?_
  rintro e u1 w1 ⟨rfl, rfl, hag2, hp2, he2⟩
  have HP := HP.changed2 2 1 rfl rfl [(ii 0), (ii 0), (ii 0), (ii 0), (.slice none 0 0), (ii 0), (ii 0), (ii 0), (ii 0), (.slice none 0 0), (.slice none 0 0), (.slice none 0 0), (.slice none 0 0)] [.int .i64 80] _ rfl (by decide) hag2 hp2 he2
  refine leaves_done (fn := Tryz.f27) (retD2 H Tryz.results27 (RV.cellN (vs := [(ii 0), (ii 0), (ii 0), (ii 0), (.slice none 0 0), (ii 0), (ii 0), (ii 0), (ii 0), (.slice none 0 0), (.slice none 0 0), (.slice none 0 0), (.slice none 0 0)]) (b := b_1) (off := 0) (k := 13) (by kernel_rfl) (by kernel_rfl) (by kernel_rfl) rfl (HP.cells 2 rfl 0 13 (by kernel_rfl))) (RV.cell1 (q := ⟨b_3, 0, none⟩) (v := .int .i64 80) (by kernel_rfl) (by kernel_rfl) (HP.cell 1 rfl 0 rfl))) ?_
  exact ⟨plZ, by rw [show decN s = (zeroN, 80) from by unfold decN; rw [hE]; simp only; rw [if_neg (by omega), ← validPl_nv, show validPl p = false from by assumption] <;> rfl] <;> rfl, by rw [show decN s = (zeroN, 80) from by unfold decN; rw [hE]; simp only; rw [if_neg (by omega), ← validPl_nv, show validPl p = false from by assumption] <;> rfl] <;> rfl, plZ_is _, plZ_fp, HP.below (by kernel_rfl)⟩
 have g17p := not_is_false g17
 refine sk (tn (sq (rg ?_)))
 refine H.u 19 (plV p) (ex_lN (plL p) (HP.cells 2 rfl 0 13 (by kernel_rfl))) fun a H => H.store HP 2 b_1 0 13 32 _ true (plV p) [bx b_5 103 [(.string (bstr s)), (ii k1)] true, bx b_3 52 [(ii 0)] true, bx b_1 32 (plL p) true] (by kernel_rfl) (by kernel_rfl) (by kernel_rfl) rfl (by kernel_rfl) (by kernel_rfl) (by kernel_rfl) (by kernel_rfl) (by kernel_rfl) fun w_11 a H HP => H.store HP 1 b_3 0 1 52 _ true (ii 0) [bx b_5 103 [(.string (bstr s)), (ii k1)] true, bx b_3 52 [(ii 0)] true, bx b_1 32 (plL p) true] (by kernel_rfl) (by kernel_rfl) (by kernel_rfl) rfl (by kernel_rfl) (by kernel_rfl) (by kernel_rfl) (by kernel_rfl) (by kernel_rfl) fun w_12 a H HP => ?_
 refine nl (tn (rt ?_))
 refine H.leaveR ?_
 refine leaves_cons (f := 59) (args := #[.pointer (some ⟨b_1, 0, none⟩), .pointer (some ⟨b_3, 0, none⟩)]) (by simp) (by kernel_rfl) ?_
 refine (catch_idle b_1 b_3 w_12).mono ?_
 rintro e u1 w1 ⟨rfl, rfl, rfl⟩
 refine leaves_done (fn := Tryz.f27) (retD2 H Tryz.results27 (RV.cellN (vs := (plL p)) (b := b_1) (off := 0) (k := 13) (by kernel_rfl) (by kernel_rfl) (by kernel_rfl) rfl (HP.cells 2 rfl 0 13 (by kernel_rfl))) (RV.cell1 (q := ⟨b_3, 0, none⟩) (v := .int .i64 0) (by kernel_rfl) (by kernel_rfl) (HP.cell 1 rfl 0 rfl))) ?_
 exact ⟨p, by rw [show decN s = (p.nv, 0) from by unfold decN; rw [hE]; simp only; rw [if_neg (by omega), ← validPl_nv, show validPl p = true from by assumption] <;> rfl] <;> rfl, by rw [show decN s = (p.nv, 0) from by unfold decN; rw [hE]; simp only; rw [if_neg (by omega), ← validPl_nv, show validPl p = true from by assumption] <;> rfl] <;> rfl, HP.fact 0 rfl, fun j hj => Nat.le_trans hsz0 (hnew j hj), HP.below (by kernel_rfl)⟩
end Go.Proofs.YteeillphhiaopaaGreatDoor
namespace Go.Proofs.YteeillphhiaopaaGreatDoor
set_option maxRecDepth 100000
set_option maxHeartbeats 4000000
open Go.ChangeShapes Go.WideShapes Go.ChangeAt Go.RowKit
set_option linter.unusedVariables false
set_option linter.unusedSimpArgs false
theorem rdInt_ext {l r : List UInt8} {k e : Nat} {n : Int} (hk : k ≤ l.length) (h : rdInt l k = some (n, e)) : rdInt (l ++ r) k = some (n, e) := by
  obtain ⟨h1, h2, h3, h4, h5⟩ := rdInt_canon hk h
  have e1 : l ++ r = l.take k ++ encInt n ++ (l.drop e ++ r) := by
    rw [List.append_assoc, ← List.append_assoc (encInt n), ← h5, ← List.append_assoc, List.take_append_drop]
  have := rdInt_enc (l.take k) (l.drop e ++ r) n h1 h2
  rw [← e1, List.length_take, Nat.min_eq_left hk] at this
  rw [this, h3]
structure Good {α : Type} (X : List UInt8 → Nat → RdR α) (en : α → List Int) (ok : α → Prop) : Prop where
  sound : ∀ s k x k1, k ≤ s.length → X s k = .ok (x, k1) → k ≤ k1 ∧ k1 ≤ s.length ∧ s.drop k = encInts (en x) ++ s.drop k1
  ext : ∀ t u k r, k ≤ t.length → X t k = .ok r → X (t ++ u) k = .ok r
  ext8 : ∀ t u k, k ≤ t.length → X t k = .error 80 → X (t ++ u) k = .error 80
  err : ∀ s k E, X s k = .error E → E = 10 ∨ E = 80
  full : ∀ x a b, ok x → X (a ++ encInts (en x) ++ b) a.length = .ok (x, a.length + (encInts (en x)).length)
theorem good_N : ∀ m : Nat, Good (fun s k => rdN s m k) (fun l => l) (fun l => l.length = m ∧ ∀ z ∈ l, inW z)
  | 0 => ⟨fun s k x k1 hk h => by simp only [rdN, Except.ok.injEq, Prod.mk.injEq] at h; obtain ⟨rfl, rfl⟩ := h; exact ⟨Nat.le_refl _, hk, rfl⟩,
      fun t u k r _ h => h, fun t u k _ h => by simp [rdN] at h, fun s k E h => by simp [rdN] at h,
      fun x a b h => by obtain ⟨rfl⟩ := List.length_eq_zero_iff.1 h.1; rfl⟩
  | m + 1 => by
    have ih := good_N m
    refine ⟨fun s k x k1 hk h => ?_, fun t u k r hk h => ?_, fun t u k hk h => ?_, fun s k E h => ?_, fun x a b h => ?_⟩
    · simp only [rdN] at h
      cases hr : rdInt s k with
      | none => rw [hr] at h; cases h
      | some p =>
        rw [hr] at h
        simp only at h
        cases hm : rdN s m p.2 with
        | error e => rw [hm] at h; cases h
        | ok q =>
          rw [hm] at h
          simp only [Except.ok.injEq, Prod.mk.injEq] at h
          obtain ⟨rfl, rfl⟩ := h
          obtain ⟨_, _, g3, g4, g5⟩ := rdInt_canon hk hr
          obtain ⟨i1, i2, i3⟩ := ih.sound s p.2 q.1 q.2 g4 hm
          exact ⟨by omega, i2, by rw [g5, i3, encInts_cons, List.append_assoc]⟩
    · simp only [rdN] at h ⊢
      cases hr : rdInt t k with
      | none => rw [hr] at h; cases h
      | some p =>
        rw [hr] at h
        rw [rdInt_ext hk hr]
        simp only at h ⊢
        cases hm : rdN t m p.2 with
        | error e => rw [hm] at h; cases h
        | ok q =>
          rw [hm] at h
          rw [ih.ext t u p.2 q (rdInt_lt hk hr).2 hm]
          exact h
    · simp only [rdN] at h ⊢
      cases hr : rdInt t k with
      | none => rw [hr] at h; cases h
      | some p =>
        rw [hr] at h
        rw [rdInt_ext hk hr]
        simp only at h ⊢
        cases hm : rdN t m p.2 with
        | error e =>
          rw [hm] at h
          simp only [Except.error.injEq] at h
          subst h
          rw [ih.ext8 t u p.2 (rdInt_lt hk hr).2 hm]
        | ok q => rw [hm] at h; cases h
    · simp only [rdN] at h
      cases hr : rdInt s k with
      | none => rw [hr] at h; simp only [Except.error.injEq] at h; exact .inl h.symm
      | some p =>
        rw [hr] at h
        simp only at h
        cases hm : rdN s m p.2 with
        | error e => rw [hm] at h; simp only [Except.error.injEq] at h; subst h; exact ih.err s p.2 e hm
        | ok q => rw [hm] at h; cases h
    · obtain ⟨hl, hz⟩ := h
      cases x with
      | nil => simp at hl
      | cons z l =>
        have hz1 := hz z (List.mem_cons_self ..)
        have h1 := rdInt_enc a (encInts l ++ b) z hz1.1 hz1.2
        have e1 : a ++ encInts (z :: l) ++ b = a ++ encInt z ++ (encInts l ++ b) := by rw [encInts_cons]; simp only [List.append_assoc]
        have e2 : a ++ encInts (z :: l) ++ b = (a ++ encInt z) ++ encInts l ++ b := by rw [encInts_cons]; simp only [List.append_assoc]
        have h2 := ih.full l (a ++ encInt z) b ⟨by simpa using hl, fun y hy => hz y (List.mem_cons_of_mem _ hy)⟩
        simp only [rdN]
        rw [e1, h1]
        simp only
        rw [← e1, e2]
        rw [List.length_append] at h2
        rw [h2, encInts_cons, List.length_append]
        simp only [Except.ok.injEq, Prod.mk.injEq, true_and]
        omega
theorem good_M {α : Type} {f : List Int → α} {m : Nat} {g : α → List Int} (hg : ∀ l, l.length = m → g (f l) = l) (hf : ∀ x, f (g x) = x) (hl : ∀ x, (g x).length = m) : Good (fun s k => rdM f s m k) g (fun x => ∀ z ∈ g x, inW z) := by
  have ih := good_N m
  refine ⟨fun s k x k1 hk h => ?_, fun t u k r hk h => ?_, fun t u k hk h => ?_, fun s k E h => ?_, fun x a b h => ?_⟩
  · simp only [rdM] at h
    cases hm : rdN s m k with
    | error e => rw [hm] at h; cases h
    | ok q =>
      rw [hm] at h
      simp only [Except.ok.injEq, Prod.mk.injEq] at h
      obtain ⟨rfl, rfl⟩ := h
      rw [hg _ (rdN_len hm)]
      exact ih.sound s k q.1 q.2 hk hm
  · simp only [rdM] at h ⊢
    cases hm : rdN t m k with
    | error e => rw [hm] at h; cases h
    | ok q => rw [hm] at h; rw [ih.ext t u k q hk hm]; exact h
  · simp only [rdM] at h ⊢
    cases hm : rdN t m k with
    | error e => rw [hm] at h; simp only [Except.error.injEq] at h; subst h; rw [ih.ext8 t u k hk hm]
    | ok q => rw [hm] at h; cases h
  · simp only [rdM] at h
    cases hm : rdN s m k with
    | error e => rw [hm] at h; simp only [Except.error.injEq] at h; subst h; exact ih.err s k e hm
    | ok q => rw [hm] at h; cases h
  · have := ih.full (g x) a b ⟨hl x, h⟩
    simp only [rdM]
    rw [this]
    simp only [hf]
section
variable {α : Type} {X : List UInt8 → Nat → RdR α} {en : α → List Int} {ok : α → Prop}
theorem good_L (hX : Good X en ok) : ∀ m : Nat, Good (fun s k => rdL (X s) m k) (fun l => l.flatMap en) (fun l => l.length = m ∧ ∀ x ∈ l, ok x)
  | 0 => ⟨fun s k x k1 hk h => by simp only [rdL, Except.ok.injEq, Prod.mk.injEq] at h; obtain ⟨rfl, rfl⟩ := h; exact ⟨Nat.le_refl _, hk, rfl⟩,
      fun t u k r _ h => h, fun t u k _ h => by simp [rdL] at h, fun s k E h => by simp [rdL] at h,
      fun x a b h => by obtain ⟨rfl⟩ := List.length_eq_zero_iff.1 h.1; rfl⟩
  | m + 1 => by
    have ih := good_L hX m
    refine ⟨fun s k x k1 hk h => ?_, fun t u k r hk h => ?_, fun t u k hk h => ?_, fun s k E h => ?_, fun x a b h => ?_⟩
    · simp only [rdL] at h
      cases hr : X s k with
      | error e => rw [hr] at h; cases h
      | ok p =>
        rw [hr] at h
        simp only at h
        cases hm : rdL (X s) m p.2 with
        | error e => rw [hm] at h; cases h
        | ok q =>
          rw [hm] at h
          simp only [Except.ok.injEq, Prod.mk.injEq] at h
          obtain ⟨rfl, rfl⟩ := h
          obtain ⟨g1, g2, g3⟩ := hX.sound s k p.1 p.2 hk hr
          obtain ⟨i1, i2, i3⟩ := ih.sound s p.2 q.1 q.2 g2 hm
          exact ⟨by omega, i2, by rw [g3, i3, List.flatMap_cons, encInts_append, List.append_assoc]⟩
    · simp only [rdL] at h ⊢
      cases hr : X t k with
      | error e => rw [hr] at h; cases h
      | ok p =>
        rw [hr] at h
        rw [hX.ext t u k p hk hr]
        simp only at h ⊢
        cases hm : rdL (X t) m p.2 with
        | error e => rw [hm] at h; cases h
        | ok q =>
          rw [hm] at h
          rw [ih.ext t u p.2 q (hX.sound t k p.1 p.2 hk hr).2.1 hm]
          exact h
    · simp only [rdL] at h ⊢
      cases hr : X t k with
      | error e => rw [hr] at h; simp only [Except.error.injEq] at h; subst h; rw [hX.ext8 t u k hk hr]
      | ok p =>
        rw [hr] at h
        rw [hX.ext t u k p hk hr]
        simp only at h ⊢
        cases hm : rdL (X t) m p.2 with
        | error e =>
          rw [hm] at h
          simp only [Except.error.injEq] at h
          subst h
          rw [ih.ext8 t u p.2 (hX.sound t k p.1 p.2 hk hr).2.1 hm]
        | ok q => rw [hm] at h; cases h
    · simp only [rdL] at h
      cases hr : X s k with
      | error e => rw [hr] at h; simp only [Except.error.injEq] at h; subst h; exact hX.err s k e hr
      | ok p =>
        rw [hr] at h
        simp only at h
        cases hm : rdL (X s) m p.2 with
        | error e => rw [hm] at h; simp only [Except.error.injEq] at h; subst h; exact ih.err s p.2 e hm
        | ok q => rw [hm] at h; cases h
    · obtain ⟨hl, hz⟩ := h
      cases x with
      | nil => simp at hl
      | cons y l =>
        have h1 := hX.full y a (encInts (l.flatMap en) ++ b) (hz y (List.mem_cons_self ..))
        have e1 : a ++ encInts ((y :: l).flatMap en) ++ b = a ++ encInts (en y) ++ (encInts (l.flatMap en) ++ b) := by rw [List.flatMap_cons, encInts_append]; simp only [List.append_assoc]
        have e2 : a ++ encInts ((y :: l).flatMap en) ++ b = (a ++ encInts (en y)) ++ encInts (l.flatMap en) ++ b := by rw [List.flatMap_cons, encInts_append]; simp only [List.append_assoc]
        have h2 := ih.full l (a ++ encInts (en y)) b ⟨by simpa using hl, fun z hz' => hz z (List.mem_cons_of_mem _ hz')⟩
        simp only [rdL]
        rw [e1, h1]
        simp only
        rw [← e1, e2]
        rw [List.length_append] at h2
        rw [h2, List.flatMap_cons, encInts_append, List.length_append]
        simp only [Except.ok.injEq, Prod.mk.injEq, true_and]
        omega
theorem rdL_len {m : Nat} {s : List UInt8} : ∀ {m k k1 : Nat} {l : List α}, rdL (X s) m k = .ok (l, k1) → l.length = m
  | 0, k, k1, l, h => by simp [rdL] at h; rw [h.1]; rfl
  | m + 1, k, k1, l, h => by
    simp only [rdL] at h
    cases hr : X s k with
    | error e => rw [hr] at h; cases h
    | ok p =>
      rw [hr] at h
      simp only at h
      cases hm : rdL (X s) m p.2 with
      | error e => rw [hm] at h; cases h
      | ok q =>
        rw [hm] at h
        simp only [Except.ok.injEq, Prod.mk.injEq] at h
        rw [← h.1, List.length_cons, rdL_len (m := m) hm]
theorem good_C (hX : Good X en ok) (most : Nat) (hmost : most ≤ 1000000) : Good (fun s k => rdC s most (X s) k) (fun l => ((l.length : Nat) : Int) :: l.flatMap en) (fun l => l.length ≤ most ∧ ∀ x ∈ l, ok x) := by
  refine ⟨fun s k x k1 hk h => ?_, fun t u k r hk h => ?_, fun t u k hk h => ?_, fun s k E h => ?_, fun x a b h => ?_⟩
  · simp only [rdC] at h
    cases hr : rdInt s k with
    | none => rw [hr] at h; cases h
    | some p =>
      rw [hr] at h
      simp only at h
      split at h
      · cases h
      · rename_i hn
        obtain ⟨_, _, g3, g4, g5⟩ := rdInt_canon hk hr
        obtain ⟨i1, i2, i3⟩ := (good_L hX p.1.toNat).sound s p.2 x k1 g4 h
        have hlen := rdL_len (m := 0) h
        exact ⟨by omega, i2, by rw [g5, i3, encInts_cons, show ((x.length : Nat) : Int) = p.1 by omega, List.append_assoc]⟩
  · simp only [rdC] at h ⊢
    cases hr : rdInt t k with
    | none => rw [hr] at h; cases h
    | some p =>
      rw [hr] at h
      rw [rdInt_ext hk hr]
      simp only at h ⊢
      split at h
      · cases h
      · rename_i hn
        rw [if_neg hn]
        exact (good_L hX p.1.toNat).ext t u p.2 r (rdInt_lt hk hr).2 h
  · simp only [rdC] at h ⊢
    cases hr : rdInt t k with
    | none => rw [hr] at h; cases h
    | some p =>
      rw [hr] at h
      rw [rdInt_ext hk hr]
      simp only at h ⊢
      split at h
      · rename_i hn; rw [if_pos hn]
      · rename_i hn
        rw [if_neg hn]
        exact (good_L hX p.1.toNat).ext8 t u p.2 (rdInt_lt hk hr).2 h
  · simp only [rdC] at h
    cases hr : rdInt s k with
    | none => rw [hr] at h; simp only [Except.error.injEq] at h; exact .inl h.symm
    | some p =>
      rw [hr] at h
      simp only at h
      split at h
      · simp only [Except.error.injEq] at h; exact .inr h.symm
      · exact (good_L hX p.1.toNat).err s p.2 E h
  · obtain ⟨hl, hz⟩ := h
    have h1 := rdInt_enc a (encInts (x.flatMap en) ++ b) ((x.length : Nat) : Int) (by unfold wmax; omega) (by unfold wmax; omega)
    have e1 : a ++ encInts (((x.length : Nat) : Int) :: x.flatMap en) ++ b = a ++ encInt ((x.length : Nat) : Int) ++ (encInts (x.flatMap en) ++ b) := by rw [encInts_cons]; simp only [List.append_assoc]
    have e2 : a ++ encInts (((x.length : Nat) : Int) :: x.flatMap en) ++ b = (a ++ encInt ((x.length : Nat) : Int)) ++ encInts (x.flatMap en) ++ b := by rw [encInts_cons]; simp only [List.append_assoc]
    have h2 := (good_L hX x.length).full x (a ++ encInt ((x.length : Nat) : Int)) b ⟨rfl, hz⟩
    simp only [rdC]
    rw [e1, h1]
    simp only
    rw [if_neg (by omega), ← e1, e2]
    rw [List.length_append] at h2
    rw [Int.toNat_natCast, h2, encInts_cons, List.length_append]
    simp only [Except.ok.injEq, Prod.mk.injEq, true_and]
    omega
variable {β : Type} {Y : List UInt8 → Nat → RdR β} {en2 : β → List Int} {ok2 : β → Prop}
def rdSeq (X : List UInt8 → Nat → RdR α) (Y : List UInt8 → Nat → RdR β) (s : List UInt8) (k : Nat) : RdR (α × β) := match X s k with
  | .error e => .error e
  | .ok (x, k1) => match Y s k1 with
    | .error e => .error e
    | .ok (y, k2) => .ok ((x, y), k2)
theorem good_seq (hX : Good X en ok) (hY : Good Y en2 ok2) : Good (rdSeq X Y) (fun p => en p.1 ++ en2 p.2) (fun p => ok p.1 ∧ ok2 p.2) := by
  refine ⟨fun s k x k1 hk h => ?_, fun t u k r hk h => ?_, fun t u k hk h => ?_, fun s k E h => ?_, fun x a b h => ?_⟩
  · simp only [rdSeq] at h
    cases hr : X s k with
    | error e => rw [hr] at h; cases h
    | ok p =>
      rw [hr] at h
      simp only at h
      cases hm : Y s p.2 with
      | error e => rw [hm] at h; cases h
      | ok q =>
        rw [hm] at h
        simp only [Except.ok.injEq, Prod.mk.injEq] at h
        obtain ⟨rfl, rfl⟩ := h
        obtain ⟨g1, g2, g3⟩ := hX.sound s k p.1 p.2 hk hr
        obtain ⟨i1, i2, i3⟩ := hY.sound s p.2 q.1 q.2 g2 hm
        exact ⟨by omega, i2, by rw [g3, i3, encInts_append, List.append_assoc]⟩
  · simp only [rdSeq] at h ⊢
    cases hr : X t k with
    | error e => rw [hr] at h; cases h
    | ok p =>
      rw [hr] at h
      rw [hX.ext t u k p hk hr]
      simp only at h ⊢
      cases hm : Y t p.2 with
      | error e => rw [hm] at h; cases h
      | ok q =>
        rw [hm] at h
        rw [hY.ext t u p.2 q (hX.sound t k p.1 p.2 hk hr).2.1 hm]
        exact h
  · simp only [rdSeq] at h ⊢
    cases hr : X t k with
    | error e => rw [hr] at h; simp only [Except.error.injEq] at h; subst h; rw [hX.ext8 t u k hk hr]
    | ok p =>
      rw [hr] at h
      rw [hX.ext t u k p hk hr]
      simp only at h ⊢
      cases hm : Y t p.2 with
      | error e =>
        rw [hm] at h
        simp only [Except.error.injEq] at h
        subst h
        rw [hY.ext8 t u p.2 (hX.sound t k p.1 p.2 hk hr).2.1 hm]
      | ok q => rw [hm] at h; cases h
  · simp only [rdSeq] at h
    cases hr : X s k with
    | error e => rw [hr] at h; simp only [Except.error.injEq] at h; subst h; exact hX.err s k e hr
    | ok p =>
      rw [hr] at h
      simp only at h
      cases hm : Y s p.2 with
      | error e => rw [hm] at h; simp only [Except.error.injEq] at h; subst h; exact hY.err s p.2 e hm
      | ok q => rw [hm] at h; cases h
  · have h1 := hX.full x.1 a (encInts (en2 x.2) ++ b) h.1
    have e1 : a ++ encInts (en x.1 ++ en2 x.2) ++ b = a ++ encInts (en x.1) ++ (encInts (en2 x.2) ++ b) := by rw [encInts_append]; simp only [List.append_assoc]
    have e2 : a ++ encInts (en x.1 ++ en2 x.2) ++ b = (a ++ encInts (en x.1)) ++ encInts (en2 x.2) ++ b := by rw [encInts_append]; simp only [List.append_assoc]
    have h2 := hY.full x.2 (a ++ encInts (en x.1)) b h.2
    simp only [rdSeq]
    rw [e1, h1]
    simp only
    rw [← e1, e2]
    rw [List.length_append] at h2
    rw [h2, encInts_append, List.length_append]
    simp only [Except.ok.injEq, Prod.mk.injEq, true_and]
    omega
def rdMap (f : α → β) (X : List UInt8 → Nat → RdR α) (s : List UInt8) (k : Nat) : RdR β := match X s k with
  | .error e => .error e
  | .ok (x, k1) => .ok (f x, k1)
theorem good_map (hX : Good X en ok) {f : α → β} {g : β → α} (hf : ∀ y, f (g y) = y) (P : α → Prop) (hP : ∀ s k x k1, X s k = .ok (x, k1) → P x) (hg : ∀ x, P x → g (f x) = x) : Good (rdMap f X) (fun y => en (g y)) (fun y => ok (g y)) := by
  refine ⟨fun s k x k1 hk h => ?_, fun t u k r hk h => ?_, fun t u k hk h => ?_, fun s k E h => ?_, fun x a b h => ?_⟩
  · simp only [rdMap] at h
    cases hm : X s k with
    | error e => rw [hm] at h; cases h
    | ok q =>
      rw [hm] at h
      simp only [Except.ok.injEq, Prod.mk.injEq] at h
      obtain ⟨rfl, rfl⟩ := h
      rw [hg _ (hP s k q.1 q.2 hm)]
      exact hX.sound s k q.1 q.2 hk hm
  · simp only [rdMap] at h ⊢
    cases hm : X t k with
    | error e => rw [hm] at h; cases h
    | ok q => rw [hm] at h; rw [hX.ext t u k q hk hm]; exact h
  · simp only [rdMap] at h ⊢
    cases hm : X t k with
    | error e => rw [hm] at h; simp only [Except.error.injEq] at h; subst h; rw [hX.ext8 t u k hk hm]
    | ok q => rw [hm] at h; cases h
  · simp only [rdMap] at h
    cases hm : X s k with
    | error e => rw [hm] at h; simp only [Except.error.injEq] at h; subst h; exact hX.err s k e hm
    | ok q => rw [hm] at h; cases h
  · have := hX.full (g x) a b h
    simp only [rdMap]
    rw [this]
    simp only [hf]
end
end Go.Proofs.YteeillphhiaopaaGreatDoor
namespace Go.Proofs.YteeillphhiaopaaGreatDoor
set_option maxRecDepth 100000
set_option maxHeartbeats 4000000
open Go.ChangeShapes Go.WideShapes Go.ChangeAt Go.RowKit
set_option linter.unusedVariables false
set_option linter.unusedSimpArgs false
theorem good_alt : Good (fun s k => rdM altOf s 2 k) altNs (fun x => ∀ z ∈ altNs x, inW z) :=
  good_M (fun l h => by obtain ⟨a, b, rfl⟩ := len2 h; rfl) (fun x => rfl) (fun x => rfl)
theorem good_it : Good (fun s k => rdM itOf s 5 k) itNs (fun x => ∀ z ∈ itNs x, inW z) :=
  good_M (fun l h => by obtain ⟨a, b, c, d, e, rfl⟩ := len5 h; rfl) (fun x => rfl) (fun x => rfl)
theorem good_bk : Good (fun s k => rdM bkOf s 7 k) bkNs (fun x => ∀ z ∈ bkNs x, inW z) :=
  good_M (fun l h => by obtain ⟨a, b, c, d, e, f, g, rfl⟩ := len7 h; rfl) (fun x => rfl) (fun x => rfl)
theorem good_cl : Good (fun s k => rdM clOf s 8 k) clNs (fun x => ∀ z ∈ clNs x, inW z) :=
  good_M (fun l h => by obtain ⟨a, b, c, d, e, f, g, i, rfl⟩ := len8 h; rfl) (fun x => rfl) (fun x => rfl)
def enNn (x : EnN) : List Int := [x.id, x.item, x.frames, x.earliest, x.latest, x.booking] ++ (((x.al.length : Nat) : Int) :: x.al.flatMap altNs)
theorem rdEnt_seq : rdEnt = rdMap (fun p : List Int × Alts => (⟨p.1.getD 0 0, p.1.getD 1 0, p.1.getD 2 0, p.1.getD 3 0, p.1.getD 4 0, p.1.getD 5 0, p.2⟩ : EnN)) (rdSeq (fun s k => rdN s 6 k) (fun s k => rdC s 7 (rdM altOf s 2) k)) := by
  funext s k
  unfold rdEnt rdMap rdSeq
  dsimp only
  cases rdN s 6 k with
  | error e => rfl
  | ok p =>
    dsimp only
    cases rdC s 7 (rdM altOf s 2) p.2 with
    | error e => rfl
    | ok q => rfl
theorem seq_fst {α β : Type} {X : List UInt8 → Nat → RdR α} {Y : List UInt8 → Nat → RdR β} {s : List UInt8} {k k1 : Nat} {x : α × β} (h : rdSeq X Y s k = .ok (x, k1)) : ∃ k2, X s k = .ok (x.1, k2) ∧ Y s k2 = .ok (x.2, k1) := by
  unfold rdSeq at h
  cases hr : X s k with
  | error e => rw [hr] at h; cases h
  | ok p =>
    rw [hr] at h
    simp only at h
    cases hm : Y s p.2 with
    | error e => rw [hm] at h; cases h
    | ok q =>
      rw [hm] at h
      simp only [Except.ok.injEq, Prod.mk.injEq] at h
      obtain ⟨rfl, rfl⟩ := h
      exact ⟨p.2, rfl, hm⟩
def okE (x : EnN) : Prop := (∀ z ∈ [x.id, x.item, x.frames, x.earliest, x.latest, x.booking], inW z) ∧ x.al.length ≤ 7 ∧ ∀ a ∈ x.al, ∀ z ∈ altNs a, inW z
theorem good_ent : Good rdEnt enNn okE := by
  rw [rdEnt_seq]
  have h := good_map (good_seq (good_N 6) (good_C good_alt 7 (by decide))) (f := fun p : List Int × Alts => (⟨p.1.getD 0 0, p.1.getD 1 0, p.1.getD 2 0, p.1.getD 3 0, p.1.getD 4 0, p.1.getD 5 0, p.2⟩ : EnN)) (g := fun x => ([x.id, x.item, x.frames, x.earliest, x.latest, x.booking], x.al)) (fun y => rfl)
    (fun p => p.1.length = 6) (fun s k x k1 h => by obtain ⟨k2, h2, _⟩ := seq_fst h; exact rdN_len h2) (fun x hx => by obtain ⟨a, b, c, d, e, f, hl⟩ := len6 hx; obtain ⟨l, al⟩ := x; simp only at hl; subst hl; rfl)
  exact ⟨h.sound, h.ext, h.ext8, h.err, fun x a b hx => h.full x a b ⟨⟨rfl, hx.1⟩, hx.2⟩⟩
abbrev SeqP := (((((List Int × Alts) × List Int) × List Itm) × List EnN) × List Bkg) × List Cls
def ofSeq (x : SeqP) : PlN := ⟨x.1.1.1.1.1.1.getD 0 0, x.1.1.1.1.1.1.getD 1 0, x.1.1.1.1.1.1.getD 2 0, x.1.1.1.1.1.1.getD 3 0, x.1.1.1.1.1.2, x.1.1.1.1.2.getD 0 0, x.1.1.1.1.2.getD 1 0, x.1.1.1.1.2.getD 2 0, x.1.1.1.1.2.getD 3 0, x.1.1.1.2, x.1.1.2, x.1.2, x.2⟩
def toSeq (v : PlN) : SeqP := (((((([v.channel, v.num, v.den, v.offset], v.sh), [v.epoch, v.regions, v.length, v.fill]), v.its), v.es), v.bs), v.cs)
def seqR : List UInt8 → Nat → RdR SeqP := rdSeq (rdSeq (rdSeq (rdSeq (rdSeq (rdSeq (fun s k => rdN s 4 k) (fun s k => rdC s 40 (rdM altOf s 2) k)) (fun s k => rdN s 4 k)) (fun s k => rdC s 4000 (rdM itOf s 5) k)) (fun s k => rdC s 4000 (rdEnt s) k)) (fun s k => rdC s 2000 (rdM bkOf s 7) k)) (fun s k => rdC s 400 (rdM clOf s 8) k)
theorem rdPl_seq (s : List UInt8) : rdPl s = rdMap ofSeq seqR s 0 := by
  unfold rdPl rdMap seqR
  simp only [rdSeq]
  cases rdN s 4 0 with
  | error e => rfl
  | ok p =>
    dsimp only
    cases rdC s 40 (rdM altOf s 2) p.2 with
    | error e => rfl
    | ok q =>
      dsimp only
      cases rdN s 4 q.2 with
      | error e => rfl
      | ok r =>
        dsimp only
        cases rdC s 4000 (rdM itOf s 5) r.2 with
        | error e => rfl
        | ok t =>
          dsimp only
          cases rdC s 4000 (rdEnt s) t.2 with
          | error e => rfl
          | ok u =>
            dsimp only
            cases rdC s 2000 (rdM bkOf s 7) u.2 with
            | error e => rfl
            | ok v =>
              dsimp only
              cases rdC s 400 (rdM clOf s 8) v.2 with
              | error e => rfl
              | ok x => rfl
def numsN (v : PlN) : List Int := [v.channel, v.num, v.den, v.offset] ++ (((v.sh.length : Nat) : Int) :: v.sh.flatMap altNs) ++ [v.epoch, v.regions, v.length, v.fill] ++ (((v.its.length : Nat) : Int) :: v.its.flatMap itNs) ++ (((v.es.length : Nat) : Int) :: v.es.flatMap enNn) ++ (((v.bs.length : Nat) : Int) :: v.bs.flatMap bkNs) ++ (((v.cs.length : Nat) : Int) :: v.cs.flatMap clNs)
theorem numsP_nv (p : Pln) : numsP p = numsN p.nv := by
  unfold numsP numsN
  simp only [Pln.nv, List.length_map, List.flatMap_map]
  rfl
def okP (v : PlN) : Prop := (∀ z ∈ [v.channel, v.num, v.den, v.offset], inW z) ∧ (v.sh.length ≤ 40 ∧ ∀ a ∈ v.sh, ∀ z ∈ altNs a, inW z) ∧ (∀ z ∈ [v.epoch, v.regions, v.length, v.fill], inW z) ∧ (v.its.length ≤ 4000 ∧ ∀ x ∈ v.its, ∀ z ∈ itNs x, inW z) ∧ (v.es.length ≤ 4000 ∧ ∀ x ∈ v.es, okE x) ∧ (v.bs.length ≤ 2000 ∧ ∀ x ∈ v.bs, ∀ z ∈ bkNs x, inW z) ∧ (v.cs.length ≤ 400 ∧ ∀ x ∈ v.cs, ∀ z ∈ clNs x, inW z)
theorem good_pl : Good (rdMap ofSeq seqR) numsN okP := by
  have h := good_map (good_seq (good_seq (good_seq (good_seq (good_seq (good_seq (good_N 4) (good_C good_alt 40 (by decide))) (good_N 4)) (good_C good_it 4000 (by decide))) (good_C good_ent 4000 (by decide))) (good_C good_bk 2000 (by decide))) (good_C good_cl 400 (by decide))) (f := ofSeq) (g := toSeq) (fun y => rfl)
    (fun x => x.1.1.1.1.1.1.length = 4 ∧ x.1.1.1.1.2.length = 4) (fun s k x k1 h => by
      obtain ⟨_, h, _⟩ := seq_fst h
      obtain ⟨_, h, _⟩ := seq_fst h
      obtain ⟨_, h, _⟩ := seq_fst h
      obtain ⟨_, h, _⟩ := seq_fst h
      obtain ⟨_, h, h4⟩ := seq_fst h
      obtain ⟨_, h, _⟩ := seq_fst h
      exact ⟨rdN_len h, rdN_len h4⟩) (fun x hx => by
      obtain ⟨⟨⟨⟨⟨⟨l, sh⟩, m⟩, its⟩, es⟩, bs⟩, cs⟩ := x
      obtain ⟨h1, h2⟩ := hx
      obtain ⟨a, b, c, d, rfl⟩ := len4 h1
      obtain ⟨e, f, g, i, rfl⟩ := len4 h2
      rfl)
  exact ⟨h.sound, h.ext, h.ext8, h.err, fun v a b hv => h.full v a b ⟨⟨⟨⟨⟨⟨⟨rfl, hv.1⟩, hv.2.1⟩, rfl, hv.2.2.1⟩, hv.2.2.2.1⟩, hv.2.2.2.2.1⟩, hv.2.2.2.2.2.1⟩, hv.2.2.2.2.2.2⟩⟩
theorem in_flat {α : Type} {f : α → List Int} {l : List α} {n : Int} (h : ∀ z ∈ n :: l.flatMap f, inW z) : ∀ x ∈ l, ∀ z ∈ f x, inW z := fun x hx z hz => h z (List.mem_cons_of_mem _ (List.mem_flatMap.2 ⟨x, hx, hz⟩))
theorem valid_ok {p : Pln} (h : validPl p = true) : okP p.nv := by
  obtain ⟨hz, _⟩ := valid_nums h
  unfold numsP at hz
  simp only [List.mem_append] at hz
  have g1 : ∀ z ∈ [p.channel, p.num, p.den, p.offset], inW z := fun z k => hz z (.inl (.inl (.inl (.inl (.inl (.inl k))))))
  have g2 : ∀ z ∈ ((p.sh.length : Nat) : Int) :: p.sh.flatMap altNs, inW z := fun z k => hz z (.inl (.inl (.inl (.inl (.inl (.inr k))))))
  have g3 : ∀ z ∈ [p.epoch, p.regions, p.length, p.fill], inW z := fun z k => hz z (.inl (.inl (.inl (.inl (.inr k)))))
  have g4 : ∀ z ∈ ((p.its.length : Nat) : Int) :: p.its.flatMap itNs, inW z := fun z k => hz z (.inl (.inl (.inl (.inr k))))
  have g5 : ∀ z ∈ ((p.es.length : Nat) : Int) :: p.es.flatMap enNs, inW z := fun z k => hz z (.inl (.inl (.inr k)))
  have g6 : ∀ z ∈ ((p.bs.length : Nat) : Int) :: p.bs.flatMap bkNs, inW z := fun z k => hz z (.inl (.inr k))
  have g7 : ∀ z ∈ ((p.cs.length : Nat) : Int) :: p.cs.flatMap clNs, inW z := fun z k => hz z (.inr k)
  unfold validPl at h
  simp only [Bool.and_eq_true, decide_eq_true_eq] at h
  obtain ⟨⟨⟨⟨h1, h2⟩, h3⟩, h4, h5⟩, h6⟩ := h
  unfold soundP zoneP at h1
  unfold itsP at h2
  unfold bksP at h3
  unfold clsP at h6
  simp only [Bool.and_eq_true, decide_eq_true_eq, inR_iff] at h1 h2 h3 h6
  refine ⟨g1, ⟨by show p.sh.length ≤ 40; omega, in_flat g2⟩, g3, ⟨by show p.its.length ≤ 4000; omega, in_flat g4⟩, ⟨by show (p.es.map Ent.nv).length ≤ 4000; rw [List.length_map]; omega, fun x hx => ?_⟩, ⟨by show p.bs.length ≤ 2000; omega, in_flat g6⟩, ⟨by show p.cs.length ≤ 400; omega, in_flat g7⟩⟩
  obtain ⟨e, he, rfl⟩ := List.mem_map.1 hx
  have k1 := in_flat g5 e he
  have k2 := entsP_in h5 e he
  unfold entP at k2
  simp only [Bool.and_eq_true] at k2
  refine ⟨fun z hz => k1 z (List.mem_append_left _ hz), (alts_in h2.1.1.2 h1.1.2.2 k2.1.2).1, in_flat (fun z hz => k1 z (List.mem_append_right _ hz))⟩
theorem rd_enc {p : Pln} (h : validPl p = true) (b : List UInt8) : rdPl (encInts (numsP p) ++ b) = .ok (p.nv, (encInts (numsP p)).length) := by
  have := good_pl.full p.nv [] b (valid_ok h)
  rw [rdPl_seq, numsP_nv]
  simpa using this
theorem dec_enc {p : Pln} (h : validPl p = true) : decN (encInts (numsP p)) = (p.nv, 0) := by
  have h1 := rd_enc h []
  rw [List.append_nil] at h1
  unfold decN
  rw [h1]
  simp only
  rw [if_neg (by omega), ← validPl_nv, if_pos h]
end Go.Proofs.YteeillphhiaopaaGreatDoor
namespace Go.Proofs.YteeillphhiaopaaGreatDoor
set_option maxRecDepth 100000
set_option maxHeartbeats 4000000
open Go.ChangeShapes Go.WideShapes Go.ChangeAt Go.RowKit
set_option linter.unusedVariables false
set_option linter.unusedSimpArgs false
theorem tl_ {α : Type} (l : List α) (k : Nat) : (l.take k).length = min l.length k := by rw [List.length_take, Nat.min_comm]
theorem IsRow.takeL {α : Type} {k : Nat} {cs : α → Array Value} {w : World} {A : Option Addr} {l : List α} (h : IsRow k cs w A l) (hk : ∀ e, (cs e).size = k) (n : Nat) : IsRow k cs w A (l.take n) := by
 by_cases hn : n ≤ l.length
 ·exact h.take hk hn
 ·rw [List.take_of_length_le (by omega)]; exact h
theorem IsRow.take9 {w : World} {A : Option Addr} {l : Alts} (h : IsAl w A l) : IsAl w A (l.take 9) := IsRow.takeL h altC_size 9
theorem take_end {α : Type} {l : List α} {i : Nat} (h : i ≤ l.length ∧ i ≤ 30 ∧ ¬ (i < l.length ∧ i < 30)) : l.take i = l.take 30 := by
 by_cases hi : i = 30
 ·rw [hi]
 ·rw [List.take_of_length_le (show l.length ≤ i by omega), List.take_of_length_le (show l.length ≤ 30 by omega)]
def sh9 (e : Ent) : EnN := ⟨e.id, e.item, e.frames, e.earliest, e.latest, e.booking, e.al.take 9⟩
def sh9N (e : EnN) : EnN := ⟨e.id, e.item, e.frames, e.earliest, e.latest, e.booking, e.al.take 9⟩
def shN (v : PlN) : PlN := ⟨v.channel, v.num, v.den, v.offset, v.sh.take 45, v.epoch, v.regions, v.length, v.fill, v.its.take 30, (v.es.take 30).map sh9N, v.bs.take 20, v.cs.take 20⟩
def ShortPost (p : Pln) (w : World) (e : Ending) (w' : World) : Prop :=
 ∃ q : Pln, e = .returned (.agg (plC q).toArray) ∧ q.nv = shN p.nv ∧ IsPln w' q ∧ ((∀ j, enFp q.EA q.es j → w.heap.size ≤ j) ∧ (q.SA, q.sc, q.IA, q.ic, q.BA, q.bc, q.CA, q.cc) = (p.SA, p.sc, p.IA, p.ic, p.BA, p.bc, p.CA, p.cc) ∧ q.es.length ≤ q.ec ∧ (q.EA = none → q.ec = 0)) ∧ Below w.heap.size w w'
theorem al_own {w : World} {base e n c : Nat} {B : Option Addr} {l : Alts} {x : Ent} (h : (rowsR base e 2 altC (fun _ _ => True) (fun _ _ => False) (.slice B n c) l).F w) {j : Nat} (hj : rowFp x.al.length B j) : (rowsR base e 2 altC (fun _ _ => True) (fun _ _ => False) (.slice B n c) l).fp j := by
 obtain ⟨_, off, rfl⟩ := hj
 rcases h.1.2 with ⟨hv, _⟩ | ⟨g, cap, cur, hv, _⟩
 ·cases hv
 ·cases hv; exact .inl rfl
theorem ownR_cap {w : World} {base e c : Nat} {B : Option Addr} {l : List Ent} (h : (rowsR base e 7 enC (fun (x : Ent) w => x.ok w) Ent.fp (.slice B l.length c) l).F w) : l.length ≤ c ∧ (B = none → c = 0) := by
 have := own_facts h.1
 exact ⟨this.1, this.2.2⟩
theorem short_any (p : Pln) (w : World) (hpl : IsPln w p) (hcap : p.sh.length ≤ p.sc ∧ p.its.length ≤ p.ic ∧ p.bs.length ≤ p.bc ∧ p.cs.length ≤ p.cc) (hent : ∀ e ∈ p.es, e.al.length ≤ e.c ∧ (e.A = none → e.c = 0)) :
  Calls Tryz.prog 13 #[(plV p)] w (ShortPost p w) := by
 have hl1 := hpl.lsh
 have hl2 := hpl.lits
 have hl3 := hpl.les
 have hl4 := hpl.lbs
 have hl5 := hpl.lcs
 unfold maxLen at hl1 hl2 hl3 hl4 hl5
 have HP := Hp.start w
 refine w_enter 74 [(0, (plV p))] Tryz.func13 rfl Tryz.ntmps13 (by kernel_rfl) (by kernel_rfl) fun a H => ?_
 refine sq (rg ?_)
 refine H.al HP 1 32 (plL p) fun b_1 w_2 a H HP => H.al HP 2 32 [(ii 0), (ii 0), (ii 0), (ii 0), (.slice none 0 0), (ii 0), (ii 0), (ii 0), (ii 0), (.slice none 0 0), (.slice none 0 0), (.slice none 0 0), (.slice none 0 0)] fun b_3 w_4 a H HP => ?_
 refine nl (tn (sq (rg ?_)))
 refine H.v 6 (pt b_1 3) fun a H => H.v 7 (pt b_1 4) fun a H => H.u 8 (.slice p.SA p.sh.length p.sc) (ex_l1 (HP.cell 1 rfl 4 rfl)) fun a H => H.v 9 (pt b_1 3) fun a H => H.v 10 (pt b_1 4) fun a H => H.u 11 (.slice p.SA p.sh.length p.sc) (ex_l1 (HP.cell 1 rfl 4 rfl)) fun a H => H.v 12 (ii p.sh.length) fun a H => H.valE 13 (ii (if (45 : Int) < (p.sh.length : Int) then 45 else (p.sh.length : Int))) (ii ((min p.sh.length 45 : Nat) : Int)) (by kernel_rfl) (by kernel_rfl) ((congrArg (Value.int .i64) (by split <;> omega))) fun a H => H.u 14 (.slice p.SA ((p.sh.take 45).length) p.sc) (ex_sliceH (A := p.SA) (len := p.sh.length) (cap := p.sc) (k := .i64) (n := ((min p.sh.length 45 : Nat) : Int)) (m := (p.sh.take 45).length) (sz := 2) (by kernel_rfl) (by kernel_rfl) (by kernel_rfl) (by kernel_rfl) (by rw [tl_ p.sh 45]) (by rw [tl_ p.sh 45]; omega)) fun a H => H.v 15 (pt b_1 3) fun a H => H.v 16 (pt b_1 4) fun a H => H.st HP 1 b_1 4 1 32 true (.slice p.SA ((p.sh.take 45).length) p.sc) [bx b_3 32 [(ii 0), (ii 0), (ii 0), (ii 0), (.slice none 0 0), (ii 0), (ii 0), (ii 0), (ii 0), (.slice none 0 0), (.slice none 0 0), (.slice none 0 0), (.slice none 0 0)] true, bx b_1 32 [(ii p.channel), (ii p.num), (ii p.den), (ii p.offset), (.slice p.SA ((p.sh.take 45).length) p.sc), (ii p.epoch), (ii p.regions), (ii p.length), (ii p.fill), (.slice p.IA p.its.length p.ic), (.slice p.EA p.es.length p.ec), (.slice p.BA p.bs.length p.bc), (.slice p.CA p.cs.length p.cc)] true] rfl fun w_5 a H HP => ?_
 refine nl (tn (sq (rg ?_)))
 refine H.v 17 (pt b_1 9) fun a H => H.u 18 (.slice p.IA p.its.length p.ic) (ex_l1 (HP.cell 1 rfl 9 rfl)) fun a H => H.v 19 (pt b_1 9) fun a H => H.u 20 (.slice p.IA p.its.length p.ic) (ex_l1 (HP.cell 1 rfl 9 rfl)) fun a H => H.v 21 (ii p.its.length) fun a H => H.valE 22 (ii (if (30 : Int) < (p.its.length : Int) then 30 else (p.its.length : Int))) (ii ((min p.its.length 30 : Nat) : Int)) (by kernel_rfl) (by kernel_rfl) ((congrArg (Value.int .i64) (by split <;> omega))) fun a H => H.u 23 (.slice p.IA ((p.its.take 30).length) p.ic) (ex_sliceH (A := p.IA) (len := p.its.length) (cap := p.ic) (k := .i64) (n := ((min p.its.length 30 : Nat) : Int)) (m := (p.its.take 30).length) (sz := 5) (by kernel_rfl) (by kernel_rfl) (by kernel_rfl) (by kernel_rfl) (by rw [tl_ p.its 30]) (by rw [tl_ p.its 30]; omega)) fun a H => H.v 24 (pt b_1 9) fun a H => H.st HP 1 b_1 9 1 32 true (.slice p.IA ((p.its.take 30).length) p.ic) [bx b_3 32 [(ii 0), (ii 0), (ii 0), (ii 0), (.slice none 0 0), (ii 0), (ii 0), (ii 0), (ii 0), (.slice none 0 0), (.slice none 0 0), (.slice none 0 0), (.slice none 0 0)] true, bx b_1 32 [(ii p.channel), (ii p.num), (ii p.den), (ii p.offset), (.slice p.SA ((p.sh.take 45).length) p.sc), (ii p.epoch), (ii p.regions), (ii p.length), (ii p.fill), (.slice p.IA ((p.its.take 30).length) p.ic), (.slice p.EA p.es.length p.ec), (.slice p.BA p.bs.length p.bc), (.slice p.CA p.cs.length p.cc)] true] rfl fun w_6 a H HP => ?_
 refine nl (tn (sq (rg ?_)))
 refine H.v 25 (pt b_1 11) fun a H => H.u 26 (.slice p.BA p.bs.length p.bc) (ex_l1 (HP.cell 1 rfl 11 rfl)) fun a H => H.v 27 (pt b_1 11) fun a H => H.u 28 (.slice p.BA p.bs.length p.bc) (ex_l1 (HP.cell 1 rfl 11 rfl)) fun a H => H.v 29 (ii p.bs.length) fun a H => H.valE 30 (ii (if (20 : Int) < (p.bs.length : Int) then 20 else (p.bs.length : Int))) (ii ((min p.bs.length 20 : Nat) : Int)) (by kernel_rfl) (by kernel_rfl) ((congrArg (Value.int .i64) (by split <;> omega))) fun a H => H.u 31 (.slice p.BA ((p.bs.take 20).length) p.bc) (ex_sliceH (A := p.BA) (len := p.bs.length) (cap := p.bc) (k := .i64) (n := ((min p.bs.length 20 : Nat) : Int)) (m := (p.bs.take 20).length) (sz := 7) (by kernel_rfl) (by kernel_rfl) (by kernel_rfl) (by kernel_rfl) (by rw [tl_ p.bs 20]) (by rw [tl_ p.bs 20]; omega)) fun a H => H.v 32 (pt b_1 11) fun a H => H.st HP 1 b_1 11 1 32 true (.slice p.BA ((p.bs.take 20).length) p.bc) [bx b_3 32 [(ii 0), (ii 0), (ii 0), (ii 0), (.slice none 0 0), (ii 0), (ii 0), (ii 0), (ii 0), (.slice none 0 0), (.slice none 0 0), (.slice none 0 0), (.slice none 0 0)] true, bx b_1 32 [(ii p.channel), (ii p.num), (ii p.den), (ii p.offset), (.slice p.SA ((p.sh.take 45).length) p.sc), (ii p.epoch), (ii p.regions), (ii p.length), (ii p.fill), (.slice p.IA ((p.its.take 30).length) p.ic), (.slice p.EA p.es.length p.ec), (.slice p.BA ((p.bs.take 20).length) p.bc), (.slice p.CA p.cs.length p.cc)] true] rfl fun w_7 a H HP => ?_
 refine nl (tn (sq (rg ?_)))
 refine H.v 33 (pt b_1 12) fun a H => H.u 34 (.slice p.CA p.cs.length p.cc) (ex_l1 (HP.cell 1 rfl 12 rfl)) fun a H => H.v 35 (pt b_1 12) fun a H => H.u 36 (.slice p.CA p.cs.length p.cc) (ex_l1 (HP.cell 1 rfl 12 rfl)) fun a H => H.v 37 (ii p.cs.length) fun a H => H.valE 38 (ii (if (20 : Int) < (p.cs.length : Int) then 20 else (p.cs.length : Int))) (ii ((min p.cs.length 20 : Nat) : Int)) (by kernel_rfl) (by kernel_rfl) ((congrArg (Value.int .i64) (by split <;> omega))) fun a H => H.u 39 (.slice p.CA ((p.cs.take 20).length) p.cc) (ex_sliceH (A := p.CA) (len := p.cs.length) (cap := p.cc) (k := .i64) (n := ((min p.cs.length 20 : Nat) : Int)) (m := (p.cs.take 20).length) (sz := 8) (by kernel_rfl) (by kernel_rfl) (by kernel_rfl) (by kernel_rfl) (by rw [tl_ p.cs 20]) (by rw [tl_ p.cs 20]; omega)) fun a H => H.v 40 (pt b_1 12) fun a H => H.st HP 1 b_1 12 1 32 true (.slice p.CA ((p.cs.take 20).length) p.cc) [bx b_3 32 [(ii 0), (ii 0), (ii 0), (ii 0), (.slice none 0 0), (ii 0), (ii 0), (ii 0), (ii 0), (.slice none 0 0), (.slice none 0 0), (.slice none 0 0), (.slice none 0 0)] true, bx b_1 32 [(ii p.channel), (ii p.num), (ii p.den), (ii p.offset), (.slice p.SA ((p.sh.take 45).length) p.sc), (ii p.epoch), (ii p.regions), (ii p.length), (ii p.fill), (.slice p.IA ((p.its.take 30).length) p.ic), (.slice p.EA p.es.length p.ec), (.slice p.BA ((p.bs.take 20).length) p.bc), (.slice p.CA ((p.cs.take 20).length) p.cc)] true] rfl fun w_8 a H HP => ?_
 refine nl (tn (sq (rg ?_)))
 refine H.v 3 (.slice none 0 0) fun a H => ?_
 refine nl ?_
 have HP := HP.nilRow w.heap.size 43 7 enC (fun (x : Ent) w => x.ok w) Ent.fp elOk_en
 refine tn (sq (sq (rg ?_)))
 refine H.v 4 (ii 0) fun a H => ?_
 refine nl (tn (bk ?_))
 refine w_loop (fun mm a wv => ∃ (i : Nat), ∃ (l : List Ent), ∃ (B : Option Addr), ∃ (cc : Nat), 30 - i = mm ∧ Sl 74 [(4, (ii i)), (3, (.slice B i cc)), (1, (pt b_1 0)), (2, (pt b_3 0))] a ∧ Hp w wv [(rowsR w.heap.size 43 7 enC (fun (x : Ent) w => x.ok w) Ent.fp (.slice B i cc) l), bx b_3 32 [(ii 0), (ii 0), (ii 0), (ii 0), (.slice none 0 0), (ii 0), (ii 0), (ii 0), (ii 0), (.slice none 0 0), (.slice none 0 0), (.slice none 0 0), (.slice none 0 0)] true, bx b_1 32 [(ii p.channel), (ii p.num), (ii p.den), (ii p.offset), (.slice p.SA ((p.sh.take 45).length) p.sc), (ii p.epoch), (ii p.regions), (ii p.length), (ii p.fill), (.slice p.IA ((p.its.take 30).length) p.ic), (.slice p.EA p.es.length p.ec), (.slice p.BA ((p.bs.take 20).length) p.bc), (.slice p.CA ((p.cs.take 20).length) p.cc)] true] [] ∧ (i ≤ p.es.length ∧ i ≤ 30) ∧ (l.length = i) ∧ (l.map Ent.nv = (p.es.take i).map sh9)) (30 - 0) ?_ ?_
 ·exact ⟨0, [], none, 0, (by omega), H.keep (by kernel_rfl), HP, ⟨Nat.zero_le _, Nat.zero_le _⟩, rfl, rfl⟩
 rintro mm a w_9 ⟨i, l, B, cc, hmeas, H, HP, hi, hll, hrel⟩
 refine sq (sq (rg ?_))
 refine H.v 41 (ii i) fun a H => H.v 42 (pt b_1 10) fun a H => H.u 43 (.slice p.EA p.es.length p.ec) (ex_l1 (HP.cell 2 rfl 10 rfl)) fun a H => H.v 44 (ii p.es.length) fun a H => H.v 45 (.bool (decide ((i : Int) < (p.es.length : Int)))) fun a H => H.v 46 (.bool (decide ((i : Int) < (p.es.length : Int)))) fun a H => ?_
 refine H.split 46 rfl (fun g46 H => ?_) (fun g46 H => ?_)
 ·have g46p := of_decide_eq_true g46
  refine H.v 47 (ii i) fun a H => H.v 48 (.bool (decide ((i : Int) < 30))) fun a H => H.v 49 (.bool (decide ((i : Int) < 30))) fun a H => ?_
  refine nl (tn ?_)
  refine w_if H rfl (fun g49 => ?_) (fun g49 => ?_)
  ·have g49p := of_decide_eq_true g49
   refine sk (tn (sq (bk (sq ?_))))
   obtain ⟨bu_11, ou_12, x_10, hA_13, _, hd_15, hx_14, hm_16, _⟩ := IsRow.get enC_size (hpl.es.row.below HP.bl) (i := i) (by omega)
   obtain ⟨hcp, hnl⟩ := hent x_10 hm_16
   refine rg ?_
   refine H.v 52 (pt b_1 10) fun a H => H.u 53 (.slice p.EA p.es.length p.ec) (ex_l1 (HP.cell 2 rfl 10 rfl)) fun a H => H.v 54 (ii i) fun a H => H.u 55 (.pointer (some ⟨bu_11, ou_12 + i * 7, none⟩)) (ex_indexA (b := bu_11) (off := ou_12) (len := p.es.length) (cap := p.ec) (e := 43) (k := 7) (ik := .i64) (i := (i : Int)) (m := i) hA_13 (by kernel_rfl) (by kernel_rfl) (by omega) (by omega) (by kernel_rfl) (by kernel_rfl)) fun a H => H.u 56 (enV x_10) (ex_lN (enL x_10) (IsRow.cells enC_size (hpl.es.row.below HP.bl) hA_13 hx_14)) fun a H => H.al HP 5 43 [(ii 0), (ii 0), (ii 0), (ii 0), (ii 0), (ii 0), (.slice none 0 0)] fun b_17 w_18 a H HP => H.st HP 0 b_17 0 7 43 true (enV x_10) [bx b_17 43 (enL x_10) true, (rowsR w.heap.size 43 7 enC (fun (x : Ent) w => x.ok w) Ent.fp (.slice B i cc) l), bx b_3 32 [(ii 0), (ii 0), (ii 0), (ii 0), (.slice none 0 0), (ii 0), (ii 0), (ii 0), (ii 0), (.slice none 0 0), (.slice none 0 0), (.slice none 0 0), (.slice none 0 0)] true, bx b_1 32 [(ii p.channel), (ii p.num), (ii p.den), (ii p.offset), (.slice p.SA ((p.sh.take 45).length) p.sc), (ii p.epoch), (ii p.regions), (ii p.length), (ii p.fill), (.slice p.IA ((p.its.take 30).length) p.ic), (.slice p.EA p.es.length p.ec), (.slice p.BA ((p.bs.take 20).length) p.bc), (.slice p.CA ((p.cs.take 20).length) p.cc)] true] rfl fun w_19 a H HP => ?_
   refine nl (tn (sq (rg ?_)))
   refine H.alloc HP 57 (fun b => (.slice (some ⟨b, 0, none⟩) 0 0)) 62 [] (by kernel_rfl) (fun w => by kernel_rfl) fun b_20 w_21 a H HP => H.v 58 (pt b_17 6) fun a H => H.u 59 (.slice x_10.A x_10.al.length x_10.c) (ex_l1 (HP.cell 1 rfl 6 rfl)) fun a H => H.v 60 (pt b_17 6) fun a H => H.u 61 (.slice x_10.A x_10.al.length x_10.c) (ex_l1 (HP.cell 1 rfl 6 rfl)) fun a H => H.v 62 (ii x_10.al.length) fun a H => H.valE 63 (ii (if (9 : Int) < (x_10.al.length : Int) then 9 else (x_10.al.length : Int))) (ii ((min x_10.al.length 9 : Nat) : Int)) (by kernel_rfl) (by kernel_rfl) ((congrArg (Value.int .i64) (by split <;> omega))) fun a H => H.u 64 (.slice x_10.A ((x_10.al.take 9).length) x_10.c) (ex_sliceH (A := x_10.A) (len := x_10.al.length) (cap := x_10.c) (k := .i64) (n := ((min x_10.al.length 9 : Nat) : Int)) (m := (x_10.al.take 9).length) (sz := 2) (by kernel_rfl) (by kernel_rfl) (by kernel_rfl) (by kernel_rfl) (by rw [tl_ x_10.al 9]) (by rw [tl_ x_10.al 9]; omega)) fun a H => ?_
   have hrd : IsRow 2 altC w_21 x_10.A (x_10.al.take 9) := ((hpl.es.below HP.bl).ok _ hm_16).1.take9
   have hlen9 := tl_ x_10.al 9
   refine H.pushAll HP 65 0 (bb := b_20) (z := .agg #[.int .i64 0, .int .i64 0]) (e := 62) (size := 2) (bytes := 16) (m := (x_10.al.take 9).length) (c := x_10.c) (A := x_10.A) (cs := altC) (x_10.al.take 9) (by kernel_rfl) (by kernel_rfl) (by kernel_rfl) rfl (by kernel_rfl) (by kernel_rfl) (by kernel_rfl) (fun h => by have := hnl h; omega) rfl rfl hrd (alt_ones _) (by unfold maxLen; omega) (by omega) fun BA ca w_22 a H HP => ?_
   have HP : Hp w w_22 [(rowsR w.heap.size 62 2 altC (fun _ _ => True) (fun _ _ => False) (.slice BA ((x_10.al.take 9).length) ca) (x_10.al.take 9)), bx b_17 43 (enL x_10) true, (rowsR w.heap.size 43 7 enC (fun (x : Ent) w => x.ok w) Ent.fp (.slice B i cc) l), bx b_3 32 [(ii 0), (ii 0), (ii 0), (ii 0), (.slice none 0 0), (ii 0), (ii 0), (ii 0), (ii 0), (.slice none 0 0), (.slice none 0 0), (.slice none 0 0), (.slice none 0 0)] true, bx b_1 32 [(ii p.channel), (ii p.num), (ii p.den), (ii p.offset), (.slice p.SA ((p.sh.take 45).length) p.sc), (ii p.epoch), (ii p.regions), (ii p.length), (ii p.fill), (.slice p.IA ((p.its.take 30).length) p.ic), (.slice p.EA p.es.length p.ec), (.slice p.BA ((p.bs.take 20).length) p.bc), (.slice p.CA ((p.cs.take 20).length) p.cc)] true] [] := HP
   refine H.v 66 (pt b_17 6) fun a H => H.st HP 1 b_17 6 1 43 true (.slice BA ((x_10.al.take 9).length) ca) [(rowsR w.heap.size 62 2 altC (fun _ _ => True) (fun _ _ => False) (.slice BA ((x_10.al.take 9).length) ca) (x_10.al.take 9)), bx b_17 43 [(ii x_10.id), (ii x_10.item), (ii x_10.frames), (ii x_10.earliest), (ii x_10.latest), (ii x_10.booking), (.slice BA ((x_10.al.take 9).length) ca)] true, (rowsR w.heap.size 43 7 enC (fun (x : Ent) w => x.ok w) Ent.fp (.slice B i cc) l), bx b_3 32 [(ii 0), (ii 0), (ii 0), (ii 0), (.slice none 0 0), (ii 0), (ii 0), (ii 0), (ii 0), (.slice none 0 0), (.slice none 0 0), (.slice none 0 0), (.slice none 0 0)] true, bx b_1 32 [(ii p.channel), (ii p.num), (ii p.den), (ii p.offset), (.slice p.SA ((p.sh.take 45).length) p.sc), (ii p.epoch), (ii p.regions), (ii p.length), (ii p.fill), (.slice p.IA ((p.its.take 30).length) p.ic), (.slice p.EA p.es.length p.ec), (.slice p.BA ((p.bs.take 20).length) p.bc), (.slice p.CA ((p.cs.take 20).length) p.cc)] true] rfl fun w_23 a H HP => ?_
   refine nl (tn (rg ?_))
   refine H.v 67 (.slice B i cc) fun a H => H.u 68 (.agg #[(ii x_10.id), (ii x_10.item), (ii x_10.frames), (ii x_10.earliest), (ii x_10.latest), (ii x_10.booking), (.slice BA ((x_10.al.take 9).length) ca)]) (ex_lN [(ii x_10.id), (ii x_10.item), (ii x_10.frames), (ii x_10.earliest), (ii x_10.latest), (ii x_10.booking), (.slice BA ((x_10.al.take 9).length) ca)] (HP.cells 1 rfl 0 7 (by kernel_rfl))) fun a H => H.alloc HP 69 (fun b => (.slice (some ⟨b, 0, none⟩) 1 1)) 43 [(ii x_10.id), (ii x_10.item), (ii x_10.frames), (ii x_10.earliest), (ii x_10.latest), (ii x_10.booking), (.slice BA ((x_10.al.take 9).length) ca)] (by kernel_rfl) (fun w => by kernel_rfl) fun b_24 w_25 a H HP => ?_
   have HP0 := HP
   have HP1 := HP.sub2 [0, 2, 3, 4, 5] [bx b_24 43 [(ii x_10.id), (ii x_10.item), (ii x_10.frames), (ii x_10.earliest), (ii x_10.latest), (ii x_10.booking), (.slice BA ((x_10.al.take 9).length) ca)] true, bx b_17 43 [(ii x_10.id), (ii x_10.item), (ii x_10.frames), (ii x_10.earliest), (ii x_10.latest), (ii x_10.booking), (.slice BA ((x_10.al.take 9).length) ca)] true, (rowsR w.heap.size 43 7 enC (fun (x : Ent) w => x.ok w) Ent.fp (.slice B i cc) l), bx b_3 32 [(ii 0), (ii 0), (ii 0), (ii 0), (.slice none 0 0), (ii 0), (ii 0), (ii 0), (ii 0), (.slice none 0 0), (.slice none 0 0), (.slice none 0 0), (.slice none 0 0)] true, bx b_1 32 [(ii p.channel), (ii p.num), (ii p.den), (ii p.offset), (.slice p.SA ((p.sh.take 45).length) p.sc), (ii p.epoch), (ii p.regions), (ii p.length), (ii p.fill), (.slice p.IA ((p.its.take 30).length) p.ic), (.slice p.EA p.es.length p.ec), (.slice p.BA ((p.bs.take 20).length) p.bc), (.slice p.CA ((p.cs.take 20).length) p.cc)] true] (by kernel_rfl) (by kernel_rfl) (by simp [bx, rowsR, rowsP])
   have HP := HP1.pendN 2 rfl elOk_en (⟨x_10.id, x_10.item, x_10.frames, x_10.earliest, x_10.latest, x_10.booking, BA, ca, x_10.al.take 9⟩ : Ent) [bx b_24 43 [(ii x_10.id), (ii x_10.item), (ii x_10.frames), (ii x_10.earliest), (ii x_10.latest), (ii x_10.booking), (.slice BA ((x_10.al.take 9).length) ca)] true, bx b_17 43 [(ii x_10.id), (ii x_10.item), (ii x_10.frames), (ii x_10.earliest), (ii x_10.latest), (ii x_10.booking), (.slice BA ((x_10.al.take 9).length) ca)] true, (rowsP w.heap.size 43 7 enC (fun (x : Ent) w => x.ok w) Ent.fp (.slice B i cc) l (⟨x_10.id, x_10.item, x_10.frames, x_10.earliest, x_10.latest, x_10.booking, BA, ca, x_10.al.take 9⟩ : Ent)), bx b_3 32 [(ii 0), (ii 0), (ii 0), (ii 0), (.slice none 0 0), (ii 0), (ii 0), (ii 0), (ii 0), (.slice none 0 0), (.slice none 0 0), (.slice none 0 0), (.slice none 0 0)] true, bx b_1 32 [(ii p.channel), (ii p.num), (ii p.den), (ii p.offset), (.slice p.SA ((p.sh.take 45).length) p.sc), (ii p.epoch), (ii p.regions), (ii p.length), (ii p.fill), (.slice p.IA ((p.its.take 30).length) p.ic), (.slice p.EA p.es.length p.ec), (.slice p.BA ((p.bs.take 20).length) p.bc), (.slice p.CA ((p.cs.take 20).length) p.cc)] true] (by kernel_rfl) ⟨Rd.of_own (HP0.held 1 rfl).1, by show (x_10.al.take 9).length ≤ maxLen; unfold maxLen; omega⟩ (fun j hj => ⟨HP0.fresh _ (List.mem_of_getElem? (i := 1) rfl) rfl j (al_own (HP0.held 1 rfl) hj), HP0.lt _ (List.mem_of_getElem? (i := 1) rfl) j (al_own (HP0.held 1 rfl) hj), fun y hy hyk => by simp only [List.mem_cons, List.not_mem_nil, or_false] at hy; rcases hy with rfl | rfl | rfl | rfl | rfl <;> (first | exact pairwise_at HP0.apart (i := 1) (j := 0) rfl rfl (by decide) j (al_own (HP0.held 1 rfl) hj) hyk | exact pairwise_at HP0.apart (i := 1) (j := 2) rfl rfl (by decide) j (al_own (HP0.held 1 rfl) hj) hyk | exact pairwise_at HP0.apart (i := 1) (j := 3) rfl rfl (by decide) j (al_own (HP0.held 1 rfl) hj) hyk | exact pairwise_at HP0.apart (i := 1) (j := 4) rfl rfl (by decide) j (al_own (HP0.held 1 rfl) hj) hyk | exact pairwise_at HP0.apart (i := 1) (j := 5) rfl rfl (by decide) j (al_own (HP0.held 1 rfl) hj) hyk), fun q hq => by cases hq⟩)
   clear HP0 HP1
   refine H.push HP 70 2 0 (v := (.slice B i cc)) (e := 43) (p := (⟨x_10.id, x_10.item, x_10.frames, x_10.earliest, x_10.latest, x_10.booking, BA, ca, x_10.al.take 9⟩ : Ent)) (l := l) (cs := enC) (ok := (fun (x : Ent) w => x.ok w)) (fe := Ent.fp) (size := 7) (z := (.agg #[(ii 0), (ii 0), (ii 0), (ii 0), (ii 0), (ii 0), (.slice none 0 0)])) (bytes := 72) (bb := b_24) (tb := 43) (fb := true) (by kernel_rfl) elOk_en (by kernel_rfl) (by kernel_rfl) rfl (by kernel_rfl) (by kernel_rfl) (by kernel_rfl) (by kernel_rfl) (by kernel_rfl) rfl (by kernel_rfl) (by rw [hll]; unfold maxLen; omega) (by rw [hll]; omega) fun B_26 c_27 w_28 a H HP => ?_
   have HP : Hp w w_28 [bx b_24 43 [(ii x_10.id), (ii x_10.item), (ii x_10.frames), (ii x_10.earliest), (ii x_10.latest), (ii x_10.booking), (.slice BA ((x_10.al.take 9).length) ca)] true, bx b_17 43 [(ii x_10.id), (ii x_10.item), (ii x_10.frames), (ii x_10.earliest), (ii x_10.latest), (ii x_10.booking), (.slice BA ((x_10.al.take 9).length) ca)] true, (rowsR w.heap.size 43 7 enC (fun (x : Ent) w => x.ok w) Ent.fp (.slice B_26 (l.length + 1) c_27) (l ++ [(⟨x_10.id, x_10.item, x_10.frames, x_10.earliest, x_10.latest, x_10.booking, BA, ca, x_10.al.take 9⟩ : Ent)])), bx b_3 32 [(ii 0), (ii 0), (ii 0), (ii 0), (.slice none 0 0), (ii 0), (ii 0), (ii 0), (ii 0), (.slice none 0 0), (.slice none 0 0), (.slice none 0 0), (.slice none 0 0)] true, bx b_1 32 [(ii p.channel), (ii p.num), (ii p.den), (ii p.offset), (.slice p.SA ((p.sh.take 45).length) p.sc), (ii p.epoch), (ii p.regions), (ii p.length), (ii p.fill), (.slice p.IA ((p.its.take 30).length) p.ic), (.slice p.EA p.es.length p.ec), (.slice p.BA ((p.bs.take 20).length) p.bc), (.slice p.CA ((p.cs.take 20).length) p.cc)] true] [] := HP
   rw [hll] at H HP
   refine H.v 3 (.slice B_26 (i + 1) c_27) fun a H => ?_
   refine nl (ibn (tn (rg ?_)))
   refine H.v 50 (ii i) fun a H => H.valE 51 (ii (IntKind.i64.wrap ((i : Int) + 1))) (ii ((i : Int) + 1)) (by kernel_rfl) (by kernel_rfl) ((by rw [wrap_ini64 _ (by omega)])) fun a H => H.v 4 (ii ((i : Int) + 1)) fun a H => ?_
   refine nl (tn ?_)
   have HP := HP.sub2 [2, 3, 4] _ rfl (by kernel_rfl) (by simp [bx, rowsR, rowsP])
   have H := H.as 4 (ii ((i + 1 : Nat) : Int)) rfl rfl
   refine ⟨_, ?_, i + 1, l ++ [(⟨x_10.id, x_10.item, x_10.frames, x_10.earliest, x_10.latest, x_10.booking, BA, ca, x_10.al.take 9⟩ : Ent)], B_26, c_27, rfl, H.keep (by kernel_rfl), HP, ⟨by omega, by omega⟩, (by rw [List.length_append, hll]; rfl), (by rw [List.map_append, hrel, take_snoc hx_14, List.map_append]; rfl)⟩
   omega
  have g49p := of_decide_eq_false g49
  refine wp_exit (then_exit (then_exit ?_))
  refine w_exit_here ?_
  refine tn (sq ?_)
  have hes : p.es.take i = p.es.take 30 := take_end (by omega)
  subst hll
  refine rg ?_
  refine H.v 71 (.slice B l.length cc) fun a H => H.v 72 (pt b_1 10) fun a H => H.st HP 2 b_1 10 1 32 true (.slice B l.length cc) [(rowsR w.heap.size 43 7 enC (fun (x : Ent) w => x.ok w) Ent.fp (.slice B l.length cc) l), bx b_3 32 [(ii 0), (ii 0), (ii 0), (ii 0), (.slice none 0 0), (ii 0), (ii 0), (ii 0), (ii 0), (.slice none 0 0), (.slice none 0 0), (.slice none 0 0), (.slice none 0 0)] true, bx b_1 32 [(ii p.channel), (ii p.num), (ii p.den), (ii p.offset), (.slice p.SA ((p.sh.take 45).length) p.sc), (ii p.epoch), (ii p.regions), (ii p.length), (ii p.fill), (.slice p.IA ((p.its.take 30).length) p.ic), (.slice B l.length cc), (.slice p.BA ((p.bs.take 20).length) p.bc), (.slice p.CA ((p.cs.take 20).length) p.cc)] true] rfl fun w_29 a H HP => ?_
  refine nl (tn (sq (rg ?_)))
  refine H.u 73 (.agg #[(ii p.channel), (ii p.num), (ii p.den), (ii p.offset), (.slice p.SA ((p.sh.take 45).length) p.sc), (ii p.epoch), (ii p.regions), (ii p.length), (ii p.fill), (.slice p.IA ((p.its.take 30).length) p.ic), (.slice B l.length cc), (.slice p.BA ((p.bs.take 20).length) p.bc), (.slice p.CA ((p.cs.take 20).length) p.cc)]) (ex_lN [(ii p.channel), (ii p.num), (ii p.den), (ii p.offset), (.slice p.SA ((p.sh.take 45).length) p.sc), (ii p.epoch), (ii p.regions), (ii p.length), (ii p.fill), (.slice p.IA ((p.its.take 30).length) p.ic), (.slice B l.length cc), (.slice p.BA ((p.bs.take 20).length) p.bc), (.slice p.CA ((p.cs.take 20).length) p.cc)] (HP.cells 2 rfl 0 13 (by kernel_rfl))) fun a H => H.st HP 1 b_3 0 13 32 true (.agg #[(ii p.channel), (ii p.num), (ii p.den), (ii p.offset), (.slice p.SA ((p.sh.take 45).length) p.sc), (ii p.epoch), (ii p.regions), (ii p.length), (ii p.fill), (.slice p.IA ((p.its.take 30).length) p.ic), (.slice B l.length cc), (.slice p.BA ((p.bs.take 20).length) p.bc), (.slice p.CA ((p.cs.take 20).length) p.cc)]) [(rowsR w.heap.size 43 7 enC (fun (x : Ent) w => x.ok w) Ent.fp (.slice B l.length cc) l), bx b_3 32 [(ii p.channel), (ii p.num), (ii p.den), (ii p.offset), (.slice p.SA ((p.sh.take 45).length) p.sc), (ii p.epoch), (ii p.regions), (ii p.length), (ii p.fill), (.slice p.IA ((p.its.take 30).length) p.ic), (.slice B l.length cc), (.slice p.BA ((p.bs.take 20).length) p.bc), (.slice p.CA ((p.cs.take 20).length) p.cc)] true, bx b_1 32 [(ii p.channel), (ii p.num), (ii p.den), (ii p.offset), (.slice p.SA ((p.sh.take 45).length) p.sc), (ii p.epoch), (ii p.regions), (ii p.length), (ii p.fill), (.slice p.IA ((p.its.take 30).length) p.ic), (.slice B l.length cc), (.slice p.BA ((p.bs.take 20).length) p.bc), (.slice p.CA ((p.cs.take 20).length) p.cc)] true] rfl fun w_30 a H HP => ?_
  refine nl (tn (rt ?_))
  refine H.ret1 (fn := Tryz.f13) Tryz.results13 (RV.cellN (vs := [(ii p.channel), (ii p.num), (ii p.den), (ii p.offset), (.slice p.SA ((p.sh.take 45).length) p.sc), (ii p.epoch), (ii p.regions), (ii p.length), (ii p.fill), (.slice p.IA ((p.its.take 30).length) p.ic), (.slice B l.length cc), (.slice p.BA ((p.bs.take 20).length) p.bc), (.slice p.CA ((p.cs.take 20).length) p.cc)]) (b := b_3) (off := 0) (k := 13) (by kernel_rfl) (by kernel_rfl) (by kernel_rfl) rfl (HP.cells 1 rfl 0 13 (by kernel_rfl))) ?_
  have hrow := HP.held 0 rfl
  have hq := hpl.below HP.bl
  refine ⟨(⟨p.channel, p.num, p.den, p.offset, p.SA, p.sc, p.sh.take 45, p.epoch, p.regions, p.length, p.fill, p.IA, p.ic, p.its.take 30, B, cc, l, p.BA, p.bc, p.bs.take 20, p.CA, p.cc, p.cs.take 20⟩ : Pln), rfl, ?_, ⟨hq.sh.takeL altC_size 45, hq.its.takeL itC_size 30, ⟨Rd.of_own hrow.1, fun e he => (hrow.2 e he).1⟩, hq.bs.takeL bkC_size 20, hq.cs.takeL clC_size 20, ?_, ?_, ?_, ?_, ?_⟩, ?_, HP.bl⟩
  ·show (⟨p.channel, p.num, p.den, p.offset, p.sh.take 45, p.epoch, p.regions, p.length, p.fill, p.its.take 30, l.map Ent.nv, p.bs.take 20, p.cs.take 20⟩ : PlN) = shN p.nv
   rw [hrel, hes]; simp only [shN, Pln.nv, sh9N, ← List.map_take, List.map_map]; rfl
  ·show (p.sh.take 45).length ≤ maxLen; rw [tl_]; unfold maxLen; omega
  ·show (p.its.take 30).length ≤ maxLen; rw [tl_]; unfold maxLen; omega
  ·show l.length ≤ maxLen; unfold maxLen; omega
  ·show (p.bs.take 20).length ≤ maxLen; rw [tl_]; unfold maxLen; omega
  ·show (p.cs.take 20).length ≤ maxLen; rw [tl_]; unfold maxLen; omega
  exact ⟨en_new hrow (HP.fresh _ (List.mem_of_getElem? (i := 0) rfl) rfl), rfl, (ownR_cap hrow)⟩
 have g46p := of_decide_eq_false g46
 refine H.s 47 fun a H => ?_
 refine H.s 48 fun a H => ?_
 refine H.v 49 (.bool false) fun a H => ?_
 refine nl (tn ?_)
 refine w_iff H rfl ?_
 refine wp_exit (then_exit (then_exit ?_))
 refine w_exit_here ?_
 refine tn (sq ?_)
 have hes : p.es.take i = p.es.take 30 := take_end (by omega)
 subst hll
 refine rg ?_
 refine H.v 71 (.slice B l.length cc) fun a H => H.v 72 (pt b_1 10) fun a H => H.st HP 2 b_1 10 1 32 true (.slice B l.length cc) [(rowsR w.heap.size 43 7 enC (fun (x : Ent) w => x.ok w) Ent.fp (.slice B l.length cc) l), bx b_3 32 [(ii 0), (ii 0), (ii 0), (ii 0), (.slice none 0 0), (ii 0), (ii 0), (ii 0), (ii 0), (.slice none 0 0), (.slice none 0 0), (.slice none 0 0), (.slice none 0 0)] true, bx b_1 32 [(ii p.channel), (ii p.num), (ii p.den), (ii p.offset), (.slice p.SA ((p.sh.take 45).length) p.sc), (ii p.epoch), (ii p.regions), (ii p.length), (ii p.fill), (.slice p.IA ((p.its.take 30).length) p.ic), (.slice B l.length cc), (.slice p.BA ((p.bs.take 20).length) p.bc), (.slice p.CA ((p.cs.take 20).length) p.cc)] true] rfl fun w_31 a H HP => ?_
 refine nl (tn (sq (rg ?_)))
 refine H.u 73 (.agg #[(ii p.channel), (ii p.num), (ii p.den), (ii p.offset), (.slice p.SA ((p.sh.take 45).length) p.sc), (ii p.epoch), (ii p.regions), (ii p.length), (ii p.fill), (.slice p.IA ((p.its.take 30).length) p.ic), (.slice B l.length cc), (.slice p.BA ((p.bs.take 20).length) p.bc), (.slice p.CA ((p.cs.take 20).length) p.cc)]) (ex_lN [(ii p.channel), (ii p.num), (ii p.den), (ii p.offset), (.slice p.SA ((p.sh.take 45).length) p.sc), (ii p.epoch), (ii p.regions), (ii p.length), (ii p.fill), (.slice p.IA ((p.its.take 30).length) p.ic), (.slice B l.length cc), (.slice p.BA ((p.bs.take 20).length) p.bc), (.slice p.CA ((p.cs.take 20).length) p.cc)] (HP.cells 2 rfl 0 13 (by kernel_rfl))) fun a H => H.st HP 1 b_3 0 13 32 true (.agg #[(ii p.channel), (ii p.num), (ii p.den), (ii p.offset), (.slice p.SA ((p.sh.take 45).length) p.sc), (ii p.epoch), (ii p.regions), (ii p.length), (ii p.fill), (.slice p.IA ((p.its.take 30).length) p.ic), (.slice B l.length cc), (.slice p.BA ((p.bs.take 20).length) p.bc), (.slice p.CA ((p.cs.take 20).length) p.cc)]) [(rowsR w.heap.size 43 7 enC (fun (x : Ent) w => x.ok w) Ent.fp (.slice B l.length cc) l), bx b_3 32 [(ii p.channel), (ii p.num), (ii p.den), (ii p.offset), (.slice p.SA ((p.sh.take 45).length) p.sc), (ii p.epoch), (ii p.regions), (ii p.length), (ii p.fill), (.slice p.IA ((p.its.take 30).length) p.ic), (.slice B l.length cc), (.slice p.BA ((p.bs.take 20).length) p.bc), (.slice p.CA ((p.cs.take 20).length) p.cc)] true, bx b_1 32 [(ii p.channel), (ii p.num), (ii p.den), (ii p.offset), (.slice p.SA ((p.sh.take 45).length) p.sc), (ii p.epoch), (ii p.regions), (ii p.length), (ii p.fill), (.slice p.IA ((p.its.take 30).length) p.ic), (.slice B l.length cc), (.slice p.BA ((p.bs.take 20).length) p.bc), (.slice p.CA ((p.cs.take 20).length) p.cc)] true] rfl fun w_32 a H HP => ?_
 refine nl (tn (rt ?_))
 refine H.ret1 (fn := Tryz.f13) Tryz.results13 (RV.cellN (vs := [(ii p.channel), (ii p.num), (ii p.den), (ii p.offset), (.slice p.SA ((p.sh.take 45).length) p.sc), (ii p.epoch), (ii p.regions), (ii p.length), (ii p.fill), (.slice p.IA ((p.its.take 30).length) p.ic), (.slice B l.length cc), (.slice p.BA ((p.bs.take 20).length) p.bc), (.slice p.CA ((p.cs.take 20).length) p.cc)]) (b := b_3) (off := 0) (k := 13) (by kernel_rfl) (by kernel_rfl) (by kernel_rfl) rfl (HP.cells 1 rfl 0 13 (by kernel_rfl))) ?_
 have hrow := HP.held 0 rfl
 have hq := hpl.below HP.bl
 refine ⟨(⟨p.channel, p.num, p.den, p.offset, p.SA, p.sc, p.sh.take 45, p.epoch, p.regions, p.length, p.fill, p.IA, p.ic, p.its.take 30, B, cc, l, p.BA, p.bc, p.bs.take 20, p.CA, p.cc, p.cs.take 20⟩ : Pln), rfl, ?_, ⟨hq.sh.takeL altC_size 45, hq.its.takeL itC_size 30, ⟨Rd.of_own hrow.1, fun e he => (hrow.2 e he).1⟩, hq.bs.takeL bkC_size 20, hq.cs.takeL clC_size 20, ?_, ?_, ?_, ?_, ?_⟩, ?_, HP.bl⟩
 ·show (⟨p.channel, p.num, p.den, p.offset, p.sh.take 45, p.epoch, p.regions, p.length, p.fill, p.its.take 30, l.map Ent.nv, p.bs.take 20, p.cs.take 20⟩ : PlN) = shN p.nv
  rw [hrel, hes]; simp only [shN, Pln.nv, sh9N, ← List.map_take, List.map_map]; rfl
 ·show (p.sh.take 45).length ≤ maxLen; rw [tl_]; unfold maxLen; omega
 ·show (p.its.take 30).length ≤ maxLen; rw [tl_]; unfold maxLen; omega
 ·show l.length ≤ maxLen; unfold maxLen; omega
 ·show (p.bs.take 20).length ≤ maxLen; rw [tl_]; unfold maxLen; omega
 ·show (p.cs.take 20).length ≤ maxLen; rw [tl_]; unfold maxLen; omega
 exact ⟨en_new hrow (HP.fresh _ (List.mem_of_getElem? (i := 0) rfl) rfl), rfl, (ownR_cap hrow)⟩
end Go.Proofs.YteeillphhiaopaaGreatDoor
namespace Go.Proofs.YteeillphhiaopaaGreatDoor
set_option maxRecDepth 100000
set_option maxHeartbeats 4000000
open Go.ChangeShapes Go.WideShapes Go.ChangeAt Go.RowKit
set_option linter.unusedVariables false
set_option linter.unusedSimpArgs false
def exPl (i e : Nat) (lat bk : Int) (B : Option Addr) (bc : Nat) (bs : List Bkg) : Pln := ⟨0, 25, 1, 0, none, 0, [], 0, 2, 100, 1, some ⟨i, 0, none⟩, 2, [⟨1, 5, 10, 0, 0⟩, ⟨2, 2, 20, 0, 0⟩], some ⟨e, 0, none⟩, 1, [⟨5, 2, 20, 0, lat, bk, none, 0, []⟩], B, bc, bs, none, 0, []⟩
def exS : List UInt8 := [] ++ encInts [0, 25, 1, 0, 0, 0, 2, 100, 1, 2, 1, 5, 10, 0, 0, 2, 2, 20, 0, 0, 1, 5, 2, 20, 0, 80, 0, 0, 0, 0]
theorem dec_exS : decN exS = ((exPl 0 0 80 0 none 0 []).nv, 0) := dec_enc (p := exPl 0 0 80 0 none 0 []) (by kernel_rfl)
theorem dec_nil : decN [] = (zeroN, 10) := by kernel_rfl
theorem IsRow.box {α : Type} {k : Nat} {cs : α → Array Value} (hk : ∀ e, (cs e).size = k) {w : World} {b t : Nat} {vs : List Value} {l : List α} (h : Box w b t vs.toArray) (hv : vs = flat cs l) : IsRow k cs w (some ⟨b, 0, none⟩) l := by
 subst hv
 refine ⟨flat_len hk l, .inr ⟨b, 0, rfl, h.lt, fun i hi => ?_⟩⟩
 have hi' : i < (flat cs l).length := by rw [flat_len hk l]; exact hi
 rw [Nat.zero_add, List.getElem?_eq_getElem hi']
 exact h.cell (by simp [hi'])
theorem isEx {w : World} {i e : Nat} {lat bk : Int} (h1 : Box w i 38 [(.int .i64 1), (.int .i64 5), (.int .i64 10), (.int .i64 0), (.int .i64 0), (.int .i64 2), (.int .i64 2), (.int .i64 20), (.int .i64 0), (.int .i64 0)].toArray) (h2 : Box w e 43 [.int .i64 5, .int .i64 2, .int .i64 20, .int .i64 0, .int .i64 lat, .int .i64 bk, .slice none 0 0].toArray) : IsPln w (exPl i e lat bk none 0 []) :=
 ⟨IsRow.nil _ _, IsRow.box itC_size h1 rfl, ⟨IsRow.box enC_size h2 rfl, fun x hx => by rcases List.mem_singleton.1 hx with rfl; exact ⟨IsRow.nil _ _, Nat.zero_le _⟩⟩, IsRow.nil _ _, IsRow.nil _ _, Nat.zero_le _, by show 2 ≤ maxLen; unfold maxLen; omega, by show 1 ≤ maxLen; unfold maxLen; omega, Nat.zero_le _, Nat.zero_le _⟩
theorem isExB {w : World} {i e b : Nat} {lat bk : Int} (h1 : Box w i 38 [(.int .i64 1), (.int .i64 5), (.int .i64 10), (.int .i64 0), (.int .i64 0), (.int .i64 2), (.int .i64 2), (.int .i64 20), (.int .i64 0), (.int .i64 0)].toArray) (h2 : Box w e 43 [.int .i64 5, .int .i64 2, .int .i64 20, .int .i64 0, .int .i64 lat, .int .i64 bk, .slice none 0 0].toArray) (h3 : Box w b 47 [(.int .i64 1), (.int .i64 2), (.int .i64 1), (.int .i64 0), (.int .i64 50), (.int .i64 90), (.int .i64 0)].toArray) : IsPln w (exPl i e lat bk (some ⟨b, 0, none⟩) 1 [⟨1, 2, 1, 0, 50, 90, 0⟩]) :=
 ⟨IsRow.nil _ _, IsRow.box itC_size h1 rfl, ⟨IsRow.box enC_size h2 rfl, fun x hx => by rcases List.mem_singleton.1 hx with rfl; exact ⟨IsRow.nil _ _, Nat.zero_le _⟩⟩, IsRow.box bkC_size h3 rfl, IsRow.nil _ _, Nat.zero_le _, by show 2 ≤ maxLen; unfold maxLen; omega, by show 1 ≤ maxLen; unfold maxLen; omega, by show 1 ≤ maxLen; unfold maxLen; omega, Nat.zero_le _⟩
theorem Hp.gain2 {w0 w w' : World} {L : List HB} {K : List FK} (H : Hp w0 w L K) (hb : Below w.heap.size w w') {b c t u : Nat} {vs us : List Value} (h1 : Box w' b t vs.toArray) (h2 : Box w' c u us.toArray) (n1 : w.heap.size ≤ b) (n2 : w.heap.size ≤ c) (hne : b ≠ c) : Hp w0 w' (bx b t vs true :: bx c u us true :: L) K := by
 have H2 := H.gain hb (bx c u us true) h2 (bx_ok _ _ _ _) (fun k hk => by cases hk; exact h2.lt) (fun k hk => by cases hk; exact n2)
 refine H2.add (bx b t vs true) h1 (bx_ok _ _ _ _) (fun k hk => by cases hk; exact h1.lt) (fun k hk => ⟨fun y hy hyk => ?_, fun p hp hpk => ?_⟩) (fun _ k hk => by cases hk; exact Nat.le_trans H.size n1)
 ·cases hk
  rcases List.mem_cons.1 hy with rfl | hy
  ·exact hne hyk
  ·have := (H.res y hy).2.2 _ hyk; omega
 ·cases hk
  have := ((H.kept p hp).2.2 _ hpk).1
  omega
theorem example_any (w : World) : Calls Tryz.prog 30 #[] w fun e w' => ∃ b1 b2, e = .returned (.agg (plC (exPl b1 b2 80 0 none 0 [])).toArray) ∧ Box w' b1 38 [(ii 1), (ii 5), (ii 10), (ii 0), (ii 0), (ii 2), (ii 2), (ii 20), (ii 0), (ii 0)].toArray ∧ Box w' b2 43 [(ii 5), (ii 2), (ii 20), (ii 0), (ii 80), (ii 0), (.slice none 0 0)].toArray ∧ w.heap.size ≤ b1 ∧ w.heap.size ≤ b2 ∧ b1 ≠ b2 ∧ Below w.heap.size w w' := by
 have HP := Hp.start w
 refine w_enter 8 [] Tryz.func30 rfl Tryz.ntmps30 (by kernel_rfl) (by kernel_rfl) fun a H => ?_
 refine sq (rg ?_)
 refine H.al HP 0 32 [(ii 0), (ii 0), (ii 0), (ii 0), (.slice none 0 0), (ii 0), (ii 0), (ii 0), (ii 0), (.slice none 0 0), (.slice none 0 0), (.slice none 0 0), (.slice none 0 0)] fun b_1 w_2 a H HP => ?_
 refine nl (tn (sq (rg ?_)))
 refine H.v 1 (.agg #[(ii 25), (ii 1)]) fun a H => H.v 2 (.agg #[(ii 1), (ii 5), (ii 10), (ii 0), (ii 0)]) fun a H => H.v 3 (.agg #[(ii 2), (ii 2), (ii 20), (ii 0), (ii 0)]) fun a H => H.alloc HP 4 (fun b => (.slice (some ⟨b, 0, none⟩) 2 2)) 38 [(ii 1), (ii 5), (ii 10), (ii 0), (ii 0), (ii 2), (ii 2), (ii 20), (ii 0), (ii 0)] (by kernel_rfl) (fun w => by kernel_rfl) fun b_3 w_4 a H HP => H.v 5 (.agg #[(ii 5), (ii 2), (ii 20), (ii 0), (ii 80), (ii 0), (.slice none 0 0)]) fun a H => H.alloc HP 6 (fun b => (.slice (some ⟨b, 0, none⟩) 1 1)) 43 [(ii 5), (ii 2), (ii 20), (ii 0), (ii 80), (ii 0), (.slice none 0 0)] (by kernel_rfl) (fun w => by kernel_rfl) fun b_5 w_6 a H HP => H.v 7 (.agg #[(ii 0), (ii 25), (ii 1), (ii 0), (.slice none 0 0), (ii 0), (ii 2), (ii 100), (ii 1), (.slice (some ⟨b_3, 0, none⟩) 2 2), (.slice (some ⟨b_5, 0, none⟩) 1 1), (.slice none 0 0), (.slice none 0 0)]) fun a H => H.st HP 2 b_1 0 13 32 true (.agg #[(ii 0), (ii 25), (ii 1), (ii 0), (.slice none 0 0), (ii 0), (ii 2), (ii 100), (ii 1), (.slice (some ⟨b_3, 0, none⟩) 2 2), (.slice (some ⟨b_5, 0, none⟩) 1 1), (.slice none 0 0), (.slice none 0 0)]) [bx b_5 43 [(ii 5), (ii 2), (ii 20), (ii 0), (ii 80), (ii 0), (.slice none 0 0)] true, bx b_3 38 [(ii 1), (ii 5), (ii 10), (ii 0), (ii 0), (ii 2), (ii 2), (ii 20), (ii 0), (ii 0)] true, bx b_1 32 [(ii 0), (ii 25), (ii 1), (ii 0), (.slice none 0 0), (ii 0), (ii 2), (ii 100), (ii 1), (.slice (some ⟨b_3, 0, none⟩) 2 2), (.slice (some ⟨b_5, 0, none⟩) 1 1), (.slice none 0 0), (.slice none 0 0)] true] rfl fun w_7 a H HP => ?_
 refine nl (tn (rt ?_))
 refine H.ret1 (fn := Tryz.f30) Tryz.results30 (RV.cellN (vs := [(ii 0), (ii 25), (ii 1), (ii 0), (.slice none 0 0), (ii 0), (ii 2), (ii 100), (ii 1), (.slice (some ⟨b_3, 0, none⟩) 2 2), (.slice (some ⟨b_5, 0, none⟩) 1 1), (.slice none 0 0), (.slice none 0 0)]) (b := b_1) (off := 0) (k := 13) (by kernel_rfl) (by kernel_rfl) (by kernel_rfl) rfl (HP.cells 2 rfl 0 13 (by kernel_rfl))) ?_
 exact ⟨b_3, b_5, rfl, HP.at_ 1 rfl, HP.at_ 0 rfl, HP.fresh _ (List.mem_of_getElem? (i := 1) rfl) rfl _ rfl, HP.fresh _ (List.mem_of_getElem? (i := 0) rfl) rfl _ rfl, (HP.neB 0 1 rfl rfl (by decide)).symm, HP.bl⟩
theorem sane_any (a0 a1 : Addr) (w : World) (hL : LaidP a0 a1 w) : Calls Tryz.prog 12 #[] w fun e w' => e = .returned (.bool true) ∧ Below w.heap.size w w' := by
 have HP := Hp.start w
 refine w_enter 146 [] Tryz.func12 rfl Tryz.ntmps12 (by kernel_rfl) (by kernel_rfl) fun a H => ?_
 refine sq (rg ?_)
 refine H.v 0 (.bool false) fun a H => ?_
 refine nl (tn (sq (rg ?_)))
 refine H.cl 21 (Tryz.call30 _ _) (example_any w) ?_
 rintro e w_1 ⟨bi1, be1, rfl, hx1, hx2, hn1, hn2, hne, hb⟩
 refine ⟨_, rfl, ?_⟩
 intro a H
 have HP := HP.gain2 hb hx1 hx2 hn1 hn2 hne
 refine H.al HP 1 32 [(ii 0), (ii 0), (ii 0), (ii 0), (.slice none 0 0), (ii 0), (ii 0), (ii 0), (ii 0), (.slice none 0 0), (.slice none 0 0), (.slice none 0 0), (.slice none 0 0)] fun b_2 w_3 a H HP => H.st HP 0 b_2 0 13 32 true (.agg #[(ii 0), (ii 25), (ii 1), (ii 0), (.slice none 0 0), (ii 0), (ii 2), (ii 100), (ii 1), (.slice (some ⟨bi1, 0, none⟩) 2 2), (.slice (some ⟨be1, 0, none⟩) 1 1), (.slice none 0 0), (.slice none 0 0)]) [bx b_2 32 [(ii 0), (ii 25), (ii 1), (ii 0), (.slice none 0 0), (ii 0), (ii 2), (ii 100), (ii 1), (.slice (some ⟨bi1, 0, none⟩) 2 2), (.slice (some ⟨be1, 0, none⟩) 1 1), (.slice none 0 0), (.slice none 0 0)] true, bx bi1 38 [(ii 1), (ii 5), (ii 10), (ii 0), (ii 0), (ii 2), (ii 2), (ii 20), (ii 0), (ii 0)] true, bx be1 43 [(ii 5), (ii 2), (ii 20), (ii 0), (ii 80), (ii 0), (.slice none 0 0)] true] rfl fun w_4 a H HP => ?_
 refine nl (tn (sq (rg ?_)))
 refine H.cl 22 (Tryz.call30 _ _) (example_any w_4) ?_
 rintro e w_5 ⟨bi2, be2, rfl, hx1, hx2, hn1, hn2, hne, hb⟩
 refine ⟨_, rfl, ?_⟩
 intro a H
 have HP := HP.gain2 hb hx1 hx2 hn1 hn2 hne
 refine H.al HP 2 32 [(ii 0), (ii 0), (ii 0), (ii 0), (.slice none 0 0), (ii 0), (ii 0), (ii 0), (ii 0), (.slice none 0 0), (.slice none 0 0), (.slice none 0 0), (.slice none 0 0)] fun b_6 w_7 a H HP => H.st HP 0 b_6 0 13 32 true (.agg #[(ii 0), (ii 25), (ii 1), (ii 0), (.slice none 0 0), (ii 0), (ii 2), (ii 100), (ii 1), (.slice (some ⟨bi2, 0, none⟩) 2 2), (.slice (some ⟨be2, 0, none⟩) 1 1), (.slice none 0 0), (.slice none 0 0)]) [bx b_6 32 [(ii 0), (ii 25), (ii 1), (ii 0), (.slice none 0 0), (ii 0), (ii 2), (ii 100), (ii 1), (.slice (some ⟨bi2, 0, none⟩) 2 2), (.slice (some ⟨be2, 0, none⟩) 1 1), (.slice none 0 0), (.slice none 0 0)] true, bx bi2 38 [(ii 1), (ii 5), (ii 10), (ii 0), (ii 0), (ii 2), (ii 2), (ii 20), (ii 0), (ii 0)] true, bx be2 43 [(ii 5), (ii 2), (ii 20), (ii 0), (ii 80), (ii 0), (.slice none 0 0)] true, bx b_2 32 [(ii 0), (ii 25), (ii 1), (ii 0), (.slice none 0 0), (ii 0), (ii 2), (ii 100), (ii 1), (.slice (some ⟨bi1, 0, none⟩) 2 2), (.slice (some ⟨be1, 0, none⟩) 1 1), (.slice none 0 0), (.slice none 0 0)] true, bx bi1 38 [(ii 1), (ii 5), (ii 10), (ii 0), (ii 0), (ii 2), (ii 2), (ii 20), (ii 0), (ii 0)] true, bx be1 43 [(ii 5), (ii 2), (ii 20), (ii 0), (ii 80), (ii 0), (.slice none 0 0)] true] rfl fun w_8 a H HP => ?_
 refine nl (tn (sq (rg ?_)))
 refine H.v 23 (pt b_6 10) fun a H => H.u 24 (.slice (some ⟨be2, 0, none⟩) 1 1) (ex_l1 (HP.cell 0 rfl 10 rfl)) fun a H => H.u 25 (pt be2 0) (ex_index (b := be2) (off := 0) (len := 1) (cap := 1) (e := 43) (k := 7) (ik := .i64) (i := 0) (m := 0) (by kernel_rfl) (by kernel_rfl) (by omega) (by omega) (by kernel_rfl) (by kernel_rfl)) fun a H => H.v 26 (pt be2 4) fun a H => H.st HP 2 be2 4 1 43 true (ii 81) [bx b_6 32 [(ii 0), (ii 25), (ii 1), (ii 0), (.slice none 0 0), (ii 0), (ii 2), (ii 100), (ii 1), (.slice (some ⟨bi2, 0, none⟩) 2 2), (.slice (some ⟨be2, 0, none⟩) 1 1), (.slice none 0 0), (.slice none 0 0)] true, bx bi2 38 [(ii 1), (ii 5), (ii 10), (ii 0), (ii 0), (ii 2), (ii 2), (ii 20), (ii 0), (ii 0)] true, bx be2 43 [(ii 5), (ii 2), (ii 20), (ii 0), (ii 81), (ii 0), (.slice none 0 0)] true, bx b_2 32 [(ii 0), (ii 25), (ii 1), (ii 0), (.slice none 0 0), (ii 0), (ii 2), (ii 100), (ii 1), (.slice (some ⟨bi1, 0, none⟩) 2 2), (.slice (some ⟨be1, 0, none⟩) 1 1), (.slice none 0 0), (.slice none 0 0)] true, bx bi1 38 [(ii 1), (ii 5), (ii 10), (ii 0), (ii 0), (ii 2), (ii 2), (ii 20), (ii 0), (ii 0)] true, bx be1 43 [(ii 5), (ii 2), (ii 20), (ii 0), (ii 80), (ii 0), (.slice none 0 0)] true] rfl fun w_9 a H HP => ?_
 refine nl (tn (sq (rg ?_)))
 refine H.cl 27 (Tryz.call30 _ _) (example_any w_9) ?_
 rintro e w_10 ⟨bi3, be3, rfl, hx1, hx2, hn1, hn2, hne, hb⟩
 refine ⟨_, rfl, ?_⟩
 intro a H
 have HP := HP.gain2 hb hx1 hx2 hn1 hn2 hne
 refine H.al HP 3 32 [(ii 0), (ii 0), (ii 0), (ii 0), (.slice none 0 0), (ii 0), (ii 0), (ii 0), (ii 0), (.slice none 0 0), (.slice none 0 0), (.slice none 0 0), (.slice none 0 0)] fun b_11 w_12 a H HP => H.st HP 0 b_11 0 13 32 true (.agg #[(ii 0), (ii 25), (ii 1), (ii 0), (.slice none 0 0), (ii 0), (ii 2), (ii 100), (ii 1), (.slice (some ⟨bi3, 0, none⟩) 2 2), (.slice (some ⟨be3, 0, none⟩) 1 1), (.slice none 0 0), (.slice none 0 0)]) [bx b_11 32 [(ii 0), (ii 25), (ii 1), (ii 0), (.slice none 0 0), (ii 0), (ii 2), (ii 100), (ii 1), (.slice (some ⟨bi3, 0, none⟩) 2 2), (.slice (some ⟨be3, 0, none⟩) 1 1), (.slice none 0 0), (.slice none 0 0)] true, bx bi3 38 [(ii 1), (ii 5), (ii 10), (ii 0), (ii 0), (ii 2), (ii 2), (ii 20), (ii 0), (ii 0)] true, bx be3 43 [(ii 5), (ii 2), (ii 20), (ii 0), (ii 80), (ii 0), (.slice none 0 0)] true, bx b_6 32 [(ii 0), (ii 25), (ii 1), (ii 0), (.slice none 0 0), (ii 0), (ii 2), (ii 100), (ii 1), (.slice (some ⟨bi2, 0, none⟩) 2 2), (.slice (some ⟨be2, 0, none⟩) 1 1), (.slice none 0 0), (.slice none 0 0)] true, bx bi2 38 [(ii 1), (ii 5), (ii 10), (ii 0), (ii 0), (ii 2), (ii 2), (ii 20), (ii 0), (ii 0)] true, bx be2 43 [(ii 5), (ii 2), (ii 20), (ii 0), (ii 81), (ii 0), (.slice none 0 0)] true, bx b_2 32 [(ii 0), (ii 25), (ii 1), (ii 0), (.slice none 0 0), (ii 0), (ii 2), (ii 100), (ii 1), (.slice (some ⟨bi1, 0, none⟩) 2 2), (.slice (some ⟨be1, 0, none⟩) 1 1), (.slice none 0 0), (.slice none 0 0)] true, bx bi1 38 [(ii 1), (ii 5), (ii 10), (ii 0), (ii 0), (ii 2), (ii 2), (ii 20), (ii 0), (ii 0)] true, bx be1 43 [(ii 5), (ii 2), (ii 20), (ii 0), (ii 80), (ii 0), (.slice none 0 0)] true] rfl fun w_13 a H HP => ?_
 refine nl (tn (sq (rg ?_)))
 refine H.v 28 (.agg #[(ii 1), (ii 2), (ii 1), (ii 0), (ii 50), (ii 90), (ii 0)]) fun a H => H.alloc HP 29 (fun b => (.slice (some ⟨b, 0, none⟩) 1 1)) 47 [(ii 1), (ii 2), (ii 1), (ii 0), (ii 50), (ii 90), (ii 0)] (by kernel_rfl) (fun w => by kernel_rfl) fun b_14 w_15 a H HP => H.v 30 (pt b_11 11) fun a H => H.st HP 1 b_11 11 1 32 true (.slice (some ⟨b_14, 0, none⟩) 1 1) [bx b_14 47 [(ii 1), (ii 2), (ii 1), (ii 0), (ii 50), (ii 90), (ii 0)] true, bx b_11 32 [(ii 0), (ii 25), (ii 1), (ii 0), (.slice none 0 0), (ii 0), (ii 2), (ii 100), (ii 1), (.slice (some ⟨bi3, 0, none⟩) 2 2), (.slice (some ⟨be3, 0, none⟩) 1 1), (.slice (some ⟨b_14, 0, none⟩) 1 1), (.slice none 0 0)] true, bx bi3 38 [(ii 1), (ii 5), (ii 10), (ii 0), (ii 0), (ii 2), (ii 2), (ii 20), (ii 0), (ii 0)] true, bx be3 43 [(ii 5), (ii 2), (ii 20), (ii 0), (ii 80), (ii 0), (.slice none 0 0)] true, bx b_6 32 [(ii 0), (ii 25), (ii 1), (ii 0), (.slice none 0 0), (ii 0), (ii 2), (ii 100), (ii 1), (.slice (some ⟨bi2, 0, none⟩) 2 2), (.slice (some ⟨be2, 0, none⟩) 1 1), (.slice none 0 0), (.slice none 0 0)] true, bx bi2 38 [(ii 1), (ii 5), (ii 10), (ii 0), (ii 0), (ii 2), (ii 2), (ii 20), (ii 0), (ii 0)] true, bx be2 43 [(ii 5), (ii 2), (ii 20), (ii 0), (ii 81), (ii 0), (.slice none 0 0)] true, bx b_2 32 [(ii 0), (ii 25), (ii 1), (ii 0), (.slice none 0 0), (ii 0), (ii 2), (ii 100), (ii 1), (.slice (some ⟨bi1, 0, none⟩) 2 2), (.slice (some ⟨be1, 0, none⟩) 1 1), (.slice none 0 0), (.slice none 0 0)] true, bx bi1 38 [(ii 1), (ii 5), (ii 10), (ii 0), (ii 0), (ii 2), (ii 2), (ii 20), (ii 0), (ii 0)] true, bx be1 43 [(ii 5), (ii 2), (ii 20), (ii 0), (ii 80), (ii 0), (.slice none 0 0)] true] rfl fun w_16 a H HP => ?_
 refine nl (tn (sq (rg ?_)))
 refine H.u 31 (.agg #[(ii 0), (ii 25), (ii 1), (ii 0), (.slice none 0 0), (ii 0), (ii 2), (ii 100), (ii 1), (.slice (some ⟨bi3, 0, none⟩) 2 2), (.slice (some ⟨be3, 0, none⟩) 1 1), (.slice (some ⟨b_14, 0, none⟩) 1 1), (.slice none 0 0)]) (ex_lN [(ii 0), (ii 25), (ii 1), (ii 0), (.slice none 0 0), (ii 0), (ii 2), (ii 100), (ii 1), (.slice (some ⟨bi3, 0, none⟩) 2 2), (.slice (some ⟨be3, 0, none⟩) 1 1), (.slice (some ⟨b_14, 0, none⟩) 1 1), (.slice none 0 0)] (HP.cells 1 rfl 0 13 (by kernel_rfl))) fun a H => H.cb HP 32 (Tryz.call14 _ _) ((by have hh := valid_any (exPl bi3 be3 80 0 (some ⟨b_14, 0, none⟩) 1 [⟨1, 2, 1, 0, 50, 90, 0⟩]) w_16 (isExB (HP.at_ 2 rfl) (HP.at_ 3 rfl) (HP.at_ 0 rfl)) (hL.below HP.bl).rates; rw [show validPl (exPl bi3 be3 80 0 (some ⟨b_14, 0, none⟩) 1 [⟨1, 2, 1, 0, 50, 90, 0⟩]) = true from by kernel_rfl] at hh; exact hh)) fun w_17 hb a H HP => H.v 4 (.bool true) fun a H => ?_
 refine nl (tn (sq (rg ?_)))
 refine H.v 33 (pt b_11 10) fun a H => H.u 34 (.slice (some ⟨be3, 0, none⟩) 1 1) (ex_l1 (HP.cell 1 rfl 10 rfl)) fun a H => H.u 35 (pt be3 0) (ex_index (b := be3) (off := 0) (len := 1) (cap := 1) (e := 43) (k := 7) (ik := .i64) (i := 0) (m := 0) (by kernel_rfl) (by kernel_rfl) (by omega) (by omega) (by kernel_rfl) (by kernel_rfl)) fun a H => H.v 36 (pt be3 5) fun a H => H.st HP 3 be3 5 1 43 true (ii 1) [bx b_14 47 [(ii 1), (ii 2), (ii 1), (ii 0), (ii 50), (ii 90), (ii 0)] true, bx b_11 32 [(ii 0), (ii 25), (ii 1), (ii 0), (.slice none 0 0), (ii 0), (ii 2), (ii 100), (ii 1), (.slice (some ⟨bi3, 0, none⟩) 2 2), (.slice (some ⟨be3, 0, none⟩) 1 1), (.slice (some ⟨b_14, 0, none⟩) 1 1), (.slice none 0 0)] true, bx bi3 38 [(ii 1), (ii 5), (ii 10), (ii 0), (ii 0), (ii 2), (ii 2), (ii 20), (ii 0), (ii 0)] true, bx be3 43 [(ii 5), (ii 2), (ii 20), (ii 0), (ii 80), (ii 1), (.slice none 0 0)] true, bx b_6 32 [(ii 0), (ii 25), (ii 1), (ii 0), (.slice none 0 0), (ii 0), (ii 2), (ii 100), (ii 1), (.slice (some ⟨bi2, 0, none⟩) 2 2), (.slice (some ⟨be2, 0, none⟩) 1 1), (.slice none 0 0), (.slice none 0 0)] true, bx bi2 38 [(ii 1), (ii 5), (ii 10), (ii 0), (ii 0), (ii 2), (ii 2), (ii 20), (ii 0), (ii 0)] true, bx be2 43 [(ii 5), (ii 2), (ii 20), (ii 0), (ii 81), (ii 0), (.slice none 0 0)] true, bx b_2 32 [(ii 0), (ii 25), (ii 1), (ii 0), (.slice none 0 0), (ii 0), (ii 2), (ii 100), (ii 1), (.slice (some ⟨bi1, 0, none⟩) 2 2), (.slice (some ⟨be1, 0, none⟩) 1 1), (.slice none 0 0), (.slice none 0 0)] true, bx bi1 38 [(ii 1), (ii 5), (ii 10), (ii 0), (ii 0), (ii 2), (ii 2), (ii 20), (ii 0), (ii 0)] true, bx be1 43 [(ii 5), (ii 2), (ii 20), (ii 0), (ii 80), (ii 0), (.slice none 0 0)] true] rfl fun w_18 a H HP => ?_
 refine nl (tn (sq (rg ?_)))
 refine H.u 38 (.agg #[(ii 0), (ii 25), (ii 1), (ii 0), (.slice none 0 0), (ii 0), (ii 2), (ii 100), (ii 1), (.slice (some ⟨bi1, 0, none⟩) 2 2), (.slice (some ⟨be1, 0, none⟩) 1 1), (.slice none 0 0), (.slice none 0 0)]) (ex_lN [(ii 0), (ii 25), (ii 1), (ii 0), (.slice none 0 0), (ii 0), (ii 2), (ii 100), (ii 1), (.slice (some ⟨bi1, 0, none⟩) 2 2), (.slice (some ⟨be1, 0, none⟩) 1 1), (.slice none 0 0), (.slice none 0 0)] (HP.cells 7 rfl 0 13 (by kernel_rfl))) fun a H => H.cb HP 39 (Tryz.call25 _ _) ((by have hh := encode_any (exPl bi1 be1 80 0 none 0 []) w_18 (isEx (HP.at_ 8 rfl) (HP.at_ 9 rfl)) (hL.below HP.bl).rates; rw [show encV (exPl bi1 be1 80 0 none 0 []) = .tuple #[.string (bstr exS), .int .i64 0] from by kernel_rfl] at hh; exact hh)) fun w_19 hb a H HP => H.v 37 (.tuple #[(.string (bstr exS)), (ii 0)]) fun a H => H.v 40 (.string (bstr exS)) fun a H => H.v 41 (ii 0) fun a H => H.v 5 (.string (bstr exS)) fun a H => H.v 6 (ii 0) fun a H => ?_
 refine nl (tn (sq (rg ?_)))
 refine H.v 43 (.string (bstr exS)) fun a H => ?_
 have hlt0 := HP.lt
 refine H.cl 44 (Tryz.call27 _ _) ((by have hh := decode_any a0 a1 exS w_19 (hL.below HP.bl) (by decide +kernel); unfold DecPost at hh; simp only [dec_exS] at hh; exact hh)) ?_
 rintro e w_20 ⟨pd, rfl, hnv, hpd, hnew, hb⟩
 refine ⟨_, rfl, ?_⟩
 intro a H
 have HP := HP.next hb
 have HP := HP.keepF (plnK pd) hpd (plnK_ok pd) (fun j hj => ⟨hpd.lt j hj, fun y hy hyk => by simp only [List.mem_cons, List.not_mem_nil, or_false] at hy; rcases hy with rfl | rfl | rfl | rfl | rfl | rfl | rfl | rfl | rfl | rfl <;> (first | exact Nat.lt_irrefl _ (Nat.lt_of_lt_of_le (hlt0 _ (List.mem_of_getElem? (i := 0) rfl) j hyk) (hnew j hj)) | exact Nat.lt_irrefl _ (Nat.lt_of_lt_of_le (hlt0 _ (List.mem_of_getElem? (i := 1) rfl) j hyk) (hnew j hj)) | exact Nat.lt_irrefl _ (Nat.lt_of_lt_of_le (hlt0 _ (List.mem_of_getElem? (i := 2) rfl) j hyk) (hnew j hj)) | exact Nat.lt_irrefl _ (Nat.lt_of_lt_of_le (hlt0 _ (List.mem_of_getElem? (i := 3) rfl) j hyk) (hnew j hj)) | exact Nat.lt_irrefl _ (Nat.lt_of_lt_of_le (hlt0 _ (List.mem_of_getElem? (i := 4) rfl) j hyk) (hnew j hj)) | exact Nat.lt_irrefl _ (Nat.lt_of_lt_of_le (hlt0 _ (List.mem_of_getElem? (i := 5) rfl) j hyk) (hnew j hj)) | exact Nat.lt_irrefl _ (Nat.lt_of_lt_of_le (hlt0 _ (List.mem_of_getElem? (i := 6) rfl) j hyk) (hnew j hj)) | exact Nat.lt_irrefl _ (Nat.lt_of_lt_of_le (hlt0 _ (List.mem_of_getElem? (i := 7) rfl) j hyk) (hnew j hj)) | exact Nat.lt_irrefl _ (Nat.lt_of_lt_of_le (hlt0 _ (List.mem_of_getElem? (i := 8) rfl) j hyk) (hnew j hj)) | exact Nat.lt_irrefl _ (Nat.lt_of_lt_of_le (hlt0 _ (List.mem_of_getElem? (i := 9) rfl) j hyk) (hnew j hj)))⟩)
 refine H.v 42 (.tuple #[(plV pd), (ii 0)]) fun a H => H.v 45 (plV pd) fun a H => H.v 46 (ii 0) fun a H => H.al HP 7 32 [(ii 0), (ii 0), (ii 0), (ii 0), (.slice none 0 0), (ii 0), (ii 0), (ii 0), (ii 0), (.slice none 0 0), (.slice none 0 0), (.slice none 0 0), (.slice none 0 0)] fun b_21 w_22 a H HP => H.st HP 0 b_21 0 13 32 true (plV pd) [bx b_21 32 (plL pd) true, bx b_14 47 [(ii 1), (ii 2), (ii 1), (ii 0), (ii 50), (ii 90), (ii 0)] true, bx b_11 32 [(ii 0), (ii 25), (ii 1), (ii 0), (.slice none 0 0), (ii 0), (ii 2), (ii 100), (ii 1), (.slice (some ⟨bi3, 0, none⟩) 2 2), (.slice (some ⟨be3, 0, none⟩) 1 1), (.slice (some ⟨b_14, 0, none⟩) 1 1), (.slice none 0 0)] true, bx bi3 38 [(ii 1), (ii 5), (ii 10), (ii 0), (ii 0), (ii 2), (ii 2), (ii 20), (ii 0), (ii 0)] true, bx be3 43 [(ii 5), (ii 2), (ii 20), (ii 0), (ii 80), (ii 1), (.slice none 0 0)] true, bx b_6 32 [(ii 0), (ii 25), (ii 1), (ii 0), (.slice none 0 0), (ii 0), (ii 2), (ii 100), (ii 1), (.slice (some ⟨bi2, 0, none⟩) 2 2), (.slice (some ⟨be2, 0, none⟩) 1 1), (.slice none 0 0), (.slice none 0 0)] true, bx bi2 38 [(ii 1), (ii 5), (ii 10), (ii 0), (ii 0), (ii 2), (ii 2), (ii 20), (ii 0), (ii 0)] true, bx be2 43 [(ii 5), (ii 2), (ii 20), (ii 0), (ii 81), (ii 0), (.slice none 0 0)] true, bx b_2 32 [(ii 0), (ii 25), (ii 1), (ii 0), (.slice none 0 0), (ii 0), (ii 2), (ii 100), (ii 1), (.slice (some ⟨bi1, 0, none⟩) 2 2), (.slice (some ⟨be1, 0, none⟩) 1 1), (.slice none 0 0), (.slice none 0 0)] true, bx bi1 38 [(ii 1), (ii 5), (ii 10), (ii 0), (ii 0), (ii 2), (ii 2), (ii 20), (ii 0), (ii 0)] true, bx be1 43 [(ii 5), (ii 2), (ii 20), (ii 0), (ii 80), (ii 0), (.slice none 0 0)] true] rfl fun w_23 a H HP => H.v 8 (ii 0) fun a H => ?_
 refine nl (tn (sq (rg ?_)))
 refine H.u 48 (.agg #[(ii 0), (ii 25), (ii 1), (ii 0), (.slice none 0 0), (ii 0), (ii 2), (ii 100), (ii 1), (.slice (some ⟨bi2, 0, none⟩) 2 2), (.slice (some ⟨be2, 0, none⟩) 1 1), (.slice none 0 0), (.slice none 0 0)]) (ex_lN [(ii 0), (ii 25), (ii 1), (ii 0), (.slice none 0 0), (ii 0), (ii 2), (ii 100), (ii 1), (.slice (some ⟨bi2, 0, none⟩) 2 2), (.slice (some ⟨be2, 0, none⟩) 1 1), (.slice none 0 0), (.slice none 0 0)] (HP.cells 5 rfl 0 13 (by kernel_rfl))) fun a H => H.cb HP 49 (Tryz.call25 _ _) ((by have hh := encode_any (exPl bi2 be2 81 0 none 0 []) w_23 (isEx (HP.at_ 6 rfl) (HP.at_ 7 rfl)) (hL.below HP.bl).rates; rw [show encV (exPl bi2 be2 81 0 none 0 []) = .tuple #[.string (bstr []), .int .i64 80] from by kernel_rfl] at hh; exact hh)) fun w_24 hb a H HP => H.v 47 (.tuple #[(.string (bstr ([]))), (ii 80)]) fun a H => H.v 50 (.string (bstr ([]))) fun a H => H.v 51 (ii 80) fun a H => H.v 9 (.string (bstr ([]))) fun a H => H.v 10 (ii 80) fun a H => ?_
 refine nl (tn (sq (rg ?_)))
 refine H.cl 53 (Tryz.call27 _ _) ((by have hh := decode_any a0 a1 [] w_24 (hL.below HP.bl) (by decide); unfold DecPost at hh; simp only [dec_nil] at hh; exact hh)) ?_
 rintro e w_25 ⟨p2, rfl, _, _, _, hb⟩
 refine ⟨_, rfl, ?_⟩
 intro a H
 have HP := HP.next hb
 refine H.v 52 (.tuple #[(plV p2), (ii 10)]) fun a H => H.v 54 (plV p2) fun a H => H.v 55 (ii 10) fun a H => H.al HP 11 32 [(ii 0), (ii 0), (ii 0), (ii 0), (.slice none 0 0), (ii 0), (ii 0), (ii 0), (ii 0), (.slice none 0 0), (.slice none 0 0), (.slice none 0 0), (.slice none 0 0)] fun b_26 w_27 a H HP => H.st HP 0 b_26 0 13 32 true (plV p2) [bx b_26 32 (plL p2) true, bx b_21 32 (plL pd) true, bx b_14 47 [(ii 1), (ii 2), (ii 1), (ii 0), (ii 50), (ii 90), (ii 0)] true, bx b_11 32 [(ii 0), (ii 25), (ii 1), (ii 0), (.slice none 0 0), (ii 0), (ii 2), (ii 100), (ii 1), (.slice (some ⟨bi3, 0, none⟩) 2 2), (.slice (some ⟨be3, 0, none⟩) 1 1), (.slice (some ⟨b_14, 0, none⟩) 1 1), (.slice none 0 0)] true, bx bi3 38 [(ii 1), (ii 5), (ii 10), (ii 0), (ii 0), (ii 2), (ii 2), (ii 20), (ii 0), (ii 0)] true, bx be3 43 [(ii 5), (ii 2), (ii 20), (ii 0), (ii 80), (ii 1), (.slice none 0 0)] true, bx b_6 32 [(ii 0), (ii 25), (ii 1), (ii 0), (.slice none 0 0), (ii 0), (ii 2), (ii 100), (ii 1), (.slice (some ⟨bi2, 0, none⟩) 2 2), (.slice (some ⟨be2, 0, none⟩) 1 1), (.slice none 0 0), (.slice none 0 0)] true, bx bi2 38 [(ii 1), (ii 5), (ii 10), (ii 0), (ii 0), (ii 2), (ii 2), (ii 20), (ii 0), (ii 0)] true, bx be2 43 [(ii 5), (ii 2), (ii 20), (ii 0), (ii 81), (ii 0), (.slice none 0 0)] true, bx b_2 32 [(ii 0), (ii 25), (ii 1), (ii 0), (.slice none 0 0), (ii 0), (ii 2), (ii 100), (ii 1), (.slice (some ⟨bi1, 0, none⟩) 2 2), (.slice (some ⟨be1, 0, none⟩) 1 1), (.slice none 0 0), (.slice none 0 0)] true, bx bi1 38 [(ii 1), (ii 5), (ii 10), (ii 0), (ii 0), (ii 2), (ii 2), (ii 20), (ii 0), (ii 0)] true, bx be1 43 [(ii 5), (ii 2), (ii 20), (ii 0), (ii 80), (ii 0), (.slice none 0 0)] true] rfl fun w_28 a H HP => H.v 12 (ii 10) fun a H => ?_
 refine nl (tn (sq (rg ?_)))
 refine H.u 57 (.agg #[(ii 0), (ii 25), (ii 1), (ii 0), (.slice none 0 0), (ii 0), (ii 2), (ii 100), (ii 1), (.slice (some ⟨bi1, 0, none⟩) 2 2), (.slice (some ⟨be1, 0, none⟩) 1 1), (.slice none 0 0), (.slice none 0 0)]) (ex_lN [(ii 0), (ii 25), (ii 1), (ii 0), (.slice none 0 0), (ii 0), (ii 2), (ii 100), (ii 1), (.slice (some ⟨bi1, 0, none⟩) 2 2), (.slice (some ⟨be1, 0, none⟩) 1 1), (.slice none 0 0), (.slice none 0 0)] (HP.cells 9 rfl 0 13 (by kernel_rfl))) fun a H => H.cb HP 58 (Tryz.call18 _ _) (item_any (exPl bi1 be1 80 0 none 0 []) 2 w_28 (isEx (HP.at_ 10 rfl) (HP.at_ 11 rfl))) fun w_29 hb a H HP => H.v 56 (.tuple #[(.agg #[(ii 2), (ii 2), (ii 20), (ii 0), (ii 0)]), (.bool true)]) fun a H => H.v 59 (.agg #[(ii 2), (ii 2), (ii 20), (ii 0), (ii 0)]) fun a H => H.v 60 (.bool true) fun a H => H.al HP 13 38 [(ii 0), (ii 0), (ii 0), (ii 0), (ii 0)] fun b_30 w_31 a H HP => H.st HP 0 b_30 0 5 38 true (.agg #[(ii 2), (ii 2), (ii 20), (ii 0), (ii 0)]) [bx b_30 38 [(ii 2), (ii 2), (ii 20), (ii 0), (ii 0)] true, bx b_26 32 (plL p2) true, bx b_21 32 (plL pd) true, bx b_14 47 [(ii 1), (ii 2), (ii 1), (ii 0), (ii 50), (ii 90), (ii 0)] true, bx b_11 32 [(ii 0), (ii 25), (ii 1), (ii 0), (.slice none 0 0), (ii 0), (ii 2), (ii 100), (ii 1), (.slice (some ⟨bi3, 0, none⟩) 2 2), (.slice (some ⟨be3, 0, none⟩) 1 1), (.slice (some ⟨b_14, 0, none⟩) 1 1), (.slice none 0 0)] true, bx bi3 38 [(ii 1), (ii 5), (ii 10), (ii 0), (ii 0), (ii 2), (ii 2), (ii 20), (ii 0), (ii 0)] true, bx be3 43 [(ii 5), (ii 2), (ii 20), (ii 0), (ii 80), (ii 1), (.slice none 0 0)] true, bx b_6 32 [(ii 0), (ii 25), (ii 1), (ii 0), (.slice none 0 0), (ii 0), (ii 2), (ii 100), (ii 1), (.slice (some ⟨bi2, 0, none⟩) 2 2), (.slice (some ⟨be2, 0, none⟩) 1 1), (.slice none 0 0), (.slice none 0 0)] true, bx bi2 38 [(ii 1), (ii 5), (ii 10), (ii 0), (ii 0), (ii 2), (ii 2), (ii 20), (ii 0), (ii 0)] true, bx be2 43 [(ii 5), (ii 2), (ii 20), (ii 0), (ii 81), (ii 0), (.slice none 0 0)] true, bx b_2 32 [(ii 0), (ii 25), (ii 1), (ii 0), (.slice none 0 0), (ii 0), (ii 2), (ii 100), (ii 1), (.slice (some ⟨bi1, 0, none⟩) 2 2), (.slice (some ⟨be1, 0, none⟩) 1 1), (.slice none 0 0), (.slice none 0 0)] true, bx bi1 38 [(ii 1), (ii 5), (ii 10), (ii 0), (ii 0), (ii 2), (ii 2), (ii 20), (ii 0), (ii 0)] true, bx be1 43 [(ii 5), (ii 2), (ii 20), (ii 0), (ii 80), (ii 0), (.slice none 0 0)] true] rfl fun w_32 a H HP => H.v 14 (.bool true) fun a H => ?_
 refine nl (tn (sq (rg ?_)))
 refine H.u 62 (.agg #[(ii 0), (ii 25), (ii 1), (ii 0), (.slice none 0 0), (ii 0), (ii 2), (ii 100), (ii 1), (.slice (some ⟨bi1, 0, none⟩) 2 2), (.slice (some ⟨be1, 0, none⟩) 1 1), (.slice none 0 0), (.slice none 0 0)]) (ex_lN [(ii 0), (ii 25), (ii 1), (ii 0), (.slice none 0 0), (ii 0), (ii 2), (ii 100), (ii 1), (.slice (some ⟨bi1, 0, none⟩) 2 2), (.slice (some ⟨be1, 0, none⟩) 1 1), (.slice none 0 0), (.slice none 0 0)] (HP.cells 10 rfl 0 13 (by kernel_rfl))) fun a H => ?_
 refine H.cl 63 (Tryz.call20 _ _) (entry_any (exPl bi1 be1 80 0 none 0 []) 2 w_32 (isEx (HP.at_ 11 rfl) (HP.at_ 12 rfl)) (by first | decide | exact (by decide : (0:Nat) ≤ 1000000000))) ?_
 rintro e w_35 ⟨Be_33, ce_34, rfl, _, hb⟩
 refine ⟨_, rfl, ?_⟩
 intro a H
 have HP := HP.next hb
 refine H.v 61 (.tuple #[(.agg #[(ii 0), (ii 0), (ii 0), (ii 0), (ii 0), (ii 0), (.slice Be_33 0 ce_34)]), (.bool false)]) fun a H => H.v 64 (.agg #[(ii 0), (ii 0), (ii 0), (ii 0), (ii 0), (ii 0), (.slice Be_33 0 ce_34)]) fun a H => H.v 65 (.bool false) fun a H => H.al HP 15 43 [(ii 0), (ii 0), (ii 0), (ii 0), (ii 0), (ii 0), (.slice none 0 0)] fun b_36 w_37 a H HP => H.st HP 0 b_36 0 7 43 true (.agg #[(ii 0), (ii 0), (ii 0), (ii 0), (ii 0), (ii 0), (.slice Be_33 0 ce_34)]) [bx b_36 43 [(ii 0), (ii 0), (ii 0), (ii 0), (ii 0), (ii 0), (.slice Be_33 0 ce_34)] true, bx b_30 38 [(ii 2), (ii 2), (ii 20), (ii 0), (ii 0)] true, bx b_26 32 (plL p2) true, bx b_21 32 (plL pd) true, bx b_14 47 [(ii 1), (ii 2), (ii 1), (ii 0), (ii 50), (ii 90), (ii 0)] true, bx b_11 32 [(ii 0), (ii 25), (ii 1), (ii 0), (.slice none 0 0), (ii 0), (ii 2), (ii 100), (ii 1), (.slice (some ⟨bi3, 0, none⟩) 2 2), (.slice (some ⟨be3, 0, none⟩) 1 1), (.slice (some ⟨b_14, 0, none⟩) 1 1), (.slice none 0 0)] true, bx bi3 38 [(ii 1), (ii 5), (ii 10), (ii 0), (ii 0), (ii 2), (ii 2), (ii 20), (ii 0), (ii 0)] true, bx be3 43 [(ii 5), (ii 2), (ii 20), (ii 0), (ii 80), (ii 1), (.slice none 0 0)] true, bx b_6 32 [(ii 0), (ii 25), (ii 1), (ii 0), (.slice none 0 0), (ii 0), (ii 2), (ii 100), (ii 1), (.slice (some ⟨bi2, 0, none⟩) 2 2), (.slice (some ⟨be2, 0, none⟩) 1 1), (.slice none 0 0), (.slice none 0 0)] true, bx bi2 38 [(ii 1), (ii 5), (ii 10), (ii 0), (ii 0), (ii 2), (ii 2), (ii 20), (ii 0), (ii 0)] true, bx be2 43 [(ii 5), (ii 2), (ii 20), (ii 0), (ii 81), (ii 0), (.slice none 0 0)] true, bx b_2 32 [(ii 0), (ii 25), (ii 1), (ii 0), (.slice none 0 0), (ii 0), (ii 2), (ii 100), (ii 1), (.slice (some ⟨bi1, 0, none⟩) 2 2), (.slice (some ⟨be1, 0, none⟩) 1 1), (.slice none 0 0), (.slice none 0 0)] true, bx bi1 38 [(ii 1), (ii 5), (ii 10), (ii 0), (ii 0), (ii 2), (ii 2), (ii 20), (ii 0), (ii 0)] true, bx be1 43 [(ii 5), (ii 2), (ii 20), (ii 0), (ii 80), (ii 0), (.slice none 0 0)] true] rfl fun w_38 a H HP => H.v 16 (.bool false) fun a H => ?_
 refine nl (tn (sq (rg ?_)))
 refine H.u 67 (.agg #[(ii 0), (ii 25), (ii 1), (ii 0), (.slice none 0 0), (ii 0), (ii 2), (ii 100), (ii 1), (.slice (some ⟨bi1, 0, none⟩) 2 2), (.slice (some ⟨be1, 0, none⟩) 1 1), (.slice none 0 0), (.slice none 0 0)]) (ex_lN [(ii 0), (ii 25), (ii 1), (ii 0), (.slice none 0 0), (ii 0), (ii 2), (ii 100), (ii 1), (.slice (some ⟨bi1, 0, none⟩) 2 2), (.slice (some ⟨be1, 0, none⟩) 1 1), (.slice none 0 0), (.slice none 0 0)] (HP.cells 11 rfl 0 13 (by kernel_rfl))) fun a H => ?_
 refine H.cl 68 (Tryz.call20 _ _) (entry_any (exPl bi1 be1 80 0 none 0 []) 5 w_38 (isEx (HP.at_ 12 rfl) (HP.at_ 13 rfl)) (by first | decide | exact (by decide : (0:Nat) ≤ 1000000000))) ?_
 rintro e w_41 ⟨Be_39, ce_40, rfl, _, hb⟩
 refine ⟨_, rfl, ?_⟩
 intro a H
 have HP := HP.next hb
 refine H.v 66 (.tuple #[(.agg #[(ii 5), (ii 2), (ii 20), (ii 0), (ii 80), (ii 0), (.slice Be_39 0 ce_40)]), (.bool true)]) fun a H => H.v 69 (.agg #[(ii 5), (ii 2), (ii 20), (ii 0), (ii 80), (ii 0), (.slice Be_39 0 ce_40)]) fun a H => H.v 70 (.bool true) fun a H => H.al HP 17 43 [(ii 0), (ii 0), (ii 0), (ii 0), (ii 0), (ii 0), (.slice none 0 0)] fun b_42 w_43 a H HP => H.st HP 0 b_42 0 7 43 true (.agg #[(ii 5), (ii 2), (ii 20), (ii 0), (ii 80), (ii 0), (.slice Be_39 0 ce_40)]) [bx b_42 43 [(ii 5), (ii 2), (ii 20), (ii 0), (ii 80), (ii 0), (.slice Be_39 0 ce_40)] true, bx b_36 43 [(ii 0), (ii 0), (ii 0), (ii 0), (ii 0), (ii 0), (.slice Be_33 0 ce_34)] true, bx b_30 38 [(ii 2), (ii 2), (ii 20), (ii 0), (ii 0)] true, bx b_26 32 (plL p2) true, bx b_21 32 (plL pd) true, bx b_14 47 [(ii 1), (ii 2), (ii 1), (ii 0), (ii 50), (ii 90), (ii 0)] true, bx b_11 32 [(ii 0), (ii 25), (ii 1), (ii 0), (.slice none 0 0), (ii 0), (ii 2), (ii 100), (ii 1), (.slice (some ⟨bi3, 0, none⟩) 2 2), (.slice (some ⟨be3, 0, none⟩) 1 1), (.slice (some ⟨b_14, 0, none⟩) 1 1), (.slice none 0 0)] true, bx bi3 38 [(ii 1), (ii 5), (ii 10), (ii 0), (ii 0), (ii 2), (ii 2), (ii 20), (ii 0), (ii 0)] true, bx be3 43 [(ii 5), (ii 2), (ii 20), (ii 0), (ii 80), (ii 1), (.slice none 0 0)] true, bx b_6 32 [(ii 0), (ii 25), (ii 1), (ii 0), (.slice none 0 0), (ii 0), (ii 2), (ii 100), (ii 1), (.slice (some ⟨bi2, 0, none⟩) 2 2), (.slice (some ⟨be2, 0, none⟩) 1 1), (.slice none 0 0), (.slice none 0 0)] true, bx bi2 38 [(ii 1), (ii 5), (ii 10), (ii 0), (ii 0), (ii 2), (ii 2), (ii 20), (ii 0), (ii 0)] true, bx be2 43 [(ii 5), (ii 2), (ii 20), (ii 0), (ii 81), (ii 0), (.slice none 0 0)] true, bx b_2 32 [(ii 0), (ii 25), (ii 1), (ii 0), (.slice none 0 0), (ii 0), (ii 2), (ii 100), (ii 1), (.slice (some ⟨bi1, 0, none⟩) 2 2), (.slice (some ⟨be1, 0, none⟩) 1 1), (.slice none 0 0), (.slice none 0 0)] true, bx bi1 38 [(ii 1), (ii 5), (ii 10), (ii 0), (ii 0), (ii 2), (ii 2), (ii 20), (ii 0), (ii 0)] true, bx be1 43 [(ii 5), (ii 2), (ii 20), (ii 0), (ii 80), (ii 0), (.slice none 0 0)] true] rfl fun w_44 a H HP => H.v 18 (.bool true) fun a H => ?_
 refine nl (tn (sq (rg ?_)))
 refine H.u 72 (.agg #[(ii 0), (ii 25), (ii 1), (ii 0), (.slice none 0 0), (ii 0), (ii 2), (ii 100), (ii 1), (.slice (some ⟨bi3, 0, none⟩) 2 2), (.slice (some ⟨be3, 0, none⟩) 1 1), (.slice (some ⟨b_14, 0, none⟩) 1 1), (.slice none 0 0)]) (ex_lN [(ii 0), (ii 25), (ii 1), (ii 0), (.slice none 0 0), (ii 0), (ii 2), (ii 100), (ii 1), (.slice (some ⟨bi3, 0, none⟩) 2 2), (.slice (some ⟨be3, 0, none⟩) 1 1), (.slice (some ⟨b_14, 0, none⟩) 1 1), (.slice none 0 0)] (HP.cells 6 rfl 0 13 (by kernel_rfl))) fun a H => H.cb HP 73 (Tryz.call22 _ _) (booking_any (exPl bi3 be3 80 1 (some ⟨b_14, 0, none⟩) 1 [⟨1, 2, 1, 0, 50, 90, 0⟩]) 1 w_44 (isExB (HP.at_ 7 rfl) (HP.at_ 8 rfl) (HP.at_ 5 rfl))) fun w_45 hb a H HP => H.v 71 (.tuple #[(.agg #[(ii 1), (ii 2), (ii 1), (ii 0), (ii 50), (ii 90), (ii 0)]), (.bool true)]) fun a H => H.v 74 (.agg #[(ii 1), (ii 2), (ii 1), (ii 0), (ii 50), (ii 90), (ii 0)]) fun a H => H.v 75 (.bool true) fun a H => H.al HP 19 47 [(ii 0), (ii 0), (ii 0), (ii 0), (ii 0), (ii 0), (ii 0)] fun b_46 w_47 a H HP => H.st HP 0 b_46 0 7 47 true (.agg #[(ii 1), (ii 2), (ii 1), (ii 0), (ii 50), (ii 90), (ii 0)]) [bx b_46 47 [(ii 1), (ii 2), (ii 1), (ii 0), (ii 50), (ii 90), (ii 0)] true, bx b_42 43 [(ii 5), (ii 2), (ii 20), (ii 0), (ii 80), (ii 0), (.slice Be_39 0 ce_40)] true, bx b_36 43 [(ii 0), (ii 0), (ii 0), (ii 0), (ii 0), (ii 0), (.slice Be_33 0 ce_34)] true, bx b_30 38 [(ii 2), (ii 2), (ii 20), (ii 0), (ii 0)] true, bx b_26 32 (plL p2) true, bx b_21 32 (plL pd) true, bx b_14 47 [(ii 1), (ii 2), (ii 1), (ii 0), (ii 50), (ii 90), (ii 0)] true, bx b_11 32 [(ii 0), (ii 25), (ii 1), (ii 0), (.slice none 0 0), (ii 0), (ii 2), (ii 100), (ii 1), (.slice (some ⟨bi3, 0, none⟩) 2 2), (.slice (some ⟨be3, 0, none⟩) 1 1), (.slice (some ⟨b_14, 0, none⟩) 1 1), (.slice none 0 0)] true, bx bi3 38 [(ii 1), (ii 5), (ii 10), (ii 0), (ii 0), (ii 2), (ii 2), (ii 20), (ii 0), (ii 0)] true, bx be3 43 [(ii 5), (ii 2), (ii 20), (ii 0), (ii 80), (ii 1), (.slice none 0 0)] true, bx b_6 32 [(ii 0), (ii 25), (ii 1), (ii 0), (.slice none 0 0), (ii 0), (ii 2), (ii 100), (ii 1), (.slice (some ⟨bi2, 0, none⟩) 2 2), (.slice (some ⟨be2, 0, none⟩) 1 1), (.slice none 0 0), (.slice none 0 0)] true, bx bi2 38 [(ii 1), (ii 5), (ii 10), (ii 0), (ii 0), (ii 2), (ii 2), (ii 20), (ii 0), (ii 0)] true, bx be2 43 [(ii 5), (ii 2), (ii 20), (ii 0), (ii 81), (ii 0), (.slice none 0 0)] true, bx b_2 32 [(ii 0), (ii 25), (ii 1), (ii 0), (.slice none 0 0), (ii 0), (ii 2), (ii 100), (ii 1), (.slice (some ⟨bi1, 0, none⟩) 2 2), (.slice (some ⟨be1, 0, none⟩) 1 1), (.slice none 0 0), (.slice none 0 0)] true, bx bi1 38 [(ii 1), (ii 5), (ii 10), (ii 0), (ii 0), (ii 2), (ii 2), (ii 20), (ii 0), (ii 0)] true, bx be1 43 [(ii 5), (ii 2), (ii 20), (ii 0), (ii 80), (ii 0), (.slice none 0 0)] true] rfl fun w_48 a H HP => H.v 20 (.bool true) fun a H => ?_
 refine nl (tn (sq (rg ?_)))
 refine H.u 76 (.agg #[(ii 0), (ii 25), (ii 1), (ii 0), (.slice none 0 0), (ii 0), (ii 2), (ii 100), (ii 1), (.slice (some ⟨bi1, 0, none⟩) 2 2), (.slice (some ⟨be1, 0, none⟩) 1 1), (.slice none 0 0), (.slice none 0 0)]) (ex_lN [(ii 0), (ii 25), (ii 1), (ii 0), (.slice none 0 0), (ii 0), (ii 2), (ii 100), (ii 1), (.slice (some ⟨bi1, 0, none⟩) 2 2), (.slice (some ⟨be1, 0, none⟩) 1 1), (.slice none 0 0), (.slice none 0 0)] (HP.cells 13 rfl 0 13 (by kernel_rfl))) fun a H => H.cb HP 77 (Tryz.call14 _ _) ((by have hh := valid_any (exPl bi1 be1 80 0 none 0 []) w_48 (isEx (HP.at_ 14 rfl) (HP.at_ 15 rfl)) (hL.below HP.bl).rates; rw [show validPl (exPl bi1 be1 80 0 none 0 []) = true from by kernel_rfl] at hh; exact hh)) fun w_49 hb a H HP => H.v 78 (.bool true) fun a H => H.u 79 (.agg #[(ii 0), (ii 25), (ii 1), (ii 0), (.slice none 0 0), (ii 0), (ii 2), (ii 100), (ii 1), (.slice (some ⟨bi2, 0, none⟩) 2 2), (.slice (some ⟨be2, 0, none⟩) 1 1), (.slice none 0 0), (.slice none 0 0)]) (ex_lN [(ii 0), (ii 25), (ii 1), (ii 0), (.slice none 0 0), (ii 0), (ii 2), (ii 100), (ii 1), (.slice (some ⟨bi2, 0, none⟩) 2 2), (.slice (some ⟨be2, 0, none⟩) 1 1), (.slice none 0 0), (.slice none 0 0)] (HP.cells 10 rfl 0 13 (by kernel_rfl))) fun a H => H.cb HP 80 (Tryz.call14 _ _) ((by have hh := valid_any (exPl bi2 be2 81 0 none 0 []) w_49 (isEx (HP.at_ 11 rfl) (HP.at_ 12 rfl)) (hL.below HP.bl).rates; rw [show validPl (exPl bi2 be2 81 0 none 0 []) = false from by kernel_rfl] at hh; exact hh)) fun w_50 hb a H HP => H.v 81 (.bool true) fun a H => H.v 82 (.bool true) fun a H => H.v 83 (.bool true) fun a H => H.v 84 (.bool true) fun a H => H.v 85 (.bool true) fun a H => H.v 86 (.bool true) fun a H => H.u 87 (.agg #[(ii 0), (ii 25), (ii 1), (ii 0), (.slice none 0 0), (ii 0), (ii 2), (ii 100), (ii 1), (.slice (some ⟨bi3, 0, none⟩) 2 2), (.slice (some ⟨be3, 0, none⟩) 1 1), (.slice (some ⟨b_14, 0, none⟩) 1 1), (.slice none 0 0)]) (ex_lN [(ii 0), (ii 25), (ii 1), (ii 0), (.slice none 0 0), (ii 0), (ii 2), (ii 100), (ii 1), (.slice (some ⟨bi3, 0, none⟩) 2 2), (.slice (some ⟨be3, 0, none⟩) 1 1), (.slice (some ⟨b_14, 0, none⟩) 1 1), (.slice none 0 0)] (HP.cells 7 rfl 0 13 (by kernel_rfl))) fun a H => H.cb HP 88 (Tryz.call14 _ _) ((by have hh := valid_any (exPl bi3 be3 80 1 (some ⟨b_14, 0, none⟩) 1 [⟨1, 2, 1, 0, 50, 90, 0⟩]) w_50 (isExB (HP.at_ 8 rfl) (HP.at_ 9 rfl) (HP.at_ 6 rfl)) (hL.below HP.bl).rates; rw [show validPl (exPl bi3 be3 80 1 (some ⟨b_14, 0, none⟩) 1 [⟨1, 2, 1, 0, 50, 90, 0⟩]) = false from by kernel_rfl] at hh; exact hh)) fun w_51 hb a H HP => H.v 89 (.bool true) fun a H => H.v 90 (.bool true) fun a H => H.v 91 (.bool true) fun a H => ?_
 refine H.v 92 (ii 0) fun a H => H.v 93 (.bool true) fun a H => H.v 94 (.bool true) fun a H => H.v 95 (.bool true) fun a H => H.v 96 (ii 0) fun a H => H.v 97 (.bool true) fun a H => H.v 98 (.bool true) fun a H => H.v 99 (.bool true) fun a H => H.u 100 (.agg #[(ii 0), (ii 25), (ii 1), (ii 0), (.slice none 0 0), (ii 0), (ii 2), (ii 100), (ii 1), (.slice (some ⟨bi1, 0, none⟩) 2 2), (.slice (some ⟨be1, 0, none⟩) 1 1), (.slice none 0 0), (.slice none 0 0)]) (ex_lN [(ii 0), (ii 25), (ii 1), (ii 0), (.slice none 0 0), (ii 0), (ii 2), (ii 100), (ii 1), (.slice (some ⟨bi1, 0, none⟩) 2 2), (.slice (some ⟨be1, 0, none⟩) 1 1), (.slice none 0 0), (.slice none 0 0)] (HP.cells 13 rfl 0 13 (by kernel_rfl))) fun a H => H.u 101 (plV pd) (ex_lN (plL pd) (HP.cells 5 rfl 0 13 (by kernel_rfl))) fun a H => H.cb HP 102 (Tryz.call16 _ _) ((by have hh := same_any (exPl bi1 be1 80 0 none 0 []) pd w_51 (isEx (HP.at_ 14 rfl) (HP.at_ 15 rfl)) (HP.fact 0 rfl : IsPln _ pd); rw [show decide ((exPl bi1 be1 80 0 none 0 []).nv = pd.nv) = true from (by rw [hnv]; exact decide_eq_true rfl)] at hh; exact hh)) fun w_52 hb a H HP => H.v 103 (.bool true) fun a H => H.v 104 (.bool true) fun a H => H.u 105 (.agg #[(ii 0), (ii 25), (ii 1), (ii 0), (.slice none 0 0), (ii 0), (ii 2), (ii 100), (ii 1), (.slice (some ⟨bi1, 0, none⟩) 2 2), (.slice (some ⟨be1, 0, none⟩) 1 1), (.slice none 0 0), (.slice none 0 0)]) (ex_lN [(ii 0), (ii 25), (ii 1), (ii 0), (.slice none 0 0), (ii 0), (ii 2), (ii 100), (ii 1), (.slice (some ⟨bi1, 0, none⟩) 2 2), (.slice (some ⟨be1, 0, none⟩) 1 1), (.slice none 0 0), (.slice none 0 0)] (HP.cells 13 rfl 0 13 (by kernel_rfl))) fun a H => H.u 106 (.agg #[(ii 0), (ii 25), (ii 1), (ii 0), (.slice none 0 0), (ii 0), (ii 2), (ii 100), (ii 1), (.slice (some ⟨bi2, 0, none⟩) 2 2), (.slice (some ⟨be2, 0, none⟩) 1 1), (.slice none 0 0), (.slice none 0 0)]) (ex_lN [(ii 0), (ii 25), (ii 1), (ii 0), (.slice none 0 0), (ii 0), (ii 2), (ii 100), (ii 1), (.slice (some ⟨bi2, 0, none⟩) 2 2), (.slice (some ⟨be2, 0, none⟩) 1 1), (.slice none 0 0), (.slice none 0 0)] (HP.cells 10 rfl 0 13 (by kernel_rfl))) fun a H => H.cb HP 107 (Tryz.call16 _ _) ((by have hh := same_any (exPl bi1 be1 80 0 none 0 []) (exPl bi2 be2 81 0 none 0 []) w_52 (isEx (HP.at_ 14 rfl) (HP.at_ 15 rfl)) (isEx (HP.at_ 11 rfl) (HP.at_ 12 rfl)); rw [show decide ((exPl bi1 be1 80 0 none 0 []).nv = (exPl bi2 be2 81 0 none 0 []).nv) = false from (by kernel_rfl)] at hh; exact hh)) fun w_53 hb a H HP => ?_
 refine H.v 108 (.bool true) fun a H => H.v 109 (.bool true) fun a H => H.v 110 (.bool true) fun a H => H.v 111 (ii 80) fun a H => H.v 112 (.bool true) fun a H => H.v 113 (.bool true) fun a H => H.v 114 (.bool true) fun a H => H.v 115 (ii 10) fun a H => H.v 116 (.bool true) fun a H => H.v 117 (.bool true) fun a H => H.v 118 (.bool true) fun a H => H.v 119 (.bool true) fun a H => H.v 120 (.bool true) fun a H => H.v 121 (.bool true) fun a H => H.v 122 (pt b_30 2) fun a H => H.u 123 (ii 20) (ex_l1 (HP.cell 3 rfl 2 rfl)) fun a H => ?_
 refine H.v 124 (.bool true) fun a H => H.v 125 (.bool true) fun a H => H.v 126 (.bool true) fun a H => H.v 127 (.bool false) fun a H => H.v 128 (.bool true) fun a H => H.v 129 (.bool true) fun a H => H.v 130 (.bool true) fun a H => H.v 131 (.bool true) fun a H => H.v 132 (.bool true) fun a H => H.v 133 (.bool true) fun a H => H.v 134 (pt b_42 4) fun a H => H.u 135 (ii 80) (ex_l1 (HP.cell 1 rfl 4 rfl)) fun a H => H.v 136 (.bool true) fun a H => H.v 137 (.bool true) fun a H => H.v 138 (.bool true) fun a H => H.v 139 (.bool true) fun a H => ?_
 refine H.v 140 (.bool true) fun a H => H.v 141 (.bool true) fun a H => H.v 142 (pt b_46 5) fun a H => H.u 143 (ii 90) (ex_l1 (HP.cell 0 rfl 5 rfl)) fun a H => H.v 144 (.bool true) fun a H => H.v 145 (.bool true) fun a H => H.v 0 (.bool true) fun a H => ?_
 refine nl (tn (rt ?_))
 refine H.r1 (.bool true) Tryz.results12 ?_
 exact ⟨rfl, HP.bl⟩
end Go.Proofs.YteeillphhiaopaaGreatDoor
namespace Go.Proofs.YteeillphhiaopaaGreatDoor
set_option maxRecDepth 100000
set_option maxHeartbeats 4000000
open Go.ChangeShapes Go.WideShapes Go.ChangeAt Go.RowKit
set_option linter.unusedVariables false
structure PlFit (p : Pln) : Prop where
  sh : p.sh.length ≤ p.sc
  its : p.its.length ≤ p.ic
  bs : p.bs.length ≤ p.bc
  cs : p.cs.length ≤ p.cc
  en : ∀ e ∈ p.es, e.al.length ≤ e.c ∧ (e.A = none → e.c = 0)
structure Small (q : Pln) : Prop where
  sh : q.sh.length ≤ 45
  its : q.its.length ≤ 30
  es : q.es.length ≤ 30
  bs : q.bs.length ≤ 20
  cs : q.cs.length ≤ 20
  al : ∀ e ∈ q.es, e.al.length ≤ 9
  cap : q.its.length ≤ q.ic ∧ q.es.length ≤ q.ec ∧ q.bs.length ≤ q.bc ∧ q.cs.length ≤ q.cc
theorem small_of {p q : Pln} (h : q.nv = shN p.nv) (hf : PlFit p) (hc : (q.SA, q.sc, q.IA, q.ic, q.BA, q.bc, q.CA, q.cc) = (p.SA, p.sc, p.IA, p.ic, p.BA, p.bc, p.CA, p.cc) ∧ q.es.length ≤ q.ec ∧ (q.EA = none → q.ec = 0)) : Small q := by
  have e1 : q.sh = p.sh.take 45 := congrArg PlN.sh h
  have e2 : q.its = p.its.take 30 := congrArg PlN.its h
  have e3 : q.es.map Ent.nv = ((p.es.map Ent.nv).take 30).map sh9N := congrArg PlN.es h
  have e4 : q.bs = p.bs.take 20 := congrArg PlN.bs h
  have e5 : q.cs = p.cs.take 20 := congrArg PlN.cs h
  have l3 := congrArg List.length e3
  simp only [List.length_map, List.length_take] at l3
  simp only [Prod.mk.injEq] at hc
  obtain ⟨⟨_, _, _, c1, _, c2, _, c3⟩, c4, _⟩ := hc
  refine ⟨by rw [e1, tl_]; omega, by rw [e2, tl_]; omega, by omega, by rw [e4, tl_]; omega, by rw [e5, tl_]; omega, fun e he => ?_, by rw [e2, tl_, c1]; have := hf.its; omega, c4, by rw [e4, tl_, c2]; have := hf.bs; omega, by rw [e5, tl_, c3]; have := hf.cs; omega⟩
  have hm : e.nv ∈ q.es.map Ent.nv := List.mem_map_of_mem he
  rw [e3] at hm
  obtain ⟨x, _, hx⟩ := List.mem_map.1 hm
  have hx' := congrArg EnN.al hx
  have : e.al = x.al.take 9 := hx'.symm
  rw [this, tl_]
  omega
theorem rowFp_take {n m : Nat} {A : Option Addr} {j : Nat} (h : rowFp n A j) (hn : n ≤ m) : rowFp m A j := ⟨Nat.lt_of_lt_of_le h.1 hn, h.2⟩
theorem short_law (p : Pln) (w0 w : World) (hpl : IsPln w0 p) (hb : Below w0.heap.size w0 w) (hf : PlFit p) :
    Calls Tryz.prog 13 #[plV p] w fun e w' => ∃ q : Pln, e = .returned (plV q) ∧ q.nv = shN p.nv ∧ IsPln w' q ∧ (∀ j, q.fp j → j < w0.heap.size ∨ w.heap.size ≤ j) ∧ Small q ∧ Below w.heap.size w w' := by
  refine (short_any p w (hpl.below hb) ⟨hf.sh, hf.its, hf.bs, hf.cs⟩ hf.en).mono ?_
  rintro e w' ⟨q, rfl, hnv, hq, ⟨hen, hc⟩, hb'⟩
  refine ⟨q, rfl, hnv, hq, fun j hj => ?_, small_of hnv hf hc, hb'⟩
  have e1 : q.sh = p.sh.take 45 := congrArg PlN.sh hnv
  have e2 : q.its = p.its.take 30 := congrArg PlN.its hnv
  have e4 : q.bs = p.bs.take 20 := congrArg PlN.bs hnv
  have e5 : q.cs = p.cs.take 20 := congrArg PlN.cs hnv
  have hc1 := hc.1
  simp only [Prod.mk.injEq] at hc1
  obtain ⟨c1, _, c2, _, c3, _, c4, _⟩ := hc1
  rcases hj with h | h | h | h | h
  · rw [c1, e1] at h; exact .inl (hpl.lt j (.inl (rowFp_take h (by rw [tl_]; omega))))
  · rw [c2, e2] at h; exact .inl (hpl.lt j (.inr (.inl (rowFp_take h (by rw [tl_]; omega)))))
  · exact .inr (hen j h)
  · rw [c3, e4] at h; exact .inl (hpl.lt j (.inr (.inr (.inr (.inl (rowFp_take h (by rw [tl_]; omega)))))))
  · rw [c4, e5] at h; exact .inl (hpl.lt j (.inr (.inr (.inr (.inr (rowFp_take h (by rw [tl_]; omega)))))))
theorem Hp.keepQ {w0 w w' : World} {L : List HB} {K : List FK} (H : Hp w0 w L K) (hb : Below w.heap.size w w') (hL : (L.all fun x => x.fresh) = true) (q : Pln) (hq : IsPln w' q) (hfr : ∀ j, q.fp j → j < w0.heap.size ∨ w.heap.size ≤ j) : Hp w0 w' L (plnK q :: K) :=
  (H.next hb).keepF (plnK q) hq (plnK_ok q) fun j hj => ⟨hq.lt j hj, fun x hx hxk => by
    rcases hfr j hj with h | h
    · have := H.fresh x hx (List.all_eq_true.1 hL x hx) j hxk; omega
    · have := H.lt x hx j hxk; omega⟩
theorem encV_some {p : Pln} (h : validPl p = true) : encV p = .tuple #[.string (bstr (encInts (numsP p))), .int .i64 0] := by
  unfold encV; rw [if_pos h, List.nil_append]
theorem encV_none {p : Pln} (h : validPl p = false) : encV p = .tuple #[.string (bstr []), .int .i64 80] := by
  unfold encV; rw [h]; rfl
end Go.Proofs.YteeillphhiaopaaGreatDoor
namespace Go.Proofs.YteeillphhiaopaaGreatDoor
set_option maxRecDepth 100000
set_option maxHeartbeats 4000000
open Go.ChangeShapes Go.WideShapes Go.ChangeAt Go.RowKit
set_option linter.unusedVariables false
def enS (v : PlN) : List UInt8 := encInts (numsN v)
theorem encV_on {p : Pln} {v : PlN} (h : p.nv = v) (hv : validN v = true) : encV p = .tuple #[.string (bstr (enS v)), .int .i64 0] := by
  subst h
  rw [encV_some (by rw [validPl_nv]; exact hv), numsP_nv]
  rfl
theorem encV_off {p : Pln} {v : PlN} (h : p.nv = v) (hv : validN v = false) : encV p = .tuple #[.string (bstr []), .int .i64 80] := by
  subst h
  exact encV_none (by rw [validPl_nv]; exact hv)
theorem vE {v : PlN} (h : validN v = true) : validPl v.pl = true := by rw [validPl_nv, PlN.nv_pl]; exact h
end Go.Proofs.YteeillphhiaopaaGreatDoor
namespace Go.Proofs.YteeillphhiaopaaGreatDoor
set_option maxRecDepth 100000
set_option maxHeartbeats 4000000
open Go.ChangeShapes Go.WideShapes Go.ChangeAt Go.RowKit
set_option linter.unusedVariables false
set_option linter.unusedSimpArgs false
theorem encode_some (p : Pln) (w : World) (a0 a1 : Addr) (hL : LaidP a0 a1 w) (hpl_p : IsPln w p) (hf_p : PlFit p) (hv : validN (shN p.nv) = true) : Calls Tryz.prog 5 #[(plV p)] w fun e w' => e = .returned (.bool true) ∧ Below w.heap.size w w' := by
 have HP := Hp.start w
 refine w_enter 32 [(0, (plV p))] Tryz.func5 rfl Tryz.ntmps5 (by kernel_rfl) (by kernel_rfl) fun a H => ?_
 refine sq (rg ?_)
 refine H.al HP 1 32 (plL p) fun b_1 w_2 a H HP => H.v 2 (.bool false) fun a H => ?_
 refine nl (tn (sq (rg ?_)))
 refine H.cb HP 8 (Tryz.call12 _ _) (sane_any a0 a1 w_2 (hL.below HP.bl)) fun w_3 hb a H HP => H.v 3 (.bool true) fun a H => ?_
 refine nl (tn (sq (rg ?_)))
 refine H.u 10 (plV p) (ex_lN (plL p) (HP.cells 0 rfl 0 13 (by kernel_rfl))) fun a H => ?_
 refine H.cl 11 (Tryz.call13 _ _) (short_law p w w_3 hpl_p HP.bl hf_p) ?_
 rintro e w_4 ⟨p1, rfl, hnv_p1, hq_p1, hfr_p1, hsm_p1, hb⟩
 refine ⟨_, rfl, ?_⟩
 intro a H
 have HP := HP.keepQ hb (by kernel_rfl) p1 hq_p1 hfr_p1
 refine H.cb HP 12 (Tryz.call25 _ _) ((by have hh := encode_any p1 w_4 (HP.fact 0 rfl : IsPln _ p1) (hL.below HP.bl).rates; rw [encV_on hnv_p1 hv] at hh; exact hh)) fun w_5 hb a H HP => H.v 9 (.tuple #[(.string (bstr (enS (shN p.nv)))), (ii 0)]) fun a H => H.v 13 (.string (bstr (enS (shN p.nv)))) fun a H => H.v 14 (ii 0) fun a H => H.v 4 (.string (bstr (enS (shN p.nv)))) fun a H => H.v 5 (ii 0) fun a H => ?_
 refine nl (tn (sq (rg ?_)))
 refine H.u 16 (plV p) (ex_lN (plL p) (HP.cells 0 rfl 0 13 (by kernel_rfl))) fun a H => ?_
 refine H.cl 17 (Tryz.call13 _ _) (short_law p w w_5 hpl_p HP.bl hf_p) ?_
 rintro e w_6 ⟨p2, rfl, hnv_p2, hq_p2, hfr_p2, hsm_p2, hb⟩
 refine ⟨_, rfl, ?_⟩
 intro a H
 have HP := HP.keepQ hb (by kernel_rfl) p2 hq_p2 hfr_p2
 refine H.cb HP 18 (Tryz.call26 _ _) ((by have hh := rencode_any p2 w_6 (HP.fact 0 rfl : IsPln _ p2); rw [encV_on hnv_p2 hv] at hh; exact hh)) fun w_7 hb a H HP => H.v 15 (.tuple #[(.string (bstr (enS (shN p.nv)))), (ii 0)]) fun a H => H.v 19 (.string (bstr (enS (shN p.nv)))) fun a H => H.v 20 (ii 0) fun a H => H.v 6 (.string (bstr (enS (shN p.nv)))) fun a H => H.v 7 (ii 0) fun a H => ?_
 refine nl (tn (sq (rg ?_)))
 refine H.v 21 (.bool true) fun a H => H.v 22 (.bool true) fun a H => H.v 23 (.string (bstr (enS (shN p.nv)))) fun a H => H.v 24 (.string (bstr (enS (shN p.nv)))) fun a H => H.valE 25 (.bool ((bstr (enS (shN p.nv))).toList == (bstr (enS (shN p.nv))).toList)) (.bool true) (by kernel_rfl) (by kernel_rfl) ((congrArg Value.bool (beq_self_eq_true _))) fun a H => H.v 26 (.bool true) fun a H => H.v 27 (.bool true) fun a H => H.v 28 (ii 0) fun a H => H.v 29 (ii 0) fun a H => H.v 30 (.bool true) fun a H => H.v 31 (.bool true) fun a H => H.v 2 (.bool true) fun a H => ?_
 refine nl (tn (rt ?_))
 refine H.r1 (.bool true) Tryz.results5 ?_
 exact ⟨rfl, HP.bl⟩
theorem encode_none (p : Pln) (w : World) (a0 a1 : Addr) (hL : LaidP a0 a1 w) (hpl_p : IsPln w p) (hf_p : PlFit p) (hv : validN (shN p.nv) = false) : Calls Tryz.prog 5 #[(plV p)] w fun e w' => e = .returned (.bool true) ∧ Below w.heap.size w w' := by
 have HP := Hp.start w
 refine w_enter 32 [(0, (plV p))] Tryz.func5 rfl Tryz.ntmps5 (by kernel_rfl) (by kernel_rfl) fun a H => ?_
 refine sq (rg ?_)
 refine H.al HP 1 32 (plL p) fun b_1 w_2 a H HP => H.v 2 (.bool false) fun a H => ?_
 refine nl (tn (sq (rg ?_)))
 refine H.cb HP 8 (Tryz.call12 _ _) (sane_any a0 a1 w_2 (hL.below HP.bl)) fun w_3 hb a H HP => H.v 3 (.bool true) fun a H => ?_
 refine nl (tn (sq (rg ?_)))
 refine H.u 10 (plV p) (ex_lN (plL p) (HP.cells 0 rfl 0 13 (by kernel_rfl))) fun a H => ?_
 refine H.cl 11 (Tryz.call13 _ _) (short_law p w w_3 hpl_p HP.bl hf_p) ?_
 rintro e w_4 ⟨p1, rfl, hnv_p1, hq_p1, hfr_p1, hsm_p1, hb⟩
 refine ⟨_, rfl, ?_⟩
 intro a H
 have HP := HP.keepQ hb (by kernel_rfl) p1 hq_p1 hfr_p1
 refine H.cb HP 12 (Tryz.call25 _ _) ((by have hh := encode_any p1 w_4 (HP.fact 0 rfl : IsPln _ p1) (hL.below HP.bl).rates; rw [encV_off hnv_p1 hv] at hh; exact hh)) fun w_5 hb a H HP => H.v 9 (.tuple #[(.string (bstr ([]))), (ii 80)]) fun a H => H.v 13 (.string (bstr ([]))) fun a H => H.v 14 (ii 80) fun a H => H.v 4 (.string (bstr ([]))) fun a H => H.v 5 (ii 80) fun a H => ?_
 refine nl (tn (sq (rg ?_)))
 refine H.u 16 (plV p) (ex_lN (plL p) (HP.cells 0 rfl 0 13 (by kernel_rfl))) fun a H => ?_
 refine H.cl 17 (Tryz.call13 _ _) (short_law p w w_5 hpl_p HP.bl hf_p) ?_
 rintro e w_6 ⟨p2, rfl, hnv_p2, hq_p2, hfr_p2, hsm_p2, hb⟩
 refine ⟨_, rfl, ?_⟩
 intro a H
 have HP := HP.keepQ hb (by kernel_rfl) p2 hq_p2 hfr_p2
 refine H.cb HP 18 (Tryz.call26 _ _) ((by have hh := rencode_any p2 w_6 (HP.fact 0 rfl : IsPln _ p2); rw [encV_off hnv_p2 hv] at hh; exact hh)) fun w_7 hb a H HP => H.v 15 (.tuple #[(.string (bstr ([]))), (ii 80)]) fun a H => H.v 19 (.string (bstr ([]))) fun a H => H.v 20 (ii 80) fun a H => H.v 6 (.string (bstr ([]))) fun a H => H.v 7 (ii 80) fun a H => ?_
 refine nl (tn (sq (rg ?_)))
 refine H.v 21 (.bool true) fun a H => H.v 22 (.bool true) fun a H => H.v 23 (.string (bstr ([]))) fun a H => H.v 24 (.string (bstr ([]))) fun a H => H.valE 25 (.bool ((bstr ([])).toList == (bstr ([])).toList)) (.bool true) (by kernel_rfl) (by kernel_rfl) ((congrArg Value.bool (beq_self_eq_true _))) fun a H => H.v 26 (.bool true) fun a H => H.v 27 (.bool true) fun a H => H.v 28 (ii 80) fun a H => H.v 29 (ii 80) fun a H => H.v 30 (.bool true) fun a H => H.v 31 (.bool true) fun a H => H.v 2 (.bool true) fun a H => ?_
 refine nl (tn (rt ?_))
 refine H.r1 (.bool true) Tryz.results5 ?_
 exact ⟨rfl, HP.bl⟩
theorem encode_law (p : Pln) (w : World) (a0 a1 : Addr) (hL : LaidP a0 a1 w) (hpl_p : IsPln w p) (hf_p : PlFit p) : Calls Tryz.prog 5 #[plV p] w fun e w' => e = .returned (.bool true) ∧ Below w.heap.size w w' := by
 cases hv : validN (shN p.nv) with
 | true => exact encode_some p w a0 a1 hL hpl_p hf_p hv
 | false => exact encode_none p w a0 a1 hL hpl_p hf_p hv
end Go.Proofs.YteeillphhiaopaaGreatDoor
namespace Go.Proofs.YteeillphhiaopaaGreatDoor
set_option maxRecDepth 100000
set_option maxHeartbeats 4000000
open Go.ChangeShapes Go.WideShapes Go.ChangeAt Go.RowKit Go.Deep
set_option linter.unusedVariables false
structure Op (P : Program) (t : TypeId) (α : Type) where
  size : Nat
  cells : α → List Value
  ok : World → α → Prop
  csize : P.cellsOf t = size
  len : ∀ a, (cells a).length = size
  opens : ∀ {H : Type} {enc : TypeId × Value → H} {w : World} {base : Nat} {held : Bool} {fuel : Nat} {cs : List Value} {x : DataW H × List MemPlace},
    DataW.trod enc P w base (fun _ => true) held fuel t cs = some x → (∀ n ∈ x.1.weights P t, n ≤ reachBytes) → ∃ a, cs = cells a ∧ ok w a
structure SlA (α : Type) where
  A : Option Addr
  c : Nat
  l : List α
section
variable {P : Program} {t e : TypeId} {α β : Type}
noncomputable def opInt (k : IntKind) (hu : P.underlying t = some (.int k)) (hc : P.cellsOf t = 1) : Op P t Int where
  size := 1
  cells n := [.int k n]
  ok _ n := (Lit.int k n).wf = true
  csize := hc
  len _ := rfl
  opens h _ := by
    obtain ⟨n, rfl, rfl, hw⟩ := DataW.trod_int hu h
    exact ⟨n, rfl, hw⟩
theorem weightsAll_mem {H : Type} {d : DataW H} {l : List (DataW H)} (h : d ∈ l) : ∀ n ∈ d.weights P e, n ∈ DataW.weightsAll P e l := by
  induction l with
  | nil => cases h
  | cons y l ih =>
    intro n hn
    rw [DataW.weightsAll]
    rcases List.mem_cons.1 h with rfl | h
    · exact List.mem_append_left _ hn
    · exact List.mem_append_right _ (ih h n hn)
theorem choose_list {Q : Nat → α → Prop} : ∀ n : Nat, (∀ i, i < n → ∃ a, Q i a) → ∃ l : List α, l.length = n ∧ ∀ i a, l[i]? = some a → Q i a := by
  intro n
  induction n with
  | zero => intro _; exact ⟨[], rfl, by simp⟩
  | succ n ih =>
    intro h
    obtain ⟨l, hl, hq⟩ := ih (fun i hi => h i (by omega))
    obtain ⟨a, ha⟩ := h n (by omega)
    refine ⟨l ++ [a], by simp [hl], fun i b hb => ?_⟩
    by_cases hi : i < l.length
    · rw [List.getElem?_append_left hi] at hb
      exact hq i b hb
    · rw [List.getElem?_append_right (by omega)] at hb
      have h0 : i - l.length = 0 := by
        have := (List.getElem?_eq_some_iff.1 hb).1
        simp at this
        omega
      rw [h0] at hb
      simp at hb
      subst hb
      obtain rfl : i = n := by omega
      exact ha
theorem flatO_get {f : α → List Value} {s : Nat} (hf : ∀ a, (f a).length = s) : ∀ (l : List α) (i j : Nat) (a : α), l[i]? = some a → j < s → (l.flatMap f)[i * s + j]? = (f a)[j]? := by
  intro l
  induction l with
  | nil => intro i j a h; simp at h
  | cons y l ih =>
    intro i j a h hj
    cases i with
    | zero =>
      simp at h
      subst h
      simp only [List.flatMap_cons, Nat.zero_mul, Nat.zero_add]
      rw [List.getElem?_append_left (by rw [hf]; exact hj)]
    | succ i =>
      simp only [List.flatMap_cons]
      rw [List.getElem?_append_right (by rw [hf, Nat.add_mul]; omega), hf, show (i + 1) * s + j - s = i * s + j by rw [Nat.add_mul]; omega]
      exact ih i j a (by simpa using h) hj
theorem flatO_len {f : α → List Value} {s : Nat} (hf : ∀ a, (f a).length = s) : ∀ l : List α, (l.flatMap f).length = l.length * s := by
  intro l
  induction l with
  | nil => simp
  | cons y l ih => simp only [List.flatMap_cons, List.length_append, List.length_cons, ih, hf, Nat.add_mul]; omega
theorem rd_of_cells {w : World} {a : Addr} {s : Nat} {f : α → List Value} (hf : ∀ x, (f x).length = s) (hs : 0 < s) {l : List α}
    (h : ∀ i x, l[i]? = some x → ∀ j, j < s → w.cell? ((a.add (i * s)).add j) = (f x)[j]?) : Rd w s (some a) l.length (l.flatMap f) := by
  refine ⟨flatO_len hf l, ?_⟩
  by_cases hn : l.length = 0
  · exact .inl hn
  · have hl : 0 < l.length := by omega
    have h0 := h 0 l[0] (List.getElem?_eq_getElem hl) 0 hs
    have hv : ∃ v, (f l[0])[0]? = some v := ⟨_, List.getElem?_eq_getElem (by rw [hf]; exact hs)⟩
    obtain ⟨v, hv⟩ := hv
    rw [hv] at h0
    have hsp : a.spot = none := by
      unfold World.cell? at h0
      split at h0
      · by_cases hs : a.spot.isSome = true
        · simp [Addr.add, hs] at h0
        · simpa using hs
      · simp at h0
    obtain ⟨b, off, sp⟩ := a
    simp only at hsp
    subst hsp
    have e0 : (((⟨b, off, none⟩ : Addr).add (0 * s)).add 0) = ⟨b, off, none⟩ := by simp [Addr.add]
    rw [e0] at h0
    refine .inr ⟨b, off, rfl, World.block_lt_of_cell? w _ h0, fun i hi => ?_⟩
    have hq : i / s < l.length := Nat.div_lt_of_lt_mul (by rw [Nat.mul_comm]; exact hi)
    have hm : i % s < s := Nat.mod_lt _ hs
    have hx := h (i / s) l[i / s] (List.getElem?_eq_getElem hq) (i % s) hm
    have hg := flatO_get hf l (i / s) (i % s) _ (List.getElem?_eq_getElem hq) hm
    have hi2 : i / s * s + i % s = i := by rw [Nat.mul_comm]; exact Nat.div_add_mod i s
    rw [hi2] at hg
    rw [hg, ← hx]
    congr 1
    simp only [Addr.add]
    split <;> split <;> simp <;> omega
noncomputable def opSlice (o : Op P e α) (bytes : Nat) (hu : P.underlying t = some (.slice e)) (hb : P.bytesOf e = bytes) (hc : P.cellsOf t = 1) (hs : 0 < o.size) : Op P t (SlA α) where
  size := 1
  cells s := [.slice s.A s.l.length s.c]
  ok w s := Rd w o.size s.A s.l.length (s.l.flatMap o.cells) ∧ (∀ a ∈ s.l, o.ok w a) ∧ s.l.length ≤ s.c ∧ s.c ≤ maxLen ∧ (s.A = none → s.c = 0) ∧ s.c * bytes ≤ reachBytes
  csize := hc
  len _ := rfl
  opens {H enc w base held fuel cs x} h hw := by
    rcases open_slice hu h with ⟨rfl, rfl⟩ | ⟨a, len, cap, m, n, D, Pl, rfl, hba, hl, hm, hmm, rfl, hi⟩
    · exact ⟨⟨none, 0, []⟩, rfl, Rd.nil _ _ _, by simp, Nat.le_refl _, Nat.zero_le _, fun _ => rfl, by simp⟩
    · simp only [if_true] at hmm
      subst hmm
      have hwt : ∀ k ∈ ((len + (m - len)) * bytes) :: DataW.weightsAll P e ((List.range len).map D), k ≤ reachBytes := by
        intro k hk
        simp only [DataW.weights, hu, hb] at hw
        rcases List.mem_cons.1 hk with rfl | hk
        · exact hw _ (by simp)
        · exact hw k (by simp [hk])
      obtain ⟨l, hll, hq⟩ := choose_list (Q := fun i x => (∀ j, j < o.size → w.cell? ((a.add (i * o.size)).add j) = (o.cells x)[j]?) ∧ o.ok w x) len (fun i hi' => by
        obtain ⟨cs', hcs, htr⟩ := hi i (by omega)
        obtain ⟨x, rfl, hok⟩ := o.opens htr (fun k hk => hwt k (List.mem_cons_of_mem _ (weightsAll_mem (d := D i) (List.mem_map.2 ⟨i, by simpa using hi', rfl⟩) k hk)))
        rw [o.csize] at hcs
        obtain ⟨_, _, hat⟩ := World.cells?_some hcs
        exact ⟨x, hat, hok⟩)
      subst hll
      refine ⟨⟨some a, m, l⟩, rfl, rd_of_cells o.len hs (fun i x hx => (hq i x hx).1), fun x hx => ?_, hl, hm, (fun h => by cases h), ?_⟩
      · obtain ⟨i, hi', hx'⟩ := List.getElem_of_mem hx
        exact (hq i x (by rw [List.getElem?_eq_getElem hi', hx'])).2
      · have := hwt _ (List.mem_cons_self ..)
        rwa [Nat.add_sub_cancel' hl] at this
structure OpF (P : Program) (fs : List Field) (off : Nat) (α : Type) where
  size : Nat
  cells : α → List Value
  ok : World → α → Prop
  len : ∀ a, (cells a).length = size
  opens : ∀ {H : Type} {enc : TypeId × Value → H} {w : World} {base : Nat} {held : Bool} {fuel : Nat} {cs : List Value} {ys : List (DataW H × List MemPlace)},
    cs.length = off + size → (∀ (i : Nat) (f : Field), fs[i]? = some f → DataW.trod enc P w base (fun _ => true) held fuel f.type ((cs.drop f.offset).take (P.cellsOf f.type)) = ys[i]?) → ys.length = fs.length →
    (∀ n ∈ DataW.weightsEach P (fs.map (·.type)) (ys.map (·.1)), n ≤ reachBytes) → ∃ a, cs.drop off = cells a ∧ ok w a
noncomputable def opNil (off : Nat) : OpF P [] off Unit where
  size := 0
  cells _ := []
  ok _ _ := True
  len _ := rfl
  opens h _ _ _ := ⟨(), by rw [List.drop_of_length_le (by omega)], trivial⟩
noncomputable def opCons {f : Field} {fs : List Field} {off : Nat} (o : Op P f.type α) (r : OpF P fs (off + o.size) β) (hoff : f.offset = off) : OpF P (f :: fs) off (α × β) where
  size := o.size + r.size
  cells p := o.cells p.1 ++ r.cells p.2
  ok w p := o.ok w p.1 ∧ r.ok w p.2
  len p := by rw [List.length_append, o.len, r.len]
  opens {H enc w base held fuel cs ys} h hf hl hw := by
    match ys, hl with
    | y :: ys, hl =>
      have h0 := hf 0 f rfl
      simp only [hoff, o.csize, List.getElem?_cons_zero] at h0
      obtain ⟨a, ha, hok⟩ := o.opens h0 (fun n hn => hw n (by simp [DataW.weightsEach, hn]))
      obtain ⟨b, hb, hok2⟩ := r.opens (cs := cs) (ys := ys) (by omega) (fun i g hg => by simpa using hf (i + 1) g (by simpa using hg)) (by simpa using hl) (fun n hn => hw n (by simp only [List.map_cons, DataW.weightsEach]; exact List.mem_append_right _ hn))
      refine ⟨(a, b), ?_, hok, hok2⟩
      simp only
      rw [← ha, ← hb, ← List.drop_drop]
      exact (List.take_append_drop _ _).symm
noncomputable def opStruct {fs : Array Field} (r : OpF P fs.toList 0 α) (hu : P.underlying t = some (.struct fs)) (hc : P.cellsOf t = r.size) : Op P t α where
  size := r.size
  cells := r.cells
  ok := r.ok
  csize := hc
  len := r.len
  opens {H enc w base held fuel cs x} h hw := by
    obtain ⟨xs, n, _, rfl, hlen, hxl, hg⟩ := DataW.trod_struct hu h
    obtain ⟨a, ha, hok⟩ := r.opens (cs := cs) (ys := xs) (by rw [hlen, hc]; omega) (fun i f hf => hg i f (by simpa using hf)) (by simpa using hxl) (fun k hk => hw k (by simpa [DataW.weights, hu] using hk))
    exact ⟨a, by simpa using ha, hok⟩
noncomputable def opMap (o : Op P t α) (f : α → β) (cells' : β → List Value) (ok' : World → β → Prop) (h1 : ∀ a, o.cells a = cells' (f a)) (h2 : ∀ w a, o.ok w a → ok' w (f a)) (h3 : ∀ b, (cells' b).length = o.size) : Op P t β where
  size := o.size
  cells := cells'
  ok := ok'
  csize := o.csize
  len := h3
  opens h hw := by
    obtain ⟨a, ha, hok⟩ := o.opens h hw
    exact ⟨f a, by rw [ha, h1], h2 _ _ hok⟩
end
end Go.Proofs.YteeillphhiaopaaGreatDoor
namespace Go.Proofs.YteeillphhiaopaaGreatDoor
set_option maxRecDepth 100000
set_option maxHeartbeats 4000000
open Go.ChangeShapes Go.WideShapes Go.ChangeAt Go.RowKit
set_option linter.unusedVariables false
noncomputable def opI : Op Tryz.prog 3 Int := opInt .i64 Tryz.underlying3 (by kernel_rfl)
noncomputable def opSh : Op Tryz.prog 76 (Int × Int) := opMap (opStruct (opCons opI (opCons opI (opNil _) rfl) rfl) Tryz.underlying76 (by kernel_rfl)) (fun p => (p.1, p.2.1)) (fun a => (altC a).toList) (fun _ a => True) (fun a => rfl) (fun w a h => trivial) (fun _ => rfl)
noncomputable def opAl : Op Tryz.prog 62 (Int × Int) := opMap (opStruct (opCons opI (opCons opI (opNil _) rfl) rfl) Tryz.underlying62 (by kernel_rfl)) (fun p => (p.1, p.2.1)) (fun a => (altC a).toList) (fun _ a => True) (fun a => rfl) (fun w a h => trivial) (fun _ => rfl)
noncomputable def opIt : Op Tryz.prog 38 Itm := opMap (opStruct (opCons opI (opCons opI (opCons opI (opCons opI (opCons opI (opNil _) rfl) rfl) rfl) rfl) rfl) Tryz.underlying38 (by kernel_rfl)) (fun ⟨a, b, c, d, e, _⟩ => ⟨a, b, c, d, e⟩) (fun a => (itC a).toList) (fun _ a => True) (fun a => rfl) (fun w a h => trivial) (fun _ => rfl)
noncomputable def opBk : Op Tryz.prog 47 Bkg := opMap (opStruct (opCons opI (opCons opI (opCons opI (opCons opI (opCons opI (opCons opI (opCons opI (opNil _) rfl) rfl) rfl) rfl) rfl) rfl) rfl) Tryz.underlying47 (by kernel_rfl)) (fun ⟨a, b, c, d, e, f, g, _⟩ => ⟨a, b, c, d, e, f, g⟩) (fun a => (bkC a).toList) (fun _ a => True) (fun a => rfl) (fun w a h => trivial) (fun _ => rfl)
noncomputable def opCl : Op Tryz.prog 73 Cls := opMap (opStruct (opCons opI (opCons opI (opCons opI (opCons opI (opCons opI (opCons opI (opCons opI (opCons opI (opNil _) rfl) rfl) rfl) rfl) rfl) rfl) rfl) rfl) Tryz.underlying73 (by kernel_rfl)) (fun ⟨a, b, c, d, e, f, g, h, _⟩ => ⟨a, b, c, d, e, f, g, h⟩) (fun a => (clC a).toList) (fun _ a => True) (fun a => rfl) (fun w a h => trivial) (fun _ => rfl)
noncomputable def opAls : Op Tryz.prog 41 (SlA (Int × Int)) := opSlice opAl 16 Tryz.underlying41 (by kernel_rfl) (by kernel_rfl) (by decide)
noncomputable def opEn : Op Tryz.prog 43 Ent := opMap (opStruct (opCons opI (opCons opI (opCons opI (opCons opI (opCons opI (opCons opI (opCons opAls (opNil _) rfl) rfl) rfl) rfl) rfl) rfl) rfl) Tryz.underlying43 (by kernel_rfl)) (fun ⟨a, b, c, d, e, f, s, _⟩ => ⟨a, b, c, d, e, f, s.A, s.c, s.l⟩) (fun a => (enC a).toList)
  (fun w x => x.ok w ∧ x.al.length ≤ x.c ∧ (x.A = none → x.c = 0)) (fun a => rfl)
  (fun w a h => by
    obtain ⟨a1, a2, a3, a4, a5, a6, s, _⟩ := a
    obtain ⟨_, _, _, _, _, _, ⟨p1, p2, p3, p4, p5, p6⟩, _⟩ := h
    exact ⟨⟨p1, Nat.le_trans p3 p4⟩, p3, p5⟩) (fun _ => rfl)
noncomputable def opShs : Op Tryz.prog 24 (SlA (Int × Int)) := opSlice opSh 16 Tryz.underlying24 (by kernel_rfl) (by kernel_rfl) (by decide)
noncomputable def opIts : Op Tryz.prog 27 (SlA Itm) := opSlice opIt 40 Tryz.underlying27 (by kernel_rfl) (by kernel_rfl) (by decide)
noncomputable def opEns : Op Tryz.prog 28 (SlA Ent) := opSlice opEn 72 Tryz.underlying28 (by kernel_rfl) (by kernel_rfl) (by decide)
noncomputable def opBks : Op Tryz.prog 29 (SlA Bkg) := opSlice opBk 56 Tryz.underlying29 (by kernel_rfl) (by kernel_rfl) (by decide)
noncomputable def opCls : Op Tryz.prog 30 (SlA Cls) := opSlice opCl 64 Tryz.underlying30 (by kernel_rfl) (by kernel_rfl) (by decide)
noncomputable def opRate : Op Tryz.prog 23 (Int × (Int × Unit)) := opStruct (opCons opI (opCons opI (opNil _) rfl) rfl) Tryz.underlying23 (by kernel_rfl)
noncomputable def opZone : Op Tryz.prog 26 (Int × (SlA (Int × Int) × Unit)) := opStruct (opCons opI (opCons opShs (opNil _) rfl) rfl) Tryz.underlying26 (by kernel_rfl)
noncomputable def opPl0 : Op Tryz.prog 32 (Int × ((Int × (Int × Unit)) × ((Int × (SlA (Int × Int) × Unit)) × (Int × (Int × (Int × (Int × (SlA Itm × (SlA Ent × (SlA Bkg × (SlA Cls × Unit))))))))))) :=
  opStruct (opCons opI (opCons opRate (opCons opZone (opCons opI (opCons opI (opCons opI (opCons opI (opCons opIts (opCons opEns (opCons opBks (opCons opCls (opNil _) rfl) rfl) rfl) rfl) rfl) rfl) rfl) rfl) rfl) rfl) rfl) Tryz.underlying32 (by kernel_rfl)
noncomputable def opPl : Op Tryz.prog 32 Pln := opMap opPl0 (fun ⟨a, b, c, d, e, f, g, i, n, k, l, _⟩ => ⟨a, b.1, b.2.1, c.1, c.2.1.A, c.2.1.c, c.2.1.l, d, e, f, g, i.A, i.c, i.l, n.A, n.c, n.l, k.A, k.c, k.l, l.A, l.c, l.l⟩) (fun p => plC p) (fun w p => IsPln w p ∧ PlFit p) (fun a => rfl)
  (fun w a h => by
    obtain ⟨a1, b, ⟨c1, c2, _⟩, d, e, f, g, i, n, k, l, _⟩ := a
    obtain ⟨_, _, ⟨_, ⟨s1, s2, s3, s4, s5, s6⟩, _⟩, _, _, _, _, ⟨i1, i2, i3, i4, i5, i6⟩, ⟨n1, n2, n3, n4, n5, n6⟩, ⟨k1, k2, k3, k4, k5, k6⟩, ⟨l1, l2, l3, l4, l5, l6⟩, _⟩ := h
    exact ⟨⟨s1, i1, ⟨n1, fun x hx => (n2 x hx).1⟩, k1, l1, Nat.le_trans s3 s4, Nat.le_trans i3 i4, Nat.le_trans n3 n4, Nat.le_trans k3 k4, Nat.le_trans l3 l4⟩, ⟨s3, i3, k3, l3, fun x hx => (n2 x hx).2⟩⟩) (fun _ => rfl)
end Go.Proofs.YteeillphhiaopaaGreatDoor
namespace Go.Proofs.YteeillphhiaopaaGreatDoor.planEncodeMatchesReference
set_option maxRecDepth 100000
set_option maxHeartbeats 4000000
open Go.ChangeShapes Go.WideShapes Go.ChangeAt Go.RowKit
set_option linter.unusedVariables false
theorem walk (x0 : Pln) (w : World) (h : ∃ a0 a1, LaidP a0 a1 w) (hx0 : opPl.ok w x0) : Calls Tryz.prog 5 #[plV x0] w fun e w' => e = .returned (.bool true) ∧ Below w.heap.size w w' := by
  obtain ⟨a0, a1, hL⟩ := h
  have kx0 : IsPln w x0 ∧ PlFit x0 := hx0
  exact encode_law x0 w a0 a1 hL kx0.1 kx0.2
end Go.Proofs.YteeillphhiaopaaGreatDoor.planEncodeMatchesReference
namespace Go.Proofs.YteeillphhiaopaaGreatDoor.planEncodeMatchesReference
set_option maxRecDepth 100000
set_option maxHeartbeats 4000000
open Go.ChangeShapes Go.WideShapes Go.ChangeAt Go.RowKit
open Go.ChangeMaps (open_string shut_string)
set_option linter.unusedVariables false
theorem own : ownKnob Tryz.prog.godebug = none := by kernel_rfl
theorem laidOut : laidOutB Tryz.prog = true := by kernel_rfl
set_option maxRecDepth 100000 in
theorem lifted (os : Os) (started : os.Started) (H : Type) (enc : TypeId × Value → H) :
    ReturnsInHanded {} Tryz.checked os 5 .any (fun w args => (Rows.planEncodeMatchesReferenceSpec.pre enc Tryz.prog Tryz.f5 [] false w args ∧ laidMetH Tryz.prog laid2 w) ∧ sizedMet enc Tryz.prog Tryz.f5 (OpenSpec.ofChange Rows.planEncodeMatchesReferenceSpec) false w args) (Rows.planEncodeMatchesReferenceSpec.post enc Tryz.prog Tryz.f5 false true false false) := by
  refine returnsInHanded_of_change_and (C := Tryz.checked) (X := fun w _ => laidMetH Tryz.prog laid2 w) (fun _ _ _ hh h => h.of_heap hh) own started (by kernel_rfl) Tryz.func5
    (ChangeSpec.witness_shaped (enc := enc) (C := Tryz.checked) (os := os) (X := fun w _ => laidMetH Tryz.prog laid2 w) false (World.doorLaid Tryz.prog 4000 os) #[.agg #[.int .i64 0, .int .i64 0, .int .i64 0, .int .i64 0, .slice none 0 0, .int .i64 0, .int .i64 0, .int .i64 0, .int .i64 0, .slice none 0 0, .slice none 0 0, .slice none 0 0, .slice none 0 0]] 12 rfl (World.shaped_of_RefB (by kernel_rfl) (by kernel_rfl)) (by kernel_rfl) (by kernel_rfl) (by kernel_rfl) (door_met os _)) ?_
  intro W base args ds gs before hval0 hW hcnd hsz0 hL _
  have hval : ∀ (j : Nat) t v, Tryz.f5.params[j]? = some t → args[j]? = some v → Value.okWide Tryz.prog W .any base t v := hval0
  have hW' := hW
  obtain ⟨p, q, hA0, hV, rfl, hfz, hnd⟩ := hW
  have hA : DataW.TrodAll enc Tryz.prog W 0 (fun _ => true) true Tryz.f5.params.toList args.toList ds p := hA0
  have hsz : (DataW.weightsEach Tryz.prog (Tryz.f5.params.toList ++ Rows.planEncodeMatchesReferenceSpec.plain.varTypes Tryz.prog) (ds ++ gs)).all (· ≤ reachBytes) = true := hsz0
  rw [Tryz.params5] at hA hval hsz
  obtain ⟨v0, vs0, d0, ds0, p0, q0, hargs, rfl, rfl, h0, r0⟩ := trodAll_cons hA
  obtain ⟨rfl, rfl, rfl⟩ := trodAll_nil r0
  obtain rfl : args = #[v0] := by cases args; simp_all
  obtain ⟨rfl, rfl⟩ := trodVars_none hV
  obtain ⟨cs0, rfl, _⟩ := okWide_struct Tryz.underlying32 (hval 0 32 v0 rfl rfl)
  have k0 := h0
  have lt0 : ∀ x ∈ p0, x.block < W.heap.size := by obtain ⟨m, hm⟩ := k0; exact DataW.trod_lt m _ _ _ hm
  obtain ⟨a0, w0, e0⟩ : ∃ a, opPl.ok W a ∧ cs0 = (opPl.cells a).toArray := by
    obtain ⟨fuel, hf⟩ := h0
    obtain ⟨a, ha, hok⟩ := opPl.opens hf (fun n hn => of_decide_eq_true (List.all_eq_true.1 hsz n (DataW.weights_mem_each (j := 0) (t := 32) (by rfl) (by rfl) n hn)))
    refine ⟨a, hok, ?_⟩
    have : cs0.toList = opPl.cells a := ha
    rw [← this]
  subst e0
  clear hA0 hval0 hsz0
  refine (walk a0 W (laid_of hL) w0).mono fun e W' ⟨he, bel⟩ => ?_
  subst he
  exact ⟨_, rfl, _, _, _, [], _, [], hW', trodAll_mk1 (shut_bool Tryz.underlying4 _), (trodAll_cons_mk (Below.trod laidOut (by kernel_rfl) (of_decide_eq_true (by kernel_rfl)) k0 bel lt0) trodAll_mk0), rfl, bel.frame _, fun h => by cases h⟩
theorem over : Rows.planEncodeMatchesReferenceRow.holds Tryz.pinned (OpenSpec.ofChange Rows.planEncodeMatchesReferenceSpec) :=
  OpenClaim.holds_of_wide 5 Tryz.f5 rfl rfl rfl rfl rfl rfl rfl ⟨rfl, rfl, rfl, rfl, rfl⟩ rfl rfl rfl rfl rfl (by kernel_rfl) Tryz.func5 (by kernel_rfl)
    (of_decide_eq_true (by kernel_rfl)) (by unfold Func.isWrapper; first | (rw [if_pos (by decide +kernel)]; kernel_rfl) | (rw [if_neg (by decide +kernel)]; exact ⟨rfl, rfl⟩))
    (fun os started H enc _ => lifted os started H enc)
theorem proved : Rows.PlanEncodeMatchesReferenceCardSaid :=
  Claim7.holds_tied_plain_at .later [] [.data, .sentinel, .sentinel] true (true, "0920b850dcc38d1adf8ac1a12a8052cedc72f0c93030e4301d2dcc84e7d73c35") true
    over (fun _ h => by cases h) (by kernel_rfl) (fun _ h => by cases h) planEncodeMatchesReference_row_tie rfl ⟨rfl, rfl⟩ (by kernel_rfl) rfl
    (fun f fn hf hfn => by
      obtain rfl : f = 5 := Option.some.inj ((show Tryz.prog.funcNamed "onair/onairlaw08.PlanEncodeMatchesReference" = some 5 by kernel_rfl).symm.trans hf) |>.symm
      obtain rfl : fn = Tryz.f5 := (Option.some.inj (Tryz.func5.symm.trans hfn)).symm
      exact ⟨by kernel_rfl, fun j t ht => by
        rw [Tryz.params5] at ht
        have hm : t ∈ [32] := by simpa using Array.mem_of_getElem? ht
        have hall : ([32].all fun u => !Tryz.prog.wantsStandIn u) = true := by kernel_rfl
        exact (show Tryz.prog.wantsStandIn t = false by simpa using List.all_eq_true.1 hall t hm)⟩)
    (by kernel_rfl)
#print axioms proved
end Go.Proofs.YteeillphhiaopaaGreatDoor.planEncodeMatchesReference
