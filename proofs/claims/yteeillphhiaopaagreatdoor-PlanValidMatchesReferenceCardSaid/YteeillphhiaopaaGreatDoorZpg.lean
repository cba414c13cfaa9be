/- The statement PlanValidMatchesReference: for every input the law returns true and leaves its arguments as they were. No condition. -/
import Derived.Deep.Slices
import Derived.Deep.Fields
import Derived.ChangeSame
import Derived.ChangeArms
import Derived.SizedLaws
import Derived.Test.YteeillphhiaopaaGreatDoorCards
import Derived.Test.YteeillphhiaopaaGreatDoorTie
import Derived.WalkKit
import Derived.ProofKit
import Derived.OpenShut
import Derived.ShutString
import Derived.ChangeOld
import Derived.Below
import Derived.SevenTiedAt
import Derived.Test.YteeillphhiaopaaGreatDoorZpf
namespace Go.Proofs.YteeillphhiaopaaGreatDoor
set_option maxRecDepth 100000
set_option maxHeartbeats 4000000
open Go.ChangeShapes Go.WideShapes Go.ChangeAt Go.RowKit
set_option linter.unusedVariables false
set_option linter.unusedSimpArgs false
def exPl (i e : Nat) (lat bk : Int) (B : Option Addr) (bc : Nat) (bs : List Bkg) : Pln := ⟨0, 25, 1, 0, none, 0, [], 0, 2, 100, 1, some ⟨i, 0, none⟩, 2, [⟨1, 5, 10, 0, 0⟩, ⟨2, 2, 20, 0, 0⟩], some ⟨e, 0, none⟩, 1, [⟨5, 2, 20, 0, lat, bk, none, 0, []⟩], B, bc, bs, none, 0, []⟩
def exS : List UInt8 := [] ++ encInts [0, 25, 1, 0, 0, 0, 2, 100, 1, 2, 1, 5, 10, 0, 0, 2, 2, 20, 0, 0, 1, 5, 2, 20, 0, 80, 0, 0, 0, 0]
theorem dec_exS : decN exS = ((exPl 0 0 80 0 none 0 []).nv, 0) := dec_enc (p := exPl 0 0 80 0 none 0 []) (by kernel_rfl)
theorem dec_nil : decN [] = (zeroN, 10) := by kernel_rfl
theorem IsRow.box {α : Type} {k : Nat} {cs : α → Array Value} (hk : ∀ e, (cs e).size = k) {w : World} {b t : Nat} {vs : List Value} {l : List α} (h : Box w b t vs.toArray) (hv : vs = flat cs l) : IsRow k cs w (some ⟨b, 0, none⟩) l := by
 subst hv
 refine ⟨flat_len hk l, .inr ⟨b, 0, rfl, h.lt, fun i hi => ?_⟩⟩
 have hi' : i < (flat cs l).length := by rw [flat_len hk l]; exact hi
 rw [Nat.zero_add, List.getElem?_eq_getElem hi']
 exact h.cell (by simp [hi'])
theorem isEx {w : World} {i e : Nat} {lat bk : Int} (h1 : Box w i 38 [(.int .i64 1), (.int .i64 5), (.int .i64 10), (.int .i64 0), (.int .i64 0), (.int .i64 2), (.int .i64 2), (.int .i64 20), (.int .i64 0), (.int .i64 0)].toArray) (h2 : Box w e 43 [.int .i64 5, .int .i64 2, .int .i64 20, .int .i64 0, .int .i64 lat, .int .i64 bk, .slice none 0 0].toArray) : IsPln w (exPl i e lat bk none 0 []) :=
 ⟨IsRow.nil _ _, IsRow.box itC_size h1 rfl, ⟨IsRow.box enC_size h2 rfl, fun x hx => by rcases List.mem_singleton.1 hx with rfl; exact ⟨IsRow.nil _ _, Nat.zero_le _⟩⟩, IsRow.nil _ _, IsRow.nil _ _, Nat.zero_le _, by show 2 ≤ maxLen; unfold maxLen; omega, by show 1 ≤ maxLen; unfold maxLen; omega, Nat.zero_le _, Nat.zero_le _⟩
theorem isExB {w : World} {i e b : Nat} {lat bk : Int} (h1 : Box w i 38 [(.int .i64 1), (.int .i64 5), (.int .i64 10), (.int .i64 0), (.int .i64 0), (.int .i64 2), (.int .i64 2), (.int .i64 20), (.int .i64 0), (.int .i64 0)].toArray) (h2 : Box w e 43 [.int .i64 5, .int .i64 2, .int .i64 20, .int .i64 0, .int .i64 lat, .int .i64 bk, .slice none 0 0].toArray) (h3 : Box w b 47 [(.int .i64 1), (.int .i64 2), (.int .i64 1), (.int .i64 0), (.int .i64 50), (.int .i64 90), (.int .i64 0)].toArray) : IsPln w (exPl i e lat bk (some ⟨b, 0, none⟩) 1 [⟨1, 2, 1, 0, 50, 90, 0⟩]) :=
 ⟨IsRow.nil _ _, IsRow.box itC_size h1 rfl, ⟨IsRow.box enC_size h2 rfl, fun x hx => by rcases List.mem_singleton.1 hx with rfl; exact ⟨IsRow.nil _ _, Nat.zero_le _⟩⟩, IsRow.box bkC_size h3 rfl, IsRow.nil _ _, Nat.zero_le _, by show 2 ≤ maxLen; unfold maxLen; omega, by show 1 ≤ maxLen; unfold maxLen; omega, by show 1 ≤ maxLen; unfold maxLen; omega, Nat.zero_le _⟩
theorem Hp.gain2 {w0 w w' : World} {L : List HB} {K : List FK} (H : Hp w0 w L K) (hb : Below w.heap.size w w') {b c t u : Nat} {vs us : List Value} (h1 : Box w' b t vs.toArray) (h2 : Box w' c u us.toArray) (n1 : w.heap.size ≤ b) (n2 : w.heap.size ≤ c) (hne : b ≠ c) : Hp w0 w' (bx b t vs true :: bx c u us true :: L) K := by
 have H2 := H.gain hb (bx c u us true) h2 (bx_ok _ _ _ _) (fun k hk => by cases hk; exact h2.lt) (fun k hk => by cases hk; exact n2)
 refine H2.add (bx b t vs true) h1 (bx_ok _ _ _ _) (fun k hk => by cases hk; exact h1.lt) (fun k hk => ⟨fun y hy hyk => ?_, fun p hp hpk => ?_⟩) (fun _ k hk => by cases hk; exact Nat.le_trans H.size n1)
 ·cases hk
  rcases List.mem_cons.1 hy with rfl | hy
  ·exact hne hyk
  ·have := (H.res y hy).2.2 _ hyk; omega
 ·cases hk
  have := ((H.kept p hp).2.2 _ hpk).1
  omega
theorem example_any (w : World) : Calls Tryz.prog 30 #[] w fun e w' => ∃ b1 b2, e = .returned (.agg (plC (exPl b1 b2 80 0 none 0 [])).toArray) ∧ Box w' b1 38 [(ii 1), (ii 5), (ii 10), (ii 0), (ii 0), (ii 2), (ii 2), (ii 20), (ii 0), (ii 0)].toArray ∧ Box w' b2 43 [(ii 5), (ii 2), (ii 20), (ii 0), (ii 80), (ii 0), (.slice none 0 0)].toArray ∧ w.heap.size ≤ b1 ∧ w.heap.size ≤ b2 ∧ b1 ≠ b2 ∧ Below w.heap.size w w' := by
 have HP := Hp.start w
 refine w_enter 8 [] Tryz.func30 rfl Tryz.ntmps30 (by kernel_rfl) (by kernel_rfl) fun a H => ?_
 refine sq (rg ?_)
 refine H.al HP 0 32 [(ii 0), (ii 0), (ii 0), (ii 0), (.slice none 0 0), (ii 0), (ii 0), (ii 0), (ii 0), (.slice none 0 0), (.slice none 0 0), (.slice none 0 0), (.slice none 0 0)] fun b_1 w_2 a H HP => ?_
 refine nl (tn (sq (rg ?_)))
 refine H.v 1 (.agg #[(ii 25), (ii 1)]) fun a H => H.v 2 (.agg #[(ii 1), (ii 5), (ii 10), (ii 0), (ii 0)]) fun a H => H.v 3 (.agg #[(ii 2), (ii 2), (ii 20), (ii 0), (ii 0)]) fun a H => H.alloc HP 4 (fun b => (.slice (some ⟨b, 0, none⟩) 2 2)) 38 [(ii 1), (ii 5), (ii 10), (ii 0), (ii 0), (ii 2), (ii 2), (ii 20), (ii 0), (ii 0)] (by kernel_rfl) (fun w => by kernel_rfl) fun b_3 w_4 a H HP => H.v 5 (.agg #[(ii 5), (ii 2), (ii 20), (ii 0), (ii 80), (ii 0), (.slice none 0 0)]) fun a H => H.alloc HP 6 (fun b => (.slice (some ⟨b, 0, none⟩) 1 1)) 43 [(ii 5), (ii 2), (ii 20), (ii 0), (ii 80), (ii 0), (.slice none 0 0)] (by kernel_rfl) (fun w => by kernel_rfl) fun b_5 w_6 a H HP => H.v 7 (.agg #[(ii 0), (ii 25), (ii 1), (ii 0), (.slice none 0 0), (ii 0), (ii 2), (ii 100), (ii 1), (.slice (some ⟨b_3, 0, none⟩) 2 2), (.slice (some ⟨b_5, 0, none⟩) 1 1), (.slice none 0 0), (.slice none 0 0)]) fun a H => H.st HP 2 b_1 0 13 32 true (.agg #[(ii 0), (ii 25), (ii 1), (ii 0), (.slice none 0 0), (ii 0), (ii 2), (ii 100), (ii 1), (.slice (some ⟨b_3, 0, none⟩) 2 2), (.slice (some ⟨b_5, 0, none⟩) 1 1), (.slice none 0 0), (.slice none 0 0)]) [bx b_5 43 [(ii 5), (ii 2), (ii 20), (ii 0), (ii 80), (ii 0), (.slice none 0 0)] true, bx b_3 38 [(ii 1), (ii 5), (ii 10), (ii 0), (ii 0), (ii 2), (ii 2), (ii 20), (ii 0), (ii 0)] true, bx b_1 32 [(ii 0), (ii 25), (ii 1), (ii 0), (.slice none 0 0), (ii 0), (ii 2), (ii 100), (ii 1), (.slice (some ⟨b_3, 0, none⟩) 2 2), (.slice (some ⟨b_5, 0, none⟩) 1 1), (.slice none 0 0), (.slice none 0 0)] true] rfl fun w_7 a H HP => ?_
 refine nl (tn (rt ?_))
 refine H.ret1 (fn := Tryz.f30) Tryz.results30 (RV.cellN (vs := [(ii 0), (ii 25), (ii 1), (ii 0), (.slice none 0 0), (ii 0), (ii 2), (ii 100), (ii 1), (.slice (some ⟨b_3, 0, none⟩) 2 2), (.slice (some ⟨b_5, 0, none⟩) 1 1), (.slice none 0 0), (.slice none 0 0)]) (b := b_1) (off := 0) (k := 13) (by kernel_rfl) (by kernel_rfl) (by kernel_rfl) rfl (HP.cells 2 rfl 0 13 (by kernel_rfl))) ?_
 exact ⟨b_3, b_5, rfl, HP.at_ 1 rfl, HP.at_ 0 rfl, HP.fresh _ (List.mem_of_getElem? (i := 1) rfl) rfl _ rfl, HP.fresh _ (List.mem_of_getElem? (i := 0) rfl) rfl _ rfl, (HP.neB 0 1 rfl rfl (by decide)).symm, HP.bl⟩
theorem sane_any (a0 a1 : Addr) (w : World) (hL : LaidP a0 a1 w) : Calls Tryz.prog 12 #[] w fun e w' => e = .returned (.bool true) ∧ Below w.heap.size w w' := by
 have HP := Hp.start w
 refine w_enter 146 [] Tryz.func12 rfl Tryz.ntmps12 (by kernel_rfl) (by kernel_rfl) fun a H => ?_
 refine sq (rg ?_)
 refine H.v 0 (.bool false) fun a H => ?_
 refine nl (tn (sq (rg ?_)))
 refine H.cl 21 (Tryz.call30 _ _) (example_any w) ?_
 rintro e w_1 ⟨bi1, be1, rfl, hx1, hx2, hn1, hn2, hne, hb⟩
 refine ⟨_, rfl, ?_⟩
 intro a H
 have HP := HP.gain2 hb hx1 hx2 hn1 hn2 hne
 refine H.al HP 1 32 [(ii 0), (ii 0), (ii 0), (ii 0), (.slice none 0 0), (ii 0), (ii 0), (ii 0), (ii 0), (.slice none 0 0), (.slice none 0 0), (.slice none 0 0), (.slice none 0 0)] fun b_2 w_3 a H HP => H.st HP 0 b_2 0 13 32 true (.agg #[(ii 0), (ii 25), (ii 1), (ii 0), (.slice none 0 0), (ii 0), (ii 2), (ii 100), (ii 1), (.slice (some ⟨bi1, 0, none⟩) 2 2), (.slice (some ⟨be1, 0, none⟩) 1 1), (.slice none 0 0), (.slice none 0 0)]) [bx b_2 32 [(ii 0), (ii 25), (ii 1), (ii 0), (.slice none 0 0), (ii 0), (ii 2), (ii 100), (ii 1), (.slice (some ⟨bi1, 0, none⟩) 2 2), (.slice (some ⟨be1, 0, none⟩) 1 1), (.slice none 0 0), (.slice none 0 0)] true, bx bi1 38 [(ii 1), (ii 5), (ii 10), (ii 0), (ii 0), (ii 2), (ii 2), (ii 20), (ii 0), (ii 0)] true, bx be1 43 [(ii 5), (ii 2), (ii 20), (ii 0), (ii 80), (ii 0), (.slice none 0 0)] true] rfl fun w_4 a H HP => ?_
 refine nl (tn (sq (rg ?_)))
 refine H.cl 22 (Tryz.call30 _ _) (example_any w_4) ?_
 rintro e w_5 ⟨bi2, be2, rfl, hx1, hx2, hn1, hn2, hne, hb⟩
 refine ⟨_, rfl, ?_⟩
 intro a H
 have HP := HP.gain2 hb hx1 hx2 hn1 hn2 hne
 refine H.al HP 2 32 [(ii 0), (ii 0), (ii 0), (ii 0), (.slice none 0 0), (ii 0), (ii 0), (ii 0), (ii 0), (.slice none 0 0), (.slice none 0 0), (.slice none 0 0), (.slice none 0 0)] fun b_6 w_7 a H HP => H.st HP 0 b_6 0 13 32 true (.agg #[(ii 0), (ii 25), (ii 1), (ii 0), (.slice none 0 0), (ii 0), (ii 2), (ii 100), (ii 1), (.slice (some ⟨bi2, 0, none⟩) 2 2), (.slice (some ⟨be2, 0, none⟩) 1 1), (.slice none 0 0), (.slice none 0 0)]) [bx b_6 32 [(ii 0), (ii 25), (ii 1), (ii 0), (.slice none 0 0), (ii 0), (ii 2), (ii 100), (ii 1), (.slice (some ⟨bi2, 0, none⟩) 2 2), (.slice (some ⟨be2, 0, none⟩) 1 1), (.slice none 0 0), (.slice none 0 0)] true, bx bi2 38 [(ii 1), (ii 5), (ii 10), (ii 0), (ii 0), (ii 2), (ii 2), (ii 20), (ii 0), (ii 0)] true, bx be2 43 [(ii 5), (ii 2), (ii 20), (ii 0), (ii 80), (ii 0), (.slice none 0 0)] true, bx b_2 32 [(ii 0), (ii 25), (ii 1), (ii 0), (.slice none 0 0), (ii 0), (ii 2), (ii 100), (ii 1), (.slice (some ⟨bi1, 0, none⟩) 2 2), (.slice (some ⟨be1, 0, none⟩) 1 1), (.slice none 0 0), (.slice none 0 0)] true, bx bi1 38 [(ii 1), (ii 5), (ii 10), (ii 0), (ii 0), (ii 2), (ii 2), (ii 20), (ii 0), (ii 0)] true, bx be1 43 [(ii 5), (ii 2), (ii 20), (ii 0), (ii 80), (ii 0), (.slice none 0 0)] true] rfl fun w_8 a H HP => ?_
 refine nl (tn (sq (rg ?_)))
 refine H.v 23 (pt b_6 10) fun a H => H.u 24 (.slice (some ⟨be2, 0, none⟩) 1 1) (ex_l1 (HP.cell 0 rfl 10 rfl)) fun a H => H.u 25 (pt be2 0) (ex_index (b := be2) (off := 0) (len := 1) (cap := 1) (e := 43) (k := 7) (ik := .i64) (i := 0) (m := 0) (by kernel_rfl) (by kernel_rfl) (by omega) (by omega) (by kernel_rfl) (by kernel_rfl)) fun a H => H.v 26 (pt be2 4) fun a H => H.st HP 2 be2 4 1 43 true (ii 81) [bx b_6 32 [(ii 0), (ii 25), (ii 1), (ii 0), (.slice none 0 0), (ii 0), (ii 2), (ii 100), (ii 1), (.slice (some ⟨bi2, 0, none⟩) 2 2), (.slice (some ⟨be2, 0, none⟩) 1 1), (.slice none 0 0), (.slice none 0 0)] true, bx bi2 38 [(ii 1), (ii 5), (ii 10), (ii 0), (ii 0), (ii 2), (ii 2), (ii 20), (ii 0), (ii 0)] true, bx be2 43 [(ii 5), (ii 2), (ii 20), (ii 0), (ii 81), (ii 0), (.slice none 0 0)] true, bx b_2 32 [(ii 0), (ii 25), (ii 1), (ii 0), (.slice none 0 0), (ii 0), (ii 2), (ii 100), (ii 1), (.slice (some ⟨bi1, 0, none⟩) 2 2), (.slice (some ⟨be1, 0, none⟩) 1 1), (.slice none 0 0), (.slice none 0 0)] true, bx bi1 38 [(ii 1), (ii 5), (ii 10), (ii 0), (ii 0), (ii 2), (ii 2), (ii 20), (ii 0), (ii 0)] true, bx be1 43 [(ii 5), (ii 2), (ii 20), (ii 0), (ii 80), (ii 0), (.slice none 0 0)] true] rfl fun w_9 a H HP => ?_
 refine nl (tn (sq (rg ?_)))
 refine H.cl 27 (Tryz.call30 _ _) (example_any w_9) ?_
 rintro e w_10 ⟨bi3, be3, rfl, hx1, hx2, hn1, hn2, hne, hb⟩
 refine ⟨_, rfl, ?_⟩
 intro a H
 have HP := HP.gain2 hb hx1 hx2 hn1 hn2 hne
 refine H.al HP 3 32 [(ii 0), (ii 0), (ii 0), (ii 0), (.slice none 0 0), (ii 0), (ii 0), (ii 0), (ii 0), (.slice none 0 0), (.slice none 0 0), (.slice none 0 0), (.slice none 0 0)] fun b_11 w_12 a H HP => H.st HP 0 b_11 0 13 32 true (.agg #[(ii 0), (ii 25), (ii 1), (ii 0), (.slice none 0 0), (ii 0), (ii 2), (ii 100), (ii 1), (.slice (some ⟨bi3, 0, none⟩) 2 2), (.slice (some ⟨be3, 0, none⟩) 1 1), (.slice none 0 0), (.slice none 0 0)]) [bx b_11 32 [(ii 0), (ii 25), (ii 1), (ii 0), (.slice none 0 0), (ii 0), (ii 2), (ii 100), (ii 1), (.slice (some ⟨bi3, 0, none⟩) 2 2), (.slice (some ⟨be3, 0, none⟩) 1 1), (.slice none 0 0), (.slice none 0 0)] true, bx bi3 38 [(ii 1), (ii 5), (ii 10), (ii 0), (ii 0), (ii 2), (ii 2), (ii 20), (ii 0), (ii 0)] true, bx be3 43 [(ii 5), (ii 2), (ii 20), (ii 0), (ii 80), (ii 0), (.slice none 0 0)] true, bx b_6 32 [(ii 0), (ii 25), (ii 1), (ii 0), (.slice none 0 0), (ii 0), (ii 2), (ii 100), (ii 1), (.slice (some ⟨bi2, 0, none⟩) 2 2), (.slice (some ⟨be2, 0, none⟩) 1 1), (.slice none 0 0), (.slice none 0 0)] true, bx bi2 38 [(ii 1), (ii 5), (ii 10), (ii 0), (ii 0), (ii 2), (ii 2), (ii 20), (ii 0), (ii 0)] true, bx be2 43 [(ii 5), (ii 2), (ii 20), (ii 0), (ii 81), (ii 0), (.slice none 0 0)] true, bx b_2 32 [(ii 0), (ii 25), (ii 1), (ii 0), (.slice none 0 0), (ii 0), (ii 2), (ii 100), (ii 1), (.slice (some ⟨bi1, 0, none⟩) 2 2), (.slice (some ⟨be1, 0, none⟩) 1 1), (.slice none 0 0), (.slice none 0 0)] true, bx bi1 38 [(ii 1), (ii 5), (ii 10), (ii 0), (ii 0), (ii 2), (ii 2), (ii 20), (ii 0), (ii 0)] true, bx be1 43 [(ii 5), (ii 2), (ii 20), (ii 0), (ii 80), (ii 0), (.slice none 0 0)] true] rfl fun w_13 a H HP => ?_
 refine nl (tn (sq (rg ?_)))
 refine H.v 28 (.agg #[(ii 1), (ii 2), (ii 1), (ii 0), (ii 50), (ii 90), (ii 0)]) fun a H => H.alloc HP 29 (fun b => (.slice (some ⟨b, 0, none⟩) 1 1)) 47 [(ii 1), (ii 2), (ii 1), (ii 0), (ii 50), (ii 90), (ii 0)] (by kernel_rfl) (fun w => by kernel_rfl) fun b_14 w_15 a H HP => H.v 30 (pt b_11 11) fun a H => H.st HP 1 b_11 11 1 32 true (.slice (some ⟨b_14, 0, none⟩) 1 1) [bx b_14 47 [(ii 1), (ii 2), (ii 1), (ii 0), (ii 50), (ii 90), (ii 0)] true, bx b_11 32 [(ii 0), (ii 25), (ii 1), (ii 0), (.slice none 0 0), (ii 0), (ii 2), (ii 100), (ii 1), (.slice (some ⟨bi3, 0, none⟩) 2 2), (.slice (some ⟨be3, 0, none⟩) 1 1), (.slice (some ⟨b_14, 0, none⟩) 1 1), (.slice none 0 0)] true, bx bi3 38 [(ii 1), (ii 5), (ii 10), (ii 0), (ii 0), (ii 2), (ii 2), (ii 20), (ii 0), (ii 0)] true, bx be3 43 [(ii 5), (ii 2), (ii 20), (ii 0), (ii 80), (ii 0), (.slice none 0 0)] true, bx b_6 32 [(ii 0), (ii 25), (ii 1), (ii 0), (.slice none 0 0), (ii 0), (ii 2), (ii 100), (ii 1), (.slice (some ⟨bi2, 0, none⟩) 2 2), (.slice (some ⟨be2, 0, none⟩) 1 1), (.slice none 0 0), (.slice none 0 0)] true, bx bi2 38 [(ii 1), (ii 5), (ii 10), (ii 0), (ii 0), (ii 2), (ii 2), (ii 20), (ii 0), (ii 0)] true, bx be2 43 [(ii 5), (ii 2), (ii 20), (ii 0), (ii 81), (ii 0), (.slice none 0 0)] true, bx b_2 32 [(ii 0), (ii 25), (ii 1), (ii 0), (.slice none 0 0), (ii 0), (ii 2), (ii 100), (ii 1), (.slice (some ⟨bi1, 0, none⟩) 2 2), (.slice (some ⟨be1, 0, none⟩) 1 1), (.slice none 0 0), (.slice none 0 0)] true, bx bi1 38 [(ii 1), (ii 5), (ii 10), (ii 0), (ii 0), (ii 2), (ii 2), (ii 20), (ii 0), (ii 0)] true, bx be1 43 [(ii 5), (ii 2), (ii 20), (ii 0), (ii 80), (ii 0), (.slice none 0 0)] true] rfl fun w_16 a H HP => ?_
 refine nl (tn (sq (rg ?_)))
 refine H.u 31 (.agg #[(ii 0), (ii 25), (ii 1), (ii 0), (.slice none 0 0), (ii 0), (ii 2), (ii 100), (ii 1), (.slice (some ⟨bi3, 0, none⟩) 2 2), (.slice (some ⟨be3, 0, none⟩) 1 1), (.slice (some ⟨b_14, 0, none⟩) 1 1), (.slice none 0 0)]) (ex_lN [(ii 0), (ii 25), (ii 1), (ii 0), (.slice none 0 0), (ii 0), (ii 2), (ii 100), (ii 1), (.slice (some ⟨bi3, 0, none⟩) 2 2), (.slice (some ⟨be3, 0, none⟩) 1 1), (.slice (some ⟨b_14, 0, none⟩) 1 1), (.slice none 0 0)] (HP.cells 1 rfl 0 13 (by kernel_rfl))) fun a H => H.cb HP 32 (Tryz.call14 _ _) ((by have hh := valid_any (exPl bi3 be3 80 0 (some ⟨b_14, 0, none⟩) 1 [⟨1, 2, 1, 0, 50, 90, 0⟩]) w_16 (isExB (HP.at_ 2 rfl) (HP.at_ 3 rfl) (HP.at_ 0 rfl)) (hL.below HP.bl).rates; rw [show validPl (exPl bi3 be3 80 0 (some ⟨b_14, 0, none⟩) 1 [⟨1, 2, 1, 0, 50, 90, 0⟩]) = true from by kernel_rfl] at hh; exact hh)) fun w_17 hb a H HP => H.v 4 (.bool true) fun a H => ?_
 refine nl (tn (sq (rg ?_)))
 refine H.v 33 (pt b_11 10) fun a H => H.u 34 (.slice (some ⟨be3, 0, none⟩) 1 1) (ex_l1 (HP.cell 1 rfl 10 rfl)) fun a H => H.u 35 (pt be3 0) (ex_index (b := be3) (off := 0) (len := 1) (cap := 1) (e := 43) (k := 7) (ik := .i64) (i := 0) (m := 0) (by kernel_rfl) (by kernel_rfl) (by omega) (by omega) (by kernel_rfl) (by kernel_rfl)) fun a H => H.v 36 (pt be3 5) fun a H => H.st HP 3 be3 5 1 43 true (ii 1) [bx b_14 47 [(ii 1), (ii 2), (ii 1), (ii 0), (ii 50), (ii 90), (ii 0)] true, bx b_11 32 [(ii 0), (ii 25), (ii 1), (ii 0), (.slice none 0 0), (ii 0), (ii 2), (ii 100), (ii 1), (.slice (some ⟨bi3, 0, none⟩) 2 2), (.slice (some ⟨be3, 0, none⟩) 1 1), (.slice (some ⟨b_14, 0, none⟩) 1 1), (.slice none 0 0)] true, bx bi3 38 [(ii 1), (ii 5), (ii 10), (ii 0), (ii 0), (ii 2), (ii 2), (ii 20), (ii 0), (ii 0)] true, bx be3 43 [(ii 5), (ii 2), (ii 20), (ii 0), (ii 80), (ii 1), (.slice none 0 0)] true, bx b_6 32 [(ii 0), (ii 25), (ii 1), (ii 0), (.slice none 0 0), (ii 0), (ii 2), (ii 100), (ii 1), (.slice (some ⟨bi2, 0, none⟩) 2 2), (.slice (some ⟨be2, 0, none⟩) 1 1), (.slice none 0 0), (.slice none 0 0)] true, bx bi2 38 [(ii 1), (ii 5), (ii 10), (ii 0), (ii 0), (ii 2), (ii 2), (ii 20), (ii 0), (ii 0)] true, bx be2 43 [(ii 5), (ii 2), (ii 20), (ii 0), (ii 81), (ii 0), (.slice none 0 0)] true, bx b_2 32 [(ii 0), (ii 25), (ii 1), (ii 0), (.slice none 0 0), (ii 0), (ii 2), (ii 100), (ii 1), (.slice (some ⟨bi1, 0, none⟩) 2 2), (.slice (some ⟨be1, 0, none⟩) 1 1), (.slice none 0 0), (.slice none 0 0)] true, bx bi1 38 [(ii 1), (ii 5), (ii 10), (ii 0), (ii 0), (ii 2), (ii 2), (ii 20), (ii 0), (ii 0)] true, bx be1 43 [(ii 5), (ii 2), (ii 20), (ii 0), (ii 80), (ii 0), (.slice none 0 0)] true] rfl fun w_18 a H HP => ?_
 refine nl (tn (sq (rg ?_)))
 refine H.u 38 (.agg #[(ii 0), (ii 25), (ii 1), (ii 0), (.slice none 0 0), (ii 0), (ii 2), (ii 100), (ii 1), (.slice (some ⟨bi1, 0, none⟩) 2 2), (.slice (some ⟨be1, 0, none⟩) 1 1), (.slice none 0 0), (.slice none 0 0)]) (ex_lN [(ii 0), (ii 25), (ii 1), (ii 0), (.slice none 0 0), (ii 0), (ii 2), (ii 100), (ii 1), (.slice (some ⟨bi1, 0, none⟩) 2 2), (.slice (some ⟨be1, 0, none⟩) 1 1), (.slice none 0 0), (.slice none 0 0)] (HP.cells 7 rfl 0 13 (by kernel_rfl))) fun a H => H.cb HP 39 (Tryz.call25 _ _) ((by have hh := encode_any (exPl bi1 be1 80 0 none 0 []) w_18 (isEx (HP.at_ 8 rfl) (HP.at_ 9 rfl)) (hL.below HP.bl).rates; rw [show encV (exPl bi1 be1 80 0 none 0 []) = .tuple #[.string (bstr exS), .int .i64 0] from by kernel_rfl] at hh; exact hh)) fun w_19 hb a H HP => H.v 37 (.tuple #[(.string (bstr exS)), (ii 0)]) fun a H => H.v 40 (.string (bstr exS)) fun a H => H.v 41 (ii 0) fun a H => H.v 5 (.string (bstr exS)) fun a H => H.v 6 (ii 0) fun a H => ?_
 refine nl (tn (sq (rg ?_)))
 refine H.v 43 (.string (bstr exS)) fun a H => ?_
 have hlt0 := HP.lt
 refine H.cl 44 (Tryz.call27 _ _) ((by have hh := decode_any a0 a1 exS w_19 (hL.below HP.bl) (by decide +kernel); unfold DecPost at hh; simp only [dec_exS] at hh; exact hh)) ?_
 rintro e w_20 ⟨pd, rfl, hnv, hpd, hnew, hb⟩
 refine ⟨_, rfl, ?_⟩
 intro a H
 have HP := HP.next hb
 have HP := HP.keepF (plnK pd) hpd (plnK_ok pd) (fun j hj => ⟨hpd.lt j hj, fun y hy hyk => by simp only [List.mem_cons, List.not_mem_nil, or_false] at hy; rcases hy with rfl | rfl | rfl | rfl | rfl | rfl | rfl | rfl | rfl | rfl <;> (first | exact Nat.lt_irrefl _ (Nat.lt_of_lt_of_le (hlt0 _ (List.mem_of_getElem? (i := 0) rfl) j hyk) (hnew j hj)) | exact Nat.lt_irrefl _ (Nat.lt_of_lt_of_le (hlt0 _ (List.mem_of_getElem? (i := 1) rfl) j hyk) (hnew j hj)) | exact Nat.lt_irrefl _ (Nat.lt_of_lt_of_le (hlt0 _ (List.mem_of_getElem? (i := 2) rfl) j hyk) (hnew j hj)) | exact Nat.lt_irrefl _ (Nat.lt_of_lt_of_le (hlt0 _ (List.mem_of_getElem? (i := 3) rfl) j hyk) (hnew j hj)) | exact Nat.lt_irrefl _ (Nat.lt_of_lt_of_le (hlt0 _ (List.mem_of_getElem? (i := 4) rfl) j hyk) (hnew j hj)) | exact Nat.lt_irrefl _ (Nat.lt_of_lt_of_le (hlt0 _ (List.mem_of_getElem? (i := 5) rfl) j hyk) (hnew j hj)) | exact Nat.lt_irrefl _ (Nat.lt_of_lt_of_le (hlt0 _ (List.mem_of_getElem? (i := 6) rfl) j hyk) (hnew j hj)) | exact Nat.lt_irrefl _ (Nat.lt_of_lt_of_le (hlt0 _ (List.mem_of_getElem? (i := 7) rfl) j hyk) (hnew j hj)) | exact Nat.lt_irrefl _ (Nat.lt_of_lt_of_le (hlt0 _ (List.mem_of_getElem? (i := 8) rfl) j hyk) (hnew j hj)) | exact Nat.lt_irrefl _ (Nat.lt_of_lt_of_le (hlt0 _ (List.mem_of_getElem? (i := 9) rfl) j hyk) (hnew j hj)))⟩)
 refine H.v 42 (.tuple #[(plV pd), (ii 0)]) fun a H => H.v 45 (plV pd) fun a H => H.v 46 (ii 0) fun a H => H.al HP 7 32 [(ii 0), (ii 0), (ii 0), (ii 0), (.slice none 0 0), (ii 0), (ii 0), (ii 0), (ii 0), (.slice none 0 0), (.slice none 0 0), (.slice none 0 0), (.slice none 0 0)] fun b_21 w_22 a H HP => H.st HP 0 b_21 0 13 32 true (plV pd) [bx b_21 32 (plL pd) true, bx b_14 47 [(ii 1), (ii 2), (ii 1), (ii 0), (ii 50), (ii 90), (ii 0)] true, bx b_11 32 [(ii 0), (ii 25), (ii 1), (ii 0), (.slice none 0 0), (ii 0), (ii 2), (ii 100), (ii 1), (.slice (some ⟨bi3, 0, none⟩) 2 2), (.slice (some ⟨be3, 0, none⟩) 1 1), (.slice (some ⟨b_14, 0, none⟩) 1 1), (.slice none 0 0)] true, bx bi3 38 [(ii 1), (ii 5), (ii 10), (ii 0), (ii 0), (ii 2), (ii 2), (ii 20), (ii 0), (ii 0)] true, bx be3 43 [(ii 5), (ii 2), (ii 20), (ii 0), (ii 80), (ii 1), (.slice none 0 0)] true, bx b_6 32 [(ii 0), (ii 25), (ii 1), (ii 0), (.slice none 0 0), (ii 0), (ii 2), (ii 100), (ii 1), (.slice (some ⟨bi2, 0, none⟩) 2 2), (.slice (some ⟨be2, 0, none⟩) 1 1), (.slice none 0 0), (.slice none 0 0)] true, bx bi2 38 [(ii 1), (ii 5), (ii 10), (ii 0), (ii 0), (ii 2), (ii 2), (ii 20), (ii 0), (ii 0)] true, bx be2 43 [(ii 5), (ii 2), (ii 20), (ii 0), (ii 81), (ii 0), (.slice none 0 0)] true, bx b_2 32 [(ii 0), (ii 25), (ii 1), (ii 0), (.slice none 0 0), (ii 0), (ii 2), (ii 100), (ii 1), (.slice (some ⟨bi1, 0, none⟩) 2 2), (.slice (some ⟨be1, 0, none⟩) 1 1), (.slice none 0 0), (.slice none 0 0)] true, bx bi1 38 [(ii 1), (ii 5), (ii 10), (ii 0), (ii 0), (ii 2), (ii 2), (ii 20), (ii 0), (ii 0)] true, bx be1 43 [(ii 5), (ii 2), (ii 20), (ii 0), (ii 80), (ii 0), (.slice none 0 0)] true] rfl fun w_23 a H HP => H.v 8 (ii 0) fun a H => ?_
 refine nl (tn (sq (rg ?_)))
 refine H.u 48 (.agg #[(ii 0), (ii 25), (ii 1), (ii 0), (.slice none 0 0), (ii 0), (ii 2), (ii 100), (ii 1), (.slice (some ⟨bi2, 0, none⟩) 2 2), (.slice (some ⟨be2, 0, none⟩) 1 1), (.slice none 0 0), (.slice none 0 0)]) (ex_lN [(ii 0), (ii 25), (ii 1), (ii 0), (.slice none 0 0), (ii 0), (ii 2), (ii 100), (ii 1), (.slice (some ⟨bi2, 0, none⟩) 2 2), (.slice (some ⟨be2, 0, none⟩) 1 1), (.slice none 0 0), (.slice none 0 0)] (HP.cells 5 rfl 0 13 (by kernel_rfl))) fun a H => H.cb HP 49 (Tryz.call25 _ _) ((by have hh := encode_any (exPl bi2 be2 81 0 none 0 []) w_23 (isEx (HP.at_ 6 rfl) (HP.at_ 7 rfl)) (hL.below HP.bl).rates; rw [show encV (exPl bi2 be2 81 0 none 0 []) = .tuple #[.string (bstr []), .int .i64 80] from by kernel_rfl] at hh; exact hh)) fun w_24 hb a H HP => H.v 47 (.tuple #[(.string (bstr ([]))), (ii 80)]) fun a H => H.v 50 (.string (bstr ([]))) fun a H => H.v 51 (ii 80) fun a H => H.v 9 (.string (bstr ([]))) fun a H => H.v 10 (ii 80) fun a H => ?_
 refine nl (tn (sq (rg ?_)))
 refine H.cl 53 (Tryz.call27 _ _) ((by have hh := decode_any a0 a1 [] w_24 (hL.below HP.bl) (by decide); unfold DecPost at hh; simp only [dec_nil] at hh; exact hh)) ?_
 rintro e w_25 ⟨p2, rfl, _, _, _, hb⟩
 refine ⟨_, rfl, ?_⟩
 intro a H
 have HP := HP.next hb
 refine H.v 52 (.tuple #[(plV p2), (ii 10)]) fun a H => H.v 54 (plV p2) fun a H => H.v 55 (ii 10) fun a H => H.al HP 11 32 [(ii 0), (ii 0), (ii 0), (ii 0), (.slice none 0 0), (ii 0), (ii 0), (ii 0), (ii 0), (.slice none 0 0), (.slice none 0 0), (.slice none 0 0), (.slice none 0 0)] fun b_26 w_27 a H HP => H.st HP 0 b_26 0 13 32 true (plV p2) [bx b_26 32 (plL p2) true, bx b_21 32 (plL pd) true, bx b_14 47 [(ii 1), (ii 2), (ii 1), (ii 0), (ii 50), (ii 90), (ii 0)] true, bx b_11 32 [(ii 0), (ii 25), (ii 1), (ii 0), (.slice none 0 0), (ii 0), (ii 2), (ii 100), (ii 1), (.slice (some ⟨bi3, 0, none⟩) 2 2), (.slice (some ⟨be3, 0, none⟩) 1 1), (.slice (some ⟨b_14, 0, none⟩) 1 1), (.slice none 0 0)] true, bx bi3 38 [(ii 1), (ii 5), (ii 10), (ii 0), (ii 0), (ii 2), (ii 2), (ii 20), (ii 0), (ii 0)] true, bx be3 43 [(ii 5), (ii 2), (ii 20), (ii 0), (ii 80), (ii 1), (.slice none 0 0)] true, bx b_6 32 [(ii 0), (ii 25), (ii 1), (ii 0), (.slice none 0 0), (ii 0), (ii 2), (ii 100), (ii 1), (.slice (some ⟨bi2, 0, none⟩) 2 2), (.slice (some ⟨be2, 0, none⟩) 1 1), (.slice none 0 0), (.slice none 0 0)] true, bx bi2 38 [(ii 1), (ii 5), (ii 10), (ii 0), (ii 0), (ii 2), (ii 2), (ii 20), (ii 0), (ii 0)] true, bx be2 43 [(ii 5), (ii 2), (ii 20), (ii 0), (ii 81), (ii 0), (.slice none 0 0)] true, bx b_2 32 [(ii 0), (ii 25), (ii 1), (ii 0), (.slice none 0 0), (ii 0), (ii 2), (ii 100), (ii 1), (.slice (some ⟨bi1, 0, none⟩) 2 2), (.slice (some ⟨be1, 0, none⟩) 1 1), (.slice none 0 0), (.slice none 0 0)] true, bx bi1 38 [(ii 1), (ii 5), (ii 10), (ii 0), (ii 0), (ii 2), (ii 2), (ii 20), (ii 0), (ii 0)] true, bx be1 43 [(ii 5), (ii 2), (ii 20), (ii 0), (ii 80), (ii 0), (.slice none 0 0)] true] rfl fun w_28 a H HP => H.v 12 (ii 10) fun a H => ?_
 refine nl (tn (sq (rg ?_)))
 refine H.u 57 (.agg #[(ii 0), (ii 25), (ii 1), (ii 0), (.slice none 0 0), (ii 0), (ii 2), (ii 100), (ii 1), (.slice (some ⟨bi1, 0, none⟩) 2 2), (.slice (some ⟨be1, 0, none⟩) 1 1), (.slice none 0 0), (.slice none 0 0)]) (ex_lN [(ii 0), (ii 25), (ii 1), (ii 0), (.slice none 0 0), (ii 0), (ii 2), (ii 100), (ii 1), (.slice (some ⟨bi1, 0, none⟩) 2 2), (.slice (some ⟨be1, 0, none⟩) 1 1), (.slice none 0 0), (.slice none 0 0)] (HP.cells 9 rfl 0 13 (by kernel_rfl))) fun a H => H.cb HP 58 (Tryz.call18 _ _) (item_any (exPl bi1 be1 80 0 none 0 []) 2 w_28 (isEx (HP.at_ 10 rfl) (HP.at_ 11 rfl))) fun w_29 hb a H HP => H.v 56 (.tuple #[(.agg #[(ii 2), (ii 2), (ii 20), (ii 0), (ii 0)]), (.bool true)]) fun a H => H.v 59 (.agg #[(ii 2), (ii 2), (ii 20), (ii 0), (ii 0)]) fun a H => H.v 60 (.bool true) fun a H => H.al HP 13 38 [(ii 0), (ii 0), (ii 0), (ii 0), (ii 0)] fun b_30 w_31 a H HP => H.st HP 0 b_30 0 5 38 true (.agg #[(ii 2), (ii 2), (ii 20), (ii 0), (ii 0)]) [bx b_30 38 [(ii 2), (ii 2), (ii 20), (ii 0), (ii 0)] true, bx b_26 32 (plL p2) true, bx b_21 32 (plL pd) true, bx b_14 47 [(ii 1), (ii 2), (ii 1), (ii 0), (ii 50), (ii 90), (ii 0)] true, bx b_11 32 [(ii 0), (ii 25), (ii 1), (ii 0), (.slice none 0 0), (ii 0), (ii 2), (ii 100), (ii 1), (.slice (some ⟨bi3, 0, none⟩) 2 2), (.slice (some ⟨be3, 0, none⟩) 1 1), (.slice (some ⟨b_14, 0, none⟩) 1 1), (.slice none 0 0)] true, bx bi3 38 [(ii 1), (ii 5), (ii 10), (ii 0), (ii 0), (ii 2), (ii 2), (ii 20), (ii 0), (ii 0)] true, bx be3 43 [(ii 5), (ii 2), (ii 20), (ii 0), (ii 80), (ii 1), (.slice none 0 0)] true, bx b_6 32 [(ii 0), (ii 25), (ii 1), (ii 0), (.slice none 0 0), (ii 0), (ii 2), (ii 100), (ii 1), (.slice (some ⟨bi2, 0, none⟩) 2 2), (.slice (some ⟨be2, 0, none⟩) 1 1), (.slice none 0 0), (.slice none 0 0)] true, bx bi2 38 [(ii 1), (ii 5), (ii 10), (ii 0), (ii 0), (ii 2), (ii 2), (ii 20), (ii 0), (ii 0)] true, bx be2 43 [(ii 5), (ii 2), (ii 20), (ii 0), (ii 81), (ii 0), (.slice none 0 0)] true, bx b_2 32 [(ii 0), (ii 25), (ii 1), (ii 0), (.slice none 0 0), (ii 0), (ii 2), (ii 100), (ii 1), (.slice (some ⟨bi1, 0, none⟩) 2 2), (.slice (some ⟨be1, 0, none⟩) 1 1), (.slice none 0 0), (.slice none 0 0)] true, bx bi1 38 [(ii 1), (ii 5), (ii 10), (ii 0), (ii 0), (ii 2), (ii 2), (ii 20), (ii 0), (ii 0)] true, bx be1 43 [(ii 5), (ii 2), (ii 20), (ii 0), (ii 80), (ii 0), (.slice none 0 0)] true] rfl fun w_32 a H HP => H.v 14 (.bool true) fun a H => ?_
 refine nl (tn (sq (rg ?_)))
 refine H.u 62 (.agg #[(ii 0), (ii 25), (ii 1), (ii 0), (.slice none 0 0), (ii 0), (ii 2), (ii 100), (ii 1), (.slice (some ⟨bi1, 0, none⟩) 2 2), (.slice (some ⟨be1, 0, none⟩) 1 1), (.slice none 0 0), (.slice none 0 0)]) (ex_lN [(ii 0), (ii 25), (ii 1), (ii 0), (.slice none 0 0), (ii 0), (ii 2), (ii 100), (ii 1), (.slice (some ⟨bi1, 0, none⟩) 2 2), (.slice (some ⟨be1, 0, none⟩) 1 1), (.slice none 0 0), (.slice none 0 0)] (HP.cells 10 rfl 0 13 (by kernel_rfl))) fun a H => ?_
 refine H.cl 63 (Tryz.call20 _ _) (entry_any (exPl bi1 be1 80 0 none 0 []) 2 w_32 (isEx (HP.at_ 11 rfl) (HP.at_ 12 rfl)) (by first | decide | exact (by decide : (0:Nat) ≤ 1000000000))) ?_
 rintro e w_35 ⟨Be_33, ce_34, rfl, _, hb⟩
 refine ⟨_, rfl, ?_⟩
 intro a H
 have HP := HP.next hb
 refine H.v 61 (.tuple #[(.agg #[(ii 0), (ii 0), (ii 0), (ii 0), (ii 0), (ii 0), (.slice Be_33 0 ce_34)]), (.bool false)]) fun a H => H.v 64 (.agg #[(ii 0), (ii 0), (ii 0), (ii 0), (ii 0), (ii 0), (.slice Be_33 0 ce_34)]) fun a H => H.v 65 (.bool false) fun a H => H.al HP 15 43 [(ii 0), (ii 0), (ii 0), (ii 0), (ii 0), (ii 0), (.slice none 0 0)] fun b_36 w_37 a H HP => H.st HP 0 b_36 0 7 43 true (.agg #[(ii 0), (ii 0), (ii 0), (ii 0), (ii 0), (ii 0), (.slice Be_33 0 ce_34)]) [bx b_36 43 [(ii 0), (ii 0), (ii 0), (ii 0), (ii 0), (ii 0), (.slice Be_33 0 ce_34)] true, bx b_30 38 [(ii 2), (ii 2), (ii 20), (ii 0), (ii 0)] true, bx b_26 32 (plL p2) true, bx b_21 32 (plL pd) true, bx b_14 47 [(ii 1), (ii 2), (ii 1), (ii 0), (ii 50), (ii 90), (ii 0)] true, bx b_11 32 [(ii 0), (ii 25), (ii 1), (ii 0), (.slice none 0 0), (ii 0), (ii 2), (ii 100), (ii 1), (.slice (some ⟨bi3, 0, none⟩) 2 2), (.slice (some ⟨be3, 0, none⟩) 1 1), (.slice (some ⟨b_14, 0, none⟩) 1 1), (.slice none 0 0)] true, bx bi3 38 [(ii 1), (ii 5), (ii 10), (ii 0), (ii 0), (ii 2), (ii 2), (ii 20), (ii 0), (ii 0)] true, bx be3 43 [(ii 5), (ii 2), (ii 20), (ii 0), (ii 80), (ii 1), (.slice none 0 0)] true, bx b_6 32 [(ii 0), (ii 25), (ii 1), (ii 0), (.slice none 0 0), (ii 0), (ii 2), (ii 100), (ii 1), (.slice (some ⟨bi2, 0, none⟩) 2 2), (.slice (some ⟨be2, 0, none⟩) 1 1), (.slice none 0 0), (.slice none 0 0)] true, bx bi2 38 [(ii 1), (ii 5), (ii 10), (ii 0), (ii 0), (ii 2), (ii 2), (ii 20), (ii 0), (ii 0)] true, bx be2 43 [(ii 5), (ii 2), (ii 20), (ii 0), (ii 81), (ii 0), (.slice none 0 0)] true, bx b_2 32 [(ii 0), (ii 25), (ii 1), (ii 0), (.slice none 0 0), (ii 0), (ii 2), (ii 100), (ii 1), (.slice (some ⟨bi1, 0, none⟩) 2 2), (.slice (some ⟨be1, 0, none⟩) 1 1), (.slice none 0 0), (.slice none 0 0)] true, bx bi1 38 [(ii 1), (ii 5), (ii 10), (ii 0), (ii 0), (ii 2), (ii 2), (ii 20), (ii 0), (ii 0)] true, bx be1 43 [(ii 5), (ii 2), (ii 20), (ii 0), (ii 80), (ii 0), (.slice none 0 0)] true] rfl fun w_38 a H HP => H.v 16 (.bool false) fun a H => ?_
 refine nl (tn (sq (rg ?_)))
 refine H.u 67 (.agg #[(ii 0), (ii 25), (ii 1), (ii 0), (.slice none 0 0), (ii 0), (ii 2), (ii 100), (ii 1), (.slice (some ⟨bi1, 0, none⟩) 2 2), (.slice (some ⟨be1, 0, none⟩) 1 1), (.slice none 0 0), (.slice none 0 0)]) (ex_lN [(ii 0), (ii 25), (ii 1), (ii 0), (.slice none 0 0), (ii 0), (ii 2), (ii 100), (ii 1), (.slice (some ⟨bi1, 0, none⟩) 2 2), (.slice (some ⟨be1, 0, none⟩) 1 1), (.slice none 0 0), (.slice none 0 0)] (HP.cells 11 rfl 0 13 (by kernel_rfl))) fun a H => ?_
 refine H.cl 68 (Tryz.call20 _ _) (entry_any (exPl bi1 be1 80 0 none 0 []) 5 w_38 (isEx (HP.at_ 12 rfl) (HP.at_ 13 rfl)) (by first | decide | exact (by decide : (0:Nat) ≤ 1000000000))) ?_
 rintro e w_41 ⟨Be_39, ce_40, rfl, _, hb⟩
 refine ⟨_, rfl, ?_⟩
 intro a H
 have HP := HP.next hb
 refine H.v 66 (.tuple #[(.agg #[(ii 5), (ii 2), (ii 20), (ii 0), (ii 80), (ii 0), (.slice Be_39 0 ce_40)]), (.bool true)]) fun a H => H.v 69 (.agg #[(ii 5), (ii 2), (ii 20), (ii 0), (ii 80), (ii 0), (.slice Be_39 0 ce_40)]) fun a H => H.v 70 (.bool true) fun a H => H.al HP 17 43 [(ii 0), (ii 0), (ii 0), (ii 0), (ii 0), (ii 0), (.slice none 0 0)] fun b_42 w_43 a H HP => H.st HP 0 b_42 0 7 43 true (.agg #[(ii 5), (ii 2), (ii 20), (ii 0), (ii 80), (ii 0), (.slice Be_39 0 ce_40)]) [bx b_42 43 [(ii 5), (ii 2), (ii 20), (ii 0), (ii 80), (ii 0), (.slice Be_39 0 ce_40)] true, bx b_36 43 [(ii 0), (ii 0), (ii 0), (ii 0), (ii 0), (ii 0), (.slice Be_33 0 ce_34)] true, bx b_30 38 [(ii 2), (ii 2), (ii 20), (ii 0), (ii 0)] true, bx b_26 32 (plL p2) true, bx b_21 32 (plL pd) true, bx b_14 47 [(ii 1), (ii 2), (ii 1), (ii 0), (ii 50), (ii 90), (ii 0)] true, bx b_11 32 [(ii 0), (ii 25), (ii 1), (ii 0), (.slice none 0 0), (ii 0), (ii 2), (ii 100), (ii 1), (.slice (some ⟨bi3, 0, none⟩) 2 2), (.slice (some ⟨be3, 0, none⟩) 1 1), (.slice (some ⟨b_14, 0, none⟩) 1 1), (.slice none 0 0)] true, bx bi3 38 [(ii 1), (ii 5), (ii 10), (ii 0), (ii 0), (ii 2), (ii 2), (ii 20), (ii 0), (ii 0)] true, bx be3 43 [(ii 5), (ii 2), (ii 20), (ii 0), (ii 80), (ii 1), (.slice none 0 0)] true, bx b_6 32 [(ii 0), (ii 25), (ii 1), (ii 0), (.slice none 0 0), (ii 0), (ii 2), (ii 100), (ii 1), (.slice (some ⟨bi2, 0, none⟩) 2 2), (.slice (some ⟨be2, 0, none⟩) 1 1), (.slice none 0 0), (.slice none 0 0)] true, bx bi2 38 [(ii 1), (ii 5), (ii 10), (ii 0), (ii 0), (ii 2), (ii 2), (ii 20), (ii 0), (ii 0)] true, bx be2 43 [(ii 5), (ii 2), (ii 20), (ii 0), (ii 81), (ii 0), (.slice none 0 0)] true, bx b_2 32 [(ii 0), (ii 25), (ii 1), (ii 0), (.slice none 0 0), (ii 0), (ii 2), (ii 100), (ii 1), (.slice (some ⟨bi1, 0, none⟩) 2 2), (.slice (some ⟨be1, 0, none⟩) 1 1), (.slice none 0 0), (.slice none 0 0)] true, bx bi1 38 [(ii 1), (ii 5), (ii 10), (ii 0), (ii 0), (ii 2), (ii 2), (ii 20), (ii 0), (ii 0)] true, bx be1 43 [(ii 5), (ii 2), (ii 20), (ii 0), (ii 80), (ii 0), (.slice none 0 0)] true] rfl fun w_44 a H HP => H.v 18 (.bool true) fun a H => ?_
 refine nl (tn (sq (rg ?_)))
 refine H.u 72 (.agg #[(ii 0), (ii 25), (ii 1), (ii 0), (.slice none 0 0), (ii 0), (ii 2), (ii 100), (ii 1), (.slice (some ⟨bi3, 0, none⟩) 2 2), (.slice (some ⟨be3, 0, none⟩) 1 1), (.slice (some ⟨b_14, 0, none⟩) 1 1), (.slice none 0 0)]) (ex_lN [(ii 0), (ii 25), (ii 1), (ii 0), (.slice none 0 0), (ii 0), (ii 2), (ii 100), (ii 1), (.slice (some ⟨bi3, 0, none⟩) 2 2), (.slice (some ⟨be3, 0, none⟩) 1 1), (.slice (some ⟨b_14, 0, none⟩) 1 1), (.slice none 0 0)] (HP.cells 6 rfl 0 13 (by kernel_rfl))) fun a H => H.cb HP 73 (Tryz.call22 _ _) (booking_any (exPl bi3 be3 80 1 (some ⟨b_14, 0, none⟩) 1 [⟨1, 2, 1, 0, 50, 90, 0⟩]) 1 w_44 (isExB (HP.at_ 7 rfl) (HP.at_ 8 rfl) (HP.at_ 5 rfl))) fun w_45 hb a H HP => H.v 71 (.tuple #[(.agg #[(ii 1), (ii 2), (ii 1), (ii 0), (ii 50), (ii 90), (ii 0)]), (.bool true)]) fun a H => H.v 74 (.agg #[(ii 1), (ii 2), (ii 1), (ii 0), (ii 50), (ii 90), (ii 0)]) fun a H => H.v 75 (.bool true) fun a H => H.al HP 19 47 [(ii 0), (ii 0), (ii 0), (ii 0), (ii 0), (ii 0), (ii 0)] fun b_46 w_47 a H HP => H.st HP 0 b_46 0 7 47 true (.agg #[(ii 1), (ii 2), (ii 1), (ii 0), (ii 50), (ii 90), (ii 0)]) [bx b_46 47 [(ii 1), (ii 2), (ii 1), (ii 0), (ii 50), (ii 90), (ii 0)] true, bx b_42 43 [(ii 5), (ii 2), (ii 20), (ii 0), (ii 80), (ii 0), (.slice Be_39 0 ce_40)] true, bx b_36 43 [(ii 0), (ii 0), (ii 0), (ii 0), (ii 0), (ii 0), (.slice Be_33 0 ce_34)] true, bx b_30 38 [(ii 2), (ii 2), (ii 20), (ii 0), (ii 0)] true, bx b_26 32 (plL p2) true, bx b_21 32 (plL pd) true, bx b_14 47 [(ii 1), (ii 2), (ii 1), (ii 0), (ii 50), (ii 90), (ii 0)] true, bx b_11 32 [(ii 0), (ii 25), (ii 1), (ii 0), (.slice none 0 0), (ii 0), (ii 2), (ii 100), (ii 1), (.slice (some ⟨bi3, 0, none⟩) 2 2), (.slice (some ⟨be3, 0, none⟩) 1 1), (.slice (some ⟨b_14, 0, none⟩) 1 1), (.slice none 0 0)] true, bx bi3 38 [(ii 1), (ii 5), (ii 10), (ii 0), (ii 0), (ii 2), (ii 2), (ii 20), (ii 0), (ii 0)] true, bx be3 43 [(ii 5), (ii 2), (ii 20), (ii 0), (ii 80), (ii 1), (.slice none 0 0)] true, bx b_6 32 [(ii 0), (ii 25), (ii 1), (ii 0), (.slice none 0 0), (ii 0), (ii 2), (ii 100), (ii 1), (.slice (some ⟨bi2, 0, none⟩) 2 2), (.slice (some ⟨be2, 0, none⟩) 1 1), (.slice none 0 0), (.slice none 0 0)] true, bx bi2 38 [(ii 1), (ii 5), (ii 10), (ii 0), (ii 0), (ii 2), (ii 2), (ii 20), (ii 0), (ii 0)] true, bx be2 43 [(ii 5), (ii 2), (ii 20), (ii 0), (ii 81), (ii 0), (.slice none 0 0)] true, bx b_2 32 [(ii 0), (ii 25), (ii 1), (ii 0), (.slice none 0 0), (ii 0), (ii 2), (ii 100), (ii 1), (.slice (some ⟨bi1, 0, none⟩) 2 2), (.slice (some ⟨be1, 0, none⟩) 1 1), (.slice none 0 0), (.slice none 0 0)] true, bx bi1 38 [(ii 1), (ii 5), (ii 10), (ii 0), (ii 0), (ii 2), (ii 2), (ii 20), (ii 0), (ii 0)] true, bx be1 43 [(ii 5), (ii 2), (ii 20), (ii 0), (ii 80), (ii 0), (.slice none 0 0)] true] rfl fun w_48 a H HP => H.v 20 (.bool true) fun a H => ?_
 refine nl (tn (sq (rg ?_)))
 refine H.u 76 (.agg #[(ii 0), (ii 25), (ii 1), (ii 0), (.slice none 0 0), (ii 0), (ii 2), (ii 100), (ii 1), (.slice (some ⟨bi1, 0, none⟩) 2 2), (.slice (some ⟨be1, 0, none⟩) 1 1), (.slice none 0 0), (.slice none 0 0)]) (ex_lN [(ii 0), (ii 25), (ii 1), (ii 0), (.slice none 0 0), (ii 0), (ii 2), (ii 100), (ii 1), (.slice (some ⟨bi1, 0, none⟩) 2 2), (.slice (some ⟨be1, 0, none⟩) 1 1), (.slice none 0 0), (.slice none 0 0)] (HP.cells 13 rfl 0 13 (by kernel_rfl))) fun a H => H.cb HP 77 (Tryz.call14 _ _) ((by have hh := valid_any (exPl bi1 be1 80 0 none 0 []) w_48 (isEx (HP.at_ 14 rfl) (HP.at_ 15 rfl)) (hL.below HP.bl).rates; rw [show validPl (exPl bi1 be1 80 0 none 0 []) = true from by kernel_rfl] at hh; exact hh)) fun w_49 hb a H HP => H.v 78 (.bool true) fun a H => H.u 79 (.agg #[(ii 0), (ii 25), (ii 1), (ii 0), (.slice none 0 0), (ii 0), (ii 2), (ii 100), (ii 1), (.slice (some ⟨bi2, 0, none⟩) 2 2), (.slice (some ⟨be2, 0, none⟩) 1 1), (.slice none 0 0), (.slice none 0 0)]) (ex_lN [(ii 0), (ii 25), (ii 1), (ii 0), (.slice none 0 0), (ii 0), (ii 2), (ii 100), (ii 1), (.slice (some ⟨bi2, 0, none⟩) 2 2), (.slice (some ⟨be2, 0, none⟩) 1 1), (.slice none 0 0), (.slice none 0 0)] (HP.cells 10 rfl 0 13 (by kernel_rfl))) fun a H => H.cb HP 80 (Tryz.call14 _ _) ((by have hh := valid_any (exPl bi2 be2 81 0 none 0 []) w_49 (isEx (HP.at_ 11 rfl) (HP.at_ 12 rfl)) (hL.below HP.bl).rates; rw [show validPl (exPl bi2 be2 81 0 none 0 []) = false from by kernel_rfl] at hh; exact hh)) fun w_50 hb a H HP => H.v 81 (.bool true) fun a H => H.v 82 (.bool true) fun a H => H.v 83 (.bool true) fun a H => H.v 84 (.bool true) fun a H => H.v 85 (.bool true) fun a H => H.v 86 (.bool true) fun a H => H.u 87 (.agg #[(ii 0), (ii 25), (ii 1), (ii 0), (.slice none 0 0), (ii 0), (ii 2), (ii 100), (ii 1), (.slice (some ⟨bi3, 0, none⟩) 2 2), (.slice (some ⟨be3, 0, none⟩) 1 1), (.slice (some ⟨b_14, 0, none⟩) 1 1), (.slice none 0 0)]) (ex_lN [(ii 0), (ii 25), (ii 1), (ii 0), (.slice none 0 0), (ii 0), (ii 2), (ii 100), (ii 1), (.slice (some ⟨bi3, 0, none⟩) 2 2), (.slice (some ⟨be3, 0, none⟩) 1 1), (.slice (some ⟨b_14, 0, none⟩) 1 1), (.slice none 0 0)] (HP.cells 7 rfl 0 13 (by kernel_rfl))) fun a H => H.cb HP 88 (Tryz.call14 _ _) ((by have hh := valid_any (exPl bi3 be3 80 1 (some ⟨b_14, 0, none⟩) 1 [⟨1, 2, 1, 0, 50, 90, 0⟩]) w_50 (isExB (HP.at_ 8 rfl) (HP.at_ 9 rfl) (HP.at_ 6 rfl)) (hL.below HP.bl).rates; rw [show validPl (exPl bi3 be3 80 1 (some ⟨b_14, 0, none⟩) 1 [⟨1, 2, 1, 0, 50, 90, 0⟩]) = false from by kernel_rfl] at hh; exact hh)) fun w_51 hb a H HP => H.v 89 (.bool true) fun a H => H.v 90 (.bool true) fun a H => H.v 91 (.bool true) fun a H => ?_
 refine H.v 92 (ii 0) fun a H => H.v 93 (.bool true) fun a H => H.v 94 (.bool true) fun a H => H.v 95 (.bool true) fun a H => H.v 96 (ii 0) fun a H => H.v 97 (.bool true) fun a H => H.v 98 (.bool true) fun a H => H.v 99 (.bool true) fun a H => H.u 100 (.agg #[(ii 0), (ii 25), (ii 1), (ii 0), (.slice none 0 0), (ii 0), (ii 2), (ii 100), (ii 1), (.slice (some ⟨bi1, 0, none⟩) 2 2), (.slice (some ⟨be1, 0, none⟩) 1 1), (.slice none 0 0), (.slice none 0 0)]) (ex_lN [(ii 0), (ii 25), (ii 1), (ii 0), (.slice none 0 0), (ii 0), (ii 2), (ii 100), (ii 1), (.slice (some ⟨bi1, 0, none⟩) 2 2), (.slice (some ⟨be1, 0, none⟩) 1 1), (.slice none 0 0), (.slice none 0 0)] (HP.cells 13 rfl 0 13 (by kernel_rfl))) fun a H => H.u 101 (plV pd) (ex_lN (plL pd) (HP.cells 5 rfl 0 13 (by kernel_rfl))) fun a H => H.cb HP 102 (Tryz.call16 _ _) ((by have hh := same_any (exPl bi1 be1 80 0 none 0 []) pd w_51 (isEx (HP.at_ 14 rfl) (HP.at_ 15 rfl)) (HP.fact 0 rfl : IsPln _ pd); rw [show decide ((exPl bi1 be1 80 0 none 0 []).nv = pd.nv) = true from (by rw [hnv]; exact decide_eq_true rfl)] at hh; exact hh)) fun w_52 hb a H HP => H.v 103 (.bool true) fun a H => H.v 104 (.bool true) fun a H => H.u 105 (.agg #[(ii 0), (ii 25), (ii 1), (ii 0), (.slice none 0 0), (ii 0), (ii 2), (ii 100), (ii 1), (.slice (some ⟨bi1, 0, none⟩) 2 2), (.slice (some ⟨be1, 0, none⟩) 1 1), (.slice none 0 0), (.slice none 0 0)]) (ex_lN [(ii 0), (ii 25), (ii 1), (ii 0), (.slice none 0 0), (ii 0), (ii 2), (ii 100), (ii 1), (.slice (some ⟨bi1, 0, none⟩) 2 2), (.slice (some ⟨be1, 0, none⟩) 1 1), (.slice none 0 0), (.slice none 0 0)] (HP.cells 13 rfl 0 13 (by kernel_rfl))) fun a H => H.u 106 (.agg #[(ii 0), (ii 25), (ii 1), (ii 0), (.slice none 0 0), (ii 0), (ii 2), (ii 100), (ii 1), (.slice (some ⟨bi2, 0, none⟩) 2 2), (.slice (some ⟨be2, 0, none⟩) 1 1), (.slice none 0 0), (.slice none 0 0)]) (ex_lN [(ii 0), (ii 25), (ii 1), (ii 0), (.slice none 0 0), (ii 0), (ii 2), (ii 100), (ii 1), (.slice (some ⟨bi2, 0, none⟩) 2 2), (.slice (some ⟨be2, 0, none⟩) 1 1), (.slice none 0 0), (.slice none 0 0)] (HP.cells 10 rfl 0 13 (by kernel_rfl))) fun a H => H.cb HP 107 (Tryz.call16 _ _) ((by have hh := same_any (exPl bi1 be1 80 0 none 0 []) (exPl bi2 be2 81 0 none 0 []) w_52 (isEx (HP.at_ 14 rfl) (HP.at_ 15 rfl)) (isEx (HP.at_ 11 rfl) (HP.at_ 12 rfl)); rw [show decide ((exPl bi1 be1 80 0 none 0 []).nv = (exPl bi2 be2 81 0 none 0 []).nv) = false from (by kernel_rfl)] at hh; exact hh)) fun w_53 hb a H HP => ?_
 refine H.v 108 (.bool true) fun a H => H.v 109 (.bool true) fun a H => H.v 110 (.bool true) fun a H => H.v 111 (ii 80) fun a H => H.v 112 (.bool true) fun a H => H.v 113 (.bool true) fun a H => H.v 114 (.bool true) fun a H => H.v 115 (ii 10) fun a H => H.v 116 (.bool true) fun a H => H.v 117 (.bool true) fun a H => H.v 118 (.bool true) fun a H => H.v 119 (.bool true) fun a H => H.v 120 (.bool true) fun a H => H.v 121 (.bool true) fun a H => H.v 122 (pt b_30 2) fun a H => H.u 123 (ii 20) (ex_l1 (HP.cell 3 rfl 2 rfl)) fun a H => ?_
 refine H.v 124 (.bool true) fun a H => H.v 125 (.bool true) fun a H => H.v 126 (.bool true) fun a H => H.v 127 (.bool false) fun a H => H.v 128 (.bool true) fun a H => H.v 129 (.bool true) fun a H => H.v 130 (.bool true) fun a H => H.v 131 (.bool true) fun a H => H.v 132 (.bool true) fun a H => H.v 133 (.bool true) fun a H => H.v 134 (pt b_42 4) fun a H => H.u 135 (ii 80) (ex_l1 (HP.cell 1 rfl 4 rfl)) fun a H => H.v 136 (.bool true) fun a H => H.v 137 (.bool true) fun a H => H.v 138 (.bool true) fun a H => H.v 139 (.bool true) fun a H => ?_
 refine H.v 140 (.bool true) fun a H => H.v 141 (.bool true) fun a H => H.v 142 (pt b_46 5) fun a H => H.u 143 (ii 90) (ex_l1 (HP.cell 0 rfl 5 rfl)) fun a H => H.v 144 (.bool true) fun a H => H.v 145 (.bool true) fun a H => H.v 0 (.bool true) fun a H => ?_
 refine nl (tn (rt ?_))
 refine H.r1 (.bool true) Tryz.results12 ?_
 exact ⟨rfl, HP.bl⟩
end Go.Proofs.YteeillphhiaopaaGreatDoor
namespace Go.Proofs.YteeillphhiaopaaGreatDoor
set_option maxRecDepth 100000
set_option maxHeartbeats 4000000
open Go.ChangeShapes Go.WideShapes Go.ChangeAt Go.RowKit
set_option linter.unusedVariables false
structure PlFit (p : Pln) : Prop where
  sh : p.sh.length ≤ p.sc
  its : p.its.length ≤ p.ic
  bs : p.bs.length ≤ p.bc
  cs : p.cs.length ≤ p.cc
  en : ∀ e ∈ p.es, e.al.length ≤ e.c ∧ (e.A = none → e.c = 0)
structure Small (q : Pln) : Prop where
  sh : q.sh.length ≤ 45
  its : q.its.length ≤ 30
  es : q.es.length ≤ 30
  bs : q.bs.length ≤ 20
  cs : q.cs.length ≤ 20
  al : ∀ e ∈ q.es, e.al.length ≤ 9
  cap : q.its.length ≤ q.ic ∧ q.es.length ≤ q.ec ∧ q.bs.length ≤ q.bc ∧ q.cs.length ≤ q.cc
theorem small_of {p q : Pln} (h : q.nv = shN p.nv) (hf : PlFit p) (hc : (q.SA, q.sc, q.IA, q.ic, q.BA, q.bc, q.CA, q.cc) = (p.SA, p.sc, p.IA, p.ic, p.BA, p.bc, p.CA, p.cc) ∧ q.es.length ≤ q.ec ∧ (q.EA = none → q.ec = 0)) : Small q := by
  have e1 : q.sh = p.sh.take 45 := congrArg PlN.sh h
  have e2 : q.its = p.its.take 30 := congrArg PlN.its h
  have e3 : q.es.map Ent.nv = ((p.es.map Ent.nv).take 30).map sh9N := congrArg PlN.es h
  have e4 : q.bs = p.bs.take 20 := congrArg PlN.bs h
  have e5 : q.cs = p.cs.take 20 := congrArg PlN.cs h
  have l3 := congrArg List.length e3
  simp only [List.length_map, List.length_take] at l3
  simp only [Prod.mk.injEq] at hc
  obtain ⟨⟨_, _, _, c1, _, c2, _, c3⟩, c4, _⟩ := hc
  refine ⟨by rw [e1, tl_]; omega, by rw [e2, tl_]; omega, by omega, by rw [e4, tl_]; omega, by rw [e5, tl_]; omega, fun e he => ?_, by rw [e2, tl_, c1]; have := hf.its; omega, c4, by rw [e4, tl_, c2]; have := hf.bs; omega, by rw [e5, tl_, c3]; have := hf.cs; omega⟩
  have hm : e.nv ∈ q.es.map Ent.nv := List.mem_map_of_mem he
  rw [e3] at hm
  obtain ⟨x, _, hx⟩ := List.mem_map.1 hm
  have hx' := congrArg EnN.al hx
  have : e.al = x.al.take 9 := hx'.symm
  rw [this, tl_]
  omega
theorem rowFp_take {n m : Nat} {A : Option Addr} {j : Nat} (h : rowFp n A j) (hn : n ≤ m) : rowFp m A j := ⟨Nat.lt_of_lt_of_le h.1 hn, h.2⟩
theorem short_law (p : Pln) (w0 w : World) (hpl : IsPln w0 p) (hb : Below w0.heap.size w0 w) (hf : PlFit p) :
    Calls Tryz.prog 13 #[plV p] w fun e w' => ∃ q : Pln, e = .returned (plV q) ∧ q.nv = shN p.nv ∧ IsPln w' q ∧ (∀ j, q.fp j → j < w0.heap.size ∨ w.heap.size ≤ j) ∧ Small q ∧ Below w.heap.size w w' := by
  refine (short_any p w (hpl.below hb) ⟨hf.sh, hf.its, hf.bs, hf.cs⟩ hf.en).mono ?_
  rintro e w' ⟨q, rfl, hnv, hq, ⟨hen, hc⟩, hb'⟩
  refine ⟨q, rfl, hnv, hq, fun j hj => ?_, small_of hnv hf hc, hb'⟩
  have e1 : q.sh = p.sh.take 45 := congrArg PlN.sh hnv
  have e2 : q.its = p.its.take 30 := congrArg PlN.its hnv
  have e4 : q.bs = p.bs.take 20 := congrArg PlN.bs hnv
  have e5 : q.cs = p.cs.take 20 := congrArg PlN.cs hnv
  have hc1 := hc.1
  simp only [Prod.mk.injEq] at hc1
  obtain ⟨c1, _, c2, _, c3, _, c4, _⟩ := hc1
  rcases hj with h | h | h | h | h
  · rw [c1, e1] at h; exact .inl (hpl.lt j (.inl (rowFp_take h (by rw [tl_]; omega))))
  · rw [c2, e2] at h; exact .inl (hpl.lt j (.inr (.inl (rowFp_take h (by rw [tl_]; omega)))))
  · exact .inr (hen j h)
  · rw [c3, e4] at h; exact .inl (hpl.lt j (.inr (.inr (.inr (.inl (rowFp_take h (by rw [tl_]; omega)))))))
  · rw [c4, e5] at h; exact .inl (hpl.lt j (.inr (.inr (.inr (.inr (rowFp_take h (by rw [tl_]; omega)))))))
theorem Hp.keepQ {w0 w w' : World} {L : List HB} {K : List FK} (H : Hp w0 w L K) (hb : Below w.heap.size w w') (hL : (L.all fun x => x.fresh) = true) (q : Pln) (hq : IsPln w' q) (hfr : ∀ j, q.fp j → j < w0.heap.size ∨ w.heap.size ≤ j) : Hp w0 w' L (plnK q :: K) :=
  (H.next hb).keepF (plnK q) hq (plnK_ok q) fun j hj => ⟨hq.lt j hj, fun x hx hxk => by
    rcases hfr j hj with h | h
    · have := H.fresh x hx (List.all_eq_true.1 hL x hx) j hxk; omega
    · have := H.lt x hx j hxk; omega⟩
end Go.Proofs.YteeillphhiaopaaGreatDoor
namespace Go.Proofs.YteeillphhiaopaaGreatDoor
set_option maxRecDepth 100000
set_option maxHeartbeats 4000000
open Go.ChangeShapes Go.WideShapes Go.ChangeAt Go.RowKit
set_option linter.unusedVariables false
set_option linter.unusedSimpArgs false
theorem valid_law (p q : Pln) (w : World) (a0 a1 : Addr) (hL : LaidP a0 a1 w) (hpl_p : IsPln w p) (hf_p : PlFit p) (hpl_q : IsPln w q) (hf_q : PlFit q) : Calls Tryz.prog 3 #[(plV p), (plV q)] w fun e w' => e = .returned (.bool true) ∧ Below w.heap.size w w' := by
 have HP := Hp.start w
 refine w_enter 33 [(0, (plV p)), (1, (plV q))] Tryz.func3 rfl Tryz.ntmps3 (by kernel_rfl) (by kernel_rfl) fun a H => ?_
 refine sq (rg ?_)
 refine H.al HP 2 32 (plL p) fun b_1 w_2 a H HP => H.al HP 3 32 (plL q) fun b_3 w_4 a H HP => H.v 4 (.bool false) fun a H => ?_
 refine nl (tn (sq (rg ?_)))
 refine H.cb HP 6 (Tryz.call12 _ _) (sane_any a0 a1 w_4 (hL.below HP.bl)) fun w_5 hb a H HP => H.v 5 (.bool true) fun a H => ?_
 refine nl (tn (sq ?_))
 have HP := HP.front 1 rfl _ rfl
 refine An.start (fun v => Hp w v [bx b_3 32 (plL q) true] []) 5 6 HP wide_follows rfl fun w_6 HP => ?_
 refine An.vw H ((HP.tail rfl)) 2 9 (plV q) (fun _ hS => ex_lN (plL q) (hS.cells 0 rfl 0 13 (by kernel_rfl))) fun a H => ?_
 refine An.one 0 (by kernel_rfl) ?_
 refine Op.val H 7 (plV p) rfl (by kernel_rfl) (ex_lN (plL p) (HP.cells 0 rfl 0 13 (by kernel_rfl))) fun a H => ?_
 refine ⟨.inr ((HP.tail rfl)), ?_⟩
 refine An.one 1 (by kernel_rfl) ?_
 refine Op.call H 8 rfl (by kernel_rfl) (Eq.trans (by kernel_rfl : _ = (callFunc 13 #[(plV p)]).run Tryz.prog w_6) (Tryz.call13 _ _)) (short_law p w w_6 hpl_p HP.bl hf_p) ?_
 rintro e w_7 ⟨p1, rfl, hnv_p1, hq_p1, hfr_p1, hsm_p1, hb⟩
 refine ⟨_, rfl, ?_⟩
 intro a H
 have HP := HP.keepQ hb (by kernel_rfl) p1 hq_p1 hfr_p1
 refine ⟨.inr ((HP.tail rfl).untop), ?_⟩
 refine An.one 3 (by kernel_rfl) ?_
 refine Op.call H 10 rfl (by kernel_rfl) (Eq.trans (by kernel_rfl : _ = (callFunc 13 #[(plV q)]).run Tryz.prog w_7) (Tryz.call13 _ _)) (short_law q w w_7 hpl_q HP.bl hf_q) ?_
 rintro e w_8 ⟨p2, rfl, hnv_p2, hq_p2, hfr_p2, hsm_p2, hb⟩
 refine ⟨_, rfl, ?_⟩
 intro a H
 have HP := HP.keepQ hb (by kernel_rfl) p2 hq_p2 hfr_p2
 refine ⟨.inr ((HP.tail rfl).untop.untop), ?_⟩
 refine An.one 4 (by kernel_rfl) ?_
 refine Op.store H HP 0 b_1 0 13 32 (plL p) true (plV p1) [bx b_1 32 (plL p1) true, bx b_3 32 (plL q) true] rfl (by kernel_rfl) (by kernel_rfl) (by kernel_rfl) rfl (by kernel_rfl) (by kernel_rfl) (by kernel_rfl) (by kernel_rfl) (by kernel_rfl) fun w_9 a H HP => ?_
 refine ⟨.inr ((HP.tail rfl).untop.untop), ?_⟩
 refine An.one 5 (by kernel_rfl) ?_
 refine Op.store H HP 1 b_3 0 13 32 (plL q) true (plV p2) [bx b_1 32 (plL p1) true, bx b_3 32 (plL p2) true] rfl (by kernel_rfl) (by kernel_rfl) (by kernel_rfl) rfl (by kernel_rfl) (by kernel_rfl) (by kernel_rfl) (by kernel_rfl) (by kernel_rfl) fun w_10 a H HP => ?_
 refine ⟨.inl (by kernel_rfl), ?_⟩
 refine An.done (by kernel_rfl) ?_
 refine tn (sq ?_)
 refine An.start (fun v => Hp w v [bx b_1 32 (plL p1) true, bx b_3 32 (plL p2) true] [plnK p2, plnK p1]) 23 23 HP wide_follows rfl fun w_11 HP => ?_
 refine An.p H (.inr HP) 0 11 (.bool true) fun a H => ?_
 refine An.p H (.inr HP) 1 12 (.bool true) fun a H => ?_
 refine An.vw H (HP) 2 13 (plV p1) (fun _ hS => ex_lN (plL p1) (hS.cells 0 rfl 0 13 (by kernel_rfl))) fun a H => ?_
 refine An.vw H (HP) 4 15 (plV p1) (fun _ hS => ex_lN (plL p1) (hS.cells 0 rfl 0 13 (by kernel_rfl))) fun a H => ?_
 refine An.one 3 (by kernel_rfl) ?_
 refine Op.call H 14 rfl (by kernel_rfl) (Eq.trans (by kernel_rfl : _ = (callFunc 14 #[(plV p1)]).run Tryz.prog w_11) (Tryz.call14 _ _)) (valid_any p1 w_11 (HP.fact 1 rfl : IsPln _ p1) (hL.below HP.bl).rates) ?_
 rintro e w_12 ⟨rfl, hb⟩
 refine ⟨_, rfl, ?_⟩
 intro a H
 have HP := HP.next hb
 refine ⟨.inr (HP), ?_⟩
 refine An.one 5 (by kernel_rfl) ?_
 refine Op.call H 16 rfl (by kernel_rfl) (Eq.trans (by kernel_rfl : _ = (callFunc 15 #[(plV p1)]).run Tryz.prog w_12) (Tryz.call15 _ _)) (rvalid_any p1 w_12 (HP.fact 1 rfl : IsPln _ p1)) ?_
 rintro e w_13 ⟨rfl, hb⟩
 refine ⟨_, rfl, ?_⟩
 intro a H
 have HP := HP.next hb
 refine ⟨.inr (HP), ?_⟩
 refine An.pureE H (.inr (HP)) 6 17 (.bool (validPl p1 == validPl p1)) (.bool true) rfl (by kernel_rfl) (by kernel_rfl) (fun _ _ _ h => h) (fun _ => by kernel_rfl) ((congrArg Value.bool (beq_self_eq_true _))) fun a H => ?_
 refine An.p H (.inr HP) 7 18 (.bool true) fun a H => ?_
 refine An.p H (.inr HP) 8 19 (.bool true) fun a H => ?_
 refine An.vw H (HP) 9 20 (plV p1) (fun _ hS => ex_lN (plL p1) (hS.cells 0 rfl 0 13 (by kernel_rfl))) fun a H => ?_
 refine An.vw H (HP) 10 21 (plV p2) (fun _ hS => ex_lN (plL p2) (hS.cells 1 rfl 0 13 (by kernel_rfl))) fun a H => ?_
 refine An.vw H (HP) 12 23 (plV p1) (fun _ hS => ex_lN (plL p1) (hS.cells 0 rfl 0 13 (by kernel_rfl))) fun a H => ?_
 refine An.vw H (HP) 13 24 (plV p2) (fun _ hS => ex_lN (plL p2) (hS.cells 1 rfl 0 13 (by kernel_rfl))) fun a H => ?_
 refine An.one 11 (by kernel_rfl) ?_
 refine Op.call H 22 rfl (by kernel_rfl) (Eq.trans (by kernel_rfl : _ = (callFunc 16 #[(plV p1), (plV p2)]).run Tryz.prog w_13) (Tryz.call16 _ _)) (same_any p1 p2 w_13 (HP.fact 1 rfl : IsPln _ p1) (HP.fact 0 rfl : IsPln _ p2)) ?_
 rintro e w_14 ⟨rfl, hb⟩
 refine ⟨_, rfl, ?_⟩
 intro a H
 have HP := HP.next hb
 refine ⟨.inr (HP), ?_⟩
 refine An.one 14 (by kernel_rfl) ?_
 refine Op.call H 25 rfl (by kernel_rfl) (Eq.trans (by kernel_rfl : _ = (callFunc 17 #[(plV p1), (plV p2)]).run Tryz.prog w_14) (Tryz.call17 _ _)) (rsame_any p1 p2 w_14 (HP.fact 1 rfl : IsPln _ p1) (HP.fact 0 rfl : IsPln _ p2)) ?_
 rintro e w_15 ⟨rfl, hb⟩
 refine ⟨_, rfl, ?_⟩
 intro a H
 have HP := HP.next hb
 refine ⟨.inr (HP), ?_⟩
 refine An.pureE H (.inr (HP)) 15 26 (.bool (decide (p1.nv = p2.nv) == decide (p1.nv = p2.nv))) (.bool true) rfl (by kernel_rfl) (by kernel_rfl) (fun _ _ _ h => h) (fun _ => by kernel_rfl) ((congrArg Value.bool (beq_self_eq_true _))) fun a H => ?_
 refine An.p H (.inr HP) 16 27 (.bool true) fun a H => ?_
 refine An.p H (.inr HP) 17 28 (.bool true) fun a H => ?_
 refine An.vw H (HP) 18 29 (plV p1) (fun _ hS => ex_lN (plL p1) (hS.cells 0 rfl 0 13 (by kernel_rfl))) fun a H => ?_
 refine An.vw H (HP) 19 30 (plV p1) (fun _ hS => ex_lN (plL p1) (hS.cells 0 rfl 0 13 (by kernel_rfl))) fun a H => ?_
 refine An.one 20 (by kernel_rfl) ?_
 refine Op.call H 31 rfl (by kernel_rfl) (Eq.trans (by kernel_rfl : _ = (callFunc 16 #[(plV p1), (plV p1)]).run Tryz.prog w_15) (Tryz.call16 _ _)) ((by have hh := same_any p1 p1 w_15 (HP.fact 1 rfl : IsPln _ p1) (HP.fact 1 rfl : IsPln _ p1); rw [decide_eq_true (rfl : p1.nv = p1.nv)] at hh; exact hh)) ?_
 rintro e w_16 ⟨rfl, hb⟩
 refine ⟨_, rfl, ?_⟩
 intro a H
 have HP := HP.next hb
 refine ⟨.inr (HP), ?_⟩
 refine An.p H (.inr HP) 21 32 (.bool true) fun a H => ?_
 refine An.p H (.inr HP) 22 4 (.bool true) fun a H => ?_
 refine An.done (by kernel_rfl) ?_
 refine tn (rt ?_)
 refine H.r1 (.bool true) Tryz.results3 ?_
 exact ⟨rfl, HP.bl⟩
end Go.Proofs.YteeillphhiaopaaGreatDoor
namespace Go.Proofs.YteeillphhiaopaaGreatDoor
set_option maxRecDepth 100000
set_option maxHeartbeats 4000000
open Go.ChangeShapes Go.WideShapes Go.ChangeAt Go.RowKit Go.Deep
set_option linter.unusedVariables false
structure Op (P : Program) (t : TypeId) (α : Type) where
  size : Nat
  cells : α → List Value
  ok : World → α → Prop
  csize : P.cellsOf t = size
  len : ∀ a, (cells a).length = size
  opens : ∀ {H : Type} {enc : TypeId × Value → H} {w : World} {base : Nat} {held : Bool} {fuel : Nat} {cs : List Value} {x : DataW H × List MemPlace},
    DataW.trod enc P w base (fun _ => true) held fuel t cs = some x → (∀ n ∈ x.1.weights P t, n ≤ reachBytes) → ∃ a, cs = cells a ∧ ok w a
structure SlA (α : Type) where
  A : Option Addr
  c : Nat
  l : List α
section
variable {P : Program} {t e : TypeId} {α β : Type}
noncomputable def opInt (k : IntKind) (hu : P.underlying t = some (.int k)) (hc : P.cellsOf t = 1) : Op P t Int where
  size := 1
  cells n := [.int k n]
  ok _ n := (Lit.int k n).wf = true
  csize := hc
  len _ := rfl
  opens h _ := by
    obtain ⟨n, rfl, rfl, hw⟩ := DataW.trod_int hu h
    exact ⟨n, rfl, hw⟩
theorem weightsAll_mem {H : Type} {d : DataW H} {l : List (DataW H)} (h : d ∈ l) : ∀ n ∈ d.weights P e, n ∈ DataW.weightsAll P e l := by
  induction l with
  | nil => cases h
  | cons y l ih =>
    intro n hn
    rw [DataW.weightsAll]
    rcases List.mem_cons.1 h with rfl | h
    · exact List.mem_append_left _ hn
    · exact List.mem_append_right _ (ih h n hn)
theorem choose_list {Q : Nat → α → Prop} : ∀ n : Nat, (∀ i, i < n → ∃ a, Q i a) → ∃ l : List α, l.length = n ∧ ∀ i a, l[i]? = some a → Q i a := by
  intro n
  induction n with
  | zero => intro _; exact ⟨[], rfl, by simp⟩
  | succ n ih =>
    intro h
    obtain ⟨l, hl, hq⟩ := ih (fun i hi => h i (by omega))
    obtain ⟨a, ha⟩ := h n (by omega)
    refine ⟨l ++ [a], by simp [hl], fun i b hb => ?_⟩
    by_cases hi : i < l.length
    · rw [List.getElem?_append_left hi] at hb
      exact hq i b hb
    · rw [List.getElem?_append_right (by omega)] at hb
      have h0 : i - l.length = 0 := by
        have := (List.getElem?_eq_some_iff.1 hb).1
        simp at this
        omega
      rw [h0] at hb
      simp at hb
      subst hb
      obtain rfl : i = n := by omega
      exact ha
theorem flatO_get {f : α → List Value} {s : Nat} (hf : ∀ a, (f a).length = s) : ∀ (l : List α) (i j : Nat) (a : α), l[i]? = some a → j < s → (l.flatMap f)[i * s + j]? = (f a)[j]? := by
  intro l
  induction l with
  | nil => intro i j a h; simp at h
  | cons y l ih =>
    intro i j a h hj
    cases i with
    | zero =>
      simp at h
      subst h
      simp only [List.flatMap_cons, Nat.zero_mul, Nat.zero_add]
      rw [List.getElem?_append_left (by rw [hf]; exact hj)]
    | succ i =>
      simp only [List.flatMap_cons]
      rw [List.getElem?_append_right (by rw [hf, Nat.add_mul]; omega), hf, show (i + 1) * s + j - s = i * s + j by rw [Nat.add_mul]; omega]
      exact ih i j a (by simpa using h) hj
theorem flatO_len {f : α → List Value} {s : Nat} (hf : ∀ a, (f a).length = s) : ∀ l : List α, (l.flatMap f).length = l.length * s := by
  intro l
  induction l with
  | nil => simp
  | cons y l ih => simp only [List.flatMap_cons, List.length_append, List.length_cons, ih, hf, Nat.add_mul]; omega
theorem rd_of_cells {w : World} {a : Addr} {s : Nat} {f : α → List Value} (hf : ∀ x, (f x).length = s) (hs : 0 < s) {l : List α}
    (h : ∀ i x, l[i]? = some x → ∀ j, j < s → w.cell? ((a.add (i * s)).add j) = (f x)[j]?) : Rd w s (some a) l.length (l.flatMap f) := by
  refine ⟨flatO_len hf l, ?_⟩
  by_cases hn : l.length = 0
  · exact .inl hn
  · have hl : 0 < l.length := by omega
    have h0 := h 0 l[0] (List.getElem?_eq_getElem hl) 0 hs
    have hv : ∃ v, (f l[0])[0]? = some v := ⟨_, List.getElem?_eq_getElem (by rw [hf]; exact hs)⟩
    obtain ⟨v, hv⟩ := hv
    rw [hv] at h0
    have hsp : a.spot = none := by
      unfold World.cell? at h0
      split at h0
      · by_cases hs : a.spot.isSome = true
        · simp [Addr.add, hs] at h0
        · simpa using hs
      · simp at h0
    obtain ⟨b, off, sp⟩ := a
    simp only at hsp
    subst hsp
    have e0 : (((⟨b, off, none⟩ : Addr).add (0 * s)).add 0) = ⟨b, off, none⟩ := by simp [Addr.add]
    rw [e0] at h0
    refine .inr ⟨b, off, rfl, World.block_lt_of_cell? w _ h0, fun i hi => ?_⟩
    have hq : i / s < l.length := Nat.div_lt_of_lt_mul (by rw [Nat.mul_comm]; exact hi)
    have hm : i % s < s := Nat.mod_lt _ hs
    have hx := h (i / s) l[i / s] (List.getElem?_eq_getElem hq) (i % s) hm
    have hg := flatO_get hf l (i / s) (i % s) _ (List.getElem?_eq_getElem hq) hm
    have hi2 : i / s * s + i % s = i := by rw [Nat.mul_comm]; exact Nat.div_add_mod i s
    rw [hi2] at hg
    rw [hg, ← hx]
    congr 1
    simp only [Addr.add]
    split <;> split <;> simp <;> omega
noncomputable def opSlice (o : Op P e α) (bytes : Nat) (hu : P.underlying t = some (.slice e)) (hb : P.bytesOf e = bytes) (hc : P.cellsOf t = 1) (hs : 0 < o.size) : Op P t (SlA α) where
  size := 1
  cells s := [.slice s.A s.l.length s.c]
  ok w s := Rd w o.size s.A s.l.length (s.l.flatMap o.cells) ∧ (∀ a ∈ s.l, o.ok w a) ∧ s.l.length ≤ s.c ∧ s.c ≤ maxLen ∧ (s.A = none → s.c = 0) ∧ s.c * bytes ≤ reachBytes
  csize := hc
  len _ := rfl
  opens {H enc w base held fuel cs x} h hw := by
    rcases open_slice hu h with ⟨rfl, rfl⟩ | ⟨a, len, cap, m, n, D, Pl, rfl, hba, hl, hm, hmm, rfl, hi⟩
    · exact ⟨⟨none, 0, []⟩, rfl, Rd.nil _ _ _, by simp, Nat.le_refl _, Nat.zero_le _, fun _ => rfl, by simp⟩
    · simp only [if_true] at hmm
      subst hmm
      have hwt : ∀ k ∈ ((len + (m - len)) * bytes) :: DataW.weightsAll P e ((List.range len).map D), k ≤ reachBytes := by
        intro k hk
        simp only [DataW.weights, hu, hb] at hw
        rcases List.mem_cons.1 hk with rfl | hk
        · exact hw _ (by simp)
        · exact hw k (by simp [hk])
      obtain ⟨l, hll, hq⟩ := choose_list (Q := fun i x => (∀ j, j < o.size → w.cell? ((a.add (i * o.size)).add j) = (o.cells x)[j]?) ∧ o.ok w x) len (fun i hi' => by
        obtain ⟨cs', hcs, htr⟩ := hi i (by omega)
        obtain ⟨x, rfl, hok⟩ := o.opens htr (fun k hk => hwt k (List.mem_cons_of_mem _ (weightsAll_mem (d := D i) (List.mem_map.2 ⟨i, by simpa using hi', rfl⟩) k hk)))
        rw [o.csize] at hcs
        obtain ⟨_, _, hat⟩ := World.cells?_some hcs
        exact ⟨x, hat, hok⟩)
      subst hll
      refine ⟨⟨some a, m, l⟩, rfl, rd_of_cells o.len hs (fun i x hx => (hq i x hx).1), fun x hx => ?_, hl, hm, (fun h => by cases h), ?_⟩
      · obtain ⟨i, hi', hx'⟩ := List.getElem_of_mem hx
        exact (hq i x (by rw [List.getElem?_eq_getElem hi', hx'])).2
      · have := hwt _ (List.mem_cons_self ..)
        rwa [Nat.add_sub_cancel' hl] at this
structure OpF (P : Program) (fs : List Field) (off : Nat) (α : Type) where
  size : Nat
  cells : α → List Value
  ok : World → α → Prop
  len : ∀ a, (cells a).length = size
  opens : ∀ {H : Type} {enc : TypeId × Value → H} {w : World} {base : Nat} {held : Bool} {fuel : Nat} {cs : List Value} {ys : List (DataW H × List MemPlace)},
    cs.length = off + size → (∀ (i : Nat) (f : Field), fs[i]? = some f → DataW.trod enc P w base (fun _ => true) held fuel f.type ((cs.drop f.offset).take (P.cellsOf f.type)) = ys[i]?) → ys.length = fs.length →
    (∀ n ∈ DataW.weightsEach P (fs.map (·.type)) (ys.map (·.1)), n ≤ reachBytes) → ∃ a, cs.drop off = cells a ∧ ok w a
noncomputable def opNil (off : Nat) : OpF P [] off Unit where
  size := 0
  cells _ := []
  ok _ _ := True
  len _ := rfl
  opens h _ _ _ := ⟨(), by rw [List.drop_of_length_le (by omega)], trivial⟩
noncomputable def opCons {f : Field} {fs : List Field} {off : Nat} (o : Op P f.type α) (r : OpF P fs (off + o.size) β) (hoff : f.offset = off) : OpF P (f :: fs) off (α × β) where
  size := o.size + r.size
  cells p := o.cells p.1 ++ r.cells p.2
  ok w p := o.ok w p.1 ∧ r.ok w p.2
  len p := by rw [List.length_append, o.len, r.len]
  opens {H enc w base held fuel cs ys} h hf hl hw := by
    match ys, hl with
    | y :: ys, hl =>
      have h0 := hf 0 f rfl
      simp only [hoff, o.csize, List.getElem?_cons_zero] at h0
      obtain ⟨a, ha, hok⟩ := o.opens h0 (fun n hn => hw n (by simp [DataW.weightsEach, hn]))
      obtain ⟨b, hb, hok2⟩ := r.opens (cs := cs) (ys := ys) (by omega) (fun i g hg => by simpa using hf (i + 1) g (by simpa using hg)) (by simpa using hl) (fun n hn => hw n (by simp only [List.map_cons, DataW.weightsEach]; exact List.mem_append_right _ hn))
      refine ⟨(a, b), ?_, hok, hok2⟩
      simp only
      rw [← ha, ← hb, ← List.drop_drop]
      exact (List.take_append_drop _ _).symm
noncomputable def opStruct {fs : Array Field} (r : OpF P fs.toList 0 α) (hu : P.underlying t = some (.struct fs)) (hc : P.cellsOf t = r.size) : Op P t α where
  size := r.size
  cells := r.cells
  ok := r.ok
  csize := hc
  len := r.len
  opens {H enc w base held fuel cs x} h hw := by
    obtain ⟨xs, n, _, rfl, hlen, hxl, hg⟩ := DataW.trod_struct hu h
    obtain ⟨a, ha, hok⟩ := r.opens (cs := cs) (ys := xs) (by rw [hlen, hc]; omega) (fun i f hf => hg i f (by simpa using hf)) (by simpa using hxl) (fun k hk => hw k (by simpa [DataW.weights, hu] using hk))
    exact ⟨a, by simpa using ha, hok⟩
noncomputable def opMap (o : Op P t α) (f : α → β) (cells' : β → List Value) (ok' : World → β → Prop) (h1 : ∀ a, o.cells a = cells' (f a)) (h2 : ∀ w a, o.ok w a → ok' w (f a)) (h3 : ∀ b, (cells' b).length = o.size) : Op P t β where
  size := o.size
  cells := cells'
  ok := ok'
  csize := o.csize
  len := h3
  opens h hw := by
    obtain ⟨a, ha, hok⟩ := o.opens h hw
    exact ⟨f a, by rw [ha, h1], h2 _ _ hok⟩
end
end Go.Proofs.YteeillphhiaopaaGreatDoor
namespace Go.Proofs.YteeillphhiaopaaGreatDoor
set_option maxRecDepth 100000
set_option maxHeartbeats 4000000
open Go.ChangeShapes Go.WideShapes Go.ChangeAt Go.RowKit
set_option linter.unusedVariables false
noncomputable def opI : Op Tryz.prog 3 Int := opInt .i64 Tryz.underlying3 (by kernel_rfl)
noncomputable def opSh : Op Tryz.prog 76 (Int × Int) := opMap (opStruct (opCons opI (opCons opI (opNil _) rfl) rfl) Tryz.underlying76 (by kernel_rfl)) (fun p => (p.1, p.2.1)) (fun a => (altC a).toList) (fun _ a => True) (fun a => rfl) (fun w a h => trivial) (fun _ => rfl)
noncomputable def opAl : Op Tryz.prog 62 (Int × Int) := opMap (opStruct (opCons opI (opCons opI (opNil _) rfl) rfl) Tryz.underlying62 (by kernel_rfl)) (fun p => (p.1, p.2.1)) (fun a => (altC a).toList) (fun _ a => True) (fun a => rfl) (fun w a h => trivial) (fun _ => rfl)
noncomputable def opIt : Op Tryz.prog 38 Itm := opMap (opStruct (opCons opI (opCons opI (opCons opI (opCons opI (opCons opI (opNil _) rfl) rfl) rfl) rfl) rfl) Tryz.underlying38 (by kernel_rfl)) (fun ⟨a, b, c, d, e, _⟩ => ⟨a, b, c, d, e⟩) (fun a => (itC a).toList) (fun _ a => True) (fun a => rfl) (fun w a h => trivial) (fun _ => rfl)
noncomputable def opBk : Op Tryz.prog 47 Bkg := opMap (opStruct (opCons opI (opCons opI (opCons opI (opCons opI (opCons opI (opCons opI (opCons opI (opNil _) rfl) rfl) rfl) rfl) rfl) rfl) rfl) Tryz.underlying47 (by kernel_rfl)) (fun ⟨a, b, c, d, e, f, g, _⟩ => ⟨a, b, c, d, e, f, g⟩) (fun a => (bkC a).toList) (fun _ a => True) (fun a => rfl) (fun w a h => trivial) (fun _ => rfl)
noncomputable def opCl : Op Tryz.prog 73 Cls := opMap (opStruct (opCons opI (opCons opI (opCons opI (opCons opI (opCons opI (opCons opI (opCons opI (opCons opI (opNil _) rfl) rfl) rfl) rfl) rfl) rfl) rfl) rfl) Tryz.underlying73 (by kernel_rfl)) (fun ⟨a, b, c, d, e, f, g, h, _⟩ => ⟨a, b, c, d, e, f, g, h⟩) (fun a => (clC a).toList) (fun _ a => True) (fun a => rfl) (fun w a h => trivial) (fun _ => rfl)
noncomputable def opAls : Op Tryz.prog 41 (SlA (Int × Int)) := opSlice opAl 16 Tryz.underlying41 (by kernel_rfl) (by kernel_rfl) (by decide)
noncomputable def opEn : Op Tryz.prog 43 Ent := opMap (opStruct (opCons opI (opCons opI (opCons opI (opCons opI (opCons opI (opCons opI (opCons opAls (opNil _) rfl) rfl) rfl) rfl) rfl) rfl) rfl) Tryz.underlying43 (by kernel_rfl)) (fun ⟨a, b, c, d, e, f, s, _⟩ => ⟨a, b, c, d, e, f, s.A, s.c, s.l⟩) (fun a => (enC a).toList)
  (fun w x => x.ok w ∧ x.al.length ≤ x.c ∧ (x.A = none → x.c = 0)) (fun a => rfl)
  (fun w a h => by
    obtain ⟨a1, a2, a3, a4, a5, a6, s, _⟩ := a
    obtain ⟨_, _, _, _, _, _, ⟨p1, p2, p3, p4, p5, p6⟩, _⟩ := h
    exact ⟨⟨p1, Nat.le_trans p3 p4⟩, p3, p5⟩) (fun _ => rfl)
noncomputable def opShs : Op Tryz.prog 24 (SlA (Int × Int)) := opSlice opSh 16 Tryz.underlying24 (by kernel_rfl) (by kernel_rfl) (by decide)
noncomputable def opIts : Op Tryz.prog 27 (SlA Itm) := opSlice opIt 40 Tryz.underlying27 (by kernel_rfl) (by kernel_rfl) (by decide)
noncomputable def opEns : Op Tryz.prog 28 (SlA Ent) := opSlice opEn 72 Tryz.underlying28 (by kernel_rfl) (by kernel_rfl) (by decide)
noncomputable def opBks : Op Tryz.prog 29 (SlA Bkg) := opSlice opBk 56 Tryz.underlying29 (by kernel_rfl) (by kernel_rfl) (by decide)
noncomputable def opCls : Op Tryz.prog 30 (SlA Cls) := opSlice opCl 64 Tryz.underlying30 (by kernel_rfl) (by kernel_rfl) (by decide)
noncomputable def opRate : Op Tryz.prog 23 (Int × (Int × Unit)) := opStruct (opCons opI (opCons opI (opNil _) rfl) rfl) Tryz.underlying23 (by kernel_rfl)
noncomputable def opZone : Op Tryz.prog 26 (Int × (SlA (Int × Int) × Unit)) := opStruct (opCons opI (opCons opShs (opNil _) rfl) rfl) Tryz.underlying26 (by kernel_rfl)
noncomputable def opPl0 : Op Tryz.prog 32 (Int × ((Int × (Int × Unit)) × ((Int × (SlA (Int × Int) × Unit)) × (Int × (Int × (Int × (Int × (SlA Itm × (SlA Ent × (SlA Bkg × (SlA Cls × Unit))))))))))) :=
  opStruct (opCons opI (opCons opRate (opCons opZone (opCons opI (opCons opI (opCons opI (opCons opI (opCons opIts (opCons opEns (opCons opBks (opCons opCls (opNil _) rfl) rfl) rfl) rfl) rfl) rfl) rfl) rfl) rfl) rfl) rfl) Tryz.underlying32 (by kernel_rfl)
noncomputable def opPl : Op Tryz.prog 32 Pln := opMap opPl0 (fun ⟨a, b, c, d, e, f, g, i, n, k, l, _⟩ => ⟨a, b.1, b.2.1, c.1, c.2.1.A, c.2.1.c, c.2.1.l, d, e, f, g, i.A, i.c, i.l, n.A, n.c, n.l, k.A, k.c, k.l, l.A, l.c, l.l⟩) (fun p => plC p) (fun w p => IsPln w p ∧ PlFit p) (fun a => rfl)
  (fun w a h => by
    obtain ⟨a1, b, ⟨c1, c2, _⟩, d, e, f, g, i, n, k, l, _⟩ := a
    obtain ⟨_, _, ⟨_, ⟨s1, s2, s3, s4, s5, s6⟩, _⟩, _, _, _, _, ⟨i1, i2, i3, i4, i5, i6⟩, ⟨n1, n2, n3, n4, n5, n6⟩, ⟨k1, k2, k3, k4, k5, k6⟩, ⟨l1, l2, l3, l4, l5, l6⟩, _⟩ := h
    exact ⟨⟨s1, i1, ⟨n1, fun x hx => (n2 x hx).1⟩, k1, l1, Nat.le_trans s3 s4, Nat.le_trans i3 i4, Nat.le_trans n3 n4, Nat.le_trans k3 k4, Nat.le_trans l3 l4⟩, ⟨s3, i3, k3, l3, fun x hx => (n2 x hx).2⟩⟩) (fun _ => rfl)
end Go.Proofs.YteeillphhiaopaaGreatDoor
namespace Go.Proofs.YteeillphhiaopaaGreatDoor.planValidMatchesReference
set_option maxRecDepth 100000
set_option maxHeartbeats 4000000
open Go.ChangeShapes Go.WideShapes Go.ChangeAt Go.RowKit
set_option linter.unusedVariables false
theorem walk (x0 : Pln) (x1 : Pln) (w : World) (h : ∃ a0 a1, LaidP a0 a1 w) (hx0 : opPl.ok w x0) (hx1 : opPl.ok w x1) : Calls Tryz.prog 3 #[plV x0, plV x1] w fun e w' => e = .returned (.bool true) ∧ Below w.heap.size w w' := by
  obtain ⟨a0, a1, hL⟩ := h
  have kx0 : IsPln w x0 ∧ PlFit x0 := hx0
  have kx1 : IsPln w x1 ∧ PlFit x1 := hx1
  exact valid_law x0 x1 w a0 a1 hL kx0.1 kx0.2 kx1.1 kx1.2
end Go.Proofs.YteeillphhiaopaaGreatDoor.planValidMatchesReference
namespace Go.Proofs.YteeillphhiaopaaGreatDoor.planValidMatchesReference
set_option maxRecDepth 100000
set_option maxHeartbeats 4000000
open Go.ChangeShapes Go.WideShapes Go.ChangeAt Go.RowKit
open Go.ChangeMaps (open_string shut_string)
set_option linter.unusedVariables false
theorem own : ownKnob Tryz.prog.godebug = none := by kernel_rfl
theorem laidOut : laidOutB Tryz.prog = true := by kernel_rfl
set_option maxRecDepth 100000 in
theorem lifted (os : Os) (started : os.Started) (H : Type) (enc : TypeId × Value → H) :
    ReturnsInHanded {} Tryz.checked os 3 .any (fun w args => (Rows.planValidMatchesReferenceSpec.pre enc Tryz.prog Tryz.f3 [] false w args ∧ laidMetH Tryz.prog laid2 w) ∧ sizedMet enc Tryz.prog Tryz.f3 (OpenSpec.ofChange Rows.planValidMatchesReferenceSpec) false w args) (Rows.planValidMatchesReferenceSpec.post enc Tryz.prog Tryz.f3 false true false false) := by
  refine returnsInHanded_of_change_and (C := Tryz.checked) (X := fun w _ => laidMetH Tryz.prog laid2 w) (fun _ _ _ hh h => h.of_heap hh) own started (by kernel_rfl) Tryz.func3
    (ChangeSpec.witness_shaped (enc := enc) (C := Tryz.checked) (os := os) (X := fun w _ => laidMetH Tryz.prog laid2 w) false (World.doorLaid Tryz.prog 4000 os) #[.agg #[.int .i64 0, .int .i64 0, .int .i64 0, .int .i64 0, .slice none 0 0, .int .i64 0, .int .i64 0, .int .i64 0, .int .i64 0, .slice none 0 0, .slice none 0 0, .slice none 0 0, .slice none 0 0], .agg #[.int .i64 0, .int .i64 0, .int .i64 0, .int .i64 0, .slice none 0 0, .int .i64 0, .int .i64 0, .int .i64 0, .int .i64 0, .slice none 0 0, .slice none 0 0, .slice none 0 0, .slice none 0 0]] 12 rfl (World.shaped_of_RefB (by kernel_rfl) (by kernel_rfl)) (by kernel_rfl) (by kernel_rfl) (by kernel_rfl) (door_met os _)) ?_
  intro W base args ds gs before hval0 hW hcnd hsz0 hL _
  have hval : ∀ (j : Nat) t v, Tryz.f3.params[j]? = some t → args[j]? = some v → Value.okWide Tryz.prog W .any base t v := hval0
  have hW' := hW
  obtain ⟨p, q, hA0, hV, rfl, hfz, hnd⟩ := hW
  have hA : DataW.TrodAll enc Tryz.prog W 0 (fun _ => true) true Tryz.f3.params.toList args.toList ds p := hA0
  have hsz : (DataW.weightsEach Tryz.prog (Tryz.f3.params.toList ++ Rows.planValidMatchesReferenceSpec.plain.varTypes Tryz.prog) (ds ++ gs)).all (· ≤ reachBytes) = true := hsz0
  rw [Tryz.params3] at hA hval hsz
  obtain ⟨v0, vs0, d0, ds0, p0, q0, hargs, rfl, rfl, h0, r0⟩ := trodAll_cons hA
  obtain ⟨v1, vs1, d1, ds1, p1, q1, rfl, rfl, rfl, h1, r1⟩ := trodAll_cons r0
  obtain ⟨rfl, rfl, rfl⟩ := trodAll_nil r1
  obtain rfl : args = #[v0, v1] := by cases args; simp_all
  obtain ⟨rfl, rfl⟩ := trodVars_none hV
  obtain ⟨cs0, rfl, _⟩ := okWide_struct Tryz.underlying32 (hval 0 32 v0 rfl rfl)
  have k0 := h0
  have lt0 : ∀ x ∈ p0, x.block < W.heap.size := by obtain ⟨m, hm⟩ := k0; exact DataW.trod_lt m _ _ _ hm
  obtain ⟨a0, w0, e0⟩ : ∃ a, opPl.ok W a ∧ cs0 = (opPl.cells a).toArray := by
    obtain ⟨fuel, hf⟩ := h0
    obtain ⟨a, ha, hok⟩ := opPl.opens hf (fun n hn => of_decide_eq_true (List.all_eq_true.1 hsz n (DataW.weights_mem_each (j := 0) (t := 32) (by rfl) (by rfl) n hn)))
    refine ⟨a, hok, ?_⟩
    have : cs0.toList = opPl.cells a := ha
    rw [← this]
  subst e0
  obtain ⟨cs1, rfl, _⟩ := okWide_struct Tryz.underlying32 (hval 1 32 v1 rfl rfl)
  have k1 := h1
  have lt1 : ∀ x ∈ p1, x.block < W.heap.size := by obtain ⟨m, hm⟩ := k1; exact DataW.trod_lt m _ _ _ hm
  obtain ⟨a1, w1, e1⟩ : ∃ a, opPl.ok W a ∧ cs1 = (opPl.cells a).toArray := by
    obtain ⟨fuel, hf⟩ := h1
    obtain ⟨a, ha, hok⟩ := opPl.opens hf (fun n hn => of_decide_eq_true (List.all_eq_true.1 hsz n (DataW.weights_mem_each (j := 1) (t := 32) (by rfl) (by rfl) n hn)))
    refine ⟨a, hok, ?_⟩
    have : cs1.toList = opPl.cells a := ha
    rw [← this]
  subst e1
  clear hA0 hval0 hsz0
  refine (walk a0 a1 W (laid_of hL) w0 w1).mono fun e W' ⟨he, bel⟩ => ?_
  subst he
  exact ⟨_, rfl, _, _, _, [], _, [], hW', trodAll_mk1 (shut_bool Tryz.underlying4 _), (trodAll_cons_mk (Below.trod laidOut (by kernel_rfl) (of_decide_eq_true (by kernel_rfl)) k0 bel lt0) (trodAll_cons_mk (Below.trod laidOut (by kernel_rfl) (of_decide_eq_true (by kernel_rfl)) k1 bel lt1) trodAll_mk0)), rfl, bel.frame _, fun h => by cases h⟩
theorem over : Rows.planValidMatchesReferenceRow.holds Tryz.pinned (OpenSpec.ofChange Rows.planValidMatchesReferenceSpec) :=
  OpenClaim.holds_of_wide 3 Tryz.f3 rfl rfl rfl rfl rfl rfl rfl ⟨rfl, rfl, rfl, rfl, rfl⟩ rfl rfl rfl rfl rfl (by kernel_rfl) Tryz.func3 (by kernel_rfl)
    (of_decide_eq_true (by kernel_rfl)) (by unfold Func.isWrapper; first | (rw [if_pos (by decide +kernel)]; kernel_rfl) | (rw [if_neg (by decide +kernel)]; exact ⟨rfl, rfl⟩))
    (fun os started H enc _ => lifted os started H enc)
theorem proved : Rows.PlanValidMatchesReferenceCardSaid :=
  Claim7.holds_tied_plain_at .later [] [.data, .sentinel, .sentinel] true (true, "0920b850dcc38d1adf8ac1a12a8052cedc72f0c93030e4301d2dcc84e7d73c35") true
    over (fun _ h => by cases h) (by kernel_rfl) (fun _ h => by cases h) planValidMatchesReference_row_tie rfl ⟨rfl, rfl⟩ (by kernel_rfl) rfl
    (fun f fn hf hfn => by
      obtain rfl : f = 3 := Option.some.inj ((show Tryz.prog.funcNamed "onair/onairlaw08.PlanValidMatchesReference" = some 3 by kernel_rfl).symm.trans hf) |>.symm
      obtain rfl : fn = Tryz.f3 := (Option.some.inj (Tryz.func3.symm.trans hfn)).symm
      exact ⟨by kernel_rfl, fun j t ht => by
        rw [Tryz.params3] at ht
        have hm : t ∈ [32, 32] := by simpa using Array.mem_of_getElem? ht
        have hall : ([32, 32].all fun u => !Tryz.prog.wantsStandIn u) = true := by kernel_rfl
        exact (show Tryz.prog.wantsStandIn t = false by simpa using List.all_eq_true.1 hall t hm)⟩)
    (by kernel_rfl)
#print axioms proved
end Go.Proofs.YteeillphhiaopaaGreatDoor.planValidMatchesReference
