/- SplicerRefuses: the walk. -/
import Derived.Test.YtpaepefpfaoacaaSymB
import Derived.Test.YtpaepefpfaoacaaSqM
namespace Go.Proofs.Ytpaepefpfaoacaa
open Go.ChangeShapes Go.WideShapes Go.ChangeAt Go.RowKit
set_option linter.unusedVariables false
set_option linter.unusedSimpArgs false

theorem newOk_facts {ch r it : Int} {A : Option Addr} {c : Nat} {ps : List PicA} (h : newOk ch r [⟨it, A, c, ps⟩] = true) : 0 ≤ ch ∧ ch < 40 ∧ 0 ≤ r ∧ r < 8 ∧ validA it ps = true := by
  simpa [newOk] using h
theorem newOk_false {ch r it : Int} {A : Option Addr} {c : Nat} {ps : List PicA} (h : newOk ch r [⟨it, A, c, ps⟩] = false) (h1 : 0 ≤ ch) (h2 : ch < 40) (h3 : 0 ≤ r) (h4 : r < 8) : validA it ps = false := by
  cases hv : validA it ps with
  | false => rfl
  | true => simp [newOk, h1, h2, h3, h4, hv] at h
theorem ps_len {it : Int} {A : Option Addr} {n c : Nat} {ps : List PicA} (h : ps.length = min n 50) : ∀ a ∈ ([⟨it, A, c, ps⟩] : List AstA), a.pics.length ≤ 2000000 := by
  intro a ha
  simp only [List.mem_singleton] at ha
  subst ha
  simp only
  omega
theorem ast1 {w : World} {b : Nat} {it : Int} {A : Option Addr} {c : Nat} {ps : List PicA} (hb : Box w b 49 [Value.int .i64 it, .slice A ps.length c].toArray) (h : IsPics w A ps.length ps) (q1 : ps.length ≤ c) (q2 : c ≤ maxLen) (q3 : A = none → c = 0) : IsAsts w (some ⟨b, 0, none⟩) 1 [⟨it, A, c, ps⟩] := by
  refine ⟨⟨rfl, Rd.of_box2 hb rfl⟩, fun a ha => ?_⟩
  simp only [List.mem_singleton] at ha
  subst ha
  exact ⟨h, q1, q2, q3, trivial⟩
theorem pics_cut {w : World} {A : Option Addr} {n : Nat} {pics ps : List PicA} (h : IsPics w A n pics) (hps : pics.take 50 = ps) : IsPics w A ps.length ps ∧ ps.length = min n 50 := by
  have hl := h.1
  subst hps
  rcases Nat.le_total 50 n with hle | hle
  · have e : (pics.take 50).length = 50 := by rw [List.length_take, hl]; omega
    rw [e]
    exact ⟨IsRow.take PicA.cells_size h hle, by omega⟩
  · have e : pics.take 50 = pics := List.take_of_length_le (by omega)
    rw [e, hl]
    exact ⟨h, by omega⟩
noncomputable def opS : Op Try.prog 9 ByteArray := opStr Try.underlying9 (by kernel_rfl)
noncomputable def opB : Op Try.prog 4 Bool := opBool Try.underlying4 (by kernel_rfl)
noncomputable def opPic0 : Op Try.prog 53 (Bool × (ByteArray × (Int × Unit))) := opStruct (opCons opB (opCons opS (opCons opI (opNil _) rfl) rfl) rfl) Try.underlying53 (by kernel_rfl)
noncomputable def opPic : Op Try.prog 53 PicA := opMap opPic0 (fun ⟨a, b, c, _⟩ => ⟨a, b, c⟩) (fun p => p.cells.toList) (fun _ p => True) (fun a => rfl) (fun w a h => trivial) (fun _ => rfl)
noncomputable def opPics : Op Try.prog 47 (SlA PicA) := opSlice opPic 32 Try.underlying47 (by kernel_rfl) (by kernel_rfl) (by decide)
def AstA.in (w : World) (a : AstA) : Prop := IsPics w a.A a.pics.length a.pics ∧ a.pics.length ≤ a.c ∧ a.c ≤ maxLen ∧ (a.A = none → a.c = 0)
noncomputable def opAst0 : Op Try.prog 49 (Int × (SlA PicA × Unit)) := opStruct (opCons opI (opCons opPics (opNil _) rfl) rfl) Try.underlying49 (by kernel_rfl)
noncomputable def opAst : Op Try.prog 49 AstA := opMap opAst0 (fun ⟨i, s, _⟩ => ⟨i, s.A, s.c, s.l⟩) (fun a => a.cells.toList) AstA.in (fun a => rfl) (fun w a h => ⟨⟨rfl, h.2.1.1⟩, h.2.1.2.2.1, h.2.1.2.2.2.1, h.2.1.2.2.2.2.1⟩) (fun _ => rfl)
noncomputable def opAlt0 : Op Try.prog 69 (Int × (Int × Unit)) := opStruct (opCons opI (opCons opI (opNil _) rfl) rfl) Try.underlying69 (by kernel_rfl)
noncomputable def opAlt : Op Try.prog 69 (Int × Int) := opMap opAlt0 (fun p => (p.1, p.2.1)) (fun a => [.int .i64 a.1, .int .i64 a.2]) (fun _ a => True) (fun a => rfl) (fun w a h => trivial) (fun _ => rfl)
noncomputable def opAlts : Op Try.prog 42 (SlA (Int × Int)) := opSlice opAlt 16 Try.underlying42 (by kernel_rfl) (by kernel_rfl) (by decide)
noncomputable def opOpt0 : Op Try.prog 44 (Int × (Int × (SlA (Int × Int) × Unit))) := opStruct (opCons opI (opCons opI (opCons opAlts (opNil _) rfl) rfl) rfl) Try.underlying44 (by kernel_rfl)
noncomputable def opU0 : Op Try.prog 46 (Int × (Int × (Int × (Int × (Int × (Bool × (ByteArray × (Int × (Int × (ByteArray × ((Int × (Int × (SlA (Int × Int) × Unit))) × Unit))))))))))) :=
  opStruct (opCons opI (opCons opI (opCons opI (opCons opI (opCons opI (opCons opB (opCons opS (opCons opI (opCons opI (opCons opS (opCons opOpt0 (opNil _) rfl) rfl) rfl) rfl) rfl) rfl) rfl) rfl) rfl) rfl) rfl) Try.underlying46 (by kernel_rfl)
noncomputable def opU : Op Try.prog 46 UnitA := opMap opU0 (fun ⟨a, b, c, d, e, f, g, h, i, j, o, _⟩ => ⟨a, b, c, d, e, f, g, h, i, j, o.1, o.2.1, o.2.2.1.A, o.2.2.1.c, o.2.2.1.l⟩) (fun u => u.cells.toList) (fun w u => u.ok w) (fun a => rfl)
  (fun w a h => ⟨⟨rfl, h.2.2.2.2.2.2.2.2.2.2.1.2.2.1.1⟩, Nat.le_trans h.2.2.2.2.2.2.2.2.2.2.1.2.2.1.2.2.1 h.2.2.2.2.2.2.2.2.2.2.1.2.2.1.2.2.2.1, ⟨wf64_bd h.2.1, wf64_bd h.2.2.2.2.1, wf64_bd h.2.2.2.2.2.2.2.2.2.2.1.1, wf64_bd h.2.2.2.2.2.2.2.2.2.2.1.2.1⟩⟩) (fun _ => rfl)

set_option maxRecDepth 100000 in
set_option maxHeartbeats 2000000 in
theorem refuses_good (ch r it : Int) (A : Option Addr) (n c : Nat) (pics ps : List PicA) (u : UnitA) (w : World) (hch : -9223372036854775808 ≤ ch ∧ ch ≤ 9223372036854775807) (hr : -9223372036854775808 ≤ r ∧ r ≤ 9223372036854775807) (hpk : IsPics w A ps.length ps) (hpl : ps.length = min n 50) (hpc : ps.length ≤ c) (hc2 : c ≤ maxLen) (hc3 : A = none → c = 0) (hu : u.ok w) (hok : newOk ch r [⟨it, A, c, ps⟩] = true) :
    Calls Try.prog 7 #[.int .i64 ch, .int .i64 r, .agg #[.int .i64 it, .slice A n c], u.val] w fun e w' => e = .returned (.bool true) ∧ Below w.heap.size w w' := by
  have HP := Hp.start w
  obtain ⟨n1, n2, n3, n4, _⟩ := newOk_facts hok
  refine w_enter 99 [(0, (.int .i64 ch)), (1, (.int .i64 r)), (2, (.agg #[(.int .i64 it), (.slice A n c)])), (3, (.agg #[(.int .i64 u.channel), (.int .i64 u.frame), (.int .i64 u.version), (.int .i64 u.item), (.int .i64 u.index), (.bool u.key), (.string u.data), (.int .i64 u.regions), (.int .i64 u.gain), (.string u.caption), (.int .i64 u.os), (.int .i64 u.of), (.slice u.A u.al.length u.c)]))] Try.func7 rfl Try.ntmps7 (by kernel_rfl) (by kernel_rfl) ?_
  intro a H
  refine wp_seq ?_
  refine w_region ?_
  refine H.alloc HP 6 (fun b => (.pointer (some ⟨b, 0, none⟩))) 49 [(.int .i64 it), (.slice A n c)] (by kernel_rfl) (fun w => by kernel_rfl) ?_
  intro b_1 w_2 a H HP
  refine H.alloc HP 7 (fun b => (.pointer (some ⟨b, 0, none⟩))) 46 [(.int .i64 u.channel), (.int .i64 u.frame), (.int .i64 u.version), (.int .i64 u.item), (.int .i64 u.index), (.bool u.key), (.string u.data), (.int .i64 u.regions), (.int .i64 u.gain), (.string u.caption), (.int .i64 u.os), (.int .i64 u.of), (.slice u.A u.al.length u.c)] (by kernel_rfl) (fun w => by kernel_rfl) ?_
  intro b_3 w_4 a H HP
  refine H.val 8 (.bool false) (by kernel_rfl) (by kernel_rfl) ?_
  intro a H
  refine wpList_nil ?_
  refine then_normal ?_
  refine wp_seq ?_
  refine w_region ?_
  refine H.call 14 (by kernel_rfl) (Eq.trans (by kernel_rfl : _ = (callFunc 8 #[]).run Try.prog w_4) (Try.call8 _ _)) (sane_any w_4) ?_
  rintro e w_5 ⟨rfl, hb⟩
  refine ⟨_, rfl, ?_⟩
  intro a H
  have HP := HP.next hb
  refine H.val 9 (.bool true) (by kernel_rfl) (by kernel_rfl) ?_
  intro a H
  refine wpList_nil ?_
  refine then_normal ?_
  refine wp_seq ?_
  refine w_region ?_
  refine H.val 15 (.pointer (some ⟨b_1, 1, none⟩)) (by kernel_rfl) (by kernel_rfl) ?_
  intro a H
  refine H.val 16 (.slice A n c) (by kernel_rfl) (ex_load1 (by kernel_rfl) (by kernel_rfl) (HP.cell 1 rfl 1 rfl)) ?_
  intro a H
  refine H.val 17 (.pointer (some ⟨b_1, 1, none⟩)) (by kernel_rfl) (by kernel_rfl) ?_
  intro a H
  refine H.val 18 (.slice A n c) (by kernel_rfl) (ex_load1 (by kernel_rfl) (by kernel_rfl) (HP.cell 1 rfl 1 rfl)) ?_
  intro a H
  refine H.val 19 (.int .i64 ((n : Nat) : Int)) (by kernel_rfl) (by kernel_rfl) ?_
  intro a H
  refine H.valE 20 (.int .i64 (if 50 < ((n : Nat) : Int) then 50 else ((n : Nat) : Int))) (.int .i64 (min ((n : Nat) : Int) 50)) (by kernel_rfl) (by kernel_rfl) ((congrArg (Value.int .i64) (min_if _ _))) ?_
  intro a H
  refine H.val 21 (.slice A ps.length c) (by kernel_rfl) (ex_sliceH (A := A) (len := n) (cap := c) (k := .i64) (n := min ((n : Nat) : Int) 50) (m := ps.length) (sz := 3) (by kernel_rfl) (by kernel_rfl) (by kernel_rfl) (by kernel_rfl) (by omega) (by omega)) ?_
  intro a H
  refine H.val 22 (.pointer (some ⟨b_1, 1, none⟩)) (by kernel_rfl) (by kernel_rfl) ?_
  intro a H
  refine H.store HP 1 b_1 1 1 49 [(.int .i64 it), (.slice A n c)] true (.slice A ps.length c) [bx b_3 46 [(.int .i64 u.channel), (.int .i64 u.frame), (.int .i64 u.version), (.int .i64 u.item), (.int .i64 u.index), (.bool u.key), (.string u.data), (.int .i64 u.regions), (.int .i64 u.gain), (.string u.caption), (.int .i64 u.os), (.int .i64 u.of), (.slice u.A u.al.length u.c)] true, bx b_1 49 [(.int .i64 it), (.slice A ps.length c)] true] (by kernel_rfl) (by kernel_rfl) (by kernel_rfl) rfl (by kernel_rfl) (by kernel_rfl) (by kernel_rfl) (by kernel_rfl) (by kernel_rfl) ?_
  intro w_6 a H HP
  refine wpList_nil ?_
  have H := H.keep (L' := [(9, (.bool true)), (14, (.bool true)), (8, (.bool false)), (7, (.pointer (some ⟨b_3, 0, none⟩))), (6, (.pointer (some ⟨b_1, 0, none⟩))), (0, (.int .i64 ch)), (1, (.int .i64 r)), (2, (.agg #[(.int .i64 it), (.slice A n c)])), (3, (.agg #[(.int .i64 u.channel), (.int .i64 u.frame), (.int .i64 u.version), (.int .i64 u.item), (.int .i64 u.index), (.bool u.key), (.string u.data), (.int .i64 u.regions), (.int .i64 u.gain), (.string u.caption), (.int .i64 u.os), (.int .i64 u.of), (.slice u.A u.al.length u.c)]))]) (by kernel_rfl)
  refine then_normal ?_
  refine wp_seq ?_
  refine w_region ?_
  refine H.val 24 (.int .i64 ch) (by kernel_rfl) (by kernel_rfl) ?_
  intro a H
  refine H.val 25 (.int .i64 r) (by kernel_rfl) (by kernel_rfl) ?_
  intro a H
  refine H.val 26 (.agg #[(.int .i64 it), (.slice A ps.length c)]) (by kernel_rfl) (ex_loadN (vs := [(.int .i64 it), (.slice A ps.length c)]) (by kernel_rfl) (by kernel_rfl) (by kernel_rfl) rfl (HP.cells 1 rfl 0 2 (by kernel_rfl))) ?_
  intro a H
  refine H.alloc HP 27 (fun b => (.slice (some ⟨b, 0, none⟩) 1 1)) 49 [(.int .i64 it), (.slice A ps.length c)] (by kernel_rfl) (fun w => by kernel_rfl) ?_
  intro b_7 w_8 a H HP
  refine H.call 28 (by kernel_rfl) (Eq.trans (by kernel_rfl : _ = (callFunc 10 #[(.int .i64 ch), (.int .i64 r), (.slice (some ⟨b_7, 0, none⟩) 1 1)]).run Try.prog w_8) (Try.call10 _ _)) ((new_ok ch r (some ⟨b_7, 0, none⟩) 1 1 [⟨it, A, c, ps⟩] w_8 (ast1 (HP.at_ 0 rfl) (hpk.below (HP.below (by kernel_rfl))) hpc hc2 hc3) ⟨ps_len hpl, by omega⟩ hok)) ?_
  rintro e w_9 ⟨b, k, rfl, hspn, hkc, hkr, hks, hb, hnew⟩
  refine ⟨_, rfl, ?_⟩
  intro a H
  have HP := HP.gain hb (splR b k ⟨500, p5Z, []⟩ none 0) hspn (splR_ok _ _ _ _ _) (splR_lt hspn) hnew
  refine H.val 23 (.tuple #[(.pointer (some ⟨b, 0, none⟩)), (.int .i64 0)]) (by kernel_rfl) (by kernel_rfl) ?_
  intro a H
  refine H.val 29 (.pointer (some ⟨b, 0, none⟩)) (by kernel_rfl) (by kernel_rfl) ?_
  intro a H
  refine H.val 30 (.int .i64 0) (by kernel_rfl) (by kernel_rfl) ?_
  intro a H
  refine H.val 10 (.pointer (some ⟨b, 0, none⟩)) (by kernel_rfl) (by kernel_rfl) ?_
  intro a H
  refine H.val 11 (.int .i64 0) (by kernel_rfl) (by kernel_rfl) ?_
  intro a H
  refine wpList_nil ?_
  have H := H.keep (L' := [(11, (.int .i64 0)), (10, (.pointer (some ⟨b, 0, none⟩))), (9, (.bool true)), (14, (.bool true)), (8, (.bool false)), (7, (.pointer (some ⟨b_3, 0, none⟩))), (6, (.pointer (some ⟨b_1, 0, none⟩))), (0, (.int .i64 ch)), (1, (.int .i64 r)), (2, (.agg #[(.int .i64 it), (.slice A n c)])), (3, (.agg #[(.int .i64 u.channel), (.int .i64 u.frame), (.int .i64 u.version), (.int .i64 u.item), (.int .i64 u.index), (.bool u.key), (.string u.data), (.int .i64 u.regions), (.int .i64 u.gain), (.string u.caption), (.int .i64 u.os), (.int .i64 u.of), (.slice u.A u.al.length u.c)]))]) (by kernel_rfl)
  refine then_normal ?_
  refine w_cut (fun a wv => Sl 99 [(0, (.int .i64 ch)), (1, (.int .i64 r)), (6, (.pointer (some ⟨b_1, 0, none⟩))), (7, (.pointer (some ⟨b_3, 0, none⟩))), (8, (.bool false)), (9, (.bool true)), (10, (.pointer (some ⟨b, 0, none⟩))), (11, (.int .i64 0)), (12, (.bool true))] a ∧ Hp w wv [(splR b k ⟨500, p5Z, []⟩ none 0), bx b_7 49 [(.int .i64 it), (.slice A ps.length c)] true, bx b_3 46 [(.int .i64 u.channel), (.int .i64 u.frame), (.int .i64 u.version), (.int .i64 u.item), (.int .i64 u.index), (.bool u.key), (.string u.data), (.int .i64 u.regions), (.int .i64 u.gain), (.string u.caption), (.int .i64 u.os), (.int .i64 u.of), (.slice u.A u.al.length u.c)] true, bx b_1 49 [(.int .i64 it), (.slice A ps.length c)] true] []) ?_ ?_
  ·
    refine w_region ?_
    refine H.val 31 (.int .i64 ch) (by kernel_rfl) (by kernel_rfl) ?_
    intro a H
    refine H.valE 32 (.bool (decide (ch ≥ 0))) (.bool true) (by kernel_rfl) (by kernel_rfl) ((congrArg Value.bool (decide_eq_true (by omega)))) ?_
    intro a H
    refine H.val 33 (.bool true) (by kernel_rfl) (by kernel_rfl) ?_
    intro a H
    refine H.val 34 (.int .i64 ch) (by kernel_rfl) (by kernel_rfl) ?_
    intro a H
    refine H.valE 35 (.bool (decide (ch < 40))) (.bool true) (by kernel_rfl) (by kernel_rfl) ((congrArg Value.bool (decide_eq_true (by omega)))) ?_
    intro a H
    refine H.val 36 (.bool true) (by kernel_rfl) (by kernel_rfl) ?_
    intro a H
    refine H.val 37 (.bool true) (by kernel_rfl) (by kernel_rfl) ?_
    intro a H
    refine H.val 38 (.int .i64 r) (by kernel_rfl) (by kernel_rfl) ?_
    intro a H
    refine H.valE 39 (.bool (decide (r ≥ 0))) (.bool true) (by kernel_rfl) (by kernel_rfl) ((congrArg Value.bool (decide_eq_true (by omega)))) ?_
    intro a H
    refine H.val 40 (.bool true) (by kernel_rfl) (by kernel_rfl) ?_
    intro a H
    refine H.val 41 (.bool true) (by kernel_rfl) (by kernel_rfl) ?_
    intro a H
    refine H.val 42 (.int .i64 r) (by kernel_rfl) (by kernel_rfl) ?_
    intro a H
    refine H.valE 43 (.bool (decide (r < 8))) (.bool true) (by kernel_rfl) (by kernel_rfl) ((congrArg Value.bool (decide_eq_true (by omega)))) ?_
    intro a H
    refine H.val 44 (.bool true) (by kernel_rfl) (by kernel_rfl) ?_
    intro a H
    refine H.val 45 (.bool true) (by kernel_rfl) (by kernel_rfl) ?_
    intro a H
    refine H.val 46 (.agg #[(.int .i64 it), (.slice A ps.length c)]) (by kernel_rfl) (ex_loadN (vs := [(.int .i64 it), (.slice A ps.length c)]) (by kernel_rfl) (by kernel_rfl) (by kernel_rfl) rfl (HP.cells 3 rfl 0 2 (by kernel_rfl))) ?_
    intro a H
    refine H.call 47 (by kernel_rfl) (Eq.trans (by kernel_rfl : _ = (callFunc 22 #[(.agg #[(.int .i64 it), (.slice A ps.length c)])]).run Try.prog w_9) (Try.call22 _ _)) ((by have hh := rvalidA_any it A ps.length c ps w_9 (hpk.below (HP.below (by kernel_rfl))) (by unfold maxLen; omega); rw [(newOk_facts hok).2.2.2.2] at hh; exact hh)) ?_
    rintro e w_10 ⟨rfl, hb⟩
    refine ⟨_, rfl, ?_⟩
    intro a H
    have HP := HP.next hb
    refine H.val 48 (.bool true) (by kernel_rfl) (by kernel_rfl) ?_
    intro a H
    refine H.val 12 (.bool true) (by kernel_rfl) (by kernel_rfl) ?_
    intro a H
    refine wpList_nil ?_
    have H := H.keep (L' := [(12, (.bool true)), (11, (.int .i64 0)), (10, (.pointer (some ⟨b, 0, none⟩))), (9, (.bool true)), (14, (.bool true)), (8, (.bool false)), (7, (.pointer (some ⟨b_3, 0, none⟩))), (6, (.pointer (some ⟨b_1, 0, none⟩))), (0, (.int .i64 ch)), (1, (.int .i64 r)), (2, (.agg #[(.int .i64 it), (.slice A n c)])), (3, (.agg #[(.int .i64 u.channel), (.int .i64 u.frame), (.int .i64 u.version), (.int .i64 u.item), (.int .i64 u.index), (.bool u.key), (.string u.data), (.int .i64 u.regions), (.int .i64 u.gain), (.string u.caption), (.int .i64 u.os), (.int .i64 u.of), (.slice u.A u.al.length u.c)]))]) (by kernel_rfl)
    refine then_normal ?_
    exact ⟨H.keep (by kernel_rfl), HP⟩
  ·
    rintro a w_11 ⟨H, HP⟩
    refine wp_seq ?_
    refine wp_seq ?_
    refine w_region ?_
    refine H.val 49 (.int .i64 0) (by kernel_rfl) (by kernel_rfl) ?_
    intro a H
    refine H.val 50 (.bool true) (by kernel_rfl) (by kernel_rfl) ?_
    intro a H
    refine H.val 51 (.bool true) (by kernel_rfl) (by kernel_rfl) ?_
    intro a H
    refine H.val 52 (.bool false) (by kernel_rfl) (by kernel_rfl) ?_
    intro a H
    refine H.val 53 (.bool false) (by kernel_rfl) (by kernel_rfl) ?_
    intro a H
    refine H.val 54 (.pointer (some ⟨b, 0, none⟩)) (by kernel_rfl) (by kernel_rfl) ?_
    intro a H
    refine H.val 55 (.bool true) (by kernel_rfl) (by kernel_rfl) ?_
    intro a H
    refine H.val 56 (.bool true) (by kernel_rfl) (by kernel_rfl) ?_
    intro a H
    refine H.val 57 (.bool false) (by kernel_rfl) (by kernel_rfl) ?_
    intro a H
    refine H.val 58 (.bool false) (by kernel_rfl) (by kernel_rfl) ?_
    intro a H
    refine H.val 59 (.bool false) (by kernel_rfl) (by kernel_rfl) ?_
    intro a H
    refine H.val 60 (.bool true) (by kernel_rfl) (by kernel_rfl) ?_
    intro a H
    refine H.val 61 (.bool false) (by kernel_rfl) (by kernel_rfl) ?_
    intro a H
    refine H.val 62 (.bool false) (by kernel_rfl) (by kernel_rfl) ?_
    intro a H
    refine H.skip 63 (by kernel_rfl) ?_
    intro a H
    refine H.skip 64 (by kernel_rfl) ?_
    intro a H
    refine H.val 65 (.bool false) (by kernel_rfl) (by kernel_rfl) ?_
    intro a H
    refine H.val 66 (.bool false) (by kernel_rfl) (by kernel_rfl) ?_
    intro a H
    refine wpList_nil ?_
    have H := H.keep (L' := [(66, (.bool false)), (0, (.int .i64 ch)), (1, (.int .i64 r)), (6, (.pointer (some ⟨b_1, 0, none⟩))), (7, (.pointer (some ⟨b_3, 0, none⟩))), (8, (.bool false)), (9, (.bool true)), (10, (.pointer (some ⟨b, 0, none⟩))), (11, (.int .i64 0)), (12, (.bool true))]) (by kernel_rfl)
    refine then_normal ?_
    refine w_iff H rfl ?_
    refine wp_skip ?_
    refine then_normal ?_
    refine wp_seq ?_
    refine w_region ?_
    refine H.val 13 (.pointer none) (by kernel_rfl) (by kernel_rfl) ?_
    intro a H
    refine wpList_nil ?_
    refine then_normal ?_
    refine wp_seq ?_
    refine wp_seq ?_
    refine w_region ?_
    refine H.val 67 (.pointer none) (by kernel_rfl) (by kernel_rfl) ?_
    intro a H
    refine H.val 68 (.agg #[(.int .i64 u.channel), (.int .i64 u.frame), (.int .i64 u.version), (.int .i64 u.item), (.int .i64 u.index), (.bool u.key), (.string u.data), (.int .i64 u.regions), (.int .i64 u.gain), (.string u.caption), (.int .i64 u.os), (.int .i64 u.of), (.slice u.A u.al.length u.c)]) (by kernel_rfl) (ex_loadN (vs := [(.int .i64 u.channel), (.int .i64 u.frame), (.int .i64 u.version), (.int .i64 u.item), (.int .i64 u.index), (.bool u.key), (.string u.data), (.int .i64 u.regions), (.int .i64 u.gain), (.string u.caption), (.int .i64 u.os), (.int .i64 u.of), (.slice u.A u.al.length u.c)]) (by kernel_rfl) (by kernel_rfl) (by kernel_rfl) rfl (HP.cells 2 rfl 0 13 (by kernel_rfl))) ?_
    intro a H
    refine H.call 69 (by kernel_rfl) (Eq.trans (by kernel_rfl : _ = (callFunc 14 #[(.pointer none), (.agg #[(.int .i64 u.channel), (.int .i64 u.frame), (.int .i64 u.version), (.int .i64 u.item), (.int .i64 u.index), (.bool u.key), (.string u.data), (.int .i64 u.regions), (.int .i64 u.gain), (.string u.caption), (.int .i64 u.os), (.int .i64 u.of), (.slice u.A u.al.length u.c)])]).run Try.prog w_11) (Try.call14 _ _)) (step_nil u w_11) ?_
    rintro e w_12 ⟨rfl, hb⟩
    refine ⟨_, rfl, ?_⟩
    intro a H
    have HP := HP.next hb
    refine H.val 70 (.agg #[(.int .i64 0), (.int .i64 0), (.int .i64 0)]) (by kernel_rfl) (by kernel_rfl) ?_
    intro a H
    refine H.valE 71 (.bool (!(((0 : Int) == 0) && (((0 : Int) == 0) && ((0 : Int) == 0))))) (.bool false) (by kernel_rfl) (ex_neSh (a0 := 0) (a1 := 0) (a2 := 0) (b0 := 0) (b1 := 0) (b2 := 0) (by kernel_rfl) (by kernel_rfl)) (by rfl) ?_
    intro a H
    refine H.val 72 (.bool false) (by kernel_rfl) (by kernel_rfl) ?_
    intro a H
    refine H.val 73 (.pointer none) (by kernel_rfl) (by kernel_rfl) ?_
    intro a H
    refine H.call 74 (by kernel_rfl) (Eq.trans (by kernel_rfl : _ = (callFunc 17 #[(.pointer none)]).run Try.prog w_12) (Try.call17 _ _)) (full_nil w_12) ?_
    rintro e w_13 ⟨rfl, hw⟩
    refine ⟨_, rfl, ?_⟩
    intro a H
    have HP := hw ▸ HP
    refine H.val 75 (.bool false) (by kernel_rfl) (by kernel_rfl) ?_
    intro a H
    refine H.val 76 (.bool false) (by kernel_rfl) (by kernel_rfl) ?_
    intro a H
    refine wpList_nil ?_
    have H := H.keep (L' := [(76, (.bool false)), (13, (.pointer none)), (66, (.bool false)), (0, (.int .i64 ch)), (1, (.int .i64 r)), (6, (.pointer (some ⟨b_1, 0, none⟩))), (7, (.pointer (some ⟨b_3, 0, none⟩))), (8, (.bool false)), (9, (.bool true)), (10, (.pointer (some ⟨b, 0, none⟩))), (11, (.int .i64 0)), (12, (.bool true))]) (by kernel_rfl)
    refine then_normal ?_
    refine w_iff H rfl ?_
    refine wp_skip ?_
    refine then_normal ?_
    refine wp_seq ?_
    refine wp_seq ?_
    refine w_region ?_
    refine H.val 77 (.bool true) (by kernel_rfl) (by kernel_rfl) ?_
    intro a H
    refine H.val 78 (.bool false) (by kernel_rfl) (by kernel_rfl) ?_
    intro a H
    refine H.val 79 (.bool false) (by kernel_rfl) (by kernel_rfl) ?_
    intro a H
    refine H.val 80 (.pointer (some ⟨b_3, 0, none⟩)) (by kernel_rfl) (by kernel_rfl) ?_
    intro a H
    refine H.val 81 (.int .i64 u.channel) (by kernel_rfl) (ex_load1 (by kernel_rfl) (by kernel_rfl) (HP.cell 2 rfl 0 rfl)) ?_
    intro a H
    refine H.val 82 (.int .i64 ch) (by kernel_rfl) (by kernel_rfl) ?_
    intro a H
    refine H.val 83 (.bool (u.channel == ch)) (by kernel_rfl) (by kernel_rfl) ?_
    intro a H
    refine H.val 84 (.bool (u.channel == ch)) (by kernel_rfl) (by kernel_rfl) ?_
    intro a H
    refine wpList_nil ?_
    have H := H.keep (L' := [(84, (.bool (u.channel == ch))), (76, (.bool false)), (13, (.pointer none)), (66, (.bool false)), (0, (.int .i64 ch)), (1, (.int .i64 r)), (6, (.pointer (some ⟨b_1, 0, none⟩))), (7, (.pointer (some ⟨b_3, 0, none⟩))), (8, (.bool false)), (9, (.bool true)), (10, (.pointer (some ⟨b, 0, none⟩))), (11, (.int .i64 0)), (12, (.bool true))]) (by kernel_rfl)
    refine then_normal ?_
    refine w_if H rfl (fun g84 => ?_) (fun g84 => ?_)
    · have g84p := eq_of_beq g84
      refine wp_seq ?_
      refine w_region ?_
      refine H.val 85 (.bool true) (by kernel_rfl) (by kernel_rfl) ?_
      intro a H
      refine H.val 8 (.bool true) (by kernel_rfl) (by kernel_rfl) ?_
      intro a H
      refine wpList_nil ?_
      refine then_normal ?_
      refine wp_ret ?_
      refine then_ret ?_
      refine H.ret1 (fn := Try.f7) Try.results7 (RV.tmp_ (v := (.bool true)) (by kernel_rfl)) ?_
      exact ⟨rfl, (HP.below (by kernel_rfl))⟩
    · have g84p := ne_of_beq_false g84
      refine wp_skip ?_
      refine then_normal ?_
      refine wp_seq ?_
      refine w_region ?_
      refine H.val 86 (.bool true) (by kernel_rfl) (by kernel_rfl) ?_
      intro a H
      refine H.val 87 (.bool true) (by kernel_rfl) (by kernel_rfl) ?_
      intro a H
      refine H.val 88 (.pointer (some ⟨b, 0, none⟩)) (by kernel_rfl) (by kernel_rfl) ?_
      intro a H
      refine H.val 89 (.agg #[(.int .i64 u.channel), (.int .i64 u.frame), (.int .i64 u.version), (.int .i64 u.item), (.int .i64 u.index), (.bool u.key), (.string u.data), (.int .i64 u.regions), (.int .i64 u.gain), (.string u.caption), (.int .i64 u.os), (.int .i64 u.of), (.slice u.A u.al.length u.c)]) (by kernel_rfl) (ex_loadN (vs := [(.int .i64 u.channel), (.int .i64 u.frame), (.int .i64 u.version), (.int .i64 u.item), (.int .i64 u.index), (.bool u.key), (.string u.data), (.int .i64 u.regions), (.int .i64 u.gain), (.string u.caption), (.int .i64 u.os), (.int .i64 u.of), (.slice u.A u.al.length u.c)]) (by kernel_rfl) (by kernel_rfl) (by kernel_rfl) rfl (HP.cells 2 rfl 0 13 (by kernel_rfl))) ?_
      intro a H
      refine H.call 90 (by kernel_rfl) (Eq.trans (by kernel_rfl : _ = (callFunc 14 #[(.pointer (some ⟨b, 0, none⟩)), (.agg #[(.int .i64 u.channel), (.int .i64 u.frame), (.int .i64 u.version), (.int .i64 u.item), (.int .i64 u.index), (.bool u.key), (.string u.data), (.int .i64 u.regions), (.int .i64 u.gain), (.string u.caption), (.int .i64 u.os), (.int .i64 u.of), (.slice u.A u.al.length u.c)])]).run Try.prog w_13) (Try.call14 _ _)) ((by have hh := step_any b k ⟨500, p5Z, []⟩ u w_13 none 0 (HP.held 0 rfl) ⟨hu.1.below (HP.below (by kernel_rfl)), hu.2⟩ (fun jj hj e => by have h1 := row_lt hu.1.2 hj; have h2 := HP.fresh _ (List.mem_of_getElem? (i := 0) rfl) rfl jj (.inl e); omega) (by rw [hkr]; omega) (by rw [hkr]; omega) ⟨by simp [p5Z], fun _ h => by cases h⟩; rw [stepS_other k ⟨500, p5Z, []⟩ u (by rw [hkc]; exact g84p)] at hh; exact hh)) ?_
      rintro e w_14 ⟨rfl, NB, cB, hsp, hq, hg⟩
      refine ⟨_, rfl, ?_⟩
      intro a H
      have HP := HP.stepped 0 rfl [(splR b k (Sp.shown ⟨500, p5Z, []⟩ p5Z) NB cB), bx b_7 49 [(.int .i64 it), (.slice A ps.length c)] true, bx b_3 46 [(.int .i64 u.channel), (.int .i64 u.frame), (.int .i64 u.version), (.int .i64 u.item), (.int .i64 u.index), (.bool u.key), (.string u.data), (.int .i64 u.regions), (.int .i64 u.gain), (.string u.caption), (.int .i64 u.os), (.int .i64 u.of), (.slice u.A u.al.length u.c)] true, bx b_1 49 [(.int .i64 it), (.slice A ps.length c)] true] (by kernel_rfl) hsp hq hg
      refine H.val 91 (.agg #[(.int .i64 0), (.int .i64 0), (.int .i64 0)]) (by kernel_rfl) (by kernel_rfl) ?_
      intro a H
      refine H.valE 92 (.bool (((0 : Int) == 0) && (((0 : Int) == 0) && ((0 : Int) == 0)))) (.bool true) (by kernel_rfl) (ex_eqSh (a0 := 0) (a1 := 0) (a2 := 0) (b0 := 0) (b1 := 0) (b2 := 0) (by kernel_rfl) (by kernel_rfl)) (by rfl) ?_
      intro a H
      refine H.val 93 (.bool true) (by kernel_rfl) (by kernel_rfl) ?_
      intro a H
      refine H.val 94 (.bool true) (by kernel_rfl) (by kernel_rfl) ?_
      intro a H
      refine H.val 95 (.pointer (some ⟨b, 0, none⟩)) (by kernel_rfl) (by kernel_rfl) ?_
      intro a H
      refine H.call 96 (by kernel_rfl) (Eq.trans (by kernel_rfl : _ = (callFunc 17 #[(.pointer (some ⟨b, 0, none⟩))]).run Try.prog w_14) (Try.call17 _ _)) (full_any b k (Sp.shown ⟨500, p5Z, []⟩ p5Z) w_14 (HP.held 0 rfl).ok) ?_
      rintro e w_15 ⟨rfl, hw⟩
      refine ⟨_, rfl, ?_⟩
      intro a H
      have HP := hw ▸ HP
      refine H.val 97 (.bool true) (by kernel_rfl) (by kernel_rfl) ?_
      intro a H
      refine H.val 98 (.bool true) (by kernel_rfl) (by kernel_rfl) ?_
      intro a H
      refine H.val 8 (.bool true) (by kernel_rfl) (by kernel_rfl) ?_
      intro a H
      refine wpList_nil ?_
      have H := H.keep (L' := [(8, (.bool true)), (84, (.bool (u.channel == ch))), (76, (.bool false)), (13, (.pointer none)), (66, (.bool false)), (0, (.int .i64 ch)), (1, (.int .i64 r)), (6, (.pointer (some ⟨b_1, 0, none⟩))), (7, (.pointer (some ⟨b_3, 0, none⟩))), (9, (.bool true)), (10, (.pointer (some ⟨b, 0, none⟩))), (11, (.int .i64 0)), (12, (.bool true))]) (by kernel_rfl)
      refine then_normal ?_
      refine wp_ret ?_
      refine H.ret1 (fn := Try.f7) Try.results7 (RV.tmp_ (v := (.bool true)) (by kernel_rfl)) ?_
      exact ⟨rfl, (HP.below (by kernel_rfl))⟩

set_option maxRecDepth 100000 in
set_option maxHeartbeats 2000000 in
theorem refuses_bad (ch r it : Int) (A : Option Addr) (n c : Nat) (pics ps : List PicA) (u : UnitA) (w : World) (hch : -9223372036854775808 ≤ ch ∧ ch ≤ 9223372036854775807) (hr : -9223372036854775808 ≤ r ∧ r ≤ 9223372036854775807) (hpk : IsPics w A ps.length ps) (hpl : ps.length = min n 50) (hpc : ps.length ≤ c) (hc2 : c ≤ maxLen) (hc3 : A = none → c = 0) (hu : u.ok w) (hok : newOk ch r [⟨it, A, c, ps⟩] = false) :
    Calls Try.prog 7 #[.int .i64 ch, .int .i64 r, .agg #[.int .i64 it, .slice A n c], u.val] w fun e w' => e = .returned (.bool true) ∧ Below w.heap.size w w' := by
  have HP := Hp.start w
  refine w_enter 99 [(0, (.int .i64 ch)), (1, (.int .i64 r)), (2, (.agg #[(.int .i64 it), (.slice A n c)])), (3, (.agg #[(.int .i64 u.channel), (.int .i64 u.frame), (.int .i64 u.version), (.int .i64 u.item), (.int .i64 u.index), (.bool u.key), (.string u.data), (.int .i64 u.regions), (.int .i64 u.gain), (.string u.caption), (.int .i64 u.os), (.int .i64 u.of), (.slice u.A u.al.length u.c)]))] Try.func7 rfl Try.ntmps7 (by kernel_rfl) (by kernel_rfl) ?_
  intro a H
  refine wp_seq ?_
  refine w_region ?_
  refine H.alloc HP 6 (fun b => (.pointer (some ⟨b, 0, none⟩))) 49 [(.int .i64 it), (.slice A n c)] (by kernel_rfl) (fun w => by kernel_rfl) ?_
  intro b_1 w_2 a H HP
  refine H.alloc HP 7 (fun b => (.pointer (some ⟨b, 0, none⟩))) 46 [(.int .i64 u.channel), (.int .i64 u.frame), (.int .i64 u.version), (.int .i64 u.item), (.int .i64 u.index), (.bool u.key), (.string u.data), (.int .i64 u.regions), (.int .i64 u.gain), (.string u.caption), (.int .i64 u.os), (.int .i64 u.of), (.slice u.A u.al.length u.c)] (by kernel_rfl) (fun w => by kernel_rfl) ?_
  intro b_3 w_4 a H HP
  refine H.val 8 (.bool false) (by kernel_rfl) (by kernel_rfl) ?_
  intro a H
  refine wpList_nil ?_
  refine then_normal ?_
  refine wp_seq ?_
  refine w_region ?_
  refine H.call 14 (by kernel_rfl) (Eq.trans (by kernel_rfl : _ = (callFunc 8 #[]).run Try.prog w_4) (Try.call8 _ _)) (sane_any w_4) ?_
  rintro e w_5 ⟨rfl, hb⟩
  refine ⟨_, rfl, ?_⟩
  intro a H
  have HP := HP.next hb
  refine H.val 9 (.bool true) (by kernel_rfl) (by kernel_rfl) ?_
  intro a H
  refine wpList_nil ?_
  refine then_normal ?_
  refine wp_seq ?_
  refine w_region ?_
  refine H.val 15 (.pointer (some ⟨b_1, 1, none⟩)) (by kernel_rfl) (by kernel_rfl) ?_
  intro a H
  refine H.val 16 (.slice A n c) (by kernel_rfl) (ex_load1 (by kernel_rfl) (by kernel_rfl) (HP.cell 1 rfl 1 rfl)) ?_
  intro a H
  refine H.val 17 (.pointer (some ⟨b_1, 1, none⟩)) (by kernel_rfl) (by kernel_rfl) ?_
  intro a H
  refine H.val 18 (.slice A n c) (by kernel_rfl) (ex_load1 (by kernel_rfl) (by kernel_rfl) (HP.cell 1 rfl 1 rfl)) ?_
  intro a H
  refine H.val 19 (.int .i64 ((n : Nat) : Int)) (by kernel_rfl) (by kernel_rfl) ?_
  intro a H
  refine H.valE 20 (.int .i64 (if 50 < ((n : Nat) : Int) then 50 else ((n : Nat) : Int))) (.int .i64 (min ((n : Nat) : Int) 50)) (by kernel_rfl) (by kernel_rfl) ((congrArg (Value.int .i64) (min_if _ _))) ?_
  intro a H
  refine H.val 21 (.slice A ps.length c) (by kernel_rfl) (ex_sliceH (A := A) (len := n) (cap := c) (k := .i64) (n := min ((n : Nat) : Int) 50) (m := ps.length) (sz := 3) (by kernel_rfl) (by kernel_rfl) (by kernel_rfl) (by kernel_rfl) (by omega) (by omega)) ?_
  intro a H
  refine H.val 22 (.pointer (some ⟨b_1, 1, none⟩)) (by kernel_rfl) (by kernel_rfl) ?_
  intro a H
  refine H.store HP 1 b_1 1 1 49 [(.int .i64 it), (.slice A n c)] true (.slice A ps.length c) [bx b_3 46 [(.int .i64 u.channel), (.int .i64 u.frame), (.int .i64 u.version), (.int .i64 u.item), (.int .i64 u.index), (.bool u.key), (.string u.data), (.int .i64 u.regions), (.int .i64 u.gain), (.string u.caption), (.int .i64 u.os), (.int .i64 u.of), (.slice u.A u.al.length u.c)] true, bx b_1 49 [(.int .i64 it), (.slice A ps.length c)] true] (by kernel_rfl) (by kernel_rfl) (by kernel_rfl) rfl (by kernel_rfl) (by kernel_rfl) (by kernel_rfl) (by kernel_rfl) (by kernel_rfl) ?_
  intro w_6 a H HP
  refine wpList_nil ?_
  have H := H.keep (L' := [(9, (.bool true)), (14, (.bool true)), (8, (.bool false)), (7, (.pointer (some ⟨b_3, 0, none⟩))), (6, (.pointer (some ⟨b_1, 0, none⟩))), (0, (.int .i64 ch)), (1, (.int .i64 r)), (2, (.agg #[(.int .i64 it), (.slice A n c)])), (3, (.agg #[(.int .i64 u.channel), (.int .i64 u.frame), (.int .i64 u.version), (.int .i64 u.item), (.int .i64 u.index), (.bool u.key), (.string u.data), (.int .i64 u.regions), (.int .i64 u.gain), (.string u.caption), (.int .i64 u.os), (.int .i64 u.of), (.slice u.A u.al.length u.c)]))]) (by kernel_rfl)
  refine then_normal ?_
  refine wp_seq ?_
  refine w_region ?_
  refine H.val 24 (.int .i64 ch) (by kernel_rfl) (by kernel_rfl) ?_
  intro a H
  refine H.val 25 (.int .i64 r) (by kernel_rfl) (by kernel_rfl) ?_
  intro a H
  refine H.val 26 (.agg #[(.int .i64 it), (.slice A ps.length c)]) (by kernel_rfl) (ex_loadN (vs := [(.int .i64 it), (.slice A ps.length c)]) (by kernel_rfl) (by kernel_rfl) (by kernel_rfl) rfl (HP.cells 1 rfl 0 2 (by kernel_rfl))) ?_
  intro a H
  refine H.alloc HP 27 (fun b => (.slice (some ⟨b, 0, none⟩) 1 1)) 49 [(.int .i64 it), (.slice A ps.length c)] (by kernel_rfl) (fun w => by kernel_rfl) ?_
  intro b_7 w_8 a H HP
  refine H.call 28 (by kernel_rfl) (Eq.trans (by kernel_rfl : _ = (callFunc 10 #[(.int .i64 ch), (.int .i64 r), (.slice (some ⟨b_7, 0, none⟩) 1 1)]).run Try.prog w_8) (Try.call10 _ _)) ((new_bad ch r (some ⟨b_7, 0, none⟩) 1 1 [⟨it, A, c, ps⟩] w_8 (ast1 (HP.at_ 0 rfl) (hpk.below (HP.below (by kernel_rfl))) hpc hc2 hc3) ⟨ps_len hpl, by omega⟩ hok)) ?_
  rintro e w_9 ⟨rfl, hb⟩
  refine ⟨_, rfl, ?_⟩
  intro a H
  have HP := HP.next hb
  refine H.val 23 (.tuple #[(.pointer none), (.int .i64 230)]) (by kernel_rfl) (by kernel_rfl) ?_
  intro a H
  refine H.val 29 (.pointer none) (by kernel_rfl) (by kernel_rfl) ?_
  intro a H
  refine H.val 30 (.int .i64 230) (by kernel_rfl) (by kernel_rfl) ?_
  intro a H
  refine H.val 10 (.pointer none) (by kernel_rfl) (by kernel_rfl) ?_
  intro a H
  refine H.val 11 (.int .i64 230) (by kernel_rfl) (by kernel_rfl) ?_
  intro a H
  refine wpList_nil ?_
  have H := H.keep (L' := [(11, (.int .i64 230)), (10, (.pointer none)), (9, (.bool true)), (14, (.bool true)), (8, (.bool false)), (7, (.pointer (some ⟨b_3, 0, none⟩))), (6, (.pointer (some ⟨b_1, 0, none⟩))), (0, (.int .i64 ch)), (1, (.int .i64 r)), (2, (.agg #[(.int .i64 it), (.slice A n c)])), (3, (.agg #[(.int .i64 u.channel), (.int .i64 u.frame), (.int .i64 u.version), (.int .i64 u.item), (.int .i64 u.index), (.bool u.key), (.string u.data), (.int .i64 u.regions), (.int .i64 u.gain), (.string u.caption), (.int .i64 u.os), (.int .i64 u.of), (.slice u.A u.al.length u.c)]))]) (by kernel_rfl)
  refine then_normal ?_
  refine w_cut (fun a wv => Sl 99 [(0, (.int .i64 ch)), (1, (.int .i64 r)), (6, (.pointer (some ⟨b_1, 0, none⟩))), (7, (.pointer (some ⟨b_3, 0, none⟩))), (8, (.bool false)), (9, (.bool true)), (10, (.pointer none)), (11, (.int .i64 230)), (12, (.bool false))] a ∧ Hp w wv [bx b_7 49 [(.int .i64 it), (.slice A ps.length c)] true, bx b_3 46 [(.int .i64 u.channel), (.int .i64 u.frame), (.int .i64 u.version), (.int .i64 u.item), (.int .i64 u.index), (.bool u.key), (.string u.data), (.int .i64 u.regions), (.int .i64 u.gain), (.string u.caption), (.int .i64 u.os), (.int .i64 u.of), (.slice u.A u.al.length u.c)] true, bx b_1 49 [(.int .i64 it), (.slice A ps.length c)] true] []) ?_ ?_
  ·
    refine w_region ?_
    refine H.val 31 (.int .i64 ch) (by kernel_rfl) (by kernel_rfl) ?_
    intro a H
    refine H.val 32 (.bool (decide (ch ≥ 0))) (by kernel_rfl) (by kernel_rfl) ?_
    intro a H
    refine H.val 33 (.bool (decide (ch ≥ 0))) (by kernel_rfl) (by kernel_rfl) ?_
    intro a H
    refine H.split 33 rfl (fun g33 H => ?_) (fun g33 H => ?_)
    · have g33p := of_decide_eq_true g33
      refine H.val 34 (.int .i64 ch) (by kernel_rfl) (by kernel_rfl) ?_
      intro a H
      refine H.val 35 (.bool (decide (ch < 40))) (by kernel_rfl) (by kernel_rfl) ?_
      intro a H
      refine H.val 36 (.bool (decide (ch < 40))) (by kernel_rfl) (by kernel_rfl) ?_
      intro a H
      refine H.val 37 (.bool (decide (ch < 40))) (by kernel_rfl) (by kernel_rfl) ?_
      intro a H
      refine H.split 37 rfl (fun g37 H => ?_) (fun g37 H => ?_)
      · have g37p := of_decide_eq_true g37
        refine H.val 38 (.int .i64 r) (by kernel_rfl) (by kernel_rfl) ?_
        intro a H
        refine H.val 39 (.bool (decide (r ≥ 0))) (by kernel_rfl) (by kernel_rfl) ?_
        intro a H
        refine H.val 40 (.bool (decide (r ≥ 0))) (by kernel_rfl) (by kernel_rfl) ?_
        intro a H
        refine H.val 41 (.bool (decide (r ≥ 0))) (by kernel_rfl) (by kernel_rfl) ?_
        intro a H
        refine H.split 41 rfl (fun g41 H => ?_) (fun g41 H => ?_)
        · have g41p := of_decide_eq_true g41
          refine H.val 42 (.int .i64 r) (by kernel_rfl) (by kernel_rfl) ?_
          intro a H
          refine H.val 43 (.bool (decide (r < 8))) (by kernel_rfl) (by kernel_rfl) ?_
          intro a H
          refine H.val 44 (.bool (decide (r < 8))) (by kernel_rfl) (by kernel_rfl) ?_
          intro a H
          refine H.val 45 (.bool (decide (r < 8))) (by kernel_rfl) (by kernel_rfl) ?_
          intro a H
          refine H.split 45 rfl (fun g45 H => ?_) (fun g45 H => ?_)
          · have g45p := of_decide_eq_true g45
            refine H.val 46 (.agg #[(.int .i64 it), (.slice A ps.length c)]) (by kernel_rfl) (ex_loadN (vs := [(.int .i64 it), (.slice A ps.length c)]) (by kernel_rfl) (by kernel_rfl) (by kernel_rfl) rfl (HP.cells 2 rfl 0 2 (by kernel_rfl))) ?_
            intro a H
            refine H.call 47 (by kernel_rfl) (Eq.trans (by kernel_rfl : _ = (callFunc 22 #[(.agg #[(.int .i64 it), (.slice A ps.length c)])]).run Try.prog w_9) (Try.call22 _ _)) ((by have hh := rvalidA_any it A ps.length c ps w_9 (hpk.below (HP.below (by kernel_rfl))) (by unfold maxLen; omega); rw [(newOk_false hok (by omega) (by omega) (by omega) (by omega))] at hh; exact hh)) ?_
            rintro e w_10 ⟨rfl, hb⟩
            refine ⟨_, rfl, ?_⟩
            intro a H
            have HP := HP.next hb
            refine H.val 48 (.bool false) (by kernel_rfl) (by kernel_rfl) ?_
            intro a H
            refine H.val 12 (.bool false) (by kernel_rfl) (by kernel_rfl) ?_
            intro a H
            refine wpList_nil ?_
            have H := H.keep (L' := [(12, (.bool false)), (11, (.int .i64 230)), (10, (.pointer none)), (9, (.bool true)), (14, (.bool true)), (8, (.bool false)), (7, (.pointer (some ⟨b_3, 0, none⟩))), (6, (.pointer (some ⟨b_1, 0, none⟩))), (0, (.int .i64 ch)), (1, (.int .i64 r)), (2, (.agg #[(.int .i64 it), (.slice A n c)])), (3, (.agg #[(.int .i64 u.channel), (.int .i64 u.frame), (.int .i64 u.version), (.int .i64 u.item), (.int .i64 u.index), (.bool u.key), (.string u.data), (.int .i64 u.regions), (.int .i64 u.gain), (.string u.caption), (.int .i64 u.os), (.int .i64 u.of), (.slice u.A u.al.length u.c)]))]) (by kernel_rfl)
            refine then_normal ?_
            exact ⟨H.keep (by kernel_rfl), HP⟩
          · have g45p := of_decide_eq_false g45
            refine H.skip 46 (by kernel_rfl) ?_
            intro a H
            refine H.skip 47 (by kernel_rfl) ?_
            intro a H
            refine H.val 48 (.bool false) (by kernel_rfl) (by kernel_rfl) ?_
            intro a H
            refine H.val 12 (.bool false) (by kernel_rfl) (by kernel_rfl) ?_
            intro a H
            refine wpList_nil ?_
            have H := H.keep (L' := [(12, (.bool false)), (11, (.int .i64 230)), (10, (.pointer none)), (9, (.bool true)), (14, (.bool true)), (8, (.bool false)), (7, (.pointer (some ⟨b_3, 0, none⟩))), (6, (.pointer (some ⟨b_1, 0, none⟩))), (0, (.int .i64 ch)), (1, (.int .i64 r)), (2, (.agg #[(.int .i64 it), (.slice A n c)])), (3, (.agg #[(.int .i64 u.channel), (.int .i64 u.frame), (.int .i64 u.version), (.int .i64 u.item), (.int .i64 u.index), (.bool u.key), (.string u.data), (.int .i64 u.regions), (.int .i64 u.gain), (.string u.caption), (.int .i64 u.os), (.int .i64 u.of), (.slice u.A u.al.length u.c)]))]) (by kernel_rfl)
            refine then_normal ?_
            exact ⟨H.keep (by kernel_rfl), HP⟩
        · have g41p := of_decide_eq_false g41
          refine H.skip 42 (by kernel_rfl) ?_
          intro a H
          refine H.skip 43 (by kernel_rfl) ?_
          intro a H
          refine H.val 44 (.bool false) (by kernel_rfl) (by kernel_rfl) ?_
          intro a H
          refine H.val 45 (.bool false) (by kernel_rfl) (by kernel_rfl) ?_
          intro a H
          refine H.skip 46 (by kernel_rfl) ?_
          intro a H
          refine H.skip 47 (by kernel_rfl) ?_
          intro a H
          refine H.val 48 (.bool false) (by kernel_rfl) (by kernel_rfl) ?_
          intro a H
          refine H.val 12 (.bool false) (by kernel_rfl) (by kernel_rfl) ?_
          intro a H
          refine wpList_nil ?_
          have H := H.keep (L' := [(12, (.bool false)), (11, (.int .i64 230)), (10, (.pointer none)), (9, (.bool true)), (14, (.bool true)), (8, (.bool false)), (7, (.pointer (some ⟨b_3, 0, none⟩))), (6, (.pointer (some ⟨b_1, 0, none⟩))), (0, (.int .i64 ch)), (1, (.int .i64 r)), (2, (.agg #[(.int .i64 it), (.slice A n c)])), (3, (.agg #[(.int .i64 u.channel), (.int .i64 u.frame), (.int .i64 u.version), (.int .i64 u.item), (.int .i64 u.index), (.bool u.key), (.string u.data), (.int .i64 u.regions), (.int .i64 u.gain), (.string u.caption), (.int .i64 u.os), (.int .i64 u.of), (.slice u.A u.al.length u.c)]))]) (by kernel_rfl)
          refine then_normal ?_
          exact ⟨H.keep (by kernel_rfl), HP⟩
      · have g37p := of_decide_eq_false g37
        refine H.skip 38 (by kernel_rfl) ?_
        intro a H
        refine H.skip 39 (by kernel_rfl) ?_
        intro a H
        refine H.val 40 (.bool false) (by kernel_rfl) (by kernel_rfl) ?_
        intro a H
        refine H.val 41 (.bool false) (by kernel_rfl) (by kernel_rfl) ?_
        intro a H
        refine H.skip 42 (by kernel_rfl) ?_
        intro a H
        refine H.skip 43 (by kernel_rfl) ?_
        intro a H
        refine H.val 44 (.bool false) (by kernel_rfl) (by kernel_rfl) ?_
        intro a H
        refine H.val 45 (.bool false) (by kernel_rfl) (by kernel_rfl) ?_
        intro a H
        refine H.skip 46 (by kernel_rfl) ?_
        intro a H
        refine H.skip 47 (by kernel_rfl) ?_
        intro a H
        refine H.val 48 (.bool false) (by kernel_rfl) (by kernel_rfl) ?_
        intro a H
        refine H.val 12 (.bool false) (by kernel_rfl) (by kernel_rfl) ?_
        intro a H
        refine wpList_nil ?_
        have H := H.keep (L' := [(12, (.bool false)), (11, (.int .i64 230)), (10, (.pointer none)), (9, (.bool true)), (14, (.bool true)), (8, (.bool false)), (7, (.pointer (some ⟨b_3, 0, none⟩))), (6, (.pointer (some ⟨b_1, 0, none⟩))), (0, (.int .i64 ch)), (1, (.int .i64 r)), (2, (.agg #[(.int .i64 it), (.slice A n c)])), (3, (.agg #[(.int .i64 u.channel), (.int .i64 u.frame), (.int .i64 u.version), (.int .i64 u.item), (.int .i64 u.index), (.bool u.key), (.string u.data), (.int .i64 u.regions), (.int .i64 u.gain), (.string u.caption), (.int .i64 u.os), (.int .i64 u.of), (.slice u.A u.al.length u.c)]))]) (by kernel_rfl)
        refine then_normal ?_
        exact ⟨H.keep (by kernel_rfl), HP⟩
    · have g33p := of_decide_eq_false g33
      refine H.skip 34 (by kernel_rfl) ?_
      intro a H
      refine H.skip 35 (by kernel_rfl) ?_
      intro a H
      refine H.val 36 (.bool false) (by kernel_rfl) (by kernel_rfl) ?_
      intro a H
      refine H.val 37 (.bool false) (by kernel_rfl) (by kernel_rfl) ?_
      intro a H
      refine H.skip 38 (by kernel_rfl) ?_
      intro a H
      refine H.skip 39 (by kernel_rfl) ?_
      intro a H
      refine H.val 40 (.bool false) (by kernel_rfl) (by kernel_rfl) ?_
      intro a H
      refine H.val 41 (.bool false) (by kernel_rfl) (by kernel_rfl) ?_
      intro a H
      refine H.skip 42 (by kernel_rfl) ?_
      intro a H
      refine H.skip 43 (by kernel_rfl) ?_
      intro a H
      refine H.val 44 (.bool false) (by kernel_rfl) (by kernel_rfl) ?_
      intro a H
      refine H.val 45 (.bool false) (by kernel_rfl) (by kernel_rfl) ?_
      intro a H
      refine H.skip 46 (by kernel_rfl) ?_
      intro a H
      refine H.skip 47 (by kernel_rfl) ?_
      intro a H
      refine H.val 48 (.bool false) (by kernel_rfl) (by kernel_rfl) ?_
      intro a H
      refine H.val 12 (.bool false) (by kernel_rfl) (by kernel_rfl) ?_
      intro a H
      refine wpList_nil ?_
      have H := H.keep (L' := [(12, (.bool false)), (11, (.int .i64 230)), (10, (.pointer none)), (9, (.bool true)), (14, (.bool true)), (8, (.bool false)), (7, (.pointer (some ⟨b_3, 0, none⟩))), (6, (.pointer (some ⟨b_1, 0, none⟩))), (0, (.int .i64 ch)), (1, (.int .i64 r)), (2, (.agg #[(.int .i64 it), (.slice A n c)])), (3, (.agg #[(.int .i64 u.channel), (.int .i64 u.frame), (.int .i64 u.version), (.int .i64 u.item), (.int .i64 u.index), (.bool u.key), (.string u.data), (.int .i64 u.regions), (.int .i64 u.gain), (.string u.caption), (.int .i64 u.os), (.int .i64 u.of), (.slice u.A u.al.length u.c)]))]) (by kernel_rfl)
      refine then_normal ?_
      exact ⟨H.keep (by kernel_rfl), HP⟩
  ·
    rintro a w_11 ⟨H, HP⟩
    refine wp_seq ?_
    refine wp_seq ?_
    refine w_region ?_
    refine H.val 49 (.int .i64 230) (by kernel_rfl) (by kernel_rfl) ?_
    intro a H
    refine H.val 50 (.bool false) (by kernel_rfl) (by kernel_rfl) ?_
    intro a H
    refine H.val 51 (.bool false) (by kernel_rfl) (by kernel_rfl) ?_
    intro a H
    refine H.val 52 (.bool false) (by kernel_rfl) (by kernel_rfl) ?_
    intro a H
    refine H.val 53 (.bool false) (by kernel_rfl) (by kernel_rfl) ?_
    intro a H
    refine H.val 54 (.pointer none) (by kernel_rfl) (by kernel_rfl) ?_
    intro a H
    refine H.val 55 (.bool false) (by kernel_rfl) (by kernel_rfl) ?_
    intro a H
    refine H.val 56 (.bool false) (by kernel_rfl) (by kernel_rfl) ?_
    intro a H
    refine H.val 57 (.bool false) (by kernel_rfl) (by kernel_rfl) ?_
    intro a H
    refine H.val 58 (.bool false) (by kernel_rfl) (by kernel_rfl) ?_
    intro a H
    refine H.val 59 (.bool false) (by kernel_rfl) (by kernel_rfl) ?_
    intro a H
    refine H.val 60 (.bool false) (by kernel_rfl) (by kernel_rfl) ?_
    intro a H
    refine H.val 61 (.bool true) (by kernel_rfl) (by kernel_rfl) ?_
    intro a H
    refine H.val 62 (.bool true) (by kernel_rfl) (by kernel_rfl) ?_
    intro a H
    refine H.val 63 (.int .i64 230) (by kernel_rfl) (by kernel_rfl) ?_
    intro a H
    refine H.val 64 (.bool false) (by kernel_rfl) (by kernel_rfl) ?_
    intro a H
    refine H.val 65 (.bool false) (by kernel_rfl) (by kernel_rfl) ?_
    intro a H
    refine H.val 66 (.bool false) (by kernel_rfl) (by kernel_rfl) ?_
    intro a H
    refine wpList_nil ?_
    have H := H.keep (L' := [(66, (.bool false)), (0, (.int .i64 ch)), (1, (.int .i64 r)), (6, (.pointer (some ⟨b_1, 0, none⟩))), (7, (.pointer (some ⟨b_3, 0, none⟩))), (8, (.bool false)), (9, (.bool true)), (10, (.pointer none)), (11, (.int .i64 230)), (12, (.bool false))]) (by kernel_rfl)
    refine then_normal ?_
    refine w_iff H rfl ?_
    refine wp_skip ?_
    refine then_normal ?_
    refine wp_seq ?_
    refine w_region ?_
    refine H.val 13 (.pointer none) (by kernel_rfl) (by kernel_rfl) ?_
    intro a H
    refine wpList_nil ?_
    refine then_normal ?_
    refine wp_seq ?_
    refine wp_seq ?_
    refine w_region ?_
    refine H.val 67 (.pointer none) (by kernel_rfl) (by kernel_rfl) ?_
    intro a H
    refine H.val 68 (.agg #[(.int .i64 u.channel), (.int .i64 u.frame), (.int .i64 u.version), (.int .i64 u.item), (.int .i64 u.index), (.bool u.key), (.string u.data), (.int .i64 u.regions), (.int .i64 u.gain), (.string u.caption), (.int .i64 u.os), (.int .i64 u.of), (.slice u.A u.al.length u.c)]) (by kernel_rfl) (ex_loadN (vs := [(.int .i64 u.channel), (.int .i64 u.frame), (.int .i64 u.version), (.int .i64 u.item), (.int .i64 u.index), (.bool u.key), (.string u.data), (.int .i64 u.regions), (.int .i64 u.gain), (.string u.caption), (.int .i64 u.os), (.int .i64 u.of), (.slice u.A u.al.length u.c)]) (by kernel_rfl) (by kernel_rfl) (by kernel_rfl) rfl (HP.cells 1 rfl 0 13 (by kernel_rfl))) ?_
    intro a H
    refine H.call 69 (by kernel_rfl) (Eq.trans (by kernel_rfl : _ = (callFunc 14 #[(.pointer none), (.agg #[(.int .i64 u.channel), (.int .i64 u.frame), (.int .i64 u.version), (.int .i64 u.item), (.int .i64 u.index), (.bool u.key), (.string u.data), (.int .i64 u.regions), (.int .i64 u.gain), (.string u.caption), (.int .i64 u.os), (.int .i64 u.of), (.slice u.A u.al.length u.c)])]).run Try.prog w_11) (Try.call14 _ _)) (step_nil u w_11) ?_
    rintro e w_12 ⟨rfl, hb⟩
    refine ⟨_, rfl, ?_⟩
    intro a H
    have HP := HP.next hb
    refine H.val 70 (.agg #[(.int .i64 0), (.int .i64 0), (.int .i64 0)]) (by kernel_rfl) (by kernel_rfl) ?_
    intro a H
    refine H.valE 71 (.bool (!(((0 : Int) == 0) && (((0 : Int) == 0) && ((0 : Int) == 0))))) (.bool false) (by kernel_rfl) (ex_neSh (a0 := 0) (a1 := 0) (a2 := 0) (b0 := 0) (b1 := 0) (b2 := 0) (by kernel_rfl) (by kernel_rfl)) (by rfl) ?_
    intro a H
    refine H.val 72 (.bool false) (by kernel_rfl) (by kernel_rfl) ?_
    intro a H
    refine H.val 73 (.pointer none) (by kernel_rfl) (by kernel_rfl) ?_
    intro a H
    refine H.call 74 (by kernel_rfl) (Eq.trans (by kernel_rfl : _ = (callFunc 17 #[(.pointer none)]).run Try.prog w_12) (Try.call17 _ _)) (full_nil w_12) ?_
    rintro e w_13 ⟨rfl, hw⟩
    refine ⟨_, rfl, ?_⟩
    intro a H
    have HP := hw ▸ HP
    refine H.val 75 (.bool false) (by kernel_rfl) (by kernel_rfl) ?_
    intro a H
    refine H.val 76 (.bool false) (by kernel_rfl) (by kernel_rfl) ?_
    intro a H
    refine wpList_nil ?_
    have H := H.keep (L' := [(76, (.bool false)), (13, (.pointer none)), (66, (.bool false)), (0, (.int .i64 ch)), (1, (.int .i64 r)), (6, (.pointer (some ⟨b_1, 0, none⟩))), (7, (.pointer (some ⟨b_3, 0, none⟩))), (8, (.bool false)), (9, (.bool true)), (10, (.pointer none)), (11, (.int .i64 230)), (12, (.bool false))]) (by kernel_rfl)
    refine then_normal ?_
    refine w_iff H rfl ?_
    refine wp_skip ?_
    refine then_normal ?_
    refine wp_seq ?_
    refine wp_seq ?_
    refine w_region ?_
    refine H.val 77 (.bool false) (by kernel_rfl) (by kernel_rfl) ?_
    intro a H
    refine H.val 78 (.bool true) (by kernel_rfl) (by kernel_rfl) ?_
    intro a H
    refine H.val 79 (.bool true) (by kernel_rfl) (by kernel_rfl) ?_
    intro a H
    refine H.skip 80 (by kernel_rfl) ?_
    intro a H
    refine H.skip 81 (by kernel_rfl) ?_
    intro a H
    refine H.skip 82 (by kernel_rfl) ?_
    intro a H
    refine H.skip 83 (by kernel_rfl) ?_
    intro a H
    refine H.val 84 (.bool true) (by kernel_rfl) (by kernel_rfl) ?_
    intro a H
    refine wpList_nil ?_
    have H := H.keep (L' := [(84, (.bool true)), (76, (.bool false)), (13, (.pointer none)), (66, (.bool false)), (0, (.int .i64 ch)), (1, (.int .i64 r)), (6, (.pointer (some ⟨b_1, 0, none⟩))), (7, (.pointer (some ⟨b_3, 0, none⟩))), (8, (.bool false)), (9, (.bool true)), (10, (.pointer none)), (11, (.int .i64 230)), (12, (.bool false))]) (by kernel_rfl)
    refine then_normal ?_
    refine w_ift H rfl ?_
    refine wp_seq ?_
    refine w_region ?_
    refine H.val 85 (.bool true) (by kernel_rfl) (by kernel_rfl) ?_
    intro a H
    refine H.val 8 (.bool true) (by kernel_rfl) (by kernel_rfl) ?_
    intro a H
    refine wpList_nil ?_
    refine then_normal ?_
    refine wp_ret ?_
    refine then_ret ?_
    refine H.ret1 (fn := Try.f7) Try.results7 (RV.tmp_ (v := (.bool true)) (by kernel_rfl)) ?_
    exact ⟨rfl, (HP.below (by kernel_rfl))⟩

namespace splicerRefuses
theorem walk (ch r : Int) (a : AstA) (u : UnitA) (w : World) (h0 : (Lit.int .i64 ch).wf = true) (h1 : (Lit.int .i64 r).wf = true) (h2 : opAst.ok w a) (h3 : opU.ok w u) :
    Calls Try.prog 7 #[.int .i64 ch, .int .i64 r, .agg (opAst.cells a).toArray, .agg (opU.cells u).toArray] w fun e w' => e = .returned (.bool true) ∧ Below w.heap.size w w' := by
  obtain ⟨q1, q2, q3, q4⟩ := h2
  obtain ⟨ps, hps⟩ : ∃ ps, a.pics.take 50 = ps := ⟨_, rfl⟩
  obtain ⟨c1, c2⟩ := pics_cut q1 hps
  cases hok : newOk ch r [⟨a.item, a.A, a.c, ps⟩] with
  | true => exact refuses_good ch r a.item a.A a.pics.length a.c a.pics ps u w (wf64_bd h0) (wf64_bd h1) c1 c2 (by omega) q3 q4 h3 hok
  | false => exact refuses_bad ch r a.item a.A a.pics.length a.c a.pics ps u w (wf64_bd h0) (wf64_bd h1) c1 c2 (by omega) q3 q4 h3 hok
end splicerRefuses
end Go.Proofs.Ytpaepefpfaoacaa
