/- The statement streamLost.proved: for every input the law returns true and leaves its arguments as they were. No condition. -/
import Derived.Deep.Slices
import Derived.Deep.Fields
import Derived.ChangeSame
import Derived.ChangeArms
import Derived.SizedLaws
import Derived.OpenShut
import Derived.Test.YtcifcipjndiegaaDoorCards
import Derived.Test.YtcifcipjndiegaaDoorTie
import Derived.WalkKit
import Derived.ProofKit
import Derived.ShutString
import Derived.ChangeOld
import Derived.Below
import Derived.SevenTiedAt
import Derived.Test.YtcifcipjndiegaaDoorZhc
namespace Go.Proofs.YtcifcipjndiegaaDoor
open Go.ChangeShapes Go.WideShapes Go.ChangeAt Go.RowKit Go.Shelf
set_option linter.unusedVariables false
set_option linter.unusedSimpArgs false
def rdecFp (b : Nat) (R : Option Addr) (m : Nat) (k : Nat) : Prop := k = b ∨ rowFp m R k
def rdecR (b : Nat) (R : Option Addr) (cr : Nat) (d : Dec) : HB := HB.of (rdecFp b R d.rows.length)
 (fun w => Box w b 64 #[.slice R d.rows.length cr, .string (bstr d.buf)] ∧ IsRow 1 strC w R d.rows ∧ ¬ rowFp d.rows.length R b) true
theorem rdecR_ok (b : Nat) (R : Option Addr) (cr : Nat) (d : Dec) : (rdecR b R cr d).ok := fun w1 w2 ⟨h1, h3, h4⟩ hk hs =>
 ⟨(hk b (.inl rfl)).trans h1, h3.keep (fun k h => hk k (.inr h)) hs, h4⟩
theorem rdec_mk {b : Nat} {R : Option Addr} {cr : Nat} {l : Str} {rows : List Str} {w : World} (hb : Box w b 64 #[.slice R rows.length cr, .string (bstr l)]) (hr : IsRow 1 strC w R rows) (h2 : ¬ rowFp rows.length R b) : (rdecR b R cr ⟨l, rows⟩).F w := ⟨hb, hr, h2⟩
def RDecPost (b : Nat) (R : Option Addr) (m : Nat) (d : Dec) (w : World) (e : Ending) (w' : World) : Prop :=
 e = .returned (.tuple #[]) ∧ ∃ R' cr', (rdecR b R' cr' d).F w' ∧ Agree w w' (fun k => k = b) ∧ ∀ k, rdecFp b R' d.rows.length k → rdecFp b R m k ∨ w.heap.size ≤ k
theorem rdec_fpe {b k : Nat} (h : rdecFp b none 0 k) : k = b := by
 rcases h with h | ⟨h, _⟩
 ·exact h
 ·omega
theorem rdec_fpN {b : Nat} {R R' : Option Addr} {m m' k n : Nat} (hn : ∀ k, rowFp m' R' k → n ≤ k) (h : rdecFp b R' m' k) : rdecFp b R m k ∨ n ≤ k := by
 rcases h with h | h
 ·exact .inl (.inl h)
 ·exact .inr (hn k h)
def FeedN (cd l : Str) (rows : List Str) (nb : Str) : Prop := (nb = [] → feedP cd ⟨l, rows⟩ = ⟨[], rows⟩) ∧ (nb ≠ [] → feedP cd ⟨l, rows⟩ = doneP ⟨nb, rows⟩)
theorem FeedN.no {cd l : Str} {rows : List Str} {nb : Str} (h : FeedN cd l rows nb) (hn : nb = []) : feedP cd ⟨l, rows⟩ = ⟨[], rows⟩ := h.1 hn
theorem FeedN.yes {cd l : Str} {rows : List Str} {nb : Str} (h : FeedN cd l rows nb) (hn : nb ≠ []) : feedP cd ⟨l, rows⟩ = doneP ⟨nb, rows⟩ := h.2 hn
theorem feedN_start {c l : Str} {rows : List Str} (h : c.length = 3) (h1 : (c.getD 0 0).toNat = 128) : FeedN c l rows (c.drop 1) :=
 ⟨fun e => by have := congrArg List.length e; rw [List.length_drop] at this; simp only [List.length_nil] at this; omega, fun _ => dfeed_start h h1⟩
theorem feedN_cont {c l : Str} {rows : List Str} (h : c.length = 3) (h1 : 192 < (c.getD 0 0).toNat) (h2 : l.length = 2 * ((c.getD 0 0).toNat - 192)) : FeedN c l rows (l ++ c.drop 1) :=
 ⟨fun e => by have := congrArg List.length e; rw [List.length_append, List.length_drop] at this; simp only [List.length_nil] at this; omega, fun _ => dfeed_cont h h1 h2⟩
theorem feedN_no {c l : Str} {rows : List Str} (h : c.length = 3) (h1 : (c.getD 0 0).toNat ≠ 64) (h2 : (c.getD 0 0).toNat ≠ 128) (h3 : ¬ (192 < (c.getD 0 0).toNat ∧ l.length = 2 * ((c.getD 0 0).toNat - 192))) : FeedN c l rows [] :=
 ⟨fun _ => dfeed_no h h1 h2 h3, fun h => absurd rfl h⟩
theorem feed_few {c l : Str} {rows : List Str} (h : c.length ≠ 3 ∨ (c.getD 0 0).toNat < 64) : feedP c ⟨l, rows⟩ = ⟨[], rows⟩ := by
 by_cases h3 : c.length = 3
 ·exact dfeed_no h3 (by omega) (by omega) (fun h => by omega)
 ·exact dfeed_bad h3
theorem rintU_any (s : Str) (w : World) (hs : s.length ≤ 1000000) : Calls Tryd.prog 36 #[.string (bstr s), .int .i64 0] w fun e w' => ∃ n k er, e = .returned (.tuple #[.int .i64 n, .int .i64 ((k : Nat) : Int), .int .i64 er]) ∧ Below w.heap.size w w' ∧ (er = 0 → rdInt s 0 = some (n, k) ∧ k ≤ s.length) ∧ (er ≠ 0 → rdInt s 0 = none) := by
 refine (rint_any s 0 w hs (Nat.zero_le _)).mono ?_
 rintro e w' ⟨rfl, hb⟩
 cases h : rdInt s 0 with
 | none => exact ⟨0, 0, 10, rfl, hb, (fun h => by cases h), fun _ => rfl⟩
 | some p =>
  obtain ⟨n, k⟩ := p
  exact ⟨n, k, 0, rfl, hb, (fun _ => ⟨rfl, (rdInt_canon (Nat.zero_le _) h).2.2.2.1⟩), fun h => absurd rfl h⟩
set_option maxRecDepth 100000 in
set_option maxHeartbeats 4000000 in
theorem rnew_any (w : World) : Calls Tryd.prog 12 #[] w fun e w' => ∃ b, e = .returned (pt b 0) ∧ (rdecR b none 0 ⟨[], []⟩).F w' ∧ Below w.heap.size w w' ∧ ∀ k, rdecFp b none 0 k → w.heap.size ≤ k := by
 have HP := Hp.start w
 refine w_enter 3 [] Tryd.func12 rfl Tryd.ntmps12 (by kernel_rfl) (by kernel_rfl) fun a H => ?_
 refine wp_seq (w_region ?_)
 refine H.ge HP [(0, (.pointer none))] [] fun a H => ?_
 refine then_normal (wp_seq (w_region ?_))
 refine H.go HP 1 [(1, (.agg #[(.slice none 0 0), (.string (bstr ([])))]))] [] fun a H => ?_
 refine H.alloc HP 2 (fun b => (pt b 0)) 64 [(.slice none 0 0), (.string (bstr ([])))] (by kernel_rfl) (fun w => by kernel_rfl) fun b_1 w_2 a H HP => ?_
 refine H.ge HP [(0, (pt b_1 0))] [] fun a H => ?_
 refine then_normal (wp_ret ?_)
 refine H.ret1 (fn := Tryd.f12) Tryd.results12 (RV.tmp_ (v := (pt b_1 0)) (by kernel_rfl)) ?_
 exact ⟨b_1, rfl, rdec_mk (HP.at_ 0 rfl) (IsRow_nil _ _ _) (fun h => by have h0 : 0 < 0 := h.1; omega), HP.bl, fun k hk => HP.fresh _ (List.mem_singleton.2 rfl) rfl k (rdec_fpe hk)⟩
set_option maxRecDepth 100000 in
set_option maxHeartbeats 4000000 in
theorem rdrows_any (b : Nat) (R : Option Addr) (cr : Nat) (l : Str) (rows : List Str) (w : World) (hd : (rdecR b R cr ⟨l, rows⟩).F w) : Calls Tryd.prog 20 #[.pointer (some ⟨b, 0, none⟩)] w fun e w' => e = .returned (.slice R rows.length cr) ∧ Below w.heap.size w w' := by
 obtain ⟨hbx, hr, hs2⟩ := hd
 have hbx : Box w b 64 #[.slice R rows.length cr, .string (bstr l)] := hbx
 have HP := (Hp.own hbx).keepF (rowF 1 strC R rows) hr (rowF_ok _ _ _ _) fun k hk => ⟨hr.lt k hk, fun x hx => by rcases List.mem_singleton.1 hx with rfl; exact fun e => hs2 (by have e : k = b := e; exact e ▸ hk)⟩
 refine w_enter 7 [(0, (pt b 0))] Tryd.func20 rfl Tryd.ntmps20 (by kernel_rfl) (by kernel_rfl) fun a H => ?_
 refine wp_seq (w_region ?_)
 refine H.ge HP [(2, (.slice none 0 0))] [] fun a H => ?_
 refine then_normal (wp_seq (w_region ?_))
 refine H.ge HP [(3, (pt b 0)), (4, (pt b 0)), (5, (pt b 0)), (2, (.slice R rows.length cr))] [0] fun a H => ?_
 refine then_normal (wp_ret ?_)
 refine H.ret1 (fn := Tryd.f20) Tryd.results20 (RV.tmp_ (v := (.slice R rows.length cr)) (by kernel_rfl)) ?_
 exact ⟨rfl, Below.refl _ _⟩
set_option maxRecDepth 100000 in
set_option maxHeartbeats 4000000 in
theorem rfeed_any (b : Nat) (R : Option Addr) (cr : Nat) (l : Str) (rows : List Str) (cd : Str) (w : World) (hd : (rdecR b R cr ⟨l, rows⟩).F w) (hl : l.length ≤ 95) :
  Calls Tryd.prog 17 #[.pointer (some ⟨b, 0, none⟩), .string (bstr cd)] w (RDecPost b R rows.length (feedP cd ⟨l, rows⟩) w) := by
 obtain ⟨hbx, hr, hs2⟩ := hd
 have hbx : Box w b 64 #[.slice R rows.length cr, .string (bstr l)] := hbx
 have HP := (Hp.own hbx).keepF (rowF 1 strC R rows) hr (rowF_ok _ _ _ _) fun k hk => ⟨hr.lt k hk, fun x hx => by rcases List.mem_singleton.1 hx with rfl; exact fun e => hs2 (by have e : k = b := e; exact e ▸ hk)⟩
 refine w_enter 118 [(0, (pt b 0)), (1, (.string (bstr cd)))] Tryd.func17 rfl Tryd.ntmps17 (by kernel_rfl) (by kernel_rfl) fun a H => ?_
 refine wp_seq (w_region ?_)
 refine H.ge HP [(4, (.string (bstr l)))] [0] fun a H => ?_
 refine then_normal (wp_seq (w_region ?_))
 refine H.go HP 3 [(16, (pt b 1))] [] fun a H => ?_
 refine H.sh HP 0 1 (.string (bstr ([]))) rfl fun w_1 a H HP => ?_
 refine wpList_nil (then_normal (wp_seq (wp_seq ?_)))
 have hx0 := (cd.getD 0 0).toNat_lt
 refine w_region ?_
 refine H.go HP 4 [(20, (.bool ((cd.length : Int) != 3)))] [] fun a H => ?_
 refine H.split 20 rfl (fun g20 H => ?_) (fun g20 H => ?_)
 ·have g20p := bne_iff_ne.1 g20
  refine H.ge HP [(24, (.bool true))] [] fun a H => ?_
  refine then_normal ?_
  refine w_ift H rfl ?_
  refine wp_ret (then_ret ?_)
  refine H.ret0 (fn := Tryd.f17) Tryd.results17  ?_
  have HP : Hp w w_1 [bx b 64 [(.slice R rows.length cr), (.string (bstr ([])))] false] [rowF 1 strC R rows] := HP
  have hbx := HP.at_ 0 rfl
  rw [feed_few (by omega)]
  exact ⟨rfl, R, cr, rdec_mk hbx (HP.fact 0 rfl) hs2, (HP.agreeF _ fun x hx => by simp only [List.mem_cons, List.not_mem_nil, or_false] at hx; rcases hx with rfl <;> simp [bx, rowsR]), fun k hk => .inl hk⟩
 ·have g20p := eq_of_bne_false g20
  refine H.go HP 1 [(21, (.string (bstr cd)))] [] fun a H => ?_
  refine H.u 22 (.int .u8 (((cd.getD 0 0).toNat : Nat) : Int)) (ex_sindex (k := .i64) (l := cd) (i := 0) (m := 0) (by kernel_rfl) (by kernel_rfl) (by kernel_rfl) (by omega) (by (first | omega | (have := (hw0 (by assumption)).2; omega)))) fun a H => ?_
  refine H.ge HP [(24, (.bool (decide ((((cd.getD 0 0).toNat : Nat) : Int) < 64))))] [] fun a H => ?_
  refine then_normal ?_
  refine w_if H rfl (fun g24 => ?_) (fun g24 => ?_)
  ·have g24p := of_decide_eq_true g24
   refine wp_ret (then_ret ?_)
   refine H.ret0 (fn := Tryd.f17) Tryd.results17  ?_
   have HP : Hp w w_1 [bx b 64 [(.slice R rows.length cr), (.string (bstr ([])))] false] [rowF 1 strC R rows] := HP
   have hbx := HP.at_ 0 rfl
   rw [feed_few (by omega)]
   exact ⟨rfl, R, cr, rdec_mk hbx (HP.fact 0 rfl) hs2, (HP.agreeF _ fun x hx => by simp only [List.mem_cons, List.not_mem_nil, or_false] at hx; rcases hx with rfl <;> simp [bx, rowsR]), fun k hk => .inl hk⟩
  ·have g24p := of_decide_eq_false g24
   refine wp_skip (then_normal (wp_seq (wp_seq (w_region ?_))))
   refine H.go HP 1 [(25, (.string (bstr cd)))] [] fun a H => ?_
   refine H.u 26 (.int .u8 (((cd.getD 0 0).toNat : Nat) : Int)) (ex_sindex (k := .i64) (l := cd) (i := 0) (m := 0) (by kernel_rfl) (by kernel_rfl) (by kernel_rfl) (by omega) (by (first | omega | (have := (hw0 (by assumption)).2; omega)))) fun a H => ?_
   refine H.ge HP [(27, (.bool (decide ((((cd.getD 0 0).toNat : Nat) : Int) < 128))))] [] fun a H => ?_
   refine then_normal ?_
   refine w_if H rfl (fun g27 => ?_) (fun g27 => ?_)
   ·have g27p := of_decide_eq_true g27
    refine wp_seq (wp_seq (w_region ?_))
    refine H.go HP 1 [(28, (.string (bstr cd)))] [] fun a H => ?_
    refine H.u 29 (.int .u8 (((cd.getD 0 0).toNat : Nat) : Int)) (ex_sindex (k := .i64) (l := cd) (i := 0) (m := 0) (by kernel_rfl) (by kernel_rfl) (by kernel_rfl) (by omega) (by (first | omega | (have := (hw0 (by assumption)).2; omega)))) fun a H => ?_
    refine H.ge HP [(30, (.bool ((((cd.getD 0 0).toNat : Nat) : Int) == 64)))] [] fun a H => ?_
    refine then_normal ?_
    refine w_if H rfl (fun g30 => ?_) (fun g30 => ?_)
    ·have g30p := eq_of_beq g30
     refine w_region ?_
     refine H.go HP 3 [(33, (pt b 0))] [] fun a H => ?_
     refine H.sh HP 0 0 (.slice none 0 0) rfl fun w_2 a H HP => ?_
     refine wpList_nil (then_normal (wp_ret (then_ret ?_)))
     refine H.ret0 (fn := Tryd.f17) Tryd.results17  ?_
     have HP : Hp w w_2 [bx b 64 [(.slice none 0 0), (.string (bstr ([])))] false] [rowF 1 strC R rows] := HP
     have hbx := HP.at_ 0 rfl
     rw [dfeed_clear (by omega) (by omega)]
     exact ⟨rfl, none, 0, rdec_mk hbx (IsRow_nil _ _ _) (fun h => by have h0 : 0 < 0 := h.1; omega), (HP.agreeF _ fun x hx => by simp only [List.mem_cons, List.not_mem_nil, or_false] at hx; rcases hx with rfl <;> simp [bx, rowsR]), fun k hk => .inl (.inl (rdec_fpe hk))⟩
    ·have g30p := ne_of_beq_false g30
     refine wp_skip (then_normal (wp_ret (then_ret ?_)))
     refine H.ret0 (fn := Tryd.f17) Tryd.results17  ?_
     have HP : Hp w w_1 [bx b 64 [(.slice R rows.length cr), (.string (bstr ([])))] false] [rowF 1 strC R rows] := HP
     have hbx := HP.at_ 0 rfl
     rw [dfeed_no (by omega) (by omega) (by omega) (fun h => by omega)]
     exact ⟨rfl, R, cr, rdec_mk hbx (HP.fact 0 rfl) hs2, (HP.agreeF _ fun x hx => by simp only [List.mem_cons, List.not_mem_nil, or_false] at hx; rcases hx with rfl <;> simp [bx, rowsR]), fun k hk => .inl hk⟩
   ·have g27p := of_decide_eq_false g27
    refine wp_skip (then_normal (wp_seq (wp_seq (w_region ?_))))
    refine H.go HP 1 [(34, (.string (bstr cd)))] [] fun a H => ?_
    refine H.u 35 (.int .u8 (((cd.getD 0 0).toNat : Nat) : Int)) (ex_sindex (k := .i64) (l := cd) (i := 0) (m := 0) (by kernel_rfl) (by kernel_rfl) (by kernel_rfl) (by omega) (by (first | omega | (have := (hw0 (by assumption)).2; omega)))) fun a H => ?_
    refine H.ge HP [(36, (.bool ((((cd.getD 0 0).toNat : Nat) : Int) == 128)))] [] fun a H => ?_
    refine then_normal ?_
    refine w_if H rfl (fun g36 => ?_) (fun g36 => ?_)
    ·have g36p := eq_of_beq g36
     refine w_region ?_
     refine H.go HP 2 [(37, (pt b 0)), (38, (.string (bstr cd)))] [] fun a H => ?_
     refine H.u 39 (.string (bstr (cd.drop 1))) (ex_ssliceL (k := .i64) (l := cd) (i := 1) (a := 1) (by kernel_rfl) (by kernel_rfl) (by kernel_rfl) (by omega) (by (first | omega | (have := (hw0 (by assumption)).2; omega)))) fun a H => ?_
     refine H.go HP 2 [(41, (pt b 1))] [] fun a H => ?_
     refine H.sh HP 0 1 (.string (bstr (cd.drop 1))) rfl fun w_3 a H HP => ?_
     refine wpList_nil (then_normal ?_)
     refine w_cut (fun a wv => ∃ (nb : Str), Sl 118 [(0, (pt b 0)), (1, (.string (bstr cd)))] a ∧ Hp w wv [bx b 64 [(.slice R rows.length cr), (.string (bstr nb))] false] [rowF 1 strC R rows] ∧ (FeedN cd l rows nb) ∧ (nb.length ≤ 1000)) ?_ ?_
     ·
      refine wp_seq (w_region ?_)
      refine H.go HP 1 [(42, (.string (bstr cd)))] [] fun a H => ?_
      refine H.u 43 (.int .u8 (((cd.getD 0 0).toNat : Nat) : Int)) (ex_sindex (k := .i64) (l := cd) (i := 0) (m := 0) (by kernel_rfl) (by kernel_rfl) (by kernel_rfl) (by omega) (by (first | omega | (have := (hw0 (by assumption)).2; omega)))) fun a H => ?_
      refine H.go HP 2 [(45, (.bool (decide ((((cd.getD 0 0).toNat : Nat) : Int) > 192))))] [] fun a H => ?_
      refine H.split 45 rfl (fun g45 H => ?_) (fun g45 H => ?_)
      ·have g45p := of_decide_eq_true g45
       refine H.go HP 3 [(47, (ii l.length)), (48, (.string (bstr cd)))] [] fun a H => ?_
       refine H.u 49 (.int .u8 (((cd.getD 0 0).toNat : Nat) : Int)) (ex_sindex (k := .i64) (l := cd) (i := 0) (m := 0) (by kernel_rfl) (by kernel_rfl) (by kernel_rfl) (by omega) (by (first | omega | (have := (hw0 (by assumption)).2; omega)))) fun a H => ?_
       refine H.valE 50 (.int .u8 (IntKind.u8.wrap ((((cd.getD 0 0).toNat : Nat) : Int) - 192))) (.int .u8 (((cd.getD 0 0).toNat - 192 : Nat) : Int)) (by kernel_rfl) (by kernel_rfl) ((by rw [wrap_inu8 _ (by omega)]; exact congrArg (Value.int .u8) (by omega))) fun a H => ?_
       refine H.valE 51 (ii (IntKind.i64.wrap (((cd.getD 0 0).toNat - 192 : Nat) : Int))) (ii (((cd.getD 0 0).toNat - 192 : Nat) : Int)) (by kernel_rfl) (by kernel_rfl) ((by rw [wrap_ini64 _ (by omega)])) fun a H => ?_
       refine H.valE 52 (ii (IntKind.i64.wrap (2 * (((cd.getD 0 0).toNat - 192 : Nat) : Int)))) (ii ((2 * ((cd.getD 0 0).toNat - 192) : Nat) : Int)) (by kernel_rfl) (by kernel_rfl) ((by rw [wrap_ini64 _ (by omega)]; exact congrArg (Value.int .i64) (by omega))) fun a H => ?_
       refine H.ge HP [(54, (.bool ((l.length : Int) == ((2 * ((cd.getD 0 0).toNat - 192) : Nat) : Int))))] [] fun a H => ?_
       refine then_normal ?_
       refine w_if H rfl (fun g54 => ?_) (fun g54 => ?_)
       ·have g54p := eq_of_beq g54
        refine w_region ?_
        refine H.go HP 3 [(55, (pt b 0)), (56, (.string (bstr l))), (57, (.string (bstr cd)))] [] fun a H => ?_
        refine H.u 58 (.string (bstr (cd.drop 1))) (ex_ssliceL (k := .i64) (l := cd) (i := 1) (a := 1) (by kernel_rfl) (by kernel_rfl) (by kernel_rfl) (by omega) (by (first | omega | (have := (hw0 (by assumption)).2; omega)))) fun a H => ?_
        refine H.u 59 (.string (bstr (l ++ (cd.drop 1)))) (ex_sadd (by kernel_rfl) (by kernel_rfl) (by (simp only [List.length_append, List.length_drop]; omega))) fun a H => ?_
        refine H.go HP 2 [(61, (pt b 1))] [] fun a H => ?_
        refine H.sh HP 0 1 (.string (bstr (l ++ (cd.drop 1)))) rfl fun w_4 a H HP => ?_
        refine wpList_nil (then_normal ?_)
        exact ⟨l ++ (cd.drop 1), H.keep (by kernel_rfl), HP, (by exfalso; omega), (by exfalso; omega)⟩
       ·have g54p := ne_of_beq_false g54
        refine wp_skip (then_normal ?_)
        exact ⟨cd.drop 1, H.keep (by kernel_rfl), HP, (feedN_start (by omega) (by omega)), (by rw [List.length_drop]; omega)⟩
      ·have g45p := of_decide_eq_false g45
       refine H.ge HP [(54, (.bool false))] [] fun a H => ?_
       refine then_normal ?_
       refine w_iff H rfl ?_
       refine wp_skip (then_normal ?_)
       exact ⟨cd.drop 1, H.keep (by kernel_rfl), HP, (feedN_start (by omega) (by omega)), (by rw [List.length_drop]; omega)⟩
     ·
      rintro a w_5 ⟨nb, H, HP, hnb, hnl⟩
      refine wp_seq (wp_seq (w_region ?_))
      refine H.go HP 4 [(65, (.string (bstr nb)))] [0] fun a H => ?_
      refine H.valE 66 (.bool ((bstr nb).toList == (bstr ([])).toList)) (.bool (nb == ([]))) (by kernel_rfl) (by kernel_rfl) ((congrArg Value.bool (bstr_eq _ _))) fun a H => ?_
      refine wpList_nil (then_normal ?_)
      refine w_if H rfl (fun g66 => ?_) (fun g66 => ?_)
      ·have g66p := eq_of_beq g66
       refine wp_ret (then_ret ?_)
       refine H.ret0 (fn := Tryd.f17) Tryd.results17  ?_
       have HP : Hp w w_5 [bx b 64 [(.slice R rows.length cr), (.string (bstr nb))] false] [rowF 1 strC R rows] := HP
       have hbx := HP.at_ 0 rfl
       have hn0 : nb = [] := by simpa using g66p
       rw [hn0] at hbx
       rw [hnb.no hn0]
       exact ⟨rfl, R, cr, rdec_mk hbx (HP.fact 0 rfl) hs2, (HP.agreeF _ fun x hx => by simp only [List.mem_cons, List.not_mem_nil, or_false] at hx; rcases hx with rfl <;> simp [bx, rowsR]), fun k hk => .inl hk⟩
      ·have g66p := ne_of_beq_false g66
       refine wp_skip (then_normal (wp_seq ?_))
       have hn0 : nb ≠ [] := by simpa using g66p
       have hnp := List.length_pos_iff.2 hn0
       have hfd := hnb.yes hn0
       obtain ⟨nn, hnn⟩ : ∃ n, (nb.getD 0 0).toNat = n := ⟨_, rfl⟩
       have hnn2 : nn < 256 := by rw [← hnn]; exact (nb.getD 0 0).toNat_lt
       refine w_region ?_
       refine H.go HP 4 [(70, (.string (bstr nb)))] [0] fun a H => ?_
       refine H.u 71 (.int .u8 (((nb.getD 0 0).toNat : Nat) : Int)) (ex_sindex (k := .i64) (l := nb) (i := 0) (m := 0) (by kernel_rfl) (by kernel_rfl) (by kernel_rfl) (by omega) (by (first | omega | (have := (hw0 (by assumption)).2; omega)))) fun a H => ?_
       refine H.valE 72 (ii (IntKind.i64.wrap (((nb.getD 0 0).toNat : Nat) : Int))) (ii nn) (by kernel_rfl) (by kernel_rfl) ((by rw [wrap_ini64 _ (by omega), hnn])) fun a H => ?_
       refine H.ge HP [(5, (ii nn))] [] fun a H => ?_
       refine then_normal (wp_seq (wp_seq (w_region ?_)))
       refine H.ge HP [(74, (.bool (decide ((nn : Int) > 95))))] [] fun a H => ?_
       refine then_normal ?_
       refine w_if H rfl (fun g74 => ?_) (fun g74 => ?_)
       ·have g74p := of_decide_eq_true g74
        refine wp_seq (w_region ?_)
        refine H.go HP 3 [(77, (pt b 1))] [] fun a H => ?_
        refine H.sh HP 0 1 (.string (bstr ([]))) rfl fun w_6 a H HP => ?_
        refine wpList_nil (then_normal (wp_ret (then_ret ?_)))
        refine H.ret0 (fn := Tryd.f17) Tryd.results17  ?_
        have HP : Hp w w_6 [bx b 64 [(.slice R rows.length cr), (.string (bstr ([])))] false] [rowF 1 strC R rows] := HP
        have hbx := HP.at_ 0 rfl
        rw [hfd, dec_done1 (by rw [hnn]; omega)]
        exact ⟨rfl, R, cr, rdec_mk hbx (HP.fact 0 rfl) hs2, (HP.agreeF _ fun x hx => by simp only [List.mem_cons, List.not_mem_nil, or_false] at hx; rcases hx with rfl <;> simp [bx, rowsR]), fun k hk => .inl hk⟩
       ·have g74p := of_decide_eq_false g74
        refine wp_skip (then_normal (wp_seq (wp_seq (w_region ?_))))
        refine H.ge HP [(84, (.bool (decide ((nb.length : Int) ≤ (nn : Int)))))] [0] fun a H => ?_
        refine then_normal ?_
        refine w_if H rfl (fun g84 => ?_) (fun g84 => ?_)
        ·have g84p := of_decide_eq_true g84
         refine wp_ret (then_ret ?_)
         refine H.ret0 (fn := Tryd.f17) Tryd.results17  ?_
         have HP : Hp w w_5 [bx b 64 [(.slice R rows.length cr), (.string (bstr nb))] false] [rowF 1 strC R rows] := HP
         have hbx := HP.at_ 0 rfl
         rw [hfd, dec_done2 (by rw [hnn]; omega) (by rw [hnn]; omega)]
         exact ⟨rfl, R, cr, rdec_mk hbx (HP.fact 0 rfl) hs2, (HP.agreeF _ fun x hx => by simp only [List.mem_cons, List.not_mem_nil, or_false] at hx; rcases hx with rfl <;> simp [bx, rowsR]), fun k hk => .inl hk⟩
        ·have g84p := of_decide_eq_false g84
         refine wp_skip (then_normal (wp_seq (w_region ?_)))
         refine H.go HP 5 [(88, (.string (bstr nb))), (89, (ii nn))] [0] fun a H => ?_
         refine H.valE 90 (ii (IntKind.i64.wrap (1 + (nn : Int)))) (ii ((nn + 1 : Nat) : Int)) (by kernel_rfl) (by kernel_rfl) ((by rw [wrap_ini64 _ (by omega)]; exact congrArg (Value.int .i64) (by omega))) fun a H => ?_
         refine H.u 91 (.string (bstr ((nb.drop 1).take ((nn + 1) - 1)))) (ex_sslice (k := .i64) (kk := .i64) (l := nb) (i := 1) (j := ((nn + 1 : Nat) : Int)) (a := 1) (b := (nn + 1)) (by kernel_rfl) (by kernel_rfl) (by kernel_rfl) (by kernel_rfl) (by omega) (by omega) (by (first | omega | (have := (hw0 (by assumption)).2; omega))) (by (first | omega | (have := (hw0 (by assumption)).2; omega)))) fun a H => ?_
         refine H.ge HP [(6, (.string (bstr ((nb.drop 1).take ((nn + 1) - 1)))))] [] fun a H => ?_
         refine then_normal (wp_seq (w_region ?_))
         refine H.go HP 3 [(94, (pt b 1))] [] fun a H => ?_
         refine H.sh HP 0 1 (.string (bstr ([]))) rfl fun w_7 a H HP => ?_
         refine wpList_nil (then_normal (wp_seq ?_))
         obtain ⟨bk, hbkd⟩ : ∃ x, (nb.drop 1).take (nn + 1 - 1) = x := ⟨_, rfl⟩
         have hbk : bk.length = nn := by rw [← hbkd, List.length_take, List.length_drop]; omega
         have H := H.as 6 (.string (bstr bk)) rfl (congrArg (fun x => Value.string (bstr x)) hbkd)
         refine w_region ?_
         refine H.go HP 1 [(96, (.string (bstr bk)))] [] fun a H => ?_
         refine H.call 97 (by kernel_rfl) (Eq.trans (by kernel_rfl : _ = (callFunc 36 #[(.string (bstr bk)), (ii 0)]).run Tryd.prog w_7) (Tryd.call36 _ _)) (rintU_any bk w_7 (by omega)) ?_
         rintro e w_8 ⟨sm, ka, er, rfl, hbw, hw0, hw1⟩
         refine ⟨_, rfl, ?_⟩
         intro a H
         have HP := HP.next hbw
         refine H.ge HP [(7, (ii sm)), (8, (ii ka)), (9, (ii er))] [] fun a H => ?_
         refine then_normal (wp_seq (wp_seq (w_region ?_)))
         refine H.go HP 3 [(103, (.bool (er != 0)))] [] fun a H => ?_
         refine H.split 103 rfl (fun g103 H => ?_) (fun g103 H => ?_)
         ·have g103p := bne_iff_ne.1 g103
          refine H.ge HP [(110, (.bool true))] [] fun a H => ?_
          refine then_normal ?_
          refine w_ift H rfl ?_
          refine wp_ret (then_ret ?_)
          refine H.ret0 (fn := Tryd.f17) Tryd.results17  ?_
          have HP : Hp w w_8 [bx b 64 [(.slice R rows.length cr), (.string (bstr ([])))] false] [rowF 1 strC R rows] := HP
          have hbx := HP.at_ 0 rfl
          rw [hfd, dec_done3 (bk := bk) (by rw [hnn]; omega) (by rw [hnn]; omega) (by rw [hnn]; exact hbkd) (show_no1 (hw1 (by omega)))]
          exact ⟨rfl, R, cr, rdec_mk hbx (HP.fact 0 rfl) hs2, (HP.agreeF _ fun x hx => by simp only [List.mem_cons, List.not_mem_nil, or_false] at hx; rcases hx with rfl <;> simp [bx, rowsR]), fun k hk => .inl hk⟩
         ·have g103p := eq_of_bne_false g103
          refine H.go HP 3 [(104, (ii sm)), (105, (.string (bstr bk))), (106, (ii ka))] [] fun a H => ?_
          refine H.u 107 (.string (bstr (bk.drop ka))) (ex_ssliceL (k := .i64) (l := bk) (i := (ka : Int)) (a := ka) (by kernel_rfl) (by kernel_rfl) (by kernel_rfl) (by omega) (by (first | omega | (have := (hw0 (by assumption)).2; omega)))) fun a H => ?_
          refine H.call 108 (by kernel_rfl) (Eq.trans (by kernel_rfl : _ = (callFunc 32 #[(.string (bstr (bk.drop ka)))]).run Tryd.prog w_8) (Tryd.call32 _ _)) (rsum_any (bk.drop ka) w_8 (by rw [List.length_drop]; omega)) ?_
          rintro e w_9 ⟨rfl, hbs⟩
          refine ⟨_, rfl, ?_⟩
          intro a H
          have HP := HP.next hbs
          refine H.ge HP [(110, (.bool (sm != ((sumP (bk.drop ka) : Nat) : Int))))] [] fun a H => ?_
          refine then_normal ?_
          refine w_if H rfl (fun g110 => ?_) (fun g110 => ?_)
          ·have g110p := bne_iff_ne.1 g110
           refine wp_ret (then_ret ?_)
           refine H.ret0 (fn := Tryd.f17) Tryd.results17  ?_
           have HP : Hp w w_9 [bx b 64 [(.slice R rows.length cr), (.string (bstr ([])))] false] [rowF 1 strC R rows] := HP
           have hbx := HP.at_ 0 rfl
           rw [hfd, dec_done3 (bk := bk) (by rw [hnn]; omega) (by rw [hnn]; omega) (by rw [hnn]; exact hbkd) (show_no2 (hw0 (by omega)).1 (by omega))]
           exact ⟨rfl, R, cr, rdec_mk hbx (HP.fact 0 rfl) hs2, (HP.agreeF _ fun x hx => by simp only [List.mem_cons, List.not_mem_nil, or_false] at hx; rcases hx with rfl <;> simp [bx, rowsR]), fun k hk => .inl hk⟩
          ·have g110p := eq_of_bne_false g110
           refine wp_skip (then_normal (w_region ?_))
           refine H.go HP 3 [(111, (pt b 0)), (112, (.string (bstr bk))), (113, (ii ka))] [] fun a H => ?_
           refine H.u 114 (.string (bstr (bk.drop ka))) (ex_ssliceL (k := .i64) (l := bk) (i := (ka : Int)) (a := ka) (by kernel_rfl) (by kernel_rfl) (by kernel_rfl) (by omega) (by (first | omega | (have := (hw0 (by assumption)).2; omega)))) fun a H => ?_
           refine H.call 115 (by kernel_rfl) (Eq.trans (by kernel_rfl : _ = (callFunc 37 #[(.string (bstr (bk.drop ka)))]).run Tryd.prog w_9) (Tryd.call37 _ _)) (rlines_any (bk.drop ka) w_9 (by rw [List.length_drop]; omega)) ?_
           rintro e w_10 ⟨R2, cr2, rfl, hbs, hrw⟩
           refine ⟨_, rfl, ?_⟩
           intro a H
           have HP := HP.gain hbs _ hrw (rowsR_ok elOk_flat) (fun k hk => (rows_lt hrw hk).1) (fun k hk => (rows_lt hrw hk).2)
           refine H.go HP 2 [(117, (pt b 0))] [] fun a H => ?_
           refine H.sh HP 1 0 (.slice R2 ((splitG [] (bk.drop ka)).length) cr2) rfl fun w_11 a H HP => ?_
           refine wpList_nil ?_
           refine H.end0 (fn := Tryd.f17) Tryd.results17  ?_
           have HP : Hp w w_11 [(rowsR w_9.heap.size 9 1 strC okT feF (.slice R2 (splitG [] (bk.drop ka)).length cr2) (splitG [] (bk.drop ka))), bx b 64 [(.slice R2 ((splitG [] (bk.drop ka)).length) cr2), (.string (bstr ([])))] false] [rowF 1 strC R rows] := HP
           have hbx := HP.at_ 1 rfl
           rw [hfd, dec_done3 (bk := bk) (by rw [hnn]; omega) (by rw [hnn]; omega) (by rw [hnn]; exact hbkd) (show_yes (hw0 (by omega)).1 (by omega))]
           exact ⟨rfl, R2, cr2, rdec_mk hbx (IsRow.ofRows (HP.held 0 rfl)) (fun h => HP.row_off 0 rfl 1 rfl h), (HP.agreeF _ fun x hx => by simp only [List.mem_cons, List.not_mem_nil, or_false] at hx; rcases hx with rfl | rfl <;> simp [bx, rowsR]), fun k hk => rdec_fpN (fun k h => HP.row_new 0 rfl h) hk⟩
    ·have g36p := ne_of_beq_false g36
     refine wp_skip (then_normal ?_)
     refine w_cut (fun a wv => ∃ (nb : Str), Sl 118 [(0, (pt b 0)), (1, (.string (bstr cd)))] a ∧ Hp w wv [bx b 64 [(.slice R rows.length cr), (.string (bstr nb))] false] [rowF 1 strC R rows] ∧ (FeedN cd l rows nb) ∧ (nb.length ≤ 1000)) ?_ ?_
     ·
      refine wp_seq (w_region ?_)
      refine H.go HP 1 [(42, (.string (bstr cd)))] [] fun a H => ?_
      refine H.u 43 (.int .u8 (((cd.getD 0 0).toNat : Nat) : Int)) (ex_sindex (k := .i64) (l := cd) (i := 0) (m := 0) (by kernel_rfl) (by kernel_rfl) (by kernel_rfl) (by omega) (by (first | omega | (have := (hw0 (by assumption)).2; omega)))) fun a H => ?_
      refine H.go HP 2 [(45, (.bool (decide ((((cd.getD 0 0).toNat : Nat) : Int) > 192))))] [] fun a H => ?_
      refine H.split 45 rfl (fun g45 H => ?_) (fun g45 H => ?_)
      ·have g45p := of_decide_eq_true g45
       refine H.go HP 3 [(47, (ii l.length)), (48, (.string (bstr cd)))] [] fun a H => ?_
       refine H.u 49 (.int .u8 (((cd.getD 0 0).toNat : Nat) : Int)) (ex_sindex (k := .i64) (l := cd) (i := 0) (m := 0) (by kernel_rfl) (by kernel_rfl) (by kernel_rfl) (by omega) (by (first | omega | (have := (hw0 (by assumption)).2; omega)))) fun a H => ?_
       refine H.valE 50 (.int .u8 (IntKind.u8.wrap ((((cd.getD 0 0).toNat : Nat) : Int) - 192))) (.int .u8 (((cd.getD 0 0).toNat - 192 : Nat) : Int)) (by kernel_rfl) (by kernel_rfl) ((by rw [wrap_inu8 _ (by omega)]; exact congrArg (Value.int .u8) (by omega))) fun a H => ?_
       refine H.valE 51 (ii (IntKind.i64.wrap (((cd.getD 0 0).toNat - 192 : Nat) : Int))) (ii (((cd.getD 0 0).toNat - 192 : Nat) : Int)) (by kernel_rfl) (by kernel_rfl) ((by rw [wrap_ini64 _ (by omega)])) fun a H => ?_
       refine H.valE 52 (ii (IntKind.i64.wrap (2 * (((cd.getD 0 0).toNat - 192 : Nat) : Int)))) (ii ((2 * ((cd.getD 0 0).toNat - 192) : Nat) : Int)) (by kernel_rfl) (by kernel_rfl) ((by rw [wrap_ini64 _ (by omega)]; exact congrArg (Value.int .i64) (by omega))) fun a H => ?_
       refine H.ge HP [(54, (.bool ((l.length : Int) == ((2 * ((cd.getD 0 0).toNat - 192) : Nat) : Int))))] [] fun a H => ?_
       refine then_normal ?_
       refine w_if H rfl (fun g54 => ?_) (fun g54 => ?_)
       ·have g54p := eq_of_beq g54
        refine w_region ?_
        refine H.go HP 3 [(55, (pt b 0)), (56, (.string (bstr l))), (57, (.string (bstr cd)))] [] fun a H => ?_
        refine H.u 58 (.string (bstr (cd.drop 1))) (ex_ssliceL (k := .i64) (l := cd) (i := 1) (a := 1) (by kernel_rfl) (by kernel_rfl) (by kernel_rfl) (by omega) (by (first | omega | (have := (hw0 (by assumption)).2; omega)))) fun a H => ?_
        refine H.u 59 (.string (bstr (l ++ (cd.drop 1)))) (ex_sadd (by kernel_rfl) (by kernel_rfl) (by (simp only [List.length_append, List.length_drop]; omega))) fun a H => ?_
        refine H.go HP 2 [(61, (pt b 1))] [] fun a H => ?_
        refine H.sh HP 0 1 (.string (bstr (l ++ (cd.drop 1)))) rfl fun w_12 a H HP => ?_
        refine wpList_nil (then_normal ?_)
        exact ⟨l ++ (cd.drop 1), H.keep (by kernel_rfl), HP, (feedN_cont (by omega) (by omega) (by omega)), (by simp only [List.length_append, List.length_drop]; omega)⟩
       ·have g54p := ne_of_beq_false g54
        refine wp_skip (then_normal ?_)
        exact ⟨[], H.keep (by kernel_rfl), HP, (feedN_no (by omega) (by omega) (by omega) (by omega)), (by simp)⟩
      ·have g45p := of_decide_eq_false g45
       refine H.ge HP [(54, (.bool false))] [] fun a H => ?_
       refine then_normal ?_
       refine w_iff H rfl ?_
       refine wp_skip (then_normal ?_)
       exact ⟨[], H.keep (by kernel_rfl), HP, (feedN_no (by omega) (by omega) (by omega) (by omega)), (by simp)⟩
     ·
      rintro a w_13 ⟨nb, H, HP, hnb, hnl⟩
      refine wp_seq (wp_seq (w_region ?_))
      refine H.go HP 4 [(65, (.string (bstr nb)))] [0] fun a H => ?_
      refine H.valE 66 (.bool ((bstr nb).toList == (bstr ([])).toList)) (.bool (nb == ([]))) (by kernel_rfl) (by kernel_rfl) ((congrArg Value.bool (bstr_eq _ _))) fun a H => ?_
      refine wpList_nil (then_normal ?_)
      refine w_if H rfl (fun g66 => ?_) (fun g66 => ?_)
      ·have g66p := eq_of_beq g66
       refine wp_ret (then_ret ?_)
       refine H.ret0 (fn := Tryd.f17) Tryd.results17  ?_
       have HP : Hp w w_13 [bx b 64 [(.slice R rows.length cr), (.string (bstr nb))] false] [rowF 1 strC R rows] := HP
       have hbx := HP.at_ 0 rfl
       have hn0 : nb = [] := by simpa using g66p
       rw [hn0] at hbx
       rw [hnb.no hn0]
       exact ⟨rfl, R, cr, rdec_mk hbx (HP.fact 0 rfl) hs2, (HP.agreeF _ fun x hx => by simp only [List.mem_cons, List.not_mem_nil, or_false] at hx; rcases hx with rfl <;> simp [bx, rowsR]), fun k hk => .inl hk⟩
      ·have g66p := ne_of_beq_false g66
       refine wp_skip (then_normal (wp_seq ?_))
       have hn0 : nb ≠ [] := by simpa using g66p
       have hnp := List.length_pos_iff.2 hn0
       have hfd := hnb.yes hn0
       obtain ⟨nn, hnn⟩ : ∃ n, (nb.getD 0 0).toNat = n := ⟨_, rfl⟩
       have hnn2 : nn < 256 := by rw [← hnn]; exact (nb.getD 0 0).toNat_lt
       refine w_region ?_
       refine H.go HP 4 [(70, (.string (bstr nb)))] [0] fun a H => ?_
       refine H.u 71 (.int .u8 (((nb.getD 0 0).toNat : Nat) : Int)) (ex_sindex (k := .i64) (l := nb) (i := 0) (m := 0) (by kernel_rfl) (by kernel_rfl) (by kernel_rfl) (by omega) (by (first | omega | (have := (hw0 (by assumption)).2; omega)))) fun a H => ?_
       refine H.valE 72 (ii (IntKind.i64.wrap (((nb.getD 0 0).toNat : Nat) : Int))) (ii nn) (by kernel_rfl) (by kernel_rfl) ((by rw [wrap_ini64 _ (by omega), hnn])) fun a H => ?_
       refine H.ge HP [(5, (ii nn))] [] fun a H => ?_
       refine then_normal (wp_seq (wp_seq (w_region ?_)))
       refine H.ge HP [(74, (.bool (decide ((nn : Int) > 95))))] [] fun a H => ?_
       refine then_normal ?_
       refine w_if H rfl (fun g74 => ?_) (fun g74 => ?_)
       ·have g74p := of_decide_eq_true g74
        refine wp_seq (w_region ?_)
        refine H.go HP 3 [(77, (pt b 1))] [] fun a H => ?_
        refine H.sh HP 0 1 (.string (bstr ([]))) rfl fun w_14 a H HP => ?_
        refine wpList_nil (then_normal (wp_ret (then_ret ?_)))
        refine H.ret0 (fn := Tryd.f17) Tryd.results17  ?_
        have HP : Hp w w_14 [bx b 64 [(.slice R rows.length cr), (.string (bstr ([])))] false] [rowF 1 strC R rows] := HP
        have hbx := HP.at_ 0 rfl
        rw [hfd, dec_done1 (by rw [hnn]; omega)]
        exact ⟨rfl, R, cr, rdec_mk hbx (HP.fact 0 rfl) hs2, (HP.agreeF _ fun x hx => by simp only [List.mem_cons, List.not_mem_nil, or_false] at hx; rcases hx with rfl <;> simp [bx, rowsR]), fun k hk => .inl hk⟩
       ·have g74p := of_decide_eq_false g74
        refine wp_skip (then_normal (wp_seq (wp_seq (w_region ?_))))
        refine H.ge HP [(84, (.bool (decide ((nb.length : Int) ≤ (nn : Int)))))] [0] fun a H => ?_
        refine then_normal ?_
        refine w_if H rfl (fun g84 => ?_) (fun g84 => ?_)
        ·have g84p := of_decide_eq_true g84
         refine wp_ret (then_ret ?_)
         refine H.ret0 (fn := Tryd.f17) Tryd.results17  ?_
         have HP : Hp w w_13 [bx b 64 [(.slice R rows.length cr), (.string (bstr nb))] false] [rowF 1 strC R rows] := HP
         have hbx := HP.at_ 0 rfl
         rw [hfd, dec_done2 (by rw [hnn]; omega) (by rw [hnn]; omega)]
         exact ⟨rfl, R, cr, rdec_mk hbx (HP.fact 0 rfl) hs2, (HP.agreeF _ fun x hx => by simp only [List.mem_cons, List.not_mem_nil, or_false] at hx; rcases hx with rfl <;> simp [bx, rowsR]), fun k hk => .inl hk⟩
        ·have g84p := of_decide_eq_false g84
         refine wp_skip (then_normal (wp_seq (w_region ?_)))
         refine H.go HP 5 [(88, (.string (bstr nb))), (89, (ii nn))] [0] fun a H => ?_
         refine H.valE 90 (ii (IntKind.i64.wrap (1 + (nn : Int)))) (ii ((nn + 1 : Nat) : Int)) (by kernel_rfl) (by kernel_rfl) ((by rw [wrap_ini64 _ (by omega)]; exact congrArg (Value.int .i64) (by omega))) fun a H => ?_
         refine H.u 91 (.string (bstr ((nb.drop 1).take ((nn + 1) - 1)))) (ex_sslice (k := .i64) (kk := .i64) (l := nb) (i := 1) (j := ((nn + 1 : Nat) : Int)) (a := 1) (b := (nn + 1)) (by kernel_rfl) (by kernel_rfl) (by kernel_rfl) (by kernel_rfl) (by omega) (by omega) (by (first | omega | (have := (hw0 (by assumption)).2; omega))) (by (first | omega | (have := (hw0 (by assumption)).2; omega)))) fun a H => ?_
         refine H.ge HP [(6, (.string (bstr ((nb.drop 1).take ((nn + 1) - 1)))))] [] fun a H => ?_
         refine then_normal (wp_seq (w_region ?_))
         refine H.go HP 3 [(94, (pt b 1))] [] fun a H => ?_
         refine H.sh HP 0 1 (.string (bstr ([]))) rfl fun w_15 a H HP => ?_
         refine wpList_nil (then_normal (wp_seq ?_))
         obtain ⟨bk, hbkd⟩ : ∃ x, (nb.drop 1).take (nn + 1 - 1) = x := ⟨_, rfl⟩
         have hbk : bk.length = nn := by rw [← hbkd, List.length_take, List.length_drop]; omega
         have H := H.as 6 (.string (bstr bk)) rfl (congrArg (fun x => Value.string (bstr x)) hbkd)
         refine w_region ?_
         refine H.go HP 1 [(96, (.string (bstr bk)))] [] fun a H => ?_
         refine H.call 97 (by kernel_rfl) (Eq.trans (by kernel_rfl : _ = (callFunc 36 #[(.string (bstr bk)), (ii 0)]).run Tryd.prog w_15) (Tryd.call36 _ _)) (rintU_any bk w_15 (by omega)) ?_
         rintro e w_16 ⟨sm, ka, er, rfl, hbw, hw0, hw1⟩
         refine ⟨_, rfl, ?_⟩
         intro a H
         have HP := HP.next hbw
         refine H.ge HP [(7, (ii sm)), (8, (ii ka)), (9, (ii er))] [] fun a H => ?_
         refine then_normal (wp_seq (wp_seq (w_region ?_)))
         refine H.go HP 3 [(103, (.bool (er != 0)))] [] fun a H => ?_
         refine H.split 103 rfl (fun g103 H => ?_) (fun g103 H => ?_)
         ·have g103p := bne_iff_ne.1 g103
          refine H.ge HP [(110, (.bool true))] [] fun a H => ?_
          refine then_normal ?_
          refine w_ift H rfl ?_
          refine wp_ret (then_ret ?_)
          refine H.ret0 (fn := Tryd.f17) Tryd.results17  ?_
          have HP : Hp w w_16 [bx b 64 [(.slice R rows.length cr), (.string (bstr ([])))] false] [rowF 1 strC R rows] := HP
          have hbx := HP.at_ 0 rfl
          rw [hfd, dec_done3 (bk := bk) (by rw [hnn]; omega) (by rw [hnn]; omega) (by rw [hnn]; exact hbkd) (show_no1 (hw1 (by omega)))]
          exact ⟨rfl, R, cr, rdec_mk hbx (HP.fact 0 rfl) hs2, (HP.agreeF _ fun x hx => by simp only [List.mem_cons, List.not_mem_nil, or_false] at hx; rcases hx with rfl <;> simp [bx, rowsR]), fun k hk => .inl hk⟩
         ·have g103p := eq_of_bne_false g103
          refine H.go HP 3 [(104, (ii sm)), (105, (.string (bstr bk))), (106, (ii ka))] [] fun a H => ?_
          refine H.u 107 (.string (bstr (bk.drop ka))) (ex_ssliceL (k := .i64) (l := bk) (i := (ka : Int)) (a := ka) (by kernel_rfl) (by kernel_rfl) (by kernel_rfl) (by omega) (by (first | omega | (have := (hw0 (by assumption)).2; omega)))) fun a H => ?_
          refine H.call 108 (by kernel_rfl) (Eq.trans (by kernel_rfl : _ = (callFunc 32 #[(.string (bstr (bk.drop ka)))]).run Tryd.prog w_16) (Tryd.call32 _ _)) (rsum_any (bk.drop ka) w_16 (by rw [List.length_drop]; omega)) ?_
          rintro e w_17 ⟨rfl, hbs⟩
          refine ⟨_, rfl, ?_⟩
          intro a H
          have HP := HP.next hbs
          refine H.ge HP [(110, (.bool (sm != ((sumP (bk.drop ka) : Nat) : Int))))] [] fun a H => ?_
          refine then_normal ?_
          refine w_if H rfl (fun g110 => ?_) (fun g110 => ?_)
          ·have g110p := bne_iff_ne.1 g110
           refine wp_ret (then_ret ?_)
           refine H.ret0 (fn := Tryd.f17) Tryd.results17  ?_
           have HP : Hp w w_17 [bx b 64 [(.slice R rows.length cr), (.string (bstr ([])))] false] [rowF 1 strC R rows] := HP
           have hbx := HP.at_ 0 rfl
           rw [hfd, dec_done3 (bk := bk) (by rw [hnn]; omega) (by rw [hnn]; omega) (by rw [hnn]; exact hbkd) (show_no2 (hw0 (by omega)).1 (by omega))]
           exact ⟨rfl, R, cr, rdec_mk hbx (HP.fact 0 rfl) hs2, (HP.agreeF _ fun x hx => by simp only [List.mem_cons, List.not_mem_nil, or_false] at hx; rcases hx with rfl <;> simp [bx, rowsR]), fun k hk => .inl hk⟩
          ·have g110p := eq_of_bne_false g110
           refine wp_skip (then_normal (w_region ?_))
           refine H.go HP 3 [(111, (pt b 0)), (112, (.string (bstr bk))), (113, (ii ka))] [] fun a H => ?_
           refine H.u 114 (.string (bstr (bk.drop ka))) (ex_ssliceL (k := .i64) (l := bk) (i := (ka : Int)) (a := ka) (by kernel_rfl) (by kernel_rfl) (by kernel_rfl) (by omega) (by (first | omega | (have := (hw0 (by assumption)).2; omega)))) fun a H => ?_
           refine H.call 115 (by kernel_rfl) (Eq.trans (by kernel_rfl : _ = (callFunc 37 #[(.string (bstr (bk.drop ka)))]).run Tryd.prog w_17) (Tryd.call37 _ _)) (rlines_any (bk.drop ka) w_17 (by rw [List.length_drop]; omega)) ?_
           rintro e w_18 ⟨R2, cr2, rfl, hbs, hrw⟩
           refine ⟨_, rfl, ?_⟩
           intro a H
           have HP := HP.gain hbs _ hrw (rowsR_ok elOk_flat) (fun k hk => (rows_lt hrw hk).1) (fun k hk => (rows_lt hrw hk).2)
           refine H.go HP 2 [(117, (pt b 0))] [] fun a H => ?_
           refine H.sh HP 1 0 (.slice R2 ((splitG [] (bk.drop ka)).length) cr2) rfl fun w_19 a H HP => ?_
           refine wpList_nil ?_
           refine H.end0 (fn := Tryd.f17) Tryd.results17  ?_
           have HP : Hp w w_19 [(rowsR w_17.heap.size 9 1 strC okT feF (.slice R2 (splitG [] (bk.drop ka)).length cr2) (splitG [] (bk.drop ka))), bx b 64 [(.slice R2 ((splitG [] (bk.drop ka)).length) cr2), (.string (bstr ([])))] false] [rowF 1 strC R rows] := HP
           have hbx := HP.at_ 1 rfl
           rw [hfd, dec_done3 (bk := bk) (by rw [hnn]; omega) (by rw [hnn]; omega) (by rw [hnn]; exact hbkd) (show_yes (hw0 (by omega)).1 (by omega))]
           exact ⟨rfl, R2, cr2, rdec_mk hbx (IsRow.ofRows (HP.held 0 rfl)) (fun h => HP.row_off 0 rfl 1 rfl h), (HP.agreeF _ fun x hx => by simp only [List.mem_cons, List.not_mem_nil, or_false] at hx; rcases hx with rfl | rfl <;> simp [bx, rowsR]), fun k hk => rdec_fpN (fun k h => HP.row_new 0 rfl h) hk⟩
def pickP (c n : Int) : Int := (if c < 0 then -(c + 1) else c) % n
theorem pickP_in {c n : Int} (h : 0 < n) : 0 ≤ pickP c n ∧ pickP c n < n := ⟨Int.emod_nonneg _ (by omega), Int.emod_lt_of_pos _ h⟩
abbrev Quad := Int × Int × Int × Int
def texts6 : List Str := [[72, 105],
  [82, 97, 105, 110, 32, 101, 120, 112, 101, 99, 116, 101, 100, 32, 105, 110, 32, 116, 104, 101, 32, 110, 111, 114, 116, 104],
  [71, 111, 111, 100, 32, 101, 118, 101, 110, 105, 110, 103, 44, 32, 97, 110, 100, 32, 119, 101, 108, 99, 111, 109, 101, 32, 116, 111, 32, 116, 104, 101, 32, 112, 114, 111, 103, 114, 97, 109, 109, 101],
  [71, 111, 97, 108, 33],
  [73, 116, 32, 105, 115, 32, 110, 111, 119, 32, 110, 105, 110, 101, 32, 111, 39, 99, 108, 111, 99, 107, 44, 32, 97, 110, 100, 32, 104, 101, 114, 101, 32, 97, 114, 101, 32, 116, 104, 101, 32, 104, 101, 97, 100, 108, 105, 110, 101, 115, 32, 111, 102, 32, 116, 104, 105, 115, 32, 100, 97, 121, 32, 105, 110, 32, 116, 104, 101, 32, 99, 105, 116, 121],
  [78, 111, 46]]
def cueP (i : Nat) (q : Quad) : Cue := ⟨((i : Nat) : Int) + 1, pickP q.1 400, pickP q.1 400 + 1 + pickP q.2.1 150, pickP q.2.2.1 3, texts6.getD (pickP q.2.2.2 6).toNat []⟩
def makeG : Nat → List Quad → List Cue
  | _, [] => []
  | i, q :: l => cueP i q :: makeG (i + 1) l
def makeP (x : List Quad) : List Cue := makeG 0 (x.take 8)
theorem makeG_snoc : ∀ (l : List Quad) (i : Nat) (q : Quad), makeG i (l ++ [q]) = makeG i l ++ [cueP (i + l.length) q]
  | [], i, q => by simp [makeG]
  | p :: l, i, q => by
    simp only [List.cons_append, makeG, List.length_cons]
    rw [makeG_snoc l (i + 1) q, show i + 1 + l.length = i + (l.length + 1) by omega]
theorem makeG_len : ∀ (l : List Quad) (i : Nat), (makeG i l).length = l.length
  | [], _ => rfl
  | _ :: l, i => by simp [makeG, makeG_len l (i + 1)]
theorem makeP_len (x : List Quad) : (makeP x).length = min 8 x.length := by unfold makeP; rw [makeG_len, List.length_take]
theorem makeG_in : ∀ (l : List Quad) (i : Nat), ∀ c ∈ makeG i l, ∃ j q, c = cueP j q
  | [], _, c, h => by cases h
  | q :: l, i, c, h => by
    rcases List.mem_cons.1 h with rfl | h
    · exact ⟨i, q, rfl⟩
    · exact makeG_in l (i + 1) c h
def in64 (n : Int) : Prop := -9223372036854775808 ≤ n ∧ n ≤ 9223372036854775807
theorem ex_rem {P : Program} {ρ : Operand → Value} {w : World} {t t' : TypeId} {x y : Operand} {dst : Option Tmp} {ty : TypeId} {pos : String} {af : Array Edge} {g : Option (Nat × Bool)} {a b : Int} {k : IntKind}
  (hx : ρ x = .int k a) (hy : ρ y = .int k b) (hb : b ≠ 0) : (execOp ρ ⟨dst, .binOp .rem t x y t', ty, pos, af, g⟩).run P w = .ok (.value (.int k (a.tmod b))) w := by
 simp [execOp, hx, hy, go_sem, hb]
theorem take_snoc {α : Type} {l : List α} {i : Nat} {x : α} (hx : l[i]? = some x) : l.take (i + 1) = l.take i ++ [x] := by
 rw [List.take_add_one, hx]; rfl
theorem take_eq_snoc {α : Type} {l m : List α} {i : Nat} {x y : α} (h : l.take i = m.take i) (hx : l[i]? = some x) (hy : m[i]? = some y) (e : x = y) : l.take (i + 1) = m.take (i + 1) := by
 rw [take_snoc hx, take_snoc hy, h, e]
set_option maxRecDepth 100000 in
set_option maxHeartbeats 4000000 in
theorem pick_any (c n : Int) (w : World) (hc : in64 c) (hn : 0 < n) : Calls Tryd.prog 14 #[.int .i64 c, .int .i64 n] w fun e w' => e = .returned (ii (pickP c n)) ∧ Below w.heap.size w w' := by
 have HP := Hp.start w
 obtain ⟨hc1, hc2⟩ := hc
 refine w_enter 13 [(0, (ii c)), (1, (ii n))] Tryd.func14 rfl Tryd.ntmps14 (by kernel_rfl) (by kernel_rfl) fun a H => ?_
 refine wp_seq (w_region ?_)
 refine H.ge HP [(4, (ii 0))] [] fun a H => ?_
 refine then_normal (wp_seq (wp_seq (w_region ?_)))
 refine H.ge HP [(5, (ii c)), (6, (.bool (decide (c < 0))))] [] fun a H => ?_
 refine then_normal ?_
 refine w_if H rfl (fun g6 => ?_) (fun g6 => ?_)
 ·have g6p := of_decide_eq_true g6
  refine w_region ?_
  refine H.go HP 1 [(7, (ii c))] [] fun a H => ?_
  refine H.wi 8 (c + 1) fun a H => ?_
  refine H.wi 9 (0 - (c + 1)) fun a H => ?_
  refine H.ge HP [(0, (ii (0 - (c + 1))))] [] fun a H => ?_
  refine then_normal (wp_seq (w_region ?_))
  refine H.go HP 2 [(10, (ii (0 - (c + 1)))), (11, (ii n))] [] fun a H => ?_
  refine H.valE 12 (ii ((0 - (c + 1)).tmod n)) (ii ((0 - (c + 1)) % n)) (by kernel_rfl) (ex_rem (k := .i64) (by kernel_rfl) (by kernel_rfl) (by omega)) ((by rw [tmod_nn _ _ (by omega)])) fun a H => ?_
  refine H.ge HP [(4, (ii ((0 - (c + 1)) % n)))] [] fun a H => ?_
  refine then_normal (wp_ret ?_)
  refine H.ret1 (fn := Tryd.f14) Tryd.results14 (RV.tmp_ (v := (ii ((0 - (c + 1)) % n))) (by kernel_rfl)) ?_
  exact ⟨by unfold pickP; rw [if_pos (by omega), Int.zero_sub], HP.bl⟩
 ·have g6p := of_decide_eq_false g6
  refine wp_skip (then_normal (wp_seq (w_region ?_)))
  refine H.go HP 2 [(10, (ii c)), (11, (ii n))] [] fun a H => ?_
  refine H.valE 12 (ii (c.tmod n)) (ii (c % n)) (by kernel_rfl) (ex_rem (k := .i64) (by kernel_rfl) (by kernel_rfl) (by omega)) ((by rw [tmod_nn _ _ (by omega)])) fun a H => ?_
  refine H.ge HP [(4, (ii (c % n)))] [] fun a H => ?_
  refine then_normal (wp_ret ?_)
  refine H.ret1 (fn := Tryd.f14) Tryd.results14 (RV.tmp_ (v := (ii (c % n))) (by kernel_rfl)) ?_
  exact ⟨by unfold pickP; rw [if_neg (by omega)], HP.bl⟩
set_option maxRecDepth 100000 in
set_option maxHeartbeats 4000000 in
theorem same_any (A1 A2 : Option Addr) (c1 c2 : Nat) (l1 l2 : List Str) (w : World) (hr1 : IsRow 1 strC w A1 l1) (hr2 : IsRow 1 strC w A2 l2) (hl1 : l1.length ≤ 1000000) (hl2 : l2.length ≤ 1000000) : Calls Tryd.prog 18 #[.slice A1 l1.length c1, .slice A2 l2.length c2] w fun e w' => e = .returned (.bool (decide (l1 = l2))) ∧ Below w.heap.size w w' := by
 have HP := ((Hp.start w).keepF (rowF 1 strC A2 l2) hr2 (rowF_ok _ _ _ _) fun k hk => ⟨hr2.lt k hk, fun x hx => by cases hx⟩).keepF (rowF 1 strC A1 l1) hr1 (rowF_ok _ _ _ _) fun k hk => ⟨hr1.lt k hk, fun x hx => by cases hx⟩
 refine w_enter 26 [(0, (.slice A1 l1.length c1)), (1, (.slice A2 l2.length c2))] Tryd.func18 rfl Tryd.ntmps18 (by kernel_rfl) (by kernel_rfl) fun a H => ?_
 refine wp_seq (w_region ?_)
 refine H.ge HP [(4, (.bool false))] [] fun a H => ?_
 refine then_normal (wp_seq (wp_seq (w_region ?_)))
 refine H.ge HP [(6, (.slice A1 l1.length c1)), (10, (.bool ((l1.length : Int) != (l2.length : Int))))] [] fun a H => ?_
 refine then_normal ?_
 refine w_if H rfl (fun g10 => ?_) (fun g10 => ?_)
 ·have g10p := bne_iff_ne.1 g10
  refine wp_seq (w_region ?_)
  refine H.ge HP [(4, (.bool false))] [] fun a H => ?_
  refine then_normal (wp_ret (then_ret ?_))
  refine H.ret1 (fn := Tryd.f18) Tryd.results18 (RV.tmp_ (v := (.bool false)) (by kernel_rfl)) ?_
  exact ⟨by rw [decide_eq_false (fun h => by subst h; omega)], HP.bl⟩
 ·have g10p := eq_of_bne_false g10
  refine wp_skip (then_normal (wp_seq (wp_seq (w_region ?_))))
  refine H.ge HP [(5, (ii 0))] [] fun a H => ?_
  refine then_normal (wp_block ?_)
  refine w_loop (fun mm a wv => ∃ (i : Nat), l1.length - i = mm ∧ Sl 26 [(5, (ii i)), (6, (.slice A1 l1.length c1)), (10, (.bool ((l1.length : Int) != (l2.length : Int)))), (0, (.slice A1 l1.length c1)), (1, (.slice A2 l2.length c2))] a ∧ Hp w wv [] [rowF 1 strC A1 l1, rowF 1 strC A2 l2] ∧ (i ≤ l1.length) ∧ (l1.take i = l2.take i)) (l1.length - 0) ?_ ?_
  ·exact ⟨0, (by omega), H.keep (by kernel_rfl), HP, (Nat.zero_le _), rfl⟩
  rintro mm a w_1 ⟨i, hmeas, H, HP, hib, hrel⟩
  refine wp_seq (wp_seq (w_region ?_))
  refine H.ge HP [(14, (.bool (decide ((i : Int) < (l1.length : Int)))))] [] fun a H => ?_
  refine then_normal ?_
  refine w_if H rfl (fun g14 => ?_) (fun g14 => ?_)
  ·have g14p := of_decide_eq_true g14
   refine wp_skip (then_normal (wp_seq (wp_block (wp_seq ?_))))
   refine An.start (fun v => Hp w v [] [rowF 1 strC A1 l1, rowF 1 strC A2 l2]) 9 9 HP wide_follows rfl fun w_2 HP => ?_
   refine An.go H (.inr (HP)) 7 [0, 1] [(17, (.slice A1 l1.length c1)), (18, (ii i))] [] fun a H => ?_
   obtain ⟨bu_3, ou_4, x_5, hA_6, _, hd_8, hx_7, hm_9, _⟩ := IsRow.get strC_size (HP.fact 0 rfl : IsRow 1 strC _ A1 l1) (i := i) (by omega)
   refine An.pure H (.inr (HP)) 2 19 (.pointer (some ⟨bu_3, ou_4 + i * 1, none⟩)) rfl (by kernel_rfl) (by kernel_rfl) (fun _ _ _ h => h) (fun _ => ex_indexA (b := bu_3) (off := ou_4) (len := l1.length) (cap := c1) (e := 9) (k := 1) (ik := .i64) (i := (i : Int)) (m := i) hA_6 (by kernel_rfl) (by kernel_rfl) rfl (by omega) (by kernel_rfl) (by kernel_rfl)) fun a H => ?_
   refine An.val H (HP) 3 20 (.string (bstr x_5)) rfl (by kernel_rfl) (by kernel_rfl) (fun _ _ _ h => h) (fun _ hS => ex_l1 (by have hh := IsRow.cells strC_size (hS.fact 0 rfl : IsRow 1 strC _ A1 l1) hA_6 hx_7 0 _ rfl; rwa [Nat.add_zero] at hh)) fun a H => ?_
   refine An.go H (.inr (HP)) 3 [4, 5] [(21, (.slice A2 l2.length c2)), (22, (ii i))] [] fun a H => ?_
   obtain ⟨bu_10, ou_11, x_12, hA_13, _, hd_15, hx_14, hm_16, _⟩ := IsRow.get strC_size (HP.fact 1 rfl : IsRow 1 strC _ A2 l2) (i := i) (by omega)
   refine An.pure H (.inr (HP)) 6 23 (.pointer (some ⟨bu_10, ou_11 + i * 1, none⟩)) rfl (by kernel_rfl) (by kernel_rfl) (fun _ _ _ h => h) (fun _ => ex_indexA (b := bu_10) (off := ou_11) (len := l2.length) (cap := c2) (e := 9) (k := 1) (ik := .i64) (i := (i : Int)) (m := i) hA_13 (by kernel_rfl) (by kernel_rfl) rfl (by omega) (by kernel_rfl) (by kernel_rfl)) fun a H => ?_
   refine An.val H (HP) 7 24 (.string (bstr x_12)) rfl (by kernel_rfl) (by kernel_rfl) (fun _ _ _ h => h) (fun _ hS => ex_l1 (by have hh := IsRow.cells strC_size (hS.fact 1 rfl : IsRow 1 strC _ A2 l2) hA_13 hx_14 0 _ rfl; rwa [Nat.add_zero] at hh)) fun a H => ?_
   refine An.pureE H (.inr (HP)) 8 25 (.bool (!((bstr x_5).toList == (bstr x_12).toList))) (.bool (!(x_5 == x_12))) rfl (by kernel_rfl) (by kernel_rfl) (fun _ _ _ h => h) (fun _ => by kernel_rfl) ((congrArg (fun b => Value.bool (!b)) (bstr_eq _ _))) fun a H => ?_
   refine An.done (by kernel_rfl) ?_
   refine then_normal ?_
   refine w_if H rfl (fun g25 => ?_) (fun g25 => ?_)
   ·have g25p := not_is_true g25
    refine wp_seq (w_region ?_)
    refine H.ge HP [(4, (.bool false))] [] fun a H => ?_
    refine then_normal (wp_ret (inb_ret (then_ret (then_ret (inb_ret (then_ret ?_))))))
    refine H.ret1 (fn := Tryd.f18) Tryd.results18 (RV.tmp_ (v := (.bool false)) (by kernel_rfl)) ?_
    exact ⟨by rw [decide_eq_false (fun h => by subst h; rw [hx_7] at hx_14; cases hx_14; simp at g25p)], HP.bl⟩
   ·have g25p := not_is_false g25
    refine wp_skip (inb_normal (then_normal (w_region ?_)))
    refine H.go HP 1 [(15, (ii i))] [] fun a H => ?_
    refine H.wi 16 ((i : Int) + 1) fun a H => ?_
    refine H.ge HP [(5, (ii ((i : Int) + 1)))] [] fun a H => ?_
    refine then_normal ?_
    have H := H.as 5 (ii ((i + 1 : Nat) : Int)) rfl rfl
    refine ⟨_, ?_, i + 1, rfl, H.keep (by kernel_rfl), HP, (by omega), (take_eq_snoc hrel hx_7 hx_14 (eq_of_beq g25p))⟩
    omega
  ·have g14p := of_decide_eq_false g14
   refine wp_exit (then_exit (then_exit ?_))
   refine w_exit_here ?_
   refine then_normal (wp_seq (w_region ?_))
   refine H.ge HP [(4, (.bool true))] [] fun a H => ?_
   refine then_normal (wp_ret ?_)
   refine H.ret1 (fn := Tryd.f18) Tryd.results18 (RV.tmp_ (v := (.bool true)) (by kernel_rfl)) ?_
   exact ⟨by rw [decide_eq_true (show l1 = l2 from by rw [show i = l1.length by omega, List.take_length] at hrel; rw [hrel, List.take_of_length_le (by omega)])], HP.bl⟩
abbrev quC (q : Quad) : Array Value := #[.int .i64 q.1, .int .i64 q.2.1, .int .i64 q.2.2.1, .int .i64 q.2.2.2]
theorem quC_size (q : Quad) : (quC q).size = 4 := rfl
def qIn (q : Quad) : Prop := in64 q.1 ∧ in64 q.2.1 ∧ in64 q.2.2.1 ∧ in64 q.2.2.2
theorem pick_nat6 (c : Int) : ∃ k : Nat, pickP c 6 = ((k : Nat) : Int) ∧ k < 6 := by
 have := pickP_in (c := c) (n := 6) (by omega)
 exact ⟨(pickP c 6).toNat, by omega, by omega⟩
theorem take_end8 {α : Type} {l : List α} {i : Nat} (h : i = 8 ∨ (i = l.length ∧ i ≤ 8)) : l.take i = l.take 8 := by
 rcases h with rfl | ⟨h1, h2⟩
 ·rfl
 ·rw [List.take_of_length_le (by omega), List.take_of_length_le (by omega)]
theorem texts_cell {w : World} {b k : Nat} {p : Int} (h : Box w b 9 #[(.string (bstr ([72, 105]))), (.string (bstr ([82, 97, 105, 110, 32, 101, 120, 112, 101, 99, 116, 101, 100, 32, 105, 110, 32, 116, 104, 101, 32, 110, 111, 114, 116, 104]))), (.string (bstr ([71, 111, 111, 100, 32, 101, 118, 101, 110, 105, 110, 103, 44, 32, 97, 110, 100, 32, 119, 101, 108, 99, 111, 109, 101, 32, 116, 111, 32, 116, 104, 101, 32, 112, 114, 111, 103, 114, 97, 109, 109, 101]))), (.string (bstr ([71, 111, 97, 108, 33]))), (.string (bstr ([73, 116, 32, 105, 115, 32, 110, 111, 119, 32, 110, 105, 110, 101, 32, 111, 39, 99, 108, 111, 99, 107, 44, 32, 97, 110, 100, 32, 104, 101, 114, 101, 32, 97, 114, 101, 32, 116, 104, 101, 32, 104, 101, 97, 100, 108, 105, 110, 101, 115, 32, 111, 102, 32, 116, 104, 105, 115, 32, 100, 97, 121, 32, 105, 110, 32, 116, 104, 101, 32, 99, 105, 116, 121]))), (.string (bstr ([78, 111, 46])))]) (hp : p = ((k : Nat) : Int)) (hk : k < 6) : w.cell? ⟨b, 0 + k * 1, none⟩ = some (.string (bstr (texts6.getD p.toNat []))) := by
 subst hp
 match k, hk with
 | 0, _ => exact h.cell rfl
 | 1, _ => exact h.cell rfl
 | 2, _ => exact h.cell rfl
 | 3, _ => exact h.cell rfl
 | 4, _ => exact h.cell rfl
 | 5, _ => exact h.cell rfl
set_option maxRecDepth 100000 in
set_option maxHeartbeats 4000000 in
theorem make_any (A : Option Addr) (c : Nat) (x : List Quad) (w : World) (hr : IsRow 4 quC w A x) (hin : ∀ q ∈ x, qIn q) : Calls Tryd.prog 13 #[.slice A x.length c] w fun e w' => ∃ B c', e = .returned (.slice B (makeP x).length c') ∧ Below w.heap.size w w' ∧ (rowsR w.heap.size 23 5 cuC okT feF (.slice B (makeP x).length c') (makeP x)).F w' := by
 have HP := (Hp.start w).keepF (rowF 4 quC A x) hr (rowF_ok _ _ _ _) fun k hk => ⟨hr.lt k hk, fun x hx => by cases hx⟩
 refine w_enter 60 [(0, (.slice A x.length c))] Tryd.func13 rfl Tryd.ntmps13 (by kernel_rfl) (by kernel_rfl) fun a H => ?_
 refine wp_seq (w_region ?_)
 refine H.ge HP [(2, (.slice none 0 0))] [] fun a H => ?_
 refine then_normal (wp_seq (w_region ?_))
 refine H.alloc HP 7 (fun b => (.slice (some ⟨b, 0, none⟩) 6 6)) 9 [(.string (bstr ([72, 105]))), (.string (bstr ([82, 97, 105, 110, 32, 101, 120, 112, 101, 99, 116, 101, 100, 32, 105, 110, 32, 116, 104, 101, 32, 110, 111, 114, 116, 104]))), (.string (bstr ([71, 111, 111, 100, 32, 101, 118, 101, 110, 105, 110, 103, 44, 32, 97, 110, 100, 32, 119, 101, 108, 99, 111, 109, 101, 32, 116, 111, 32, 116, 104, 101, 32, 112, 114, 111, 103, 114, 97, 109, 109, 101]))), (.string (bstr ([71, 111, 97, 108, 33]))), (.string (bstr ([73, 116, 32, 105, 115, 32, 110, 111, 119, 32, 110, 105, 110, 101, 32, 111, 39, 99, 108, 111, 99, 107, 44, 32, 97, 110, 100, 32, 104, 101, 114, 101, 32, 97, 114, 101, 32, 116, 104, 101, 32, 104, 101, 97, 100, 108, 105, 110, 101, 115, 32, 111, 102, 32, 116, 104, 105, 115, 32, 100, 97, 121, 32, 105, 110, 32, 116, 104, 101, 32, 99, 105, 116, 121]))), (.string (bstr ([78, 111, 46])))] (by kernel_rfl) (fun w => by kernel_rfl) fun b_1 w_2 a H HP => ?_
 refine H.ge HP [(3, (.slice (some ⟨b_1, 0, none⟩) 6 6))] [] fun a H => ?_
 have HP : Hp w w_2 [bx b_1 9 [(.string (bstr ([72, 105]))), (.string (bstr ([82, 97, 105, 110, 32, 101, 120, 112, 101, 99, 116, 101, 100, 32, 105, 110, 32, 116, 104, 101, 32, 110, 111, 114, 116, 104]))), (.string (bstr ([71, 111, 111, 100, 32, 101, 118, 101, 110, 105, 110, 103, 44, 32, 97, 110, 100, 32, 119, 101, 108, 99, 111, 109, 101, 32, 116, 111, 32, 116, 104, 101, 32, 112, 114, 111, 103, 114, 97, 109, 109, 101]))), (.string (bstr ([71, 111, 97, 108, 33]))), (.string (bstr ([73, 116, 32, 105, 115, 32, 110, 111, 119, 32, 110, 105, 110, 101, 32, 111, 39, 99, 108, 111, 99, 107, 44, 32, 97, 110, 100, 32, 104, 101, 114, 101, 32, 97, 114, 101, 32, 116, 104, 101, 32, 104, 101, 97, 100, 108, 105, 110, 101, 115, 32, 111, 102, 32, 116, 104, 105, 115, 32, 100, 97, 121, 32, 105, 110, 32, 116, 104, 101, 32, 99, 105, 116, 121]))), (.string (bstr ([78, 111, 46])))] true] [rowF 4 quC A x] := HP
 refine then_normal (wp_seq (w_region ?_))
 refine H.ge HP [(4, (.slice none 0 0))] [] fun a H => ?_
 refine then_normal (wp_seq (wp_seq (w_region ?_)))
 refine H.ge HP [(5, (ii 0))] [] fun a H => ?_
 refine then_normal (wp_block ?_)
 have HP := HP.nilRow w.heap.size 23 5 cuC okT feF elOk_flat
 refine w_loop (fun mm a wv => ∃ (i : Nat), ∃ (RA : Option Addr), ∃ (rc : Nat), ∃ (l : List Cue), ∃ (bt : Nat), 8 - i = mm ∧ Sl 60 [(5, (ii i)), (4, (.slice RA l.length rc)), (3, (.slice (some ⟨bt, 0, none⟩) 6 6)), (0, (.slice A x.length c))] a ∧ Hp w wv [(rowsR w.heap.size 23 5 cuC okT feF (.slice RA l.length rc) l), bx bt 9 [(.string (bstr ([72, 105]))), (.string (bstr ([82, 97, 105, 110, 32, 101, 120, 112, 101, 99, 116, 101, 100, 32, 105, 110, 32, 116, 104, 101, 32, 110, 111, 114, 116, 104]))), (.string (bstr ([71, 111, 111, 100, 32, 101, 118, 101, 110, 105, 110, 103, 44, 32, 97, 110, 100, 32, 119, 101, 108, 99, 111, 109, 101, 32, 116, 111, 32, 116, 104, 101, 32, 112, 114, 111, 103, 114, 97, 109, 109, 101]))), (.string (bstr ([71, 111, 97, 108, 33]))), (.string (bstr ([73, 116, 32, 105, 115, 32, 110, 111, 119, 32, 110, 105, 110, 101, 32, 111, 39, 99, 108, 111, 99, 107, 44, 32, 97, 110, 100, 32, 104, 101, 114, 101, 32, 97, 114, 101, 32, 116, 104, 101, 32, 104, 101, 97, 100, 108, 105, 110, 101, 115, 32, 111, 102, 32, 116, 104, 105, 115, 32, 100, 97, 121, 32, 105, 110, 32, 116, 104, 101, 32, 99, 105, 116, 121]))), (.string (bstr ([78, 111, 46])))] true] [rowF 4 quC A x] ∧ (i ≤ x.length ∧ i ≤ 8) ∧ (l = makeG 0 (x.take i))) (8 - 0) ?_ ?_
 ·exact ⟨0, none, 0, [], b_1, (by omega), H.keep (by kernel_rfl), HP, ⟨Nat.zero_le _, Nat.zero_le _⟩, rfl⟩
 rintro mm a w_3 ⟨i, RA, rc, l, bt, hmeas, H, HP, hi, hrel⟩
 have hll : l.length = i := by rw [hrel, makeG_len, List.length_take]; omega
 refine wp_seq (wp_seq (w_region ?_))
 refine H.go HP 5 [(12, (.bool (decide ((i : Int) < (x.length : Int)))))] [] fun a H => ?_
 refine H.split 12 rfl (fun g12 H => ?_) (fun g12 H => ?_)
 ·have g12p := of_decide_eq_true g12
  refine H.ge HP [(15, (.bool (decide ((i : Int) < 8))))] [] fun a H => ?_
  refine then_normal ?_
  refine w_if H rfl (fun g15 => ?_) (fun g15 => ?_)
  ·have g15p := of_decide_eq_true g15
   refine wp_skip (then_normal (wp_seq (wp_block ?_)))
   refine w_cut (fun a wv => ∃ (bu : Nat), ∃ (ou : Nat), ∃ (q : Quad), ∃ (b6 : Nat), Sl 60 [(6, (pt b6 0)), (0, (.slice A x.length c)), (3, (.slice (some ⟨bt, 0, none⟩) 6 6)), (4, (.slice RA l.length rc)), (5, (ii i))] a ∧ Hp w wv [bx b6 23 [(ii ((i : Int) + 1)), (ii (pickP q.1 400)), (ii 0), (ii (pickP q.2.2.1 3)), (.string (bstr (texts6.getD (pickP q.2.2.2 6).toNat [])))] true, (rowsR w.heap.size 23 5 cuC okT feF (.slice RA l.length rc) l), bx bt 9 [(.string (bstr ([72, 105]))), (.string (bstr ([82, 97, 105, 110, 32, 101, 120, 112, 101, 99, 116, 101, 100, 32, 105, 110, 32, 116, 104, 101, 32, 110, 111, 114, 116, 104]))), (.string (bstr ([71, 111, 111, 100, 32, 101, 118, 101, 110, 105, 110, 103, 44, 32, 97, 110, 100, 32, 119, 101, 108, 99, 111, 109, 101, 32, 116, 111, 32, 116, 104, 101, 32, 112, 114, 111, 103, 114, 97, 109, 109, 101]))), (.string (bstr ([71, 111, 97, 108, 33]))), (.string (bstr ([73, 116, 32, 105, 115, 32, 110, 111, 119, 32, 110, 105, 110, 101, 32, 111, 39, 99, 108, 111, 99, 107, 44, 32, 97, 110, 100, 32, 104, 101, 114, 101, 32, 97, 114, 101, 32, 116, 104, 101, 32, 104, 101, 97, 100, 108, 105, 110, 101, 115, 32, 111, 102, 32, 116, 104, 105, 115, 32, 100, 97, 121, 32, 105, 110, 32, 116, 104, 101, 32, 99, 105, 116, 121]))), (.string (bstr ([78, 111, 46])))] true] [rowF 4 quC A x] ∧ (A = some ⟨bu, ou, none⟩) ∧ (x[i]? = some q) ∧ (qIn q)) ?_ ?_
   ·
    refine An.start (fun v => Hp w v [(rowsR w.heap.size 23 5 cuC okT feF (.slice RA l.length rc) l), bx bt 9 [(.string (bstr ([72, 105]))), (.string (bstr ([82, 97, 105, 110, 32, 101, 120, 112, 101, 99, 116, 101, 100, 32, 105, 110, 32, 116, 104, 101, 32, 110, 111, 114, 116, 104]))), (.string (bstr ([71, 111, 111, 100, 32, 101, 118, 101, 110, 105, 110, 103, 44, 32, 97, 110, 100, 32, 119, 101, 108, 99, 111, 109, 101, 32, 116, 111, 32, 116, 104, 101, 32, 112, 114, 111, 103, 114, 97, 109, 109, 101]))), (.string (bstr ([71, 111, 97, 108, 33]))), (.string (bstr ([73, 116, 32, 105, 115, 32, 110, 111, 119, 32, 110, 105, 110, 101, 32, 111, 39, 99, 108, 111, 99, 107, 44, 32, 97, 110, 100, 32, 104, 101, 114, 101, 32, 97, 114, 101, 32, 116, 104, 101, 32, 104, 101, 97, 100, 108, 105, 110, 101, 115, 32, 111, 102, 32, 116, 104, 105, 115, 32, 100, 97, 121, 32, 105, 110, 32, 116, 104, 101, 32, 99, 105, 116, 121]))), (.string (bstr ([78, 111, 46])))] true] [rowF 4 quC A x]) 27 28 HP wide_follows rfl fun w_4 HP => ?_
    refine An.go H (.inr (HP)) 27 [0] [(18, (ii i))] [] fun a H => ?_
    refine An.pureE H (.inr (HP)) 1 19 (ii (IntKind.i64.wrap ((i : Int) + 1))) (ii ((i : Int) + 1)) rfl (by kernel_rfl) (by kernel_rfl) (fun _ _ _ h => h) (fun _ => by kernel_rfl) ((by rw [wrap_ini64 _ (by omega)])) fun a H => ?_
    refine An.go H (.inr (HP)) 24 [2, 3] [(20, (.slice A x.length c)), (21, (ii i))] [] fun a H => ?_
    obtain ⟨bu, ou, q, hA, _, hd, hx, hm, _⟩ := IsRow.get quC_size (HP.fact 0 rfl : IsRow 4 quC _ A x) (i := i) (by omega)
    have hq := hin q hm
    refine An.pure H (.inr (HP)) 4 22 (.pointer (some ⟨bu, ou + i * 4, none⟩)) rfl (by kernel_rfl) (by kernel_rfl) (fun _ _ _ h => h) (fun _ => ex_indexA (b := bu) (off := ou) (len := x.length) (cap := c) (e := 53) (k := 4) (ik := .i64) (i := (i : Int)) (m := i) hA (by kernel_rfl) (by kernel_rfl) rfl (by omega) (by kernel_rfl) (by kernel_rfl)) fun a H => ?_
    refine An.p H (.inr HP) 5 23 (.pointer (some ⟨bu, ou + i * 4, none⟩)) fun a H => ?_
    refine An.val H (HP) 6 24 (ii q.1) rfl (by kernel_rfl) (by kernel_rfl) (fun _ _ _ h => h) (fun _ hS => ex_l1 (IsRow.cells quC_size (hS.fact 0 rfl : IsRow 4 quC _ A x) hA hx 0 _ rfl)) fun a H => ?_
    refine An.go H (.inr (HP)) 19 [8, 9] [(26, (.slice A x.length c)), (27, (ii i))] [] fun a H => ?_
    refine An.pure H (.inr (HP)) 10 28 (.pointer (some ⟨bu, ou + i * 4, none⟩)) rfl (by kernel_rfl) (by kernel_rfl) (fun _ _ _ h => h) (fun _ => ex_indexA (b := bu) (off := ou) (len := x.length) (cap := c) (e := 53) (k := 4) (ik := .i64) (i := (i : Int)) (m := i) hA (by kernel_rfl) (by kernel_rfl) rfl (by omega) (by kernel_rfl) (by kernel_rfl)) fun a H => ?_
    refine An.p H (.inr HP) 11 29 (.pointer (some ⟨bu, ou + i * 4 + 2, none⟩)) fun a H => ?_
    refine An.val H (HP) 12 30 (ii q.2.2.1) rfl (by kernel_rfl) (by kernel_rfl) (fun _ _ _ h => h) (fun _ hS => ex_l1 (IsRow.cells quC_size (hS.fact 0 rfl : IsRow 4 quC _ A x) hA hx 2 _ rfl)) fun a H => ?_
    refine An.go H (.inr (HP)) 13 [14, 15, 16] [(32, (.slice (some ⟨bt, 0, none⟩) 6 6)), (33, (.slice A x.length c)), (34, (ii i))] [] fun a H => ?_
    refine An.pure H (.inr (HP)) 17 35 (.pointer (some ⟨bu, ou + i * 4, none⟩)) rfl (by kernel_rfl) (by kernel_rfl) (fun _ _ _ h => h) (fun _ => ex_indexA (b := bu) (off := ou) (len := x.length) (cap := c) (e := 53) (k := 4) (ik := .i64) (i := (i : Int)) (m := i) hA (by kernel_rfl) (by kernel_rfl) rfl (by omega) (by kernel_rfl) (by kernel_rfl)) fun a H => ?_
    refine An.p H (.inr HP) 18 36 (.pointer (some ⟨bu, ou + i * 4 + 3, none⟩)) fun a H => ?_
    refine An.val H (HP) 19 37 (ii q.2.2.2) rfl (by kernel_rfl) (by kernel_rfl) (fun _ _ _ h => h) (fun _ hS => ex_l1 (IsRow.cells quC_size (hS.fact 0 rfl : IsRow 4 quC _ A x) hA hx 3 _ rfl)) fun a H => ?_
    refine An.go H (.inr (HP)) 8 [20, 21] [(39, (ii 6))] [] fun a H => ?_
    refine An.two 7 26 (by kernel_rfl) ?_ ?_
    ·refine Op.call H 25 rfl (by kernel_rfl) (Eq.trans (by kernel_rfl : _ = (callFunc 14 #[(ii q.1), (ii 400)]).run Tryd.prog w_4) (Tryd.call14 _ _)) (pick_any q.1 400 w_4 hq.1 (by omega)) ?_
     rintro e w_5 ⟨rfl, hbp⟩
     refine ⟨_, rfl, ?_⟩
     intro a H
     have HP := HP.next hbp
     refine ⟨.inr (HP), ?_⟩
     refine An.two 13 26 (by kernel_rfl) ?_ ?_
     ·refine Op.call H 31 rfl (by kernel_rfl) (Eq.trans (by kernel_rfl : _ = (callFunc 14 #[(ii q.2.2.1), (ii 3)]).run Tryd.prog w_5) (Tryd.call14 _ _)) (pick_any q.2.2.1 3 w_5 hq.2.2.1 (by omega)) ?_
      rintro e w_6 ⟨rfl, hbp⟩
      refine ⟨_, rfl, ?_⟩
      intro a H
      have HP := HP.next hbp
      refine ⟨.inr (HP), ?_⟩
      refine An.two 22 26 (by kernel_rfl) ?_ ?_
      ·refine Op.call H 40 rfl (by kernel_rfl) (Eq.trans (by kernel_rfl : _ = (callFunc 14 #[(ii q.2.2.2), (ii 6)]).run Tryd.prog w_6) (Tryd.call14 _ _)) (pick_any q.2.2.2 6 w_6 hq.2.2.2 (by omega)) ?_
       rintro e w_7 ⟨rfl, hbp⟩
       refine ⟨_, rfl, ?_⟩
       intro a H
       have HP := HP.next hbp
       refine ⟨.inr (HP), ?_⟩
       obtain ⟨kt, hkt, hkt6⟩ : ∃ k : Nat, pickP q.2.2.2 6 = (k : Int) ∧ k < 6 := pick_nat6 _
       refine An.pure H (.inr (HP)) 23 41 (.pointer (some ⟨bt, 0 + kt * 1, none⟩)) rfl (by kernel_rfl) (by kernel_rfl) (fun _ _ _ h => h) (fun _ => ex_index (b := bt) (off := 0) (len := 6) (cap := 6) (e := 9) (k := 1) (ik := .i64) (i := pickP q.2.2.2 6) (m := kt) (by kernel_rfl) (by kernel_rfl) hkt (by omega) (by kernel_rfl) (by kernel_rfl)) fun a H => ?_
       refine An.val H (HP) 24 42 (.string (bstr (texts6.getD (pickP q.2.2.2 6).toNat []))) rfl (by kernel_rfl) (by kernel_rfl) (fun _ _ _ h => h) (fun _ hS => ex_load1 (p := ⟨bt, 0 + kt * 1, none⟩) (by kernel_rfl) (by kernel_rfl) (texts_cell (hS.at_ 1 rfl) hkt hkt6)) fun a H => ?_
       refine An.go H (.inr (HP)) 2 [25] [(43, (.agg #[(ii ((i : Int) + 1)), (ii (pickP q.1 400)), (ii 0), (ii (pickP q.2.2.1 3)), (.string (bstr (texts6.getD (pickP q.2.2.2 6).toNat [])))]))] [] fun a H => ?_
       refine An.one 26 (by kernel_rfl) ?_
       refine Op.alloc H HP 6 (fun b => (pt b 0)) 23 [(ii 0), (ii 0), (ii 0), (ii 0), (.string (bstr ([])))] rfl (by kernel_rfl) (fun w => by kernel_rfl) fun b_8 w_9 a H HP => ?_
       refine ⟨.inr ((HP.tail rfl)), ?_⟩
       refine An.one 27 (by kernel_rfl) ?_
       refine Op.sh H HP 0 0 (.agg #[(ii ((i : Int) + 1)), (ii (pickP q.1 400)), (ii 0), (ii (pickP q.2.2.1 3)), (.string (bstr (texts6.getD (pickP q.2.2.2 6).toNat [])))]) rfl rfl fun w_10 a H HP => ?_
       refine ⟨.inl (by kernel_rfl), ?_⟩
       refine An.done (by kernel_rfl) ?_
       refine then_normal ?_
       exact ⟨bu, ou, q, b_8, H.keep (by kernel_rfl), HP, hA, hx, hq⟩
      ·refine Op.alloc H HP 6 (fun b => (pt b 0)) 23 [(ii 0), (ii 0), (ii 0), (ii 0), (.string (bstr ([])))] rfl (by kernel_rfl) (fun w => by kernel_rfl) fun b_11 w_12 a H HP => ?_
       refine ⟨.inr ((HP.tail rfl)), ?_⟩
       refine An.one 22 (by kernel_rfl) ?_
       refine Op.call H 40 rfl (by kernel_rfl) (Eq.trans (by kernel_rfl : _ = (callFunc 14 #[(ii q.2.2.2), (ii 6)]).run Tryd.prog w_12) (Tryd.call14 _ _)) (pick_any q.2.2.2 6 w_12 hq.2.2.2 (by omega)) ?_
       rintro e w_13 ⟨rfl, hbp⟩
       refine ⟨_, rfl, ?_⟩
       intro a H
       have HP := HP.next hbp
       refine ⟨.inr ((HP.tail rfl)), ?_⟩
       obtain ⟨kt, hkt, hkt6⟩ : ∃ k : Nat, pickP q.2.2.2 6 = (k : Int) ∧ k < 6 := pick_nat6 _
       refine An.pure H (.inr ((HP.tail rfl))) 23 41 (.pointer (some ⟨bt, 0 + kt * 1, none⟩)) rfl (by kernel_rfl) (by kernel_rfl) (fun _ _ _ h => h) (fun _ => ex_index (b := bt) (off := 0) (len := 6) (cap := 6) (e := 9) (k := 1) (ik := .i64) (i := pickP q.2.2.2 6) (m := kt) (by kernel_rfl) (by kernel_rfl) hkt (by omega) (by kernel_rfl) (by kernel_rfl)) fun a H => ?_
       refine An.val H ((HP.tail rfl)) 24 42 (.string (bstr (texts6.getD (pickP q.2.2.2 6).toNat []))) rfl (by kernel_rfl) (by kernel_rfl) (fun _ _ _ h => h) (fun _ hS => ex_load1 (p := ⟨bt, 0 + kt * 1, none⟩) (by kernel_rfl) (by kernel_rfl) (texts_cell (hS.at_ 1 rfl) hkt hkt6)) fun a H => ?_
       refine An.go H (.inr ((HP.tail rfl))) 1 [25] [(43, (.agg #[(ii ((i : Int) + 1)), (ii (pickP q.1 400)), (ii 0), (ii (pickP q.2.2.1 3)), (.string (bstr (texts6.getD (pickP q.2.2.2 6).toNat [])))]))] [] fun a H => ?_
       refine An.one 27 (by kernel_rfl) ?_
       refine Op.sh H HP 0 0 (.agg #[(ii ((i : Int) + 1)), (ii (pickP q.1 400)), (ii 0), (ii (pickP q.2.2.1 3)), (.string (bstr (texts6.getD (pickP q.2.2.2 6).toNat [])))]) rfl rfl fun w_14 a H HP => ?_
       refine ⟨.inl (by kernel_rfl), ?_⟩
       refine An.done (by kernel_rfl) ?_
       refine then_normal ?_
       exact ⟨bu, ou, q, b_11, H.keep (by kernel_rfl), HP, hA, hx, hq⟩
     ·refine Op.alloc H HP 6 (fun b => (pt b 0)) 23 [(ii 0), (ii 0), (ii 0), (ii 0), (.string (bstr ([])))] rfl (by kernel_rfl) (fun w => by kernel_rfl) fun b_15 w_16 a H HP => ?_
      refine ⟨.inr ((HP.tail rfl)), ?_⟩
      refine An.one 13 (by kernel_rfl) ?_
      refine Op.call H 31 rfl (by kernel_rfl) (Eq.trans (by kernel_rfl : _ = (callFunc 14 #[(ii q.2.2.1), (ii 3)]).run Tryd.prog w_16) (Tryd.call14 _ _)) (pick_any q.2.2.1 3 w_16 hq.2.2.1 (by omega)) ?_
      rintro e w_17 ⟨rfl, hbp⟩
      refine ⟨_, rfl, ?_⟩
      intro a H
      have HP := HP.next hbp
      refine ⟨.inr ((HP.tail rfl)), ?_⟩
      refine An.one 22 (by kernel_rfl) ?_
      refine Op.call H 40 rfl (by kernel_rfl) (Eq.trans (by kernel_rfl : _ = (callFunc 14 #[(ii q.2.2.2), (ii 6)]).run Tryd.prog w_17) (Tryd.call14 _ _)) (pick_any q.2.2.2 6 w_17 hq.2.2.2 (by omega)) ?_
      rintro e w_18 ⟨rfl, hbp⟩
      refine ⟨_, rfl, ?_⟩
      intro a H
      have HP := HP.next hbp
      refine ⟨.inr ((HP.tail rfl)), ?_⟩
      obtain ⟨kt, hkt, hkt6⟩ : ∃ k : Nat, pickP q.2.2.2 6 = (k : Int) ∧ k < 6 := pick_nat6 _
      refine An.pure H (.inr ((HP.tail rfl))) 23 41 (.pointer (some ⟨bt, 0 + kt * 1, none⟩)) rfl (by kernel_rfl) (by kernel_rfl) (fun _ _ _ h => h) (fun _ => ex_index (b := bt) (off := 0) (len := 6) (cap := 6) (e := 9) (k := 1) (ik := .i64) (i := pickP q.2.2.2 6) (m := kt) (by kernel_rfl) (by kernel_rfl) hkt (by omega) (by kernel_rfl) (by kernel_rfl)) fun a H => ?_
      refine An.val H ((HP.tail rfl)) 24 42 (.string (bstr (texts6.getD (pickP q.2.2.2 6).toNat []))) rfl (by kernel_rfl) (by kernel_rfl) (fun _ _ _ h => h) (fun _ hS => ex_load1 (p := ⟨bt, 0 + kt * 1, none⟩) (by kernel_rfl) (by kernel_rfl) (texts_cell (hS.at_ 1 rfl) hkt hkt6)) fun a H => ?_
      refine An.go H (.inr ((HP.tail rfl))) 1 [25] [(43, (.agg #[(ii ((i : Int) + 1)), (ii (pickP q.1 400)), (ii 0), (ii (pickP q.2.2.1 3)), (.string (bstr (texts6.getD (pickP q.2.2.2 6).toNat [])))]))] [] fun a H => ?_
      refine An.one 27 (by kernel_rfl) ?_
      refine Op.sh H HP 0 0 (.agg #[(ii ((i : Int) + 1)), (ii (pickP q.1 400)), (ii 0), (ii (pickP q.2.2.1 3)), (.string (bstr (texts6.getD (pickP q.2.2.2 6).toNat [])))]) rfl rfl fun w_19 a H HP => ?_
      refine ⟨.inl (by kernel_rfl), ?_⟩
      refine An.done (by kernel_rfl) ?_
      refine then_normal ?_
      exact ⟨bu, ou, q, b_15, H.keep (by kernel_rfl), HP, hA, hx, hq⟩
    ·refine Op.alloc H HP 6 (fun b => (pt b 0)) 23 [(ii 0), (ii 0), (ii 0), (ii 0), (.string (bstr ([])))] rfl (by kernel_rfl) (fun w => by kernel_rfl) fun b_20 w_21 a H HP => ?_
     refine ⟨.inr ((HP.tail rfl)), ?_⟩
     refine An.one 7 (by kernel_rfl) ?_
     refine Op.call H 25 rfl (by kernel_rfl) (Eq.trans (by kernel_rfl : _ = (callFunc 14 #[(ii q.1), (ii 400)]).run Tryd.prog w_21) (Tryd.call14 _ _)) (pick_any q.1 400 w_21 hq.1 (by omega)) ?_
     rintro e w_22 ⟨rfl, hbp⟩
     refine ⟨_, rfl, ?_⟩
     intro a H
     have HP := HP.next hbp
     refine ⟨.inr ((HP.tail rfl)), ?_⟩
     refine An.one 13 (by kernel_rfl) ?_
     refine Op.call H 31 rfl (by kernel_rfl) (Eq.trans (by kernel_rfl : _ = (callFunc 14 #[(ii q.2.2.1), (ii 3)]).run Tryd.prog w_22) (Tryd.call14 _ _)) (pick_any q.2.2.1 3 w_22 hq.2.2.1 (by omega)) ?_
     rintro e w_23 ⟨rfl, hbp⟩
     refine ⟨_, rfl, ?_⟩
     intro a H
     have HP := HP.next hbp
     refine ⟨.inr ((HP.tail rfl)), ?_⟩
     refine An.one 22 (by kernel_rfl) ?_
     refine Op.call H 40 rfl (by kernel_rfl) (Eq.trans (by kernel_rfl : _ = (callFunc 14 #[(ii q.2.2.2), (ii 6)]).run Tryd.prog w_23) (Tryd.call14 _ _)) (pick_any q.2.2.2 6 w_23 hq.2.2.2 (by omega)) ?_
     rintro e w_24 ⟨rfl, hbp⟩
     refine ⟨_, rfl, ?_⟩
     intro a H
     have HP := HP.next hbp
     refine ⟨.inr ((HP.tail rfl)), ?_⟩
     obtain ⟨kt, hkt, hkt6⟩ : ∃ k : Nat, pickP q.2.2.2 6 = (k : Int) ∧ k < 6 := pick_nat6 _
     refine An.pure H (.inr ((HP.tail rfl))) 23 41 (.pointer (some ⟨bt, 0 + kt * 1, none⟩)) rfl (by kernel_rfl) (by kernel_rfl) (fun _ _ _ h => h) (fun _ => ex_index (b := bt) (off := 0) (len := 6) (cap := 6) (e := 9) (k := 1) (ik := .i64) (i := pickP q.2.2.2 6) (m := kt) (by kernel_rfl) (by kernel_rfl) hkt (by omega) (by kernel_rfl) (by kernel_rfl)) fun a H => ?_
     refine An.val H ((HP.tail rfl)) 24 42 (.string (bstr (texts6.getD (pickP q.2.2.2 6).toNat []))) rfl (by kernel_rfl) (by kernel_rfl) (fun _ _ _ h => h) (fun _ hS => ex_load1 (p := ⟨bt, 0 + kt * 1, none⟩) (by kernel_rfl) (by kernel_rfl) (texts_cell (hS.at_ 1 rfl) hkt hkt6)) fun a H => ?_
     refine An.go H (.inr ((HP.tail rfl))) 1 [25] [(43, (.agg #[(ii ((i : Int) + 1)), (ii (pickP q.1 400)), (ii 0), (ii (pickP q.2.2.1 3)), (.string (bstr (texts6.getD (pickP q.2.2.2 6).toNat [])))]))] [] fun a H => ?_
     refine An.one 27 (by kernel_rfl) ?_
     refine Op.sh H HP 0 0 (.agg #[(ii ((i : Int) + 1)), (ii (pickP q.1 400)), (ii 0), (ii (pickP q.2.2.1 3)), (.string (bstr (texts6.getD (pickP q.2.2.2 6).toNat [])))]) rfl rfl fun w_25 a H HP => ?_
     refine ⟨.inl (by kernel_rfl), ?_⟩
     refine An.done (by kernel_rfl) ?_
     refine then_normal ?_
     exact ⟨bu, ou, q, b_20, H.keep (by kernel_rfl), HP, hA, hx, hq⟩
   ·
    rintro a w_26 ⟨bu, ou, q, b6, H, HP, hA, hx, hq⟩
    refine w_cut (fun a wv => Sl 60 [(6, (pt b6 0)), (0, (.slice A x.length c)), (3, (.slice (some ⟨bt, 0, none⟩) 6 6)), (4, (.slice RA l.length rc)), (5, (ii i))] a ∧ Hp w wv [bx b6 23 [(ii ((i : Int) + 1)), (ii (pickP q.1 400)), (ii (pickP q.1 400 + 1 + pickP q.2.1 150)), (ii (pickP q.2.2.1 3)), (.string (bstr (texts6.getD (pickP q.2.2.2 6).toNat [])))] true, (rowsR w.heap.size 23 5 cuC okT feF (.slice RA l.length rc) l), bx bt 9 [(.string (bstr ([72, 105]))), (.string (bstr ([82, 97, 105, 110, 32, 101, 120, 112, 101, 99, 116, 101, 100, 32, 105, 110, 32, 116, 104, 101, 32, 110, 111, 114, 116, 104]))), (.string (bstr ([71, 111, 111, 100, 32, 101, 118, 101, 110, 105, 110, 103, 44, 32, 97, 110, 100, 32, 119, 101, 108, 99, 111, 109, 101, 32, 116, 111, 32, 116, 104, 101, 32, 112, 114, 111, 103, 114, 97, 109, 109, 101]))), (.string (bstr ([71, 111, 97, 108, 33]))), (.string (bstr ([73, 116, 32, 105, 115, 32, 110, 111, 119, 32, 110, 105, 110, 101, 32, 111, 39, 99, 108, 111, 99, 107, 44, 32, 97, 110, 100, 32, 104, 101, 114, 101, 32, 97, 114, 101, 32, 116, 104, 101, 32, 104, 101, 97, 100, 108, 105, 110, 101, 115, 32, 111, 102, 32, 116, 104, 105, 115, 32, 100, 97, 121, 32, 105, 110, 32, 116, 104, 101, 32, 99, 105, 116, 121]))), (.string (bstr ([78, 111, 46])))] true] [rowF 4 quC A x]) ?_ ?_
    ·
     have hp1 := pickP_in (c := q.1) (n := 400) (by omega)
     have hp2 := pickP_in (c := q.2.1) (n := 150) (by omega)
     have HP := HP.front 0 rfl [bx b6 23 [(ii ((i : Int) + 1)), (ii (pickP q.1 400)), (ii 0), (ii (pickP q.2.2.1 3)), (.string (bstr (texts6.getD (pickP q.2.2.2 6).toNat [])))] true, (rowsR w.heap.size 23 5 cuC okT feF (.slice RA l.length rc) l), bx bt 9 [(.string (bstr ([72, 105]))), (.string (bstr ([82, 97, 105, 110, 32, 101, 120, 112, 101, 99, 116, 101, 100, 32, 105, 110, 32, 116, 104, 101, 32, 110, 111, 114, 116, 104]))), (.string (bstr ([71, 111, 111, 100, 32, 101, 118, 101, 110, 105, 110, 103, 44, 32, 97, 110, 100, 32, 119, 101, 108, 99, 111, 109, 101, 32, 116, 111, 32, 116, 104, 101, 32, 112, 114, 111, 103, 114, 97, 109, 109, 101]))), (.string (bstr ([71, 111, 97, 108, 33]))), (.string (bstr ([73, 116, 32, 105, 115, 32, 110, 111, 119, 32, 110, 105, 110, 101, 32, 111, 39, 99, 108, 111, 99, 107, 44, 32, 97, 110, 100, 32, 104, 101, 114, 101, 32, 97, 114, 101, 32, 116, 104, 101, 32, 104, 101, 97, 100, 108, 105, 110, 101, 115, 32, 111, 102, 32, 116, 104, 105, 115, 32, 100, 97, 121, 32, 105, 110, 32, 116, 104, 101, 32, 99, 105, 116, 121]))), (.string (bstr ([78, 111, 46])))] true] (by kernel_rfl)
     refine An.start (fun v => Hp w v [(rowsR w.heap.size 23 5 cuC okT feF (.slice RA l.length rc) l), bx bt 9 [(.string (bstr ([72, 105]))), (.string (bstr ([82, 97, 105, 110, 32, 101, 120, 112, 101, 99, 116, 101, 100, 32, 105, 110, 32, 116, 104, 101, 32, 110, 111, 114, 116, 104]))), (.string (bstr ([71, 111, 111, 100, 32, 101, 118, 101, 110, 105, 110, 103, 44, 32, 97, 110, 100, 32, 119, 101, 108, 99, 111, 109, 101, 32, 116, 111, 32, 116, 104, 101, 32, 112, 114, 111, 103, 114, 97, 109, 109, 101]))), (.string (bstr ([71, 111, 97, 108, 33]))), (.string (bstr ([73, 116, 32, 105, 115, 32, 110, 111, 119, 32, 110, 105, 110, 101, 32, 111, 39, 99, 108, 111, 99, 107, 44, 32, 97, 110, 100, 32, 104, 101, 114, 101, 32, 97, 114, 101, 32, 116, 104, 101, 32, 104, 101, 97, 100, 108, 105, 110, 101, 115, 32, 111, 102, 32, 116, 104, 105, 115, 32, 100, 97, 121, 32, 105, 110, 32, 116, 104, 101, 32, 99, 105, 116, 121]))), (.string (bstr ([78, 111, 46])))] true] [rowF 4 quC A x]) 11 12 HP wide_follows rfl fun w_27 HP => ?_
     refine An.go H (.inr ((HP.tail rfl))) 9 [0, 3, 4] [(44, (pt b6 1)), (47, (.slice A x.length c)), (48, (ii i))] [] fun a H => ?_
     refine An.pure H (.inr ((HP.tail rfl))) 5 49 (.pointer (some ⟨bu, ou + i * 4, none⟩)) rfl (by kernel_rfl) (by kernel_rfl) (fun _ _ _ h => h) (fun _ => ex_indexA (b := bu) (off := ou) (len := x.length) (cap := c) (e := 53) (k := 4) (ik := .i64) (i := (i : Int)) (m := i) hA (by kernel_rfl) (by kernel_rfl) rfl (by omega) (by kernel_rfl) (by kernel_rfl)) fun a H => ?_
     refine An.p H (.inr ((HP.tail rfl))) 6 50 (.pointer (some ⟨bu, ou + i * 4 + 1, none⟩)) fun a H => ?_
     refine An.val H ((HP.tail rfl)) 7 51 (ii q.2.1) rfl (by kernel_rfl) (by kernel_rfl) (fun _ _ _ h => h) (fun _ hS => ex_l1 (IsRow.cells quC_size (hS.fact 0 rfl : IsRow 4 quC _ A x) hA hx 1 _ rfl)) fun a H => ?_
     refine An.two 1 8 (by kernel_rfl) ?_ ?_
     ·refine Op.val H 45 (ii (pickP q.1 400)) rfl (by kernel_rfl) (ex_l1 (HP.cell 0 rfl 1 rfl)) fun a H => ?_
      refine ⟨.inr ((HP.tail rfl)), ?_⟩
      refine An.pureE H (.inr ((HP.tail rfl))) 2 46 (ii (IntKind.i64.wrap ((pickP q.1 400) + 1))) (ii ((pickP q.1 400) + 1)) rfl (by kernel_rfl) (by kernel_rfl) (fun _ _ _ h => h) (fun _ => by kernel_rfl) ((by rw [wrap_ini64 _ (by omega)])) fun a H => ?_
      refine An.one 8 (by kernel_rfl) ?_
      refine Op.call H 52 rfl (by kernel_rfl) (Eq.trans (by kernel_rfl : _ = (callFunc 14 #[(ii q.2.1), (ii 150)]).run Tryd.prog w_27) (Tryd.call14 _ _)) (pick_any q.2.1 150 w_27 hq.2.1 (by omega)) ?_
      rintro e w_28 ⟨rfl, hbp⟩
      refine ⟨_, rfl, ?_⟩
      intro a H
      have HP := HP.next hbp
      refine ⟨.inr ((HP.tail rfl)), ?_⟩
      refine An.pureE H (.inr ((HP.tail rfl))) 9 53 (ii (IntKind.i64.wrap (((pickP q.1 400) + 1) + (pickP q.2.1 150)))) (ii (((pickP q.1 400) + 1) + (pickP q.2.1 150))) rfl (by kernel_rfl) (by kernel_rfl) (fun _ _ _ h => h) (fun _ => by kernel_rfl) ((by rw [wrap_ini64 _ (by omega)])) fun a H => ?_
      refine An.go H (.inr ((HP.tail rfl))) 1 [10] [(54, (pt b6 2))] [] fun a H => ?_
      refine An.one 11 (by kernel_rfl) ?_
      refine Op.sh H HP 0 2 (ii (((pickP q.1 400) + 1) + (pickP q.2.1 150))) rfl rfl fun w_29 a H HP => ?_
      refine ⟨.inl (by kernel_rfl), ?_⟩
      refine An.done (by kernel_rfl) ?_
      refine then_normal ?_
      exact ⟨H.keep (by kernel_rfl), HP⟩
     ·refine Op.call H 52 rfl (by kernel_rfl) (Eq.trans (by kernel_rfl : _ = (callFunc 14 #[(ii q.2.1), (ii 150)]).run Tryd.prog w_27) (Tryd.call14 _ _)) (pick_any q.2.1 150 w_27 hq.2.1 (by omega)) ?_
      rintro e w_30 ⟨rfl, hbp⟩
      refine ⟨_, rfl, ?_⟩
      intro a H
      have HP := HP.next hbp
      refine ⟨.inr ((HP.tail rfl)), ?_⟩
      refine An.one 1 (by kernel_rfl) ?_
      refine Op.val H 45 (ii (pickP q.1 400)) rfl (by kernel_rfl) (ex_l1 (HP.cell 0 rfl 1 rfl)) fun a H => ?_
      refine ⟨.inr ((HP.tail rfl)), ?_⟩
      refine An.pureE H (.inr ((HP.tail rfl))) 2 46 (ii (IntKind.i64.wrap ((pickP q.1 400) + 1))) (ii ((pickP q.1 400) + 1)) rfl (by kernel_rfl) (by kernel_rfl) (fun _ _ _ h => h) (fun _ => by kernel_rfl) ((by rw [wrap_ini64 _ (by omega)])) fun a H => ?_
      refine An.pureE H (.inr ((HP.tail rfl))) 9 53 (ii (IntKind.i64.wrap (((pickP q.1 400) + 1) + (pickP q.2.1 150)))) (ii (((pickP q.1 400) + 1) + (pickP q.2.1 150))) rfl (by kernel_rfl) (by kernel_rfl) (fun _ _ _ h => h) (fun _ => by kernel_rfl) ((by rw [wrap_ini64 _ (by omega)])) fun a H => ?_
      refine An.go H (.inr ((HP.tail rfl))) 1 [10] [(54, (pt b6 2))] [] fun a H => ?_
      refine An.one 11 (by kernel_rfl) ?_
      refine Op.sh H HP 0 2 (ii (((pickP q.1 400) + 1) + (pickP q.2.1 150))) rfl rfl fun w_31 a H HP => ?_
      refine ⟨.inl (by kernel_rfl), ?_⟩
      refine An.done (by kernel_rfl) ?_
      refine then_normal ?_
      exact ⟨H.keep (by kernel_rfl), HP⟩
    ·
     rintro a w_32 ⟨H, HP⟩
     refine w_region ?_
     refine H.go HP 2 [(55, (.slice RA l.length rc)), (56, (.agg #[(ii ((i : Int) + 1)), (ii (pickP q.1 400)), (ii (pickP q.1 400 + 1 + pickP q.2.1 150)), (ii (pickP q.2.2.1 3)), (.string (bstr (texts6.getD (pickP q.2.2.2 6).toNat [])))]))] [0] fun a H => ?_
     refine H.alloc HP 57 (fun b => (.slice (some ⟨b, 0, none⟩) 1 1)) 23 [(ii ((i : Int) + 1)), (ii (pickP q.1 400)), (ii (pickP q.1 400 + 1 + pickP q.2.1 150)), (ii (pickP q.2.2.1 3)), (.string (bstr (texts6.getD (pickP q.2.2.2 6).toNat [])))] (by kernel_rfl) (fun w => by kernel_rfl) fun b_33 w_34 a H HP => ?_
     have HP := HP.pend0 2 rfl elOk_flat (cueP i q) [bx b_33 23 [(ii ((i : Int) + 1)), (ii (pickP q.1 400)), (ii (pickP q.1 400 + 1 + pickP q.2.1 150)), (ii (pickP q.2.2.1 3)), (.string (bstr (texts6.getD (pickP q.2.2.2 6).toNat [])))] true, bx b6 23 [(ii ((i : Int) + 1)), (ii (pickP q.1 400)), (ii (pickP q.1 400 + 1 + pickP q.2.1 150)), (ii (pickP q.2.2.1 3)), (.string (bstr (texts6.getD (pickP q.2.2.2 6).toNat [])))] true, (rowsP w.heap.size 23 5 cuC okT feF (.slice RA l.length rc) l (cueP i q)), bx bt 9 [(.string (bstr ([72, 105]))), (.string (bstr ([82, 97, 105, 110, 32, 101, 120, 112, 101, 99, 116, 101, 100, 32, 105, 110, 32, 116, 104, 101, 32, 110, 111, 114, 116, 104]))), (.string (bstr ([71, 111, 111, 100, 32, 101, 118, 101, 110, 105, 110, 103, 44, 32, 97, 110, 100, 32, 119, 101, 108, 99, 111, 109, 101, 32, 116, 111, 32, 116, 104, 101, 32, 112, 114, 111, 103, 114, 97, 109, 109, 101]))), (.string (bstr ([71, 111, 97, 108, 33]))), (.string (bstr ([73, 116, 32, 105, 115, 32, 110, 111, 119, 32, 110, 105, 110, 101, 32, 111, 39, 99, 108, 111, 99, 107, 44, 32, 97, 110, 100, 32, 104, 101, 114, 101, 32, 97, 114, 101, 32, 116, 104, 101, 32, 104, 101, 97, 100, 108, 105, 110, 101, 115, 32, 111, 102, 32, 116, 104, 105, 115, 32, 100, 97, 121, 32, 105, 110, 32, 116, 104, 101, 32, 99, 105, 116, 121]))), (.string (bstr ([78, 111, 46])))] true] (by kernel_rfl) trivial (fun _ h => h)
     refine H.push HP 58 2 0 (v := (.slice RA l.length rc)) (e := 23) (p := (cueP i q)) (l := l) (cs := cuC) (ok := okT) (fe := feF) (size := 5) (z := (.agg #[(ii 0), (ii 0), (ii 0), (ii 0), (.string (bstr ([])))])) (bytes := 48) (bb := b_33) (tb := 23) (fb := true) (by kernel_rfl) elOk_flat (by kernel_rfl) (by kernel_rfl) rfl (by kernel_rfl) (by kernel_rfl) (by kernel_rfl) (by kernel_rfl) (by kernel_rfl) rfl (by kernel_rfl) (by rw [hll]; unfold maxLen; omega) (by rw [hll]; omega) fun B_35 c_36 w_37 a H HP => ?_
     have HP : Hp w w_37 [bx b_33 23 [(ii ((i : Int) + 1)), (ii (pickP q.1 400)), (ii (pickP q.1 400 + 1 + pickP q.2.1 150)), (ii (pickP q.2.2.1 3)), (.string (bstr (texts6.getD (pickP q.2.2.2 6).toNat [])))] true, bx b6 23 [(ii ((i : Int) + 1)), (ii (pickP q.1 400)), (ii (pickP q.1 400 + 1 + pickP q.2.1 150)), (ii (pickP q.2.2.1 3)), (.string (bstr (texts6.getD (pickP q.2.2.2 6).toNat [])))] true, (rowsR w.heap.size 23 5 cuC okT feF (.slice B_35 (l.length + 1) c_36) (l ++ [(cueP i q)])), bx bt 9 [(.string (bstr ([72, 105]))), (.string (bstr ([82, 97, 105, 110, 32, 101, 120, 112, 101, 99, 116, 101, 100, 32, 105, 110, 32, 116, 104, 101, 32, 110, 111, 114, 116, 104]))), (.string (bstr ([71, 111, 111, 100, 32, 101, 118, 101, 110, 105, 110, 103, 44, 32, 97, 110, 100, 32, 119, 101, 108, 99, 111, 109, 101, 32, 116, 111, 32, 116, 104, 101, 32, 112, 114, 111, 103, 114, 97, 109, 109, 101]))), (.string (bstr ([71, 111, 97, 108, 33]))), (.string (bstr ([73, 116, 32, 105, 115, 32, 110, 111, 119, 32, 110, 105, 110, 101, 32, 111, 39, 99, 108, 111, 99, 107, 44, 32, 97, 110, 100, 32, 104, 101, 114, 101, 32, 97, 114, 101, 32, 116, 104, 101, 32, 104, 101, 97, 100, 108, 105, 110, 101, 115, 32, 111, 102, 32, 116, 104, 105, 115, 32, 100, 97, 121, 32, 105, 110, 32, 116, 104, 101, 32, 99, 105, 116, 121]))), (.string (bstr ([78, 111, 46])))] true] [rowF 4 quC A x] := HP
     refine H.ge HP [(4, (.slice B_35 (l.length + 1) c_36))] [] fun a H => ?_
     refine inb_normal (then_normal (w_region ?_))
     refine H.go HP 1 [(16, (ii i))] [] fun a H => ?_
     refine H.wi 17 ((i : Int) + 1) fun a H => ?_
     refine H.ge HP [(5, (ii ((i : Int) + 1)))] [] fun a H => ?_
     refine then_normal ?_
     have H := H.as 5 (ii ((i + 1 : Nat) : Int)) rfl rfl
     have H := H.as 4 (.slice B_35 ((l ++ [cueP i q]).length) c_36) rfl (congrArg (fun n => Value.slice _ n _) (len_snoc _ _))
     refine ⟨_, ?_, i + 1, B_35, c_36, l ++ [cueP i q], bt, rfl, H.keep (by kernel_rfl), (by have hh := HP.sub [2, 3] [(rowsR w.heap.size 23 5 cuC okT feF (.slice B_35 (l.length + 1) c_36) (l ++ [(cueP i q)])), bx bt 9 [(.string (bstr ([72, 105]))), (.string (bstr ([82, 97, 105, 110, 32, 101, 120, 112, 101, 99, 116, 101, 100, 32, 105, 110, 32, 116, 104, 101, 32, 110, 111, 114, 116, 104]))), (.string (bstr ([71, 111, 111, 100, 32, 101, 118, 101, 110, 105, 110, 103, 44, 32, 97, 110, 100, 32, 119, 101, 108, 99, 111, 109, 101, 32, 116, 111, 32, 116, 104, 101, 32, 112, 114, 111, 103, 114, 97, 109, 109, 101]))), (.string (bstr ([71, 111, 97, 108, 33]))), (.string (bstr ([73, 116, 32, 105, 115, 32, 110, 111, 119, 32, 110, 105, 110, 101, 32, 111, 39, 99, 108, 111, 99, 107, 44, 32, 97, 110, 100, 32, 104, 101, 114, 101, 32, 97, 114, 101, 32, 116, 104, 101, 32, 104, 101, 97, 100, 108, 105, 110, 101, 115, 32, 111, 102, 32, 116, 104, 105, 115, 32, 100, 97, 121, 32, 105, 110, 32, 116, 104, 101, 32, 99, 105, 116, 121]))), (.string (bstr ([78, 111, 46])))] true] (by kernel_rfl) (by kernel_rfl); rw [← show (l ++ [cueP i q]).length = l.length + 1 from (len_snoc _ _).symm] at hh; exact hh), ⟨by omega, by omega⟩, (by rw [take_snoc hx, makeG_snoc, ← hrel, List.length_take, Nat.min_eq_left (by omega), Nat.zero_add])⟩
     omega
  ·have g15p := of_decide_eq_false g15
   refine wp_exit (then_exit (then_exit ?_))
   refine w_exit_here ?_
   refine then_normal (wp_seq (w_region ?_))
   refine H.ge HP [(2, (.slice RA l.length rc))] [] fun a H => ?_
   refine then_normal (wp_ret ?_)
   refine H.ret1 (fn := Tryd.f13) Tryd.results13 (RV.tmp_ (v := (.slice RA l.length rc)) (by kernel_rfl)) ?_
   have hlx : l = makeP x := by rw [hrel]; unfold makeP; rw [show x.take i = x.take 8 from take_end8 (by omega)]
   subst hlx
   exact ⟨RA, rc, rfl, HP.bl, HP.held 0 rfl⟩
 ·have g12p := of_decide_eq_false g12
  refine H.ge HP [(15, (.bool false))] [] fun a H => ?_
  refine then_normal ?_
  refine w_iff H rfl ?_
  refine wp_exit (then_exit (then_exit ?_))
  refine w_exit_here ?_
  refine then_normal (wp_seq (w_region ?_))
  refine H.ge HP [(2, (.slice RA l.length rc))] [] fun a H => ?_
  refine then_normal (wp_ret ?_)
  refine H.ret1 (fn := Tryd.f13) Tryd.results13 (RV.tmp_ (v := (.slice RA l.length rc)) (by kernel_rfl)) ?_
  have hlx : l = makeP x := by rw [hrel]; unfold makeP; rw [show x.take i = x.take 8 from take_end8 (by omega)]
  subst hlx
  exact ⟨RA, rc, rfl, HP.bl, HP.held 0 rfl⟩
def Dec.okk (d : Dec) : Prop := d.buf.length ≤ 95 ∧ d.rows.length ≤ 1000
theorem splitG_len : ∀ (l acc : Str), (splitG acc l).length ≤ l.length + 1
  | [], acc => by simp [splitG]
  | b :: l, acc => by
    simp only [splitG]
    split
    · have := splitG_len l []; simp only [List.length_cons]; omega
    · have := splitG_len l (acc ++ [b]); simp only [List.length_cons]; omega
theorem showP_len {b : Str} {rows : List Str} (hb : b.length ≤ 95) (hr : rows.length ≤ 1000) : (showP b rows).length ≤ 1000 := by
  unfold showP
  split
  · split
    · rename_i s k _ _
      have := splitG_len (b.drop k) []
      rw [List.length_drop] at this
      omega
    · exact hr
  · exact hr
theorem doneP_rows {d : Dec} (h : d.rows.length ≤ 1000) : (doneP d).rows.length ≤ 1000 := by
  unfold doneP
  split
  · exact h
  · split
    · exact h
    · refine showP_len ?_ h
      rw [List.length_take]; omega
theorem feedP_okk {c : Str} {d : Dec} (h : d.okk) : (feedP c d).okk := by
  refine ⟨(feedP_ok c d).len, ?_⟩
  unfold feedP
  split
  · exact h.2
  · split
    · simp
    · split
      · exact doneP_rows h.2
      · split
        · exact doneP_rows h.2
        · exact h.2
theorem dec0_okk : (⟨[], []⟩ : Dec).okk := ⟨Nat.zero_le _, Nat.zero_le _⟩
theorem decRun_okk {code : Nat → Str} {d : Dec} (h : d.okk) : ∀ k, (decRun code d k).okk
  | 0 => h
  | k + 1 => feedP_okk (decRun_okk h k)
theorem dec_lt {b : Nat} {B : Option Addr} {c : Nat} {R : Option Addr} {cr : Nat} {d : Dec} {w : World} (h : (decR b B c R cr d).F w) {k : Nat} (hk : (decR b B c R cr d).fp k) : k < w.heap.size := by
  obtain ⟨h1, h2, h3, _⟩ := h
  rcases hk with hk | hk | hk
  · have hk : k = b := hk
    rw [hk]; exact h1.lt
  · exact rowZ_lt h2 hk
  · exact h3.lt k hk
theorem rdec_lt {b : Nat} {R : Option Addr} {cr : Nat} {d : Dec} {w : World} (h : (rdecR b R cr d).F w) {k : Nat} (hk : (rdecR b R cr d).fp k) : k < w.heap.size := by
  obtain ⟨h1, h3, _⟩ := h
  rcases hk with hk | hk
  · have hk : k = b := hk
    rw [hk]; exact h1.lt
  · exact h3.lt k hk
section
variable {w0 w : World} {L : List HB} {K : List FK}
theorem laid_apart (H : Hp w0 w L K) (i : Nat) {x : HB} (hi : L[i]? = some x) (j : Nat) (hj : K[j]? = some laidK) (k : Nat) (hk : x.fp k) : k ≠ 0 ∧ k ≠ 1 := by
  have h1 := (H.kept _ (List.mem_of_getElem? hj)).2.2
  exact ⟨fun e => (h1 k (.inl e)).2 _ (List.mem_of_getElem? hi) hk, fun e => (h1 k (.inr e)).2 _ (List.mem_of_getElem? hi) hk⟩
theorem feedD (H : Hp w0 w L K) (i : Nat) (b : Nat) (B : Option Addr) (c : Nat) (R : Option Addr) (cr : Nat) (d : Dec) (cd : Str) (hi : L[i]? = some (decR b B c R cr d)) (j : Nat) (hj : K[j]? = some laidK) (hok : d.okk) :
    Calls Tryd.prog 16 #[.pointer (some ⟨b, 0, none⟩), .string (bstr cd)] w fun e w' => e = .returned (.tuple #[]) ∧ ∃ B' c' R' cr', Hp w0 w' (L.set i (decR b B' c' R' cr' (feedP cd d))) K := by
  have hap := laid_apart H i hi j hj
  refine (feed_any b B c R cr d.buf d.rows cd w (H.held i hi) (H.fact j hj) hok.1 (hap b (.inl rfl)) (fun k hk hz => ?_)).mono ?_
  · have := hap k (.inr (.inl hz)); omega
  · rintro e w' ⟨rfl, B', c', R', cr', hF, hag, hfp⟩
    exact ⟨rfl, B', c', R', cr', H.mut i hi _ _ rfl hag hF (decR_ok _ _ _ _ _ _) (fun k hk => dec_lt hF hk) hfp (fun k hk hx => by have := H.fresh _ (List.mem_of_getElem? hi) rfl k hx; omega) rfl⟩
theorem rfeedD (H : Hp w0 w L K) (i : Nat) (b : Nat) (R : Option Addr) (cr : Nat) (d : Dec) (cd : Str) (hi : L[i]? = some (rdecR b R cr d)) (hok : d.okk) :
    Calls Tryd.prog 17 #[.pointer (some ⟨b, 0, none⟩), .string (bstr cd)] w fun e w' => e = .returned (.tuple #[]) ∧ ∃ R' cr', Hp w0 w' (L.set i (rdecR b R' cr' (feedP cd d))) K := by
  refine (rfeed_any b R cr d.buf d.rows cd w (H.held i hi) hok.1).mono ?_
  rintro e w' ⟨rfl, R', cr', hF, hag, hfp⟩
  exact ⟨rfl, R', cr', H.mut i hi _ _ rfl ⟨hag.os, hag.tape, hag.output, hag.size, fun k hk hn => hag.block k hk fun e => hn (.inl e)⟩ hF (rdecR_ok _ _ _ _) (fun k hk => rdec_lt hF hk) hfp (fun k hk hx => by have := H.fresh _ (List.mem_of_getElem? hi) rfl k hx; omega) rfl⟩
theorem newD (H : Hp w0 w L K) : Calls Tryd.prog 11 #[] w fun e w' => ∃ b, e = .returned (.pointer (some ⟨b, 0, none⟩)) ∧ Hp w0 w' (decR b none 0 none 0 ⟨[], []⟩ :: L) K := by
  refine (new_any w).mono ?_
  rintro e w' ⟨b, rfl, hF, hb, hn⟩
  exact ⟨b, rfl, H.gain hb _ hF (decR_ok _ _ _ _ _ _) (fun k hk => dec_lt hF hk) hn⟩
theorem rnewD (H : Hp w0 w L K) : Calls Tryd.prog 12 #[] w fun e w' => ∃ b, e = .returned (.pointer (some ⟨b, 0, none⟩)) ∧ Hp w0 w' (rdecR b none 0 ⟨[], []⟩ :: L) K := by
  refine (rnew_any w).mono ?_
  rintro e w' ⟨b, rfl, hF, hb, hn⟩
  exact ⟨b, rfl, H.gain hb _ hF (rdecR_ok _ _ _ _) (fun k hk => rdec_lt hF hk) hn⟩
theorem rowsD (H : Hp w0 w L K) (i : Nat) (b : Nat) (B : Option Addr) (c : Nat) (R : Option Addr) (cr : Nat) (d : Dec) (hi : L[i]? = some (decR b B c R cr d)) (hok : d.okk) :
    Calls Tryd.prog 19 #[.pointer (some ⟨b, 0, none⟩)] w fun e w' => ∃ A c', e = .returned (.slice A d.rows.length c') ∧ Hp w0 w' (rowsR w.heap.size 9 1 strC okT feF (.slice A d.rows.length c') d.rows :: L) K := by
  refine (drows_any b B c R cr d.buf d.rows w (H.held i hi) (by have := hok.2; omega)).mono ?_
  rintro e w' ⟨A, c', rfl, hb, hF⟩
  exact ⟨A, c', rfl, H.gain hb _ hF (rowsR_ok elOk_flat) (fun k hk => (rows_lt hF hk).1) (fun k hk => (rows_lt hF hk).2)⟩
theorem rrowsD (H : Hp w0 w L K) (i : Nat) (b : Nat) (R : Option Addr) (cr : Nat) (d : Dec) (hi : L[i]? = some (rdecR b R cr d)) :
    Calls Tryd.prog 20 #[.pointer (some ⟨b, 0, none⟩)] w fun e w' => e = .returned (.slice R d.rows.length cr) ∧ Below w.heap.size w w' := rdrows_any b R cr d.buf d.rows w (H.held i hi)
theorem sizeD (H : Hp w0 w L K) (i : Nat) (b : Nat) (B : Option Addr) (c : Nat) (R : Option Addr) (cr : Nat) (d : Dec) (hi : L[i]? = some (decR b B c R cr d)) :
    Calls Tryd.prog 21 #[.pointer (some ⟨b, 0, none⟩)] w fun e w' => e = .returned (.int .i64 ((d.buf.length : Nat) : Int)) ∧ Below w.heap.size w w' := size_any b B c R cr d.buf d.rows w (H.held i hi)
theorem rrow_of (H : Hp w0 w L K) (i : Nat) {b : Nat} {R : Option Addr} {cr : Nat} {d : Dec} (hi : L[i]? = some (rdecR b R cr d)) : IsRow 1 strC w R d.rows := (H.held i hi).2.1
end
theorem IsRow.ofCues {w : World} {base c : Nat} {e : TypeId} {A : Option Addr} {l : List Cue} (h : (rowsR base e 5 cuC okT feF (.slice A l.length c) l).F w) : IsRow 5 cuC w A l := Rd.of_own h.1
theorem IsRow.cue1 {w : World} {b t : Nat} {x : Cue} (h : Box w b t (cuL x).toArray) : IsRow 5 cuC w (some ⟨b, 0, none⟩) [x] := Rd.of_boxN h rfl
theorem IsRow.str1 {w : World} {b t : Nat} {x : Str} (h : Box w b t #[.string (bstr x)]) : IsRow 1 strC w (some ⟨b, 0, none⟩) [x] := Rd.of_boxN h rfl
theorem cueP_text (i : Nat) (q : Quad) : (cueP i q).text.length ≤ 1000 := by
  have : ∀ n : Nat, (texts6.getD n []).length ≤ 1000 := fun n => by
    match n with
    | 0 => decide
    | 1 => decide
    | 2 => decide
    | 3 => decide
    | 4 => decide
    | 5 => decide
    | n + 6 => simp [texts6]
  exact this _
theorem make_text {x : List Quad} : ∀ c ∈ makeP x, c.text.length ≤ 1000000 := fun c h => by
  obtain ⟨j, q, rfl⟩ := makeG_in _ _ c h
  have := cueP_text j q
  omega
theorem make_len8 (x : List Quad) : (makeP x).length ≤ 8 := by rw [makeP_len]; omega
def C1 : Cue := ⟨1, 10, 300, 0, [72, 105]⟩
def saneC (k : Nat) : Str := codeP [C1] 0 ((k : Nat) : Int)
theorem blk_C1 : blockP C1 = some [7, 128, 235, 177, 161, 17, 72, 105] := by decide +kernel
theorem c1_tx : ∀ x ∈ [C1], x.text.length ≤ 1000000 := fun x h => by rcases List.mem_singleton.1 h with rfl; decide
theorem sc_0 : codeP [C1] 0 0 = [64, 0, 0] := by decide +kernel
theorem sc_5 : codeP [C1] 0 5 = [0, 0, 0] := by decide +kernel
theorem sc_10 : codeP [C1] 0 10 = [128, 7, 128] := by decide +kernel
theorem sc_11 : codeP [C1] 0 11 = [193, 235, 177] := by decide +kernel
theorem sc_14 : codeP [C1] 0 14 = [0, 0, 0] := by decide +kernel
theorem sc_128 : codeP [C1] 0 128 = [128, 7, 128] := by decide +kernel
theorem sc_nil : codeP [] 0 128 = [64, 0, 0] := by decide +kernel
theorem sane_rows : (decRun saneC ⟨[], []⟩ 14).rows = [[72, 105]] := by decide +kernel
theorem sane_buf : (decRun saneC ⟨[], []⟩ 14).buf = [] := by decide +kernel
set_option maxRecDepth 100000 in
set_option maxHeartbeats 4000000 in
theorem sane_any (w : World) (hL : Laid w) : Calls Tryd.prog 8 #[] w fun e w' => e = .returned (.bool true) ∧ Below w.heap.size w w' := by
 have HP := (Hp.start w).keepF laidK hL laidK_ok fun k hk => ⟨hL.lt k hk, fun x hx => by cases hx⟩
 refine w_enter 116 [] Tryd.func8 rfl Tryd.ntmps8 (by kernel_rfl) (by kernel_rfl) fun a H => ?_
 refine wp_seq (w_region ?_)
 refine H.ge HP [(0, (.bool false))] [] fun a H => ?_
 refine then_normal (wp_seq (w_region ?_))
 refine H.go HP 1 [(9, (.agg #[(ii 1), (ii 10), (ii 300), (ii 0), (.string (bstr ([72, 105])))]))] [] fun a H => ?_
 refine H.alloc HP 10 (fun b => (.slice (some ⟨b, 0, none⟩) 1 1)) 23 [(ii 1), (ii 10), (ii 300), (ii 0), (.string (bstr ([72, 105])))] (by kernel_rfl) (fun w => by kernel_rfl) fun b_1 w_2 a H HP => ?_
 refine H.ge HP [(1, (.slice (some ⟨b_1, 0, none⟩) 1 1))] [] fun a H => ?_
 refine then_normal (wp_seq (w_region ?_))
 refine H.go HP 1 [(12, (.slice (some ⟨b_1, 0, none⟩) 1 1))] [] fun a H => ?_
 refine H.v 13 (pt b_1 0) fun a H => ?_
 refine H.go HP 1 [(14, (.agg #[(ii 1), (ii 10), (ii 300), (ii 0), (.string (bstr ([72, 105])))]))] [0] fun a H => ?_
 refine H.call 15 (by kernel_rfl) (Eq.trans (by kernel_rfl : _ = (callFunc 9 #[(.agg #[(ii 1), (ii 10), (ii 300), (ii 0), (.string (bstr ([72, 105])))])]).run Tryd.prog w_2) (Tryd.call9 _ _)) ((by have hh := block_any C1 w_2 (HP.fact 0 rfl) (by decide); rw [blk_C1] at hh; exact hh)) ?_
 rintro e w_3 ⟨rfl, hbk⟩
 refine ⟨_, rfl, ?_⟩
 intro a H
 have HP := HP.next hbk
 refine H.ge HP [(2, (.string (bstr ([7, 128, 235, 177, 161, 17, 72, 105])))), (3, (ii 0))] [] fun a H => ?_
 refine then_normal (wp_seq (w_region ?_))
 refine H.call 18 (by kernel_rfl) (Eq.trans (by kernel_rfl : _ = (callFunc 11 #[]).run Tryd.prog w_3) (Tryd.call11 _ _)) (newD HP) ?_
 rintro e w_4 ⟨bd, rfl, HPn⟩
 refine ⟨_, rfl, ?_⟩
 intro a H
 have HP := (HPn : Hp w _ [(decR bd none 0 none 0 (⟨[], []⟩)), bx b_1 23 [(ii 1), (ii 10), (ii 300), (ii 0), (.string (bstr ([72, 105])))] true] [laidK])
 refine H.ge HP [(4, (pt bd 0))] [] fun a H => ?_
 refine then_normal (wp_seq (wp_seq (w_region ?_)))
 refine H.go HP 13 [(30, (.bool false)), (31, (.string (bstr ([7, 128, 235, 177, 161, 17, 72, 105]))))] [] fun a H => ?_
 refine H.valE 32 (.int .u8 (((([7, 128, 235, 177, 161, 17, 72, 105] : Str).getD 0 0).toNat : Nat) : Int)) (.int .u8 7) (by kernel_rfl) (ex_sindex (k := .i64) (l := [7, 128, 235, 177, 161, 17, 72, 105]) (i := 0) (m := 0) (by kernel_rfl) (by kernel_rfl) (by kernel_rfl) (by omega) (by decide)) (rfl) fun a H => ?_
 refine H.go HP 4 [(35, (.bool false)), (36, (.string (bstr ([7, 128, 235, 177, 161, 17, 72, 105]))))] [] fun a H => ?_
 refine H.valE 37 (.int .u8 (((([7, 128, 235, 177, 161, 17, 72, 105] : Str).getD 1 0).toNat : Nat) : Int)) (.int .u8 128) (by kernel_rfl) (ex_sindex (k := .i64) (l := [7, 128, 235, 177, 161, 17, 72, 105]) (i := 1) (m := 1) (by kernel_rfl) (by kernel_rfl) (by kernel_rfl) (by omega) (by decide)) (rfl) fun a H => ?_
 refine H.ge HP [(39, (.bool false))] [] fun a H => ?_
 refine then_normal ?_
 refine w_iff H rfl ?_
 refine wp_skip (then_normal (wp_seq (wp_seq (w_region ?_))))
 refine H.ge HP [(5, (ii 0))] [] fun a H => ?_
 refine then_normal (wp_block ?_)
 refine w_loop (fun mm a wv => ∃ (i : Nat), ∃ (B : Option Addr), ∃ (c : Nat), ∃ (R : Option Addr), ∃ (cr : Nat), 14 - i = mm ∧ Sl 116 [(5, (ii i)), (39, (.bool false)), (37, (.int .u8 128)), (35, (.bool false)), (36, (.string (bstr ([7, 128, 235, 177, 161, 17, 72, 105])))), (32, (.int .u8 7)), (30, (.bool false)), (31, (.string (bstr ([7, 128, 235, 177, 161, 17, 72, 105])))), (4, (pt bd 0)), (18, (pt bd 0)), (2, (.string (bstr ([7, 128, 235, 177, 161, 17, 72, 105])))), (3, (ii 0)), (15, (.tuple #[(.string (bstr ([7, 128, 235, 177, 161, 17, 72, 105]))), (ii 0)])), (14, (.agg #[(ii 1), (ii 10), (ii 300), (ii 0), (.string (bstr ([72, 105])))])), (13, (pt b_1 0)), (12, (.slice (some ⟨b_1, 0, none⟩) 1 1)), (1, (.slice (some ⟨b_1, 0, none⟩) 1 1)), (10, (.slice (some ⟨b_1, 0, none⟩) 1 1)), (9, (.agg #[(ii 1), (ii 10), (ii 300), (ii 0), (.string (bstr ([72, 105])))])), (0, (.bool false))] a ∧ Hp w wv [(decR bd B c R cr (decRun saneC ⟨[], []⟩ i)), bx b_1 23 [(ii 1), (ii 10), (ii 300), (ii 0), (.string (bstr ([72, 105])))] true] [laidK] ∧ (i ≤ 14)) (14 - 0) ?_ ?_
 ·exact ⟨0, none, 0, none, 0, (by omega), H.keep (by kernel_rfl), HP, (Nat.zero_le _)⟩
 rintro mm a w_5 ⟨i, B, c, R, cr, hmeas, H, HP, hib⟩
 refine wp_seq (wp_seq (w_region ?_))
 refine H.go HP 1 [(40, (ii i))] [] fun a H => ?_
 refine H.v 41 (.bool (decide ((i : Int) ≤ 13))) fun a H => ?_
 refine wpList_nil (then_normal ?_)
 refine w_if H rfl (fun g41 => ?_) (fun g41 => ?_)
 ·have g41p := of_decide_eq_true g41
  refine wp_skip (then_normal (wp_seq (wp_block (w_region ?_))))
  refine H.go HP 3 [(44, (pt bd 0)), (45, (.slice (some ⟨b_1, 0, none⟩) 1 1)), (46, (ii i))] [] fun a H => ?_
  refine H.call 47 (by kernel_rfl) (Eq.trans (by kernel_rfl : _ = (callFunc 15 #[(.slice (some ⟨b_1, 0, none⟩) 1 1), (ii 0), (ii i)]).run Tryd.prog w_5) (Tryd.call15 _ _)) (code_all (some ⟨b_1, 0, none⟩) 1 ([C1]) 0 (i : Int) w_5 (HP.fact 0 rfl) (IsRow.cue1 (x := C1) (HP.at_ 1 rfl)) (by decide) c1_tx (by omega) (by omega) (by omega) (by omega)) ?_
  rintro e w_6 ⟨rfl, hbf⟩
  refine ⟨_, rfl, ?_⟩
  intro a H
  have HP := HP.next hbf
  refine H.call 48 (by kernel_rfl) (Eq.trans (by kernel_rfl : _ = (callFunc 16 #[(pt bd 0), (.string (bstr (codeP ([C1]) 0 (i : Int))))]).run Tryd.prog w_6) (Tryd.call16 _ _)) (feedD HP 0 bd B c R cr (decRun saneC ⟨[], []⟩ i) (codeP ([C1]) 0 (i : Int)) rfl 0 rfl (decRun_okk dec0_okk _)) ?_
  rintro e w_11 ⟨rfl, B_7, c_8, R_9, cr_10, HPn⟩
  refine ⟨_, rfl, ?_⟩
  intro a H
  have HP := (HPn : Hp w _ [(decR bd B_7 c_8 R_9 cr_10 (decRun saneC ⟨[], []⟩ (i + 1))), bx b_1 23 [(ii 1), (ii 10), (ii 300), (ii 0), (.string (bstr ([72, 105])))] true] [laidK])
  refine wpList_nil (inb_normal (then_normal (w_region ?_)))
  refine H.go HP 1 [(42, (ii i))] [] fun a H => ?_
  refine H.wi 43 ((i : Int) + 1) fun a H => ?_
  refine H.ge HP [(5, (ii ((i : Int) + 1)))] [] fun a H => ?_
  refine then_normal ?_
  have H := H.as 5 (ii ((i + 1 : Nat) : Int)) rfl rfl
  refine ⟨_, ?_, i + 1, B_7, c_8, R_9, cr_10, rfl, H.keep (by kernel_rfl), HP, (by omega)⟩
  omega
 ·have g41p := of_decide_eq_false g41
  refine wp_exit (then_exit (then_exit ?_))
  refine w_exit_here ?_
  refine then_normal (wp_seq ?_)
  have hi14 : i = 14 := by omega
  subst hi14
  refine w_region ?_
  refine H.ge HP [(6, (.pointer none))] [] fun a H => ?_
  refine then_normal (wp_seq (w_region ?_))
  refine H.go HP 1 [(49, (.pointer none))] [] fun a H => ?_
  refine H.call 50 (by kernel_rfl) (Eq.trans (by kernel_rfl : _ = (callFunc 16 #[(.pointer none), (.string (bstr ([97, 98, 99])))]).run Tryd.prog w_5) (Tryd.call16 _ _)) (feedN_any ([97, 98, 99]) w_5) ?_
  rintro e w_12 ⟨rfl, hbf⟩
  refine ⟨_, rfl, ?_⟩
  intro a H
  have HP := HP.next hbf
  refine wpList_nil (then_normal (wp_seq (w_region ?_)))
  refine H.go HP 1 [(51, (.pointer none))] [] fun a H => ?_
  refine H.call 52 (by kernel_rfl) (Eq.trans (by kernel_rfl : _ = (callFunc 19 #[(.pointer none)]).run Tryd.prog w_12) (Tryd.call19 _ _)) (rowsN_any w_12) ?_
  rintro e w_13 ⟨rfl, hbf⟩
  refine ⟨_, rfl, ?_⟩
  intro a H
  have HP := HP.next hbf
  refine H.go HP 1 [(53, (ii 0))] [] fun a H => ?_
  refine H.valE 54 (.bool ((0 : Int) == 0)) (.bool true) (by kernel_rfl) (by kernel_rfl) (rfl) fun a H => ?_
  refine H.go HP 2 [(55, (.bool true)), (56, (.pointer none))] [] fun a H => ?_
  refine H.call 57 (by kernel_rfl) (Eq.trans (by kernel_rfl : _ = (callFunc 21 #[(.pointer none)]).run Tryd.prog w_13) (Tryd.call21 _ _)) (sizeN_any w_13) ?_
  rintro e w_14 ⟨rfl, hbf⟩
  refine ⟨_, rfl, ?_⟩
  intro a H
  have HP := HP.next hbf
  refine H.valE 58 (.bool ((0 : Int) == 0)) (.bool true) (by kernel_rfl) (by kernel_rfl) (rfl) fun a H => ?_
  refine H.ge HP [(7, (.bool true))] [] fun a H => ?_
  refine then_normal (wp_seq ?_)
  refine An.start (fun v => Hp w v [(decR bd B c R cr (decRun saneC ⟨[], []⟩ 14)), bx b_1 23 [(ii 1), (ii 10), (ii 300), (ii 0), (.string (bstr ([72, 105])))] true] [laidK]) 42 42 HP wide_follows rfl fun w_15 HP => ?_
  refine An.go H (.inr (HP)) 41 [0] [(60, (.slice (some ⟨b_1, 0, none⟩) 1 1))] [] fun a H => ?_
  refine An.one 1 (by kernel_rfl) ?_
  refine Op.call H 61 rfl (by kernel_rfl) (Eq.trans (by kernel_rfl : _ = (callFunc 15 #[(.slice (some ⟨b_1, 0, none⟩) 1 1), (ii 0), (ii 0)]).run Tryd.prog w_15) (Tryd.call15 _ _)) ((by have hh := code_all (some ⟨b_1, 0, none⟩) 1 ([C1]) 0 0 w_15 (HP.fact 0 rfl) (IsRow.cue1 (x := C1) (HP.at_ 1 rfl)) (by decide) c1_tx (by omega) (by omega) (by omega) (by omega); rw [sc_0] at hh; exact hh)) ?_
  rintro e w_16 ⟨rfl, hbf⟩
  refine ⟨_, rfl, ?_⟩
  intro a H
  have HP := HP.next hbf
  refine ⟨.inr (HP), ?_⟩
  refine An.pureE H (.inr (HP)) 2 62 (.bool ((bstr [64, 0, 0]).toList == (bstr [64, 0, 0]).toList)) (.bool true) rfl (by kernel_rfl) (by kernel_rfl) (fun _ _ _ h => h) (fun _ => by kernel_rfl) ((congrArg Value.bool ((bstr_eq _ _).trans (by decide)))) fun a H => ?_
  refine An.go H (.inr (HP)) 37 [3, 4] [(63, (.bool true)), (64, (.slice (some ⟨b_1, 0, none⟩) 1 1))] [] fun a H => ?_
  refine An.one 5 (by kernel_rfl) ?_
  refine Op.call H 65 rfl (by kernel_rfl) (Eq.trans (by kernel_rfl : _ = (callFunc 15 #[(.slice (some ⟨b_1, 0, none⟩) 1 1), (ii 0), (ii 5)]).run Tryd.prog w_16) (Tryd.call15 _ _)) ((by have hh := code_all (some ⟨b_1, 0, none⟩) 1 ([C1]) 0 5 w_16 (HP.fact 0 rfl) (IsRow.cue1 (x := C1) (HP.at_ 1 rfl)) (by decide) c1_tx (by omega) (by omega) (by omega) (by omega); rw [sc_5] at hh; exact hh)) ?_
  rintro e w_17 ⟨rfl, hbf⟩
  refine ⟨_, rfl, ?_⟩
  intro a H
  have HP := HP.next hbf
  refine ⟨.inr (HP), ?_⟩
  refine An.pureE H (.inr (HP)) 6 66 (.bool ((bstr [0, 0, 0]).toList == (bstr [0, 0, 0]).toList)) (.bool true) rfl (by kernel_rfl) (by kernel_rfl) (fun _ _ _ h => h) (fun _ => by kernel_rfl) ((congrArg Value.bool ((bstr_eq _ _).trans (by decide)))) fun a H => ?_
  refine An.go H (.inr (HP)) 31 [7, 8, 9, 11] [(68, (.bool true)), (69, (.slice (some ⟨b_1, 0, none⟩) 1 1)), (71, (.string (bstr ([7, 128, 235, 177, 161, 17, 72, 105]))))] [] fun a H => ?_
  refine An.pureE H (.inr (HP)) 12 72 (.string (bstr ([7, 128, 235, 177, 161, 17, 72, 105].take 2))) (.string (bstr ([7, 128]))) rfl (by kernel_rfl) (by kernel_rfl) (fun _ _ _ h => h) (fun _ => ex_ssliceH (kk := .i64) (l := [7, 128, 235, 177, 161, 17, 72, 105]) (j := 2) (b := 2) (by kernel_rfl) (by kernel_rfl) (by kernel_rfl) (by omega) (by decide)) (rfl) fun a H => ?_
  refine An.pureE H (.inr (HP)) 13 73 (.string (bstr ([128] ++ [7, 128]))) (.string (bstr ([128, 7, 128]))) rfl (by kernel_rfl) (by kernel_rfl) (fun _ _ _ h => h) (fun _ => ex_sadd (a := [128]) (b := [7, 128]) (by kernel_rfl) (by kernel_rfl) (by decide)) (rfl) fun a H => ?_
  refine An.one 10 (by kernel_rfl) ?_
  refine Op.call H 70 rfl (by kernel_rfl) (Eq.trans (by kernel_rfl : _ = (callFunc 15 #[(.slice (some ⟨b_1, 0, none⟩) 1 1), (ii 0), (ii 10)]).run Tryd.prog w_17) (Tryd.call15 _ _)) ((by have hh := code_all (some ⟨b_1, 0, none⟩) 1 ([C1]) 0 10 w_17 (HP.fact 0 rfl) (IsRow.cue1 (x := C1) (HP.at_ 1 rfl)) (by decide) c1_tx (by omega) (by omega) (by omega) (by omega); rw [sc_10] at hh; exact hh)) ?_
  rintro e w_18 ⟨rfl, hbf⟩
  refine ⟨_, rfl, ?_⟩
  intro a H
  have HP := HP.next hbf
  refine ⟨.inr (HP), ?_⟩
  refine An.pureE H (.inr (HP)) 14 74 (.bool ((bstr [128, 7, 128]).toList == (bstr [128, 7, 128]).toList)) (.bool true) rfl (by kernel_rfl) (by kernel_rfl) (fun _ _ _ h => h) (fun _ => by kernel_rfl) ((congrArg Value.bool ((bstr_eq _ _).trans (by decide)))) fun a H => ?_
  refine An.go H (.inr (HP)) 23 [15, 16, 17, 19] [(76, (.bool true)), (77, (.slice (some ⟨b_1, 0, none⟩) 1 1)), (79, (.string (bstr ([7, 128, 235, 177, 161, 17, 72, 105]))))] [] fun a H => ?_
  refine An.pureE H (.inr (HP)) 20 80 (.string (bstr (([7, 128, 235, 177, 161, 17, 72, 105].drop 2).take (4 - 2)))) (.string (bstr ([235, 177]))) rfl (by kernel_rfl) (by kernel_rfl) (fun _ _ _ h => h) (fun _ => ex_sslice (k := .i64) (kk := .i64) (l := [7, 128, 235, 177, 161, 17, 72, 105]) (i := 2) (j := 4) (a := 2) (b := 4) (by kernel_rfl) (by kernel_rfl) (by kernel_rfl) (by kernel_rfl) (by omega) (by omega) (by decide) (by decide)) (rfl) fun a H => ?_
  refine An.pureE H (.inr (HP)) 21 81 (.string (bstr ([193] ++ [235, 177]))) (.string (bstr ([193, 235, 177]))) rfl (by kernel_rfl) (by kernel_rfl) (fun _ _ _ h => h) (fun _ => ex_sadd (a := [193]) (b := [235, 177]) (by kernel_rfl) (by kernel_rfl) (by decide)) (rfl) fun a H => ?_
  refine An.one 18 (by kernel_rfl) ?_
  refine Op.call H 78 rfl (by kernel_rfl) (Eq.trans (by kernel_rfl : _ = (callFunc 15 #[(.slice (some ⟨b_1, 0, none⟩) 1 1), (ii 0), (ii 11)]).run Tryd.prog w_18) (Tryd.call15 _ _)) ((by have hh := code_all (some ⟨b_1, 0, none⟩) 1 ([C1]) 0 11 w_18 (HP.fact 0 rfl) (IsRow.cue1 (x := C1) (HP.at_ 1 rfl)) (by decide) c1_tx (by omega) (by omega) (by omega) (by omega); rw [sc_11] at hh; exact hh)) ?_
  rintro e w_19 ⟨rfl, hbf⟩
  refine ⟨_, rfl, ?_⟩
  intro a H
  have HP := HP.next hbf
  refine ⟨.inr (HP), ?_⟩
  refine An.pureE H (.inr (HP)) 22 82 (.bool ((bstr [193, 235, 177]).toList == (bstr [193, 235, 177]).toList)) (.bool true) rfl (by kernel_rfl) (by kernel_rfl) (fun _ _ _ h => h) (fun _ => by kernel_rfl) ((congrArg Value.bool ((bstr_eq _ _).trans (by decide)))) fun a H => ?_
  refine An.go H (.inr (HP)) 16 [23, 24, 25] [(84, (.bool true)), (85, (.slice (some ⟨b_1, 0, none⟩) 1 1))] [] fun a H => ?_
  refine An.one 26 (by kernel_rfl) ?_
  refine Op.call H 86 rfl (by kernel_rfl) (Eq.trans (by kernel_rfl : _ = (callFunc 15 #[(.slice (some ⟨b_1, 0, none⟩) 1 1), (ii 0), (ii 14)]).run Tryd.prog w_19) (Tryd.call15 _ _)) ((by have hh := code_all (some ⟨b_1, 0, none⟩) 1 ([C1]) 0 14 w_19 (HP.fact 0 rfl) (IsRow.cue1 (x := C1) (HP.at_ 1 rfl)) (by decide) c1_tx (by omega) (by omega) (by omega) (by omega); rw [sc_14] at hh; exact hh)) ?_
  rintro e w_20 ⟨rfl, hbf⟩
  refine ⟨_, rfl, ?_⟩
  intro a H
  have HP := HP.next hbf
  refine ⟨.inr (HP), ?_⟩
  refine An.pureE H (.inr (HP)) 27 87 (.bool ((bstr [0, 0, 0]).toList == (bstr [0, 0, 0]).toList)) (.bool true) rfl (by kernel_rfl) (by kernel_rfl) (fun _ _ _ h => h) (fun _ => by kernel_rfl) ((congrArg Value.bool ((bstr_eq _ _).trans (by decide)))) fun a H => ?_
  refine An.go H (.inr (HP)) 10 [28, 29, 30, 32] [(89, (.bool true)), (90, (.slice (some ⟨b_1, 0, none⟩) 1 1)), (92, (.string (bstr ([7, 128, 235, 177, 161, 17, 72, 105]))))] [] fun a H => ?_
  refine An.pureE H (.inr (HP)) 33 93 (.string (bstr ([7, 128, 235, 177, 161, 17, 72, 105].take 2))) (.string (bstr ([7, 128]))) rfl (by kernel_rfl) (by kernel_rfl) (fun _ _ _ h => h) (fun _ => ex_ssliceH (kk := .i64) (l := [7, 128, 235, 177, 161, 17, 72, 105]) (j := 2) (b := 2) (by kernel_rfl) (by kernel_rfl) (by kernel_rfl) (by omega) (by decide)) (rfl) fun a H => ?_
  refine An.pureE H (.inr (HP)) 34 94 (.string (bstr ([128] ++ [7, 128]))) (.string (bstr ([128, 7, 128]))) rfl (by kernel_rfl) (by kernel_rfl) (fun _ _ _ h => h) (fun _ => ex_sadd (a := [128]) (b := [7, 128]) (by kernel_rfl) (by kernel_rfl) (by decide)) (rfl) fun a H => ?_
  refine An.one 31 (by kernel_rfl) ?_
  refine Op.call H 91 rfl (by kernel_rfl) (Eq.trans (by kernel_rfl : _ = (callFunc 15 #[(.slice (some ⟨b_1, 0, none⟩) 1 1), (ii 0), (ii 128)]).run Tryd.prog w_20) (Tryd.call15 _ _)) ((by have hh := code_all (some ⟨b_1, 0, none⟩) 1 ([C1]) 0 128 w_20 (HP.fact 0 rfl) (IsRow.cue1 (x := C1) (HP.at_ 1 rfl)) (by decide) c1_tx (by omega) (by omega) (by omega) (by omega); rw [sc_128] at hh; exact hh)) ?_
  rintro e w_21 ⟨rfl, hbf⟩
  refine ⟨_, rfl, ?_⟩
  intro a H
  have HP := HP.next hbf
  refine ⟨.inr (HP), ?_⟩
  refine An.pureE H (.inr (HP)) 35 95 (.bool ((bstr [128, 7, 128]).toList == (bstr [128, 7, 128]).toList)) (.bool true) rfl (by kernel_rfl) (by kernel_rfl) (fun _ _ _ h => h) (fun _ => by kernel_rfl) ((congrArg Value.bool ((bstr_eq _ _).trans (by decide)))) fun a H => ?_
  refine An.go H (.inr (HP)) 4 [36, 37] [(97, (.bool true))] [] fun a H => ?_
  refine An.one 38 (by kernel_rfl) ?_
  refine Op.call H 98 rfl (by kernel_rfl) (Eq.trans (by kernel_rfl : _ = (callFunc 15 #[(.slice none 0 0), (ii 0), (ii 128)]).run Tryd.prog w_21) (Tryd.call15 _ _)) ((by have hh := code_all none 0 ([]) 0 128 w_21 (HP.fact 0 rfl) (IsRow.nil _ _) (by decide) (fun _ h => by cases h) (by omega) (by omega) (by omega) (by omega); rw [sc_nil] at hh; exact hh)) ?_
  rintro e w_22 ⟨rfl, hbf⟩
  refine ⟨_, rfl, ?_⟩
  intro a H
  have HP := HP.next hbf
  refine ⟨.inr (HP), ?_⟩
  refine An.pureE H (.inr (HP)) 39 99 (.bool ((bstr [64, 0, 0]).toList == (bstr [64, 0, 0]).toList)) (.bool true) rfl (by kernel_rfl) (by kernel_rfl) (fun _ _ _ h => h) (fun _ => by kernel_rfl) ((congrArg Value.bool ((bstr_eq _ _).trans (by decide)))) fun a H => ?_
  refine An.go H (.inr (HP)) 0 [40, 41] [(8, (.bool true))] [] fun a H => ?_
  refine An.done (by kernel_rfl) ?_
  refine then_normal (wp_seq (w_region ?_))
  refine H.go HP 6 [(105, (.bool true)), (106, (pt bd 0))] [] fun a H => ?_
  refine H.call 107 (by kernel_rfl) (Eq.trans (by kernel_rfl : _ = (callFunc 19 #[(pt bd 0)]).run Tryd.prog w_22) (Tryd.call19 _ _)) (rowsD HP 0 bd B c R cr (decRun saneC ⟨[], []⟩ 14) rfl (decRun_okk dec0_okk _)) ?_
  rintro e w_25 ⟨A_23, c_24, rfl, HPn⟩
  refine ⟨_, rfl, ?_⟩
  intro a H
  have HP := (HPn : Hp w _ [(rowsR w_22.heap.size 9 1 strC okT feF (.slice A_23 (decRun saneC ⟨[], []⟩ 14).rows.length c_24) (decRun saneC ⟨[], []⟩ 14).rows), (decR bd B c R cr (decRun saneC ⟨[], []⟩ 14)), bx b_1 23 [(ii 1), (ii 10), (ii 300), (ii 0), (.string (bstr ([72, 105])))] true] [laidK])
  refine H.alloc HP 108 (fun b => (.slice (some ⟨b, 0, none⟩) 1 1)) 9 [(.string (bstr ([72, 105])))] (by kernel_rfl) (fun w => by kernel_rfl) fun b_26 w_27 a H HP => ?_
  refine H.call 109 (by kernel_rfl) (Eq.trans (by kernel_rfl : _ = (callFunc 18 #[(.slice A_23 ((decRun saneC ⟨[], []⟩ 14).rows.length) c_24), (.slice (some ⟨b_26, 0, none⟩) 1 1)]).run Tryd.prog w_27) (Tryd.call18 _ _)) ((by have hh := same_any A_23 (some ⟨b_26, 0, none⟩) c_24 1 ((decRun saneC ⟨[], []⟩ 14).rows) ([[72, 105]]) w_27 (IsRow.ofRows (HP.held 1 rfl)) (IsRow.str1 (HP.at_ 0 rfl)) (Nat.le_trans ((decRun_okk dec0_okk _)).2 (by omega)) (by decide); rw [decide_eq_true sane_rows] at hh; exact hh)) ?_
  rintro e w_28 ⟨rfl, hbf⟩
  refine ⟨_, rfl, ?_⟩
  intro a H
  have HP := HP.next hbf
  refine H.go HP 3 [(111, (.bool true)), (112, (pt bd 0))] [] fun a H => ?_
  refine H.call 113 (by kernel_rfl) (Eq.trans (by kernel_rfl : _ = (callFunc 21 #[(pt bd 0)]).run Tryd.prog w_28) (Tryd.call21 _ _)) (sizeD HP 2 bd B c R cr (decRun saneC ⟨[], []⟩ 14) rfl) ?_
  rintro e w_29 ⟨rfl, hbf⟩
  refine ⟨_, rfl, ?_⟩
  intro a H
  have HP := HP.next hbf
  refine H.valE 114 (.bool ((((decRun saneC ⟨[], []⟩ 14).buf.length : Nat) : Int) == 0)) (.bool true) (by kernel_rfl) (by kernel_rfl) ((congrArg Value.bool (by rw [sane_buf]; rfl))) fun a H => ?_
  refine H.ge HP [(0, (.bool true))] [] fun a H => ?_
  refine then_normal (wp_ret ?_)
  refine H.ret1 (fn := Tryd.f8) Tryd.results8 (RV.tmp_ (v := (.bool true)) (by kernel_rfl)) ?_
  exact ⟨rfl, HP.bl⟩
abbrev i1C (n : Int) : Array Value := #[.int .i64 n]
theorem i1C_size (n : Int) : (i1C n).size = 1 := rfl
structure RowE where
 A : Option Addr
 l : List Str
 c : Nat
abbrev reC (e : RowE) : Array Value := #[.slice e.A e.l.length e.c]
theorem reC_size (e : RowE) : (reC e).size = 1 := rfl
def okE (e : RowE) (w : World) : Prop := IsRow 1 strC w e.A e.l ∧ e.l.length ≤ 1000000
def feE (e : RowE) (k : Nat) : Prop := rowFp e.l.length e.A k
theorem elOk_E : ElOk okE feE := fun e w1 w2 h hk hs => ⟨h.1.keep hk hs, h.2⟩
theorem rowE_is {w : World} {base c : Nat} {A : Option Addr} {T : List RowE} (h : (rowsR base 29 1 reC okE feE (.slice A T.length c) T).F w) : IsRow 1 reC w A T := Rd.of_own h.1
def pk {α : Type} (n : Nat) (a b : α) : α := match n with
 | 0 => a
 | _ => b
theorem pk_row {w : World} {A0 A1 : Option Addr} {l0 l1 : List Cue} (n : Nat) (h0 : IsRow 5 cuC w A0 l0) (h1 : IsRow 5 cuC w A1 l1) : IsRow 5 cuC w (pk n A0 A1) (pk n l0 l1) := by
 cases n
 ·exact h0
 ·exact h1
theorem pk_len (x y : List Quad) (n : Nat) : (pk n (makeP x) (makeP y)).length ≤ 8 := by
 cases n
 ·exact make_len8 x
 ·exact make_len8 y
theorem pk_text {x y : List Quad} {n : Nat} {c : Cue} (h : c ∈ pk n (makeP x) (makeP y)) : c.text.length ≤ 1000000 := by
 cases n
 ·exact make_text c h
 ·exact make_text c h
theorem sel_cell {w : World} {b t : Nat} {A0 A1 : Option Addr} {l0 l1 : List Cue} {c0 c1 : Nat} (n : Nat) (h : Box w b t #[.slice A0 l0.length c0, .slice A1 l1.length c1]) (hn : n < 2) : w.cell? ⟨b, 0 + n * 1, none⟩ = some (.slice (pk n A0 A1) (pk n l0 l1).length (pk n c0 c1)) := by
 rcases (by omega : n = 0 ∨ n = 1) with rfl | rfl
 ·exact h.cell (i := 0) rfl
 ·exact h.cell (i := 1) rfl
theorem crowsE_any (t : Str) (w : World) (hl : t.length ≤ 1000000) : Calls Tryd.prog 24 #[.string (bstr t)] w fun e w' => ∃ A c l b, e = .returned (.tuple #[.slice A l.length c, .bool b]) ∧ Below w.heap.size w w' ∧ okE ⟨A, l, c⟩ w' ∧ ∀ k, feE ⟨A, l, c⟩ k → w.heap.size ≤ k ∧ k < w'.heap.size :=
 (crows_any t w hl).mono fun e w' h => by
  rcases h with ⟨rows, A, c, h1, rfl, hb, hF⟩ | ⟨h1, rfl, hb⟩
  ·exact ⟨A, c, rows, true, rfl, hb, ⟨IsRow.ofRows hF, Nat.le_trans (layP_some h1).2.1 (by decide)⟩, fun k hk => have hq := rows_lt hF (row_fp hF hk); ⟨hq.2, hq.1⟩⟩
  ·exact ⟨none, 0, [], false, rfl, hb, ⟨IsRow.nil _ _, Nat.zero_le _⟩, fun k hk => absurd hk.1 (Nat.lt_irrefl 0)⟩
set_option maxRecDepth 100000 in
set_option maxHeartbeats 4000000 in
theorem lost_law (AX AY AM : Option Addr) (cx cy cm : Nat) (x y : List Quad) (mx : List Int) (w : World) (hL : Laid w) (hx : IsRow 4 quC w AX x) (hy : IsRow 4 quC w AY y) (hm : IsRow 1 i1C w AM mx) (hinx : ∀ q ∈ x, qIn q) (hiny : ∀ q ∈ y, qIn q) (hml : mx.length ≤ 1000000000000000) (hinm : ∀ n ∈ mx, in64 n) :
  Calls Tryd.prog 6 #[.slice AX x.length cx, .slice AY y.length cy, .slice AM mx.length cm] w fun e w' => e = .returned (.bool true) ∧ Below w.heap.size w w' := by
 have HP := ((((Hp.start w).keepF (rowF 1 i1C AM mx) hm (rowF_ok _ _ _ _) fun k hk => ⟨hm.lt k hk, fun x hx => by cases hx⟩).keepF (rowF 4 quC AY y) hy (rowF_ok _ _ _ _) fun k hk => ⟨hy.lt k hk, fun x hx => by cases hx⟩).keepF (rowF 4 quC AX x) hx (rowF_ok _ _ _ _) fun k hk => ⟨hx.lt k hk, fun x hx => by cases hx⟩).keepF laidK hL laidK_ok fun k hk => ⟨hL.lt k hk, fun x hx => by cases hx⟩
 refine w_enter 123 [(0, (.slice AX x.length cx)), (1, (.slice AY y.length cy)), (2, (.slice AM mx.length cm))] Tryd.func6 rfl Tryd.ntmps6 (by kernel_rfl) (by kernel_rfl) fun a H => ?_
 refine wp_seq (w_region ?_)
 refine H.ge HP [(6, (.bool false))] [] fun a H => ?_
 refine then_normal (wp_seq (w_region ?_))
 refine H.call 21 (by kernel_rfl) (Eq.trans (by kernel_rfl : _ = (callFunc 8 #[]).run Tryd.prog w) (Tryd.call8 _ _)) (sane_any w (HP.fact 0 rfl)) ?_
 rintro e w_1 ⟨rfl, hbs⟩
 refine ⟨_, rfl, ?_⟩
 intro a H
 have HP := HP.next hbs
 refine H.ge HP [(7, (.bool true))] [] fun a H => ?_
 refine then_normal (wp_seq (w_region ?_))
 refine H.go HP 1 [(22, (.slice AX x.length cx))] [] fun a H => ?_
 refine H.call 23 (by kernel_rfl) (Eq.trans (by kernel_rfl : _ = (callFunc 13 #[(.slice AX x.length cx)]).run Tryd.prog w_1) (Tryd.call13 _ _)) (make_any AX cx x w_1 (HP.fact 1 rfl) hinx) ?_
 rintro e w_2 ⟨Mx, mcx, rfl, hbm, hMx⟩
 refine ⟨_, rfl, ?_⟩
 intro a H
 have HP := HP.gain hbm (rowsR w_1.heap.size 23 5 cuC okT feF (.slice Mx (makeP x).length mcx) (makeP x)) hMx (rowsR_ok elOk_flat) (fun k hk => (rows_lt hMx hk).1) (fun k hk => (rows_lt hMx hk).2)
 refine H.go HP 1 [(24, (.slice AY y.length cy))] [] fun a H => ?_
 refine H.call 25 (by kernel_rfl) (Eq.trans (by kernel_rfl : _ = (callFunc 13 #[(.slice AY y.length cy)]).run Tryd.prog w_2) (Tryd.call13 _ _)) (make_any AY cy y w_2 (HP.fact 2 rfl) hiny) ?_
 rintro e w_3 ⟨My, mcy, rfl, hbm, hMy⟩
 refine ⟨_, rfl, ?_⟩
 intro a H
 have HP := HP.gain hbm (rowsR w_2.heap.size 23 5 cuC okT feF (.slice My (makeP y).length mcy) (makeP y)) hMy (rowsR_ok elOk_flat) (fun k hk => (rows_lt hMy hk).1) (fun k hk => (rows_lt hMy hk).2)
 refine H.alloc HP 26 (fun b => (.slice (some ⟨b, 0, none⟩) 2 2)) 36 [(.slice Mx ((makeP x).length) mcx), (.slice My ((makeP y).length) mcy)] (by kernel_rfl) (fun w => by kernel_rfl) fun b_4 w_5 a H HP => ?_
 refine H.ge HP [(8, (.slice (some ⟨b_4, 0, none⟩) 2 2))] [] fun a H => ?_
 refine then_normal (wp_seq (w_region ?_))
 refine H.call 27 (by kernel_rfl) (Eq.trans (by kernel_rfl : _ = (callFunc 11 #[]).run Tryd.prog w_5) (Tryd.call11 _ _)) (newD HP) ?_
 rintro e w_6 ⟨bd, rfl, HPn⟩
 refine ⟨_, rfl, ?_⟩
 intro a H
 have HP := (HPn : Hp w _ [(decR bd none 0 none 0 (⟨[], []⟩)), (bx b_4 36 [(.slice Mx ((makeP x).length) mcx), (.slice My ((makeP y).length) mcy)] true), (rowsR w_2.heap.size 23 5 cuC okT feF (.slice My (makeP y).length mcy) (makeP y)), (rowsR w_1.heap.size 23 5 cuC okT feF (.slice Mx (makeP x).length mcx) (makeP x))] [laidK, rowF 4 quC AX x, rowF 4 quC AY y, rowF 1 i1C AM mx])
 refine H.ge HP [(9, (pt bd 0))] [] fun a H => ?_
 refine then_normal (wp_seq (w_region ?_))
 refine H.call 28 (by kernel_rfl) (Eq.trans (by kernel_rfl : _ = (callFunc 12 #[]).run Tryd.prog w_6) (Tryd.call12 _ _)) (rnewD HP) ?_
 rintro e w_7 ⟨br, rfl, HPn⟩
 refine ⟨_, rfl, ?_⟩
 intro a H
 have HP := (HPn : Hp w _ [(rdecR br none 0 (⟨[], []⟩)), (decR bd none 0 none 0 (⟨[], []⟩)), (bx b_4 36 [(.slice Mx ((makeP x).length) mcx), (.slice My ((makeP y).length) mcy)] true), (rowsR w_2.heap.size 23 5 cuC okT feF (.slice My (makeP y).length mcy) (makeP y)), (rowsR w_1.heap.size 23 5 cuC okT feF (.slice Mx (makeP x).length mcx) (makeP x))] [laidK, rowF 4 quC AX x, rowF 4 quC AY y, rowF 1 i1C AM mx])
 refine H.ge HP [(10, (pt br 0))] [] fun a H => ?_
 refine then_normal (wp_seq (w_region ?_))
 refine H.ge HP [(11, (.slice none 0 0))] [] fun a H => ?_
 refine then_normal (wp_seq (wp_seq (w_region ?_)))
 refine H.ge HP [(12, (ii 0))] [] fun a H => ?_
 refine then_normal (wp_block ?_)
 have HP := HP.nilRow w.heap.size 29 1 reC okE feE elOk_E
 refine w_loop (fun mm a wv => ∃ (i : Nat), ∃ (TT : List RowE), ∃ (TA : Option Addr), ∃ (tc : Nat), 2 - i = mm ∧ Sl 123 [(12, (ii i)), (11, (.slice TA TT.length tc)), (2, (.slice AM mx.length cm)), (7, (.bool true)), (8, (.slice (some ⟨b_4, 0, none⟩) 2 2)), (9, (pt bd 0)), (10, (pt br 0))] a ∧ Hp w wv [(rowsR w.heap.size 29 1 reC okE feE (.slice TA TT.length tc) TT), (rdecR br none 0 (⟨[], []⟩)), (decR bd none 0 none 0 (⟨[], []⟩)), (bx b_4 36 [(.slice Mx ((makeP x).length) mcx), (.slice My ((makeP y).length) mcy)] true), (rowsR w_2.heap.size 23 5 cuC okT feF (.slice My (makeP y).length mcy) (makeP y)), (rowsR w_1.heap.size 23 5 cuC okT feF (.slice Mx (makeP x).length mcx) (makeP x))] [laidK, rowF 4 quC AX x, rowF 4 quC AY y, rowF 1 i1C AM mx] ∧ (i ≤ 2) ∧ (TT.length ≤ 8 * i)) (2 - 0) ?_ ?_
 ·exact ⟨0, [], none, 0, (by omega), H.keep (by kernel_rfl), HP, (by omega), (Nat.le_refl _)⟩
 rintro mm a w_8 ⟨i, TT, TA, tc, hmeas, H, HP, hi, hT⟩
 refine wp_seq (wp_seq (w_region ?_))
 refine H.ge HP [(30, (.bool (decide ((i : Int) < 2))))] [] fun a H => ?_
 refine then_normal ?_
 refine w_if H rfl (fun g30 => ?_) (fun g30 => ?_)
 ·have g30p := of_decide_eq_true g30
  refine wp_skip (then_normal (wp_seq (wp_block (wp_seq (w_region ?_)))))
  refine H.ge HP [(13, (ii 0))] [] fun a H => ?_
  refine then_normal (wp_block ?_)
  refine w_loop (fun mm a wv => ∃ (j : Nat), ∃ (TU : List RowE), ∃ (TB : Option Addr), ∃ (td : Nat), (pk i (makeP x) (makeP y)).length - j = mm ∧ Sl 123 [(13, (ii j)), (11, (.slice TB TU.length td)), (12, (ii i)), (2, (.slice AM mx.length cm)), (7, (.bool true)), (8, (.slice (some ⟨b_4, 0, none⟩) 2 2)), (9, (pt bd 0)), (10, (pt br 0))] a ∧ Hp w wv [(rowsR w.heap.size 29 1 reC okE feE (.slice TB TU.length td) TU), (rdecR br none 0 (⟨[], []⟩)), (decR bd none 0 none 0 (⟨[], []⟩)), (bx b_4 36 [(.slice Mx ((makeP x).length) mcx), (.slice My ((makeP y).length) mcy)] true), (rowsR w_2.heap.size 23 5 cuC okT feF (.slice My (makeP y).length mcy) (makeP y)), (rowsR w_1.heap.size 23 5 cuC okT feF (.slice Mx (makeP x).length mcx) (makeP x))] [laidK, rowF 4 quC AX x, rowF 4 quC AY y, rowF 1 i1C AM mx] ∧ (j ≤ (pk i (makeP x) (makeP y)).length) ∧ (TU.length ≤ 8 * i + j)) ((pk i (makeP x) (makeP y)).length - 0) ?_ ?_
  ·exact ⟨0, TT, TA, tc, (by omega), H.keep (by kernel_rfl), HP, (Nat.zero_le _), (by omega)⟩
  rintro mm a w_9 ⟨j, TU, TB, td, hmeas, H, HP, hj, hU⟩
  have hpk := pk_len x y i
  refine wp_seq (wp_seq (w_region ?_))
  refine H.go HP 3 [(33, (ii j)), (34, (.slice (some ⟨b_4, 0, none⟩) 2 2)), (35, (ii i))] [] fun a H => ?_
  refine H.u 36 (.pointer (some ⟨b_4, 0 + i * 1, none⟩)) (ex_index (b := b_4) (off := 0) (len := 2) (cap := 2) (e := 36) (k := 1) (ik := .i64) (i := (i : Int)) (m := i) (by kernel_rfl) (by kernel_rfl) (by omega) (by omega) (by kernel_rfl) (by kernel_rfl)) fun a H => ?_
  refine H.u 37 (.slice (pk i Mx My) ((pk i (makeP x) (makeP y)).length) (pk i mcx mcy)) (ex_l1 (sel_cell (l0 := makeP x) (l1 := makeP y) i (HP.at_ 3 rfl) (by omega))) fun a H => ?_
  refine H.ge HP [(39, (.bool (decide ((j : Int) < (((pk i (makeP x) (makeP y)).length : Nat) : Int)))))] [] fun a H => ?_
  refine then_normal ?_
  refine w_if H rfl (fun g39 => ?_) (fun g39 => ?_)
  ·have g39p := of_decide_eq_true g39
   refine wp_skip (then_normal (wp_seq (wp_block (wp_seq (w_region ?_)))))
   refine H.go HP 2 [(43, (.slice (some ⟨b_4, 0, none⟩) 2 2)), (44, (ii i))] [] fun a H => ?_
   refine H.u 45 (.pointer (some ⟨b_4, 0 + i * 1, none⟩)) (ex_index (b := b_4) (off := 0) (len := 2) (cap := 2) (e := 36) (k := 1) (ik := .i64) (i := (i : Int)) (m := i) (by kernel_rfl) (by kernel_rfl) (by omega) (by omega) (by kernel_rfl) (by kernel_rfl)) fun a H => ?_
   refine H.u 46 (.slice (pk i Mx My) ((pk i (makeP x) (makeP y)).length) (pk i mcx mcy)) (ex_l1 (sel_cell (l0 := makeP x) (l1 := makeP y) i (HP.at_ 3 rfl) (by omega))) fun a H => ?_
   refine H.go HP 1 [(47, (ii j))] [] fun a H => ?_
   obtain ⟨bu, ou, xc, hA, _, _, hxc, hmc, _⟩ := IsRow.get cuC_size (pk_row i (IsRow.ofCues (HP.held 5 rfl)) (IsRow.ofCues (HP.held 4 rfl))) (i := j) (by omega)
   have hxt := pk_text (x := x) (y := y) hmc
   refine H.u 48 (.pointer (some ⟨bu, ou + j * 5, none⟩)) (ex_indexA (b := bu) (off := ou) (len := (pk i (makeP x) (makeP y)).length) (cap := pk i mcx mcy) (e := 23) (k := 5) (ik := .i64) (i := (j : Int)) (m := j) hA (by kernel_rfl) (by kernel_rfl) rfl (by omega) (by kernel_rfl) (by kernel_rfl)) fun a H => ?_
   refine H.go HP 1 [(49, (.pointer (some ⟨bu, ou + j * 5 + 4, none⟩)))] [] fun a H => ?_
   refine H.u 50 (.string (bstr xc.text)) (ex_l1 (IsRow.cells cuC_size (pk_row i (IsRow.ofCues (HP.held 5 rfl)) (IsRow.ofCues (HP.held 4 rfl))) hA hxc 4 _ rfl)) fun a H => ?_
   refine H.call 51 (by kernel_rfl) (Eq.trans (by kernel_rfl : _ = (callFunc 24 #[(.string (bstr xc.text))]).run Tryd.prog w_9) (Tryd.call24 _ _)) (crowsE_any xc.text w_9 hxt) ?_
   rintro e w_10 ⟨wA, wc, wl, wb, rfl, hbw, hwo, hwf⟩
   refine ⟨_, rfl, ?_⟩
   intro a H
   have HP := HP.pend 0 rfl elOk_E (⟨wA, wl, wc⟩ : RowE) [(rowsP w.heap.size 29 1 reC okE feE (.slice TB TU.length td) TU (⟨wA, wl, wc⟩ : RowE)), (rdecR br none 0 (⟨[], []⟩)), (decR bd none 0 none 0 (⟨[], []⟩)), (bx b_4 36 [(.slice Mx ((makeP x).length) mcx), (.slice My ((makeP y).length) mcy)] true), (rowsR w_2.heap.size 23 5 cuC okT feF (.slice My (makeP y).length mcy) (makeP y)), (rowsR w_1.heap.size 23 5 cuC okT feF (.slice Mx (makeP x).length mcx) (makeP x))] (by kernel_rfl) hbw hwo hwf
   refine H.ge HP [(14, (.slice wA wl.length wc))] [] fun a H => ?_
   refine then_normal (w_region ?_)
   refine H.go HP 2 [(54, (.slice TB TU.length td)), (55, (.slice wA wl.length wc))] [] fun a H => ?_
   refine H.alloc HP 56 (fun b => (.slice (some ⟨b, 0, none⟩) 1 1)) 29 [(.slice wA wl.length wc)] (by kernel_rfl) (fun w => by kernel_rfl) fun b_11 w_12 a H HP => ?_
   refine H.push HP 57 1 0 (v := (.slice TB TU.length td)) (e := 29) (p := (⟨wA, wl, wc⟩ : RowE)) (l := TU) (cs := reC) (ok := okE) (fe := feE) (size := 1) (z := (.slice none 0 0)) (bytes := 24) (bb := b_11) (tb := 29) (fb := true) (by kernel_rfl) elOk_E (by kernel_rfl) (by kernel_rfl) rfl (by kernel_rfl) (by kernel_rfl) (by kernel_rfl) (by kernel_rfl) (by kernel_rfl) rfl (by kernel_rfl) (by unfold maxLen; omega) (by omega) fun B_13 c_14 w_15 a H HP => ?_
   have HP : Hp w w_15 [bx b_11 29 [(.slice wA wl.length wc)] true, (rowsR w.heap.size 29 1 reC okE feE (.slice B_13 (TU.length + 1) c_14) (TU ++ [(⟨wA, wl, wc⟩ : RowE)])), (rdecR br none 0 (⟨[], []⟩)), (decR bd none 0 none 0 (⟨[], []⟩)), (bx b_4 36 [(.slice Mx ((makeP x).length) mcx), (.slice My ((makeP y).length) mcy)] true), (rowsR w_2.heap.size 23 5 cuC okT feF (.slice My (makeP y).length mcy) (makeP y)), (rowsR w_1.heap.size 23 5 cuC okT feF (.slice Mx (makeP x).length mcx) (makeP x))] [laidK, rowF 4 quC AX x, rowF 4 quC AY y, rowF 1 i1C AM mx] := HP
   refine H.ge HP [(11, (.slice B_13 (TU.length + 1) c_14))] [] fun a H => ?_
   refine inb_normal (then_normal (w_region ?_))
   refine H.go HP 1 [(40, (ii j))] [] fun a H => ?_
   refine H.wi 41 ((j : Int) + 1) fun a H => ?_
   refine H.ge HP [(13, (ii ((j : Int) + 1)))] [] fun a H => ?_
   refine then_normal ?_
   have H := H.as 11 (.slice B_13 ((TU ++ [(⟨wA, wl, wc⟩ : RowE)]).length) c_14) rfl (congrArg (fun n => Value.slice _ n _) (len_snoc _ _))
   have H := H.as 13 (ii ((j + 1 : Nat) : Int)) rfl rfl
   refine ⟨_, ?_, j + 1, TU ++ [(⟨wA, wl, wc⟩ : RowE)], B_13, c_14, rfl, H.keep (by kernel_rfl), (by have hh := HP.sub [1, 2, 3, 4, 5, 6] [(rowsR w.heap.size 29 1 reC okE feE (.slice B_13 (TU.length + 1) c_14) (TU ++ [(⟨wA, wl, wc⟩ : RowE)])), (rdecR br none 0 (⟨[], []⟩)), (decR bd none 0 none 0 (⟨[], []⟩)), (bx b_4 36 [(.slice Mx ((makeP x).length) mcx), (.slice My ((makeP y).length) mcy)] true), (rowsR w_2.heap.size 23 5 cuC okT feF (.slice My (makeP y).length mcy) (makeP y)), (rowsR w_1.heap.size 23 5 cuC okT feF (.slice Mx (makeP x).length mcx) (makeP x))] (by kernel_rfl) (by kernel_rfl); rw [show TU.length + 1 = (TU ++ [(⟨wA, wl, wc⟩ : RowE)]).length from (len_snoc _ _)] at hh; exact hh), (by omega), (by rw [List.length_append, List.length_singleton]; omega)⟩
   omega
  ·have g39p := of_decide_eq_false g39
   refine wp_exit (then_exit (then_exit ?_))
   refine w_exit_here ?_
   refine inb_normal (then_normal (w_region ?_))
   refine H.go HP 1 [(31, (ii i))] [] fun a H => ?_
   refine H.wi 32 ((i : Int) + 1) fun a H => ?_
   refine H.ge HP [(12, (ii ((i : Int) + 1)))] [] fun a H => ?_
   refine then_normal ?_
   have H := H.as 12 (ii ((i + 1 : Nat) : Int)) rfl rfl
   refine ⟨_, ?_, i + 1, TU, TB, td, rfl, H.keep (by kernel_rfl), (HP.sub [0, 1, 2, 3, 4, 5] [(rowsR w.heap.size 29 1 reC okE feE (.slice TB TU.length td) TU), (rdecR br none 0 (⟨[], []⟩)), (decR bd none 0 none 0 (⟨[], []⟩)), (bx b_4 36 [(.slice Mx ((makeP x).length) mcx), (.slice My ((makeP y).length) mcy)] true), (rowsR w_2.heap.size 23 5 cuC okT feF (.slice My (makeP y).length mcy) (makeP y)), (rowsR w_1.heap.size 23 5 cuC okT feF (.slice Mx (makeP x).length mcx) (makeP x))] (by kernel_rfl) (by kernel_rfl)), (by omega), (by have := pk_len x y i; omega)⟩
   omega
 ·have g30p := of_decide_eq_false g30
  refine wp_exit (then_exit (then_exit ?_))
  refine w_exit_here ?_
  refine then_normal (wp_seq (wp_seq (w_region ?_)))
  refine H.ge HP [(16, (ii 0))] [] fun a H => ?_
  refine then_normal (wp_block ?_)
  refine w_loop (fun mm a wv => ∃ (n : Nat), ∃ (D : Dec), ∃ (B : Option Addr), ∃ (c : Nat), ∃ (R : Option Addr), ∃ (cr : Nat), ∃ (R2 : Option Addr), ∃ (cr2 : Nat), mx.length - n = mm ∧ Sl 123 [(16, (ii n)), (2, (.slice AM mx.length cm)), (7, (.bool true)), (8, (.slice (some ⟨b_4, 0, none⟩) 2 2)), (9, (pt bd 0)), (10, (pt br 0)), (11, (.slice TA TT.length tc))] a ∧ Hp w wv [(rdecR br R2 cr2 D), (decR bd B c R cr D), (rowsR w.heap.size 29 1 reC okE feE (.slice TA TT.length tc) TT), (bx b_4 36 [(.slice Mx ((makeP x).length) mcx), (.slice My ((makeP y).length) mcy)] true), (rowsR w_2.heap.size 23 5 cuC okT feF (.slice My (makeP y).length mcy) (makeP y)), (rowsR w_1.heap.size 23 5 cuC okT feF (.slice Mx (makeP x).length mcx) (makeP x))] [laidK, rowF 4 quC AX x, rowF 4 quC AY y, rowF 1 i1C AM mx] ∧ (n ≤ mx.length) ∧ D.okk) (mx.length - 0) ?_ ?_
  ·exact ⟨0, ⟨[], []⟩, none, 0, none, 0, none, 0, (by omega), H.keep (by kernel_rfl), (HP.sub [1, 2, 0, 3, 4, 5] [(rdecR br none 0 (⟨[], []⟩)), (decR bd none 0 none 0 (⟨[], []⟩)), (rowsR w.heap.size 29 1 reC okE feE (.slice TA TT.length tc) TT), (bx b_4 36 [(.slice Mx ((makeP x).length) mcx), (.slice My ((makeP y).length) mcy)] true), (rowsR w_2.heap.size 23 5 cuC okT feF (.slice My (makeP y).length mcy) (makeP y)), (rowsR w_1.heap.size 23 5 cuC okT feF (.slice Mx (makeP x).length mcx) (makeP x))] (by kernel_rfl) (by kernel_rfl)), (Nat.zero_le _), dec0_okk⟩
  rintro mm a w_16 ⟨n, D, B, c, R, cr, R2, cr2, hmeas, H, HP, hn, hok⟩
  refine wp_seq (wp_seq (w_region ?_))
  refine H.go HP 5 [(62, (.bool (decide ((n : Int) < (mx.length : Int)))))] [] fun a H => ?_
  refine H.split 62 rfl (fun g62 H => ?_) (fun g62 H => ?_)
  ·have g62p := of_decide_eq_true g62
   refine H.ge HP [(65, (.bool (decide ((n : Int) < 200))))] [] fun a H => ?_
   refine then_normal ?_
   refine w_if H rfl (fun g65 => ?_) (fun g65 => ?_)
   ·have g65p := of_decide_eq_true g65
    refine wp_skip (then_normal (wp_seq (wp_block (wp_seq (w_region ?_)))))
    refine H.go HP 2 [(68, (.slice AM mx.length cm)), (69, (ii n))] [] fun a H => ?_
    obtain ⟨bu_17, ou_18, m_19, hA_20, _, hd_22, hx_21, hm_23, _⟩ := IsRow.get i1C_size (HP.fact 3 rfl : IsRow 1 i1C _ AM mx) (i := n) (by omega)
    have hin_m_19 := hinm m_19 hm_23
    refine H.u 70 (.pointer (some ⟨bu_17, ou_18 + n * 1, none⟩)) (ex_indexA (b := bu_17) (off := ou_18) (len := mx.length) (cap := cm) (e := 3) (k := 1) (ik := .i64) (i := (n : Int)) (m := n) hA_20 (by kernel_rfl) (by kernel_rfl) rfl (by omega) (by kernel_rfl) (by kernel_rfl)) fun a H => ?_
    refine H.u 71 (ii m_19) (ex_l1 (by have hh := IsRow.cells i1C_size (HP.fact 3 rfl : IsRow 1 i1C _ AM mx) hA_20 hx_21 0 _ rfl; rwa [Nat.add_zero] at hh)) fun a H => ?_
    obtain ⟨nn, hnn⟩ : ∃ q : Nat, pickP m_19 8 = (q : Int) := ⟨(pickP m_19 8).toNat, by have := pickP_in (c := m_19) (n := 8) (by omega); omega⟩
    have hnn2 : nn < 8 := by have := pickP_in (c := m_19) (n := 8) (by omega); omega
    refine H.call 72 (by kernel_rfl) (Eq.trans (by kernel_rfl : _ = (callFunc 14 #[(ii m_19), (ii 8)]).run Tryd.prog w_16) (Tryd.call14 _ _)) ((by have hh := pick_any m_19 8 w_16 hin_m_19 (by omega); rw [hnn] at hh; exact hh)) ?_
    rintro e w_24 ⟨rfl, hbp⟩
    refine ⟨_, rfl, ?_⟩
    intro a H
    have HP := HP.next hbp
    refine H.ge HP [(17, (ii nn))] [] fun a H => ?_
    refine then_normal ?_
    refine w_cut (fun a wv => ∃ (D2 : Dec), ∃ (B : Option Addr), ∃ (c : Nat), ∃ (R : Option Addr), ∃ (cr : Nat), ∃ (R2 : Option Addr), ∃ (cr2 : Nat), Sl 123 [(16, (ii n)), (2, (.slice AM mx.length cm)), (7, (.bool true)), (8, (.slice (some ⟨b_4, 0, none⟩) 2 2)), (9, (pt bd 0)), (10, (pt br 0)), (11, (.slice TA TT.length tc))] a ∧ Hp w wv [(rdecR br R2 cr2 D2), (decR bd B c R cr D2), (rowsR w.heap.size 29 1 reC okE feE (.slice TA TT.length tc) TT), (bx b_4 36 [(.slice Mx ((makeP x).length) mcx), (.slice My ((makeP y).length) mcy)] true), (rowsR w_2.heap.size 23 5 cuC okT feF (.slice My (makeP y).length mcy) (makeP y)), (rowsR w_1.heap.size 23 5 cuC okT feF (.slice Mx (makeP x).length mcx) (makeP x))] [laidK, rowF 4 quC AX x, rowF 4 quC AY y, rowF 1 i1C AM mx] ∧ D2.okk) ?_ ?_
    ·
     refine wp_seq (w_region ?_)
     refine H.ge HP [(74, (.bool (decide ((nn : Int) < 7))))] [] fun a H => ?_
     refine then_normal ?_
     refine w_if H rfl (fun g74 => ?_) (fun g74 => ?_)
     ·have g74p := of_decide_eq_true g74
      refine wp_seq (w_region ?_)
      refine H.go HP 3 [(75, (pt bd 0)), (76, (.slice (some ⟨b_4, 0, none⟩) 2 2)), (77, (ii nn))] [] fun a H => ?_
      refine H.valE 78 (ii (IntKind.i64.wrap ((nn : Int).tdiv 4))) (ii ((nn / 4 : Nat) : Int)) (by kernel_rfl) (by kernel_rfl) ((congrArg (Value.int .i64) (by rw [tdiv_nn _ _ (by omega), wrap_ini64 _ (by omega)]; omega))) fun a H => ?_
      refine H.u 79 (.pointer (some ⟨b_4, 0 + (nn / 4) * 1, none⟩)) (ex_index (b := b_4) (off := 0) (len := 2) (cap := 2) (e := 36) (k := 1) (ik := .i64) (i := ((nn / 4 : Nat) : Int)) (m := nn / 4) (by kernel_rfl) (by kernel_rfl) (by omega) (by omega) (by kernel_rfl) (by kernel_rfl)) fun a H => ?_
      refine H.u 80 (.slice (pk (nn / 4) Mx My) ((pk (nn / 4) (makeP x) (makeP y)).length) (pk (nn / 4) mcx mcy)) (ex_l1 (sel_cell (l0 := makeP x) (l1 := makeP y) (nn / 4) (HP.at_ 3 rfl) (by omega))) fun a H => ?_
      refine H.go HP 1 [(81, (ii n))] [] fun a H => ?_
      refine H.call 82 (by kernel_rfl) (Eq.trans (by kernel_rfl : _ = (callFunc 15 #[(.slice (pk (nn / 4) Mx My) ((pk (nn / 4) (makeP x) (makeP y)).length) (pk (nn / 4) mcx mcy)), (ii 0), (ii n)]).run Tryd.prog w_24) (Tryd.call15 _ _)) (code_all (pk (nn / 4) Mx My) (pk (nn / 4) mcx mcy) (pk (nn / 4) (makeP x) (makeP y)) 0 (n : Int) w_24 (HP.fact 0 rfl) (pk_row (nn / 4) (IsRow.ofCues (HP.held 5 rfl)) (IsRow.ofCues (HP.held 4 rfl))) (Nat.le_trans (pk_len x y _) (by decide)) (fun c hc => pk_text hc) (by omega) (by omega) (by omega) (by omega)) ?_
      rintro e w_25 ⟨rfl, hbf⟩
      refine ⟨_, rfl, ?_⟩
      intro a H
      have HP := HP.next hbf
      refine H.call 83 (by kernel_rfl) (Eq.trans (by kernel_rfl : _ = (callFunc 16 #[(pt bd 0), (.string (bstr (codeP (pk (nn / 4) (makeP x) (makeP y)) 0 (n : Int))))]).run Tryd.prog w_25) (Tryd.call16 _ _)) (feedD HP 1 bd B c R cr D (codeP (pk (nn / 4) (makeP x) (makeP y)) 0 (n : Int)) rfl 0 rfl hok) ?_
      rintro e w_30 ⟨rfl, B_26, c_27, R_28, cr_29, HPn⟩
      refine ⟨_, rfl, ?_⟩
      intro a H
      have HP := (HPn : Hp w _ [(rdecR br R2 cr2 D), (decR bd B_26 c_27 R_28 cr_29 (feedP (codeP (pk (nn / 4) (makeP x) (makeP y)) 0 (n : Int)) D)), (rowsR w.heap.size 29 1 reC okE feE (.slice TA TT.length tc) TT), (bx b_4 36 [(.slice Mx ((makeP x).length) mcx), (.slice My ((makeP y).length) mcy)] true), (rowsR w_2.heap.size 23 5 cuC okT feF (.slice My (makeP y).length mcy) (makeP y)), (rowsR w_1.heap.size 23 5 cuC okT feF (.slice Mx (makeP x).length mcx) (makeP x))] [laidK, rowF 4 quC AX x, rowF 4 quC AY y, rowF 1 i1C AM mx])
      refine wpList_nil (then_normal (w_region ?_))
      refine H.go HP 3 [(84, (pt br 0)), (85, (.slice (some ⟨b_4, 0, none⟩) 2 2)), (86, (ii nn))] [] fun a H => ?_
      refine H.valE 87 (ii (IntKind.i64.wrap ((nn : Int).tdiv 4))) (ii ((nn / 4 : Nat) : Int)) (by kernel_rfl) (by kernel_rfl) ((congrArg (Value.int .i64) (by rw [tdiv_nn _ _ (by omega), wrap_ini64 _ (by omega)]; omega))) fun a H => ?_
      refine H.u 88 (.pointer (some ⟨b_4, 0 + (nn / 4) * 1, none⟩)) (ex_index (b := b_4) (off := 0) (len := 2) (cap := 2) (e := 36) (k := 1) (ik := .i64) (i := ((nn / 4 : Nat) : Int)) (m := nn / 4) (by kernel_rfl) (by kernel_rfl) (by omega) (by omega) (by kernel_rfl) (by kernel_rfl)) fun a H => ?_
      refine H.u 89 (.slice (pk (nn / 4) Mx My) ((pk (nn / 4) (makeP x) (makeP y)).length) (pk (nn / 4) mcx mcy)) (ex_l1 (sel_cell (l0 := makeP x) (l1 := makeP y) (nn / 4) (HP.at_ 3 rfl) (by omega))) fun a H => ?_
      refine H.go HP 1 [(90, (ii n))] [] fun a H => ?_
      refine H.call 91 (by kernel_rfl) (Eq.trans (by kernel_rfl : _ = (callFunc 15 #[(.slice (pk (nn / 4) Mx My) ((pk (nn / 4) (makeP x) (makeP y)).length) (pk (nn / 4) mcx mcy)), (ii 0), (ii n)]).run Tryd.prog w_30) (Tryd.call15 _ _)) (code_all (pk (nn / 4) Mx My) (pk (nn / 4) mcx mcy) (pk (nn / 4) (makeP x) (makeP y)) 0 (n : Int) w_30 (HP.fact 0 rfl) (pk_row (nn / 4) (IsRow.ofCues (HP.held 5 rfl)) (IsRow.ofCues (HP.held 4 rfl))) (Nat.le_trans (pk_len x y _) (by decide)) (fun c hc => pk_text hc) (by omega) (by omega) (by omega) (by omega)) ?_
      rintro e w_31 ⟨rfl, hbf⟩
      refine ⟨_, rfl, ?_⟩
      intro a H
      have HP := HP.next hbf
      refine H.call 92 (by kernel_rfl) (Eq.trans (by kernel_rfl : _ = (callFunc 17 #[(pt br 0), (.string (bstr (codeP (pk (nn / 4) (makeP x) (makeP y)) 0 (n : Int))))]).run Tryd.prog w_31) (Tryd.call17 _ _)) (rfeedD HP 0 br R2 cr2 D (codeP (pk (nn / 4) (makeP x) (makeP y)) 0 (n : Int)) rfl hok) ?_
      rintro e w_34 ⟨rfl, R_32, cr_33, HPn⟩
      refine ⟨_, rfl, ?_⟩
      intro a H
      have HP := (HPn : Hp w _ [(rdecR br R_32 cr_33 (feedP (codeP (pk (nn / 4) (makeP x) (makeP y)) 0 (n : Int)) D)), (decR bd B_26 c_27 R_28 cr_29 (feedP (codeP (pk (nn / 4) (makeP x) (makeP y)) 0 (n : Int)) D)), (rowsR w.heap.size 29 1 reC okE feE (.slice TA TT.length tc) TT), (bx b_4 36 [(.slice Mx ((makeP x).length) mcx), (.slice My ((makeP y).length) mcy)] true), (rowsR w_2.heap.size 23 5 cuC okT feF (.slice My (makeP y).length mcy) (makeP y)), (rowsR w_1.heap.size 23 5 cuC okT feF (.slice Mx (makeP x).length mcx) (makeP x))] [laidK, rowF 4 quC AX x, rowF 4 quC AY y, rowF 1 i1C AM mx])
      refine wpList_nil (then_normal ?_)
      exact ⟨(feedP (codeP (pk (nn / 4) (makeP x) (makeP y)) 0 (n : Int)) D), B_26, c_27, R_28, cr_29, R_32, cr_33, H.keep (by kernel_rfl), (HP.sub [0, 1, 2, 3, 4, 5] [(rdecR br R_32 cr_33 (feedP (codeP (pk (nn / 4) (makeP x) (makeP y)) 0 (n : Int)) D)), (decR bd B_26 c_27 R_28 cr_29 (feedP (codeP (pk (nn / 4) (makeP x) (makeP y)) 0 (n : Int)) D)), (rowsR w.heap.size 29 1 reC okE feE (.slice TA TT.length tc) TT), (bx b_4 36 [(.slice Mx ((makeP x).length) mcx), (.slice My ((makeP y).length) mcy)] true), (rowsR w_2.heap.size 23 5 cuC okT feF (.slice My (makeP y).length mcy) (makeP y)), (rowsR w_1.heap.size 23 5 cuC okT feF (.slice Mx (makeP x).length mcx) (makeP x))] (by kernel_rfl) (by kernel_rfl)), (feedP_okk hok)⟩
     ·have g74p := of_decide_eq_false g74
      refine wp_skip (then_normal ?_)
      exact ⟨D, B, c, R, cr, R2, cr2, H.keep (by kernel_rfl), (HP.sub [0, 1, 2, 3, 4, 5] [(rdecR br R2 cr2 D), (decR bd B c R cr D), (rowsR w.heap.size 29 1 reC okE feE (.slice TA TT.length tc) TT), (bx b_4 36 [(.slice Mx ((makeP x).length) mcx), (.slice My ((makeP y).length) mcy)] true), (rowsR w_2.heap.size 23 5 cuC okT feF (.slice My (makeP y).length mcy) (makeP y)), (rowsR w_1.heap.size 23 5 cuC okT feF (.slice Mx (makeP x).length mcx) (makeP x))] (by kernel_rfl) (by kernel_rfl)), hok⟩
    ·
     rintro a w_35 ⟨D2, B, c, R, cr, R2, cr2, H, HP, hok2⟩
     refine wp_seq (w_region ?_)
     refine H.go HP 1 [(93, (pt bd 0))] [] fun a H => ?_
     refine H.call 94 (by kernel_rfl) (Eq.trans (by kernel_rfl : _ = (callFunc 19 #[(pt bd 0)]).run Tryd.prog w_35) (Tryd.call19 _ _)) (rowsD HP 1 bd B c R cr D2 rfl hok2) ?_
     rintro e w_38 ⟨A_36, c_37, rfl, HPn⟩
     refine ⟨_, rfl, ?_⟩
     intro a H
     have HP := (HPn : Hp w _ [(rowsR w_35.heap.size 9 1 strC okT feF (.slice A_36 D2.rows.length c_37) D2.rows), (rdecR br R2 cr2 D2), (decR bd B c R cr D2), (rowsR w.heap.size 29 1 reC okE feE (.slice TA TT.length tc) TT), (bx b_4 36 [(.slice Mx ((makeP x).length) mcx), (.slice My ((makeP y).length) mcy)] true), (rowsR w_2.heap.size 23 5 cuC okT feF (.slice My (makeP y).length mcy) (makeP y)), (rowsR w_1.heap.size 23 5 cuC okT feF (.slice Mx (makeP x).length mcx) (makeP x))] [laidK, rowF 4 quC AX x, rowF 4 quC AY y, rowF 1 i1C AM mx])
     refine H.ge HP [(18, (.slice A_36 D2.rows.length c_37))] [] fun a H => ?_
     refine then_normal (wp_seq (w_region ?_))
     refine H.ge HP [(19, (.bool ((D2.rows.length : Int) == 0)))] [] fun a H => ?_
     refine then_normal (wp_seq (wp_seq (w_region ?_)))
     refine H.ge HP [(20, (ii 0))] [] fun a H => ?_
     refine then_normal (wp_block ?_)
     refine w_loop (fun mm a wv => ∃ (k : Nat), ∃ (fd : Bool), TT.length - k = mm ∧ Sl 123 [(20, (ii k)), (19, (.bool fd)), (16, (ii n)), (18, (.slice A_36 D2.rows.length c_37)), (2, (.slice AM mx.length cm)), (7, (.bool true)), (8, (.slice (some ⟨b_4, 0, none⟩) 2 2)), (9, (pt bd 0)), (10, (pt br 0)), (11, (.slice TA TT.length tc))] a ∧ Hp w wv [(rowsR w_35.heap.size 9 1 strC okT feF (.slice A_36 D2.rows.length c_37) D2.rows), (rdecR br R2 cr2 D2), (decR bd B c R cr D2), (rowsR w.heap.size 29 1 reC okE feE (.slice TA TT.length tc) TT), (bx b_4 36 [(.slice Mx ((makeP x).length) mcx), (.slice My ((makeP y).length) mcy)] true), (rowsR w_2.heap.size 23 5 cuC okT feF (.slice My (makeP y).length mcy) (makeP y)), (rowsR w_1.heap.size 23 5 cuC okT feF (.slice Mx (makeP x).length mcx) (makeP x))] [laidK, rowF 4 quC AX x, rowF 4 quC AY y, rowF 1 i1C AM mx] ∧ (k ≤ TT.length)) (TT.length - 0) ?_ ?_
     ·exact ⟨0, ((D2.rows.length : Int) == 0), (by omega), H.keep (by kernel_rfl), HP, (Nat.zero_le _)⟩
     rintro mm a w_39 ⟨k, fd, hmeas, H, HP, hk⟩
     refine wp_seq (wp_seq (w_region ?_))
     refine H.ge HP [(101, (.bool (decide ((k : Int) < (TT.length : Int)))))] [] fun a H => ?_
     refine then_normal ?_
     refine w_if H rfl (fun g101 => ?_) (fun g101 => ?_)
     ·have g101p := of_decide_eq_true g101
      refine wp_skip (then_normal (wp_seq (wp_block (w_region ?_))))
      refine H.go HP 2 [(105, (.bool fd))] [] fun a H => ?_
      refine H.split 105 rfl (fun g105 H => ?_) (fun g105 H => ?_)
      ·have g105p := g105
       refine H.ge HP [(19, (.bool true))] [] fun a H => ?_
       refine inb_normal (then_normal (w_region ?_))
       refine H.go HP 1 [(102, (ii k))] [] fun a H => ?_
       refine H.wi 103 ((k : Int) + 1) fun a H => ?_
       refine H.ge HP [(20, (ii ((k : Int) + 1)))] [] fun a H => ?_
       refine then_normal ?_
       have H := H.as 20 (ii ((k + 1 : Nat) : Int)) rfl rfl
       refine ⟨_, ?_, k + 1, true, rfl, H.keep (by kernel_rfl), (HP.sub [0, 1, 2, 3, 4, 5, 6] [(rowsR w_35.heap.size 9 1 strC okT feF (.slice A_36 D2.rows.length c_37) D2.rows), (rdecR br R2 cr2 D2), (decR bd B c R cr D2), (rowsR w.heap.size 29 1 reC okE feE (.slice TA TT.length tc) TT), (bx b_4 36 [(.slice Mx ((makeP x).length) mcx), (.slice My ((makeP y).length) mcy)] true), (rowsR w_2.heap.size 23 5 cuC okT feF (.slice My (makeP y).length mcy) (makeP y)), (rowsR w_1.heap.size 23 5 cuC okT feF (.slice Mx (makeP x).length mcx) (makeP x))] (by kernel_rfl) (by kernel_rfl)), (by omega)⟩
       omega
      ·have g105p := g105
       refine H.go HP 3 [(106, (.slice A_36 D2.rows.length c_37)), (107, (.slice TA TT.length tc)), (108, (ii k))] [] fun a H => ?_
       obtain ⟨bu, ou, xe, hA, _, _, hxe, hme, _⟩ := IsRow.get reC_size (rowE_is (T := TT) (HP.held 3 rfl)) (i := k) (by omega)
       refine H.u 109 (.pointer (some ⟨bu, ou + k * 1, none⟩)) (ex_indexA (b := bu) (off := ou) (len := TT.length) (cap := tc) (e := 29) (k := 1) (ik := .i64) (i := (k : Int)) (m := k) hA (by kernel_rfl) (by kernel_rfl) rfl (by omega) (by kernel_rfl) (by kernel_rfl)) fun a H => ?_
       refine H.u 110 (.slice xe.A xe.l.length xe.c) (ex_l1 (by have hh := IsRow.cells reC_size (rowE_is (T := TT) (HP.held 3 rfl)) hA hxe 0 _ rfl; rwa [Nat.add_zero] at hh)) fun a H => ?_
       refine H.call 111 (by kernel_rfl) (Eq.trans (by kernel_rfl : _ = (callFunc 18 #[(.slice A_36 D2.rows.length c_37), (.slice xe.A xe.l.length xe.c)]).run Tryd.prog w_39) (Tryd.call18 _ _)) (same_any A_36 xe.A c_37 xe.c D2.rows xe.l w_39 (IsRow.ofRows (HP.held 0 rfl)) (((HP.held 3 rfl).2 xe hme).1.1) (Nat.le_trans (hok2).2 (by omega)) ((HP.held 3 rfl).2 xe hme).1.2) ?_
       rintro e w_40 ⟨rfl, hbf⟩
       refine ⟨_, rfl, ?_⟩
       intro a H
       have HP := HP.next hbf
       refine H.ge HP [(19, (.bool (decide (D2.rows = xe.l))))] [] fun a H => ?_
       refine inb_normal (then_normal (w_region ?_))
       refine H.go HP 1 [(102, (ii k))] [] fun a H => ?_
       refine H.wi 103 ((k : Int) + 1) fun a H => ?_
       refine H.ge HP [(20, (ii ((k : Int) + 1)))] [] fun a H => ?_
       refine then_normal ?_
       have H := H.as 20 (ii ((k + 1 : Nat) : Int)) rfl rfl
       refine ⟨_, ?_, k + 1, (decide (D2.rows = xe.l)), rfl, H.keep (by kernel_rfl), (HP.sub [0, 1, 2, 3, 4, 5, 6] [(rowsR w_35.heap.size 9 1 strC okT feF (.slice A_36 D2.rows.length c_37) D2.rows), (rdecR br R2 cr2 D2), (decR bd B c R cr D2), (rowsR w.heap.size 29 1 reC okE feE (.slice TA TT.length tc) TT), (bx b_4 36 [(.slice Mx ((makeP x).length) mcx), (.slice My ((makeP y).length) mcy)] true), (rowsR w_2.heap.size 23 5 cuC okT feF (.slice My (makeP y).length mcy) (makeP y)), (rowsR w_1.heap.size 23 5 cuC okT feF (.slice Mx (makeP x).length mcx) (makeP x))] (by kernel_rfl) (by kernel_rfl)), (by omega)⟩
       omega
     ·have g101p := of_decide_eq_false g101
      refine wp_exit (then_exit (then_exit ?_))
      refine w_exit_here ?_
      refine then_normal (wp_seq (w_region ?_))
      refine H.ge HP [(114, (.bool (!fd)))] [] fun a H => ?_
      refine then_normal ?_
      refine w_if H rfl (fun g114 => ?_) (fun g114 => ?_)
      ·have g114p := not_is_true g114
       refine wp_seq (w_region ?_)
       refine H.go HP 4 [(116, (.bool true)), (117, (.slice A_36 D2.rows.length c_37)), (118, (pt br 0))] [] fun a H => ?_
       refine H.call 119 (by kernel_rfl) (Eq.trans (by kernel_rfl : _ = (callFunc 20 #[(pt br 0)]).run Tryd.prog w_39) (Tryd.call20 _ _)) (rrowsD HP 1 br R2 cr2 D2 rfl) ?_
       rintro e w_41 ⟨rfl, hbf⟩
       refine ⟨_, rfl, ?_⟩
       intro a H
       have HP := HP.next hbf
       refine H.call 120 (by kernel_rfl) (Eq.trans (by kernel_rfl : _ = (callFunc 18 #[(.slice A_36 D2.rows.length c_37), (.slice R2 D2.rows.length cr2)]).run Tryd.prog w_41) (Tryd.call18 _ _)) ((by have hh := same_any A_36 R2 c_37 cr2 D2.rows D2.rows w_41 (IsRow.ofRows (HP.held 0 rfl)) (rrow_of HP 1 rfl) (Nat.le_trans (hok2).2 (by omega)) (Nat.le_trans (hok2).2 (by omega)); rw [decide_eq_true (rfl : D2.rows = D2.rows)] at hh; exact hh)) ?_
       rintro e w_42 ⟨rfl, hbf⟩
       refine ⟨_, rfl, ?_⟩
       intro a H
       have HP := HP.next hbf
       refine H.ge HP [(6, (.bool true))] [] fun a H => ?_
       refine then_normal (wp_ret (inb_ret (then_ret (then_ret (inb_ret (then_ret ?_))))))
       refine H.ret1 (fn := Tryd.f6) Tryd.results6 (RV.tmp_ (v := (.bool true)) (by kernel_rfl)) ?_
       exact ⟨rfl, HP.bl⟩
      ·have g114p := not_is_false g114
       refine wp_skip (inb_normal (then_normal (w_region ?_)))
       refine H.go HP 1 [(66, (ii n))] [] fun a H => ?_
       refine H.wi 67 ((n : Int) + 1) fun a H => ?_
       refine H.ge HP [(16, (ii ((n : Int) + 1)))] [] fun a H => ?_
       refine then_normal ?_
       have H := H.as 16 (ii ((n + 1 : Nat) : Int)) rfl rfl
       refine ⟨_, ?_, n + 1, D2, B, c, R, cr, R2, cr2, rfl, H.keep (by kernel_rfl), (HP.sub [1, 2, 3, 4, 5, 6] [(rdecR br R2 cr2 D2), (decR bd B c R cr D2), (rowsR w.heap.size 29 1 reC okE feE (.slice TA TT.length tc) TT), (bx b_4 36 [(.slice Mx ((makeP x).length) mcx), (.slice My ((makeP y).length) mcy)] true), (rowsR w_2.heap.size 23 5 cuC okT feF (.slice My (makeP y).length mcy) (makeP y)), (rowsR w_1.heap.size 23 5 cuC okT feF (.slice Mx (makeP x).length mcx) (makeP x))] (by kernel_rfl) (by kernel_rfl)), (by omega), hok2⟩
       omega
   ·have g65p := of_decide_eq_false g65
    refine wp_exit (then_exit (then_exit ?_))
    refine w_exit_here ?_
    refine then_normal (wp_seq (w_region ?_))
    refine H.ge HP [(6, (.bool true))] [] fun a H => ?_
    refine then_normal (wp_ret ?_)
    refine H.ret1 (fn := Tryd.f6) Tryd.results6 (RV.tmp_ (v := (.bool true)) (by kernel_rfl)) ?_
    exact ⟨rfl, HP.bl⟩
  ·have g62p := of_decide_eq_false g62
   refine H.ge HP [(65, (.bool false))] [] fun a H => ?_
   refine then_normal ?_
   refine w_iff H rfl ?_
   refine wp_exit (then_exit (then_exit ?_))
   refine w_exit_here ?_
   refine then_normal (wp_seq (w_region ?_))
   refine H.ge HP [(6, (.bool true))] [] fun a H => ?_
   refine then_normal (wp_ret ?_)
   refine H.ret1 (fn := Tryd.f6) Tryd.results6 (RV.tmp_ (v := (.bool true)) (by kernel_rfl)) ?_
   exact ⟨rfl, HP.bl⟩
open Go.Deep
structure Op (P : Program) (t : TypeId) (α : Type) where
  size : Nat
  cells : α → List Value
  ok : World → α → Prop
  csize : P.cellsOf t = size
  len : ∀ a, (cells a).length = size
  opens : ∀ {H : Type} {enc : TypeId × Value → H} {w : World} {base : Nat} {held : Bool} {fuel : Nat} {cs : List Value} {x : DataW H × List MemPlace},
    DataW.trod enc P w base (fun _ => true) held fuel t cs = some x → (∀ n ∈ x.1.weights P t, n ≤ reachBytes) → ∃ a, cs = cells a ∧ ok w a
structure SlA (α : Type) where
  A : Option Addr
  c : Nat
  l : List α
section
variable {P : Program} {t e : TypeId} {α β : Type}
noncomputable def opInt (k : IntKind) (hu : P.underlying t = some (.int k)) (hc : P.cellsOf t = 1) : Op P t Int where
  size := 1
  cells n := [.int k n]
  ok _ n := (Lit.int k n).wf = true
  csize := hc
  len _ := rfl
  opens h _ := by
    obtain ⟨n, rfl, rfl, hw⟩ := DataW.trod_int hu h
    exact ⟨n, rfl, hw⟩
theorem weightsAll_mem {H : Type} {d : DataW H} {l : List (DataW H)} (h : d ∈ l) : ∀ n ∈ d.weights P e, n ∈ DataW.weightsAll P e l := by
  induction l with
  | nil => cases h
  | cons y l ih =>
    intro n hn
    rw [DataW.weightsAll]
    rcases List.mem_cons.1 h with rfl | h
    · exact List.mem_append_left _ hn
    · exact List.mem_append_right _ (ih h n hn)
theorem choose_list {Q : Nat → α → Prop} : ∀ n : Nat, (∀ i, i < n → ∃ a, Q i a) → ∃ l : List α, l.length = n ∧ ∀ i a, l[i]? = some a → Q i a := by
  intro n
  induction n with
  | zero => intro _; exact ⟨[], rfl, by simp⟩
  | succ n ih =>
    intro h
    obtain ⟨l, hl, hq⟩ := ih (fun i hi => h i (by omega))
    obtain ⟨a, ha⟩ := h n (by omega)
    refine ⟨l ++ [a], by simp [hl], fun i b hb => ?_⟩
    by_cases hi : i < l.length
    · rw [List.getElem?_append_left hi] at hb
      exact hq i b hb
    · rw [List.getElem?_append_right (by omega)] at hb
      have h0 : i - l.length = 0 := by
        have := (List.getElem?_eq_some_iff.1 hb).1
        simp at this
        omega
      rw [h0] at hb
      simp at hb
      subst hb
      obtain rfl : i = n := by omega
      exact ha
theorem flatO_get {f : α → List Value} {s : Nat} (hf : ∀ a, (f a).length = s) : ∀ (l : List α) (i j : Nat) (a : α), l[i]? = some a → j < s → (l.flatMap f)[i * s + j]? = (f a)[j]? := by
  intro l
  induction l with
  | nil => intro i j a h; simp at h
  | cons y l ih =>
    intro i j a h hj
    cases i with
    | zero =>
      simp at h
      subst h
      simp only [List.flatMap_cons, Nat.zero_mul, Nat.zero_add]
      rw [List.getElem?_append_left (by rw [hf]; exact hj)]
    | succ i =>
      simp only [List.flatMap_cons]
      rw [List.getElem?_append_right (by rw [hf, Nat.add_mul]; omega), hf, show (i + 1) * s + j - s = i * s + j by rw [Nat.add_mul]; omega]
      exact ih i j a (by simpa using h) hj
theorem flatO_len {f : α → List Value} {s : Nat} (hf : ∀ a, (f a).length = s) : ∀ l : List α, (l.flatMap f).length = l.length * s := by
  intro l
  induction l with
  | nil => simp
  | cons y l ih => simp only [List.flatMap_cons, List.length_append, List.length_cons, ih, hf, Nat.add_mul]; omega
theorem rd_of_cells {w : World} {a : Addr} {s : Nat} {f : α → List Value} (hf : ∀ x, (f x).length = s) (hs : 0 < s) {l : List α}
    (h : ∀ i x, l[i]? = some x → ∀ j, j < s → w.cell? ((a.add (i * s)).add j) = (f x)[j]?) : Rd w s (some a) l.length (l.flatMap f) := by
  refine ⟨flatO_len hf l, ?_⟩
  by_cases hn : l.length = 0
  · exact .inl hn
  · have hl : 0 < l.length := by omega
    have h0 := h 0 l[0] (List.getElem?_eq_getElem hl) 0 hs
    have hv : ∃ v, (f l[0])[0]? = some v := ⟨_, List.getElem?_eq_getElem (by rw [hf]; exact hs)⟩
    obtain ⟨v, hv⟩ := hv
    rw [hv] at h0
    have hsp : a.spot = none := by
      unfold World.cell? at h0
      split at h0
      · by_cases hs : a.spot.isSome = true
        · simp [Addr.add, hs] at h0
        · simpa using hs
      · simp at h0
    obtain ⟨b, off, sp⟩ := a
    simp only at hsp
    subst hsp
    have e0 : (((⟨b, off, none⟩ : Addr).add (0 * s)).add 0) = ⟨b, off, none⟩ := by simp [Addr.add]
    rw [e0] at h0
    refine .inr ⟨b, off, rfl, World.block_lt_of_cell? w _ h0, fun i hi => ?_⟩
    have hq : i / s < l.length := Nat.div_lt_of_lt_mul (by rw [Nat.mul_comm]; exact hi)
    have hm : i % s < s := Nat.mod_lt _ hs
    have hx := h (i / s) l[i / s] (List.getElem?_eq_getElem hq) (i % s) hm
    have hg := flatO_get hf l (i / s) (i % s) _ (List.getElem?_eq_getElem hq) hm
    have hi2 : i / s * s + i % s = i := by rw [Nat.mul_comm]; exact Nat.div_add_mod i s
    rw [hi2] at hg
    rw [hg, ← hx]
    congr 1
    simp only [Addr.add]
    split <;> split <;> simp <;> omega
noncomputable def opSlice (o : Op P e α) (bytes : Nat) (hu : P.underlying t = some (.slice e)) (hb : P.bytesOf e = bytes) (hc : P.cellsOf t = 1) (hs : 0 < o.size) : Op P t (SlA α) where
  size := 1
  cells s := [.slice s.A s.l.length s.c]
  ok w s := Rd w o.size s.A s.l.length (s.l.flatMap o.cells) ∧ (∀ a ∈ s.l, o.ok w a) ∧ s.l.length ≤ s.c ∧ s.c ≤ maxLen ∧ (s.A = none → s.c = 0) ∧ s.c * bytes ≤ reachBytes
  csize := hc
  len _ := rfl
  opens {H enc w base held fuel cs x} h hw := by
    rcases open_slice hu h with ⟨rfl, rfl⟩ | ⟨a, len, cap, m, n, D, Pl, rfl, hba, hl, hm, hmm, rfl, hi⟩
    · exact ⟨⟨none, 0, []⟩, rfl, Rd.nil _ _ _, by simp, Nat.le_refl _, Nat.zero_le _, fun _ => rfl, by simp⟩
    · simp only [if_true] at hmm
      subst hmm
      have hwt : ∀ k ∈ ((len + (m - len)) * bytes) :: DataW.weightsAll P e ((List.range len).map D), k ≤ reachBytes := by
        intro k hk
        simp only [DataW.weights, hu, hb] at hw
        rcases List.mem_cons.1 hk with rfl | hk
        · exact hw _ (by simp)
        · exact hw k (by simp [hk])
      obtain ⟨l, hll, hq⟩ := choose_list (Q := fun i x => (∀ j, j < o.size → w.cell? ((a.add (i * o.size)).add j) = (o.cells x)[j]?) ∧ o.ok w x) len (fun i hi' => by
        obtain ⟨cs', hcs, htr⟩ := hi i (by omega)
        obtain ⟨x, rfl, hok⟩ := o.opens htr (fun k hk => hwt k (List.mem_cons_of_mem _ (weightsAll_mem (d := D i) (List.mem_map.2 ⟨i, by simpa using hi', rfl⟩) k hk)))
        rw [o.csize] at hcs
        obtain ⟨_, _, hat⟩ := World.cells?_some hcs
        exact ⟨x, hat, hok⟩)
      subst hll
      refine ⟨⟨some a, m, l⟩, rfl, rd_of_cells o.len hs (fun i x hx => (hq i x hx).1), fun x hx => ?_, hl, hm, (fun h => by cases h), ?_⟩
      · obtain ⟨i, hi', hx'⟩ := List.getElem_of_mem hx
        exact (hq i x (by rw [List.getElem?_eq_getElem hi', hx'])).2
      · have := hwt _ (List.mem_cons_self ..)
        rwa [Nat.add_sub_cancel' hl] at this
noncomputable def opMap (o : Op P t α) (f : α → β) (cells' : β → List Value) (ok' : World → β → Prop) (h1 : ∀ a, o.cells a = cells' (f a)) (h2 : ∀ w a, o.ok w a → ok' w (f a)) (h3 : ∀ b, (cells' b).length = o.size) : Op P t β where
  size := o.size
  cells := cells'
  ok := ok'
  csize := o.csize
  len := h3
  opens h hw := by
    obtain ⟨a, ha, hok⟩ := o.opens h hw
    exact ⟨f a, by rw [ha, h1], h2 _ _ hok⟩
end
theorem flat_range_take {cs : List Value} {n s : Nat} (h : cs.length = n * s) : (List.range n).flatMap (fun i => (cs.drop (i * s)).take s) = cs := by
  induction n generalizing cs with
  | zero => simp at h; subst h; rfl
  | succ n ih =>
    rw [List.range_succ_eq_map, List.flatMap_cons, List.flatMap_map, Nat.zero_mul, List.drop_zero]
    have hl : (cs.drop s).length = n * s := by rw [List.length_drop, h, Nat.succ_mul]; omega
    have := ih hl
    simp only [List.drop_drop] at this
    have e : (fun i => (cs.drop (i.succ * s)).take s) = fun i => (cs.drop (s + i * s)).take s := by
      funext i; rw [Nat.succ_mul, Nat.add_comm]
    rw [e, this, List.take_append_drop]
theorem flat_range_len {f : Nat → List Value} {s : Nat} (hf : ∀ a, (f a).length = s) (n : Nat) : ((List.range n).flatMap f).length = n * s := by
  rw [flatO_len (f := f) hf, List.length_range]
section
variable {P : Program} {t e : TypeId} {α β : Type}
noncomputable def opArr (o : Op P e α) (n : Nat) (hn : 0 < n) (hu : P.underlying t = some (.array n e)) (hc : P.cellsOf t = n * o.size) : Op P t (Nat → α) where
  size := n * o.size
  cells f := (List.range n).flatMap fun i => o.cells (f i)
  ok w f := ∀ i, o.ok w (f i)
  csize := hc
  len f := flat_range_len (fun i => o.len (f i)) n
  opens {H enc w base held fuel cs x} h hw := by
    obtain ⟨xs, m, _, rfl, hcl, hxl, hf⟩ := DataW.trod_array hu h
    have hwt : ∀ k ∈ DataW.weightsAll P e (xs.map (·.1)), k ≤ reachBytes := fun k hk => hw k (by simpa [DataW.weights, hu] using hk)
    obtain ⟨l, hll, hq⟩ := choose_list (Q := fun i a => (cs.drop (i * o.size)).take o.size = o.cells a ∧ o.ok w a) n (fun i hi => by
      have g := hf i hi
      rw [o.csize] at g
      rw [List.getElem?_eq_getElem (by omega)] at g
      obtain ⟨a, ha, hok⟩ := o.opens g (fun k hk => hwt k (weightsAll_mem (List.mem_map.2 ⟨xs[i]'(by omega), List.getElem_mem _, rfl⟩) k hk))
      exact ⟨a, ha, hok⟩)
    have h0 : 0 < l.length := by omega
    refine ⟨fun i => l.getD i l[0], ?_, fun i => ?_⟩
    · rw [hc] at hcl
      conv => lhs; rw [← flat_range_take hcl]
      have key : ∀ i ∈ List.range n, (cs.drop (i * o.size)).take o.size = o.cells (l.getD i l[0]) := by
        intro i hi
        have hi' : i < l.length := by rw [List.mem_range] at hi; omega
        have := (hq i l[i] (List.getElem?_eq_getElem hi')).1
        rw [this]
        simp [List.getD, List.getElem?_eq_getElem hi']
      rw [List.flatMap_def, List.flatMap_def, List.map_congr_left key]
    · by_cases hi : i < l.length
      · have := (hq i l[i] (List.getElem?_eq_getElem hi)).2
        simpa [List.getD, List.getElem?_eq_getElem hi] using this
      · have := (hq 0 l[0] (List.getElem?_eq_getElem h0)).2
        simpa [List.getD, List.getElem?_eq_none (by omega : l.length ≤ i)] using this
end
theorem in64_of {n : Int} (h : (Lit.int .i64 n).wf = true) : in64 n := by
  unfold in64
  simp [Lit.wf, IntKind.min, IntKind.max, IntKind.signed, IntKind.bits] at h
  omega
noncomputable def opI0 : Op Tryd.prog 3 Int := opInt .i64 Tryd.underlying3 (by kernel_rfl)
noncomputable def opI : Op Tryd.prog 3 Int := opMap opI0 id (fun a => (i1C a).toList) (fun _ a => in64 a) (fun a => rfl) (fun w a h => in64_of h) (fun _ => rfl)
noncomputable def opQ : Op Tryd.prog 53 Quad := opMap (opArr opI0 4 (by decide) Tryd.underlying53 (by kernel_rfl)) (fun f => (f 0, f 1, f 2, f 3)) (fun a => (quC a).toList) (fun _ a => qIn a) (fun a => rfl) (fun w a h => ⟨in64_of (h 0), in64_of (h 1), in64_of (h 2), in64_of (h 3)⟩) (fun _ => rfl)
noncomputable def opInts : Op Tryd.prog 31 (SlA Int) := opSlice opI 8 Tryd.underlying31 (by kernel_rfl) (by kernel_rfl) (by decide)
noncomputable def opQs : Op Tryd.prog 30 (SlA Quad) := opSlice opQ 32 Tryd.underlying30 (by kernel_rfl) (by kernel_rfl) (by decide)
structure RowOk {α : Type} (k : Nat) (cs : α → Array Value) (w : World) (s : SlA α) (ok : α → Prop) (most : Nat) : Prop where
  row : IsRow k cs w s.A s.l
  all : ∀ a ∈ s.l, ok a
  len : s.l.length ≤ most
theorem ints_ok {w : World} {s : SlA Int} (h : opInts.ok w s) : RowOk 1 i1C w s in64 1000000000000000 := by
  obtain ⟨h1, h2, h3, h4, h5, h6⟩ := h
  refine ⟨h1, h2, ?_⟩
  have : s.c * 8 ≤ 140737488351232 := h6
  omega
theorem qs_ok {w : World} {s : SlA Quad} (h : opQs.ok w s) : RowOk 4 quC w s qIn 1000000000000000 := by
  obtain ⟨h1, h2, h3, h4, h5, h6⟩ := h
  refine ⟨h1, h2, ?_⟩
  have : s.c * 32 ≤ 140737488351232 := h6
  omega
end Go.Proofs.YtcifcipjndiegaaDoor
namespace Go.Proofs.YtcifcipjndiegaaDoor.streamLost
open Go.ChangeShapes Go.WideShapes Go.ChangeAt Go.RowKit
theorem walk (a0 : SlA Quad) (a1 : SlA Quad) (a2 : SlA Int) (w : World) (hL : Laid w) (h0 : opQs.ok w a0) (h1 : opQs.ok w a1) (h2 : opInts.ok w a2) :
    Calls Tryd.prog 6 #[(opQs.cells a0).headD undef, (opQs.cells a1).headD undef, (opInts.cells a2).headD undef] w fun e w' => e = .returned (.bool true) ∧ Below w.heap.size w w' :=
  lost_law a0.A a1.A a2.A a0.c a1.c a2.c a0.l a1.l a2.l w hL (qs_ok h0).row (qs_ok h1).row (ints_ok h2).row (qs_ok h0).all (qs_ok h1).all (ints_ok h2).len (ints_ok h2).all
end Go.Proofs.YtcifcipjndiegaaDoor.streamLost
namespace Go.Proofs.YtcifcipjndiegaaDoor.streamLost
open Go.ChangeShapes Go.WideShapes Go.ChangeAt Go.RowKit
open Go.ChangeMaps (open_string shut_string)
set_option linter.unusedVariables false
theorem own : ownKnob Tryd.prog.godebug = none := by kernel_rfl
theorem laidOut : laidOutB Tryd.prog = true := by kernel_rfl
set_option maxRecDepth 100000 in
theorem lifted (os : Os) (started : os.Started) (H : Type) (enc : TypeId × Value → H) :
    ReturnsInHanded {} Tryd.checked os 6 .any (fun w args => (Rows.streamLostSpec.pre enc Tryd.prog Tryd.f6 [] false w args ∧ laidMetH Tryd.prog laid2 w) ∧ sizedMet enc Tryd.prog Tryd.f6 (OpenSpec.ofChange Rows.streamLostSpec) false w args) (Rows.streamLostSpec.post enc Tryd.prog Tryd.f6 false true false false) := by
  refine returns_and_shaped (C := Tryd.checked) (X := fun w _ => laidMetH Tryd.prog laid2 w) (fun _ _ _ hh h => h.of_heap hh) own started (by kernel_rfl) Tryd.func6
    (ChangeSpec.witness_shaped (enc := enc) (C := Tryd.checked) (os := os) (X := fun w _ => laidMetH Tryd.prog laid2 w) false (World.laidAll Tryd.prog os laid2) #[.slice none 0 0, .slice none 0 0, .slice none 0 0] 12 (World.laidAll_os _ _ _) (World.shaped_of_ZipB (by kernel_rfl) (by kernel_rfl)) (by kernel_rfl) (by kernel_rfl) (by kernel_rfl) (door_met os _)) ?_
  intro W base args ds gs before hval0 hW hsz0 hL hS
  have hval : ∀ (j : Nat) t v, Tryd.f6.params[j]? = some t → args[j]? = some v → Value.okWide Tryd.prog W .any base t v := hval0
  have hW' := hW
  obtain ⟨p, q, hA0, hV, rfl, hfz, hnd⟩ := hW
  have hA : DataW.TrodAll enc Tryd.prog W 0 (fun _ => true) true Tryd.f6.params.toList args.toList ds p := hA0
  have hsz : (DataW.weightsEach Tryd.prog (Tryd.f6.params.toList ++ Rows.streamLostSpec.plain.varTypes Tryd.prog) (ds ++ gs)).all (· ≤ reachBytes) = true := hsz0
  rw [Tryd.params6] at hA hval hsz
  obtain ⟨v0, vs0, d0, ds0, p0, q0, hargs, rfl, rfl, h0, r0⟩ := trodAll_cons hA
  obtain ⟨v1, vs1, d1, ds1, p1, q1, rfl, rfl, rfl, h1, r1⟩ := trodAll_cons r0
  obtain ⟨v2, vs2, d2, ds2, p2, q2, rfl, rfl, rfl, h2, r2⟩ := trodAll_cons r1
  obtain ⟨rfl, rfl, rfl⟩ := trodAll_nil r2
  obtain rfl : args = #[v0, v1, v2] := by cases args; simp_all
  obtain ⟨rfl, rfl⟩ := trodVars_none hV
  obtain ⟨a0x, len0, cap0, rfl⟩ := okWide_slice Tryd.underlying30 (hval 0 30 v0 rfl rfl)
  have k0 := h0
  have lt0 : ∀ x ∈ p0, x.block < W.heap.size := by obtain ⟨m, hm⟩ := k0; exact DataW.trod_lt m _ _ _ hm
  obtain ⟨a0, w0, e0⟩ : ∃ a, opQs.ok W a ∧ Value.slice a0x len0 cap0 = (opQs.cells a).headD undef := by
    obtain ⟨fuel, hf⟩ := h0
    obtain ⟨a, ha, hok⟩ := opQs.opens hf (fun n hn => of_decide_eq_true (List.all_eq_true.1 hsz n (DataW.weights_mem_each (j := 0) (t := 30) (by rfl) (by rfl) n hn)))
    refine ⟨a, hok, ?_⟩
    have : [Value.slice a0x len0 cap0] = opQs.cells a := ha
    rw [← this]
    rfl
  rw [e0] at k0 hW' ⊢
  obtain ⟨a1x, len1, cap1, rfl⟩ := okWide_slice Tryd.underlying30 (hval 1 30 v1 rfl rfl)
  have k1 := h1
  have lt1 : ∀ x ∈ p1, x.block < W.heap.size := by obtain ⟨m, hm⟩ := k1; exact DataW.trod_lt m _ _ _ hm
  obtain ⟨a1, w1, e1⟩ : ∃ a, opQs.ok W a ∧ Value.slice a1x len1 cap1 = (opQs.cells a).headD undef := by
    obtain ⟨fuel, hf⟩ := h1
    obtain ⟨a, ha, hok⟩ := opQs.opens hf (fun n hn => of_decide_eq_true (List.all_eq_true.1 hsz n (DataW.weights_mem_each (j := 1) (t := 30) (by rfl) (by rfl) n hn)))
    refine ⟨a, hok, ?_⟩
    have : [Value.slice a1x len1 cap1] = opQs.cells a := ha
    rw [← this]
    rfl
  rw [e1] at k1 hW' ⊢
  obtain ⟨a2x, len2, cap2, rfl⟩ := okWide_slice Tryd.underlying31 (hval 2 31 v2 rfl rfl)
  have k2 := h2
  have lt2 : ∀ x ∈ p2, x.block < W.heap.size := by obtain ⟨m, hm⟩ := k2; exact DataW.trod_lt m _ _ _ hm
  obtain ⟨a2, w2, e2⟩ : ∃ a, opInts.ok W a ∧ Value.slice a2x len2 cap2 = (opInts.cells a).headD undef := by
    obtain ⟨fuel, hf⟩ := h2
    obtain ⟨a, ha, hok⟩ := opInts.opens hf (fun n hn => of_decide_eq_true (List.all_eq_true.1 hsz n (DataW.weights_mem_each (j := 2) (t := 31) (by rfl) (by rfl) n hn)))
    refine ⟨a, hok, ?_⟩
    have : [Value.slice a2x len2 cap2] = opInts.cells a := ha
    rw [← this]
    rfl
  rw [e2] at k2 hW' ⊢
  clear hA0 hval0 hsz0
  refine (walk a0 a1 a2 W (laid_of hL hS) w0 w1 w2).mono fun e W' ⟨he, bel⟩ => ?_
  subst he
  exact ⟨_, rfl, _, _, _, [], _, [], hW', trodAll_mk1 (shut_bool Tryd.underlying4 _), (trodAll_cons_mk (Below.trod laidOut (by kernel_rfl) (of_decide_eq_true (by kernel_rfl)) k0 bel lt0) (trodAll_cons_mk (Below.trod laidOut (by kernel_rfl) (of_decide_eq_true (by kernel_rfl)) k1 bel lt1) (trodAll_cons_mk (Below.trod laidOut (by kernel_rfl) (of_decide_eq_true (by kernel_rfl)) k2 bel lt2) trodAll_mk0))), rfl, bel.frame _, fun h => by cases h⟩
theorem over : Rows.streamLostRow.holds Tryd.pinned (OpenSpec.ofChange Rows.streamLostSpec) :=
  OpenClaim.holds_of_wide 6 Tryd.f6 rfl rfl rfl rfl rfl rfl rfl ⟨rfl, rfl, rfl, rfl, rfl⟩ rfl rfl rfl rfl rfl (by kernel_rfl) Tryd.func6 (by kernel_rfl)
    (of_decide_eq_true (by kernel_rfl)) (by unfold Func.isWrapper; first | (rw [if_pos (by decide +kernel)]; kernel_rfl) | (rw [if_neg (by decide +kernel)]; exact ⟨rfl, rfl⟩))
    (fun os started H enc _ => lifted os started H enc)
theorem proved : Rows.StreamLostCardSaid :=
  Claim7.holds_tied_plain_at .later [] [.data, .data, .pinned] true (true, "6f311e653bb6413066dcd6c255ba4e90ddfde23d14300a6253a2c0eab8535950") false
    over (fun _ h => by cases h) (by kernel_rfl) (fun _ h => by cases h) streamLost_row_tie rfl ⟨rfl, rfl⟩ (by kernel_rfl) rfl
    (fun f fn hf hfn => by
      obtain rfl : f = 6 := Option.some.inj ((show Tryd.prog.funcNamed "onair/onairlaw16.StreamLost" = some 6 by kernel_rfl).symm.trans hf) |>.symm
      obtain rfl : fn = Tryd.f6 := (Option.some.inj (Tryd.func6.symm.trans hfn)).symm
      exact ⟨by kernel_rfl, fun j t ht => by
        rw [Tryd.params6] at ht
        have hm : t ∈ [30, 30, 31] := by simpa using Array.mem_of_getElem? ht
        have hall : ([30, 30, 31].all fun u => !Tryd.prog.wantsStandIn u) = true := by kernel_rfl
        exact (show Tryd.prog.wantsStandIn t = false by simpa using List.all_eq_true.1 hall t hm)⟩)
    (by kernel_rfl)
#print axioms proved
end Go.Proofs.YtcifcipjndiegaaDoor.streamLost
