/- Contracts of the reference: the reader of numbers, decoding an opt-out. -/
import Derived.Test.YtgdjpaeclicdfaaDoorRfE
namespace Go.Proofs.YtgdjpaeclicdfaaDoor
open Go.ChangeShapes Go.WideShapes Go.ChangeAt Go.RowKit
set_option linter.unusedVariables false
set_option linter.unusedSimpArgs false

def inCells (s : List UInt8) (q : Nat × Int) : List Value := [.string (bstr s), .int .i64 ((q.1 : Nat) : Int), .int .i64 q.2]
def nR (s : List UInt8) (q : Nat × Int) : Int × (Nat × Int) := if q.2 ≠ 0 then (0, q) else match rdInt s q.1 with
 | none => (0, (q.1, 10))
 | some (n, e) => (n, (e, 0))
def cntR (s : List UInt8) (q : Nat × Int) : Int × (Nat × Int) :=
 if (nR s q).2.2 = 0 ∧ ((nR s q).1 < 0 ∨ 7 < (nR s q).1) then (0, ((nR s q).2.1, 170)) else if (nR s q).2.2 ≠ 0 then (0, (nR s q).2) else nR s q
theorem nR_le {s : List UInt8} {q : Nat × Int} (h : q.1 ≤ s.length) : (nR s q).2.1 ≤ s.length := by
 unfold nR
 split
 ·exact h
 ·cases hr : rdInt s q.1 with
  | none => exact h
  | some p => exact (rdInt_le h hr).2
theorem cntR_le {s : List UInt8} {q : Nat × Int} (h : q.1 ≤ s.length) : (cntR s q).2.1 ≤ s.length := by
 have := nR_le h
 unfold cntR
 split
 ·exact this
 ·split <;> exact this
theorem nR_zero {s : List UInt8} {q : Nat × Int} {n : Int} {k : Nat} (h : nR s q = (n, (k, 0))) : q.2 = 0 ∧ rdInt s q.1 = some (n, k) := by
 unfold nR at h
 split at h
 ·next hq => simp only [Prod.mk.injEq] at h; obtain ⟨_, h2⟩ := h; rw [h2] at hq; exact absurd rfl hq
 ·next hq =>
  cases hr : rdInt s q.1 with
  | none => rw [hr] at h; simp at h
  | some p => rw [hr] at h; simp at h; obtain ⟨rfl, rfl⟩ := h; exact ⟨by simpa using hq, rfl⟩
theorem nR_fail {s : List UInt8} {q : Nat × Int} {n E : Int} {k : Nat} (h : nR s q = (n, (k, E))) (hE : E ≠ 0) : (q.2 = E ∧ n = 0) ∨ (q.2 = 0 ∧ E = 10 ∧ rdInt s q.1 = none) := by
 unfold nR at h
 split at h
 ·simp only [Prod.mk.injEq] at h; obtain ⟨h1, h2⟩ := h; rw [h2]; exact .inl ⟨rfl, h1.symm⟩
 ·next hq =>
  cases hr : rdInt s q.1 with
  | none => rw [hr] at h; simp at h; exact .inr ⟨by simpa using hq, h.2.2.symm, rfl⟩
  | some p => rw [hr] at h; simp at h; exact absurd h.2.2.symm hE
theorem cnt_nat {s : List UInt8} {q : Nat × Int} {n E : Int} {k : Nat} (h : cntR s q = (n, (k, E))) : ∃ m : Nat, cntR s q = (((m : Nat) : Int), (k, E)) ∧ m ≤ 7 := by
 have hn : 0 ≤ n ∧ n ≤ 7 := by
  have h1 := congrArg Prod.fst h
  simp only at h1
  rw [← h1]
  unfold cntR
  split
  ·simp
  ·next hc =>
   split
   ·simp
   ·next h0 => simp at h0; simp [h0] at hc; omega
 exact ⟨n.toNat, by rw [h]; congr 1; omega, by omega⟩
/-- What holds in a round of the loop over the alternatives. -/
def decRel (s : List UInt8) (m : Nat) (s0 f0 : Int) (k3 : Nat) (E3 : Int) (i kq : Nat) (E : Int) (al : Alts) : Prop :=
 (E = 0 → E3 = 0 ∧ rdAlts s m k3 = (rdAlts s (m - i) kq).map (fun p => (al ++ p.1, p.2))) ∧ (E ≠ 0 → decP s = (.zero, E))
theorem dec_three {s : List UInt8} {s0 f0 n1 : Int} {k1 k2 k3 : Nat} {E1 E2 E3 : Int} (h1 : nR s (0, 0) = (s0, (k1, E1))) (h2 : nR s (k1, E1) = (f0, (k2, E2))) (h3 : nR s (k2, E2) = (n1, (k3, E3))) :
  (E3 = 0 ∧ rdN s 3 0 = ([s0, f0, n1], some k3)) ∨ (E3 = 10 ∧ n1 = 0 ∧ decP s = (.zero, 10)) := by
 by_cases e3 : E3 = 0
 ·subst e3
  obtain ⟨e2, r3⟩ := nR_zero h3
  simp only at e2; subst e2
  obtain ⟨e1, r2⟩ := nR_zero h2
  simp only at e1; subst e1
  obtain ⟨_, r1⟩ := nR_zero h1
  refine .inl ⟨rfl, ?_⟩
  simp only at r1 r2 r3
  simp only [rdN, r1, r2, r3]
 ·refine .inr ?_
  have bad : ∀ {vs : List Int}, rdN s 3 0 = (vs, none) → decP s = (.zero, 10) := fun h => by
   unfold decP; rw [h]
   split
   ·next hh => cases hh
   ·rfl
  rcases nR_fail h3 e3 with ⟨q3, z3⟩ | ⟨q3, t3, r3⟩
  ·simp only at q3; subst q3
   rcases nR_fail h2 e3 with ⟨q2, z2⟩ | ⟨q2, t2, r2⟩
   ·simp only at q2; subst q2
    rcases nR_fail h1 e3 with ⟨q1, z1⟩ | ⟨q1, t1, r1⟩
    ·exact absurd q1.symm e3
    ·simp only at r1
     exact ⟨t1, z3, bad (vs := []) (by simp only [rdN, r1])⟩
   ·simp only at q2; subst q2
    obtain ⟨_, r1⟩ := nR_zero h1
    simp only at r1 r2
    exact ⟨t2, z3, bad (vs := [s0]) (by simp only [rdN, r1, r2])⟩
  ·simp only at q3; subst q3
   obtain ⟨q2, r2⟩ := nR_zero h2
   simp only at q2; subst q2
   obtain ⟨_, r1⟩ := nR_zero h1
   simp only at r1 r2 r3
   have z3 : n1 = 0 := by unfold nR at h3; rw [if_neg (by simp)] at h3; simp only [r3, Prod.mk.injEq] at h3; exact h3.1.symm
   exact ⟨t3, z3, bad (vs := [s0, f0]) (by simp only [rdN, r1, r2, r3])⟩
theorem cnt_cases {s : List UInt8} {q : Nat × Int} {m k3 : Nat} {E3 : Int} (h3 : cntR s q = (((m : Nat) : Int), (k3, E3))) :
  (E3 = 0 ∧ nR s q = (((m : Nat) : Int), (k3, 0)) ∧ m ≤ 7) ∨ (E3 = 170 ∧ m = 0 ∧ ∃ n1, nR s q = (n1, (k3, 0)) ∧ (n1 < 0 ∨ 7 < n1)) ∨ (E3 ≠ 0 ∧ m = 0 ∧ ∃ n1, nR s q = (n1, (k3, E3))) := by
 obtain ⟨n1, k, E, hn⟩ : ∃ n k E, nR s q = (n, (k, E)) := ⟨_, _, _, rfl⟩
 unfold cntR at h3
 rw [hn] at h3
 simp only at h3
 split at h3
 ·next hc => simp only [Prod.mk.injEq] at h3; obtain ⟨a, b, c⟩ := h3; obtain ⟨hc1, hc2⟩ := hc; subst hc1; exact .inr (.inl ⟨c.symm, by omega, n1, by rw [hn, b], hc2⟩)
 ·next hc =>
  split at h3
  ·next h0 => simp only [Prod.mk.injEq] at h3; obtain ⟨a, b, c⟩ := h3; exact .inr (.inr ⟨by rw [← c]; exact h0, by omega, n1, by rw [hn, b, c]⟩)
  ·next h0 =>
   simp only [Prod.mk.injEq] at h3
   obtain ⟨a, b, c⟩ := h3
   have hE : E = 0 := by simpa using h0
   subst hE
   exact .inl ⟨c.symm, by rw [hn, a, b], by simp only [true_and] at hc; omega⟩
theorem dec_mid {s : List UInt8} {s0 f0 : Int} {k1 k2 k3 m : Nat} {E1 E2 E3 : Int} (h1 : nR s (0, 0) = (s0, (k1, E1))) (h2 : nR s (k1, E1) = (f0, (k2, E2))) (h3 : cntR s (k2, E2) = (((m : Nat) : Int), (k3, E3))) : E3 = 0 → decP s = finP s s0 f0 (rdAlts s m k3) := fun e => by
 rcases cnt_cases h3 with ⟨_, hn, hm⟩ | ⟨e1, _⟩ | ⟨e1, _⟩
 ·rcases dec_three h1 h2 hn with ⟨_, hr⟩ | ⟨hx, _⟩
  ·unfold decP
   rw [hr]
   simp only
   rw [if_neg (by omega), Int.toNat_natCast]
  ·cases hx
 ·rw [e] at e1; cases e1
 ·exact absurd e e1
theorem dec_start {s : List UInt8} {s0 f0 : Int} {k1 k2 k3 m : Nat} {E1 E2 E3 : Int} (h1 : nR s (0, 0) = (s0, (k1, E1))) (h2 : nR s (k1, E1) = (f0, (k2, E2))) (h3 : cntR s (k2, E2) = (((m : Nat) : Int), (k3, E3))) : decRel s m s0 f0 k3 E3 0 k3 E3 [] := by
 refine ⟨fun e => ⟨e, by rw [Nat.sub_zero]; cases rdAlts s m k3 <;> simp⟩, fun e => ?_⟩
 rcases cnt_cases h3 with ⟨e1, _⟩ | ⟨e1, _, n1, hn, hb⟩ | ⟨e1, _, n1, hn⟩
 ·exact absurd e1 e
 ·subst e1
  rcases dec_three h1 h2 hn with ⟨_, hr⟩ | ⟨hx, _⟩
  ·unfold decP
   rw [hr]
   simp only
   rw [if_pos hb]
  ·cases hx
 ·rcases dec_three h1 h2 hn with ⟨e0, _⟩ | ⟨hx, _, hd⟩
  ·exact absurd e0 e1
  ·rw [hd, hx]
theorem dec_step {s : List UInt8} {m : Nat} {s0 f0 : Int} {k3 : Nat} {E3 : Int} {i kq : Nat} {E : Int} {al : Alts} {r x : Int} {k4 k5 : Nat} {E4 E5 : Int} (h : decRel s m s0 f0 k3 E3 i kq E al) (hE : E = 0) (hi : i < m) (hdm : E3 = 0 → decP s = finP s s0 f0 (rdAlts s m k3)) (h4 : nR s (kq, 0) = (r, (k4, E4))) (h5 : nR s (k4, E4) = (x, (k5, E5))) : decRel s m s0 f0 k3 E3 (i + 1) k5 E5 (al ++ [(r, x)]) := by
 obtain ⟨e3, hr⟩ := h.1 hE
 rw [show m - i = (m - (i + 1)) + 1 by omega] at hr
 refine ⟨fun e => ?_, fun e => ?_⟩
 ·subst e
  obtain ⟨e4, r5⟩ := nR_zero h5
  simp only at e4; subst e4
  obtain ⟨_, r4⟩ := nR_zero h4
  simp only at r4 r5
  refine ⟨e3, ?_⟩
  rw [hr, rdAlts_some (r := r) (x := x) (e := k5) (by simp only [rdN, r4, r5])]
  cases rdAlts s (m - (i + 1)) k5 <;> simp
 ·have hnone : (rdN s 2 kq).2 = none ∧ E5 = 10 := by
   rcases nR_fail h5 e with ⟨q5, _⟩ | ⟨q5, t5, r5⟩
   ·simp only at q5; subst q5
    rcases nR_fail h4 e with ⟨q4, _⟩ | ⟨_, t4, r4⟩
    ·exact absurd q4.symm e
    ·simp only at r4
     exact ⟨by simp only [rdN, r4], t4⟩
   ·simp only at q5; subst q5
    obtain ⟨_, r4⟩ := nR_zero h4
    simp only at r4 r5
    exact ⟨by simp only [rdN, r4, r5], t5⟩
  rw [hdm e3, hr, rdAlts_none hnone.1, hnone.2]
  rfl
theorem dec_end {s : List UInt8} {m : Nat} {s0 f0 : Int} {k3 : Nat} {E3 : Int} {i kq : Nat} {E : Int} {al : Alts} (h : decRel s m s0 f0 k3 E3 i kq E al) (hdm : E3 = 0 → decP s = finP s s0 f0 (rdAlts s m k3)) (hi : i = m) (hE : E = 0) : decP s = if kq ≠ s.length then (.zero, 10) else if validP s0 f0 al = true then (⟨s0, f0, al⟩, 0) else (.zero, 170) := by
 obtain ⟨e3, hr⟩ := h.1 hE
 rw [hdm e3, hr, hi, Nat.sub_self]
 simp [rdAlts, finP]
theorem dec_fin {s : List UInt8} {m : Nat} {s0 f0 : Int} {k3 : Nat} {E3 : Int} {i kq : Nat} {E : Int} {al : Alts} (h : decRel s m s0 f0 k3 E3 i kq E al) (hdm : E3 = 0 → decP s = finP s s0 f0 (rdAlts s m k3)) (_hal : al.length = i) (hi : i = m) (_hkq : kq ≤ s.length) (hE : E = 0) (hk : kq = s.length) : decP s = if validP s0 f0 al = true then (⟨s0, f0, al⟩, 0) else (.zero, 170) := by
 rw [dec_end h hdm hi hE, if_neg (by omega)]
theorem dec_short {s : List UInt8} {m : Nat} {s0 f0 : Int} {k3 : Nat} {E3 : Int} {i kq : Nat} {E : Int} {al : Alts} (h : decRel s m s0 f0 k3 E3 i kq E al) (hdm : E3 = 0 → decP s = finP s s0 f0 (rdAlts s m k3)) (_hal : al.length = i) (hi : i = m) (hE : E = 0) (hk : kq ≠ s.length) : decP s = (.zero, 10) := by
 rw [dec_end h hdm hi hE, if_pos hk]
theorem row_own {w : World} {base e i cc : Nat} {B : Option Addr} {al : Alts} (h : (rowsR base e 2 altC (fun _ _ => True) (fun _ _ => False) (.slice B i cc) al).F w) (hal : al.length = i) : w.ownsRow base e 2 (.slice B i cc) i (flat altC al) := by
 have := h.1
 rw [hal] at this
 exact this
theorem row_alts {w : World} {base e i cc : Nat} {B : Option Addr} {al : Alts} (h : (rowsR base e 2 altC (fun _ _ => True) (fun _ _ => False) (.slice B i cc) al).F w) (hal : al.length = i) : IsAlts w B i al := by
 have := Rd.of_own (row_own h hal)
 rw [flat_alt] at this
 exact ⟨hal, this⟩
set_option maxRecDepth 100000 in
set_option maxHeartbeats 4000000 in
theorem nR_bad (b : Nat) (s : List UInt8) (k : Nat) (w : World) (E : Int) (hE : E ≠ 0) (h : Box w b 116 [.string (bstr s), .int .i64 ((k : Nat) : Int), .int .i64 E].toArray) (hl : s.length ≤ 1000000) (hk : k ≤ s.length) :
  Calls Tryd.prog 70 #[.pointer (some ⟨b, 0, none⟩)] w fun e w' => e = .returned (.int .i64 (nR s (k, E)).1) ∧ Box w' b 116 (inCells s (nR s (k, E)).2).toArray ∧ w.grownBy w' (some b) := by
 have HP := Hp.own (vs := [.string (bstr s), .int .i64 ((k : Nat) : Int), .int .i64 E]) h
 have hN : nR s (k, E) = (0, (k, E)) := by unfold nR; rw [if_pos hE]
 refine w_enter 34 [(0, (.pointer (some ⟨b, 0, none⟩)))] Tryd.func70 rfl Tryd.ntmps70 (by kernel_rfl) (by kernel_rfl) fun a H => ?_
 refine wp_seq (w_region ?_)
 refine H.v 2 (.int .i64 0) fun a H => ?_
 refine wpList_nil (then_normal (wp_seq (wp_seq (w_region ?_))))
 refine H.v 6 (.pointer (some ⟨b, 0, none⟩)) fun a H => ?_
 refine H.v 7 (.pointer (some ⟨b, 0, none⟩)) fun a H => ?_
 refine H.v 8 (.pointer (some ⟨b, 2, none⟩)) fun a H => ?_
 refine H.u 9 (.int .i64 E) (ex_load1 (by kernel_rfl) (by kernel_rfl) (HP.cell 0 rfl 2 rfl)) fun a H => ?_
 refine H.valE 10 (.bool (E != 0)) (.bool true) (by kernel_rfl) (by kernel_rfl) ((congrArg Value.bool (bne_iff_ne.2 hE))) fun a H => ?_
 refine wpList_nil (then_normal ?_)
 refine w_ift H rfl ?_
 refine wp_seq (w_region ?_)
 refine H.v 2 (.int .i64 0) fun a H => ?_
 refine wpList_nil (then_normal (wp_ret (then_ret ?_)))
 refine H.ret1 (fn := Tryd.f70) Tryd.results70 (RV.tmp_ (v := (.int .i64 0)) (by kernel_rfl)) ?_
 exact ⟨by rw [hN], by rw [hN]; exact HP.at_ 0 rfl, HP.only b (by intro x hx; simp only [List.mem_cons, List.not_mem_nil, or_false] at hx; rcases hx with rfl <;> simp [bx])⟩
set_option maxRecDepth 100000 in
set_option maxHeartbeats 4000000 in
theorem nR_none (b : Nat) (s : List UInt8) (k : Nat) (w : World) (hR : rdInt s k = none) (h : Box w b 116 [.string (bstr s), .int .i64 ((k : Nat) : Int), .int .i64 0].toArray) (hl : s.length ≤ 1000000) (hk : k ≤ s.length) :
  Calls Tryd.prog 70 #[.pointer (some ⟨b, 0, none⟩)] w fun e w' => e = .returned (.int .i64 (nR s (k, 0)).1) ∧ Box w' b 116 (inCells s (nR s (k, 0)).2).toArray ∧ w.grownBy w' (some b) := by
 have HP := Hp.own (vs := [.string (bstr s), .int .i64 ((k : Nat) : Int), .int .i64 0]) h
 have hN : nR s (k, 0) = (0, (k, 10)) := by unfold nR; rw [if_neg (by simp)]; simp only [hR]
 refine w_enter 34 [(0, (.pointer (some ⟨b, 0, none⟩)))] Tryd.func70 rfl Tryd.ntmps70 (by kernel_rfl) (by kernel_rfl) fun a H => ?_
 refine wp_seq (w_region ?_)
 refine H.v 2 (.int .i64 0) fun a H => ?_
 refine wpList_nil (then_normal (wp_seq (wp_seq (w_region ?_))))
 refine H.v 6 (.pointer (some ⟨b, 0, none⟩)) fun a H => ?_
 refine H.v 7 (.pointer (some ⟨b, 0, none⟩)) fun a H => ?_
 refine H.v 8 (.pointer (some ⟨b, 2, none⟩)) fun a H => ?_
 refine H.u 9 (.int .i64 0) (ex_load1 (by kernel_rfl) (by kernel_rfl) (HP.cell 0 rfl 2 rfl)) fun a H => ?_
 refine H.v 10 (.bool false) fun a H => ?_
 refine wpList_nil (then_normal ?_)
 refine w_iff H rfl ?_
 refine wp_skip (then_normal (wp_seq ?_))
 refine An.start (fun v => Hp w v [bx b 116 [(.string (bstr s)), (.int .i64 ((k : Nat) : Int)), (.int .i64 0)] false] []) 16 16 HP wide_follows rfl fun w_1 HP => ?_
 refine An.p H (.inr HP) 0 12 (.pointer (some ⟨b, 0, none⟩)) fun a H => ?_
 refine An.p H (.inr HP) 1 13 (.pointer (some ⟨b, 0, none⟩)) fun a H => ?_
 refine An.p H (.inr HP) 2 14 (.pointer (some ⟨b, 0, none⟩)) fun a H => ?_
 refine An.val H (HP) 3 15 (.string (bstr s)) rfl (by kernel_rfl) (by kernel_rfl) (fun _ _ _ h => h) (fun _ hS => ex_load1 (by kernel_rfl) (by kernel_rfl) (hS.cell 0 rfl 0 rfl)) fun a H => ?_
 refine An.p H (.inr HP) 4 16 (.pointer (some ⟨b, 0, none⟩)) fun a H => ?_
 refine An.p H (.inr HP) 5 17 (.pointer (some ⟨b, 0, none⟩)) fun a H => ?_
 refine An.p H (.inr HP) 6 18 (.pointer (some ⟨b, 1, none⟩)) fun a H => ?_
 refine An.val H (HP) 7 19 (.int .i64 ((k : Nat) : Int)) rfl (by kernel_rfl) (by kernel_rfl) (fun _ _ _ h => h) (fun _ hS => ex_load1 (by kernel_rfl) (by kernel_rfl) (hS.cell 0 rfl 1 rfl)) fun a H => ?_
 refine An.one 8 (by kernel_rfl) ?_
 refine Op.call H 20 rfl (by kernel_rfl) (Eq.trans (by kernel_rfl : _ = (callFunc 68 #[(.string (bstr s)), (.int .i64 ((k : Nat) : Int))]).run Tryd.prog w_1) (Tryd.call68 _ _)) ((by have hh := rint_any s k w_1 hl hk; rw [hR] at hh; exact hh)) ?_
 rintro e w_2 ⟨rfl, hb⟩
 refine ⟨_, rfl, ?_⟩
 intro a H
 have HP := HP.next hb
 refine ⟨.inr (HP), ?_⟩
 refine An.p H (.inr HP) 9 11 (.tuple #[(.int .i64 0), (.int .i64 0), (.int .i64 10)]) fun a H => ?_
 refine An.p H (.inr HP) 10 21 (.int .i64 0) fun a H => ?_
 refine An.p H (.inr HP) 11 22 (.int .i64 0) fun a H => ?_
 refine An.p H (.inr HP) 12 23 (.int .i64 10) fun a H => ?_
 refine An.p H (.inr HP) 13 3 (.int .i64 0) fun a H => ?_
 refine An.p H (.inr HP) 14 4 (.int .i64 0) fun a H => ?_
 refine An.p H (.inr HP) 15 5 (.int .i64 10) fun a H => ?_
 refine An.done (by kernel_rfl) ?_
 refine then_normal (wp_seq (wp_seq (w_region ?_)))
 refine H.v 24 (.int .i64 10) fun a H => ?_
 refine H.v 25 (.bool true) fun a H => ?_
 refine wpList_nil (then_normal ?_)
 refine w_ift H rfl ?_
 refine wp_seq (w_region ?_)
 refine H.v 26 (.pointer (some ⟨b, 0, none⟩)) fun a H => ?_
 refine H.v 27 (.pointer (some ⟨b, 0, none⟩)) fun a H => ?_
 refine H.v 28 (.pointer (some ⟨b, 2, none⟩)) fun a H => ?_
 refine H.store HP 0 b 2 1 116 _ false (.int .i64 10) [bx b 116 [(.string (bstr s)), (.int .i64 ((k : Nat) : Int)), (.int .i64 10)] false] (by kernel_rfl) (by kernel_rfl) (by kernel_rfl) rfl (by kernel_rfl) (by kernel_rfl) (by kernel_rfl) (by kernel_rfl) (by kernel_rfl) fun w_3 a H HP => ?_
 refine wpList_nil (then_normal (wp_seq (w_region ?_)))
 refine H.v 2 (.int .i64 0) fun a H => ?_
 refine wpList_nil (then_normal (wp_ret (then_ret ?_)))
 refine H.ret1 (fn := Tryd.f70) Tryd.results70 (RV.tmp_ (v := (.int .i64 0)) (by kernel_rfl)) ?_
 exact ⟨by rw [hN], by rw [hN]; exact HP.at_ 0 rfl, HP.only b (by intro x hx; simp only [List.mem_cons, List.not_mem_nil, or_false] at hx; rcases hx with rfl <;> simp [bx])⟩
set_option maxRecDepth 100000 in
set_option maxHeartbeats 4000000 in
theorem nR_some (b : Nat) (s : List UInt8) (k : Nat) (w : World) (n : Int) (e : Nat) (hR : rdInt s k = some (n, e)) (h : Box w b 116 [.string (bstr s), .int .i64 ((k : Nat) : Int), .int .i64 0].toArray) (hl : s.length ≤ 1000000) (hk : k ≤ s.length) :
  Calls Tryd.prog 70 #[.pointer (some ⟨b, 0, none⟩)] w fun e w' => e = .returned (.int .i64 (nR s (k, 0)).1) ∧ Box w' b 116 (inCells s (nR s (k, 0)).2).toArray ∧ w.grownBy w' (some b) := by
 have HP := Hp.own (vs := [.string (bstr s), .int .i64 ((k : Nat) : Int), .int .i64 0]) h
 have hN : nR s (k, 0) = (n, (e, 0)) := by unfold nR; rw [if_neg (by simp)]; simp only [hR]
 refine w_enter 34 [(0, (.pointer (some ⟨b, 0, none⟩)))] Tryd.func70 rfl Tryd.ntmps70 (by kernel_rfl) (by kernel_rfl) fun a H => ?_
 refine wp_seq (w_region ?_)
 refine H.v 2 (.int .i64 0) fun a H => ?_
 refine wpList_nil (then_normal (wp_seq (wp_seq (w_region ?_))))
 refine H.v 6 (.pointer (some ⟨b, 0, none⟩)) fun a H => ?_
 refine H.v 7 (.pointer (some ⟨b, 0, none⟩)) fun a H => ?_
 refine H.v 8 (.pointer (some ⟨b, 2, none⟩)) fun a H => ?_
 refine H.u 9 (.int .i64 0) (ex_load1 (by kernel_rfl) (by kernel_rfl) (HP.cell 0 rfl 2 rfl)) fun a H => ?_
 refine H.v 10 (.bool false) fun a H => ?_
 refine wpList_nil (then_normal ?_)
 refine w_iff H rfl ?_
 refine wp_skip (then_normal (wp_seq ?_))
 refine An.start (fun v => Hp w v [bx b 116 [(.string (bstr s)), (.int .i64 ((k : Nat) : Int)), (.int .i64 0)] false] []) 16 16 HP wide_follows rfl fun w_1 HP => ?_
 refine An.p H (.inr HP) 0 12 (.pointer (some ⟨b, 0, none⟩)) fun a H => ?_
 refine An.p H (.inr HP) 1 13 (.pointer (some ⟨b, 0, none⟩)) fun a H => ?_
 refine An.p H (.inr HP) 2 14 (.pointer (some ⟨b, 0, none⟩)) fun a H => ?_
 refine An.val H (HP) 3 15 (.string (bstr s)) rfl (by kernel_rfl) (by kernel_rfl) (fun _ _ _ h => h) (fun _ hS => ex_load1 (by kernel_rfl) (by kernel_rfl) (hS.cell 0 rfl 0 rfl)) fun a H => ?_
 refine An.p H (.inr HP) 4 16 (.pointer (some ⟨b, 0, none⟩)) fun a H => ?_
 refine An.p H (.inr HP) 5 17 (.pointer (some ⟨b, 0, none⟩)) fun a H => ?_
 refine An.p H (.inr HP) 6 18 (.pointer (some ⟨b, 1, none⟩)) fun a H => ?_
 refine An.val H (HP) 7 19 (.int .i64 ((k : Nat) : Int)) rfl (by kernel_rfl) (by kernel_rfl) (fun _ _ _ h => h) (fun _ hS => ex_load1 (by kernel_rfl) (by kernel_rfl) (hS.cell 0 rfl 1 rfl)) fun a H => ?_
 refine An.one 8 (by kernel_rfl) ?_
 refine Op.call H 20 rfl (by kernel_rfl) (Eq.trans (by kernel_rfl : _ = (callFunc 68 #[(.string (bstr s)), (.int .i64 ((k : Nat) : Int))]).run Tryd.prog w_1) (Tryd.call68 _ _)) ((by have hh := rint_any s k w_1 hl hk; rw [hR] at hh; exact hh)) ?_
 rintro e w_2 ⟨rfl, hb⟩
 refine ⟨_, rfl, ?_⟩
 intro a H
 have HP := HP.next hb
 refine ⟨.inr (HP), ?_⟩
 refine An.p H (.inr HP) 9 11 (.tuple #[(.int .i64 n), (.int .i64 ((e : Nat) : Int)), (.int .i64 0)]) fun a H => ?_
 refine An.p H (.inr HP) 10 21 (.int .i64 n) fun a H => ?_
 refine An.p H (.inr HP) 11 22 (.int .i64 ((e : Nat) : Int)) fun a H => ?_
 refine An.p H (.inr HP) 12 23 (.int .i64 0) fun a H => ?_
 refine An.p H (.inr HP) 13 3 (.int .i64 n) fun a H => ?_
 refine An.p H (.inr HP) 14 4 (.int .i64 ((e : Nat) : Int)) fun a H => ?_
 refine An.p H (.inr HP) 15 5 (.int .i64 0) fun a H => ?_
 refine An.done (by kernel_rfl) ?_
 refine then_normal (wp_seq (wp_seq (w_region ?_)))
 refine H.v 24 (.int .i64 0) fun a H => ?_
 refine H.v 25 (.bool false) fun a H => ?_
 refine wpList_nil (then_normal ?_)
 refine w_iff H rfl ?_
 refine wp_skip (then_normal (wp_seq (w_region ?_)))
 refine H.v 29 (.pointer (some ⟨b, 0, none⟩)) fun a H => ?_
 refine H.v 30 (.int .i64 ((e : Nat) : Int)) fun a H => ?_
 refine H.v 31 (.pointer (some ⟨b, 0, none⟩)) fun a H => ?_
 refine H.v 32 (.pointer (some ⟨b, 1, none⟩)) fun a H => ?_
 refine H.store HP 0 b 1 1 116 _ false (.int .i64 ((e : Nat) : Int)) [bx b 116 [(.string (bstr s)), (.int .i64 ((e : Nat) : Int)), (.int .i64 0)] false] (by kernel_rfl) (by kernel_rfl) (by kernel_rfl) rfl (by kernel_rfl) (by kernel_rfl) (by kernel_rfl) (by kernel_rfl) (by kernel_rfl) fun w_3 a H HP => ?_
 refine wpList_nil (then_normal (wp_seq (w_region ?_)))
 refine H.v 33 (.int .i64 n) fun a H => ?_
 refine H.v 2 (.int .i64 n) fun a H => ?_
 refine wpList_nil (then_normal (wp_ret ?_))
 refine H.ret1 (fn := Tryd.f70) Tryd.results70 (RV.tmp_ (v := (.int .i64 n)) (by kernel_rfl)) ?_
 exact ⟨by rw [hN], by rw [hN]; exact HP.at_ 0 rfl, HP.only b (by intro x hx; simp only [List.mem_cons, List.not_mem_nil, or_false] at hx; rcases hx with rfl <;> simp [bx])⟩
theorem nR_any (b : Nat) (s : List UInt8) (q : Nat × Int) (w : World) (h : Box w b 116 (inCells s q).toArray) (hl : s.length ≤ 1000000) (hk : q.1 ≤ s.length) :
  Calls Tryd.prog 70 #[.pointer (some ⟨b, 0, none⟩)] w fun e w' => e = .returned (.int .i64 (nR s q).1) ∧ Box w' b 116 (inCells s (nR s q).2).toArray ∧ w.grownBy w' (some b) := by
 obtain ⟨k, E⟩ := q
 by_cases hE : E = 0
 ·subst hE
  cases hR : rdInt s k with
  | none => exact nR_none b s k w hR h hl hk
  | some p => exact nR_some b s k w p.1 p.2 hR h hl hk
 ·exact nR_bad b s k w E hE h hl hk

set_option maxRecDepth 100000 in
set_option maxHeartbeats 4000000 in
theorem cnt_any (b : Nat) (s : List UInt8) (q : Nat × Int) (w : World) (h : Box w b 116 (inCells s q).toArray) (hl : s.length ≤ 1000000) (hk : q.1 ≤ s.length) :
  Calls Tryd.prog 71 #[.pointer (some ⟨b, 0, none⟩), .int .i64 7, .int .i64 170] w fun e w' => e = .returned (.int .i64 (cntR s q).1) ∧ Box w' b 116 (inCells s (cntR s q).2).toArray ∧ w.grownBy w' (some b) := by
 have HP := Hp.own (vs := inCells s q) h
 obtain ⟨n1, k1, E1, hN⟩ : ∃ n k E, nR s q = (n, (k, E)) := ⟨_, _, _, rfl⟩
 refine w_enter 34 [(0, (.pointer (some ⟨b, 0, none⟩))), (1, (.int .i64 7)), (2, (.int .i64 170))] Tryd.func71 rfl Tryd.ntmps71 (by kernel_rfl) (by kernel_rfl) fun a H => ?_
 refine wp_seq (w_region ?_)
 refine H.v 6 (.int .i64 0) fun a H => ?_
 refine wpList_nil (then_normal (wp_seq (w_region ?_)))
 refine H.v 8 (.pointer (some ⟨b, 0, none⟩)) fun a H => ?_
 refine H.call 9 (by kernel_rfl) (Eq.trans (by kernel_rfl : _ = (callFunc 70 #[(.pointer (some ⟨b, 0, none⟩))]).run Tryd.prog w) (Tryd.call70 _ _)) ((by have hh := nR_any b s q w (HP.at_ 0 rfl) hl hk; simp only [hN] at hh; exact hh)) ?_
 rintro e w_1 ⟨rfl, hbx, hgr⟩
 refine ⟨_, rfl, ?_⟩
 intro a H
 have HP := HP.changed 0 rfl [.string (bstr s), .int .i64 ((k1 : Nat) : Int), .int .i64 E1] [bx b 116 [(.string (bstr s)), (.int .i64 ((k1 : Nat) : Int)), (.int .i64 E1)] false] (by kernel_rfl) hgr hbx
 refine H.v 7 (.int .i64 n1) fun a H => ?_
 refine wpList_nil (then_normal (wp_seq (wp_seq (w_region ?_))))
 refine H.v 10 (.pointer (some ⟨b, 0, none⟩)) fun a H => ?_
 refine H.v 11 (.pointer (some ⟨b, 0, none⟩)) fun a H => ?_
 refine H.v 12 (.pointer (some ⟨b, 2, none⟩)) fun a H => ?_
 refine H.u 13 (.int .i64 E1) (ex_load1 (by kernel_rfl) (by kernel_rfl) (HP.cell 0 rfl 2 rfl)) fun a H => ?_
 refine H.v 14 (.bool (E1 == 0)) fun a H => ?_
 refine H.v 15 (.bool (E1 == 0)) fun a H => ?_
 refine H.split 15 rfl (fun g15 H => ?_) (fun g15 H => ?_)
 ·have g15p := eq_of_beq g15
  refine H.v 16 (.int .i64 n1) fun a H => ?_
  refine H.v 17 (.bool (decide (n1 < 0))) fun a H => ?_
  refine H.v 18 (.bool (decide (n1 < 0))) fun a H => ?_
  refine H.split 18 rfl (fun g18 H => ?_) (fun g18 H => ?_)
  ·have g18p := of_decide_eq_true g18
   refine H.s 19 fun a H => ?_
   refine H.s 20 fun a H => ?_
   refine H.s 21 fun a H => ?_
   refine H.v 22 (.bool true) fun a H => ?_
   refine H.v 23 (.bool true) fun a H => ?_
   refine wpList_nil ?_
   have H := H.keep (L' := [(23, (.bool true)), (7, (.int .i64 n1)), (9, (.int .i64 n1)), (8, (.pointer (some ⟨b, 0, none⟩))), (6, (.int .i64 0)), (0, (.pointer (some ⟨b, 0, none⟩))), (1, (.int .i64 7)), (2, (.int .i64 170))]) (by kernel_rfl)
   refine then_normal ?_
   refine w_ift H rfl ?_
   refine w_region ?_
   refine H.v 24 (.pointer (some ⟨b, 0, none⟩)) fun a H => ?_
   refine H.v 25 (.int .i64 170) fun a H => ?_
   refine H.v 26 (.pointer (some ⟨b, 0, none⟩)) fun a H => ?_
   refine H.v 27 (.pointer (some ⟨b, 2, none⟩)) fun a H => ?_
   refine H.store HP 0 b 2 1 116 _ false (.int .i64 170) [bx b 116 [(.string (bstr s)), (.int .i64 ((k1 : Nat) : Int)), (.int .i64 170)] false] (by kernel_rfl) (by kernel_rfl) (by kernel_rfl) rfl (by kernel_rfl) (by kernel_rfl) (by kernel_rfl) (by kernel_rfl) (by kernel_rfl) fun w_2 a H HP => ?_
   refine wpList_nil (then_normal (wp_seq (wp_seq (w_region ?_))))
   refine H.v 28 (.pointer (some ⟨b, 0, none⟩)) fun a H => ?_
   refine H.v 29 (.pointer (some ⟨b, 0, none⟩)) fun a H => ?_
   refine H.v 30 (.pointer (some ⟨b, 2, none⟩)) fun a H => ?_
   refine H.u 31 (.int .i64 170) (ex_load1 (by kernel_rfl) (by kernel_rfl) (HP.cell 0 rfl 2 rfl)) fun a H => ?_
   refine H.v 32 (.bool true) fun a H => ?_
   refine wpList_nil (then_normal ?_)
   refine w_ift H rfl ?_
   refine wp_seq (w_region ?_)
   refine H.v 6 (.int .i64 0) fun a H => ?_
   refine wpList_nil (then_normal (wp_ret (then_ret ?_)))
   refine H.ret1 (fn := Tryd.f71) Tryd.results71 (RV.tmp_ (v := (.int .i64 0)) (by kernel_rfl)) ?_
   have hc : cntR s q = (0, (k1, 170)) := by unfold cntR; rw [hN]; simp only; rw [if_pos ⟨by omega, by omega⟩]
   exact ⟨by rw [hc], by rw [hc]; exact HP.at_ 0 rfl, HP.only b (by intro x hx; simp only [List.mem_cons, List.not_mem_nil, or_false] at hx; rcases hx with rfl <;> simp [bx])⟩
  ·have g18p := of_decide_eq_false g18
   refine H.v 19 (.int .i64 n1) fun a H => ?_
   refine H.v 20 (.int .i64 7) fun a H => ?_
   refine H.v 21 (.bool (decide (n1 > 7))) fun a H => ?_
   refine H.v 22 (.bool (decide (n1 > 7))) fun a H => ?_
   refine H.v 23 (.bool (decide (n1 > 7))) fun a H => ?_
   refine wpList_nil ?_
   have H := H.keep (L' := [(23, (.bool (decide (n1 > 7)))), (7, (.int .i64 n1)), (9, (.int .i64 n1)), (8, (.pointer (some ⟨b, 0, none⟩))), (6, (.int .i64 0)), (0, (.pointer (some ⟨b, 0, none⟩))), (1, (.int .i64 7)), (2, (.int .i64 170))]) (by kernel_rfl)
   refine then_normal ?_
   refine w_if H rfl (fun g23 => ?_) (fun g23 => ?_)
   ·have g23p := of_decide_eq_true g23
    refine w_region ?_
    refine H.v 24 (.pointer (some ⟨b, 0, none⟩)) fun a H => ?_
    refine H.v 25 (.int .i64 170) fun a H => ?_
    refine H.v 26 (.pointer (some ⟨b, 0, none⟩)) fun a H => ?_
    refine H.v 27 (.pointer (some ⟨b, 2, none⟩)) fun a H => ?_
    refine H.store HP 0 b 2 1 116 _ false (.int .i64 170) [bx b 116 [(.string (bstr s)), (.int .i64 ((k1 : Nat) : Int)), (.int .i64 170)] false] (by kernel_rfl) (by kernel_rfl) (by kernel_rfl) rfl (by kernel_rfl) (by kernel_rfl) (by kernel_rfl) (by kernel_rfl) (by kernel_rfl) fun w_3 a H HP => ?_
    refine wpList_nil (then_normal (wp_seq (wp_seq (w_region ?_))))
    refine H.v 28 (.pointer (some ⟨b, 0, none⟩)) fun a H => ?_
    refine H.v 29 (.pointer (some ⟨b, 0, none⟩)) fun a H => ?_
    refine H.v 30 (.pointer (some ⟨b, 2, none⟩)) fun a H => ?_
    refine H.u 31 (.int .i64 170) (ex_load1 (by kernel_rfl) (by kernel_rfl) (HP.cell 0 rfl 2 rfl)) fun a H => ?_
    refine H.v 32 (.bool true) fun a H => ?_
    refine wpList_nil (then_normal ?_)
    refine w_ift H rfl ?_
    refine wp_seq (w_region ?_)
    refine H.v 6 (.int .i64 0) fun a H => ?_
    refine wpList_nil (then_normal (wp_ret (then_ret ?_)))
    refine H.ret1 (fn := Tryd.f71) Tryd.results71 (RV.tmp_ (v := (.int .i64 0)) (by kernel_rfl)) ?_
    have hc : cntR s q = (0, (k1, 170)) := by unfold cntR; rw [hN]; simp only; rw [if_pos ⟨by omega, by omega⟩]
    exact ⟨by rw [hc], by rw [hc]; exact HP.at_ 0 rfl, HP.only b (by intro x hx; simp only [List.mem_cons, List.not_mem_nil, or_false] at hx; rcases hx with rfl <;> simp [bx])⟩
   ·have g23p := of_decide_eq_false g23
    refine wp_skip (then_normal (wp_seq (wp_seq (w_region ?_))))
    refine H.v 28 (.pointer (some ⟨b, 0, none⟩)) fun a H => ?_
    refine H.v 29 (.pointer (some ⟨b, 0, none⟩)) fun a H => ?_
    refine H.v 30 (.pointer (some ⟨b, 2, none⟩)) fun a H => ?_
    refine H.u 31 (.int .i64 E1) (ex_load1 (by kernel_rfl) (by kernel_rfl) (HP.cell 0 rfl 2 rfl)) fun a H => ?_
    refine H.v 32 (.bool (E1 != 0)) fun a H => ?_
    refine wpList_nil (then_normal ?_)
    refine w_if H rfl (fun g32 => ?_) (fun g32 => ?_)
    ·have g32p := bne_iff_ne.1 g32
     refine wp_seq (w_region ?_)
     refine H.v 6 (.int .i64 0) fun a H => ?_
     refine wpList_nil (then_normal (wp_ret (then_ret ?_)))
     refine H.ret1 (fn := Tryd.f71) Tryd.results71 (RV.tmp_ (v := (.int .i64 0)) (by kernel_rfl)) ?_
     have hc : cntR s q = (0, (k1, E1)) := by first | (exfalso; omega) | (unfold cntR; rw [hN]; simp only; rw [if_neg (by omega), if_pos (by omega)])
     exact ⟨by rw [hc], by rw [hc]; exact HP.at_ 0 rfl, HP.only b (by intro x hx; simp only [List.mem_cons, List.not_mem_nil, or_false] at hx; rcases hx with rfl <;> simp [bx])⟩
    ·have g32p := eq_of_bne_false g32
     refine wp_skip (then_normal (wp_seq (w_region ?_)))
     refine H.v 33 (.int .i64 n1) fun a H => ?_
     refine H.v 6 (.int .i64 n1) fun a H => ?_
     refine wpList_nil (then_normal (wp_ret ?_))
     refine H.ret1 (fn := Tryd.f71) Tryd.results71 (RV.tmp_ (v := (.int .i64 n1)) (by kernel_rfl)) ?_
     have hc : cntR s q = (n1, (k1, E1)) := by first | (exfalso; omega) | (unfold cntR; rw [hN]; simp only; rw [if_neg (by omega), if_neg (by omega)])
     exact ⟨by rw [hc], by rw [hc]; exact HP.at_ 0 rfl, HP.only b (by intro x hx; simp only [List.mem_cons, List.not_mem_nil, or_false] at hx; rcases hx with rfl <;> simp [bx])⟩
 ·have g15p := ne_of_beq_false g15
  refine H.s 16 fun a H => ?_
  refine H.s 17 fun a H => ?_
  refine H.s 18 fun a H => ?_
  refine H.s 19 fun a H => ?_
  refine H.s 20 fun a H => ?_
  refine H.s 21 fun a H => ?_
  refine H.s 22 fun a H => ?_
  refine H.v 23 (.bool false) fun a H => ?_
  refine wpList_nil ?_
  have H := H.keep (L' := [(23, (.bool false)), (7, (.int .i64 n1)), (9, (.int .i64 n1)), (8, (.pointer (some ⟨b, 0, none⟩))), (6, (.int .i64 0)), (0, (.pointer (some ⟨b, 0, none⟩))), (1, (.int .i64 7)), (2, (.int .i64 170))]) (by kernel_rfl)
  refine then_normal ?_
  refine w_iff H rfl ?_
  refine wp_skip (then_normal (wp_seq (wp_seq (w_region ?_))))
  refine H.v 28 (.pointer (some ⟨b, 0, none⟩)) fun a H => ?_
  refine H.v 29 (.pointer (some ⟨b, 0, none⟩)) fun a H => ?_
  refine H.v 30 (.pointer (some ⟨b, 2, none⟩)) fun a H => ?_
  refine H.u 31 (.int .i64 E1) (ex_load1 (by kernel_rfl) (by kernel_rfl) (HP.cell 0 rfl 2 rfl)) fun a H => ?_
  refine H.v 32 (.bool (E1 != 0)) fun a H => ?_
  refine wpList_nil (then_normal ?_)
  refine w_if H rfl (fun g32 => ?_) (fun g32 => ?_)
  ·have g32p := bne_iff_ne.1 g32
   refine wp_seq (w_region ?_)
   refine H.v 6 (.int .i64 0) fun a H => ?_
   refine wpList_nil (then_normal (wp_ret (then_ret ?_)))
   refine H.ret1 (fn := Tryd.f71) Tryd.results71 (RV.tmp_ (v := (.int .i64 0)) (by kernel_rfl)) ?_
   have hc : cntR s q = (0, (k1, E1)) := by first | (exfalso; omega) | (unfold cntR; rw [hN]; simp only; rw [if_neg (by omega), if_pos (by omega)])
   exact ⟨by rw [hc], by rw [hc]; exact HP.at_ 0 rfl, HP.only b (by intro x hx; simp only [List.mem_cons, List.not_mem_nil, or_false] at hx; rcases hx with rfl <;> simp [bx])⟩
  ·have g32p := eq_of_bne_false g32
   refine wp_skip (then_normal (wp_seq (w_region ?_)))
   refine H.v 33 (.int .i64 n1) fun a H => ?_
   refine H.v 6 (.int .i64 n1) fun a H => ?_
   refine wpList_nil (then_normal (wp_ret ?_))
   refine H.ret1 (fn := Tryd.f71) Tryd.results71 (RV.tmp_ (v := (.int .i64 n1)) (by kernel_rfl)) ?_
   have hc : cntR s q = (n1, (k1, E1)) := by first | (exfalso; omega) | (unfold cntR; rw [hN]; simp only; rw [if_neg (by omega), if_neg (by omega)])
   exact ⟨by rw [hc], by rw [hc]; exact HP.at_ 0 rfl, HP.only b (by intro x hx; simp only [List.mem_cons, List.not_mem_nil, or_false] at hx; rcases hx with rfl <;> simp [bx])⟩
set_option maxRecDepth 100000 in
set_option maxHeartbeats 4000000 in
theorem rdecode_any (s : List UInt8) (w : World) (hl : s.length ≤ 1000000) :
  Calls Tryd.prog 46 #[.string (bstr s)] w (RetDec (decP s) w) := by
 have HP := Hp.start w
 obtain ⟨s0, k1, E1, h1⟩ : ∃ n k E, nR s (0, 0) = (n, (k, E)) := ⟨_, _, _, rfl⟩
 have hk1 : k1 ≤ s.length := by have := nR_le (s := s) (q := (0, 0)) (Nat.zero_le _); rw [h1] at this; exact this
 obtain ⟨f0, k2, E2, h2⟩ : ∃ n k E, nR s (k1, E1) = (n, (k, E)) := ⟨_, _, _, rfl⟩
 have hk2 : k2 ≤ s.length := by have := nR_le (s := s) (q := (k1, E1)) hk1; rw [h2] at this; exact this
 obtain ⟨m0, k3, E3, h30⟩ : ∃ n k E, cntR s (k2, E2) = (n, (k, E)) := ⟨_, _, _, rfl⟩
 have hk3 : k3 ≤ s.length := by have := cntR_le (s := s) (q := (k2, E2)) hk2; rw [h30] at this; exact this
 obtain ⟨m, h3, hm7⟩ : ∃ m : Nat, cntR s (k2, E2) = (((m : Nat) : Int), (k3, E3)) ∧ m ≤ 7 := cnt_nat h30
 have hdm := dec_mid h1 h2 h3
 refine w_enter 78 [(0, (.string (bstr s)))] Tryd.func46 rfl Tryd.ntmps46 (by kernel_rfl) (by kernel_rfl) fun a H => ?_
 refine wp_seq (w_region ?_)
 refine H.alloc HP 2 (fun b => (.pointer (some ⟨b, 0, none⟩))) 26 [(.int .i64 0), (.int .i64 0), (.slice none 0 0)] (by kernel_rfl) (fun w => by kernel_rfl) fun b_1 w_2 a H HP => ?_
 refine H.v 3 (.int .i64 0) fun a H => ?_
 refine wpList_nil (then_normal (wp_seq (w_region ?_)))
 refine H.v 10 (.string (bstr s)) fun a H => ?_
 refine H.v 11 (.agg #[(.string (bstr s)), (.int .i64 0), (.int .i64 0)]) fun a H => ?_
 refine H.alloc HP 12 (fun b => (.pointer (some ⟨b, 0, none⟩))) 116 [(.string (bstr s)), (.int .i64 0), (.int .i64 0)] (by kernel_rfl) (fun w => by kernel_rfl) fun b_3 w_4 a H HP => ?_
 refine H.v 4 (.pointer (some ⟨b_3, 0, none⟩)) fun a H => ?_
 refine wpList_nil ?_
 have HP : Hp w w_4 [bx b_3 116 (inCells s (0, 0)) true, bx b_1 26 [(.int .i64 0), (.int .i64 0), (.slice none 0 0)] true] [] := HP
 refine then_normal (wp_seq (w_region ?_))
 refine H.v 13 (.pointer (some ⟨b_3, 0, none⟩)) fun a H => ?_
 refine H.call 14 (by kernel_rfl) (Eq.trans (by kernel_rfl : _ = (callFunc 70 #[(.pointer (some ⟨b_3, 0, none⟩))]).run Tryd.prog w_4) (Tryd.call70 _ _)) ((by have hh := nR_any b_3 s (0, 0) w_4 (HP.at_ 0 rfl) hl (Nat.zero_le _); simp only [h1] at hh; exact hh)) ?_
 rintro e w_5 ⟨rfl, hbx, hgr⟩
 refine ⟨_, rfl, ?_⟩
 intro a H
 have HP := HP.changed 0 rfl (inCells s (k1, E1)) [bx b_3 116 (inCells s (k1, E1)) true, bx b_1 26 [(.int .i64 0), (.int .i64 0), (.slice none 0 0)] true] (by kernel_rfl) hgr hbx
 refine H.v 15 (.agg #[(.int .i64 s0), (.int .i64 0), (.slice none 0 0)]) fun a H => ?_
 refine H.alloc HP 5 (fun b => (.pointer (some ⟨b, 0, none⟩))) 26 [(.int .i64 0), (.int .i64 0), (.slice none 0 0)] (by kernel_rfl) (fun w => by kernel_rfl) fun b_6 w_7 a H HP => ?_
 refine H.store HP 0 b_6 0 3 26 _ true (.agg #[(.int .i64 s0), (.int .i64 0), (.slice none 0 0)]) [bx b_6 26 [(.int .i64 s0), (.int .i64 0), (.slice none 0 0)] true, bx b_3 116 (inCells s (k1, E1)) true, bx b_1 26 [(.int .i64 0), (.int .i64 0), (.slice none 0 0)] true] (by kernel_rfl) (by kernel_rfl) (by kernel_rfl) rfl (by kernel_rfl) (by kernel_rfl) (by kernel_rfl) (by kernel_rfl) (by kernel_rfl) fun w_8 a H HP => ?_
 refine wpList_nil (then_normal (wp_seq (w_region ?_)))
 refine H.v 16 (.pointer (some ⟨b_3, 0, none⟩)) fun a H => ?_
 refine H.call 17 (by kernel_rfl) (Eq.trans (by kernel_rfl : _ = (callFunc 70 #[(.pointer (some ⟨b_3, 0, none⟩))]).run Tryd.prog w_8) (Tryd.call70 _ _)) ((by have hh := nR_any b_3 s (k1, E1) w_8 (HP.at_ 1 rfl) hl hk1; simp only [h2] at hh; exact hh)) ?_
 rintro e w_9 ⟨rfl, hbx, hgr⟩
 refine ⟨_, rfl, ?_⟩
 intro a H
 have HP := HP.changed 1 rfl (inCells s (k2, E2)) [bx b_6 26 [(.int .i64 s0), (.int .i64 0), (.slice none 0 0)] true, bx b_3 116 (inCells s (k2, E2)) true, bx b_1 26 [(.int .i64 0), (.int .i64 0), (.slice none 0 0)] true] (by kernel_rfl) hgr hbx
 refine H.v 18 (.pointer (some ⟨b_6, 1, none⟩)) fun a H => ?_
 refine H.store HP 0 b_6 1 1 26 _ true (.int .i64 f0) [bx b_6 26 [(.int .i64 s0), (.int .i64 f0), (.slice none 0 0)] true, bx b_3 116 (inCells s (k2, E2)) true, bx b_1 26 [(.int .i64 0), (.int .i64 0), (.slice none 0 0)] true] (by kernel_rfl) (by kernel_rfl) (by kernel_rfl) rfl (by kernel_rfl) (by kernel_rfl) (by kernel_rfl) (by kernel_rfl) (by kernel_rfl) fun w_10 a H HP => ?_
 refine wpList_nil (then_normal (wp_seq (w_region ?_)))
 refine H.v 19 (.pointer (some ⟨b_3, 0, none⟩)) fun a H => ?_
 refine H.call 20 (by kernel_rfl) (Eq.trans (by kernel_rfl : _ = (callFunc 71 #[(.pointer (some ⟨b_3, 0, none⟩)), (.int .i64 7), (.int .i64 170)]).run Tryd.prog w_10) (Tryd.call71 _ _)) ((by have hh := cnt_any b_3 s (k2, E2) w_10 (HP.at_ 1 rfl) hl hk2; simp only [h3] at hh; exact hh)) ?_
 rintro e w_11 ⟨rfl, hbx, hgr⟩
 refine ⟨_, rfl, ?_⟩
 intro a H
 have HP := HP.changed 1 rfl (inCells s (k3, E3)) [bx b_6 26 [(.int .i64 s0), (.int .i64 f0), (.slice none 0 0)] true, bx b_3 116 (inCells s (k3, E3)) true, bx b_1 26 [(.int .i64 0), (.int .i64 0), (.slice none 0 0)] true] (by kernel_rfl) hgr hbx
 refine H.v 6 (.int .i64 ((m : Nat) : Int)) fun a H => ?_
 refine wpList_nil (then_normal (wp_seq (wp_seq (w_region ?_))))
 refine H.v 7 (.int .i64 0) fun a H => ?_
 refine wpList_nil ?_
 have HP := HP.nilRow w.heap.size 103 2 altC (fun _ _ => True) (fun _ _ => False) elOk_flat
 refine then_normal (wp_block ?_)
 refine w_loop (fun mm a wv => ∃ (i : Nat), ∃ (kq : Nat), ∃ (E : Int), ∃ (al : Alts), ∃ (B : Option Addr), ∃ (cc : Nat), m - i = mm ∧ Sl 78 [(7, (.int .i64 ((i : Nat) : Int))), (6, (.int .i64 ((m : Nat) : Int))), (0, (.string (bstr s))), (2, (.pointer (some ⟨b_1, 0, none⟩))), (4, (.pointer (some ⟨b_3, 0, none⟩))), (5, (.pointer (some ⟨b_6, 0, none⟩)))] a ∧ Hp w wv [(rowsR w.heap.size 103 2 altC (fun _ _ => True) (fun _ _ => False) (.slice B i cc) al), bx b_6 26 [(.int .i64 s0), (.int .i64 f0), (.slice B i cc)] true, bx b_3 116 (inCells s (kq, E)) true, bx b_1 26 [(.int .i64 0), (.int .i64 0), (.slice none 0 0)] true] [] ∧ (i ≤ m) ∧ (al.length = i) ∧ (kq ≤ s.length) ∧ (decRel s m s0 f0 k3 E3 i kq E al)) (m - 0) ?_ ?_
 ·exact ⟨0, k3, E3, ([] : Alts), none, 0, (by omega), H.keep (by kernel_rfl), HP, (Nat.zero_le _), rfl, hk3, (dec_start h1 h2 h3)⟩
 rintro mm a w_12 ⟨i, kq, E, al, B, cc, hmeas, H, HP, hi, hal, hkq, hrel⟩
 refine wp_seq (wp_seq (w_region ?_))
 refine H.v 21 (.int .i64 ((i : Nat) : Int)) fun a H => ?_
 refine H.v 22 (.int .i64 ((m : Nat) : Int)) fun a H => ?_
 refine H.v 23 (.bool (decide (((i : Nat) : Int) < ((m : Nat) : Int)))) fun a H => ?_
 refine H.v 24 (.bool (decide (((i : Nat) : Int) < ((m : Nat) : Int)))) fun a H => ?_
 refine H.split 24 rfl (fun g24 H => ?_) (fun g24 H => ?_)
 ·have g24p := of_decide_eq_true g24
  refine H.v 25 (.pointer (some ⟨b_3, 0, none⟩)) fun a H => ?_
  refine H.v 26 (.pointer (some ⟨b_3, 0, none⟩)) fun a H => ?_
  refine H.v 27 (.pointer (some ⟨b_3, 2, none⟩)) fun a H => ?_
  refine H.u 28 (.int .i64 E) (ex_load1 (by kernel_rfl) (by kernel_rfl) (v := .int .i64 E) (HP.cell 2 rfl 2 rfl)) fun a H => ?_
  refine H.v 29 (.bool (E == 0)) fun a H => ?_
  refine H.v 30 (.bool (E == 0)) fun a H => ?_
  refine wpList_nil (then_normal ?_)
  refine w_if H rfl (fun g30 => ?_) (fun g30 => ?_)
  ·have g30p := eq_of_beq g30
   refine wp_skip (then_normal (wp_seq (wp_block (wp_seq ?_))))
   obtain ⟨r, k4, E4, h4⟩ : ∃ n k E, nR s (kq, 0) = (n, (k, E)) := ⟨_, _, _, rfl⟩
   have hk4 : k4 ≤ s.length := by have := nR_le (s := s) (q := (kq, 0)) hkq; rw [h4] at this; exact this
   obtain ⟨x, k5, E5, h5⟩ : ∃ n k E, nR s (k4, E4) = (n, (k, E)) := ⟨_, _, _, rfl⟩
   have hk5 : k5 ≤ s.length := by have := nR_le (s := s) (q := (k4, E4)) hk4; rw [h5] at this; exact this
   have hE0 : E = 0 := g30p
   rw [hE0] at HP
   have HP : Hp w w_12 [(rowsR w.heap.size 103 2 altC (fun _ _ => True) (fun _ _ => False) (.slice B i cc) al), bx b_6 26 [(.int .i64 s0), (.int .i64 f0), (.slice B i cc)] true, bx b_3 116 (inCells s (kq, 0)) true, bx b_1 26 [(.int .i64 0), (.int .i64 0), (.slice none 0 0)] true] [] := HP
   refine w_region ?_
   refine H.v 33 (.pointer (some ⟨b_3, 0, none⟩)) fun a H => ?_
   refine H.call 34 (by kernel_rfl) (Eq.trans (by kernel_rfl : _ = (callFunc 70 #[(.pointer (some ⟨b_3, 0, none⟩))]).run Tryd.prog w_12) (Tryd.call70 _ _)) ((by have hh := nR_any b_3 s (kq, 0) w_12 (HP.at_ 2 rfl) hl hkq; simp only [h4] at hh; exact hh)) ?_
   rintro e w_13 ⟨rfl, hbx, hgr⟩
   refine ⟨_, rfl, ?_⟩
   intro a H
   have HP := HP.changed 2 rfl (inCells s (k4, E4)) [(rowsR w.heap.size 103 2 altC (fun _ _ => True) (fun _ _ => False) (.slice B i cc) al), bx b_6 26 [(.int .i64 s0), (.int .i64 f0), (.slice B i cc)] true, bx b_3 116 (inCells s (k4, E4)) true, bx b_1 26 [(.int .i64 0), (.int .i64 0), (.slice none 0 0)] true] (by kernel_rfl) hgr hbx
   refine H.v 35 (.agg #[(.int .i64 r), (.int .i64 0)]) fun a H => ?_
   refine H.alloc HP 8 (fun b => (.pointer (some ⟨b, 0, none⟩))) 103 [(.int .i64 0), (.int .i64 0)] (by kernel_rfl) (fun w => by kernel_rfl) fun b_14 w_15 a H HP => ?_
   refine H.store HP 0 b_14 0 2 103 _ true (.agg #[(.int .i64 r), (.int .i64 0)]) [bx b_14 103 [(.int .i64 r), (.int .i64 0)] true, (rowsR w.heap.size 103 2 altC (fun _ _ => True) (fun _ _ => False) (.slice B i cc) al), bx b_6 26 [(.int .i64 s0), (.int .i64 f0), (.slice B i cc)] true, bx b_3 116 (inCells s (k4, E4)) true, bx b_1 26 [(.int .i64 0), (.int .i64 0), (.slice none 0 0)] true] (by kernel_rfl) (by kernel_rfl) (by kernel_rfl) rfl (by kernel_rfl) (by kernel_rfl) (by kernel_rfl) (by kernel_rfl) (by kernel_rfl) fun w_16 a H HP => ?_
   refine wpList_nil (then_normal (wp_seq (w_region ?_)))
   refine H.v 36 (.pointer (some ⟨b_3, 0, none⟩)) fun a H => ?_
   refine H.call 37 (by kernel_rfl) (Eq.trans (by kernel_rfl : _ = (callFunc 70 #[(.pointer (some ⟨b_3, 0, none⟩))]).run Tryd.prog w_16) (Tryd.call70 _ _)) ((by have hh := nR_any b_3 s (k4, E4) w_16 (HP.at_ 3 rfl) hl hk4; simp only [h5] at hh; exact hh)) ?_
   rintro e w_17 ⟨rfl, hbx, hgr⟩
   refine ⟨_, rfl, ?_⟩
   intro a H
   have HP := HP.changed 3 rfl (inCells s (k5, E5)) [bx b_14 103 [(.int .i64 r), (.int .i64 0)] true, (rowsR w.heap.size 103 2 altC (fun _ _ => True) (fun _ _ => False) (.slice B i cc) al), bx b_6 26 [(.int .i64 s0), (.int .i64 f0), (.slice B i cc)] true, bx b_3 116 (inCells s (k5, E5)) true, bx b_1 26 [(.int .i64 0), (.int .i64 0), (.slice none 0 0)] true] (by kernel_rfl) hgr hbx
   refine H.v 38 (.pointer (some ⟨b_14, 1, none⟩)) fun a H => ?_
   refine H.store HP 0 b_14 1 1 103 _ true (.int .i64 x) [bx b_14 103 [(.int .i64 r), (.int .i64 x)] true, (rowsR w.heap.size 103 2 altC (fun _ _ => True) (fun _ _ => False) (.slice B i cc) al), bx b_6 26 [(.int .i64 s0), (.int .i64 f0), (.slice B i cc)] true, bx b_3 116 (inCells s (k5, E5)) true, bx b_1 26 [(.int .i64 0), (.int .i64 0), (.slice none 0 0)] true] (by kernel_rfl) (by kernel_rfl) (by kernel_rfl) rfl (by kernel_rfl) (by kernel_rfl) (by kernel_rfl) (by kernel_rfl) (by kernel_rfl) fun w_18 a H HP => ?_
   refine wpList_nil (then_normal (w_region ?_))
   refine H.v 39 (.pointer (some ⟨b_6, 2, none⟩)) fun a H => ?_
   refine H.u 40 (.slice B i cc) (ex_load1 (by kernel_rfl) (by kernel_rfl) (HP.cell 2 rfl 2 rfl)) fun a H => ?_
   refine H.u 41 (.agg #[(.int .i64 r), (.int .i64 x)]) (ex_loadN (vs := [(.int .i64 r), (.int .i64 x)]) (by kernel_rfl) (by kernel_rfl) (by kernel_rfl) rfl (HP.cells 0 rfl 0 2 (by kernel_rfl))) fun a H => ?_
   refine H.alloc HP 42 (fun b => (.slice (some ⟨b, 0, none⟩) 1 1)) 103 [(.int .i64 r), (.int .i64 x)] (by kernel_rfl) (fun w => by kernel_rfl) fun b_19 w_20 a H HP => ?_
   have HP := HP.pend0 2 rfl elOk_flat (r, x) [bx b_19 103 [(.int .i64 r), (.int .i64 x)] true, bx b_14 103 [(.int .i64 r), (.int .i64 x)] true, (rowsP w.heap.size 103 2 altC (fun _ _ => True) (fun _ _ => False) (.slice B i cc) al (r, x)), bx b_6 26 [(.int .i64 s0), (.int .i64 f0), (.slice B i cc)] true, bx b_3 116 (inCells s (k5, E5)) true, bx b_1 26 [(.int .i64 0), (.int .i64 0), (.slice none 0 0)] true] (by kernel_rfl) trivial (fun _ h => h)
   refine H.push HP 43 2 0 (v := (.slice B i cc)) (e := 103) (p := (r, x)) (l := al) (cs := altC) (ok := (fun _ _ => True)) (fe := (fun _ _ => False)) (size := 2) (z := (.agg #[.int .i64 0, .int .i64 0])) (bytes := 16) (bb := b_19) (tb := 103) (fb := true) (by kernel_rfl) elOk_flat (by kernel_rfl) (by kernel_rfl) rfl (by kernel_rfl) (by kernel_rfl) (by kernel_rfl) (by kernel_rfl) (by kernel_rfl) rfl (by kernel_rfl) (by rw [hal]; unfold maxLen; omega) (by rw [hal]; omega) fun B_21 c_22 w_23 a H HP => ?_
   have HP : Hp w w_23 [bx b_19 103 [(.int .i64 r), (.int .i64 x)] true, bx b_14 103 [(.int .i64 r), (.int .i64 x)] true, (rowsR w.heap.size 103 2 altC (fun _ _ => True) (fun _ _ => False) (.slice B_21 (al.length + 1) c_22) (al ++ [(r, x)])), bx b_6 26 [(.int .i64 s0), (.int .i64 f0), (.slice B i cc)] true, bx b_3 116 (inCells s (k5, E5)) true, bx b_1 26 [(.int .i64 0), (.int .i64 0), (.slice none 0 0)] true] [] := HP
   rw [hal] at H HP
   refine H.v 44 (.pointer (some ⟨b_6, 2, none⟩)) fun a H => ?_
   refine H.store HP 3 b_6 2 1 26 _ true (.slice B_21 (i + 1) c_22) [bx b_19 103 [(.int .i64 r), (.int .i64 x)] true, bx b_14 103 [(.int .i64 r), (.int .i64 x)] true, (rowsR w.heap.size 103 2 altC (fun _ _ => True) (fun _ _ => False) (.slice B_21 (i + 1) c_22) (al ++ [(r, x)])), bx b_6 26 [(.int .i64 s0), (.int .i64 f0), (.slice B_21 (i + 1) c_22)] true, bx b_3 116 (inCells s (k5, E5)) true, bx b_1 26 [(.int .i64 0), (.int .i64 0), (.slice none 0 0)] true] (by kernel_rfl) (by kernel_rfl) (by kernel_rfl) rfl (by kernel_rfl) (by kernel_rfl) (by kernel_rfl) (by kernel_rfl) (by kernel_rfl) fun w_24 a H HP => ?_
   refine wpList_nil ?_
   have HP := HP.sub [2, 3, 4, 5] [(rowsR w.heap.size 103 2 altC (fun _ _ => True) (fun _ _ => False) (.slice B_21 (i + 1) c_22) (al ++ [(r, x)])), bx b_6 26 [(.int .i64 s0), (.int .i64 f0), (.slice B_21 (i + 1) c_22)] true, bx b_3 116 (inCells s (k5, E5)) true, bx b_1 26 [(.int .i64 0), (.int .i64 0), (.slice none 0 0)] true] (by kernel_rfl) (by kernel_rfl)
   refine inb_normal (then_normal (w_region ?_))
   refine H.v 31 (.int .i64 ((i : Nat) : Int)) fun a H => ?_
   refine H.valE 32 (.int .i64 (IntKind.i64.wrap (((i : Nat) : Int) + 1))) (.int .i64 (((i : Nat) : Int) + 1)) (by kernel_rfl) (by kernel_rfl) ((by rw [wrap_ini64 _ (by omega)])) fun a H => ?_
   refine H.v 7 (.int .i64 (((i : Nat) : Int) + 1)) fun a H => ?_
   refine wpList_nil (then_normal ?_)
   have H := H.as 7 (.int .i64 ((i + 1 : Nat) : Int)) rfl rfl
   refine ⟨_, ?_, i + 1, k5, E5, al ++ [(r, x)], B_21, c_22, rfl, H.keep (by kernel_rfl), HP, (by omega), (by rw [List.length_append, hal]; rfl), hk5, (dec_step hrel g30p (by omega) hdm h4 h5)⟩
   omega
  ·have g30p := ne_of_beq_false g30
   refine wp_exit (then_exit (then_exit ?_))
   refine w_exit_here ?_
   refine then_normal (wp_seq (wp_seq (w_region ?_)))
   refine H.v 45 (.pointer (some ⟨b_3, 0, none⟩)) fun a H => ?_
   refine H.v 46 (.pointer (some ⟨b_3, 0, none⟩)) fun a H => ?_
   refine H.v 47 (.pointer (some ⟨b_3, 2, none⟩)) fun a H => ?_
   refine H.u 48 (.int .i64 E) (ex_load1 (by kernel_rfl) (by kernel_rfl) (v := .int .i64 E) (HP.cell 2 rfl 2 rfl)) fun a H => ?_
   refine H.v 49 (.bool (E == 0)) fun a H => ?_
   refine H.v 50 (.bool (E == 0)) fun a H => ?_
   refine H.split 50 rfl (fun g50 H => ?_) (fun g50 H => ?_)
   ·have g50p := eq_of_beq g50
    refine H.v 51 (.pointer (some ⟨b_3, 0, none⟩)) fun a H => ?_
    refine H.v 52 (.pointer (some ⟨b_3, 0, none⟩)) fun a H => ?_
    refine H.v 53 (.pointer (some ⟨b_3, 1, none⟩)) fun a H => ?_
    refine H.u 54 (.int .i64 ((kq : Nat) : Int)) (ex_load1 (by kernel_rfl) (by kernel_rfl) (v := .int .i64 ((kq : Nat) : Int)) (HP.cell 2 rfl 1 rfl)) fun a H => ?_
    refine H.v 55 (.string (bstr s)) fun a H => ?_
    refine H.v 56 (.int .i64 ((s.length : Nat) : Int)) fun a H => ?_
    refine H.v 57 (.bool (decide (((kq : Nat) : Int) < ((s.length : Nat) : Int)))) fun a H => ?_
    refine H.v 58 (.bool (decide (((kq : Nat) : Int) < ((s.length : Nat) : Int)))) fun a H => ?_
    refine wpList_nil ?_
    have H := H.keep (L' := [(58, (.bool (decide (((kq : Nat) : Int) < ((s.length : Nat) : Int))))), (30, (.bool (E == 0))), (29, (.bool (E == 0))), (28, (.int .i64 E)), (27, (.pointer (some ⟨b_3, 2, none⟩))), (26, (.pointer (some ⟨b_3, 0, none⟩))), (25, (.pointer (some ⟨b_3, 0, none⟩))), (24, (.bool true)), (23, (.bool (decide (((i : Nat) : Int) < ((m : Nat) : Int))))), (22, (.int .i64 ((m : Nat) : Int))), (21, (.int .i64 ((i : Nat) : Int))), (7, (.int .i64 ((i : Nat) : Int))), (6, (.int .i64 ((m : Nat) : Int))), (0, (.string (bstr s))), (2, (.pointer (some ⟨b_1, 0, none⟩))), (4, (.pointer (some ⟨b_3, 0, none⟩))), (5, (.pointer (some ⟨b_6, 0, none⟩)))]) (by kernel_rfl)
    refine then_normal ?_
    refine w_if H rfl (fun g58 => ?_) (fun g58 => ?_)
    ·have g58p := of_decide_eq_true g58
     have HP : Hp w w_12 [(rowsR w.heap.size 103 2 altC (fun _ _ => True) (fun _ _ => False) (.slice B i cc) al), bx b_6 26 [(.int .i64 s0), (.int .i64 f0), (.slice B i cc)] true, bx b_3 116 [(.string (bstr s)), (.int .i64 ((kq : Nat) : Int)), (.int .i64 E)] true, bx b_1 26 [(.int .i64 0), (.int .i64 0), (.slice none 0 0)] true] [] := HP
     refine w_region ?_
     refine H.v 59 (.pointer (some ⟨b_3, 0, none⟩)) fun a H => ?_
     refine H.v 60 (.pointer (some ⟨b_3, 0, none⟩)) fun a H => ?_
     refine H.v 61 (.pointer (some ⟨b_3, 2, none⟩)) fun a H => ?_
     refine H.store HP 2 b_3 2 1 116 _ true (.int .i64 10) [(rowsR w.heap.size 103 2 altC (fun _ _ => True) (fun _ _ => False) (.slice B i cc) al), bx b_6 26 [(.int .i64 s0), (.int .i64 f0), (.slice B i cc)] true, bx b_3 116 [(.string (bstr s)), (.int .i64 ((kq : Nat) : Int)), (.int .i64 10)] true, bx b_1 26 [(.int .i64 0), (.int .i64 0), (.slice none 0 0)] true] (by kernel_rfl) (by kernel_rfl) (by kernel_rfl) rfl (by kernel_rfl) (by kernel_rfl) (by kernel_rfl) (by kernel_rfl) (by kernel_rfl) fun w_25 a H HP => ?_
     refine wpList_nil (then_normal (wp_seq (wp_seq (w_region ?_))))
     refine H.v 62 (.pointer (some ⟨b_3, 0, none⟩)) fun a H => ?_
     refine H.v 63 (.pointer (some ⟨b_3, 0, none⟩)) fun a H => ?_
     refine H.v 64 (.pointer (some ⟨b_3, 2, none⟩)) fun a H => ?_
     refine H.u 65 (.int .i64 10) (ex_load1 (by kernel_rfl) (by kernel_rfl) (v := .int .i64 10) (HP.cell 2 rfl 2 rfl)) fun a H => ?_
     refine H.v 66 (.bool true) fun a H => ?_
     refine wpList_nil (then_normal ?_)
     refine w_ift H rfl ?_
     refine wp_seq ?_
     refine An.start (fun v => Hp w v [(rowsR w.heap.size 103 2 altC (fun _ _ => True) (fun _ _ => False) (.slice B i cc) al), bx b_6 26 [(.int .i64 s0), (.int .i64 f0), (.slice B i cc)] true, bx b_3 116 [(.string (bstr s)), (.int .i64 ((kq : Nat) : Int)), (.int .i64 10)] true, bx b_1 26 [(.int .i64 0), (.int .i64 0), (.slice none 0 0)] true] []) 7 7 HP wide_follows rfl fun w_26 HP => ?_
     refine An.pure H (.inr (HP)) 0 67 (.agg #[(.int .i64 0), (.int .i64 0), (.slice none 0 0)]) rfl (by kernel_rfl) (by kernel_rfl) (fun _ _ _ h => h) (fun _ => by kernel_rfl) fun a H => ?_
     refine An.p H (.inr HP) 1 68 (.pointer (some ⟨b_3, 0, none⟩)) fun a H => ?_
     refine An.p H (.inr HP) 2 69 (.pointer (some ⟨b_3, 0, none⟩)) fun a H => ?_
     refine An.p H (.inr HP) 3 70 (.pointer (some ⟨b_3, 2, none⟩)) fun a H => ?_
     refine An.val H (HP) 4 71 (.int .i64 10) rfl (by kernel_rfl) (by kernel_rfl) (fun _ _ _ h => h) (fun _ hS => ex_load1 (by kernel_rfl) (by kernel_rfl) (v := .int .i64 10) (hS.cell 2 rfl 2 rfl)) fun a H => ?_
     refine An.one 5 (by kernel_rfl) ?_
     refine Op.store H HP 3 b_1 0 3 26 [(.int .i64 0), (.int .i64 0), (.slice none 0 0)] true (.agg #[(.int .i64 0), (.int .i64 0), (.slice none 0 0)]) [(rowsR w.heap.size 103 2 altC (fun _ _ => True) (fun _ _ => False) (.slice B i cc) al), bx b_6 26 [(.int .i64 s0), (.int .i64 f0), (.slice B i cc)] true, bx b_3 116 [(.string (bstr s)), (.int .i64 ((kq : Nat) : Int)), (.int .i64 10)] true, bx b_1 26 [(.int .i64 0), (.int .i64 0), (.slice none 0 0)] true] rfl (by kernel_rfl) (by kernel_rfl) (by kernel_rfl) rfl (by kernel_rfl) (by kernel_rfl) (by kernel_rfl) (by kernel_rfl) (by kernel_rfl) fun w_27 a H HP => ?_
     refine ⟨.inr (HP), ?_⟩
     refine An.p H (.inr HP) 6 3 (.int .i64 10) fun a H => ?_
     refine An.done (by kernel_rfl) ?_
     refine then_normal (wp_ret (then_ret ?_))
     refine H.ret2 (fn := Tryd.f46) Tryd.results46 (RV.cellN (vs := [(.int .i64 0), (.int .i64 0), (.slice none 0 0)]) (b := b_1) (off := 0) (k := 3) (by kernel_rfl) (by kernel_rfl) (by kernel_rfl) rfl (HP.cells 3 rfl 0 3 (by kernel_rfl))) (RV.tmp_ (v := (.int .i64 10)) (by kernel_rfl)) ?_
     refine retDec_zero ?_ (HP.below (by kernel_rfl))
     exact dec_short hrel hdm hal (by omega) (by omega) (by omega)
    ·have g58p := of_decide_eq_false g58
     refine wp_skip (then_normal (wp_seq (wp_seq (w_region ?_))))
     refine H.v 62 (.pointer (some ⟨b_3, 0, none⟩)) fun a H => ?_
     refine H.v 63 (.pointer (some ⟨b_3, 0, none⟩)) fun a H => ?_
     refine H.v 64 (.pointer (some ⟨b_3, 2, none⟩)) fun a H => ?_
     refine H.u 65 (.int .i64 E) (ex_load1 (by kernel_rfl) (by kernel_rfl) (v := .int .i64 E) (HP.cell 2 rfl 2 rfl)) fun a H => ?_
     refine H.v 66 (.bool (E != 0)) fun a H => ?_
     refine wpList_nil (then_normal ?_)
     refine w_if H rfl (fun g66 => ?_) (fun g66 => ?_)
     ·have g66p := bne_iff_ne.1 g66
      refine wp_seq ?_
      refine An.start (fun v => Hp w v [(rowsR w.heap.size 103 2 altC (fun _ _ => True) (fun _ _ => False) (.slice B i cc) al), bx b_6 26 [(.int .i64 s0), (.int .i64 f0), (.slice B i cc)] true, bx b_3 116 (inCells s (kq, E)) true, bx b_1 26 [(.int .i64 0), (.int .i64 0), (.slice none 0 0)] true] []) 7 7 HP wide_follows rfl fun w_28 HP => ?_
      refine An.pure H (.inr (HP)) 0 67 (.agg #[(.int .i64 0), (.int .i64 0), (.slice none 0 0)]) rfl (by kernel_rfl) (by kernel_rfl) (fun _ _ _ h => h) (fun _ => by kernel_rfl) fun a H => ?_
      refine An.p H (.inr HP) 1 68 (.pointer (some ⟨b_3, 0, none⟩)) fun a H => ?_
      refine An.p H (.inr HP) 2 69 (.pointer (some ⟨b_3, 0, none⟩)) fun a H => ?_
      refine An.p H (.inr HP) 3 70 (.pointer (some ⟨b_3, 2, none⟩)) fun a H => ?_
      refine An.val H (HP) 4 71 (.int .i64 E) rfl (by kernel_rfl) (by kernel_rfl) (fun _ _ _ h => h) (fun _ hS => ex_load1 (by kernel_rfl) (by kernel_rfl) (v := .int .i64 E) (hS.cell 2 rfl 2 rfl)) fun a H => ?_
      refine An.one 5 (by kernel_rfl) ?_
      refine Op.store H HP 3 b_1 0 3 26 [(.int .i64 0), (.int .i64 0), (.slice none 0 0)] true (.agg #[(.int .i64 0), (.int .i64 0), (.slice none 0 0)]) [(rowsR w.heap.size 103 2 altC (fun _ _ => True) (fun _ _ => False) (.slice B i cc) al), bx b_6 26 [(.int .i64 s0), (.int .i64 f0), (.slice B i cc)] true, bx b_3 116 (inCells s (kq, E)) true, bx b_1 26 [(.int .i64 0), (.int .i64 0), (.slice none 0 0)] true] rfl (by kernel_rfl) (by kernel_rfl) (by kernel_rfl) rfl (by kernel_rfl) (by kernel_rfl) (by kernel_rfl) (by kernel_rfl) (by kernel_rfl) fun w_29 a H HP => ?_
      refine ⟨.inr (HP), ?_⟩
      refine An.p H (.inr HP) 6 3 (.int .i64 E) fun a H => ?_
      refine An.done (by kernel_rfl) ?_
      refine then_normal (wp_ret (then_ret ?_))
      refine H.ret2 (fn := Tryd.f46) Tryd.results46 (RV.cellN (vs := [(.int .i64 0), (.int .i64 0), (.slice none 0 0)]) (b := b_1) (off := 0) (k := 3) (by kernel_rfl) (by kernel_rfl) (by kernel_rfl) rfl (HP.cells 3 rfl 0 3 (by kernel_rfl))) (RV.tmp_ (v := (.int .i64 E)) (by kernel_rfl)) ?_
      refine retDec_zero ?_ (HP.below (by kernel_rfl))
      exact hrel.2 (by omega)
     ·have g66p := eq_of_bne_false g66
      refine wp_skip (then_normal (wp_seq (w_region ?_)))
      refine H.u 72 (.agg #[(.int .i64 s0), (.int .i64 f0), (.slice B i cc)]) (ex_loadN (vs := [(.int .i64 s0), (.int .i64 f0), (.slice B i cc)]) (by kernel_rfl) (by kernel_rfl) (by kernel_rfl) rfl (HP.cells 1 rfl 0 3 (by kernel_rfl))) fun a H => ?_
      refine H.call 73 (by kernel_rfl) (Eq.trans (by kernel_rfl : _ = (callFunc 37 #[(.agg #[(.int .i64 s0), (.int .i64 f0), (.slice B i cc)])]).run Tryd.prog w_12) (Tryd.call37 _ _)) (rvalid_any s0 f0 B i cc al w_12 (row_alts (HP.held 0 rfl) hal) (by unfold maxLen; omega)) ?_
      rintro e w_30 ⟨rfl, hb⟩
      refine ⟨_, rfl, ?_⟩
      intro a H
      have HP := HP.next hb
      refine H.v 9 (.bool (validP s0 f0 al)) fun a H => ?_
      refine wpList_nil (then_normal (wp_seq (wp_seq (w_region ?_))))
      refine H.v 74 (.bool (validP s0 f0 al)) fun a H => ?_
      refine H.v 75 (.bool (!(validP s0 f0 al))) fun a H => ?_
      refine wpList_nil (then_normal ?_)
      refine w_if H rfl (fun g75 => ?_) (fun g75 => ?_)
      ·have g75p := not_is_true g75
       refine wp_seq (w_region ?_)
       refine H.v 76 (.agg #[(.int .i64 0), (.int .i64 0), (.slice none 0 0)]) fun a H => ?_
       refine H.store HP 3 b_1 0 3 26 _ true (.agg #[(.int .i64 0), (.int .i64 0), (.slice none 0 0)]) [(rowsR w.heap.size 103 2 altC (fun _ _ => True) (fun _ _ => False) (.slice B i cc) al), bx b_6 26 [(.int .i64 s0), (.int .i64 f0), (.slice B i cc)] true, bx b_3 116 (inCells s (kq, E)) true, bx b_1 26 [(.int .i64 0), (.int .i64 0), (.slice none 0 0)] true] (by kernel_rfl) (by kernel_rfl) (by kernel_rfl) rfl (by kernel_rfl) (by kernel_rfl) (by kernel_rfl) (by kernel_rfl) (by kernel_rfl) fun w_31 a H HP => ?_
       refine H.v 3 (.int .i64 170) fun a H => ?_
       refine wpList_nil (then_normal (wp_ret (then_ret ?_)))
       refine H.ret2 (fn := Tryd.f46) Tryd.results46 (RV.cellN (vs := [(.int .i64 0), (.int .i64 0), (.slice none 0 0)]) (b := b_1) (off := 0) (k := 3) (by kernel_rfl) (by kernel_rfl) (by kernel_rfl) rfl (HP.cells 3 rfl 0 3 (by kernel_rfl))) (RV.tmp_ (v := (.int .i64 170)) (by kernel_rfl)) ?_
       refine retDec_zero ?_ (HP.below (by kernel_rfl))
       have hd := dec_fin hrel hdm hal (by omega) hkq (by omega) (by omega)
       rw [hd, if_neg (by rw [g75p]; decide)]
      ·have g75p := not_is_false g75
       refine wp_skip (then_normal (wp_seq (w_region ?_)))
       refine H.u 77 (.agg #[(.int .i64 s0), (.int .i64 f0), (.slice B i cc)]) (ex_loadN (vs := [(.int .i64 s0), (.int .i64 f0), (.slice B i cc)]) (by kernel_rfl) (by kernel_rfl) (by kernel_rfl) rfl (HP.cells 1 rfl 0 3 (by kernel_rfl))) fun a H => ?_
       refine H.store HP 3 b_1 0 3 26 _ true (.agg #[(.int .i64 s0), (.int .i64 f0), (.slice B i cc)]) [(rowsR w.heap.size 103 2 altC (fun _ _ => True) (fun _ _ => False) (.slice B i cc) al), bx b_6 26 [(.int .i64 s0), (.int .i64 f0), (.slice B i cc)] true, bx b_3 116 (inCells s (kq, E)) true, bx b_1 26 [(.int .i64 s0), (.int .i64 f0), (.slice B i cc)] true] (by kernel_rfl) (by kernel_rfl) (by kernel_rfl) rfl (by kernel_rfl) (by kernel_rfl) (by kernel_rfl) (by kernel_rfl) (by kernel_rfl) fun w_32 a H HP => ?_
       refine H.v 3 (.int .i64 0) fun a H => ?_
       refine wpList_nil (then_normal (wp_ret ?_))
       refine H.ret2 (fn := Tryd.f46) Tryd.results46 (RV.cellN (vs := [(.int .i64 s0), (.int .i64 f0), (.slice B i cc)]) (b := b_1) (off := 0) (k := 3) (by kernel_rfl) (by kernel_rfl) (by kernel_rfl) rfl (HP.cells 3 rfl 0 3 (by kernel_rfl))) (RV.tmp_ (v := (.int .i64 0)) (by kernel_rfl)) ?_
       have hd := dec_fin hrel hdm hal (by omega) hkq (by omega) (by omega)
       rw [hd, if_pos g75p]
       have hf := own_facts (row_own (HP.held 0 rfl) hal)
       exact ⟨B, cc, by rw [show al.length = i from hal], by rw [show al.length = i from hal]; exact row_alts (HP.held 0 rfl) hal, by rw [show al.length = i from hal]; exact hf.1, hf.2.1, hf.2.2, (HP.below (by kernel_rfl)), own_base (row_own (HP.held 0 rfl) hal)⟩
   ·have g50p := ne_of_beq_false g50
    refine H.s 51 fun a H => ?_
    refine H.s 52 fun a H => ?_
    refine H.s 53 fun a H => ?_
    refine H.s 54 fun a H => ?_
    refine H.s 55 fun a H => ?_
    refine H.s 56 fun a H => ?_
    refine H.s 57 fun a H => ?_
    refine H.v 58 (.bool false) fun a H => ?_
    refine wpList_nil ?_
    have H := H.keep (L' := [(58, (.bool false)), (30, (.bool (E == 0))), (29, (.bool (E == 0))), (28, (.int .i64 E)), (27, (.pointer (some ⟨b_3, 2, none⟩))), (26, (.pointer (some ⟨b_3, 0, none⟩))), (25, (.pointer (some ⟨b_3, 0, none⟩))), (24, (.bool true)), (23, (.bool (decide (((i : Nat) : Int) < ((m : Nat) : Int))))), (22, (.int .i64 ((m : Nat) : Int))), (21, (.int .i64 ((i : Nat) : Int))), (7, (.int .i64 ((i : Nat) : Int))), (6, (.int .i64 ((m : Nat) : Int))), (0, (.string (bstr s))), (2, (.pointer (some ⟨b_1, 0, none⟩))), (4, (.pointer (some ⟨b_3, 0, none⟩))), (5, (.pointer (some ⟨b_6, 0, none⟩)))]) (by kernel_rfl)
    refine then_normal ?_
    refine w_iff H rfl ?_
    refine wp_skip (then_normal (wp_seq (wp_seq (w_region ?_))))
    refine H.v 62 (.pointer (some ⟨b_3, 0, none⟩)) fun a H => ?_
    refine H.v 63 (.pointer (some ⟨b_3, 0, none⟩)) fun a H => ?_
    refine H.v 64 (.pointer (some ⟨b_3, 2, none⟩)) fun a H => ?_
    refine H.u 65 (.int .i64 E) (ex_load1 (by kernel_rfl) (by kernel_rfl) (v := .int .i64 E) (HP.cell 2 rfl 2 rfl)) fun a H => ?_
    refine H.v 66 (.bool (E != 0)) fun a H => ?_
    refine wpList_nil (then_normal ?_)
    refine w_if H rfl (fun g66 => ?_) (fun g66 => ?_)
    ·have g66p := bne_iff_ne.1 g66
     refine wp_seq ?_
     refine An.start (fun v => Hp w v [(rowsR w.heap.size 103 2 altC (fun _ _ => True) (fun _ _ => False) (.slice B i cc) al), bx b_6 26 [(.int .i64 s0), (.int .i64 f0), (.slice B i cc)] true, bx b_3 116 (inCells s (kq, E)) true, bx b_1 26 [(.int .i64 0), (.int .i64 0), (.slice none 0 0)] true] []) 7 7 HP wide_follows rfl fun w_33 HP => ?_
     refine An.pure H (.inr (HP)) 0 67 (.agg #[(.int .i64 0), (.int .i64 0), (.slice none 0 0)]) rfl (by kernel_rfl) (by kernel_rfl) (fun _ _ _ h => h) (fun _ => by kernel_rfl) fun a H => ?_
     refine An.p H (.inr HP) 1 68 (.pointer (some ⟨b_3, 0, none⟩)) fun a H => ?_
     refine An.p H (.inr HP) 2 69 (.pointer (some ⟨b_3, 0, none⟩)) fun a H => ?_
     refine An.p H (.inr HP) 3 70 (.pointer (some ⟨b_3, 2, none⟩)) fun a H => ?_
     refine An.val H (HP) 4 71 (.int .i64 E) rfl (by kernel_rfl) (by kernel_rfl) (fun _ _ _ h => h) (fun _ hS => ex_load1 (by kernel_rfl) (by kernel_rfl) (v := .int .i64 E) (hS.cell 2 rfl 2 rfl)) fun a H => ?_
     refine An.one 5 (by kernel_rfl) ?_
     refine Op.store H HP 3 b_1 0 3 26 [(.int .i64 0), (.int .i64 0), (.slice none 0 0)] true (.agg #[(.int .i64 0), (.int .i64 0), (.slice none 0 0)]) [(rowsR w.heap.size 103 2 altC (fun _ _ => True) (fun _ _ => False) (.slice B i cc) al), bx b_6 26 [(.int .i64 s0), (.int .i64 f0), (.slice B i cc)] true, bx b_3 116 (inCells s (kq, E)) true, bx b_1 26 [(.int .i64 0), (.int .i64 0), (.slice none 0 0)] true] rfl (by kernel_rfl) (by kernel_rfl) (by kernel_rfl) rfl (by kernel_rfl) (by kernel_rfl) (by kernel_rfl) (by kernel_rfl) (by kernel_rfl) fun w_34 a H HP => ?_
     refine ⟨.inr (HP), ?_⟩
     refine An.p H (.inr HP) 6 3 (.int .i64 E) fun a H => ?_
     refine An.done (by kernel_rfl) ?_
     refine then_normal (wp_ret (then_ret ?_))
     refine H.ret2 (fn := Tryd.f46) Tryd.results46 (RV.cellN (vs := [(.int .i64 0), (.int .i64 0), (.slice none 0 0)]) (b := b_1) (off := 0) (k := 3) (by kernel_rfl) (by kernel_rfl) (by kernel_rfl) rfl (HP.cells 3 rfl 0 3 (by kernel_rfl))) (RV.tmp_ (v := (.int .i64 E)) (by kernel_rfl)) ?_
     refine retDec_zero ?_ (HP.below (by kernel_rfl))
     exact hrel.2 (by omega)
    ·have g66p := eq_of_bne_false g66
     refine wp_skip (then_normal (wp_seq (w_region ?_)))
     refine H.u 72 (.agg #[(.int .i64 s0), (.int .i64 f0), (.slice B i cc)]) (ex_loadN (vs := [(.int .i64 s0), (.int .i64 f0), (.slice B i cc)]) (by kernel_rfl) (by kernel_rfl) (by kernel_rfl) rfl (HP.cells 1 rfl 0 3 (by kernel_rfl))) fun a H => ?_
     refine H.call 73 (by kernel_rfl) (Eq.trans (by kernel_rfl : _ = (callFunc 37 #[(.agg #[(.int .i64 s0), (.int .i64 f0), (.slice B i cc)])]).run Tryd.prog w_12) (Tryd.call37 _ _)) (rvalid_any s0 f0 B i cc al w_12 (row_alts (HP.held 0 rfl) hal) (by unfold maxLen; omega)) ?_
     rintro e w_35 ⟨rfl, hb⟩
     refine ⟨_, rfl, ?_⟩
     intro a H
     have HP := HP.next hb
     refine H.v 9 (.bool (validP s0 f0 al)) fun a H => ?_
     refine wpList_nil (then_normal (wp_seq (wp_seq (w_region ?_))))
     refine H.v 74 (.bool (validP s0 f0 al)) fun a H => ?_
     refine H.v 75 (.bool (!(validP s0 f0 al))) fun a H => ?_
     refine wpList_nil (then_normal ?_)
     refine w_if H rfl (fun g75 => ?_) (fun g75 => ?_)
     ·have g75p := not_is_true g75
      refine wp_seq (w_region ?_)
      refine H.v 76 (.agg #[(.int .i64 0), (.int .i64 0), (.slice none 0 0)]) fun a H => ?_
      refine H.store HP 3 b_1 0 3 26 _ true (.agg #[(.int .i64 0), (.int .i64 0), (.slice none 0 0)]) [(rowsR w.heap.size 103 2 altC (fun _ _ => True) (fun _ _ => False) (.slice B i cc) al), bx b_6 26 [(.int .i64 s0), (.int .i64 f0), (.slice B i cc)] true, bx b_3 116 (inCells s (kq, E)) true, bx b_1 26 [(.int .i64 0), (.int .i64 0), (.slice none 0 0)] true] (by kernel_rfl) (by kernel_rfl) (by kernel_rfl) rfl (by kernel_rfl) (by kernel_rfl) (by kernel_rfl) (by kernel_rfl) (by kernel_rfl) fun w_36 a H HP => ?_
      refine H.v 3 (.int .i64 170) fun a H => ?_
      refine wpList_nil (then_normal (wp_ret (then_ret ?_)))
      refine H.ret2 (fn := Tryd.f46) Tryd.results46 (RV.cellN (vs := [(.int .i64 0), (.int .i64 0), (.slice none 0 0)]) (b := b_1) (off := 0) (k := 3) (by kernel_rfl) (by kernel_rfl) (by kernel_rfl) rfl (HP.cells 3 rfl 0 3 (by kernel_rfl))) (RV.tmp_ (v := (.int .i64 170)) (by kernel_rfl)) ?_
      refine retDec_zero ?_ (HP.below (by kernel_rfl))
      have hd := dec_fin hrel hdm hal (by omega) hkq (by omega) (by omega)
      rw [hd, if_neg (by rw [g75p]; decide)]
     ·have g75p := not_is_false g75
      refine wp_skip (then_normal (wp_seq (w_region ?_)))
      refine H.u 77 (.agg #[(.int .i64 s0), (.int .i64 f0), (.slice B i cc)]) (ex_loadN (vs := [(.int .i64 s0), (.int .i64 f0), (.slice B i cc)]) (by kernel_rfl) (by kernel_rfl) (by kernel_rfl) rfl (HP.cells 1 rfl 0 3 (by kernel_rfl))) fun a H => ?_
      refine H.store HP 3 b_1 0 3 26 _ true (.agg #[(.int .i64 s0), (.int .i64 f0), (.slice B i cc)]) [(rowsR w.heap.size 103 2 altC (fun _ _ => True) (fun _ _ => False) (.slice B i cc) al), bx b_6 26 [(.int .i64 s0), (.int .i64 f0), (.slice B i cc)] true, bx b_3 116 (inCells s (kq, E)) true, bx b_1 26 [(.int .i64 s0), (.int .i64 f0), (.slice B i cc)] true] (by kernel_rfl) (by kernel_rfl) (by kernel_rfl) rfl (by kernel_rfl) (by kernel_rfl) (by kernel_rfl) (by kernel_rfl) (by kernel_rfl) fun w_37 a H HP => ?_
      refine H.v 3 (.int .i64 0) fun a H => ?_
      refine wpList_nil (then_normal (wp_ret ?_))
      refine H.ret2 (fn := Tryd.f46) Tryd.results46 (RV.cellN (vs := [(.int .i64 s0), (.int .i64 f0), (.slice B i cc)]) (b := b_1) (off := 0) (k := 3) (by kernel_rfl) (by kernel_rfl) (by kernel_rfl) rfl (HP.cells 3 rfl 0 3 (by kernel_rfl))) (RV.tmp_ (v := (.int .i64 0)) (by kernel_rfl)) ?_
      have hd := dec_fin hrel hdm hal (by omega) hkq (by omega) (by omega)
      rw [hd, if_pos g75p]
      have hf := own_facts (row_own (HP.held 0 rfl) hal)
      exact ⟨B, cc, by rw [show al.length = i from hal], by rw [show al.length = i from hal]; exact row_alts (HP.held 0 rfl) hal, by rw [show al.length = i from hal]; exact hf.1, hf.2.1, hf.2.2, (HP.below (by kernel_rfl)), own_base (row_own (HP.held 0 rfl) hal)⟩
 ·have g24p := of_decide_eq_false g24
  refine H.s 25 fun a H => ?_
  refine H.s 26 fun a H => ?_
  refine H.s 27 fun a H => ?_
  refine H.s 28 fun a H => ?_
  refine H.s 29 fun a H => ?_
  refine H.v 30 (.bool false) fun a H => ?_
  refine wpList_nil (then_normal ?_)
  refine w_iff H rfl ?_
  refine wp_exit (then_exit (then_exit ?_))
  refine w_exit_here ?_
  refine then_normal (wp_seq (wp_seq (w_region ?_)))
  refine H.v 45 (.pointer (some ⟨b_3, 0, none⟩)) fun a H => ?_
  refine H.v 46 (.pointer (some ⟨b_3, 0, none⟩)) fun a H => ?_
  refine H.v 47 (.pointer (some ⟨b_3, 2, none⟩)) fun a H => ?_
  refine H.u 48 (.int .i64 E) (ex_load1 (by kernel_rfl) (by kernel_rfl) (v := .int .i64 E) (HP.cell 2 rfl 2 rfl)) fun a H => ?_
  refine H.v 49 (.bool (E == 0)) fun a H => ?_
  refine H.v 50 (.bool (E == 0)) fun a H => ?_
  refine H.split 50 rfl (fun g50 H => ?_) (fun g50 H => ?_)
  ·have g50p := eq_of_beq g50
   refine H.v 51 (.pointer (some ⟨b_3, 0, none⟩)) fun a H => ?_
   refine H.v 52 (.pointer (some ⟨b_3, 0, none⟩)) fun a H => ?_
   refine H.v 53 (.pointer (some ⟨b_3, 1, none⟩)) fun a H => ?_
   refine H.u 54 (.int .i64 ((kq : Nat) : Int)) (ex_load1 (by kernel_rfl) (by kernel_rfl) (v := .int .i64 ((kq : Nat) : Int)) (HP.cell 2 rfl 1 rfl)) fun a H => ?_
   refine H.v 55 (.string (bstr s)) fun a H => ?_
   refine H.v 56 (.int .i64 ((s.length : Nat) : Int)) fun a H => ?_
   refine H.v 57 (.bool (decide (((kq : Nat) : Int) < ((s.length : Nat) : Int)))) fun a H => ?_
   refine H.v 58 (.bool (decide (((kq : Nat) : Int) < ((s.length : Nat) : Int)))) fun a H => ?_
   refine wpList_nil ?_
   have H := H.keep (L' := [(58, (.bool (decide (((kq : Nat) : Int) < ((s.length : Nat) : Int))))), (30, (.bool false)), (29, undef), (28, undef), (27, undef), (26, undef), (25, undef), (24, (.bool false)), (23, (.bool (decide (((i : Nat) : Int) < ((m : Nat) : Int))))), (22, (.int .i64 ((m : Nat) : Int))), (21, (.int .i64 ((i : Nat) : Int))), (7, (.int .i64 ((i : Nat) : Int))), (6, (.int .i64 ((m : Nat) : Int))), (0, (.string (bstr s))), (2, (.pointer (some ⟨b_1, 0, none⟩))), (4, (.pointer (some ⟨b_3, 0, none⟩))), (5, (.pointer (some ⟨b_6, 0, none⟩)))]) (by kernel_rfl)
   refine then_normal ?_
   refine w_if H rfl (fun g58 => ?_) (fun g58 => ?_)
   ·have g58p := of_decide_eq_true g58
    have HP : Hp w w_12 [(rowsR w.heap.size 103 2 altC (fun _ _ => True) (fun _ _ => False) (.slice B i cc) al), bx b_6 26 [(.int .i64 s0), (.int .i64 f0), (.slice B i cc)] true, bx b_3 116 [(.string (bstr s)), (.int .i64 ((kq : Nat) : Int)), (.int .i64 E)] true, bx b_1 26 [(.int .i64 0), (.int .i64 0), (.slice none 0 0)] true] [] := HP
    refine w_region ?_
    refine H.v 59 (.pointer (some ⟨b_3, 0, none⟩)) fun a H => ?_
    refine H.v 60 (.pointer (some ⟨b_3, 0, none⟩)) fun a H => ?_
    refine H.v 61 (.pointer (some ⟨b_3, 2, none⟩)) fun a H => ?_
    refine H.store HP 2 b_3 2 1 116 _ true (.int .i64 10) [(rowsR w.heap.size 103 2 altC (fun _ _ => True) (fun _ _ => False) (.slice B i cc) al), bx b_6 26 [(.int .i64 s0), (.int .i64 f0), (.slice B i cc)] true, bx b_3 116 [(.string (bstr s)), (.int .i64 ((kq : Nat) : Int)), (.int .i64 10)] true, bx b_1 26 [(.int .i64 0), (.int .i64 0), (.slice none 0 0)] true] (by kernel_rfl) (by kernel_rfl) (by kernel_rfl) rfl (by kernel_rfl) (by kernel_rfl) (by kernel_rfl) (by kernel_rfl) (by kernel_rfl) fun w_38 a H HP => ?_
    refine wpList_nil (then_normal (wp_seq (wp_seq (w_region ?_))))
    refine H.v 62 (.pointer (some ⟨b_3, 0, none⟩)) fun a H => ?_
    refine H.v 63 (.pointer (some ⟨b_3, 0, none⟩)) fun a H => ?_
    refine H.v 64 (.pointer (some ⟨b_3, 2, none⟩)) fun a H => ?_
    refine H.u 65 (.int .i64 10) (ex_load1 (by kernel_rfl) (by kernel_rfl) (v := .int .i64 10) (HP.cell 2 rfl 2 rfl)) fun a H => ?_
    refine H.v 66 (.bool true) fun a H => ?_
    refine wpList_nil (then_normal ?_)
    refine w_ift H rfl ?_
    refine wp_seq ?_
    refine An.start (fun v => Hp w v [(rowsR w.heap.size 103 2 altC (fun _ _ => True) (fun _ _ => False) (.slice B i cc) al), bx b_6 26 [(.int .i64 s0), (.int .i64 f0), (.slice B i cc)] true, bx b_3 116 [(.string (bstr s)), (.int .i64 ((kq : Nat) : Int)), (.int .i64 10)] true, bx b_1 26 [(.int .i64 0), (.int .i64 0), (.slice none 0 0)] true] []) 7 7 HP wide_follows rfl fun w_39 HP => ?_
    refine An.pure H (.inr (HP)) 0 67 (.agg #[(.int .i64 0), (.int .i64 0), (.slice none 0 0)]) rfl (by kernel_rfl) (by kernel_rfl) (fun _ _ _ h => h) (fun _ => by kernel_rfl) fun a H => ?_
    refine An.p H (.inr HP) 1 68 (.pointer (some ⟨b_3, 0, none⟩)) fun a H => ?_
    refine An.p H (.inr HP) 2 69 (.pointer (some ⟨b_3, 0, none⟩)) fun a H => ?_
    refine An.p H (.inr HP) 3 70 (.pointer (some ⟨b_3, 2, none⟩)) fun a H => ?_
    refine An.val H (HP) 4 71 (.int .i64 10) rfl (by kernel_rfl) (by kernel_rfl) (fun _ _ _ h => h) (fun _ hS => ex_load1 (by kernel_rfl) (by kernel_rfl) (v := .int .i64 10) (hS.cell 2 rfl 2 rfl)) fun a H => ?_
    refine An.one 5 (by kernel_rfl) ?_
    refine Op.store H HP 3 b_1 0 3 26 [(.int .i64 0), (.int .i64 0), (.slice none 0 0)] true (.agg #[(.int .i64 0), (.int .i64 0), (.slice none 0 0)]) [(rowsR w.heap.size 103 2 altC (fun _ _ => True) (fun _ _ => False) (.slice B i cc) al), bx b_6 26 [(.int .i64 s0), (.int .i64 f0), (.slice B i cc)] true, bx b_3 116 [(.string (bstr s)), (.int .i64 ((kq : Nat) : Int)), (.int .i64 10)] true, bx b_1 26 [(.int .i64 0), (.int .i64 0), (.slice none 0 0)] true] rfl (by kernel_rfl) (by kernel_rfl) (by kernel_rfl) rfl (by kernel_rfl) (by kernel_rfl) (by kernel_rfl) (by kernel_rfl) (by kernel_rfl) fun w_40 a H HP => ?_
    refine ⟨.inr (HP), ?_⟩
    refine An.p H (.inr HP) 6 3 (.int .i64 10) fun a H => ?_
    refine An.done (by kernel_rfl) ?_
    refine then_normal (wp_ret (then_ret ?_))
    refine H.ret2 (fn := Tryd.f46) Tryd.results46 (RV.cellN (vs := [(.int .i64 0), (.int .i64 0), (.slice none 0 0)]) (b := b_1) (off := 0) (k := 3) (by kernel_rfl) (by kernel_rfl) (by kernel_rfl) rfl (HP.cells 3 rfl 0 3 (by kernel_rfl))) (RV.tmp_ (v := (.int .i64 10)) (by kernel_rfl)) ?_
    refine retDec_zero ?_ (HP.below (by kernel_rfl))
    exact dec_short hrel hdm hal (by omega) (by omega) (by omega)
   ·have g58p := of_decide_eq_false g58
    refine wp_skip (then_normal (wp_seq (wp_seq (w_region ?_))))
    refine H.v 62 (.pointer (some ⟨b_3, 0, none⟩)) fun a H => ?_
    refine H.v 63 (.pointer (some ⟨b_3, 0, none⟩)) fun a H => ?_
    refine H.v 64 (.pointer (some ⟨b_3, 2, none⟩)) fun a H => ?_
    refine H.u 65 (.int .i64 E) (ex_load1 (by kernel_rfl) (by kernel_rfl) (v := .int .i64 E) (HP.cell 2 rfl 2 rfl)) fun a H => ?_
    refine H.v 66 (.bool (E != 0)) fun a H => ?_
    refine wpList_nil (then_normal ?_)
    refine w_if H rfl (fun g66 => ?_) (fun g66 => ?_)
    ·have g66p := bne_iff_ne.1 g66
     refine wp_seq ?_
     refine An.start (fun v => Hp w v [(rowsR w.heap.size 103 2 altC (fun _ _ => True) (fun _ _ => False) (.slice B i cc) al), bx b_6 26 [(.int .i64 s0), (.int .i64 f0), (.slice B i cc)] true, bx b_3 116 (inCells s (kq, E)) true, bx b_1 26 [(.int .i64 0), (.int .i64 0), (.slice none 0 0)] true] []) 7 7 HP wide_follows rfl fun w_41 HP => ?_
     refine An.pure H (.inr (HP)) 0 67 (.agg #[(.int .i64 0), (.int .i64 0), (.slice none 0 0)]) rfl (by kernel_rfl) (by kernel_rfl) (fun _ _ _ h => h) (fun _ => by kernel_rfl) fun a H => ?_
     refine An.p H (.inr HP) 1 68 (.pointer (some ⟨b_3, 0, none⟩)) fun a H => ?_
     refine An.p H (.inr HP) 2 69 (.pointer (some ⟨b_3, 0, none⟩)) fun a H => ?_
     refine An.p H (.inr HP) 3 70 (.pointer (some ⟨b_3, 2, none⟩)) fun a H => ?_
     refine An.val H (HP) 4 71 (.int .i64 E) rfl (by kernel_rfl) (by kernel_rfl) (fun _ _ _ h => h) (fun _ hS => ex_load1 (by kernel_rfl) (by kernel_rfl) (v := .int .i64 E) (hS.cell 2 rfl 2 rfl)) fun a H => ?_
     refine An.one 5 (by kernel_rfl) ?_
     refine Op.store H HP 3 b_1 0 3 26 [(.int .i64 0), (.int .i64 0), (.slice none 0 0)] true (.agg #[(.int .i64 0), (.int .i64 0), (.slice none 0 0)]) [(rowsR w.heap.size 103 2 altC (fun _ _ => True) (fun _ _ => False) (.slice B i cc) al), bx b_6 26 [(.int .i64 s0), (.int .i64 f0), (.slice B i cc)] true, bx b_3 116 (inCells s (kq, E)) true, bx b_1 26 [(.int .i64 0), (.int .i64 0), (.slice none 0 0)] true] rfl (by kernel_rfl) (by kernel_rfl) (by kernel_rfl) rfl (by kernel_rfl) (by kernel_rfl) (by kernel_rfl) (by kernel_rfl) (by kernel_rfl) fun w_42 a H HP => ?_
     refine ⟨.inr (HP), ?_⟩
     refine An.p H (.inr HP) 6 3 (.int .i64 E) fun a H => ?_
     refine An.done (by kernel_rfl) ?_
     refine then_normal (wp_ret (then_ret ?_))
     refine H.ret2 (fn := Tryd.f46) Tryd.results46 (RV.cellN (vs := [(.int .i64 0), (.int .i64 0), (.slice none 0 0)]) (b := b_1) (off := 0) (k := 3) (by kernel_rfl) (by kernel_rfl) (by kernel_rfl) rfl (HP.cells 3 rfl 0 3 (by kernel_rfl))) (RV.tmp_ (v := (.int .i64 E)) (by kernel_rfl)) ?_
     refine retDec_zero ?_ (HP.below (by kernel_rfl))
     exact hrel.2 (by omega)
    ·have g66p := eq_of_bne_false g66
     refine wp_skip (then_normal (wp_seq (w_region ?_)))
     refine H.u 72 (.agg #[(.int .i64 s0), (.int .i64 f0), (.slice B i cc)]) (ex_loadN (vs := [(.int .i64 s0), (.int .i64 f0), (.slice B i cc)]) (by kernel_rfl) (by kernel_rfl) (by kernel_rfl) rfl (HP.cells 1 rfl 0 3 (by kernel_rfl))) fun a H => ?_
     refine H.call 73 (by kernel_rfl) (Eq.trans (by kernel_rfl : _ = (callFunc 37 #[(.agg #[(.int .i64 s0), (.int .i64 f0), (.slice B i cc)])]).run Tryd.prog w_12) (Tryd.call37 _ _)) (rvalid_any s0 f0 B i cc al w_12 (row_alts (HP.held 0 rfl) hal) (by unfold maxLen; omega)) ?_
     rintro e w_43 ⟨rfl, hb⟩
     refine ⟨_, rfl, ?_⟩
     intro a H
     have HP := HP.next hb
     refine H.v 9 (.bool (validP s0 f0 al)) fun a H => ?_
     refine wpList_nil (then_normal (wp_seq (wp_seq (w_region ?_))))
     refine H.v 74 (.bool (validP s0 f0 al)) fun a H => ?_
     refine H.v 75 (.bool (!(validP s0 f0 al))) fun a H => ?_
     refine wpList_nil (then_normal ?_)
     refine w_if H rfl (fun g75 => ?_) (fun g75 => ?_)
     ·have g75p := not_is_true g75
      refine wp_seq (w_region ?_)
      refine H.v 76 (.agg #[(.int .i64 0), (.int .i64 0), (.slice none 0 0)]) fun a H => ?_
      refine H.store HP 3 b_1 0 3 26 _ true (.agg #[(.int .i64 0), (.int .i64 0), (.slice none 0 0)]) [(rowsR w.heap.size 103 2 altC (fun _ _ => True) (fun _ _ => False) (.slice B i cc) al), bx b_6 26 [(.int .i64 s0), (.int .i64 f0), (.slice B i cc)] true, bx b_3 116 (inCells s (kq, E)) true, bx b_1 26 [(.int .i64 0), (.int .i64 0), (.slice none 0 0)] true] (by kernel_rfl) (by kernel_rfl) (by kernel_rfl) rfl (by kernel_rfl) (by kernel_rfl) (by kernel_rfl) (by kernel_rfl) (by kernel_rfl) fun w_44 a H HP => ?_
      refine H.v 3 (.int .i64 170) fun a H => ?_
      refine wpList_nil (then_normal (wp_ret (then_ret ?_)))
      refine H.ret2 (fn := Tryd.f46) Tryd.results46 (RV.cellN (vs := [(.int .i64 0), (.int .i64 0), (.slice none 0 0)]) (b := b_1) (off := 0) (k := 3) (by kernel_rfl) (by kernel_rfl) (by kernel_rfl) rfl (HP.cells 3 rfl 0 3 (by kernel_rfl))) (RV.tmp_ (v := (.int .i64 170)) (by kernel_rfl)) ?_
      refine retDec_zero ?_ (HP.below (by kernel_rfl))
      have hd := dec_fin hrel hdm hal (by omega) hkq (by omega) (by omega)
      rw [hd, if_neg (by rw [g75p]; decide)]
     ·have g75p := not_is_false g75
      refine wp_skip (then_normal (wp_seq (w_region ?_)))
      refine H.u 77 (.agg #[(.int .i64 s0), (.int .i64 f0), (.slice B i cc)]) (ex_loadN (vs := [(.int .i64 s0), (.int .i64 f0), (.slice B i cc)]) (by kernel_rfl) (by kernel_rfl) (by kernel_rfl) rfl (HP.cells 1 rfl 0 3 (by kernel_rfl))) fun a H => ?_
      refine H.store HP 3 b_1 0 3 26 _ true (.agg #[(.int .i64 s0), (.int .i64 f0), (.slice B i cc)]) [(rowsR w.heap.size 103 2 altC (fun _ _ => True) (fun _ _ => False) (.slice B i cc) al), bx b_6 26 [(.int .i64 s0), (.int .i64 f0), (.slice B i cc)] true, bx b_3 116 (inCells s (kq, E)) true, bx b_1 26 [(.int .i64 s0), (.int .i64 f0), (.slice B i cc)] true] (by kernel_rfl) (by kernel_rfl) (by kernel_rfl) rfl (by kernel_rfl) (by kernel_rfl) (by kernel_rfl) (by kernel_rfl) (by kernel_rfl) fun w_45 a H HP => ?_
      refine H.v 3 (.int .i64 0) fun a H => ?_
      refine wpList_nil (then_normal (wp_ret ?_))
      refine H.ret2 (fn := Tryd.f46) Tryd.results46 (RV.cellN (vs := [(.int .i64 s0), (.int .i64 f0), (.slice B i cc)]) (b := b_1) (off := 0) (k := 3) (by kernel_rfl) (by kernel_rfl) (by kernel_rfl) rfl (HP.cells 3 rfl 0 3 (by kernel_rfl))) (RV.tmp_ (v := (.int .i64 0)) (by kernel_rfl)) ?_
      have hd := dec_fin hrel hdm hal (by omega) hkq (by omega) (by omega)
      rw [hd, if_pos g75p]
      have hf := own_facts (row_own (HP.held 0 rfl) hal)
      exact ⟨B, cc, by rw [show al.length = i from hal], by rw [show al.length = i from hal]; exact row_alts (HP.held 0 rfl) hal, by rw [show al.length = i from hal]; exact hf.1, hf.2.1, hf.2.2, (HP.below (by kernel_rfl)), own_base (row_own (HP.held 0 rfl) hal)⟩
  ·have g50p := ne_of_beq_false g50
   refine H.s 51 fun a H => ?_
   refine H.s 52 fun a H => ?_
   refine H.s 53 fun a H => ?_
   refine H.s 54 fun a H => ?_
   refine H.s 55 fun a H => ?_
   refine H.s 56 fun a H => ?_
   refine H.s 57 fun a H => ?_
   refine H.v 58 (.bool false) fun a H => ?_
   refine wpList_nil ?_
   have H := H.keep (L' := [(58, (.bool false)), (30, (.bool false)), (29, undef), (28, undef), (27, undef), (26, undef), (25, undef), (24, (.bool false)), (23, (.bool (decide (((i : Nat) : Int) < ((m : Nat) : Int))))), (22, (.int .i64 ((m : Nat) : Int))), (21, (.int .i64 ((i : Nat) : Int))), (7, (.int .i64 ((i : Nat) : Int))), (6, (.int .i64 ((m : Nat) : Int))), (0, (.string (bstr s))), (2, (.pointer (some ⟨b_1, 0, none⟩))), (4, (.pointer (some ⟨b_3, 0, none⟩))), (5, (.pointer (some ⟨b_6, 0, none⟩)))]) (by kernel_rfl)
   refine then_normal ?_
   refine w_iff H rfl ?_
   refine wp_skip (then_normal (wp_seq (wp_seq (w_region ?_))))
   refine H.v 62 (.pointer (some ⟨b_3, 0, none⟩)) fun a H => ?_
   refine H.v 63 (.pointer (some ⟨b_3, 0, none⟩)) fun a H => ?_
   refine H.v 64 (.pointer (some ⟨b_3, 2, none⟩)) fun a H => ?_
   refine H.u 65 (.int .i64 E) (ex_load1 (by kernel_rfl) (by kernel_rfl) (v := .int .i64 E) (HP.cell 2 rfl 2 rfl)) fun a H => ?_
   refine H.v 66 (.bool (E != 0)) fun a H => ?_
   refine wpList_nil (then_normal ?_)
   refine w_if H rfl (fun g66 => ?_) (fun g66 => ?_)
   ·have g66p := bne_iff_ne.1 g66
    refine wp_seq ?_
    refine An.start (fun v => Hp w v [(rowsR w.heap.size 103 2 altC (fun _ _ => True) (fun _ _ => False) (.slice B i cc) al), bx b_6 26 [(.int .i64 s0), (.int .i64 f0), (.slice B i cc)] true, bx b_3 116 (inCells s (kq, E)) true, bx b_1 26 [(.int .i64 0), (.int .i64 0), (.slice none 0 0)] true] []) 7 7 HP wide_follows rfl fun w_46 HP => ?_
    refine An.pure H (.inr (HP)) 0 67 (.agg #[(.int .i64 0), (.int .i64 0), (.slice none 0 0)]) rfl (by kernel_rfl) (by kernel_rfl) (fun _ _ _ h => h) (fun _ => by kernel_rfl) fun a H => ?_
    refine An.p H (.inr HP) 1 68 (.pointer (some ⟨b_3, 0, none⟩)) fun a H => ?_
    refine An.p H (.inr HP) 2 69 (.pointer (some ⟨b_3, 0, none⟩)) fun a H => ?_
    refine An.p H (.inr HP) 3 70 (.pointer (some ⟨b_3, 2, none⟩)) fun a H => ?_
    refine An.val H (HP) 4 71 (.int .i64 E) rfl (by kernel_rfl) (by kernel_rfl) (fun _ _ _ h => h) (fun _ hS => ex_load1 (by kernel_rfl) (by kernel_rfl) (v := .int .i64 E) (hS.cell 2 rfl 2 rfl)) fun a H => ?_
    refine An.one 5 (by kernel_rfl) ?_
    refine Op.store H HP 3 b_1 0 3 26 [(.int .i64 0), (.int .i64 0), (.slice none 0 0)] true (.agg #[(.int .i64 0), (.int .i64 0), (.slice none 0 0)]) [(rowsR w.heap.size 103 2 altC (fun _ _ => True) (fun _ _ => False) (.slice B i cc) al), bx b_6 26 [(.int .i64 s0), (.int .i64 f0), (.slice B i cc)] true, bx b_3 116 (inCells s (kq, E)) true, bx b_1 26 [(.int .i64 0), (.int .i64 0), (.slice none 0 0)] true] rfl (by kernel_rfl) (by kernel_rfl) (by kernel_rfl) rfl (by kernel_rfl) (by kernel_rfl) (by kernel_rfl) (by kernel_rfl) (by kernel_rfl) fun w_47 a H HP => ?_
    refine ⟨.inr (HP), ?_⟩
    refine An.p H (.inr HP) 6 3 (.int .i64 E) fun a H => ?_
    refine An.done (by kernel_rfl) ?_
    refine then_normal (wp_ret (then_ret ?_))
    refine H.ret2 (fn := Tryd.f46) Tryd.results46 (RV.cellN (vs := [(.int .i64 0), (.int .i64 0), (.slice none 0 0)]) (b := b_1) (off := 0) (k := 3) (by kernel_rfl) (by kernel_rfl) (by kernel_rfl) rfl (HP.cells 3 rfl 0 3 (by kernel_rfl))) (RV.tmp_ (v := (.int .i64 E)) (by kernel_rfl)) ?_
    refine retDec_zero ?_ (HP.below (by kernel_rfl))
    exact hrel.2 (by omega)
   ·have g66p := eq_of_bne_false g66
    refine wp_skip (then_normal (wp_seq (w_region ?_)))
    refine H.u 72 (.agg #[(.int .i64 s0), (.int .i64 f0), (.slice B i cc)]) (ex_loadN (vs := [(.int .i64 s0), (.int .i64 f0), (.slice B i cc)]) (by kernel_rfl) (by kernel_rfl) (by kernel_rfl) rfl (HP.cells 1 rfl 0 3 (by kernel_rfl))) fun a H => ?_
    refine H.call 73 (by kernel_rfl) (Eq.trans (by kernel_rfl : _ = (callFunc 37 #[(.agg #[(.int .i64 s0), (.int .i64 f0), (.slice B i cc)])]).run Tryd.prog w_12) (Tryd.call37 _ _)) (rvalid_any s0 f0 B i cc al w_12 (row_alts (HP.held 0 rfl) hal) (by unfold maxLen; omega)) ?_
    rintro e w_48 ⟨rfl, hb⟩
    refine ⟨_, rfl, ?_⟩
    intro a H
    have HP := HP.next hb
    refine H.v 9 (.bool (validP s0 f0 al)) fun a H => ?_
    refine wpList_nil (then_normal (wp_seq (wp_seq (w_region ?_))))
    refine H.v 74 (.bool (validP s0 f0 al)) fun a H => ?_
    refine H.v 75 (.bool (!(validP s0 f0 al))) fun a H => ?_
    refine wpList_nil (then_normal ?_)
    refine w_if H rfl (fun g75 => ?_) (fun g75 => ?_)
    ·have g75p := not_is_true g75
     refine wp_seq (w_region ?_)
     refine H.v 76 (.agg #[(.int .i64 0), (.int .i64 0), (.slice none 0 0)]) fun a H => ?_
     refine H.store HP 3 b_1 0 3 26 _ true (.agg #[(.int .i64 0), (.int .i64 0), (.slice none 0 0)]) [(rowsR w.heap.size 103 2 altC (fun _ _ => True) (fun _ _ => False) (.slice B i cc) al), bx b_6 26 [(.int .i64 s0), (.int .i64 f0), (.slice B i cc)] true, bx b_3 116 (inCells s (kq, E)) true, bx b_1 26 [(.int .i64 0), (.int .i64 0), (.slice none 0 0)] true] (by kernel_rfl) (by kernel_rfl) (by kernel_rfl) rfl (by kernel_rfl) (by kernel_rfl) (by kernel_rfl) (by kernel_rfl) (by kernel_rfl) fun w_49 a H HP => ?_
     refine H.v 3 (.int .i64 170) fun a H => ?_
     refine wpList_nil (then_normal (wp_ret (then_ret ?_)))
     refine H.ret2 (fn := Tryd.f46) Tryd.results46 (RV.cellN (vs := [(.int .i64 0), (.int .i64 0), (.slice none 0 0)]) (b := b_1) (off := 0) (k := 3) (by kernel_rfl) (by kernel_rfl) (by kernel_rfl) rfl (HP.cells 3 rfl 0 3 (by kernel_rfl))) (RV.tmp_ (v := (.int .i64 170)) (by kernel_rfl)) ?_
     refine retDec_zero ?_ (HP.below (by kernel_rfl))
     have hd := dec_fin hrel hdm hal (by omega) hkq (by omega) (by omega)
     rw [hd, if_neg (by rw [g75p]; decide)]
    ·have g75p := not_is_false g75
     refine wp_skip (then_normal (wp_seq (w_region ?_)))
     refine H.u 77 (.agg #[(.int .i64 s0), (.int .i64 f0), (.slice B i cc)]) (ex_loadN (vs := [(.int .i64 s0), (.int .i64 f0), (.slice B i cc)]) (by kernel_rfl) (by kernel_rfl) (by kernel_rfl) rfl (HP.cells 1 rfl 0 3 (by kernel_rfl))) fun a H => ?_
     refine H.store HP 3 b_1 0 3 26 _ true (.agg #[(.int .i64 s0), (.int .i64 f0), (.slice B i cc)]) [(rowsR w.heap.size 103 2 altC (fun _ _ => True) (fun _ _ => False) (.slice B i cc) al), bx b_6 26 [(.int .i64 s0), (.int .i64 f0), (.slice B i cc)] true, bx b_3 116 (inCells s (kq, E)) true, bx b_1 26 [(.int .i64 s0), (.int .i64 f0), (.slice B i cc)] true] (by kernel_rfl) (by kernel_rfl) (by kernel_rfl) rfl (by kernel_rfl) (by kernel_rfl) (by kernel_rfl) (by kernel_rfl) (by kernel_rfl) fun w_50 a H HP => ?_
     refine H.v 3 (.int .i64 0) fun a H => ?_
     refine wpList_nil (then_normal (wp_ret ?_))
     refine H.ret2 (fn := Tryd.f46) Tryd.results46 (RV.cellN (vs := [(.int .i64 s0), (.int .i64 f0), (.slice B i cc)]) (b := b_1) (off := 0) (k := 3) (by kernel_rfl) (by kernel_rfl) (by kernel_rfl) rfl (HP.cells 3 rfl 0 3 (by kernel_rfl))) (RV.tmp_ (v := (.int .i64 0)) (by kernel_rfl)) ?_
     have hd := dec_fin hrel hdm hal (by omega) hkq (by omega) (by omega)
     rw [hd, if_pos g75p]
     have hf := own_facts (row_own (HP.held 0 rfl) hal)
     exact ⟨B, cc, by rw [show al.length = i from hal], by rw [show al.length = i from hal]; exact row_alts (HP.held 0 rfl) hal, by rw [show al.length = i from hal]; exact hf.1, hf.2.1, hf.2.2, (HP.below (by kernel_rfl)), own_base (row_own (HP.held 0 rfl) hal)⟩
end Go.Proofs.YtgdjpaeclicdfaaDoor
