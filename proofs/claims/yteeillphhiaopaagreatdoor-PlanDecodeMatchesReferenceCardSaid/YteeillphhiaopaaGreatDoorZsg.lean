/- The statement PlanDecodeMatchesReference: for every input the law returns true and leaves its arguments as they were. No condition. -/
import Derived.Deep.Slices
import Derived.Deep.Fields
import Derived.ChangeSame
import Derived.ChangeArms
import Derived.SizedLaws
import Derived.Test.YteeillphhiaopaaGreatDoorCards
import Derived.Test.YteeillphhiaopaaGreatDoorTie
import Derived.WalkKit
import Derived.ProofKit
import Derived.OpenShut
import Derived.ShutString
import Derived.ChangeOld
import Derived.Below
import Derived.SevenTiedAt
import Derived.Test.YteeillphhiaopaaGreatDoorZsf
namespace Go.Proofs.YteeillphhiaopaaGreatDoor
set_option maxRecDepth 100000
set_option maxHeartbeats 4000000
open Go.ChangeShapes Go.WideShapes Go.ChangeAt Go.RowKit
set_option linter.unusedVariables false
set_option linter.unusedSimpArgs false
def rdHead (s : List UInt8) (k : Nat) : RdR (List Int × Alts × List Int) := match rdN s 4 k with
 | .error e => .error e
 | .ok (h, k1) => match rdC s 40 (rdM altOf s 2) k1 with
  | .error e => .error e
  | .ok (sh, k2) => match rdN s 4 k2 with
   | .error e => .error e
   | .ok (m, k3) => .ok ((h, sh, m), k3)
theorem and_tt {p : Prop} [Decidable p] {e : Int} (h : (decide p && (e == 0)) = true) : p ∧ e = 0 := by
 simpa using h
theorem and_ff {p : Prop} [Decidable p] {e : Int} (h : (decide p && (e == 0)) = false) : ¬ (p ∧ e = 0) := fun hh => by
 rw [decide_eq_true hh.1, hh.2] at h
 cases h
theorem stg_head {s : List UInt8} {k k1 k2 k3 : Nat} {E E1 E2 E3 : Int} {h m : List Int} {sh : Alts} (h1 : Stg (rdN s 4) k E h k1 E1) (h2 : Stg (rdC s 40 (rdM altOf s 2)) k1 E1 sh k2 E2) (h3 : Stg (rdN s 4) k2 E2 m k3 E3) : Stg (rdHead s) k E (h, sh, m) k3 E3 := by
 refine ⟨fun e => ?_, fun e => ?_⟩
 ·obtain ⟨a1, a2⟩ := h3.1 e
  obtain ⟨b1, b2⟩ := h2.1 a1
  obtain ⟨c1, c2⟩ := h1.1 b1
  exact ⟨c1, by unfold rdHead; rw [c2]; simp only; rw [b2]; simp only; rw [a2]⟩
 ·rcases h3.2 e with ⟨a1, rfl⟩ | ⟨a1, a2⟩
  ·rcases h2.2 a1 with ⟨b1, rfl⟩ | ⟨b1, b2⟩
   ·rcases h1.2 b1 with c | ⟨c1, c2⟩
    ·exact .inl c
    ·exact .inr ⟨c1, by unfold rdHead; rw [c2]⟩
   ·obtain ⟨c1, c2⟩ := h1.1 b1
    exact .inr ⟨c1, by unfold rdHead; rw [c2]; simp only; rw [b2]⟩
  ·obtain ⟨b1, b2⟩ := h2.1 a1
   obtain ⟨c1, c2⟩ := h1.1 b1
   exact .inr ⟨c1, by unfold rdHead; rw [c2]; simp only; rw [b2]; simp only; rw [a2]⟩
theorem rdPl_eq (s : List UInt8) : rdPl s = match rdHead s 0 with
  | .error e => .error e
  | .ok ((h, sh, m), k3) => match rdC s 4000 (rdM itOf s 5) k3 with
    | .error e => .error e
    | .ok (its, k4) => match rdC s 4000 (rdEnt s) k4 with
     | .error e => .error e
     | .ok (es, k5) => match rdC s 2000 (rdM bkOf s 7) k5 with
      | .error e => .error e
      | .ok (bs, k6) => match rdC s 400 (rdM clOf s 8) k6 with
       | .error e => .error e
       | .ok (cs, k7) => .ok (⟨h.getD 0 0, h.getD 1 0, h.getD 2 0, h.getD 3 0, sh, m.getD 0 0, m.getD 1 0, m.getD 2 0, m.getD 3 0, its, es, bs, cs⟩, k7) := by
 unfold rdPl rdHead
 cases rdN s 4 0 with
 | error e => rfl
 | ok p =>
  simp only
  cases rdC s 40 (rdM altOf s 2) p.2 with
  | error e => rfl
  | ok q =>
   simp only
   cases rdN s 4 q.2 with
   | error e => rfl
   | ok r => rfl
theorem stg_pl {s : List UInt8} {k0 k1 k2 k3 k4 : Nat} {E0 E1 E2 E3 E4 : Int} {z0 z1 z2 z3 y0 y1 y2 y3 : Int} {sh : Alts} {its : List Itm} {es : List EnN} {bs : List Bkg} {cs : List Cls} (h0 : Stg (rdHead s) 0 0 ([z0, z1, z2, z3], sh, [y0, y1, y2, y3]) k0 E0)
  (h1 : Stg (rdC s 4000 (rdM itOf s 5)) k0 E0 its k1 E1) (h2 : Stg (rdC s 4000 (rdEnt s)) k1 E1 es k2 E2) (h3 : Stg (rdC s 2000 (rdM bkOf s 7)) k2 E2 bs k3 E3) (h4 : Stg (rdC s 400 (rdM clOf s 8)) k3 E3 cs k4 E4) :
  (E4 = 0 → rdPl s = .ok (⟨z0, z1, z2, z3, sh, y0, y1, y2, y3, its, es, bs, cs⟩, k4)) ∧ (E4 ≠ 0 → rdPl s = .error E4) := by
 rw [rdPl_eq]
 refine ⟨fun e => ?_, fun e => ?_⟩
 ·obtain ⟨a1, a2⟩ := h4.1 e
  obtain ⟨b1, b2⟩ := h3.1 a1
  obtain ⟨c1, c2⟩ := h2.1 b1
  obtain ⟨d1, d2⟩ := h1.1 c1
  obtain ⟨e1, e2⟩ := h0.1 d1
  rw [e2]; simp only; rw [d2]; simp only; rw [c2]; simp only; rw [b2]; simp only; rw [a2]; rfl
 ·rcases h4.2 e with ⟨a1, rfl⟩ | ⟨a1, a2⟩
  ·rcases h3.2 a1 with ⟨b1, rfl⟩ | ⟨b1, b2⟩
   ·rcases h2.2 b1 with ⟨c1, rfl⟩ | ⟨c1, c2⟩
    ·rcases h1.2 c1 with ⟨d1, rfl⟩ | ⟨d1, d2⟩
     ·rcases h0.2 d1 with ⟨e1, _⟩ | ⟨e1, e2⟩
      ·exact absurd rfl e1
      ·rw [e2]
     ·obtain ⟨e1, e2⟩ := h0.1 d1
      rw [e2]; simp only; rw [d2]
    ·obtain ⟨d1, d2⟩ := h1.1 c1
     obtain ⟨e1, e2⟩ := h0.1 d1
     rw [e2]; simp only; rw [d2]; simp only; rw [c2]
   ·obtain ⟨c1, c2⟩ := h2.1 b1
    obtain ⟨d1, d2⟩ := h1.1 c1
    obtain ⟨e1, e2⟩ := h0.1 d1
    rw [e2]; simp only; rw [d2]; simp only; rw [c2]; simp only; rw [b2]
  ·obtain ⟨b1, b2⟩ := h3.1 a1
   obtain ⟨c1, c2⟩ := h2.1 b1
   obtain ⟨d1, d2⟩ := h1.1 c1
   obtain ⟨e1, e2⟩ := h0.1 d1
   rw [e2]; simp only; rw [d2]; simp only; rw [c2]; simp only; rw [b2]; simp only; rw [a2]
theorem rhead_any (b pb : Nat) (s : List UInt8) (k : Nat) (E : Int) (w : World) (h : Box w b 106 (inCells s (k, E)).toArray) (hp : Box w pb 32 [(ii 0), (ii 0), (ii 0), (ii 0), (.slice none 0 0), (ii 0), (ii 0), (ii 0), (ii 0), (.slice none 0 0), (.slice none 0 0), (.slice none 0 0), (.slice none 0 0)].toArray) (hne : b ≠ pb) (hl : s.length ≤ 1000000) (hk : k ≤ s.length) :
  Calls Tryz.prog 62 #[.pointer (some ⟨b, 0, none⟩), .pointer (some ⟨pb, 0, none⟩)] w fun e w' => Agree w w' (fun j => j = b ∨ j = pb) ∧ e = .returned (.tuple #[]) ∧ ∃ (z0 z1 z2 z3 : Int) (A : Option Addr) (c : Nat) (sh : Alts) (y0 y1 y2 y3 : Int) (k1 : Nat) (E1 : Int), k1 ≤ s.length ∧ Stg (rdHead s) k E ([z0, z1, z2, z3], sh, [y0, y1, y2, y3]) k1 E1 ∧ Box w' b 106 (inCells s (k1, E1)).toArray ∧
   Box w' pb 32 [.int .i64 z0, .int .i64 z1, .int .i64 z2, .int .i64 z3, .slice A sh.length c, .int .i64 y0, .int .i64 y1, .int .i64 y2, .int .i64 y3, .slice none 0 0, .slice none 0 0, .slice none 0 0, .slice none 0 0].toArray ∧ IsAl w' A sh ∧ (∀ j, rowFp sh.length A j → w.heap.size ≤ j) ∧ sh.length ≤ 40 := by
 have HP := Hp.own2 h hp hne
 refine w_enter 82 [(0, (pt b 0)), (1, (pt pb 0))] Tryz.func62 rfl Tryz.ntmps62 (by kernel_rfl) (by kernel_rfl) fun a H => ?_
 refine sq (rg ?_)
 refine H.v 7 (pt pb 0) fun a H => H.v 8 (pt b 0) fun a H => ?_
 obtain ⟨n1, k1, E1, h1⟩ : ∃ nn kk ee, nR s (k, E) = (nn, (kk, ee)) := ⟨_, _, _, rfl⟩
 have hk1 : k1 ≤ s.length := by have := nR_le (s := s) (q := (k, E)) hk; rw [h1] at this; exact this
 refine H.cl 9 (Tryz.call64 _ _) ((by have hh := nR_any b s (k, E) w (HP.at_ 0 rfl) hl hk; simp only [h1] at hh; exact hh)) ?_
 rintro e w_1 ⟨rfl, hbx, hgr⟩
 refine ⟨_, rfl, ?_⟩
 intro a H
 have HP := HP.changed1 0 rfl (inCells s (k1, E1)) _ rfl hgr hbx
 refine H.v 10 (pt pb 0) fun a H => H.v 11 (pt pb 0) fun a H => H.st HP 1 pb 0 1 32 false (ii n1) [bx b 106 (inCells s (k1, E1)) false, bx pb 32 [(ii n1), (ii 0), (ii 0), (ii 0), (.slice none 0 0), (ii 0), (ii 0), (ii 0), (ii 0), (.slice none 0 0), (.slice none 0 0), (.slice none 0 0), (.slice none 0 0)] false] rfl fun w_2 a H HP => ?_
 refine nl (tn (sq (rg ?_)))
 refine H.v 12 (pt pb 0) fun a H => H.v 13 (pt b 0) fun a H => ?_
 obtain ⟨n2, k2, E2, h2⟩ : ∃ nn kk ee, nR s (k1, E1) = (nn, (kk, ee)) := ⟨_, _, _, rfl⟩
 have hk2 : k2 ≤ s.length := by have := nR_le (s := s) (q := (k1, E1)) hk1; rw [h2] at this; exact this
 refine H.cl 14 (Tryz.call64 _ _) ((by have hh := nR_any b s (k1, E1) w_2 (HP.at_ 0 rfl) hl hk1; simp only [h2] at hh; exact hh)) ?_
 rintro e w_3 ⟨rfl, hbx, hgr⟩
 refine ⟨_, rfl, ?_⟩
 intro a H
 have HP := HP.changed1 0 rfl (inCells s (k2, E2)) _ rfl hgr hbx
 refine H.v 15 (pt pb 0) fun a H => H.v 16 (pt pb 1) fun a H => H.v 17 (pt pb 1) fun a H => H.st HP 1 pb 1 1 32 false (ii n2) [bx b 106 (inCells s (k2, E2)) false, bx pb 32 [(ii n1), (ii n2), (ii 0), (ii 0), (.slice none 0 0), (ii 0), (ii 0), (ii 0), (ii 0), (.slice none 0 0), (.slice none 0 0), (.slice none 0 0), (.slice none 0 0)] false] rfl fun w_4 a H HP => ?_
 refine nl (tn (sq (rg ?_)))
 refine H.v 18 (pt pb 0) fun a H => H.v 19 (pt b 0) fun a H => ?_
 obtain ⟨n3, k3, E3, h3⟩ : ∃ nn kk ee, nR s (k2, E2) = (nn, (kk, ee)) := ⟨_, _, _, rfl⟩
 have hk3 : k3 ≤ s.length := by have := nR_le (s := s) (q := (k2, E2)) hk2; rw [h3] at this; exact this
 refine H.cl 20 (Tryz.call64 _ _) ((by have hh := nR_any b s (k2, E2) w_4 (HP.at_ 0 rfl) hl hk2; simp only [h3] at hh; exact hh)) ?_
 rintro e w_5 ⟨rfl, hbx, hgr⟩
 refine ⟨_, rfl, ?_⟩
 intro a H
 have HP := HP.changed1 0 rfl (inCells s (k3, E3)) _ rfl hgr hbx
 refine H.v 21 (pt pb 0) fun a H => H.v 22 (pt pb 1) fun a H => H.v 23 (pt pb 2) fun a H => H.st HP 1 pb 2 1 32 false (ii n3) [bx b 106 (inCells s (k3, E3)) false, bx pb 32 [(ii n1), (ii n2), (ii n3), (ii 0), (.slice none 0 0), (ii 0), (ii 0), (ii 0), (ii 0), (.slice none 0 0), (.slice none 0 0), (.slice none 0 0), (.slice none 0 0)] false] rfl fun w_6 a H HP => ?_
 refine nl (tn (sq (rg ?_)))
 refine H.v 24 (pt pb 0) fun a H => H.v 25 (pt b 0) fun a H => ?_
 obtain ⟨n4, k4, E4, h4⟩ : ∃ nn kk ee, nR s (k3, E3) = (nn, (kk, ee)) := ⟨_, _, _, rfl⟩
 have hk4 : k4 ≤ s.length := by have := nR_le (s := s) (q := (k3, E3)) hk3; rw [h4] at this; exact this
 refine H.cl 26 (Tryz.call64 _ _) ((by have hh := nR_any b s (k3, E3) w_6 (HP.at_ 0 rfl) hl hk3; simp only [h4] at hh; exact hh)) ?_
 rintro e w_7 ⟨rfl, hbx, hgr⟩
 refine ⟨_, rfl, ?_⟩
 intro a H
 have HP := HP.changed1 0 rfl (inCells s (k4, E4)) _ rfl hgr hbx
 refine H.v 27 (pt pb 0) fun a H => H.v 28 (pt pb 3) fun a H => H.v 29 (pt pb 3) fun a H => H.st HP 1 pb 3 1 32 false (ii n4) [bx b 106 (inCells s (k4, E4)) false, bx pb 32 [(ii n1), (ii n2), (ii n3), (ii n4), (.slice none 0 0), (ii 0), (ii 0), (ii 0), (ii 0), (.slice none 0 0), (.slice none 0 0), (.slice none 0 0), (.slice none 0 0)] false] rfl fun w_8 a H HP => ?_
 refine nl (tn (sq (rg ?_)))
 refine H.v 30 (pt b 0) fun a H => ?_
 obtain ⟨c5, k5, E5, h5⟩ : ∃ nn kk ee, cntR 40 s (k4, E4) = (nn, (kk, ee)) := ⟨_, _, _, rfl⟩
 have hk5 : k5 ≤ s.length := by have := cntR_le (most := 40) (s := s) (q := (k4, E4)) hk4; rw [h5] at this; exact this
 obtain ⟨m5, rfl, hm5⟩ := cnt_nat h5
 refine H.cl 31 (Tryz.call63 _ _) ((by have hh := cnt_any 40 b s (k4, E4) w_8 (HP.at_ 0 rfl) hl hk4; simp only [h5] at hh; exact hh)) ?_
 rintro e w_9 ⟨rfl, hbx, hgr⟩
 refine ⟨_, rfl, ?_⟩
 intro a H
 have HP := HP.changed1 0 rfl (inCells s (k5, E5)) _ rfl hgr hbx
 refine H.v 4 (ii m5) fun a H => ?_
 refine nl ?_
 have HP := HP.nilRow w.heap.size 76 2 altC (fun _ _ => True) (fun _ _ => False) elOk_flat
 refine tn (sq (sq (rg ?_)))
 refine H.v 5 (ii 0) fun a H => ?_
 refine nl (tn (bk ?_))
 refine w_loop (fun mm a wv => ∃ (i0 : Nat), ∃ (kq0 : Nat), ∃ (Eq0 : Int), ∃ (l0 : List (Int × Int)), ∃ (B0 : Option Addr), ∃ (cc0 : Nat), m5 - i0 = mm ∧ Sl 82 [(5, (ii i0)), (4, (ii m5)), (0, (pt b 0)), (1, (pt pb 0))] a ∧ Hp w wv [(rowsR w.heap.size 76 2 altC (fun _ _ => True) (fun _ _ => False) (.slice B0 i0 cc0) l0), bx b 106 (inCells s (kq0, Eq0)) false, bx pb 32 [(ii n1), (ii n2), (ii n3), (ii n4), (.slice B0 i0 cc0), (ii 0), (ii 0), (ii 0), (ii 0), (.slice none 0 0), (.slice none 0 0), (.slice none 0 0), (.slice none 0 0)] false] [] ∧ (i0 ≤ m5) ∧ (l0.length = i0) ∧ (kq0 ≤ s.length) ∧ (LI (rdM altOf s 2) m5 k5 E5 i0 kq0 Eq0 (l0))) (m5 - 0) ?_ ?_
 ·exact ⟨0, k5, E5, [], none, 0, (by omega), H.keep (by kernel_rfl), HP, (Nat.zero_le _), rfl, hk5, (li_start _ h5)⟩
 rintro mm a w_10 ⟨i0, kq0, Eq0, l0, B0, cc0, hmeas, H, HP, hi0, hal0, hkq0, hrel0⟩
 refine sq ?_
 refine w_cut (fun a wv => Sl 82 [(41, (.bool (decide ((i0 : Int) < (m5 : Int)) && (Eq0 == 0)))), (5, (ii i0)), (4, (ii m5)), (0, (pt b 0)), (1, (pt pb 0))] a ∧ Hp w wv [(rowsR w.heap.size 76 2 altC (fun _ _ => True) (fun _ _ => False) (.slice B0 i0 cc0) l0), bx b 106 (inCells s (kq0, Eq0)) false, bx pb 32 [(ii n1), (ii n2), (ii n3), (ii n4), (.slice B0 i0 cc0), (ii 0), (ii 0), (ii 0), (ii 0), (.slice none 0 0), (.slice none 0 0), (.slice none 0 0), (.slice none 0 0)] false] []) ?_ ?_
 ·
  refine rg ?_
  refine H.v 32 (ii i0) fun a H => H.v 33 (ii m5) fun a H => H.v 34 (.bool (decide ((i0 : Int) < (m5 : Int)))) fun a H => H.v 35 (.bool (decide ((i0 : Int) < (m5 : Int)))) fun a H => ?_
  refine H.split 35 rfl (fun g35 H => ?_) (fun g35 H => ?_)
  ·have g35p := of_decide_eq_true g35
   refine H.v 36 (pt b 0) fun a H => H.v 37 (pt b 0) fun a H => H.v 38 (pt b 2) fun a H => H.u 39 (ii Eq0) (ex_l1 (v := (ii Eq0)) (HP.cell 1 rfl 2 rfl)) fun a H => H.v 40 (.bool (Eq0 == 0)) fun a H => H.v 41 (.bool (Eq0 == 0)) fun a H => ?_
   refine nl (tn ?_)
   have H := H.as 41 (.bool (decide ((i0 : Int) < (m5 : Int)) && (Eq0 == 0))) rfl (congrArg Value.bool (by rw [g35]; rfl))
   exact ⟨H.keep (by kernel_rfl), HP⟩
  have g35p := of_decide_eq_false g35
  iterate 5 refine H.sx rfl fun a H => ?_
  refine H.v 41 (.bool false) fun a H => ?_
  refine nl (tn ?_)
  have H := H.as 41 (.bool (decide ((i0 : Int) < (m5 : Int)) && (Eq0 == 0))) rfl (congrArg Value.bool (by rw [g35]; rfl))
  exact ⟨H.keep (by kernel_rfl), HP⟩
 
 rintro a w_11 ⟨H, HP⟩
 refine w_if H rfl (fun g41 => ?_) (fun g41 => ?_)
 ·have g41p := g41
  refine sk (tn (sq (bk (sq ?_))))
  obtain ⟨hlt0, hE0⟩ := and_tt g41
  subst hE0
  have HP : Hp w w_11 [(rowsR w.heap.size 76 2 altC (fun _ _ => True) (fun _ _ => False) (.slice B0 i0 cc0) l0), bx b 106 (inCells s (kq0, 0)) false, bx pb 32 [(ii n1), (ii n2), (ii n3), (ii n4), (.slice B0 i0 cc0), (ii 0), (ii 0), (ii 0), (ii 0), (.slice none 0 0), (.slice none 0 0), (.slice none 0 0), (.slice none 0 0)] false] [] := HP
  refine rg ?_
  refine H.v 44 (pt b 0) fun a H => ?_
  obtain ⟨n6, k6, E6, h6⟩ : ∃ nn kk ee, nR s (kq0, 0) = (nn, (kk, ee)) := ⟨_, _, _, rfl⟩
  have hk6 : k6 ≤ s.length := by have := nR_le (s := s) (q := (kq0, 0)) hkq0; rw [h6] at this; exact this
  refine H.cl 45 (Tryz.call64 _ _) ((by have hh := nR_any b s (kq0, 0) w_11 (HP.at_ 1 rfl) hl hkq0; simp only [h6] at hh; exact hh)) ?_
  rintro e w_12 ⟨rfl, hbx, hgr⟩
  refine ⟨_, rfl, ?_⟩
  intro a H
  have HP := HP.changed1 1 rfl (inCells s (k6, E6)) _ rfl hgr hbx
  refine H.v 46 (.agg #[(ii n6), (ii 0)]) fun a H => H.al HP 6 76 [(ii 0), (ii 0)] fun b_13 w_14 a H HP => H.st HP 0 b_13 0 2 76 true (.agg #[(ii n6), (ii 0)]) [bx b_13 76 [(ii n6), (ii 0)] true, (rowsR w.heap.size 76 2 altC (fun _ _ => True) (fun _ _ => False) (.slice B0 i0 cc0) l0), bx b 106 (inCells s (k6, E6)) false, bx pb 32 [(ii n1), (ii n2), (ii n3), (ii n4), (.slice B0 i0 cc0), (ii 0), (ii 0), (ii 0), (ii 0), (.slice none 0 0), (.slice none 0 0), (.slice none 0 0), (.slice none 0 0)] false] rfl fun w_15 a H HP => ?_
  refine nl (tn (sq (rg ?_)))
  refine H.v 47 (pt b 0) fun a H => ?_
  obtain ⟨n7, k7, E7, h7⟩ : ∃ nn kk ee, nR s (k6, E6) = (nn, (kk, ee)) := ⟨_, _, _, rfl⟩
  have hk7 : k7 ≤ s.length := by have := nR_le (s := s) (q := (k6, E6)) hk6; rw [h7] at this; exact this
  refine H.cl 48 (Tryz.call64 _ _) ((by have hh := nR_any b s (k6, E6) w_15 (HP.at_ 2 rfl) hl hk6; simp only [h7] at hh; exact hh)) ?_
  rintro e w_16 ⟨rfl, hbx, hgr⟩
  refine ⟨_, rfl, ?_⟩
  intro a H
  have HP := HP.changed1 2 rfl (inCells s (k7, E7)) _ rfl hgr hbx
  refine H.v 49 (pt b_13 1) fun a H => H.st HP 0 b_13 1 1 76 true (ii n7) [bx b_13 76 [(ii n6), (ii n7)] true, (rowsR w.heap.size 76 2 altC (fun _ _ => True) (fun _ _ => False) (.slice B0 i0 cc0) l0), bx b 106 (inCells s (k7, E7)) false, bx pb 32 [(ii n1), (ii n2), (ii n3), (ii n4), (.slice B0 i0 cc0), (ii 0), (ii 0), (ii 0), (ii 0), (.slice none 0 0), (.slice none 0 0), (.slice none 0 0), (.slice none 0 0)] false] rfl fun w_17 a H HP => ?_
  refine nl (tn ?_)
  have HP := HP.front 1 rfl _ rfl
  refine An.start (fun v => Hp w v [bx b_13 76 [(ii n6), (ii n7)] true, bx b 106 (inCells s (k7, E7)) false, bx pb 32 [(ii n1), (ii n2), (ii n3), (ii n4), (.slice B0 i0 cc0), (ii 0), (ii 0), (ii 0), (ii 0), (.slice none 0 0), (.slice none 0 0), (.slice none 0 0), (.slice none 0 0)] false] []) 12 13 HP wide_follows rfl fun w_18 HP => ?_
  refine An.p H (.inr ((HP.tail rfl))) 0 50 (pt pb 0) fun a H => ?_
  refine An.p H (.inr ((HP.tail rfl))) 1 51 (pt pb 0) fun a H => ?_
  refine An.p H (.inr ((HP.tail rfl))) 2 52 (pt pb 0) fun a H => ?_
  refine An.p H (.inr ((HP.tail rfl))) 3 53 (pt pb 3) fun a H => ?_
  refine An.p H (.inr ((HP.tail rfl))) 4 54 (pt pb 4) fun a H => ?_
  refine An.vw H ((HP.tail rfl)) 5 55 (.slice B0 i0 cc0) (fun _ hS => ex_l1 (hS.cell 2 rfl 4 rfl)) fun a H => ?_
  refine An.vw H ((HP.tail rfl)) 6 56 (.agg #[(ii n6), (ii n7)]) (fun _ hS => ex_lN [(ii n6), (ii n7)] (hS.cells 0 rfl 0 2 (by kernel_rfl))) fun a H => ?_
  refine An.one 7 (by kernel_rfl) ?_
  refine Op.alloc H HP 57 (fun b => (.slice (some ⟨b, 0, none⟩) 1 1)) 76 [(ii n6), (ii n7)] rfl (by kernel_rfl) (fun w => by kernel_rfl) fun b_19 w_20 a H HP => ?_
  refine ⟨.inr (((HP.tail rfl).tail rfl)), ?_⟩
  refine An.one 8 (by kernel_rfl) ?_
  have HP := HP.pend0 1 rfl elOk_flat (n6, n7) [bx b_19 76 [(ii n6), (ii n7)] true, (rowsP w.heap.size 76 2 altC (fun _ _ => True) (fun _ _ => False) (.slice B0 i0 cc0) l0 (n6, n7)), bx b_13 76 [(ii n6), (ii n7)] true, bx b 106 (inCells s (k7, E7)) false, bx pb 32 [(ii n1), (ii n2), (ii n3), (ii n4), (.slice B0 i0 cc0), (ii 0), (ii 0), (ii 0), (ii 0), (.slice none 0 0), (.slice none 0 0), (.slice none 0 0), (.slice none 0 0)] false] (by kernel_rfl) trivial (fun _ h => h)
  refine Op.push H HP 58 1 0 (v := (.slice B0 i0 cc0)) (e := 76) (p := (n6, n7)) (l := l0) (cs := altC) (ok := (fun _ _ => True)) (fe := (fun _ _ => False)) (size := 2) (z := (.agg #[(ii 0), (ii 0)])) (bytes := 16) (bb := b_19) (tb := 76) (fb := true) rfl (by kernel_rfl) elOk_flat (by kernel_rfl) (by kernel_rfl) rfl (by kernel_rfl) (by kernel_rfl) (by kernel_rfl) (by kernel_rfl) (by kernel_rfl) rfl (by kernel_rfl) (by rw [hal0]; unfold maxLen; omega) (by rw [hal0]; omega) fun B_21 c_22 w_23 a H HP => ?_
  have HP : Hp w w_23 [bx b_19 76 [(ii n6), (ii n7)] true, (rowsR w.heap.size 76 2 altC (fun _ _ => True) (fun _ _ => False) (.slice B_21 (l0.length + 1) c_22) (l0 ++ [(n6, n7)])), bx b_13 76 [(ii n6), (ii n7)] true, bx b 106 (inCells s (k7, E7)) false, bx pb 32 [(ii n1), (ii n2), (ii n3), (ii n4), (.slice B0 i0 cc0), (ii 0), (ii 0), (ii 0), (ii 0), (.slice none 0 0), (.slice none 0 0), (.slice none 0 0), (.slice none 0 0)] false] [] := HP
  rw [hal0] at H HP
  refine ⟨.inr (((HP.tail rfl).tail rfl)), ?_⟩
  refine An.p H (.inr (((HP.tail rfl).tail rfl))) 9 59 (pt pb 0) fun a H => ?_
  refine An.p H (.inr (((HP.tail rfl).tail rfl))) 10 60 (pt pb 3) fun a H => ?_
  refine An.p H (.inr (((HP.tail rfl).tail rfl))) 11 61 (pt pb 4) fun a H => ?_
  refine An.one 12 (by kernel_rfl) ?_
  refine Op.store H HP 4 pb 4 1 32 [(ii n1), (ii n2), (ii n3), (ii n4), (.slice B0 i0 cc0), (ii 0), (ii 0), (ii 0), (ii 0), (.slice none 0 0), (.slice none 0 0), (.slice none 0 0), (.slice none 0 0)] false (.slice B_21 (i0 + 1) c_22) [bx b_19 76 [(ii n6), (ii n7)] true, (rowsR w.heap.size 76 2 altC (fun _ _ => True) (fun _ _ => False) (.slice B_21 (i0 + 1) c_22) (l0 ++ [(n6, n7)])), bx b_13 76 [(ii n6), (ii n7)] true, bx b 106 (inCells s (k7, E7)) false, bx pb 32 [(ii n1), (ii n2), (ii n3), (ii n4), (.slice B_21 (i0 + 1) c_22), (ii 0), (ii 0), (ii 0), (ii 0), (.slice none 0 0), (.slice none 0 0), (.slice none 0 0), (.slice none 0 0)] false] rfl (by kernel_rfl) (by kernel_rfl) (by kernel_rfl) rfl (by kernel_rfl) (by kernel_rfl) (by kernel_rfl) (by kernel_rfl) (by kernel_rfl) fun w_24 a H HP => ?_
  refine ⟨.inl (by kernel_rfl), ?_⟩
  refine An.done (by kernel_rfl) ?_
  refine ibn (tn (rg ?_))
  refine H.v 42 (ii i0) fun a H => H.valE 43 (ii (IntKind.i64.wrap ((i0 : Int) + 1))) (ii ((i0 : Int) + 1)) (by kernel_rfl) (by kernel_rfl) ((by rw [wrap_ini64 _ (by omega)])) fun a H => H.v 5 (ii ((i0 : Int) + 1)) fun a H => ?_
  refine nl (tn ?_)
  have HP := HP.sub2 [1, 3, 4] [(rowsR w.heap.size 76 2 altC (fun _ _ => True) (fun _ _ => False) (.slice B_21 (i0 + 1) c_22) (l0 ++ [(n6, n7)])), bx b 106 (inCells s (k7, E7)) false, bx pb 32 [(ii n1), (ii n2), (ii n3), (ii n4), (.slice B_21 (i0 + 1) c_22), (ii 0), (ii 0), (ii 0), (ii 0), (.slice none 0 0), (.slice none 0 0), (.slice none 0 0), (.slice none 0 0)] false] (by kernel_rfl) (by kernel_rfl) (by simp [bx, rowsR, rowsP])
  have H := H.as 5 (ii ((i0 + 1 : Nat) : Int)) rfl rfl
  refine ⟨_, ?_, i0 + 1, k7, E7, l0 ++ [(n6, n7)], B_21, c_22, rfl, H.keep (by kernel_rfl), HP, (by omega), (by rw [List.length_append, hal0]; rfl), hk7, (li_step hrel0 (by omega) (stg_map altOf (stg_snoc (stg_snoc (stg_nil s kq0 0) h6) h7)))⟩
  omega
 have g41p := g41
 refine wp_exit (then_exit (then_exit ?_))
 refine w_exit_here ?_
 refine tn (sq ?_)
 have hx0 := and_ff g41
 subst hal0
 refine rg ?_
 refine H.v 62 (pt pb 0) fun a H => H.v 63 (pt b 0) fun a H => ?_
 obtain ⟨n8, k8, E8, h8⟩ : ∃ nn kk ee, nR s (kq0, Eq0) = (nn, (kk, ee)) := ⟨_, _, _, rfl⟩
 have hk8 : k8 ≤ s.length := by have := nR_le (s := s) (q := (kq0, Eq0)) hkq0; rw [h8] at this; exact this
 refine H.cl 64 (Tryz.call64 _ _) ((by have hh := nR_any b s (kq0, Eq0) w_11 (HP.at_ 1 rfl) hl hkq0; simp only [h8] at hh; exact hh)) ?_
 rintro e w_25 ⟨rfl, hbx, hgr⟩
 refine ⟨_, rfl, ?_⟩
 intro a H
 have HP := HP.changed1 1 rfl (inCells s (k8, E8)) _ rfl hgr hbx
 refine H.v 65 (pt pb 0) fun a H => H.v 66 (pt pb 5) fun a H => H.st HP 2 pb 5 1 32 false (ii n8) [(rowsR w.heap.size 76 2 altC (fun _ _ => True) (fun _ _ => False) (.slice B0 l0.length cc0) l0), bx b 106 (inCells s (k8, E8)) false, bx pb 32 [(ii n1), (ii n2), (ii n3), (ii n4), (.slice B0 l0.length cc0), (ii n8), (ii 0), (ii 0), (ii 0), (.slice none 0 0), (.slice none 0 0), (.slice none 0 0), (.slice none 0 0)] false] rfl fun w_26 a H HP => ?_
 refine nl (tn (sq (rg ?_)))
 refine H.v 67 (pt pb 0) fun a H => H.v 68 (pt b 0) fun a H => ?_
 obtain ⟨n9, k9, E9, h9⟩ : ∃ nn kk ee, nR s (k8, E8) = (nn, (kk, ee)) := ⟨_, _, _, rfl⟩
 have hk9 : k9 ≤ s.length := by have := nR_le (s := s) (q := (k8, E8)) hk8; rw [h9] at this; exact this
 refine H.cl 69 (Tryz.call64 _ _) ((by have hh := nR_any b s (k8, E8) w_26 (HP.at_ 1 rfl) hl hk8; simp only [h9] at hh; exact hh)) ?_
 rintro e w_27 ⟨rfl, hbx, hgr⟩
 refine ⟨_, rfl, ?_⟩
 intro a H
 have HP := HP.changed1 1 rfl (inCells s (k9, E9)) _ rfl hgr hbx
 refine H.v 70 (pt pb 0) fun a H => H.v 71 (pt pb 6) fun a H => H.st HP 2 pb 6 1 32 false (ii n9) [(rowsR w.heap.size 76 2 altC (fun _ _ => True) (fun _ _ => False) (.slice B0 l0.length cc0) l0), bx b 106 (inCells s (k9, E9)) false, bx pb 32 [(ii n1), (ii n2), (ii n3), (ii n4), (.slice B0 l0.length cc0), (ii n8), (ii n9), (ii 0), (ii 0), (.slice none 0 0), (.slice none 0 0), (.slice none 0 0), (.slice none 0 0)] false] rfl fun w_28 a H HP => ?_
 refine nl (tn (sq (rg ?_)))
 refine H.v 72 (pt pb 0) fun a H => H.v 73 (pt b 0) fun a H => ?_
 obtain ⟨n10, k10, E10, h10⟩ : ∃ nn kk ee, nR s (k9, E9) = (nn, (kk, ee)) := ⟨_, _, _, rfl⟩
 have hk10 : k10 ≤ s.length := by have := nR_le (s := s) (q := (k9, E9)) hk9; rw [h10] at this; exact this
 refine H.cl 74 (Tryz.call64 _ _) ((by have hh := nR_any b s (k9, E9) w_28 (HP.at_ 1 rfl) hl hk9; simp only [h10] at hh; exact hh)) ?_
 rintro e w_29 ⟨rfl, hbx, hgr⟩
 refine ⟨_, rfl, ?_⟩
 intro a H
 have HP := HP.changed1 1 rfl (inCells s (k10, E10)) _ rfl hgr hbx
 refine H.v 75 (pt pb 0) fun a H => H.v 76 (pt pb 7) fun a H => H.st HP 2 pb 7 1 32 false (ii n10) [(rowsR w.heap.size 76 2 altC (fun _ _ => True) (fun _ _ => False) (.slice B0 l0.length cc0) l0), bx b 106 (inCells s (k10, E10)) false, bx pb 32 [(ii n1), (ii n2), (ii n3), (ii n4), (.slice B0 l0.length cc0), (ii n8), (ii n9), (ii n10), (ii 0), (.slice none 0 0), (.slice none 0 0), (.slice none 0 0), (.slice none 0 0)] false] rfl fun w_30 a H HP => ?_
 refine nl (tn (rg ?_))
 refine H.v 77 (pt pb 0) fun a H => H.v 78 (pt b 0) fun a H => ?_
 obtain ⟨n11, k11, E11, h11⟩ : ∃ nn kk ee, nR s (k10, E10) = (nn, (kk, ee)) := ⟨_, _, _, rfl⟩
 have hk11 : k11 ≤ s.length := by have := nR_le (s := s) (q := (k10, E10)) hk10; rw [h11] at this; exact this
 refine H.cl 79 (Tryz.call64 _ _) ((by have hh := nR_any b s (k10, E10) w_30 (HP.at_ 1 rfl) hl hk10; simp only [h11] at hh; exact hh)) ?_
 rintro e w_31 ⟨rfl, hbx, hgr⟩
 refine ⟨_, rfl, ?_⟩
 intro a H
 have HP := HP.changed1 1 rfl (inCells s (k11, E11)) _ rfl hgr hbx
 refine H.v 80 (pt pb 0) fun a H => H.v 81 (pt pb 8) fun a H => H.st HP 2 pb 8 1 32 false (ii n11) [(rowsR w.heap.size 76 2 altC (fun _ _ => True) (fun _ _ => False) (.slice B0 l0.length cc0) l0), bx b 106 (inCells s (k11, E11)) false, bx pb 32 [(ii n1), (ii n2), (ii n3), (ii n4), (.slice B0 l0.length cc0), (ii n8), (ii n9), (ii n10), (ii n11), (.slice none 0 0), (.slice none 0 0), (.slice none 0 0), (.slice none 0 0)] false] rfl fun w_32 a H HP => ?_
 refine nl ?_
 refine H.end0 (fn := Tryz.f62) Tryz.results62  ?_
 have hs1 := (stg_snoc (stg_snoc (stg_snoc (stg_snoc (stg_nil s k E) h1) h2) h3) h4)
 have hs2 := li_end (E := Eq0) h5 hrel0 hi0 (by omega)
 have hs3 := (stg_snoc (stg_snoc (stg_snoc (stg_snoc (stg_nil s kq0 Eq0) h8) h9) h10) h11)
 have hrow := HP.held 0 rfl
 exact ⟨HP.agree _ (by simp [bx, rowsR]), rfl, n1, n2, n3, n4, B0, cc0, l0, n8, n9, n10, n11, k11, E11, hk11, stg_head hs1 hs2 hs3, HP.at_ 1 rfl, HP.at_ 2 rfl, Rd.of_own hrow.1, flat_new hrow, by omega⟩
theorem rdecode_any (s : List UInt8) (w : World) (hl : s.length ≤ 1000000) : Calls Tryz.prog 28 #[.string (bstr s)] w (DecPost s w) := by
 have HP := Hp.start w
 refine w_enter 171 [(0, (.string (bstr s)))] Tryz.func28 rfl Tryz.ntmps28 (by kernel_rfl) (by kernel_rfl) fun a H => ?_
 refine sq (rg ?_)
 refine H.al HP 2 32 [(ii 0), (ii 0), (ii 0), (ii 0), (.slice none 0 0), (ii 0), (ii 0), (ii 0), (ii 0), (.slice none 0 0), (.slice none 0 0), (.slice none 0 0), (.slice none 0 0)] fun b_1 w_2 a H HP => H.v 3 (ii 0) fun a H => ?_
 refine nl (tn (sq (rg ?_)))
 refine H.v 14 (.string (bstr s)) fun a H => H.v 15 (.agg #[(.string (bstr s)), (ii 0), (ii 0)]) fun a H => H.al HP 16 106 [(.string (bstr s)), (ii 0), (ii 0)] fun b_3 w_4 a H HP => H.v 4 (pt b_3 0) fun a H => ?_
 refine nl (tn (sq (rg ?_)))
 refine H.v 17 (.agg #[(ii 0), (ii 0), (ii 0), (ii 0), (.slice none 0 0), (ii 0), (ii 0), (ii 0), (ii 0), (.slice none 0 0), (.slice none 0 0), (.slice none 0 0), (.slice none 0 0)]) fun a H => H.al HP 5 32 [(ii 0), (ii 0), (ii 0), (ii 0), (.slice none 0 0), (ii 0), (ii 0), (ii 0), (ii 0), (.slice none 0 0), (.slice none 0 0), (.slice none 0 0), (.slice none 0 0)] fun b_5 w_6 a H HP => H.st HP 0 b_5 0 13 32 true (.agg #[(ii 0), (ii 0), (ii 0), (ii 0), (.slice none 0 0), (ii 0), (ii 0), (ii 0), (ii 0), (.slice none 0 0), (.slice none 0 0), (.slice none 0 0), (.slice none 0 0)]) [bx b_5 32 [(ii 0), (ii 0), (ii 0), (ii 0), (.slice none 0 0), (ii 0), (ii 0), (ii 0), (ii 0), (.slice none 0 0), (.slice none 0 0), (.slice none 0 0), (.slice none 0 0)] true, bx b_3 106 [(.string (bstr s)), (ii 0), (ii 0)] true, bx b_1 32 [(ii 0), (ii 0), (ii 0), (ii 0), (.slice none 0 0), (ii 0), (ii 0), (ii 0), (ii 0), (.slice none 0 0), (.slice none 0 0), (.slice none 0 0), (.slice none 0 0)] true] rfl fun w_7 a H HP => ?_
 refine nl ?_
 have HP : Hp w w_7 [bx b_5 32 [(ii 0), (ii 0), (ii 0), (ii 0), (.slice none 0 0), (ii 0), (ii 0), (ii 0), (ii 0), (.slice none 0 0), (.slice none 0 0), (.slice none 0 0), (.slice none 0 0)] true, bx b_3 106 (inCells s (0, 0)) true, bx b_1 32 [(ii 0), (ii 0), (ii 0), (ii 0), (.slice none 0 0), (ii 0), (ii 0), (ii 0), (ii 0), (.slice none 0 0), (.slice none 0 0), (.slice none 0 0), (.slice none 0 0)] true] [] := HP
 refine tn (sq (rg ?_))
 refine H.v 18 (pt b_3 0) fun a H => ?_
 have hlt0 := HP.lt
 have hsz0 := HP.size
 refine H.cl 19 (Tryz.call62 _ _) (rhead_any b_3 b_5 s 0 0 w_7 (HP.at_ 1 rfl) (HP.at_ 0 rfl) ((HP.neB 0 1 rfl rfl (by decide)).symm) hl (Nat.zero_le _)) ?_
 rintro e w_8 ⟨hag, rfl, z0, z1, z2, z3, A0, c0, sh, y0, y1, y2, y3, kh, Eh, hkh, hS0, hb1, hb2, hrow0, hnew0, hm0⟩
 refine ⟨_, rfl, ?_⟩
 intro a H
 have HP := HP.changed2 1 0 rfl rfl (inCells s (kh, Eh)) [(ii z0), (ii z1), (ii z2), (ii z3), (.slice A0 sh.length c0), (ii y0), (ii y1), (ii y2), (ii y3), (.slice none 0 0), (.slice none 0 0), (.slice none 0 0), (.slice none 0 0)] [bx b_5 32 [(ii z0), (ii z1), (ii z2), (ii z3), (.slice A0 sh.length c0), (ii y0), (ii y1), (ii y2), (ii y3), (.slice none 0 0), (.slice none 0 0), (.slice none 0 0), (.slice none 0 0)] true, bx b_3 106 (inCells s (kh, Eh)) true, bx b_1 32 [(ii 0), (ii 0), (ii 0), (ii 0), (.slice none 0 0), (ii 0), (ii 0), (ii 0), (ii 0), (.slice none 0 0), (.slice none 0 0), (.slice none 0 0), (.slice none 0 0)] true] (by kernel_rfl) (by decide) hag hb1 hb2
 have HP := HP.keepF (rowF 2 altC A0 sh) hrow0 (rowF_ok _ _ _ _) (fun j hj => ⟨hrow0.lt j hj, fun y hy hyk => by simp only [List.mem_cons, List.not_mem_nil, or_false] at hy; rcases hy with rfl | rfl | rfl <;> (first | exact Nat.lt_irrefl _ (Nat.lt_of_lt_of_le (hlt0 _ (List.mem_of_getElem? (i := 0) rfl) j hyk) (hnew0 j hj)) | exact Nat.lt_irrefl _ (Nat.lt_of_lt_of_le (hlt0 _ (List.mem_of_getElem? (i := 1) rfl) j hyk) (hnew0 j hj)) | exact Nat.lt_irrefl _ (Nat.lt_of_lt_of_le (hlt0 _ (List.mem_of_getElem? (i := 2) rfl) j hyk) (hnew0 j hj)))⟩)
 refine nl (tn (sq (rg ?_)))
 refine H.v 20 (pt b_3 0) fun a H => ?_
 obtain ⟨c1, k1, E1, h1⟩ : ∃ nn kk ee, cntR 4000 s (kh, Eh) = (nn, (kk, ee)) := ⟨_, _, _, rfl⟩
 have hk1 : k1 ≤ s.length := by have := cntR_le (most := 4000) (s := s) (q := (kh, Eh)) hkh; rw [h1] at this; exact this
 obtain ⟨m1, rfl, hm1⟩ := cnt_nat h1
 refine H.cl 21 (Tryz.call63 _ _) ((by have hh := cnt_any 4000 b_3 s (kh, Eh) w_8 (HP.at_ 1 rfl) hl hkh; simp only [h1] at hh; exact hh)) ?_
 rintro e w_9 ⟨rfl, hbx, hgr⟩
 refine ⟨_, rfl, ?_⟩
 intro a H
 have HP := HP.changed1 1 rfl (inCells s (k1, E1)) _ rfl hgr hbx
 refine H.v 6 (ii m1) fun a H => ?_
 refine nl ?_
 have HP := HP.nilRow w.heap.size 38 5 itC (fun _ _ => True) (fun _ _ => False) elOk_flat
 refine tn (sq (sq (rg ?_)))
 refine H.v 7 (ii 0) fun a H => ?_
 refine nl (tn (bk ?_))
 refine w_loop (fun mm a wv => ∃ (i1 : Nat), ∃ (kq1 : Nat), ∃ (Eq1 : Int), ∃ (l1 : List (Itm)), ∃ (B1 : Option Addr), ∃ (cc1 : Nat), m1 - i1 = mm ∧ Sl 171 [(7, (ii i1)), (6, (ii m1)), (0, (.string (bstr s))), (2, (pt b_1 0)), (4, (pt b_3 0)), (5, (pt b_5 0))] a ∧ Hp w wv [(rowsR w.heap.size 38 5 itC (fun _ _ => True) (fun _ _ => False) (.slice B1 i1 cc1) l1), bx b_5 32 [(ii z0), (ii z1), (ii z2), (ii z3), (.slice A0 sh.length c0), (ii y0), (ii y1), (ii y2), (ii y3), (.slice B1 i1 cc1), (.slice none 0 0), (.slice none 0 0), (.slice none 0 0)] true, bx b_3 106 (inCells s (kq1, Eq1)) true, bx b_1 32 [(ii 0), (ii 0), (ii 0), (ii 0), (.slice none 0 0), (ii 0), (ii 0), (ii 0), (ii 0), (.slice none 0 0), (.slice none 0 0), (.slice none 0 0), (.slice none 0 0)] true] [rowF 2 altC A0 sh] ∧ (i1 ≤ m1) ∧ (l1.length = i1) ∧ (kq1 ≤ s.length) ∧ (LI (rdM itOf s 5) m1 k1 E1 i1 kq1 Eq1 (l1))) (m1 - 0) ?_ ?_
 ·exact ⟨0, k1, E1, [], none, 0, (by omega), H.keep (by kernel_rfl), HP, (Nat.zero_le _), rfl, hk1, (li_start _ h1)⟩
 rintro mm a w_10 ⟨i1, kq1, Eq1, l1, B1, cc1, hmeas, H, HP, hi1, hal1, hkq1, hrel1⟩
 refine sq ?_
 refine w_cut (fun a wv => Sl 171 [(31, (.bool (decide ((i1 : Int) < (m1 : Int)) && (Eq1 == 0)))), (7, (ii i1)), (6, (ii m1)), (0, (.string (bstr s))), (2, (pt b_1 0)), (4, (pt b_3 0)), (5, (pt b_5 0))] a ∧ Hp w wv [(rowsR w.heap.size 38 5 itC (fun _ _ => True) (fun _ _ => False) (.slice B1 i1 cc1) l1), bx b_5 32 [(ii z0), (ii z1), (ii z2), (ii z3), (.slice A0 sh.length c0), (ii y0), (ii y1), (ii y2), (ii y3), (.slice B1 i1 cc1), (.slice none 0 0), (.slice none 0 0), (.slice none 0 0)] true, bx b_3 106 (inCells s (kq1, Eq1)) true, bx b_1 32 [(ii 0), (ii 0), (ii 0), (ii 0), (.slice none 0 0), (ii 0), (ii 0), (ii 0), (ii 0), (.slice none 0 0), (.slice none 0 0), (.slice none 0 0), (.slice none 0 0)] true] [rowF 2 altC A0 sh]) ?_ ?_
 ·
  refine rg ?_
  refine H.v 22 (ii i1) fun a H => H.v 23 (ii m1) fun a H => H.v 24 (.bool (decide ((i1 : Int) < (m1 : Int)))) fun a H => H.v 25 (.bool (decide ((i1 : Int) < (m1 : Int)))) fun a H => ?_
  refine H.split 25 rfl (fun g25 H => ?_) (fun g25 H => ?_)
  ·have g25p := of_decide_eq_true g25
   refine H.v 26 (pt b_3 0) fun a H => H.v 27 (pt b_3 0) fun a H => H.v 28 (pt b_3 2) fun a H => H.u 29 (ii Eq1) (ex_l1 (v := (ii Eq1)) (HP.cell 2 rfl 2 rfl)) fun a H => H.v 30 (.bool (Eq1 == 0)) fun a H => H.v 31 (.bool (Eq1 == 0)) fun a H => ?_
   refine nl (tn ?_)
   have H := H.as 31 (.bool (decide ((i1 : Int) < (m1 : Int)) && (Eq1 == 0))) rfl (congrArg Value.bool (by rw [g25]; rfl))
   exact ⟨H.keep (by kernel_rfl), HP⟩
  have g25p := of_decide_eq_false g25
  iterate 5 refine H.sx rfl fun a H => ?_
  refine H.v 31 (.bool false) fun a H => ?_
  refine nl (tn ?_)
  have H := H.as 31 (.bool (decide ((i1 : Int) < (m1 : Int)) && (Eq1 == 0))) rfl (congrArg Value.bool (by rw [g25]; rfl))
  exact ⟨H.keep (by kernel_rfl), HP⟩
 
 rintro a w_11 ⟨H, HP⟩
 refine w_if H rfl (fun g31 => ?_) (fun g31 => ?_)
 ·have g31p := g31
  refine sk (tn (sq (bk (sq ?_))))
  obtain ⟨hlt1, hE0⟩ := and_tt g31
  subst hE0
  have HP : Hp w w_11 [(rowsR w.heap.size 38 5 itC (fun _ _ => True) (fun _ _ => False) (.slice B1 i1 cc1) l1), bx b_5 32 [(ii z0), (ii z1), (ii z2), (ii z3), (.slice A0 sh.length c0), (ii y0), (ii y1), (ii y2), (ii y3), (.slice B1 i1 cc1), (.slice none 0 0), (.slice none 0 0), (.slice none 0 0)] true, bx b_3 106 (inCells s (kq1, 0)) true, bx b_1 32 [(ii 0), (ii 0), (ii 0), (ii 0), (.slice none 0 0), (ii 0), (ii 0), (ii 0), (ii 0), (.slice none 0 0), (.slice none 0 0), (.slice none 0 0), (.slice none 0 0)] true] [rowF 2 altC A0 sh] := HP
  refine rg ?_
  refine H.v 34 (pt b_3 0) fun a H => ?_
  obtain ⟨n2, k2, E2, h2⟩ : ∃ nn kk ee, nR s (kq1, 0) = (nn, (kk, ee)) := ⟨_, _, _, rfl⟩
  have hk2 : k2 ≤ s.length := by have := nR_le (s := s) (q := (kq1, 0)) hkq1; rw [h2] at this; exact this
  refine H.cl 35 (Tryz.call64 _ _) ((by have hh := nR_any b_3 s (kq1, 0) w_11 (HP.at_ 2 rfl) hl hkq1; simp only [h2] at hh; exact hh)) ?_
  rintro e w_12 ⟨rfl, hbx, hgr⟩
  refine ⟨_, rfl, ?_⟩
  intro a H
  have HP := HP.changed1 2 rfl (inCells s (k2, E2)) _ rfl hgr hbx
  refine H.v 36 (.agg #[(ii n2), (ii 0), (ii 0), (ii 0), (ii 0)]) fun a H => H.al HP 8 38 [(ii 0), (ii 0), (ii 0), (ii 0), (ii 0)] fun b_13 w_14 a H HP => H.st HP 0 b_13 0 5 38 true (.agg #[(ii n2), (ii 0), (ii 0), (ii 0), (ii 0)]) [bx b_13 38 [(ii n2), (ii 0), (ii 0), (ii 0), (ii 0)] true, (rowsR w.heap.size 38 5 itC (fun _ _ => True) (fun _ _ => False) (.slice B1 i1 cc1) l1), bx b_5 32 [(ii z0), (ii z1), (ii z2), (ii z3), (.slice A0 sh.length c0), (ii y0), (ii y1), (ii y2), (ii y3), (.slice B1 i1 cc1), (.slice none 0 0), (.slice none 0 0), (.slice none 0 0)] true, bx b_3 106 (inCells s (k2, E2)) true, bx b_1 32 [(ii 0), (ii 0), (ii 0), (ii 0), (.slice none 0 0), (ii 0), (ii 0), (ii 0), (ii 0), (.slice none 0 0), (.slice none 0 0), (.slice none 0 0), (.slice none 0 0)] true] rfl fun w_15 a H HP => ?_
  refine nl (tn (sq (rg ?_)))
  refine H.v 37 (pt b_3 0) fun a H => ?_
  obtain ⟨n3, k3, E3, h3⟩ : ∃ nn kk ee, nR s (k2, E2) = (nn, (kk, ee)) := ⟨_, _, _, rfl⟩
  have hk3 : k3 ≤ s.length := by have := nR_le (s := s) (q := (k2, E2)) hk2; rw [h3] at this; exact this
  refine H.cl 38 (Tryz.call64 _ _) ((by have hh := nR_any b_3 s (k2, E2) w_15 (HP.at_ 3 rfl) hl hk2; simp only [h3] at hh; exact hh)) ?_
  rintro e w_16 ⟨rfl, hbx, hgr⟩
  refine ⟨_, rfl, ?_⟩
  intro a H
  have HP := HP.changed1 3 rfl (inCells s (k3, E3)) _ rfl hgr hbx
  refine H.v 39 (pt b_13 1) fun a H => H.st HP 0 b_13 1 1 38 true (ii n3) [bx b_13 38 [(ii n2), (ii n3), (ii 0), (ii 0), (ii 0)] true, (rowsR w.heap.size 38 5 itC (fun _ _ => True) (fun _ _ => False) (.slice B1 i1 cc1) l1), bx b_5 32 [(ii z0), (ii z1), (ii z2), (ii z3), (.slice A0 sh.length c0), (ii y0), (ii y1), (ii y2), (ii y3), (.slice B1 i1 cc1), (.slice none 0 0), (.slice none 0 0), (.slice none 0 0)] true, bx b_3 106 (inCells s (k3, E3)) true, bx b_1 32 [(ii 0), (ii 0), (ii 0), (ii 0), (.slice none 0 0), (ii 0), (ii 0), (ii 0), (ii 0), (.slice none 0 0), (.slice none 0 0), (.slice none 0 0), (.slice none 0 0)] true] rfl fun w_17 a H HP => ?_
  refine nl (tn (sq (rg ?_)))
  refine H.v 40 (pt b_3 0) fun a H => ?_
  obtain ⟨n4, k4, E4, h4⟩ : ∃ nn kk ee, nR s (k3, E3) = (nn, (kk, ee)) := ⟨_, _, _, rfl⟩
  have hk4 : k4 ≤ s.length := by have := nR_le (s := s) (q := (k3, E3)) hk3; rw [h4] at this; exact this
  refine H.cl 41 (Tryz.call64 _ _) ((by have hh := nR_any b_3 s (k3, E3) w_17 (HP.at_ 3 rfl) hl hk3; simp only [h4] at hh; exact hh)) ?_
  rintro e w_18 ⟨rfl, hbx, hgr⟩
  refine ⟨_, rfl, ?_⟩
  intro a H
  have HP := HP.changed1 3 rfl (inCells s (k4, E4)) _ rfl hgr hbx
  refine H.v 42 (pt b_13 2) fun a H => H.st HP 0 b_13 2 1 38 true (ii n4) [bx b_13 38 [(ii n2), (ii n3), (ii n4), (ii 0), (ii 0)] true, (rowsR w.heap.size 38 5 itC (fun _ _ => True) (fun _ _ => False) (.slice B1 i1 cc1) l1), bx b_5 32 [(ii z0), (ii z1), (ii z2), (ii z3), (.slice A0 sh.length c0), (ii y0), (ii y1), (ii y2), (ii y3), (.slice B1 i1 cc1), (.slice none 0 0), (.slice none 0 0), (.slice none 0 0)] true, bx b_3 106 (inCells s (k4, E4)) true, bx b_1 32 [(ii 0), (ii 0), (ii 0), (ii 0), (.slice none 0 0), (ii 0), (ii 0), (ii 0), (ii 0), (.slice none 0 0), (.slice none 0 0), (.slice none 0 0), (.slice none 0 0)] true] rfl fun w_19 a H HP => ?_
  refine nl (tn (sq (rg ?_)))
  refine H.v 43 (pt b_3 0) fun a H => ?_
  obtain ⟨n5, k5, E5, h5⟩ : ∃ nn kk ee, nR s (k4, E4) = (nn, (kk, ee)) := ⟨_, _, _, rfl⟩
  have hk5 : k5 ≤ s.length := by have := nR_le (s := s) (q := (k4, E4)) hk4; rw [h5] at this; exact this
  refine H.cl 44 (Tryz.call64 _ _) ((by have hh := nR_any b_3 s (k4, E4) w_19 (HP.at_ 3 rfl) hl hk4; simp only [h5] at hh; exact hh)) ?_
  rintro e w_20 ⟨rfl, hbx, hgr⟩
  refine ⟨_, rfl, ?_⟩
  intro a H
  have HP := HP.changed1 3 rfl (inCells s (k5, E5)) _ rfl hgr hbx
  refine H.v 45 (pt b_13 3) fun a H => H.st HP 0 b_13 3 1 38 true (ii n5) [bx b_13 38 [(ii n2), (ii n3), (ii n4), (ii n5), (ii 0)] true, (rowsR w.heap.size 38 5 itC (fun _ _ => True) (fun _ _ => False) (.slice B1 i1 cc1) l1), bx b_5 32 [(ii z0), (ii z1), (ii z2), (ii z3), (.slice A0 sh.length c0), (ii y0), (ii y1), (ii y2), (ii y3), (.slice B1 i1 cc1), (.slice none 0 0), (.slice none 0 0), (.slice none 0 0)] true, bx b_3 106 (inCells s (k5, E5)) true, bx b_1 32 [(ii 0), (ii 0), (ii 0), (ii 0), (.slice none 0 0), (ii 0), (ii 0), (ii 0), (ii 0), (.slice none 0 0), (.slice none 0 0), (.slice none 0 0), (.slice none 0 0)] true] rfl fun w_21 a H HP => ?_
  refine nl (tn (sq (rg ?_)))
  refine H.v 46 (pt b_3 0) fun a H => ?_
  obtain ⟨n6, k6, E6, h6⟩ : ∃ nn kk ee, nR s (k5, E5) = (nn, (kk, ee)) := ⟨_, _, _, rfl⟩
  have hk6 : k6 ≤ s.length := by have := nR_le (s := s) (q := (k5, E5)) hk5; rw [h6] at this; exact this
  refine H.cl 47 (Tryz.call64 _ _) ((by have hh := nR_any b_3 s (k5, E5) w_21 (HP.at_ 3 rfl) hl hk5; simp only [h6] at hh; exact hh)) ?_
  rintro e w_22 ⟨rfl, hbx, hgr⟩
  refine ⟨_, rfl, ?_⟩
  intro a H
  have HP := HP.changed1 3 rfl (inCells s (k6, E6)) _ rfl hgr hbx
  refine H.v 48 (pt b_13 4) fun a H => H.st HP 0 b_13 4 1 38 true (ii n6) [bx b_13 38 [(ii n2), (ii n3), (ii n4), (ii n5), (ii n6)] true, (rowsR w.heap.size 38 5 itC (fun _ _ => True) (fun _ _ => False) (.slice B1 i1 cc1) l1), bx b_5 32 [(ii z0), (ii z1), (ii z2), (ii z3), (.slice A0 sh.length c0), (ii y0), (ii y1), (ii y2), (ii y3), (.slice B1 i1 cc1), (.slice none 0 0), (.slice none 0 0), (.slice none 0 0)] true, bx b_3 106 (inCells s (k6, E6)) true, bx b_1 32 [(ii 0), (ii 0), (ii 0), (ii 0), (.slice none 0 0), (ii 0), (ii 0), (ii 0), (ii 0), (.slice none 0 0), (.slice none 0 0), (.slice none 0 0), (.slice none 0 0)] true] rfl fun w_23 a H HP => ?_
  refine nl (tn (rg ?_))
  refine H.v 49 (pt b_5 9) fun a H => H.u 50 (.slice B1 i1 cc1) (ex_l1 (HP.cell 2 rfl 9 rfl)) fun a H => H.u 51 (.agg #[(ii n2), (ii n3), (ii n4), (ii n5), (ii n6)]) (ex_lN [(ii n2), (ii n3), (ii n4), (ii n5), (ii n6)] (HP.cells 0 rfl 0 5 (by kernel_rfl))) fun a H => H.alloc HP 52 (fun b => (.slice (some ⟨b, 0, none⟩) 1 1)) 38 [(ii n2), (ii n3), (ii n4), (ii n5), (ii n6)] (by kernel_rfl) (fun w => by kernel_rfl) fun b_24 w_25 a H HP => ?_
  have HP := HP.pend0 2 rfl elOk_flat (⟨n2, n3, n4, n5, n6⟩ : Itm) [bx b_24 38 [(ii n2), (ii n3), (ii n4), (ii n5), (ii n6)] true, bx b_13 38 [(ii n2), (ii n3), (ii n4), (ii n5), (ii n6)] true, (rowsP w.heap.size 38 5 itC (fun _ _ => True) (fun _ _ => False) (.slice B1 i1 cc1) l1 (⟨n2, n3, n4, n5, n6⟩ : Itm)), bx b_5 32 [(ii z0), (ii z1), (ii z2), (ii z3), (.slice A0 sh.length c0), (ii y0), (ii y1), (ii y2), (ii y3), (.slice B1 i1 cc1), (.slice none 0 0), (.slice none 0 0), (.slice none 0 0)] true, bx b_3 106 (inCells s (k6, E6)) true, bx b_1 32 [(ii 0), (ii 0), (ii 0), (ii 0), (.slice none 0 0), (ii 0), (ii 0), (ii 0), (ii 0), (.slice none 0 0), (.slice none 0 0), (.slice none 0 0), (.slice none 0 0)] true] (by kernel_rfl) trivial (fun _ h => h)
  refine H.push HP 53 2 0 (v := (.slice B1 i1 cc1)) (e := 38) (p := (⟨n2, n3, n4, n5, n6⟩ : Itm)) (l := l1) (cs := itC) (ok := (fun _ _ => True)) (fe := (fun _ _ => False)) (size := 5) (z := (.agg #[(ii 0), (ii 0), (ii 0), (ii 0), (ii 0)])) (bytes := 40) (bb := b_24) (tb := 38) (fb := true) (by kernel_rfl) elOk_flat (by kernel_rfl) (by kernel_rfl) rfl (by kernel_rfl) (by kernel_rfl) (by kernel_rfl) (by kernel_rfl) (by kernel_rfl) rfl (by kernel_rfl) (by rw [hal1]; unfold maxLen; omega) (by rw [hal1]; omega) fun B_26 c_27 w_28 a H HP => ?_
  have HP : Hp w w_28 [bx b_24 38 [(ii n2), (ii n3), (ii n4), (ii n5), (ii n6)] true, bx b_13 38 [(ii n2), (ii n3), (ii n4), (ii n5), (ii n6)] true, (rowsR w.heap.size 38 5 itC (fun _ _ => True) (fun _ _ => False) (.slice B_26 (l1.length + 1) c_27) (l1 ++ [(⟨n2, n3, n4, n5, n6⟩ : Itm)])), bx b_5 32 [(ii z0), (ii z1), (ii z2), (ii z3), (.slice A0 sh.length c0), (ii y0), (ii y1), (ii y2), (ii y3), (.slice B1 i1 cc1), (.slice none 0 0), (.slice none 0 0), (.slice none 0 0)] true, bx b_3 106 (inCells s (k6, E6)) true, bx b_1 32 [(ii 0), (ii 0), (ii 0), (ii 0), (.slice none 0 0), (ii 0), (ii 0), (ii 0), (ii 0), (.slice none 0 0), (.slice none 0 0), (.slice none 0 0), (.slice none 0 0)] true] [rowF 2 altC A0 sh] := HP
  rw [hal1] at H HP
  refine H.v 54 (pt b_5 9) fun a H => H.st HP 3 b_5 9 1 32 true (.slice B_26 (i1 + 1) c_27) [bx b_24 38 [(ii n2), (ii n3), (ii n4), (ii n5), (ii n6)] true, bx b_13 38 [(ii n2), (ii n3), (ii n4), (ii n5), (ii n6)] true, (rowsR w.heap.size 38 5 itC (fun _ _ => True) (fun _ _ => False) (.slice B_26 (i1 + 1) c_27) (l1 ++ [(⟨n2, n3, n4, n5, n6⟩ : Itm)])), bx b_5 32 [(ii z0), (ii z1), (ii z2), (ii z3), (.slice A0 sh.length c0), (ii y0), (ii y1), (ii y2), (ii y3), (.slice B_26 (i1 + 1) c_27), (.slice none 0 0), (.slice none 0 0), (.slice none 0 0)] true, bx b_3 106 (inCells s (k6, E6)) true, bx b_1 32 [(ii 0), (ii 0), (ii 0), (ii 0), (.slice none 0 0), (ii 0), (ii 0), (ii 0), (ii 0), (.slice none 0 0), (.slice none 0 0), (.slice none 0 0), (.slice none 0 0)] true] rfl fun w_29 a H HP => ?_
  refine nl (ibn (tn (rg ?_)))
  refine H.v 32 (ii i1) fun a H => H.valE 33 (ii (IntKind.i64.wrap ((i1 : Int) + 1))) (ii ((i1 : Int) + 1)) (by kernel_rfl) (by kernel_rfl) ((by rw [wrap_ini64 _ (by omega)])) fun a H => H.v 7 (ii ((i1 : Int) + 1)) fun a H => ?_
  refine nl (tn ?_)
  have HP := HP.sub2 [2, 3, 4, 5] [(rowsR w.heap.size 38 5 itC (fun _ _ => True) (fun _ _ => False) (.slice B_26 (i1 + 1) c_27) (l1 ++ [(⟨n2, n3, n4, n5, n6⟩ : Itm)])), bx b_5 32 [(ii z0), (ii z1), (ii z2), (ii z3), (.slice A0 sh.length c0), (ii y0), (ii y1), (ii y2), (ii y3), (.slice B_26 (i1 + 1) c_27), (.slice none 0 0), (.slice none 0 0), (.slice none 0 0)] true, bx b_3 106 (inCells s (k6, E6)) true, bx b_1 32 [(ii 0), (ii 0), (ii 0), (ii 0), (.slice none 0 0), (ii 0), (ii 0), (ii 0), (ii 0), (.slice none 0 0), (.slice none 0 0), (.slice none 0 0), (.slice none 0 0)] true] (by kernel_rfl) (by kernel_rfl) (by simp [bx, rowsR, rowsP])
  have H := H.as 7 (ii ((i1 + 1 : Nat) : Int)) rfl rfl
  refine ⟨_, ?_, i1 + 1, k6, E6, l1 ++ [(⟨n2, n3, n4, n5, n6⟩ : Itm)], B_26, c_27, rfl, H.keep (by kernel_rfl), HP, (by omega), (by rw [List.length_append, hal1]; rfl), hk6, (li_step hrel1 (by omega) (stg_map itOf (stg_snoc (stg_snoc (stg_snoc (stg_snoc (stg_snoc (stg_nil s kq1 0) h2) h3) h4) h5) h6)))⟩
  omega
 have g31p := g31
 refine wp_exit (then_exit (then_exit ?_))
 refine w_exit_here ?_
 refine tn (sq ?_)
 have hx1 := and_ff g31
 subst hal1
 have hS1 := li_end (E := Eq1) h1 hrel1 hi1 (by omega)
 refine rg ?_
 refine H.v 55 (pt b_3 0) fun a H => ?_
 obtain ⟨c7, k7, E7, h7⟩ : ∃ nn kk ee, cntR 4000 s (kq1, Eq1) = (nn, (kk, ee)) := ⟨_, _, _, rfl⟩
 have hk7 : k7 ≤ s.length := by have := cntR_le (most := 4000) (s := s) (q := (kq1, Eq1)) hkq1; rw [h7] at this; exact this
 obtain ⟨m7, rfl, hm7⟩ := cnt_nat h7
 refine H.cl 56 (Tryz.call63 _ _) ((by have hh := cnt_any 4000 b_3 s (kq1, Eq1) w_11 (HP.at_ 2 rfl) hl hkq1; simp only [h7] at hh; exact hh)) ?_
 rintro e w_30 ⟨rfl, hbx, hgr⟩
 refine ⟨_, rfl, ?_⟩
 intro a H
 have HP := HP.changed1 2 rfl (inCells s (k7, E7)) _ rfl hgr hbx
 refine H.v 6 (ii m7) fun a H => ?_
 refine nl ?_
 have HP := HP.nilRow w.heap.size 43 7 enC (fun (x : Ent) w => x.ok w) Ent.fp elOk_en
 refine tn (sq (sq (rg ?_)))
 refine H.v 9 (ii 0) fun a H => ?_
 refine nl (tn (bk ?_))
 refine w_loop (fun mm a wv => ∃ (i2 : Nat), ∃ (kq2 : Nat), ∃ (Eq2 : Int), ∃ (l2 : List (Ent)), ∃ (B2 : Option Addr), ∃ (cc2 : Nat), m7 - i2 = mm ∧ Sl 171 [(9, (ii i2)), (6, (ii m7)), (0, (.string (bstr s))), (2, (pt b_1 0)), (4, (pt b_3 0)), (5, (pt b_5 0))] a ∧ Hp w wv [(rowsR w.heap.size 43 7 enC (fun (x : Ent) w => x.ok w) Ent.fp (.slice B2 i2 cc2) l2), (rowsR w.heap.size 38 5 itC (fun _ _ => True) (fun _ _ => False) (.slice B1 l1.length cc1) l1), bx b_5 32 [(ii z0), (ii z1), (ii z2), (ii z3), (.slice A0 sh.length c0), (ii y0), (ii y1), (ii y2), (ii y3), (.slice B1 l1.length cc1), (.slice B2 i2 cc2), (.slice none 0 0), (.slice none 0 0)] true, bx b_3 106 (inCells s (kq2, Eq2)) true, bx b_1 32 [(ii 0), (ii 0), (ii 0), (ii 0), (.slice none 0 0), (ii 0), (ii 0), (ii 0), (ii 0), (.slice none 0 0), (.slice none 0 0), (.slice none 0 0), (.slice none 0 0)] true] [rowF 2 altC A0 sh] ∧ (i2 ≤ m7) ∧ (l2.length = i2) ∧ (kq2 ≤ s.length) ∧ (LI (rdEnt s) m7 k7 E7 i2 kq2 Eq2 (l2.map Ent.nv))) (m7 - 0) ?_ ?_
 ·exact ⟨0, k7, E7, [], none, 0, (by omega), H.keep (by kernel_rfl), HP, (Nat.zero_le _), rfl, hk7, (li_start _ h7)⟩
 rintro mm a w_31 ⟨i2, kq2, Eq2, l2, B2, cc2, hmeas, H, HP, hi2, hal2, hkq2, hrel2⟩
 refine sq ?_
 refine w_cut (fun a wv => Sl 171 [(66, (.bool (decide ((i2 : Int) < (m7 : Int)) && (Eq2 == 0)))), (9, (ii i2)), (6, (ii m7)), (0, (.string (bstr s))), (2, (pt b_1 0)), (4, (pt b_3 0)), (5, (pt b_5 0))] a ∧ Hp w wv [(rowsR w.heap.size 43 7 enC (fun (x : Ent) w => x.ok w) Ent.fp (.slice B2 i2 cc2) l2), (rowsR w.heap.size 38 5 itC (fun _ _ => True) (fun _ _ => False) (.slice B1 l1.length cc1) l1), bx b_5 32 [(ii z0), (ii z1), (ii z2), (ii z3), (.slice A0 sh.length c0), (ii y0), (ii y1), (ii y2), (ii y3), (.slice B1 l1.length cc1), (.slice B2 i2 cc2), (.slice none 0 0), (.slice none 0 0)] true, bx b_3 106 (inCells s (kq2, Eq2)) true, bx b_1 32 [(ii 0), (ii 0), (ii 0), (ii 0), (.slice none 0 0), (ii 0), (ii 0), (ii 0), (ii 0), (.slice none 0 0), (.slice none 0 0), (.slice none 0 0), (.slice none 0 0)] true] [rowF 2 altC A0 sh]) ?_ ?_
 ·
  refine rg ?_
  refine H.v 57 (ii i2) fun a H => H.v 58 (ii m7) fun a H => H.v 59 (.bool (decide ((i2 : Int) < (m7 : Int)))) fun a H => H.v 60 (.bool (decide ((i2 : Int) < (m7 : Int)))) fun a H => ?_
  refine H.split 60 rfl (fun g60 H => ?_) (fun g60 H => ?_)
  ·have g60p := of_decide_eq_true g60
   refine H.v 61 (pt b_3 0) fun a H => H.v 62 (pt b_3 0) fun a H => H.v 63 (pt b_3 2) fun a H => H.u 64 (ii Eq2) (ex_l1 (v := (ii Eq2)) (HP.cell 3 rfl 2 rfl)) fun a H => H.v 65 (.bool (Eq2 == 0)) fun a H => H.v 66 (.bool (Eq2 == 0)) fun a H => ?_
   refine nl (tn ?_)
   have H := H.as 66 (.bool (decide ((i2 : Int) < (m7 : Int)) && (Eq2 == 0))) rfl (congrArg Value.bool (by rw [g60]; rfl))
   exact ⟨H.keep (by kernel_rfl), HP⟩
  have g60p := of_decide_eq_false g60
  iterate 5 refine H.sx rfl fun a H => ?_
  refine H.v 66 (.bool false) fun a H => ?_
  refine nl (tn ?_)
  have H := H.as 66 (.bool (decide ((i2 : Int) < (m7 : Int)) && (Eq2 == 0))) rfl (congrArg Value.bool (by rw [g60]; rfl))
  exact ⟨H.keep (by kernel_rfl), HP⟩
 
 rintro a w_32 ⟨H, HP⟩
 refine w_if H rfl (fun g66 => ?_) (fun g66 => ?_)
 ·have g66p := g66
  refine sk (tn (sq (bk ?_)))
  obtain ⟨hlt2, hE0⟩ := and_tt g66
  subst hE0
  have HP : Hp w w_32 [(rowsR w.heap.size 43 7 enC (fun (x : Ent) w => x.ok w) Ent.fp (.slice B2 i2 cc2) l2), (rowsR w.heap.size 38 5 itC (fun _ _ => True) (fun _ _ => False) (.slice B1 l1.length cc1) l1), bx b_5 32 [(ii z0), (ii z1), (ii z2), (ii z3), (.slice A0 sh.length c0), (ii y0), (ii y1), (ii y2), (ii y3), (.slice B1 l1.length cc1), (.slice B2 i2 cc2), (.slice none 0 0), (.slice none 0 0)] true, bx b_3 106 (inCells s (kq2, 0)) true, bx b_1 32 [(ii 0), (ii 0), (ii 0), (ii 0), (.slice none 0 0), (ii 0), (ii 0), (ii 0), (ii 0), (.slice none 0 0), (.slice none 0 0), (.slice none 0 0), (.slice none 0 0)] true] [rowF 2 altC A0 sh] := HP
  have HP := HP.front 0 rfl _ rfl
  have HP := HP.front 3 rfl _ rfl
  refine An.start (fun v => Hp w v [(rowsR w.heap.size 38 5 itC (fun _ _ => True) (fun _ _ => False) (.slice B1 l1.length cc1) l1), bx b_5 32 [(ii z0), (ii z1), (ii z2), (ii z3), (.slice A0 sh.length c0), (ii y0), (ii y1), (ii y2), (ii y3), (.slice B1 l1.length cc1), (.slice B2 i2 cc2), (.slice none 0 0), (.slice none 0 0)] true, bx b_1 32 [(ii 0), (ii 0), (ii 0), (ii 0), (.slice none 0 0), (ii 0), (ii 0), (ii 0), (ii 0), (.slice none 0 0), (.slice none 0 0), (.slice none 0 0), (.slice none 0 0)] true] [rowF 2 altC A0 sh]) 7 8 HP wide_follows rfl fun w_33 HP => ?_
  refine An.p H (.inr (((HP.tail rfl).tail rfl))) 0 69 (pt b_5 10) fun a H => ?_
  refine An.vw H (((HP.tail rfl).tail rfl)) 1 70 (.slice B2 i2 cc2) (fun _ hS => ex_l1 (hS.cell 1 rfl 10 rfl)) fun a H => ?_
  refine An.p H (.inr (((HP.tail rfl).tail rfl))) 2 71 (pt b_3 0) fun a H => ?_
  refine An.one 3 (by kernel_rfl) ?_
  have hlt0 := HP.lt
  have hK0 := HP.ltK
  have hsz1 := HP.size
  refine Op.call H 72 rfl (by kernel_rfl) (Eq.trans (by kernel_rfl : _ = (callFunc 65 #[(pt b_3 0), (ii 80)]).run Tryz.prog w_33) (Tryz.call65 _ _)) (rentryIn_any b_3 s kq2 0 w_33 (HP.at_ 0 rfl) hl hkq2) ?_
  rintro e w_34 ⟨hag, x, ke, Ee, hke, hSx, rfl, hb1, hxo, hnew⟩
  refine ⟨_, rfl, ?_⟩
  intro a H
  have HP := HP.changed1 0 rfl (inCells s (ke, Ee)) [bx b_3 106 (inCells s (ke, Ee)) true, (rowsR w.heap.size 43 7 enC (fun (x : Ent) w => x.ok w) Ent.fp (.slice B2 i2 cc2) l2), (rowsR w.heap.size 38 5 itC (fun _ _ => True) (fun _ _ => False) (.slice B1 l1.length cc1) l1), bx b_5 32 [(ii z0), (ii z1), (ii z2), (ii z3), (.slice A0 sh.length c0), (ii y0), (ii y1), (ii y2), (ii y3), (.slice B1 l1.length cc1), (.slice B2 i2 cc2), (.slice none 0 0), (.slice none 0 0)] true, bx b_1 32 [(ii 0), (ii 0), (ii 0), (ii 0), (.slice none 0 0), (ii 0), (ii 0), (ii 0), (ii 0), (.slice none 0 0), (.slice none 0 0), (.slice none 0 0), (.slice none 0 0)] true] (by kernel_rfl) hag hb1
  have HP := HP.pendN 1 rfl elOk_en x [bx b_3 106 (inCells s (ke, Ee)) true, (rowsP w.heap.size 43 7 enC (fun (x : Ent) w => x.ok w) Ent.fp (.slice B2 i2 cc2) l2 x), (rowsR w.heap.size 38 5 itC (fun _ _ => True) (fun _ _ => False) (.slice B1 l1.length cc1) l1), bx b_5 32 [(ii z0), (ii z1), (ii z2), (ii z3), (.slice A0 sh.length c0), (ii y0), (ii y1), (ii y2), (ii y3), (.slice B1 l1.length cc1), (.slice B2 i2 cc2), (.slice none 0 0), (.slice none 0 0)] true, bx b_1 32 [(ii 0), (ii 0), (ii 0), (ii 0), (.slice none 0 0), (ii 0), (ii 0), (ii 0), (ii 0), (.slice none 0 0), (.slice none 0 0), (.slice none 0 0), (.slice none 0 0)] true] (by kernel_rfl) hxo (fun j hj => ⟨Nat.le_trans hsz1 (hnew j hj), hxo.1.lt j hj, fun y hy hyk => by simp only [List.mem_cons, List.not_mem_nil, or_false] at hy; rcases hy with rfl | rfl | rfl | rfl | rfl <;> (first | exact Nat.lt_irrefl _ (Nat.lt_of_lt_of_le (hlt0 _ (List.mem_of_getElem? (i := 0) rfl) j hyk) (hnew j hj)) | exact Nat.lt_irrefl _ (Nat.lt_of_lt_of_le (hlt0 _ (List.mem_of_getElem? (i := 1) rfl) j hyk) (hnew j hj)) | exact Nat.lt_irrefl _ (Nat.lt_of_lt_of_le (hlt0 _ (List.mem_of_getElem? (i := 2) rfl) j hyk) (hnew j hj)) | exact Nat.lt_irrefl _ (Nat.lt_of_lt_of_le (hlt0 _ (List.mem_of_getElem? (i := 3) rfl) j hyk) (hnew j hj)) | exact Nat.lt_irrefl _ (Nat.lt_of_lt_of_le (hlt0 _ (List.mem_of_getElem? (i := 4) rfl) j hyk) (hnew j hj))), fun q hq hqk => Nat.lt_irrefl _ (Nat.lt_of_lt_of_le (hK0 q hq j hqk) (hnew j hj))⟩)
  refine ⟨.inr (((HP.tail rfl).tail rfl)), ?_⟩
  refine An.one 4 (by kernel_rfl) ?_
  refine Op.alloc H HP 73 (fun b => (.slice (some ⟨b, 0, none⟩) 1 1)) 43 (enL x) rfl (by kernel_rfl) (fun w => by kernel_rfl) fun b_35 w_36 a H HP => ?_
  refine ⟨.inr ((((HP.tail rfl).tail rfl).tail rfl)), ?_⟩
  refine An.one 5 (by kernel_rfl) ?_
  refine Op.push H HP 74 2 0 (v := (.slice B2 i2 cc2)) (e := 43) (p := x) (l := l2) (cs := enC) (ok := (fun (x : Ent) w => x.ok w)) (fe := Ent.fp) (size := 7) (z := (.agg #[(ii 0), (ii 0), (ii 0), (ii 0), (ii 0), (ii 0), (.slice none 0 0)])) (bytes := 72) (bb := b_35) (tb := 43) (fb := true) rfl (by kernel_rfl) elOk_en (by kernel_rfl) (by kernel_rfl) rfl (by kernel_rfl) (by kernel_rfl) (by kernel_rfl) (by kernel_rfl) (by kernel_rfl) rfl (by kernel_rfl) (by rw [hal2]; unfold maxLen; omega) (by rw [hal2]; omega) fun B_37 c_38 w_39 a H HP => ?_
  have HP : Hp w w_39 [bx b_35 43 (enL x) true, bx b_3 106 (inCells s (ke, Ee)) true, (rowsR w.heap.size 43 7 enC (fun (x : Ent) w => x.ok w) Ent.fp (.slice B_37 (l2.length + 1) c_38) (l2 ++ [x])), (rowsR w.heap.size 38 5 itC (fun _ _ => True) (fun _ _ => False) (.slice B1 l1.length cc1) l1), bx b_5 32 [(ii z0), (ii z1), (ii z2), (ii z3), (.slice A0 sh.length c0), (ii y0), (ii y1), (ii y2), (ii y3), (.slice B1 l1.length cc1), (.slice B2 i2 cc2), (.slice none 0 0), (.slice none 0 0)] true, bx b_1 32 [(ii 0), (ii 0), (ii 0), (ii 0), (.slice none 0 0), (ii 0), (ii 0), (ii 0), (ii 0), (.slice none 0 0), (.slice none 0 0), (.slice none 0 0), (.slice none 0 0)] true] [rowF 2 altC A0 sh] := HP
  rw [hal2] at H HP
  refine ⟨.inr ((((HP.tail rfl).tail rfl).tail rfl)), ?_⟩
  refine An.p H (.inr ((((HP.tail rfl).tail rfl).tail rfl))) 6 75 (pt b_5 10) fun a H => ?_
  refine An.one 7 (by kernel_rfl) ?_
  refine Op.store H HP 4 b_5 10 1 32 [(ii z0), (ii z1), (ii z2), (ii z3), (.slice A0 sh.length c0), (ii y0), (ii y1), (ii y2), (ii y3), (.slice B1 l1.length cc1), (.slice B2 i2 cc2), (.slice none 0 0), (.slice none 0 0)] true (.slice B_37 (i2 + 1) c_38) [bx b_35 43 (enL x) true, bx b_3 106 (inCells s (ke, Ee)) true, (rowsR w.heap.size 43 7 enC (fun (x : Ent) w => x.ok w) Ent.fp (.slice B_37 (i2 + 1) c_38) (l2 ++ [x])), (rowsR w.heap.size 38 5 itC (fun _ _ => True) (fun _ _ => False) (.slice B1 l1.length cc1) l1), bx b_5 32 [(ii z0), (ii z1), (ii z2), (ii z3), (.slice A0 sh.length c0), (ii y0), (ii y1), (ii y2), (ii y3), (.slice B1 l1.length cc1), (.slice B_37 (i2 + 1) c_38), (.slice none 0 0), (.slice none 0 0)] true, bx b_1 32 [(ii 0), (ii 0), (ii 0), (ii 0), (.slice none 0 0), (ii 0), (ii 0), (ii 0), (ii 0), (.slice none 0 0), (.slice none 0 0), (.slice none 0 0), (.slice none 0 0)] true] rfl (by kernel_rfl) (by kernel_rfl) (by kernel_rfl) rfl (by kernel_rfl) (by kernel_rfl) (by kernel_rfl) (by kernel_rfl) (by kernel_rfl) fun w_40 a H HP => ?_
  refine ⟨.inl (by kernel_rfl), ?_⟩
  refine An.done (by kernel_rfl) ?_
  refine ibn (tn (rg ?_))
  refine H.v 67 (ii i2) fun a H => H.valE 68 (ii (IntKind.i64.wrap ((i2 : Int) + 1))) (ii ((i2 : Int) + 1)) (by kernel_rfl) (by kernel_rfl) ((by rw [wrap_ini64 _ (by omega)])) fun a H => H.v 9 (ii ((i2 : Int) + 1)) fun a H => ?_
  refine nl (tn ?_)
  have HP := HP.sub2 [2, 3, 4, 1, 5] [(rowsR w.heap.size 43 7 enC (fun (x : Ent) w => x.ok w) Ent.fp (.slice B_37 (i2 + 1) c_38) (l2 ++ [x])), (rowsR w.heap.size 38 5 itC (fun _ _ => True) (fun _ _ => False) (.slice B1 l1.length cc1) l1), bx b_5 32 [(ii z0), (ii z1), (ii z2), (ii z3), (.slice A0 sh.length c0), (ii y0), (ii y1), (ii y2), (ii y3), (.slice B1 l1.length cc1), (.slice B_37 (i2 + 1) c_38), (.slice none 0 0), (.slice none 0 0)] true, bx b_3 106 (inCells s (ke, Ee)) true, bx b_1 32 [(ii 0), (ii 0), (ii 0), (ii 0), (.slice none 0 0), (ii 0), (ii 0), (ii 0), (ii 0), (.slice none 0 0), (.slice none 0 0), (.slice none 0 0), (.slice none 0 0)] true] (by kernel_rfl) (by kernel_rfl) (by simp [bx, rowsR, rowsP])
  have H := H.as 9 (ii ((i2 + 1 : Nat) : Int)) rfl rfl
  refine ⟨_, ?_, i2 + 1, ke, Ee, l2 ++ [x], B_37, c_38, rfl, H.keep (by kernel_rfl), HP, (by omega), (by rw [List.length_append, hal2]; rfl), hke, (by rw [List.map_append]; exact li_step hrel2 (by omega) hSx)⟩
  omega
 have g66p := g66
 refine wp_exit (then_exit (then_exit ?_))
 refine w_exit_here ?_
 refine tn (sq ?_)
 have hx2 := and_ff g66
 subst hal2
 have hS2 := li_end (E := Eq2) h7 hrel2 hi2 (by omega)
 refine rg ?_
 refine H.v 76 (pt b_3 0) fun a H => ?_
 obtain ⟨c8, k8, E8, h8⟩ : ∃ nn kk ee, cntR 2000 s (kq2, Eq2) = (nn, (kk, ee)) := ⟨_, _, _, rfl⟩
 have hk8 : k8 ≤ s.length := by have := cntR_le (most := 2000) (s := s) (q := (kq2, Eq2)) hkq2; rw [h8] at this; exact this
 obtain ⟨m8, rfl, hm8⟩ := cnt_nat h8
 refine H.cl 77 (Tryz.call63 _ _) ((by have hh := cnt_any 2000 b_3 s (kq2, Eq2) w_32 (HP.at_ 3 rfl) hl hkq2; simp only [h8] at hh; exact hh)) ?_
 rintro e w_41 ⟨rfl, hbx, hgr⟩
 refine ⟨_, rfl, ?_⟩
 intro a H
 have HP := HP.changed1 3 rfl (inCells s (k8, E8)) _ rfl hgr hbx
 refine H.v 6 (ii m8) fun a H => ?_
 refine nl ?_
 have HP := HP.nilRow w.heap.size 47 7 bkC (fun _ _ => True) (fun _ _ => False) elOk_flat
 refine tn (sq (sq (rg ?_)))
 refine H.v 10 (ii 0) fun a H => ?_
 refine nl (tn (bk ?_))
 refine w_loop (fun mm a wv => ∃ (i3 : Nat), ∃ (kq3 : Nat), ∃ (Eq3 : Int), ∃ (l3 : List (Bkg)), ∃ (B3 : Option Addr), ∃ (cc3 : Nat), m8 - i3 = mm ∧ Sl 171 [(10, (ii i3)), (6, (ii m8)), (0, (.string (bstr s))), (2, (pt b_1 0)), (4, (pt b_3 0)), (5, (pt b_5 0))] a ∧ Hp w wv [(rowsR w.heap.size 47 7 bkC (fun _ _ => True) (fun _ _ => False) (.slice B3 i3 cc3) l3), (rowsR w.heap.size 43 7 enC (fun (x : Ent) w => x.ok w) Ent.fp (.slice B2 l2.length cc2) l2), (rowsR w.heap.size 38 5 itC (fun _ _ => True) (fun _ _ => False) (.slice B1 l1.length cc1) l1), bx b_5 32 [(ii z0), (ii z1), (ii z2), (ii z3), (.slice A0 sh.length c0), (ii y0), (ii y1), (ii y2), (ii y3), (.slice B1 l1.length cc1), (.slice B2 l2.length cc2), (.slice B3 i3 cc3), (.slice none 0 0)] true, bx b_3 106 (inCells s (kq3, Eq3)) true, bx b_1 32 [(ii 0), (ii 0), (ii 0), (ii 0), (.slice none 0 0), (ii 0), (ii 0), (ii 0), (ii 0), (.slice none 0 0), (.slice none 0 0), (.slice none 0 0), (.slice none 0 0)] true] [rowF 2 altC A0 sh] ∧ (i3 ≤ m8) ∧ (l3.length = i3) ∧ (kq3 ≤ s.length) ∧ (LI (rdM bkOf s 7) m8 k8 E8 i3 kq3 Eq3 (l3))) (m8 - 0) ?_ ?_
 ·exact ⟨0, k8, E8, [], none, 0, (by omega), H.keep (by kernel_rfl), HP, (Nat.zero_le _), rfl, hk8, (li_start _ h8)⟩
 rintro mm a w_42 ⟨i3, kq3, Eq3, l3, B3, cc3, hmeas, H, HP, hi3, hal3, hkq3, hrel3⟩
 refine sq ?_
 refine w_cut (fun a wv => Sl 171 [(87, (.bool (decide ((i3 : Int) < (m8 : Int)) && (Eq3 == 0)))), (10, (ii i3)), (6, (ii m8)), (0, (.string (bstr s))), (2, (pt b_1 0)), (4, (pt b_3 0)), (5, (pt b_5 0))] a ∧ Hp w wv [(rowsR w.heap.size 47 7 bkC (fun _ _ => True) (fun _ _ => False) (.slice B3 i3 cc3) l3), (rowsR w.heap.size 43 7 enC (fun (x : Ent) w => x.ok w) Ent.fp (.slice B2 l2.length cc2) l2), (rowsR w.heap.size 38 5 itC (fun _ _ => True) (fun _ _ => False) (.slice B1 l1.length cc1) l1), bx b_5 32 [(ii z0), (ii z1), (ii z2), (ii z3), (.slice A0 sh.length c0), (ii y0), (ii y1), (ii y2), (ii y3), (.slice B1 l1.length cc1), (.slice B2 l2.length cc2), (.slice B3 i3 cc3), (.slice none 0 0)] true, bx b_3 106 (inCells s (kq3, Eq3)) true, bx b_1 32 [(ii 0), (ii 0), (ii 0), (ii 0), (.slice none 0 0), (ii 0), (ii 0), (ii 0), (ii 0), (.slice none 0 0), (.slice none 0 0), (.slice none 0 0), (.slice none 0 0)] true] [rowF 2 altC A0 sh]) ?_ ?_
 ·
  refine rg ?_
  refine H.v 78 (ii i3) fun a H => H.v 79 (ii m8) fun a H => H.v 80 (.bool (decide ((i3 : Int) < (m8 : Int)))) fun a H => H.v 81 (.bool (decide ((i3 : Int) < (m8 : Int)))) fun a H => ?_
  refine H.split 81 rfl (fun g81 H => ?_) (fun g81 H => ?_)
  ·have g81p := of_decide_eq_true g81
   refine H.v 82 (pt b_3 0) fun a H => H.v 83 (pt b_3 0) fun a H => H.v 84 (pt b_3 2) fun a H => H.u 85 (ii Eq3) (ex_l1 (v := (ii Eq3)) (HP.cell 4 rfl 2 rfl)) fun a H => H.v 86 (.bool (Eq3 == 0)) fun a H => H.v 87 (.bool (Eq3 == 0)) fun a H => ?_
   refine nl (tn ?_)
   have H := H.as 87 (.bool (decide ((i3 : Int) < (m8 : Int)) && (Eq3 == 0))) rfl (congrArg Value.bool (by rw [g81]; rfl))
   exact ⟨H.keep (by kernel_rfl), HP⟩
  have g81p := of_decide_eq_false g81
  iterate 5 refine H.sx rfl fun a H => ?_
  refine H.v 87 (.bool false) fun a H => ?_
  refine nl (tn ?_)
  have H := H.as 87 (.bool (decide ((i3 : Int) < (m8 : Int)) && (Eq3 == 0))) rfl (congrArg Value.bool (by rw [g81]; rfl))
  exact ⟨H.keep (by kernel_rfl), HP⟩
 
 rintro a w_43 ⟨H, HP⟩
 refine w_if H rfl (fun g87 => ?_) (fun g87 => ?_)
 ·have g87p := g87
  refine sk (tn (sq (bk (sq ?_))))
  obtain ⟨hlt3, hE0⟩ := and_tt g87
  subst hE0
  have HP : Hp w w_43 [(rowsR w.heap.size 47 7 bkC (fun _ _ => True) (fun _ _ => False) (.slice B3 i3 cc3) l3), (rowsR w.heap.size 43 7 enC (fun (x : Ent) w => x.ok w) Ent.fp (.slice B2 l2.length cc2) l2), (rowsR w.heap.size 38 5 itC (fun _ _ => True) (fun _ _ => False) (.slice B1 l1.length cc1) l1), bx b_5 32 [(ii z0), (ii z1), (ii z2), (ii z3), (.slice A0 sh.length c0), (ii y0), (ii y1), (ii y2), (ii y3), (.slice B1 l1.length cc1), (.slice B2 l2.length cc2), (.slice B3 i3 cc3), (.slice none 0 0)] true, bx b_3 106 (inCells s (kq3, 0)) true, bx b_1 32 [(ii 0), (ii 0), (ii 0), (ii 0), (.slice none 0 0), (ii 0), (ii 0), (ii 0), (ii 0), (.slice none 0 0), (.slice none 0 0), (.slice none 0 0), (.slice none 0 0)] true] [rowF 2 altC A0 sh] := HP
  refine rg ?_
  refine H.v 90 (pt b_3 0) fun a H => ?_
  obtain ⟨n9, k9, E9, h9⟩ : ∃ nn kk ee, nR s (kq3, 0) = (nn, (kk, ee)) := ⟨_, _, _, rfl⟩
  have hk9 : k9 ≤ s.length := by have := nR_le (s := s) (q := (kq3, 0)) hkq3; rw [h9] at this; exact this
  refine H.cl 91 (Tryz.call64 _ _) ((by have hh := nR_any b_3 s (kq3, 0) w_43 (HP.at_ 4 rfl) hl hkq3; simp only [h9] at hh; exact hh)) ?_
  rintro e w_44 ⟨rfl, hbx, hgr⟩
  refine ⟨_, rfl, ?_⟩
  intro a H
  have HP := HP.changed1 4 rfl (inCells s (k9, E9)) _ rfl hgr hbx
  refine H.v 92 (.agg #[(ii n9), (ii 0), (ii 0), (ii 0), (ii 0), (ii 0), (ii 0)]) fun a H => H.al HP 11 47 [(ii 0), (ii 0), (ii 0), (ii 0), (ii 0), (ii 0), (ii 0)] fun b_45 w_46 a H HP => H.st HP 0 b_45 0 7 47 true (.agg #[(ii n9), (ii 0), (ii 0), (ii 0), (ii 0), (ii 0), (ii 0)]) [bx b_45 47 [(ii n9), (ii 0), (ii 0), (ii 0), (ii 0), (ii 0), (ii 0)] true, (rowsR w.heap.size 47 7 bkC (fun _ _ => True) (fun _ _ => False) (.slice B3 i3 cc3) l3), (rowsR w.heap.size 43 7 enC (fun (x : Ent) w => x.ok w) Ent.fp (.slice B2 l2.length cc2) l2), (rowsR w.heap.size 38 5 itC (fun _ _ => True) (fun _ _ => False) (.slice B1 l1.length cc1) l1), bx b_5 32 [(ii z0), (ii z1), (ii z2), (ii z3), (.slice A0 sh.length c0), (ii y0), (ii y1), (ii y2), (ii y3), (.slice B1 l1.length cc1), (.slice B2 l2.length cc2), (.slice B3 i3 cc3), (.slice none 0 0)] true, bx b_3 106 (inCells s (k9, E9)) true, bx b_1 32 [(ii 0), (ii 0), (ii 0), (ii 0), (.slice none 0 0), (ii 0), (ii 0), (ii 0), (ii 0), (.slice none 0 0), (.slice none 0 0), (.slice none 0 0), (.slice none 0 0)] true] rfl fun w_47 a H HP => ?_
  refine nl (tn (sq (rg ?_)))
  refine H.v 93 (pt b_3 0) fun a H => ?_
  obtain ⟨n10, k10, E10, h10⟩ : ∃ nn kk ee, nR s (k9, E9) = (nn, (kk, ee)) := ⟨_, _, _, rfl⟩
  have hk10 : k10 ≤ s.length := by have := nR_le (s := s) (q := (k9, E9)) hk9; rw [h10] at this; exact this
  refine H.cl 94 (Tryz.call64 _ _) ((by have hh := nR_any b_3 s (k9, E9) w_47 (HP.at_ 5 rfl) hl hk9; simp only [h10] at hh; exact hh)) ?_
  rintro e w_48 ⟨rfl, hbx, hgr⟩
  refine ⟨_, rfl, ?_⟩
  intro a H
  have HP := HP.changed1 5 rfl (inCells s (k10, E10)) _ rfl hgr hbx
  refine H.v 95 (pt b_45 1) fun a H => H.st HP 0 b_45 1 1 47 true (ii n10) [bx b_45 47 [(ii n9), (ii n10), (ii 0), (ii 0), (ii 0), (ii 0), (ii 0)] true, (rowsR w.heap.size 47 7 bkC (fun _ _ => True) (fun _ _ => False) (.slice B3 i3 cc3) l3), (rowsR w.heap.size 43 7 enC (fun (x : Ent) w => x.ok w) Ent.fp (.slice B2 l2.length cc2) l2), (rowsR w.heap.size 38 5 itC (fun _ _ => True) (fun _ _ => False) (.slice B1 l1.length cc1) l1), bx b_5 32 [(ii z0), (ii z1), (ii z2), (ii z3), (.slice A0 sh.length c0), (ii y0), (ii y1), (ii y2), (ii y3), (.slice B1 l1.length cc1), (.slice B2 l2.length cc2), (.slice B3 i3 cc3), (.slice none 0 0)] true, bx b_3 106 (inCells s (k10, E10)) true, bx b_1 32 [(ii 0), (ii 0), (ii 0), (ii 0), (.slice none 0 0), (ii 0), (ii 0), (ii 0), (ii 0), (.slice none 0 0), (.slice none 0 0), (.slice none 0 0), (.slice none 0 0)] true] rfl fun w_49 a H HP => ?_
  refine nl (tn (sq (rg ?_)))
  refine H.v 96 (pt b_3 0) fun a H => ?_
  obtain ⟨n11, k11, E11, h11⟩ : ∃ nn kk ee, nR s (k10, E10) = (nn, (kk, ee)) := ⟨_, _, _, rfl⟩
  have hk11 : k11 ≤ s.length := by have := nR_le (s := s) (q := (k10, E10)) hk10; rw [h11] at this; exact this
  refine H.cl 97 (Tryz.call64 _ _) ((by have hh := nR_any b_3 s (k10, E10) w_49 (HP.at_ 5 rfl) hl hk10; simp only [h11] at hh; exact hh)) ?_
  rintro e w_50 ⟨rfl, hbx, hgr⟩
  refine ⟨_, rfl, ?_⟩
  intro a H
  have HP := HP.changed1 5 rfl (inCells s (k11, E11)) _ rfl hgr hbx
  refine H.v 98 (pt b_45 2) fun a H => H.st HP 0 b_45 2 1 47 true (ii n11) [bx b_45 47 [(ii n9), (ii n10), (ii n11), (ii 0), (ii 0), (ii 0), (ii 0)] true, (rowsR w.heap.size 47 7 bkC (fun _ _ => True) (fun _ _ => False) (.slice B3 i3 cc3) l3), (rowsR w.heap.size 43 7 enC (fun (x : Ent) w => x.ok w) Ent.fp (.slice B2 l2.length cc2) l2), (rowsR w.heap.size 38 5 itC (fun _ _ => True) (fun _ _ => False) (.slice B1 l1.length cc1) l1), bx b_5 32 [(ii z0), (ii z1), (ii z2), (ii z3), (.slice A0 sh.length c0), (ii y0), (ii y1), (ii y2), (ii y3), (.slice B1 l1.length cc1), (.slice B2 l2.length cc2), (.slice B3 i3 cc3), (.slice none 0 0)] true, bx b_3 106 (inCells s (k11, E11)) true, bx b_1 32 [(ii 0), (ii 0), (ii 0), (ii 0), (.slice none 0 0), (ii 0), (ii 0), (ii 0), (ii 0), (.slice none 0 0), (.slice none 0 0), (.slice none 0 0), (.slice none 0 0)] true] rfl fun w_51 a H HP => ?_
  refine nl (tn (sq (rg ?_)))
  refine H.v 99 (pt b_3 0) fun a H => ?_
  obtain ⟨n12, k12, E12, h12⟩ : ∃ nn kk ee, nR s (k11, E11) = (nn, (kk, ee)) := ⟨_, _, _, rfl⟩
  have hk12 : k12 ≤ s.length := by have := nR_le (s := s) (q := (k11, E11)) hk11; rw [h12] at this; exact this
  refine H.cl 100 (Tryz.call64 _ _) ((by have hh := nR_any b_3 s (k11, E11) w_51 (HP.at_ 5 rfl) hl hk11; simp only [h12] at hh; exact hh)) ?_
  rintro e w_52 ⟨rfl, hbx, hgr⟩
  refine ⟨_, rfl, ?_⟩
  intro a H
  have HP := HP.changed1 5 rfl (inCells s (k12, E12)) _ rfl hgr hbx
  refine H.v 101 (pt b_45 3) fun a H => H.st HP 0 b_45 3 1 47 true (ii n12) [bx b_45 47 [(ii n9), (ii n10), (ii n11), (ii n12), (ii 0), (ii 0), (ii 0)] true, (rowsR w.heap.size 47 7 bkC (fun _ _ => True) (fun _ _ => False) (.slice B3 i3 cc3) l3), (rowsR w.heap.size 43 7 enC (fun (x : Ent) w => x.ok w) Ent.fp (.slice B2 l2.length cc2) l2), (rowsR w.heap.size 38 5 itC (fun _ _ => True) (fun _ _ => False) (.slice B1 l1.length cc1) l1), bx b_5 32 [(ii z0), (ii z1), (ii z2), (ii z3), (.slice A0 sh.length c0), (ii y0), (ii y1), (ii y2), (ii y3), (.slice B1 l1.length cc1), (.slice B2 l2.length cc2), (.slice B3 i3 cc3), (.slice none 0 0)] true, bx b_3 106 (inCells s (k12, E12)) true, bx b_1 32 [(ii 0), (ii 0), (ii 0), (ii 0), (.slice none 0 0), (ii 0), (ii 0), (ii 0), (ii 0), (.slice none 0 0), (.slice none 0 0), (.slice none 0 0), (.slice none 0 0)] true] rfl fun w_53 a H HP => ?_
  refine nl (tn (sq (rg ?_)))
  refine H.v 102 (pt b_3 0) fun a H => ?_
  obtain ⟨n13, k13, E13, h13⟩ : ∃ nn kk ee, nR s (k12, E12) = (nn, (kk, ee)) := ⟨_, _, _, rfl⟩
  have hk13 : k13 ≤ s.length := by have := nR_le (s := s) (q := (k12, E12)) hk12; rw [h13] at this; exact this
  refine H.cl 103 (Tryz.call64 _ _) ((by have hh := nR_any b_3 s (k12, E12) w_53 (HP.at_ 5 rfl) hl hk12; simp only [h13] at hh; exact hh)) ?_
  rintro e w_54 ⟨rfl, hbx, hgr⟩
  refine ⟨_, rfl, ?_⟩
  intro a H
  have HP := HP.changed1 5 rfl (inCells s (k13, E13)) _ rfl hgr hbx
  refine H.v 104 (pt b_45 4) fun a H => H.st HP 0 b_45 4 1 47 true (ii n13) [bx b_45 47 [(ii n9), (ii n10), (ii n11), (ii n12), (ii n13), (ii 0), (ii 0)] true, (rowsR w.heap.size 47 7 bkC (fun _ _ => True) (fun _ _ => False) (.slice B3 i3 cc3) l3), (rowsR w.heap.size 43 7 enC (fun (x : Ent) w => x.ok w) Ent.fp (.slice B2 l2.length cc2) l2), (rowsR w.heap.size 38 5 itC (fun _ _ => True) (fun _ _ => False) (.slice B1 l1.length cc1) l1), bx b_5 32 [(ii z0), (ii z1), (ii z2), (ii z3), (.slice A0 sh.length c0), (ii y0), (ii y1), (ii y2), (ii y3), (.slice B1 l1.length cc1), (.slice B2 l2.length cc2), (.slice B3 i3 cc3), (.slice none 0 0)] true, bx b_3 106 (inCells s (k13, E13)) true, bx b_1 32 [(ii 0), (ii 0), (ii 0), (ii 0), (.slice none 0 0), (ii 0), (ii 0), (ii 0), (ii 0), (.slice none 0 0), (.slice none 0 0), (.slice none 0 0), (.slice none 0 0)] true] rfl fun w_55 a H HP => ?_
  refine nl (tn (sq (rg ?_)))
  refine H.v 105 (pt b_3 0) fun a H => ?_
  obtain ⟨n14, k14, E14, h14⟩ : ∃ nn kk ee, nR s (k13, E13) = (nn, (kk, ee)) := ⟨_, _, _, rfl⟩
  have hk14 : k14 ≤ s.length := by have := nR_le (s := s) (q := (k13, E13)) hk13; rw [h14] at this; exact this
  refine H.cl 106 (Tryz.call64 _ _) ((by have hh := nR_any b_3 s (k13, E13) w_55 (HP.at_ 5 rfl) hl hk13; simp only [h14] at hh; exact hh)) ?_
  rintro e w_56 ⟨rfl, hbx, hgr⟩
  refine ⟨_, rfl, ?_⟩
  intro a H
  have HP := HP.changed1 5 rfl (inCells s (k14, E14)) _ rfl hgr hbx
  refine H.v 107 (pt b_45 5) fun a H => H.st HP 0 b_45 5 1 47 true (ii n14) [bx b_45 47 [(ii n9), (ii n10), (ii n11), (ii n12), (ii n13), (ii n14), (ii 0)] true, (rowsR w.heap.size 47 7 bkC (fun _ _ => True) (fun _ _ => False) (.slice B3 i3 cc3) l3), (rowsR w.heap.size 43 7 enC (fun (x : Ent) w => x.ok w) Ent.fp (.slice B2 l2.length cc2) l2), (rowsR w.heap.size 38 5 itC (fun _ _ => True) (fun _ _ => False) (.slice B1 l1.length cc1) l1), bx b_5 32 [(ii z0), (ii z1), (ii z2), (ii z3), (.slice A0 sh.length c0), (ii y0), (ii y1), (ii y2), (ii y3), (.slice B1 l1.length cc1), (.slice B2 l2.length cc2), (.slice B3 i3 cc3), (.slice none 0 0)] true, bx b_3 106 (inCells s (k14, E14)) true, bx b_1 32 [(ii 0), (ii 0), (ii 0), (ii 0), (.slice none 0 0), (ii 0), (ii 0), (ii 0), (ii 0), (.slice none 0 0), (.slice none 0 0), (.slice none 0 0), (.slice none 0 0)] true] rfl fun w_57 a H HP => ?_
  refine nl (tn (sq (rg ?_)))
  refine H.v 108 (pt b_3 0) fun a H => ?_
  obtain ⟨n15, k15, E15, h15⟩ : ∃ nn kk ee, nR s (k14, E14) = (nn, (kk, ee)) := ⟨_, _, _, rfl⟩
  have hk15 : k15 ≤ s.length := by have := nR_le (s := s) (q := (k14, E14)) hk14; rw [h15] at this; exact this
  refine H.cl 109 (Tryz.call64 _ _) ((by have hh := nR_any b_3 s (k14, E14) w_57 (HP.at_ 5 rfl) hl hk14; simp only [h15] at hh; exact hh)) ?_
  rintro e w_58 ⟨rfl, hbx, hgr⟩
  refine ⟨_, rfl, ?_⟩
  intro a H
  have HP := HP.changed1 5 rfl (inCells s (k15, E15)) _ rfl hgr hbx
  refine H.v 110 (pt b_45 6) fun a H => H.st HP 0 b_45 6 1 47 true (ii n15) [bx b_45 47 [(ii n9), (ii n10), (ii n11), (ii n12), (ii n13), (ii n14), (ii n15)] true, (rowsR w.heap.size 47 7 bkC (fun _ _ => True) (fun _ _ => False) (.slice B3 i3 cc3) l3), (rowsR w.heap.size 43 7 enC (fun (x : Ent) w => x.ok w) Ent.fp (.slice B2 l2.length cc2) l2), (rowsR w.heap.size 38 5 itC (fun _ _ => True) (fun _ _ => False) (.slice B1 l1.length cc1) l1), bx b_5 32 [(ii z0), (ii z1), (ii z2), (ii z3), (.slice A0 sh.length c0), (ii y0), (ii y1), (ii y2), (ii y3), (.slice B1 l1.length cc1), (.slice B2 l2.length cc2), (.slice B3 i3 cc3), (.slice none 0 0)] true, bx b_3 106 (inCells s (k15, E15)) true, bx b_1 32 [(ii 0), (ii 0), (ii 0), (ii 0), (.slice none 0 0), (ii 0), (ii 0), (ii 0), (ii 0), (.slice none 0 0), (.slice none 0 0), (.slice none 0 0), (.slice none 0 0)] true] rfl fun w_59 a H HP => ?_
  refine nl (tn (rg ?_))
  refine H.v 111 (pt b_5 11) fun a H => H.u 112 (.slice B3 i3 cc3) (ex_l1 (HP.cell 4 rfl 11 rfl)) fun a H => H.u 113 (.agg #[(ii n9), (ii n10), (ii n11), (ii n12), (ii n13), (ii n14), (ii n15)]) (ex_lN [(ii n9), (ii n10), (ii n11), (ii n12), (ii n13), (ii n14), (ii n15)] (HP.cells 0 rfl 0 7 (by kernel_rfl))) fun a H => H.alloc HP 114 (fun b => (.slice (some ⟨b, 0, none⟩) 1 1)) 47 [(ii n9), (ii n10), (ii n11), (ii n12), (ii n13), (ii n14), (ii n15)] (by kernel_rfl) (fun w => by kernel_rfl) fun b_60 w_61 a H HP => ?_
  have HP := HP.pend0 2 rfl elOk_flat (⟨n9, n10, n11, n12, n13, n14, n15⟩ : Bkg) [bx b_60 47 [(ii n9), (ii n10), (ii n11), (ii n12), (ii n13), (ii n14), (ii n15)] true, bx b_45 47 [(ii n9), (ii n10), (ii n11), (ii n12), (ii n13), (ii n14), (ii n15)] true, (rowsP w.heap.size 47 7 bkC (fun _ _ => True) (fun _ _ => False) (.slice B3 i3 cc3) l3 (⟨n9, n10, n11, n12, n13, n14, n15⟩ : Bkg)), (rowsR w.heap.size 43 7 enC (fun (x : Ent) w => x.ok w) Ent.fp (.slice B2 l2.length cc2) l2), (rowsR w.heap.size 38 5 itC (fun _ _ => True) (fun _ _ => False) (.slice B1 l1.length cc1) l1), bx b_5 32 [(ii z0), (ii z1), (ii z2), (ii z3), (.slice A0 sh.length c0), (ii y0), (ii y1), (ii y2), (ii y3), (.slice B1 l1.length cc1), (.slice B2 l2.length cc2), (.slice B3 i3 cc3), (.slice none 0 0)] true, bx b_3 106 (inCells s (k15, E15)) true, bx b_1 32 [(ii 0), (ii 0), (ii 0), (ii 0), (.slice none 0 0), (ii 0), (ii 0), (ii 0), (ii 0), (.slice none 0 0), (.slice none 0 0), (.slice none 0 0), (.slice none 0 0)] true] (by kernel_rfl) trivial (fun _ h => h)
  refine H.push HP 115 2 0 (v := (.slice B3 i3 cc3)) (e := 47) (p := (⟨n9, n10, n11, n12, n13, n14, n15⟩ : Bkg)) (l := l3) (cs := bkC) (ok := (fun _ _ => True)) (fe := (fun _ _ => False)) (size := 7) (z := (.agg #[(ii 0), (ii 0), (ii 0), (ii 0), (ii 0), (ii 0), (ii 0)])) (bytes := 56) (bb := b_60) (tb := 47) (fb := true) (by kernel_rfl) elOk_flat (by kernel_rfl) (by kernel_rfl) rfl (by kernel_rfl) (by kernel_rfl) (by kernel_rfl) (by kernel_rfl) (by kernel_rfl) rfl (by kernel_rfl) (by rw [hal3]; unfold maxLen; omega) (by rw [hal3]; omega) fun B_62 c_63 w_64 a H HP => ?_
  have HP : Hp w w_64 [bx b_60 47 [(ii n9), (ii n10), (ii n11), (ii n12), (ii n13), (ii n14), (ii n15)] true, bx b_45 47 [(ii n9), (ii n10), (ii n11), (ii n12), (ii n13), (ii n14), (ii n15)] true, (rowsR w.heap.size 47 7 bkC (fun _ _ => True) (fun _ _ => False) (.slice B_62 (l3.length + 1) c_63) (l3 ++ [(⟨n9, n10, n11, n12, n13, n14, n15⟩ : Bkg)])), (rowsR w.heap.size 43 7 enC (fun (x : Ent) w => x.ok w) Ent.fp (.slice B2 l2.length cc2) l2), (rowsR w.heap.size 38 5 itC (fun _ _ => True) (fun _ _ => False) (.slice B1 l1.length cc1) l1), bx b_5 32 [(ii z0), (ii z1), (ii z2), (ii z3), (.slice A0 sh.length c0), (ii y0), (ii y1), (ii y2), (ii y3), (.slice B1 l1.length cc1), (.slice B2 l2.length cc2), (.slice B3 i3 cc3), (.slice none 0 0)] true, bx b_3 106 (inCells s (k15, E15)) true, bx b_1 32 [(ii 0), (ii 0), (ii 0), (ii 0), (.slice none 0 0), (ii 0), (ii 0), (ii 0), (ii 0), (.slice none 0 0), (.slice none 0 0), (.slice none 0 0), (.slice none 0 0)] true] [rowF 2 altC A0 sh] := HP
  rw [hal3] at H HP
  refine H.v 116 (pt b_5 11) fun a H => H.st HP 5 b_5 11 1 32 true (.slice B_62 (i3 + 1) c_63) [bx b_60 47 [(ii n9), (ii n10), (ii n11), (ii n12), (ii n13), (ii n14), (ii n15)] true, bx b_45 47 [(ii n9), (ii n10), (ii n11), (ii n12), (ii n13), (ii n14), (ii n15)] true, (rowsR w.heap.size 47 7 bkC (fun _ _ => True) (fun _ _ => False) (.slice B_62 (i3 + 1) c_63) (l3 ++ [(⟨n9, n10, n11, n12, n13, n14, n15⟩ : Bkg)])), (rowsR w.heap.size 43 7 enC (fun (x : Ent) w => x.ok w) Ent.fp (.slice B2 l2.length cc2) l2), (rowsR w.heap.size 38 5 itC (fun _ _ => True) (fun _ _ => False) (.slice B1 l1.length cc1) l1), bx b_5 32 [(ii z0), (ii z1), (ii z2), (ii z3), (.slice A0 sh.length c0), (ii y0), (ii y1), (ii y2), (ii y3), (.slice B1 l1.length cc1), (.slice B2 l2.length cc2), (.slice B_62 (i3 + 1) c_63), (.slice none 0 0)] true, bx b_3 106 (inCells s (k15, E15)) true, bx b_1 32 [(ii 0), (ii 0), (ii 0), (ii 0), (.slice none 0 0), (ii 0), (ii 0), (ii 0), (ii 0), (.slice none 0 0), (.slice none 0 0), (.slice none 0 0), (.slice none 0 0)] true] rfl fun w_65 a H HP => ?_
  refine nl (ibn (tn (rg ?_)))
  refine H.v 88 (ii i3) fun a H => H.valE 89 (ii (IntKind.i64.wrap ((i3 : Int) + 1))) (ii ((i3 : Int) + 1)) (by kernel_rfl) (by kernel_rfl) ((by rw [wrap_ini64 _ (by omega)])) fun a H => H.v 10 (ii ((i3 : Int) + 1)) fun a H => ?_
  refine nl (tn ?_)
  have HP := HP.sub2 [2, 3, 4, 5, 6, 7] [(rowsR w.heap.size 47 7 bkC (fun _ _ => True) (fun _ _ => False) (.slice B_62 (i3 + 1) c_63) (l3 ++ [(⟨n9, n10, n11, n12, n13, n14, n15⟩ : Bkg)])), (rowsR w.heap.size 43 7 enC (fun (x : Ent) w => x.ok w) Ent.fp (.slice B2 l2.length cc2) l2), (rowsR w.heap.size 38 5 itC (fun _ _ => True) (fun _ _ => False) (.slice B1 l1.length cc1) l1), bx b_5 32 [(ii z0), (ii z1), (ii z2), (ii z3), (.slice A0 sh.length c0), (ii y0), (ii y1), (ii y2), (ii y3), (.slice B1 l1.length cc1), (.slice B2 l2.length cc2), (.slice B_62 (i3 + 1) c_63), (.slice none 0 0)] true, bx b_3 106 (inCells s (k15, E15)) true, bx b_1 32 [(ii 0), (ii 0), (ii 0), (ii 0), (.slice none 0 0), (ii 0), (ii 0), (ii 0), (ii 0), (.slice none 0 0), (.slice none 0 0), (.slice none 0 0), (.slice none 0 0)] true] (by kernel_rfl) (by kernel_rfl) (by simp [bx, rowsR, rowsP])
  have H := H.as 10 (ii ((i3 + 1 : Nat) : Int)) rfl rfl
  refine ⟨_, ?_, i3 + 1, k15, E15, l3 ++ [(⟨n9, n10, n11, n12, n13, n14, n15⟩ : Bkg)], B_62, c_63, rfl, H.keep (by kernel_rfl), HP, (by omega), (by rw [List.length_append, hal3]; rfl), hk15, (li_step hrel3 (by omega) (stg_map bkOf (stg_snoc (stg_snoc (stg_snoc (stg_snoc (stg_snoc (stg_snoc (stg_snoc (stg_nil s kq3 0) h9) h10) h11) h12) h13) h14) h15)))⟩
  omega
 have g87p := g87
 refine wp_exit (then_exit (then_exit ?_))
 refine w_exit_here ?_
 refine tn (sq ?_)
 have hx3 := and_ff g87
 subst hal3
 have hS3 := li_end (E := Eq3) h8 hrel3 hi3 (by omega)
 refine rg ?_
 refine H.v 117 (pt b_3 0) fun a H => ?_
 obtain ⟨c16, k16, E16, h16⟩ : ∃ nn kk ee, cntR 400 s (kq3, Eq3) = (nn, (kk, ee)) := ⟨_, _, _, rfl⟩
 have hk16 : k16 ≤ s.length := by have := cntR_le (most := 400) (s := s) (q := (kq3, Eq3)) hkq3; rw [h16] at this; exact this
 obtain ⟨m16, rfl, hm16⟩ := cnt_nat h16
 refine H.cl 118 (Tryz.call63 _ _) ((by have hh := cnt_any 400 b_3 s (kq3, Eq3) w_43 (HP.at_ 4 rfl) hl hkq3; simp only [h16] at hh; exact hh)) ?_
 rintro e w_66 ⟨rfl, hbx, hgr⟩
 refine ⟨_, rfl, ?_⟩
 intro a H
 have HP := HP.changed1 4 rfl (inCells s (k16, E16)) _ rfl hgr hbx
 refine H.v 6 (ii m16) fun a H => ?_
 refine nl ?_
 have HP := HP.nilRow w.heap.size 73 8 clC (fun _ _ => True) (fun _ _ => False) elOk_flat
 refine tn (sq (sq (rg ?_)))
 refine H.v 12 (ii 0) fun a H => ?_
 refine nl (tn (bk ?_))
 refine w_loop (fun mm a wv => ∃ (i4 : Nat), ∃ (kq4 : Nat), ∃ (Eq4 : Int), ∃ (l4 : List (Cls)), ∃ (B4 : Option Addr), ∃ (cc4 : Nat), m16 - i4 = mm ∧ Sl 171 [(12, (ii i4)), (6, (ii m16)), (0, (.string (bstr s))), (2, (pt b_1 0)), (4, (pt b_3 0)), (5, (pt b_5 0))] a ∧ Hp w wv [(rowsR w.heap.size 73 8 clC (fun _ _ => True) (fun _ _ => False) (.slice B4 i4 cc4) l4), (rowsR w.heap.size 47 7 bkC (fun _ _ => True) (fun _ _ => False) (.slice B3 l3.length cc3) l3), (rowsR w.heap.size 43 7 enC (fun (x : Ent) w => x.ok w) Ent.fp (.slice B2 l2.length cc2) l2), (rowsR w.heap.size 38 5 itC (fun _ _ => True) (fun _ _ => False) (.slice B1 l1.length cc1) l1), bx b_5 32 [(ii z0), (ii z1), (ii z2), (ii z3), (.slice A0 sh.length c0), (ii y0), (ii y1), (ii y2), (ii y3), (.slice B1 l1.length cc1), (.slice B2 l2.length cc2), (.slice B3 l3.length cc3), (.slice B4 i4 cc4)] true, bx b_3 106 (inCells s (kq4, Eq4)) true, bx b_1 32 [(ii 0), (ii 0), (ii 0), (ii 0), (.slice none 0 0), (ii 0), (ii 0), (ii 0), (ii 0), (.slice none 0 0), (.slice none 0 0), (.slice none 0 0), (.slice none 0 0)] true] [rowF 2 altC A0 sh] ∧ (i4 ≤ m16) ∧ (l4.length = i4) ∧ (kq4 ≤ s.length) ∧ (LI (rdM clOf s 8) m16 k16 E16 i4 kq4 Eq4 (l4))) (m16 - 0) ?_ ?_
 ·exact ⟨0, k16, E16, [], none, 0, (by omega), H.keep (by kernel_rfl), HP, (Nat.zero_le _), rfl, hk16, (li_start _ h16)⟩
 rintro mm a w_67 ⟨i4, kq4, Eq4, l4, B4, cc4, hmeas, H, HP, hi4, hal4, hkq4, hrel4⟩
 refine sq ?_
 refine w_cut (fun a wv => Sl 171 [(128, (.bool (decide ((i4 : Int) < (m16 : Int)) && (Eq4 == 0)))), (12, (ii i4)), (6, (ii m16)), (0, (.string (bstr s))), (2, (pt b_1 0)), (4, (pt b_3 0)), (5, (pt b_5 0))] a ∧ Hp w wv [(rowsR w.heap.size 73 8 clC (fun _ _ => True) (fun _ _ => False) (.slice B4 i4 cc4) l4), (rowsR w.heap.size 47 7 bkC (fun _ _ => True) (fun _ _ => False) (.slice B3 l3.length cc3) l3), (rowsR w.heap.size 43 7 enC (fun (x : Ent) w => x.ok w) Ent.fp (.slice B2 l2.length cc2) l2), (rowsR w.heap.size 38 5 itC (fun _ _ => True) (fun _ _ => False) (.slice B1 l1.length cc1) l1), bx b_5 32 [(ii z0), (ii z1), (ii z2), (ii z3), (.slice A0 sh.length c0), (ii y0), (ii y1), (ii y2), (ii y3), (.slice B1 l1.length cc1), (.slice B2 l2.length cc2), (.slice B3 l3.length cc3), (.slice B4 i4 cc4)] true, bx b_3 106 (inCells s (kq4, Eq4)) true, bx b_1 32 [(ii 0), (ii 0), (ii 0), (ii 0), (.slice none 0 0), (ii 0), (ii 0), (ii 0), (ii 0), (.slice none 0 0), (.slice none 0 0), (.slice none 0 0), (.slice none 0 0)] true] [rowF 2 altC A0 sh]) ?_ ?_
 ·
  refine rg ?_
  refine H.v 119 (ii i4) fun a H => H.v 120 (ii m16) fun a H => H.v 121 (.bool (decide ((i4 : Int) < (m16 : Int)))) fun a H => H.v 122 (.bool (decide ((i4 : Int) < (m16 : Int)))) fun a H => ?_
  refine H.split 122 rfl (fun g122 H => ?_) (fun g122 H => ?_)
  ·have g122p := of_decide_eq_true g122
   refine H.v 123 (pt b_3 0) fun a H => H.v 124 (pt b_3 0) fun a H => H.v 125 (pt b_3 2) fun a H => H.u 126 (ii Eq4) (ex_l1 (v := (ii Eq4)) (HP.cell 5 rfl 2 rfl)) fun a H => H.v 127 (.bool (Eq4 == 0)) fun a H => H.v 128 (.bool (Eq4 == 0)) fun a H => ?_
   refine nl (tn ?_)
   have H := H.as 128 (.bool (decide ((i4 : Int) < (m16 : Int)) && (Eq4 == 0))) rfl (congrArg Value.bool (by rw [g122]; rfl))
   exact ⟨H.keep (by kernel_rfl), HP⟩
  have g122p := of_decide_eq_false g122
  iterate 5 refine H.sx rfl fun a H => ?_
  refine H.v 128 (.bool false) fun a H => ?_
  refine nl (tn ?_)
  have H := H.as 128 (.bool (decide ((i4 : Int) < (m16 : Int)) && (Eq4 == 0))) rfl (congrArg Value.bool (by rw [g122]; rfl))
  exact ⟨H.keep (by kernel_rfl), HP⟩
 
 rintro a w_68 ⟨H, HP⟩
 refine w_if H rfl (fun g128 => ?_) (fun g128 => ?_)
 ·have g128p := g128
  refine sk (tn (sq (bk ?_)))
  obtain ⟨hlt4, hE0⟩ := and_tt g128
  subst hE0
  have HP : Hp w w_68 [(rowsR w.heap.size 73 8 clC (fun _ _ => True) (fun _ _ => False) (.slice B4 i4 cc4) l4), (rowsR w.heap.size 47 7 bkC (fun _ _ => True) (fun _ _ => False) (.slice B3 l3.length cc3) l3), (rowsR w.heap.size 43 7 enC (fun (x : Ent) w => x.ok w) Ent.fp (.slice B2 l2.length cc2) l2), (rowsR w.heap.size 38 5 itC (fun _ _ => True) (fun _ _ => False) (.slice B1 l1.length cc1) l1), bx b_5 32 [(ii z0), (ii z1), (ii z2), (ii z3), (.slice A0 sh.length c0), (ii y0), (ii y1), (ii y2), (ii y3), (.slice B1 l1.length cc1), (.slice B2 l2.length cc2), (.slice B3 l3.length cc3), (.slice B4 i4 cc4)] true, bx b_3 106 (inCells s (kq4, 0)) true, bx b_1 32 [(ii 0), (ii 0), (ii 0), (ii 0), (.slice none 0 0), (ii 0), (ii 0), (ii 0), (ii 0), (.slice none 0 0), (.slice none 0 0), (.slice none 0 0), (.slice none 0 0)] true] [rowF 2 altC A0 sh] := HP
  have HP := HP.front 0 rfl _ rfl
  have HP := HP.front 5 rfl _ rfl
  refine An.start (fun v => Hp w v [(rowsR w.heap.size 47 7 bkC (fun _ _ => True) (fun _ _ => False) (.slice B3 l3.length cc3) l3), (rowsR w.heap.size 43 7 enC (fun (x : Ent) w => x.ok w) Ent.fp (.slice B2 l2.length cc2) l2), (rowsR w.heap.size 38 5 itC (fun _ _ => True) (fun _ _ => False) (.slice B1 l1.length cc1) l1), bx b_5 32 [(ii z0), (ii z1), (ii z2), (ii z3), (.slice A0 sh.length c0), (ii y0), (ii y1), (ii y2), (ii y3), (.slice B1 l1.length cc1), (.slice B2 l2.length cc2), (.slice B3 l3.length cc3), (.slice B4 i4 cc4)] true, bx b_1 32 [(ii 0), (ii 0), (ii 0), (ii 0), (.slice none 0 0), (ii 0), (ii 0), (ii 0), (ii 0), (.slice none 0 0), (.slice none 0 0), (.slice none 0 0), (.slice none 0 0)] true] [rowF 2 altC A0 sh]) 7 8 HP wide_follows rfl fun w_69 HP => ?_
  refine An.p H (.inr (((HP.tail rfl).tail rfl))) 0 131 (pt b_5 12) fun a H => ?_
  refine An.vw H (((HP.tail rfl).tail rfl)) 1 132 (.slice B4 i4 cc4) (fun _ hS => ex_l1 (hS.cell 3 rfl 12 rfl)) fun a H => ?_
  refine An.p H (.inr (((HP.tail rfl).tail rfl))) 2 133 (pt b_3 0) fun a H => ?_
  refine An.one 3 (by kernel_rfl) ?_
  refine Op.call H 134 rfl (by kernel_rfl) (Eq.trans (by kernel_rfl : _ = (callFunc 66 #[(pt b_3 0)]).run Tryz.prog w_69) (Tryz.call66 _ _)) (rclause_any b_3 s kq4 0 w_69 (HP.at_ 0 rfl) hl hkq4) ?_
  rintro e w_70 ⟨hag, x, ke, Ee, hke, hSx, rfl, hb1⟩
  refine ⟨_, rfl, ?_⟩
  intro a H
  have HP := HP.changed1 0 rfl (inCells s (ke, Ee)) _ rfl hag hb1
  refine ⟨.inr (((HP.tail rfl).tail rfl)), ?_⟩
  refine An.one 4 (by kernel_rfl) ?_
  refine Op.alloc H HP 135 (fun b => (.slice (some ⟨b, 0, none⟩) 1 1)) 73 (clL x) rfl (by kernel_rfl) (fun w => by kernel_rfl) fun b_71 w_72 a H HP => ?_
  refine ⟨.inr ((((HP.tail rfl).tail rfl).tail rfl)), ?_⟩
  refine An.one 5 (by kernel_rfl) ?_
  have HP := HP.pend0 2 rfl elOk_flat x [bx b_71 73 (clL x) true, bx b_3 106 (inCells s (ke, Ee)) true, (rowsP w.heap.size 73 8 clC (fun _ _ => True) (fun _ _ => False) (.slice B4 i4 cc4) l4 x), (rowsR w.heap.size 47 7 bkC (fun _ _ => True) (fun _ _ => False) (.slice B3 l3.length cc3) l3), (rowsR w.heap.size 43 7 enC (fun (x : Ent) w => x.ok w) Ent.fp (.slice B2 l2.length cc2) l2), (rowsR w.heap.size 38 5 itC (fun _ _ => True) (fun _ _ => False) (.slice B1 l1.length cc1) l1), bx b_5 32 [(ii z0), (ii z1), (ii z2), (ii z3), (.slice A0 sh.length c0), (ii y0), (ii y1), (ii y2), (ii y3), (.slice B1 l1.length cc1), (.slice B2 l2.length cc2), (.slice B3 l3.length cc3), (.slice B4 i4 cc4)] true, bx b_1 32 [(ii 0), (ii 0), (ii 0), (ii 0), (.slice none 0 0), (ii 0), (ii 0), (ii 0), (ii 0), (.slice none 0 0), (.slice none 0 0), (.slice none 0 0), (.slice none 0 0)] true] (by kernel_rfl) trivial (fun _ h => h)
  refine Op.push H HP 136 2 0 (v := (.slice B4 i4 cc4)) (e := 73) (p := x) (l := l4) (cs := clC) (ok := (fun _ _ => True)) (fe := (fun _ _ => False)) (size := 8) (z := (.agg #[(ii 0), (ii 0), (ii 0), (ii 0), (ii 0), (ii 0), (ii 0), (ii 0)])) (bytes := 64) (bb := b_71) (tb := 73) (fb := true) rfl (by kernel_rfl) elOk_flat (by kernel_rfl) (by kernel_rfl) rfl (by kernel_rfl) (by kernel_rfl) (by kernel_rfl) (by kernel_rfl) (by kernel_rfl) rfl (by kernel_rfl) (by rw [hal4]; unfold maxLen; omega) (by rw [hal4]; omega) fun B_73 c_74 w_75 a H HP => ?_
  have HP : Hp w w_75 [bx b_71 73 (clL x) true, bx b_3 106 (inCells s (ke, Ee)) true, (rowsR w.heap.size 73 8 clC (fun _ _ => True) (fun _ _ => False) (.slice B_73 (l4.length + 1) c_74) (l4 ++ [x])), (rowsR w.heap.size 47 7 bkC (fun _ _ => True) (fun _ _ => False) (.slice B3 l3.length cc3) l3), (rowsR w.heap.size 43 7 enC (fun (x : Ent) w => x.ok w) Ent.fp (.slice B2 l2.length cc2) l2), (rowsR w.heap.size 38 5 itC (fun _ _ => True) (fun _ _ => False) (.slice B1 l1.length cc1) l1), bx b_5 32 [(ii z0), (ii z1), (ii z2), (ii z3), (.slice A0 sh.length c0), (ii y0), (ii y1), (ii y2), (ii y3), (.slice B1 l1.length cc1), (.slice B2 l2.length cc2), (.slice B3 l3.length cc3), (.slice B4 i4 cc4)] true, bx b_1 32 [(ii 0), (ii 0), (ii 0), (ii 0), (.slice none 0 0), (ii 0), (ii 0), (ii 0), (ii 0), (.slice none 0 0), (.slice none 0 0), (.slice none 0 0), (.slice none 0 0)] true] [rowF 2 altC A0 sh] := HP
  rw [hal4] at H HP
  refine ⟨.inr ((((HP.tail rfl).tail rfl).tail rfl)), ?_⟩
  refine An.p H (.inr ((((HP.tail rfl).tail rfl).tail rfl))) 6 137 (pt b_5 12) fun a H => ?_
  refine An.one 7 (by kernel_rfl) ?_
  refine Op.store H HP 6 b_5 12 1 32 [(ii z0), (ii z1), (ii z2), (ii z3), (.slice A0 sh.length c0), (ii y0), (ii y1), (ii y2), (ii y3), (.slice B1 l1.length cc1), (.slice B2 l2.length cc2), (.slice B3 l3.length cc3), (.slice B4 i4 cc4)] true (.slice B_73 (i4 + 1) c_74) [bx b_71 73 (clL x) true, bx b_3 106 (inCells s (ke, Ee)) true, (rowsR w.heap.size 73 8 clC (fun _ _ => True) (fun _ _ => False) (.slice B_73 (i4 + 1) c_74) (l4 ++ [x])), (rowsR w.heap.size 47 7 bkC (fun _ _ => True) (fun _ _ => False) (.slice B3 l3.length cc3) l3), (rowsR w.heap.size 43 7 enC (fun (x : Ent) w => x.ok w) Ent.fp (.slice B2 l2.length cc2) l2), (rowsR w.heap.size 38 5 itC (fun _ _ => True) (fun _ _ => False) (.slice B1 l1.length cc1) l1), bx b_5 32 [(ii z0), (ii z1), (ii z2), (ii z3), (.slice A0 sh.length c0), (ii y0), (ii y1), (ii y2), (ii y3), (.slice B1 l1.length cc1), (.slice B2 l2.length cc2), (.slice B3 l3.length cc3), (.slice B_73 (i4 + 1) c_74)] true, bx b_1 32 [(ii 0), (ii 0), (ii 0), (ii 0), (.slice none 0 0), (ii 0), (ii 0), (ii 0), (ii 0), (.slice none 0 0), (.slice none 0 0), (.slice none 0 0), (.slice none 0 0)] true] rfl (by kernel_rfl) (by kernel_rfl) (by kernel_rfl) rfl (by kernel_rfl) (by kernel_rfl) (by kernel_rfl) (by kernel_rfl) (by kernel_rfl) fun w_76 a H HP => ?_
  refine ⟨.inl (by kernel_rfl), ?_⟩
  refine An.done (by kernel_rfl) ?_
  refine ibn (tn (rg ?_))
  refine H.v 129 (ii i4) fun a H => H.valE 130 (ii (IntKind.i64.wrap ((i4 : Int) + 1))) (ii ((i4 : Int) + 1)) (by kernel_rfl) (by kernel_rfl) ((by rw [wrap_ini64 _ (by omega)])) fun a H => H.v 12 (ii ((i4 : Int) + 1)) fun a H => ?_
  refine nl (tn ?_)
  have HP := HP.sub2 [2, 3, 4, 5, 6, 1, 7] [(rowsR w.heap.size 73 8 clC (fun _ _ => True) (fun _ _ => False) (.slice B_73 (i4 + 1) c_74) (l4 ++ [x])), (rowsR w.heap.size 47 7 bkC (fun _ _ => True) (fun _ _ => False) (.slice B3 l3.length cc3) l3), (rowsR w.heap.size 43 7 enC (fun (x : Ent) w => x.ok w) Ent.fp (.slice B2 l2.length cc2) l2), (rowsR w.heap.size 38 5 itC (fun _ _ => True) (fun _ _ => False) (.slice B1 l1.length cc1) l1), bx b_5 32 [(ii z0), (ii z1), (ii z2), (ii z3), (.slice A0 sh.length c0), (ii y0), (ii y1), (ii y2), (ii y3), (.slice B1 l1.length cc1), (.slice B2 l2.length cc2), (.slice B3 l3.length cc3), (.slice B_73 (i4 + 1) c_74)] true, bx b_3 106 (inCells s (ke, Ee)) true, bx b_1 32 [(ii 0), (ii 0), (ii 0), (ii 0), (.slice none 0 0), (ii 0), (ii 0), (ii 0), (ii 0), (.slice none 0 0), (.slice none 0 0), (.slice none 0 0), (.slice none 0 0)] true] (by kernel_rfl) (by kernel_rfl) (by simp [bx, rowsR, rowsP])
  have H := H.as 12 (ii ((i4 + 1 : Nat) : Int)) rfl rfl
  refine ⟨_, ?_, i4 + 1, ke, Ee, l4 ++ [x], B_73, c_74, rfl, H.keep (by kernel_rfl), HP, (by omega), (by rw [List.length_append, hal4]; rfl), hke, (li_step hrel4 (by omega) hSx)⟩
  omega
 have g128p := g128
 refine wp_exit (then_exit (then_exit ?_))
 refine w_exit_here ?_
 refine tn (sq (sq ?_))
 have hx4 := and_ff g128
 subst hal4
 have hS4 := li_end (E := Eq4) h16 hrel4 hi4 (by omega)
 have hfin := stg_pl hS0 hS1 hS2 hS3 hS4
 have HP : Hp w w_68 [(rowsR w.heap.size 73 8 clC (fun _ _ => True) (fun _ _ => False) (.slice B4 l4.length cc4) l4), (rowsR w.heap.size 47 7 bkC (fun _ _ => True) (fun _ _ => False) (.slice B3 l3.length cc3) l3), (rowsR w.heap.size 43 7 enC (fun (x : Ent) w => x.ok w) Ent.fp (.slice B2 l2.length cc2) l2), (rowsR w.heap.size 38 5 itC (fun _ _ => True) (fun _ _ => False) (.slice B1 l1.length cc1) l1), bx b_5 32 [(ii z0), (ii z1), (ii z2), (ii z3), (.slice A0 sh.length c0), (ii y0), (ii y1), (ii y2), (ii y3), (.slice B1 l1.length cc1), (.slice B2 l2.length cc2), (.slice B3 l3.length cc3), (.slice B4 l4.length cc4)] true, bx b_3 106 [(.string (bstr s)), (ii kq4), (ii Eq4)] true, bx b_1 32 [(ii 0), (ii 0), (ii 0), (ii 0), (.slice none 0 0), (ii 0), (ii 0), (ii 0), (ii 0), (.slice none 0 0), (.slice none 0 0), (.slice none 0 0), (.slice none 0 0)] true] [rowF 2 altC A0 sh] := HP
 refine rg ?_
 refine H.v 138 (pt b_3 0) fun a H => H.v 139 (pt b_3 0) fun a H => H.v 140 (pt b_3 2) fun a H => H.u 141 (ii Eq4) (ex_l1 (HP.cell 5 rfl 2 rfl)) fun a H => H.v 142 (.bool (Eq4 == 0)) fun a H => H.v 143 (.bool (Eq4 == 0)) fun a H => ?_
 refine H.split 143 rfl (fun g143 H => ?_) (fun g143 H => ?_)
 ·have g143p := eq_of_beq g143
  refine H.v 144 (pt b_3 0) fun a H => H.v 145 (pt b_3 0) fun a H => H.v 146 (pt b_3 1) fun a H => H.u 147 (ii kq4) (ex_l1 (HP.cell 5 rfl 1 rfl)) fun a H => H.v 148 (.string (bstr s)) fun a H => H.v 149 (ii s.length) fun a H => H.v 150 (.bool (decide ((kq4 : Int) < (s.length : Int)))) fun a H => H.v 151 (.bool (decide ((kq4 : Int) < (s.length : Int)))) fun a H => ?_
  refine nl (tn ?_)
  refine w_if H rfl (fun g151 => ?_) (fun g151 => ?_)
  ·have g151p := of_decide_eq_true g151
   refine rg ?_
   refine H.v 152 (pt b_3 0) fun a H => H.v 153 (pt b_3 0) fun a H => H.v 154 (pt b_3 2) fun a H => H.st HP 5 b_3 2 1 106 true (ii 10) [(rowsR w.heap.size 73 8 clC (fun _ _ => True) (fun _ _ => False) (.slice B4 l4.length cc4) l4), (rowsR w.heap.size 47 7 bkC (fun _ _ => True) (fun _ _ => False) (.slice B3 l3.length cc3) l3), (rowsR w.heap.size 43 7 enC (fun (x : Ent) w => x.ok w) Ent.fp (.slice B2 l2.length cc2) l2), (rowsR w.heap.size 38 5 itC (fun _ _ => True) (fun _ _ => False) (.slice B1 l1.length cc1) l1), bx b_5 32 [(ii z0), (ii z1), (ii z2), (ii z3), (.slice A0 sh.length c0), (ii y0), (ii y1), (ii y2), (ii y3), (.slice B1 l1.length cc1), (.slice B2 l2.length cc2), (.slice B3 l3.length cc3), (.slice B4 l4.length cc4)] true, bx b_3 106 [(.string (bstr s)), (ii kq4), (ii 10)] true, bx b_1 32 [(ii 0), (ii 0), (ii 0), (ii 0), (.slice none 0 0), (ii 0), (ii 0), (ii 0), (ii 0), (.slice none 0 0), (.slice none 0 0), (.slice none 0 0), (.slice none 0 0)] true] rfl fun w_77 a H HP => ?_
   refine nl (tn (sq (sq (rg ?_))))
   refine H.v 155 (pt b_3 0) fun a H => H.v 156 (pt b_3 0) fun a H => H.v 157 (pt b_3 2) fun a H => H.u 158 (ii 10) (ex_l1 (HP.cell 5 rfl 2 rfl)) fun a H => H.v 159 (.bool true) fun a H => ?_
   refine nl (tn ?_)
   refine w_ift H rfl ?_
   refine sq ?_
   have HP := HP.front 6 rfl _ rfl
   refine An.start (fun v => Hp w v [(rowsR w.heap.size 73 8 clC (fun _ _ => True) (fun _ _ => False) (.slice B4 l4.length cc4) l4), (rowsR w.heap.size 47 7 bkC (fun _ _ => True) (fun _ _ => False) (.slice B3 l3.length cc3) l3), (rowsR w.heap.size 43 7 enC (fun (x : Ent) w => x.ok w) Ent.fp (.slice B2 l2.length cc2) l2), (rowsR w.heap.size 38 5 itC (fun _ _ => True) (fun _ _ => False) (.slice B1 l1.length cc1) l1), bx b_5 32 [(ii z0), (ii z1), (ii z2), (ii z3), (.slice A0 sh.length c0), (ii y0), (ii y1), (ii y2), (ii y3), (.slice B1 l1.length cc1), (.slice B2 l2.length cc2), (.slice B3 l3.length cc3), (.slice B4 l4.length cc4)] true, bx b_3 106 [(.string (bstr s)), (ii kq4), (ii 10)] true] [rowF 2 altC A0 sh]) 7 7 HP wide_follows rfl fun w_78 HP => ?_
   refine An.q H (.inr ((HP.tail rfl))) 0 160 (.agg #[(ii 0), (ii 0), (ii 0), (ii 0), (.slice none 0 0), (ii 0), (ii 0), (ii 0), (ii 0), (.slice none 0 0), (.slice none 0 0), (.slice none 0 0), (.slice none 0 0)]) (fun _ => by kernel_rfl) fun a H => ?_
   refine An.p H (.inr ((HP.tail rfl))) 1 161 (pt b_3 0) fun a H => ?_
   refine An.p H (.inr ((HP.tail rfl))) 2 162 (pt b_3 0) fun a H => ?_
   refine An.p H (.inr ((HP.tail rfl))) 3 163 (pt b_3 2) fun a H => ?_
   refine An.vw H ((HP.tail rfl)) 4 164 (ii 10) (fun _ hS => ex_l1 (hS.cell 5 rfl 2 rfl)) fun a H => ?_
   refine An.one 5 (by kernel_rfl) ?_
   refine Op.store H HP 0 b_1 0 13 32 [(ii 0), (ii 0), (ii 0), (ii 0), (.slice none 0 0), (ii 0), (ii 0), (ii 0), (ii 0), (.slice none 0 0), (.slice none 0 0), (.slice none 0 0), (.slice none 0 0)] true (.agg #[(ii 0), (ii 0), (ii 0), (ii 0), (.slice none 0 0), (ii 0), (ii 0), (ii 0), (ii 0), (.slice none 0 0), (.slice none 0 0), (.slice none 0 0), (.slice none 0 0)]) [bx b_1 32 [(ii 0), (ii 0), (ii 0), (ii 0), (.slice none 0 0), (ii 0), (ii 0), (ii 0), (ii 0), (.slice none 0 0), (.slice none 0 0), (.slice none 0 0), (.slice none 0 0)] true, (rowsR w.heap.size 73 8 clC (fun _ _ => True) (fun _ _ => False) (.slice B4 l4.length cc4) l4), (rowsR w.heap.size 47 7 bkC (fun _ _ => True) (fun _ _ => False) (.slice B3 l3.length cc3) l3), (rowsR w.heap.size 43 7 enC (fun (x : Ent) w => x.ok w) Ent.fp (.slice B2 l2.length cc2) l2), (rowsR w.heap.size 38 5 itC (fun _ _ => True) (fun _ _ => False) (.slice B1 l1.length cc1) l1), bx b_5 32 [(ii z0), (ii z1), (ii z2), (ii z3), (.slice A0 sh.length c0), (ii y0), (ii y1), (ii y2), (ii y3), (.slice B1 l1.length cc1), (.slice B2 l2.length cc2), (.slice B3 l3.length cc3), (.slice B4 l4.length cc4)] true, bx b_3 106 [(.string (bstr s)), (ii kq4), (ii 10)] true] rfl (by kernel_rfl) (by kernel_rfl) (by kernel_rfl) rfl (by kernel_rfl) (by kernel_rfl) (by kernel_rfl) (by kernel_rfl) (by kernel_rfl) fun w_79 a H HP => ?_
   refine ⟨.inr ((HP.tail rfl)), ?_⟩
   refine An.p H (.inr ((HP.tail rfl))) 6 3 (ii 10) fun a H => ?_
   refine An.done (by kernel_rfl) ?_
   refine tn (rt (tr ?_))
   refine H.ret2 (fn := Tryz.f28) Tryz.results28 (RV.cellN (vs := [(ii 0), (ii 0), (ii 0), (ii 0), (.slice none 0 0), (ii 0), (ii 0), (ii 0), (ii 0), (.slice none 0 0), (.slice none 0 0), (.slice none 0 0), (.slice none 0 0)]) (b := b_1) (off := 0) (k := 13) (by kernel_rfl) (by kernel_rfl) (by kernel_rfl) rfl (HP.cells 0 rfl 0 13 (by kernel_rfl))) (RV.tmp_ (v := (ii 10)) (by kernel_rfl)) ?_
   have hd : decN s = (zeroN, 10) := by unfold decN; rw [hfin.1 (by omega)]; simp only; rw [if_pos (by omega)]
   exact ⟨plZ, by rw [hd] <;> rfl, by rw [hd] <;> rfl, plZ_is _, plZ_fp, HP.bl⟩
  have g151p := of_decide_eq_false g151
  refine sk (tn (sq (sq (rg ?_))))
  refine H.v 155 (pt b_3 0) fun a H => H.v 156 (pt b_3 0) fun a H => H.v 157 (pt b_3 2) fun a H => H.u 158 (ii Eq4) (ex_l1 (HP.cell 5 rfl 2 rfl)) fun a H => H.v 159 (.bool (Eq4 != 0)) fun a H => ?_
  refine nl (tn ?_)
  refine w_if H rfl (fun g159 => ?_) (fun g159 => ?_)
  ·have g159p := bne_iff_ne.1 g159
   refine sq ?_
   have HP := HP.front 6 rfl _ rfl
   refine An.start (fun v => Hp w v [(rowsR w.heap.size 73 8 clC (fun _ _ => True) (fun _ _ => False) (.slice B4 l4.length cc4) l4), (rowsR w.heap.size 47 7 bkC (fun _ _ => True) (fun _ _ => False) (.slice B3 l3.length cc3) l3), (rowsR w.heap.size 43 7 enC (fun (x : Ent) w => x.ok w) Ent.fp (.slice B2 l2.length cc2) l2), (rowsR w.heap.size 38 5 itC (fun _ _ => True) (fun _ _ => False) (.slice B1 l1.length cc1) l1), bx b_5 32 [(ii z0), (ii z1), (ii z2), (ii z3), (.slice A0 sh.length c0), (ii y0), (ii y1), (ii y2), (ii y3), (.slice B1 l1.length cc1), (.slice B2 l2.length cc2), (.slice B3 l3.length cc3), (.slice B4 l4.length cc4)] true, bx b_3 106 [(.string (bstr s)), (ii kq4), (ii Eq4)] true] [rowF 2 altC A0 sh]) 7 7 HP wide_follows rfl fun w_80 HP => ?_
   refine An.q H (.inr ((HP.tail rfl))) 0 160 (.agg #[(ii 0), (ii 0), (ii 0), (ii 0), (.slice none 0 0), (ii 0), (ii 0), (ii 0), (ii 0), (.slice none 0 0), (.slice none 0 0), (.slice none 0 0), (.slice none 0 0)]) (fun _ => by kernel_rfl) fun a H => ?_
   refine An.p H (.inr ((HP.tail rfl))) 1 161 (pt b_3 0) fun a H => ?_
   refine An.p H (.inr ((HP.tail rfl))) 2 162 (pt b_3 0) fun a H => ?_
   refine An.p H (.inr ((HP.tail rfl))) 3 163 (pt b_3 2) fun a H => ?_
   refine An.vw H ((HP.tail rfl)) 4 164 (ii Eq4) (fun _ hS => ex_l1 (hS.cell 5 rfl 2 rfl)) fun a H => ?_
   refine An.one 5 (by kernel_rfl) ?_
   refine Op.store H HP 0 b_1 0 13 32 [(ii 0), (ii 0), (ii 0), (ii 0), (.slice none 0 0), (ii 0), (ii 0), (ii 0), (ii 0), (.slice none 0 0), (.slice none 0 0), (.slice none 0 0), (.slice none 0 0)] true (.agg #[(ii 0), (ii 0), (ii 0), (ii 0), (.slice none 0 0), (ii 0), (ii 0), (ii 0), (ii 0), (.slice none 0 0), (.slice none 0 0), (.slice none 0 0), (.slice none 0 0)]) [bx b_1 32 [(ii 0), (ii 0), (ii 0), (ii 0), (.slice none 0 0), (ii 0), (ii 0), (ii 0), (ii 0), (.slice none 0 0), (.slice none 0 0), (.slice none 0 0), (.slice none 0 0)] true, (rowsR w.heap.size 73 8 clC (fun _ _ => True) (fun _ _ => False) (.slice B4 l4.length cc4) l4), (rowsR w.heap.size 47 7 bkC (fun _ _ => True) (fun _ _ => False) (.slice B3 l3.length cc3) l3), (rowsR w.heap.size 43 7 enC (fun (x : Ent) w => x.ok w) Ent.fp (.slice B2 l2.length cc2) l2), (rowsR w.heap.size 38 5 itC (fun _ _ => True) (fun _ _ => False) (.slice B1 l1.length cc1) l1), bx b_5 32 [(ii z0), (ii z1), (ii z2), (ii z3), (.slice A0 sh.length c0), (ii y0), (ii y1), (ii y2), (ii y3), (.slice B1 l1.length cc1), (.slice B2 l2.length cc2), (.slice B3 l3.length cc3), (.slice B4 l4.length cc4)] true, bx b_3 106 [(.string (bstr s)), (ii kq4), (ii Eq4)] true] rfl (by kernel_rfl) (by kernel_rfl) (by kernel_rfl) rfl (by kernel_rfl) (by kernel_rfl) (by kernel_rfl) (by kernel_rfl) (by kernel_rfl) fun w_81 a H HP => ?_
   refine ⟨.inr ((HP.tail rfl)), ?_⟩
   refine An.p H (.inr ((HP.tail rfl))) 6 3 (ii Eq4) fun a H => ?_
   refine An.done (by kernel_rfl) ?_
   refine tn (rt (tr ?_))
   refine H.ret2 (fn := Tryz.f28) Tryz.results28 (RV.cellN (vs := [(ii 0), (ii 0), (ii 0), (ii 0), (.slice none 0 0), (ii 0), (ii 0), (ii 0), (ii 0), (.slice none 0 0), (.slice none 0 0), (.slice none 0 0), (.slice none 0 0)]) (b := b_1) (off := 0) (k := 13) (by kernel_rfl) (by kernel_rfl) (by kernel_rfl) rfl (HP.cells 0 rfl 0 13 (by kernel_rfl))) (RV.tmp_ (v := (ii Eq4)) (by kernel_rfl)) ?_
   have hd : decN s = (zeroN, Eq4) := by unfold decN; rw [hfin.2 (by omega)]
   exact ⟨plZ, by rw [hd] <;> rfl, by rw [hd] <;> rfl, plZ_is _, plZ_fp, HP.bl⟩
  have g159p := eq_of_bne_false g159
  refine sk (tn (sq (rg ?_)))
  refine H.u 165 (.agg #[(ii z0), (ii z1), (ii z2), (ii z3), (.slice A0 sh.length c0), (ii y0), (ii y1), (ii y2), (ii y3), (.slice B1 l1.length cc1), (.slice B2 l2.length cc2), (.slice B3 l3.length cc3), (.slice B4 l4.length cc4)]) (ex_lN [(ii z0), (ii z1), (ii z2), (ii z3), (.slice A0 sh.length c0), (ii y0), (ii y1), (ii y2), (ii y3), (.slice B1 l1.length cc1), (.slice B2 l2.length cc2), (.slice B3 l3.length cc3), (.slice B4 l4.length cc4)] (HP.cells 4 rfl 0 13 (by kernel_rfl))) fun a H => H.cb HP 166 (Tryz.call15 _ _) (rvalid_any (⟨z0, z1, z2, z3, A0, c0, sh, y0, y1, y2, y3, B1, cc1, l1, B2, cc2, l2, B3, cc3, l3, B4, cc4, l4⟩ : Pln) w_68 (show IsPln _ (⟨z0, z1, z2, z3, A0, c0, sh, y0, y1, y2, y3, B1, cc1, l1, B2, cc2, l2, B3, cc3, l3, B4, cc4, l4⟩ : Pln) from ⟨HP.fact 0 rfl, Rd.of_own (HP.held 3 rfl).1, ⟨Rd.of_own (HP.held 2 rfl).1, fun e he => ((HP.held 2 rfl).2 e he).1⟩, Rd.of_own (HP.held 1 rfl).1, Rd.of_own (HP.held 0 rfl).1, by show sh.length ≤ maxLen; unfold maxLen; omega, by show l1.length ≤ maxLen; unfold maxLen; omega, by show l2.length ≤ maxLen; unfold maxLen; omega, by show l3.length ≤ maxLen; unfold maxLen; omega, by show l4.length ≤ maxLen; unfold maxLen; omega⟩)) fun w_82 hb a H HP => H.v 13 (.bool (validPl (⟨z0, z1, z2, z3, A0, c0, sh, y0, y1, y2, y3, B1, cc1, l1, B2, cc2, l2, B3, cc3, l3, B4, cc4, l4⟩ : Pln))) fun a H => ?_
  refine nl (tn (sq (sq (rg ?_))))
  refine H.v 167 (.bool (validPl (⟨z0, z1, z2, z3, A0, c0, sh, y0, y1, y2, y3, B1, cc1, l1, B2, cc2, l2, B3, cc3, l3, B4, cc4, l4⟩ : Pln))) fun a H => H.v 168 (.bool (!(validPl (⟨z0, z1, z2, z3, A0, c0, sh, y0, y1, y2, y3, B1, cc1, l1, B2, cc2, l2, B3, cc3, l3, B4, cc4, l4⟩ : Pln)))) fun a H => ?_
  refine nl (tn ?_)
  refine w_if H rfl (fun g168 => ?_) (fun g168 => ?_)
  ·have g168p := not_is_true g168
   refine sq (rg ?_)
   refine H.v 169 (.agg #[(ii 0), (ii 0), (ii 0), (ii 0), (.slice none 0 0), (ii 0), (ii 0), (ii 0), (ii 0), (.slice none 0 0), (.slice none 0 0), (.slice none 0 0), (.slice none 0 0)]) fun a H => H.st HP 6 b_1 0 13 32 true (.agg #[(ii 0), (ii 0), (ii 0), (ii 0), (.slice none 0 0), (ii 0), (ii 0), (ii 0), (ii 0), (.slice none 0 0), (.slice none 0 0), (.slice none 0 0), (.slice none 0 0)]) [(rowsR w.heap.size 73 8 clC (fun _ _ => True) (fun _ _ => False) (.slice B4 l4.length cc4) l4), (rowsR w.heap.size 47 7 bkC (fun _ _ => True) (fun _ _ => False) (.slice B3 l3.length cc3) l3), (rowsR w.heap.size 43 7 enC (fun (x : Ent) w => x.ok w) Ent.fp (.slice B2 l2.length cc2) l2), (rowsR w.heap.size 38 5 itC (fun _ _ => True) (fun _ _ => False) (.slice B1 l1.length cc1) l1), bx b_5 32 [(ii z0), (ii z1), (ii z2), (ii z3), (.slice A0 sh.length c0), (ii y0), (ii y1), (ii y2), (ii y3), (.slice B1 l1.length cc1), (.slice B2 l2.length cc2), (.slice B3 l3.length cc3), (.slice B4 l4.length cc4)] true, bx b_3 106 [(.string (bstr s)), (ii kq4), (ii Eq4)] true, bx b_1 32 [(ii 0), (ii 0), (ii 0), (ii 0), (.slice none 0 0), (ii 0), (ii 0), (ii 0), (ii 0), (.slice none 0 0), (.slice none 0 0), (.slice none 0 0), (.slice none 0 0)] true] rfl fun w_83 a H HP => H.v 3 (ii 80) fun a H => ?_
   refine nl (tn (rt (tr ?_)))
   refine H.ret2 (fn := Tryz.f28) Tryz.results28 (RV.cellN (vs := [(ii 0), (ii 0), (ii 0), (ii 0), (.slice none 0 0), (ii 0), (ii 0), (ii 0), (ii 0), (.slice none 0 0), (.slice none 0 0), (.slice none 0 0), (.slice none 0 0)]) (b := b_1) (off := 0) (k := 13) (by kernel_rfl) (by kernel_rfl) (by kernel_rfl) rfl (HP.cells 6 rfl 0 13 (by kernel_rfl))) (RV.tmp_ (v := (ii 80)) (by kernel_rfl)) ?_
   have hd : decN s = (zeroN, 80) := by unfold decN; rw [hfin.1 (by omega)]; simp only; rw [if_neg (by omega), show validN (⟨z0, z1, z2, z3, sh, y0, y1, y2, y3, l1, l2.map Ent.nv, l3, l4⟩ : PlN) = false from (validPl_nv (⟨z0, z1, z2, z3, A0, c0, sh, y0, y1, y2, y3, B1, cc1, l1, B2, cc2, l2, B3, cc3, l3, B4, cc4, l4⟩ : Pln)).symm.trans (by assumption)] <;> rfl
   exact ⟨plZ, by rw [hd] <;> rfl, by rw [hd] <;> rfl, plZ_is _, plZ_fp, HP.bl⟩
  have g168p := not_is_false g168
  refine sk (tn (sq (rg ?_)))
  refine H.u 170 (.agg #[(ii z0), (ii z1), (ii z2), (ii z3), (.slice A0 sh.length c0), (ii y0), (ii y1), (ii y2), (ii y3), (.slice B1 l1.length cc1), (.slice B2 l2.length cc2), (.slice B3 l3.length cc3), (.slice B4 l4.length cc4)]) (ex_lN [(ii z0), (ii z1), (ii z2), (ii z3), (.slice A0 sh.length c0), (ii y0), (ii y1), (ii y2), (ii y3), (.slice B1 l1.length cc1), (.slice B2 l2.length cc2), (.slice B3 l3.length cc3), (.slice B4 l4.length cc4)] (HP.cells 4 rfl 0 13 (by kernel_rfl))) fun a H => H.st HP 6 b_1 0 13 32 true (.agg #[(ii z0), (ii z1), (ii z2), (ii z3), (.slice A0 sh.length c0), (ii y0), (ii y1), (ii y2), (ii y3), (.slice B1 l1.length cc1), (.slice B2 l2.length cc2), (.slice B3 l3.length cc3), (.slice B4 l4.length cc4)]) [(rowsR w.heap.size 73 8 clC (fun _ _ => True) (fun _ _ => False) (.slice B4 l4.length cc4) l4), (rowsR w.heap.size 47 7 bkC (fun _ _ => True) (fun _ _ => False) (.slice B3 l3.length cc3) l3), (rowsR w.heap.size 43 7 enC (fun (x : Ent) w => x.ok w) Ent.fp (.slice B2 l2.length cc2) l2), (rowsR w.heap.size 38 5 itC (fun _ _ => True) (fun _ _ => False) (.slice B1 l1.length cc1) l1), bx b_5 32 [(ii z0), (ii z1), (ii z2), (ii z3), (.slice A0 sh.length c0), (ii y0), (ii y1), (ii y2), (ii y3), (.slice B1 l1.length cc1), (.slice B2 l2.length cc2), (.slice B3 l3.length cc3), (.slice B4 l4.length cc4)] true, bx b_3 106 [(.string (bstr s)), (ii kq4), (ii Eq4)] true, bx b_1 32 [(ii z0), (ii z1), (ii z2), (ii z3), (.slice A0 sh.length c0), (ii y0), (ii y1), (ii y2), (ii y3), (.slice B1 l1.length cc1), (.slice B2 l2.length cc2), (.slice B3 l3.length cc3), (.slice B4 l4.length cc4)] true] rfl fun w_84 a H HP => H.v 3 (ii 0) fun a H => ?_
  refine nl (tn (rt ?_))
  refine H.ret2 (fn := Tryz.f28) Tryz.results28 (RV.cellN (vs := [(ii z0), (ii z1), (ii z2), (ii z3), (.slice A0 sh.length c0), (ii y0), (ii y1), (ii y2), (ii y3), (.slice B1 l1.length cc1), (.slice B2 l2.length cc2), (.slice B3 l3.length cc3), (.slice B4 l4.length cc4)]) (b := b_1) (off := 0) (k := 13) (by kernel_rfl) (by kernel_rfl) (by kernel_rfl) rfl (HP.cells 6 rfl 0 13 (by kernel_rfl))) (RV.tmp_ (v := (ii 0)) (by kernel_rfl)) ?_
  have hd : decN s = ((⟨z0, z1, z2, z3, A0, c0, sh, y0, y1, y2, y3, B1, cc1, l1, B2, cc2, l2, B3, cc3, l3, B4, cc4, l4⟩ : Pln).nv, 0) := by unfold decN; rw [hfin.1 (by omega)]; simp only; rw [if_neg (by omega), show validN (⟨z0, z1, z2, z3, sh, y0, y1, y2, y3, l1, l2.map Ent.nv, l3, l4⟩ : PlN) = true from (validPl_nv (⟨z0, z1, z2, z3, A0, c0, sh, y0, y1, y2, y3, B1, cc1, l1, B2, cc2, l2, B3, cc3, l3, B4, cc4, l4⟩ : Pln)).symm.trans (by assumption)] <;> rfl
  have hip := (show IsPln _ (⟨z0, z1, z2, z3, A0, c0, sh, y0, y1, y2, y3, B1, cc1, l1, B2, cc2, l2, B3, cc3, l3, B4, cc4, l4⟩ : Pln) from ⟨HP.fact 0 rfl, Rd.of_own (HP.held 3 rfl).1, ⟨Rd.of_own (HP.held 2 rfl).1, fun e he => ((HP.held 2 rfl).2 e he).1⟩, Rd.of_own (HP.held 1 rfl).1, Rd.of_own (HP.held 0 rfl).1, by show sh.length ≤ maxLen; unfold maxLen; omega, by show l1.length ≤ maxLen; unfold maxLen; omega, by show l2.length ≤ maxLen; unfold maxLen; omega, by show l3.length ≤ maxLen; unfold maxLen; omega, by show l4.length ≤ maxLen; unfold maxLen; omega⟩)
  refine ⟨(⟨z0, z1, z2, z3, A0, c0, sh, y0, y1, y2, y3, B1, cc1, l1, B2, cc2, l2, B3, cc3, l3, B4, cc4, l4⟩ : Pln), by rw [hd] <;> rfl, by rw [hd], hip, ?_, HP.bl⟩
  rintro j (hj | hj | hj | hj | hj)
  ·exact Nat.le_trans hsz0 (hnew0 j hj)
  ·exact flat_new (HP.held 3 rfl) j hj
  ·exact en_new (HP.held 2 rfl) (HP.fresh _ (List.mem_of_getElem? (i := 2) rfl) rfl) j hj
  ·exact flat_new (HP.held 1 rfl) j hj
  exact flat_new (HP.held 0 rfl) j hj
 have g143p := ne_of_beq_false g143
 iterate 7 refine H.sx rfl fun a H => ?_
 refine H.v 151 (.bool false) fun a H => ?_
 refine nl (tn ?_)
 refine w_iff H rfl ?_
 refine sk (tn (sq (sq (rg ?_))))
 refine H.v 155 (pt b_3 0) fun a H => H.v 156 (pt b_3 0) fun a H => H.v 157 (pt b_3 2) fun a H => H.u 158 (ii Eq4) (ex_l1 (HP.cell 5 rfl 2 rfl)) fun a H => H.v 159 (.bool (Eq4 != 0)) fun a H => ?_
 refine nl (tn ?_)
 refine w_if H rfl (fun g159 => ?_) (fun g159 => ?_)
 ·have g159p := bne_iff_ne.1 g159
  refine sq ?_
  have HP := HP.front 6 rfl _ rfl
  refine An.start (fun v => Hp w v [(rowsR w.heap.size 73 8 clC (fun _ _ => True) (fun _ _ => False) (.slice B4 l4.length cc4) l4), (rowsR w.heap.size 47 7 bkC (fun _ _ => True) (fun _ _ => False) (.slice B3 l3.length cc3) l3), (rowsR w.heap.size 43 7 enC (fun (x : Ent) w => x.ok w) Ent.fp (.slice B2 l2.length cc2) l2), (rowsR w.heap.size 38 5 itC (fun _ _ => True) (fun _ _ => False) (.slice B1 l1.length cc1) l1), bx b_5 32 [(ii z0), (ii z1), (ii z2), (ii z3), (.slice A0 sh.length c0), (ii y0), (ii y1), (ii y2), (ii y3), (.slice B1 l1.length cc1), (.slice B2 l2.length cc2), (.slice B3 l3.length cc3), (.slice B4 l4.length cc4)] true, bx b_3 106 [(.string (bstr s)), (ii kq4), (ii Eq4)] true] [rowF 2 altC A0 sh]) 7 7 HP wide_follows rfl fun w_85 HP => ?_
  refine An.q H (.inr ((HP.tail rfl))) 0 160 (.agg #[(ii 0), (ii 0), (ii 0), (ii 0), (.slice none 0 0), (ii 0), (ii 0), (ii 0), (ii 0), (.slice none 0 0), (.slice none 0 0), (.slice none 0 0), (.slice none 0 0)]) (fun _ => by kernel_rfl) fun a H => ?_
  refine An.p H (.inr ((HP.tail rfl))) 1 161 (pt b_3 0) fun a H => ?_
  refine An.p H (.inr ((HP.tail rfl))) 2 162 (pt b_3 0) fun a H => ?_
  refine An.p H (.inr ((HP.tail rfl))) 3 163 (pt b_3 2) fun a H => ?_
  refine An.vw H ((HP.tail rfl)) 4 164 (ii Eq4) (fun _ hS => ex_l1 (hS.cell 5 rfl 2 rfl)) fun a H => ?_
  refine An.one 5 (by kernel_rfl) ?_
  refine Op.store H HP 0 b_1 0 13 32 [(ii 0), (ii 0), (ii 0), (ii 0), (.slice none 0 0), (ii 0), (ii 0), (ii 0), (ii 0), (.slice none 0 0), (.slice none 0 0), (.slice none 0 0), (.slice none 0 0)] true (.agg #[(ii 0), (ii 0), (ii 0), (ii 0), (.slice none 0 0), (ii 0), (ii 0), (ii 0), (ii 0), (.slice none 0 0), (.slice none 0 0), (.slice none 0 0), (.slice none 0 0)]) [bx b_1 32 [(ii 0), (ii 0), (ii 0), (ii 0), (.slice none 0 0), (ii 0), (ii 0), (ii 0), (ii 0), (.slice none 0 0), (.slice none 0 0), (.slice none 0 0), (.slice none 0 0)] true, (rowsR w.heap.size 73 8 clC (fun _ _ => True) (fun _ _ => False) (.slice B4 l4.length cc4) l4), (rowsR w.heap.size 47 7 bkC (fun _ _ => True) (fun _ _ => False) (.slice B3 l3.length cc3) l3), (rowsR w.heap.size 43 7 enC (fun (x : Ent) w => x.ok w) Ent.fp (.slice B2 l2.length cc2) l2), (rowsR w.heap.size 38 5 itC (fun _ _ => True) (fun _ _ => False) (.slice B1 l1.length cc1) l1), bx b_5 32 [(ii z0), (ii z1), (ii z2), (ii z3), (.slice A0 sh.length c0), (ii y0), (ii y1), (ii y2), (ii y3), (.slice B1 l1.length cc1), (.slice B2 l2.length cc2), (.slice B3 l3.length cc3), (.slice B4 l4.length cc4)] true, bx b_3 106 [(.string (bstr s)), (ii kq4), (ii Eq4)] true] rfl (by kernel_rfl) (by kernel_rfl) (by kernel_rfl) rfl (by kernel_rfl) (by kernel_rfl) (by kernel_rfl) (by kernel_rfl) (by kernel_rfl) fun w_86 a H HP => ?_
  refine ⟨.inr ((HP.tail rfl)), ?_⟩
  refine An.p H (.inr ((HP.tail rfl))) 6 3 (ii Eq4) fun a H => ?_
  refine An.done (by kernel_rfl) ?_
  refine tn (rt (tr ?_))
  refine H.ret2 (fn := Tryz.f28) Tryz.results28 (RV.cellN (vs := [(ii 0), (ii 0), (ii 0), (ii 0), (.slice none 0 0), (ii 0), (ii 0), (ii 0), (ii 0), (.slice none 0 0), (.slice none 0 0), (.slice none 0 0), (.slice none 0 0)]) (b := b_1) (off := 0) (k := 13) (by kernel_rfl) (by kernel_rfl) (by kernel_rfl) rfl (HP.cells 0 rfl 0 13 (by kernel_rfl))) (RV.tmp_ (v := (ii Eq4)) (by kernel_rfl)) ?_
  have hd : decN s = (zeroN, Eq4) := by unfold decN; rw [hfin.2 (by omega)]
  exact ⟨plZ, by rw [hd] <;> rfl, by rw [hd] <;> rfl, plZ_is _, plZ_fp, HP.bl⟩
 have g159p := eq_of_bne_false g159
 refine sk (tn (sq (rg ?_)))
 refine H.u 165 (.agg #[(ii z0), (ii z1), (ii z2), (ii z3), (.slice A0 sh.length c0), (ii y0), (ii y1), (ii y2), (ii y3), (.slice B1 l1.length cc1), (.slice B2 l2.length cc2), (.slice B3 l3.length cc3), (.slice B4 l4.length cc4)]) (ex_lN [(ii z0), (ii z1), (ii z2), (ii z3), (.slice A0 sh.length c0), (ii y0), (ii y1), (ii y2), (ii y3), (.slice B1 l1.length cc1), (.slice B2 l2.length cc2), (.slice B3 l3.length cc3), (.slice B4 l4.length cc4)] (HP.cells 4 rfl 0 13 (by kernel_rfl))) fun a H => H.cb HP 166 (Tryz.call15 _ _) (rvalid_any (⟨z0, z1, z2, z3, A0, c0, sh, y0, y1, y2, y3, B1, cc1, l1, B2, cc2, l2, B3, cc3, l3, B4, cc4, l4⟩ : Pln) w_68 (show IsPln _ (⟨z0, z1, z2, z3, A0, c0, sh, y0, y1, y2, y3, B1, cc1, l1, B2, cc2, l2, B3, cc3, l3, B4, cc4, l4⟩ : Pln) from ⟨HP.fact 0 rfl, Rd.of_own (HP.held 3 rfl).1, ⟨Rd.of_own (HP.held 2 rfl).1, fun e he => ((HP.held 2 rfl).2 e he).1⟩, Rd.of_own (HP.held 1 rfl).1, Rd.of_own (HP.held 0 rfl).1, by show sh.length ≤ maxLen; unfold maxLen; omega, by show l1.length ≤ maxLen; unfold maxLen; omega, by show l2.length ≤ maxLen; unfold maxLen; omega, by show l3.length ≤ maxLen; unfold maxLen; omega, by show l4.length ≤ maxLen; unfold maxLen; omega⟩)) fun w_87 hb a H HP => H.v 13 (.bool (validPl (⟨z0, z1, z2, z3, A0, c0, sh, y0, y1, y2, y3, B1, cc1, l1, B2, cc2, l2, B3, cc3, l3, B4, cc4, l4⟩ : Pln))) fun a H => ?_
 refine nl (tn (sq (sq (rg ?_))))
 refine H.v 167 (.bool (validPl (⟨z0, z1, z2, z3, A0, c0, sh, y0, y1, y2, y3, B1, cc1, l1, B2, cc2, l2, B3, cc3, l3, B4, cc4, l4⟩ : Pln))) fun a H => H.v 168 (.bool (!(validPl (⟨z0, z1, z2, z3, A0, c0, sh, y0, y1, y2, y3, B1, cc1, l1, B2, cc2, l2, B3, cc3, l3, B4, cc4, l4⟩ : Pln)))) fun a H => ?_
 refine nl (tn ?_)
 refine w_if H rfl (fun g168 => ?_) (fun g168 => ?_)
 ·have g168p := not_is_true g168
  refine sq (rg ?_)
  refine H.v 169 (.agg #[(ii 0), (ii 0), (ii 0), (ii 0), (.slice none 0 0), (ii 0), (ii 0), (ii 0), (ii 0), (.slice none 0 0), (.slice none 0 0), (.slice none 0 0), (.slice none 0 0)]) fun a H => H.st HP 6 b_1 0 13 32 true (.agg #[(ii 0), (ii 0), (ii 0), (ii 0), (.slice none 0 0), (ii 0), (ii 0), (ii 0), (ii 0), (.slice none 0 0), (.slice none 0 0), (.slice none 0 0), (.slice none 0 0)]) [(rowsR w.heap.size 73 8 clC (fun _ _ => True) (fun _ _ => False) (.slice B4 l4.length cc4) l4), (rowsR w.heap.size 47 7 bkC (fun _ _ => True) (fun _ _ => False) (.slice B3 l3.length cc3) l3), (rowsR w.heap.size 43 7 enC (fun (x : Ent) w => x.ok w) Ent.fp (.slice B2 l2.length cc2) l2), (rowsR w.heap.size 38 5 itC (fun _ _ => True) (fun _ _ => False) (.slice B1 l1.length cc1) l1), bx b_5 32 [(ii z0), (ii z1), (ii z2), (ii z3), (.slice A0 sh.length c0), (ii y0), (ii y1), (ii y2), (ii y3), (.slice B1 l1.length cc1), (.slice B2 l2.length cc2), (.slice B3 l3.length cc3), (.slice B4 l4.length cc4)] true, bx b_3 106 [(.string (bstr s)), (ii kq4), (ii Eq4)] true, bx b_1 32 [(ii 0), (ii 0), (ii 0), (ii 0), (.slice none 0 0), (ii 0), (ii 0), (ii 0), (ii 0), (.slice none 0 0), (.slice none 0 0), (.slice none 0 0), (.slice none 0 0)] true] rfl fun w_88 a H HP => H.v 3 (ii 80) fun a H => ?_
  refine nl (tn (rt (tr ?_)))
  refine H.ret2 (fn := Tryz.f28) Tryz.results28 (RV.cellN (vs := [(ii 0), (ii 0), (ii 0), (ii 0), (.slice none 0 0), (ii 0), (ii 0), (ii 0), (ii 0), (.slice none 0 0), (.slice none 0 0), (.slice none 0 0), (.slice none 0 0)]) (b := b_1) (off := 0) (k := 13) (by kernel_rfl) (by kernel_rfl) (by kernel_rfl) rfl (HP.cells 6 rfl 0 13 (by kernel_rfl))) (RV.tmp_ (v := (ii 80)) (by kernel_rfl)) ?_
  have hd : decN s = (zeroN, 80) := by unfold decN; rw [hfin.1 (by omega)]; simp only; rw [if_neg (by omega), show validN (⟨z0, z1, z2, z3, sh, y0, y1, y2, y3, l1, l2.map Ent.nv, l3, l4⟩ : PlN) = false from (validPl_nv (⟨z0, z1, z2, z3, A0, c0, sh, y0, y1, y2, y3, B1, cc1, l1, B2, cc2, l2, B3, cc3, l3, B4, cc4, l4⟩ : Pln)).symm.trans (by assumption)] <;> rfl
  exact ⟨plZ, by rw [hd] <;> rfl, by rw [hd] <;> rfl, plZ_is _, plZ_fp, HP.bl⟩
 have g168p := not_is_false g168
 refine sk (tn (sq (rg ?_)))
 refine H.u 170 (.agg #[(ii z0), (ii z1), (ii z2), (ii z3), (.slice A0 sh.length c0), (ii y0), (ii y1), (ii y2), (ii y3), (.slice B1 l1.length cc1), (.slice B2 l2.length cc2), (.slice B3 l3.length cc3), (.slice B4 l4.length cc4)]) (ex_lN [(ii z0), (ii z1), (ii z2), (ii z3), (.slice A0 sh.length c0), (ii y0), (ii y1), (ii y2), (ii y3), (.slice B1 l1.length cc1), (.slice B2 l2.length cc2), (.slice B3 l3.length cc3), (.slice B4 l4.length cc4)] (HP.cells 4 rfl 0 13 (by kernel_rfl))) fun a H => H.st HP 6 b_1 0 13 32 true (.agg #[(ii z0), (ii z1), (ii z2), (ii z3), (.slice A0 sh.length c0), (ii y0), (ii y1), (ii y2), (ii y3), (.slice B1 l1.length cc1), (.slice B2 l2.length cc2), (.slice B3 l3.length cc3), (.slice B4 l4.length cc4)]) [(rowsR w.heap.size 73 8 clC (fun _ _ => True) (fun _ _ => False) (.slice B4 l4.length cc4) l4), (rowsR w.heap.size 47 7 bkC (fun _ _ => True) (fun _ _ => False) (.slice B3 l3.length cc3) l3), (rowsR w.heap.size 43 7 enC (fun (x : Ent) w => x.ok w) Ent.fp (.slice B2 l2.length cc2) l2), (rowsR w.heap.size 38 5 itC (fun _ _ => True) (fun _ _ => False) (.slice B1 l1.length cc1) l1), bx b_5 32 [(ii z0), (ii z1), (ii z2), (ii z3), (.slice A0 sh.length c0), (ii y0), (ii y1), (ii y2), (ii y3), (.slice B1 l1.length cc1), (.slice B2 l2.length cc2), (.slice B3 l3.length cc3), (.slice B4 l4.length cc4)] true, bx b_3 106 [(.string (bstr s)), (ii kq4), (ii Eq4)] true, bx b_1 32 [(ii z0), (ii z1), (ii z2), (ii z3), (.slice A0 sh.length c0), (ii y0), (ii y1), (ii y2), (ii y3), (.slice B1 l1.length cc1), (.slice B2 l2.length cc2), (.slice B3 l3.length cc3), (.slice B4 l4.length cc4)] true] rfl fun w_89 a H HP => H.v 3 (ii 0) fun a H => ?_
 refine nl (tn (rt ?_))
 refine H.ret2 (fn := Tryz.f28) Tryz.results28 (RV.cellN (vs := [(ii z0), (ii z1), (ii z2), (ii z3), (.slice A0 sh.length c0), (ii y0), (ii y1), (ii y2), (ii y3), (.slice B1 l1.length cc1), (.slice B2 l2.length cc2), (.slice B3 l3.length cc3), (.slice B4 l4.length cc4)]) (b := b_1) (off := 0) (k := 13) (by kernel_rfl) (by kernel_rfl) (by kernel_rfl) rfl (HP.cells 6 rfl 0 13 (by kernel_rfl))) (RV.tmp_ (v := (ii 0)) (by kernel_rfl)) ?_
 have hd : decN s = ((⟨z0, z1, z2, z3, A0, c0, sh, y0, y1, y2, y3, B1, cc1, l1, B2, cc2, l2, B3, cc3, l3, B4, cc4, l4⟩ : Pln).nv, 0) := by unfold decN; rw [hfin.1 (by omega)]; simp only; rw [if_neg (by omega), show validN (⟨z0, z1, z2, z3, sh, y0, y1, y2, y3, l1, l2.map Ent.nv, l3, l4⟩ : PlN) = true from (validPl_nv (⟨z0, z1, z2, z3, A0, c0, sh, y0, y1, y2, y3, B1, cc1, l1, B2, cc2, l2, B3, cc3, l3, B4, cc4, l4⟩ : Pln)).symm.trans (by assumption)] <;> rfl
 have hip := (show IsPln _ (⟨z0, z1, z2, z3, A0, c0, sh, y0, y1, y2, y3, B1, cc1, l1, B2, cc2, l2, B3, cc3, l3, B4, cc4, l4⟩ : Pln) from ⟨HP.fact 0 rfl, Rd.of_own (HP.held 3 rfl).1, ⟨Rd.of_own (HP.held 2 rfl).1, fun e he => ((HP.held 2 rfl).2 e he).1⟩, Rd.of_own (HP.held 1 rfl).1, Rd.of_own (HP.held 0 rfl).1, by show sh.length ≤ maxLen; unfold maxLen; omega, by show l1.length ≤ maxLen; unfold maxLen; omega, by show l2.length ≤ maxLen; unfold maxLen; omega, by show l3.length ≤ maxLen; unfold maxLen; omega, by show l4.length ≤ maxLen; unfold maxLen; omega⟩)
 refine ⟨(⟨z0, z1, z2, z3, A0, c0, sh, y0, y1, y2, y3, B1, cc1, l1, B2, cc2, l2, B3, cc3, l3, B4, cc4, l4⟩ : Pln), by rw [hd] <;> rfl, by rw [hd], hip, ?_, HP.bl⟩
 rintro j (hj | hj | hj | hj | hj)
 ·exact Nat.le_trans hsz0 (hnew0 j hj)
 ·exact flat_new (HP.held 3 rfl) j hj
 ·exact en_new (HP.held 2 rfl) (HP.fresh _ (List.mem_of_getElem? (i := 2) rfl) rfl) j hj
 ·exact flat_new (HP.held 1 rfl) j hj
 exact flat_new (HP.held 0 rfl) j hj
theorem rdInt_ext {l r : List UInt8} {k e : Nat} {n : Int} (hk : k ≤ l.length) (h : rdInt l k = some (n, e)) : rdInt (l ++ r) k = some (n, e) := by
  obtain ⟨h1, h2, h3, h4, h5⟩ := rdInt_canon hk h
  have e1 : l ++ r = l.take k ++ encInt n ++ (l.drop e ++ r) := by
    rw [List.append_assoc, ← List.append_assoc (encInt n), ← h5, ← List.append_assoc, List.take_append_drop]
  have := rdInt_enc (l.take k) (l.drop e ++ r) n h1 h2
  rw [← e1, List.length_take, Nat.min_eq_left hk] at this
  rw [this, h3]
structure Good {α : Type} (X : List UInt8 → Nat → RdR α) (en : α → List Int) (ok : α → Prop) : Prop where
  sound : ∀ s k x k1, k ≤ s.length → X s k = .ok (x, k1) → k ≤ k1 ∧ k1 ≤ s.length ∧ s.drop k = encInts (en x) ++ s.drop k1
  ext : ∀ t u k r, k ≤ t.length → X t k = .ok r → X (t ++ u) k = .ok r
  ext8 : ∀ t u k, k ≤ t.length → X t k = .error 80 → X (t ++ u) k = .error 80
  err : ∀ s k E, X s k = .error E → E = 10 ∨ E = 80
  full : ∀ x a b, ok x → X (a ++ encInts (en x) ++ b) a.length = .ok (x, a.length + (encInts (en x)).length)
theorem good_N : ∀ m : Nat, Good (fun s k => rdN s m k) (fun l => l) (fun l => l.length = m ∧ ∀ z ∈ l, inW z)
  | 0 => ⟨fun s k x k1 hk h => by simp only [rdN, Except.ok.injEq, Prod.mk.injEq] at h; obtain ⟨rfl, rfl⟩ := h; exact ⟨Nat.le_refl _, hk, rfl⟩,
      fun t u k r _ h => h, fun t u k _ h => by simp [rdN] at h, fun s k E h => by simp [rdN] at h,
      fun x a b h => by obtain ⟨rfl⟩ := List.length_eq_zero_iff.1 h.1; rfl⟩
  | m + 1 => by
    have ih := good_N m
    refine ⟨fun s k x k1 hk h => ?_, fun t u k r hk h => ?_, fun t u k hk h => ?_, fun s k E h => ?_, fun x a b h => ?_⟩
    · simp only [rdN] at h
      cases hr : rdInt s k with
      | none => rw [hr] at h; cases h
      | some p =>
        rw [hr] at h
        simp only at h
        cases hm : rdN s m p.2 with
        | error e => rw [hm] at h; cases h
        | ok q =>
          rw [hm] at h
          simp only [Except.ok.injEq, Prod.mk.injEq] at h
          obtain ⟨rfl, rfl⟩ := h
          obtain ⟨_, _, g3, g4, g5⟩ := rdInt_canon hk hr
          obtain ⟨i1, i2, i3⟩ := ih.sound s p.2 q.1 q.2 g4 hm
          exact ⟨by omega, i2, by rw [g5, i3, encInts_cons, List.append_assoc]⟩
    · simp only [rdN] at h ⊢
      cases hr : rdInt t k with
      | none => rw [hr] at h; cases h
      | some p =>
        rw [hr] at h
        rw [rdInt_ext hk hr]
        simp only at h ⊢
        cases hm : rdN t m p.2 with
        | error e => rw [hm] at h; cases h
        | ok q =>
          rw [hm] at h
          rw [ih.ext t u p.2 q (rdInt_lt hk hr).2 hm]
          exact h
    · simp only [rdN] at h ⊢
      cases hr : rdInt t k with
      | none => rw [hr] at h; cases h
      | some p =>
        rw [hr] at h
        rw [rdInt_ext hk hr]
        simp only at h ⊢
        cases hm : rdN t m p.2 with
        | error e =>
          rw [hm] at h
          simp only [Except.error.injEq] at h
          subst h
          rw [ih.ext8 t u p.2 (rdInt_lt hk hr).2 hm]
        | ok q => rw [hm] at h; cases h
    · simp only [rdN] at h
      cases hr : rdInt s k with
      | none => rw [hr] at h; simp only [Except.error.injEq] at h; exact .inl h.symm
      | some p =>
        rw [hr] at h
        simp only at h
        cases hm : rdN s m p.2 with
        | error e => rw [hm] at h; simp only [Except.error.injEq] at h; subst h; exact ih.err s p.2 e hm
        | ok q => rw [hm] at h; cases h
    · obtain ⟨hl, hz⟩ := h
      cases x with
      | nil => simp at hl
      | cons z l =>
        have hz1 := hz z (List.mem_cons_self ..)
        have h1 := rdInt_enc a (encInts l ++ b) z hz1.1 hz1.2
        have e1 : a ++ encInts (z :: l) ++ b = a ++ encInt z ++ (encInts l ++ b) := by rw [encInts_cons]; simp only [List.append_assoc]
        have e2 : a ++ encInts (z :: l) ++ b = (a ++ encInt z) ++ encInts l ++ b := by rw [encInts_cons]; simp only [List.append_assoc]
        have h2 := ih.full l (a ++ encInt z) b ⟨by simpa using hl, fun y hy => hz y (List.mem_cons_of_mem _ hy)⟩
        simp only [rdN]
        rw [e1, h1]
        simp only
        rw [← e1, e2]
        rw [List.length_append] at h2
        rw [h2, encInts_cons, List.length_append]
        simp only [Except.ok.injEq, Prod.mk.injEq, true_and]
        omega
theorem good_M {α : Type} {f : List Int → α} {m : Nat} {g : α → List Int} (hg : ∀ l, l.length = m → g (f l) = l) (hf : ∀ x, f (g x) = x) (hl : ∀ x, (g x).length = m) : Good (fun s k => rdM f s m k) g (fun x => ∀ z ∈ g x, inW z) := by
  have ih := good_N m
  refine ⟨fun s k x k1 hk h => ?_, fun t u k r hk h => ?_, fun t u k hk h => ?_, fun s k E h => ?_, fun x a b h => ?_⟩
  · simp only [rdM] at h
    cases hm : rdN s m k with
    | error e => rw [hm] at h; cases h
    | ok q =>
      rw [hm] at h
      simp only [Except.ok.injEq, Prod.mk.injEq] at h
      obtain ⟨rfl, rfl⟩ := h
      rw [hg _ (rdN_len hm)]
      exact ih.sound s k q.1 q.2 hk hm
  · simp only [rdM] at h ⊢
    cases hm : rdN t m k with
    | error e => rw [hm] at h; cases h
    | ok q => rw [hm] at h; rw [ih.ext t u k q hk hm]; exact h
  · simp only [rdM] at h ⊢
    cases hm : rdN t m k with
    | error e => rw [hm] at h; simp only [Except.error.injEq] at h; subst h; rw [ih.ext8 t u k hk hm]
    | ok q => rw [hm] at h; cases h
  · simp only [rdM] at h
    cases hm : rdN s m k with
    | error e => rw [hm] at h; simp only [Except.error.injEq] at h; subst h; exact ih.err s k e hm
    | ok q => rw [hm] at h; cases h
  · have := ih.full (g x) a b ⟨hl x, h⟩
    simp only [rdM]
    rw [this]
    simp only [hf]
section
variable {α : Type} {X : List UInt8 → Nat → RdR α} {en : α → List Int} {ok : α → Prop}
theorem good_L (hX : Good X en ok) : ∀ m : Nat, Good (fun s k => rdL (X s) m k) (fun l => l.flatMap en) (fun l => l.length = m ∧ ∀ x ∈ l, ok x)
  | 0 => ⟨fun s k x k1 hk h => by simp only [rdL, Except.ok.injEq, Prod.mk.injEq] at h; obtain ⟨rfl, rfl⟩ := h; exact ⟨Nat.le_refl _, hk, rfl⟩,
      fun t u k r _ h => h, fun t u k _ h => by simp [rdL] at h, fun s k E h => by simp [rdL] at h,
      fun x a b h => by obtain ⟨rfl⟩ := List.length_eq_zero_iff.1 h.1; rfl⟩
  | m + 1 => by
    have ih := good_L hX m
    refine ⟨fun s k x k1 hk h => ?_, fun t u k r hk h => ?_, fun t u k hk h => ?_, fun s k E h => ?_, fun x a b h => ?_⟩
    · simp only [rdL] at h
      cases hr : X s k with
      | error e => rw [hr] at h; cases h
      | ok p =>
        rw [hr] at h
        simp only at h
        cases hm : rdL (X s) m p.2 with
        | error e => rw [hm] at h; cases h
        | ok q =>
          rw [hm] at h
          simp only [Except.ok.injEq, Prod.mk.injEq] at h
          obtain ⟨rfl, rfl⟩ := h
          obtain ⟨g1, g2, g3⟩ := hX.sound s k p.1 p.2 hk hr
          obtain ⟨i1, i2, i3⟩ := ih.sound s p.2 q.1 q.2 g2 hm
          exact ⟨by omega, i2, by rw [g3, i3, List.flatMap_cons, encInts_append, List.append_assoc]⟩
    · simp only [rdL] at h ⊢
      cases hr : X t k with
      | error e => rw [hr] at h; cases h
      | ok p =>
        rw [hr] at h
        rw [hX.ext t u k p hk hr]
        simp only at h ⊢
        cases hm : rdL (X t) m p.2 with
        | error e => rw [hm] at h; cases h
        | ok q =>
          rw [hm] at h
          rw [ih.ext t u p.2 q (hX.sound t k p.1 p.2 hk hr).2.1 hm]
          exact h
    · simp only [rdL] at h ⊢
      cases hr : X t k with
      | error e => rw [hr] at h; simp only [Except.error.injEq] at h; subst h; rw [hX.ext8 t u k hk hr]
      | ok p =>
        rw [hr] at h
        rw [hX.ext t u k p hk hr]
        simp only at h ⊢
        cases hm : rdL (X t) m p.2 with
        | error e =>
          rw [hm] at h
          simp only [Except.error.injEq] at h
          subst h
          rw [ih.ext8 t u p.2 (hX.sound t k p.1 p.2 hk hr).2.1 hm]
        | ok q => rw [hm] at h; cases h
    · simp only [rdL] at h
      cases hr : X s k with
      | error e => rw [hr] at h; simp only [Except.error.injEq] at h; subst h; exact hX.err s k e hr
      | ok p =>
        rw [hr] at h
        simp only at h
        cases hm : rdL (X s) m p.2 with
        | error e => rw [hm] at h; simp only [Except.error.injEq] at h; subst h; exact ih.err s p.2 e hm
        | ok q => rw [hm] at h; cases h
    · obtain ⟨hl, hz⟩ := h
      cases x with
      | nil => simp at hl
      | cons y l =>
        have h1 := hX.full y a (encInts (l.flatMap en) ++ b) (hz y (List.mem_cons_self ..))
        have e1 : a ++ encInts ((y :: l).flatMap en) ++ b = a ++ encInts (en y) ++ (encInts (l.flatMap en) ++ b) := by rw [List.flatMap_cons, encInts_append]; simp only [List.append_assoc]
        have e2 : a ++ encInts ((y :: l).flatMap en) ++ b = (a ++ encInts (en y)) ++ encInts (l.flatMap en) ++ b := by rw [List.flatMap_cons, encInts_append]; simp only [List.append_assoc]
        have h2 := ih.full l (a ++ encInts (en y)) b ⟨by simpa using hl, fun z hz' => hz z (List.mem_cons_of_mem _ hz')⟩
        simp only [rdL]
        rw [e1, h1]
        simp only
        rw [← e1, e2]
        rw [List.length_append] at h2
        rw [h2, List.flatMap_cons, encInts_append, List.length_append]
        simp only [Except.ok.injEq, Prod.mk.injEq, true_and]
        omega
theorem rdL_len {m : Nat} {s : List UInt8} : ∀ {m k k1 : Nat} {l : List α}, rdL (X s) m k = .ok (l, k1) → l.length = m
  | 0, k, k1, l, h => by simp [rdL] at h; rw [h.1]; rfl
  | m + 1, k, k1, l, h => by
    simp only [rdL] at h
    cases hr : X s k with
    | error e => rw [hr] at h; cases h
    | ok p =>
      rw [hr] at h
      simp only at h
      cases hm : rdL (X s) m p.2 with
      | error e => rw [hm] at h; cases h
      | ok q =>
        rw [hm] at h
        simp only [Except.ok.injEq, Prod.mk.injEq] at h
        rw [← h.1, List.length_cons, rdL_len (m := m) hm]
theorem good_C (hX : Good X en ok) (most : Nat) (hmost : most ≤ 1000000) : Good (fun s k => rdC s most (X s) k) (fun l => ((l.length : Nat) : Int) :: l.flatMap en) (fun l => l.length ≤ most ∧ ∀ x ∈ l, ok x) := by
  refine ⟨fun s k x k1 hk h => ?_, fun t u k r hk h => ?_, fun t u k hk h => ?_, fun s k E h => ?_, fun x a b h => ?_⟩
  · simp only [rdC] at h
    cases hr : rdInt s k with
    | none => rw [hr] at h; cases h
    | some p =>
      rw [hr] at h
      simp only at h
      split at h
      · cases h
      · rename_i hn
        obtain ⟨_, _, g3, g4, g5⟩ := rdInt_canon hk hr
        obtain ⟨i1, i2, i3⟩ := (good_L hX p.1.toNat).sound s p.2 x k1 g4 h
        have hlen := rdL_len (m := 0) h
        exact ⟨by omega, i2, by rw [g5, i3, encInts_cons, show ((x.length : Nat) : Int) = p.1 by omega, List.append_assoc]⟩
  · simp only [rdC] at h ⊢
    cases hr : rdInt t k with
    | none => rw [hr] at h; cases h
    | some p =>
      rw [hr] at h
      rw [rdInt_ext hk hr]
      simp only at h ⊢
      split at h
      · cases h
      · rename_i hn
        rw [if_neg hn]
        exact (good_L hX p.1.toNat).ext t u p.2 r (rdInt_lt hk hr).2 h
  · simp only [rdC] at h ⊢
    cases hr : rdInt t k with
    | none => rw [hr] at h; cases h
    | some p =>
      rw [hr] at h
      rw [rdInt_ext hk hr]
      simp only at h ⊢
      split at h
      · rename_i hn; rw [if_pos hn]
      · rename_i hn
        rw [if_neg hn]
        exact (good_L hX p.1.toNat).ext8 t u p.2 (rdInt_lt hk hr).2 h
  · simp only [rdC] at h
    cases hr : rdInt s k with
    | none => rw [hr] at h; simp only [Except.error.injEq] at h; exact .inl h.symm
    | some p =>
      rw [hr] at h
      simp only at h
      split at h
      · simp only [Except.error.injEq] at h; exact .inr h.symm
      · exact (good_L hX p.1.toNat).err s p.2 E h
  · obtain ⟨hl, hz⟩ := h
    have h1 := rdInt_enc a (encInts (x.flatMap en) ++ b) ((x.length : Nat) : Int) (by unfold wmax; omega) (by unfold wmax; omega)
    have e1 : a ++ encInts (((x.length : Nat) : Int) :: x.flatMap en) ++ b = a ++ encInt ((x.length : Nat) : Int) ++ (encInts (x.flatMap en) ++ b) := by rw [encInts_cons]; simp only [List.append_assoc]
    have e2 : a ++ encInts (((x.length : Nat) : Int) :: x.flatMap en) ++ b = (a ++ encInt ((x.length : Nat) : Int)) ++ encInts (x.flatMap en) ++ b := by rw [encInts_cons]; simp only [List.append_assoc]
    have h2 := (good_L hX x.length).full x (a ++ encInt ((x.length : Nat) : Int)) b ⟨rfl, hz⟩
    simp only [rdC]
    rw [e1, h1]
    simp only
    rw [if_neg (by omega), ← e1, e2]
    rw [List.length_append] at h2
    rw [Int.toNat_natCast, h2, encInts_cons, List.length_append]
    simp only [Except.ok.injEq, Prod.mk.injEq, true_and]
    omega
variable {β : Type} {Y : List UInt8 → Nat → RdR β} {en2 : β → List Int} {ok2 : β → Prop}
def rdSeq (X : List UInt8 → Nat → RdR α) (Y : List UInt8 → Nat → RdR β) (s : List UInt8) (k : Nat) : RdR (α × β) := match X s k with
  | .error e => .error e
  | .ok (x, k1) => match Y s k1 with
    | .error e => .error e
    | .ok (y, k2) => .ok ((x, y), k2)
theorem good_seq (hX : Good X en ok) (hY : Good Y en2 ok2) : Good (rdSeq X Y) (fun p => en p.1 ++ en2 p.2) (fun p => ok p.1 ∧ ok2 p.2) := by
  refine ⟨fun s k x k1 hk h => ?_, fun t u k r hk h => ?_, fun t u k hk h => ?_, fun s k E h => ?_, fun x a b h => ?_⟩
  · simp only [rdSeq] at h
    cases hr : X s k with
    | error e => rw [hr] at h; cases h
    | ok p =>
      rw [hr] at h
      simp only at h
      cases hm : Y s p.2 with
      | error e => rw [hm] at h; cases h
      | ok q =>
        rw [hm] at h
        simp only [Except.ok.injEq, Prod.mk.injEq] at h
        obtain ⟨rfl, rfl⟩ := h
        obtain ⟨g1, g2, g3⟩ := hX.sound s k p.1 p.2 hk hr
        obtain ⟨i1, i2, i3⟩ := hY.sound s p.2 q.1 q.2 g2 hm
        exact ⟨by omega, i2, by rw [g3, i3, encInts_append, List.append_assoc]⟩
  · simp only [rdSeq] at h ⊢
    cases hr : X t k with
    | error e => rw [hr] at h; cases h
    | ok p =>
      rw [hr] at h
      rw [hX.ext t u k p hk hr]
      simp only at h ⊢
      cases hm : Y t p.2 with
      | error e => rw [hm] at h; cases h
      | ok q =>
        rw [hm] at h
        rw [hY.ext t u p.2 q (hX.sound t k p.1 p.2 hk hr).2.1 hm]
        exact h
  · simp only [rdSeq] at h ⊢
    cases hr : X t k with
    | error e => rw [hr] at h; simp only [Except.error.injEq] at h; subst h; rw [hX.ext8 t u k hk hr]
    | ok p =>
      rw [hr] at h
      rw [hX.ext t u k p hk hr]
      simp only at h ⊢
      cases hm : Y t p.2 with
      | error e =>
        rw [hm] at h
        simp only [Except.error.injEq] at h
        subst h
        rw [hY.ext8 t u p.2 (hX.sound t k p.1 p.2 hk hr).2.1 hm]
      | ok q => rw [hm] at h; cases h
  · simp only [rdSeq] at h
    cases hr : X s k with
    | error e => rw [hr] at h; simp only [Except.error.injEq] at h; subst h; exact hX.err s k e hr
    | ok p =>
      rw [hr] at h
      simp only at h
      cases hm : Y s p.2 with
      | error e => rw [hm] at h; simp only [Except.error.injEq] at h; subst h; exact hY.err s p.2 e hm
      | ok q => rw [hm] at h; cases h
  · have h1 := hX.full x.1 a (encInts (en2 x.2) ++ b) h.1
    have e1 : a ++ encInts (en x.1 ++ en2 x.2) ++ b = a ++ encInts (en x.1) ++ (encInts (en2 x.2) ++ b) := by rw [encInts_append]; simp only [List.append_assoc]
    have e2 : a ++ encInts (en x.1 ++ en2 x.2) ++ b = (a ++ encInts (en x.1)) ++ encInts (en2 x.2) ++ b := by rw [encInts_append]; simp only [List.append_assoc]
    have h2 := hY.full x.2 (a ++ encInts (en x.1)) b h.2
    simp only [rdSeq]
    rw [e1, h1]
    simp only
    rw [← e1, e2]
    rw [List.length_append] at h2
    rw [h2, encInts_append, List.length_append]
    simp only [Except.ok.injEq, Prod.mk.injEq, true_and]
    omega
def rdMap (f : α → β) (X : List UInt8 → Nat → RdR α) (s : List UInt8) (k : Nat) : RdR β := match X s k with
  | .error e => .error e
  | .ok (x, k1) => .ok (f x, k1)
theorem good_map (hX : Good X en ok) {f : α → β} {g : β → α} (hf : ∀ y, f (g y) = y) (P : α → Prop) (hP : ∀ s k x k1, X s k = .ok (x, k1) → P x) (hg : ∀ x, P x → g (f x) = x) : Good (rdMap f X) (fun y => en (g y)) (fun y => ok (g y)) := by
  refine ⟨fun s k x k1 hk h => ?_, fun t u k r hk h => ?_, fun t u k hk h => ?_, fun s k E h => ?_, fun x a b h => ?_⟩
  · simp only [rdMap] at h
    cases hm : X s k with
    | error e => rw [hm] at h; cases h
    | ok q =>
      rw [hm] at h
      simp only [Except.ok.injEq, Prod.mk.injEq] at h
      obtain ⟨rfl, rfl⟩ := h
      rw [hg _ (hP s k q.1 q.2 hm)]
      exact hX.sound s k q.1 q.2 hk hm
  · simp only [rdMap] at h ⊢
    cases hm : X t k with
    | error e => rw [hm] at h; cases h
    | ok q => rw [hm] at h; rw [hX.ext t u k q hk hm]; exact h
  · simp only [rdMap] at h ⊢
    cases hm : X t k with
    | error e => rw [hm] at h; simp only [Except.error.injEq] at h; subst h; rw [hX.ext8 t u k hk hm]
    | ok q => rw [hm] at h; cases h
  · simp only [rdMap] at h
    cases hm : X s k with
    | error e => rw [hm] at h; simp only [Except.error.injEq] at h; subst h; exact hX.err s k e hm
    | ok q => rw [hm] at h; cases h
  · have := hX.full (g x) a b h
    simp only [rdMap]
    rw [this]
    simp only [hf]
end
theorem good_alt : Good (fun s k => rdM altOf s 2 k) altNs (fun x => ∀ z ∈ altNs x, inW z) :=
  good_M (fun l h => by obtain ⟨a, b, rfl⟩ := len2 h; rfl) (fun x => rfl) (fun x => rfl)
theorem good_it : Good (fun s k => rdM itOf s 5 k) itNs (fun x => ∀ z ∈ itNs x, inW z) :=
  good_M (fun l h => by obtain ⟨a, b, c, d, e, rfl⟩ := len5 h; rfl) (fun x => rfl) (fun x => rfl)
theorem good_bk : Good (fun s k => rdM bkOf s 7 k) bkNs (fun x => ∀ z ∈ bkNs x, inW z) :=
  good_M (fun l h => by obtain ⟨a, b, c, d, e, f, g, rfl⟩ := len7 h; rfl) (fun x => rfl) (fun x => rfl)
theorem good_cl : Good (fun s k => rdM clOf s 8 k) clNs (fun x => ∀ z ∈ clNs x, inW z) :=
  good_M (fun l h => by obtain ⟨a, b, c, d, e, f, g, i, rfl⟩ := len8 h; rfl) (fun x => rfl) (fun x => rfl)
def enNn (x : EnN) : List Int := [x.id, x.item, x.frames, x.earliest, x.latest, x.booking] ++ (((x.al.length : Nat) : Int) :: x.al.flatMap altNs)
theorem rdEnt_seq : rdEnt = rdMap (fun p : List Int × Alts => (⟨p.1.getD 0 0, p.1.getD 1 0, p.1.getD 2 0, p.1.getD 3 0, p.1.getD 4 0, p.1.getD 5 0, p.2⟩ : EnN)) (rdSeq (fun s k => rdN s 6 k) (fun s k => rdC s 7 (rdM altOf s 2) k)) := by
  funext s k
  unfold rdEnt rdMap rdSeq
  dsimp only
  cases rdN s 6 k with
  | error e => rfl
  | ok p =>
    dsimp only
    cases rdC s 7 (rdM altOf s 2) p.2 with
    | error e => rfl
    | ok q => rfl
theorem seq_fst {α β : Type} {X : List UInt8 → Nat → RdR α} {Y : List UInt8 → Nat → RdR β} {s : List UInt8} {k k1 : Nat} {x : α × β} (h : rdSeq X Y s k = .ok (x, k1)) : ∃ k2, X s k = .ok (x.1, k2) ∧ Y s k2 = .ok (x.2, k1) := by
  unfold rdSeq at h
  cases hr : X s k with
  | error e => rw [hr] at h; cases h
  | ok p =>
    rw [hr] at h
    simp only at h
    cases hm : Y s p.2 with
    | error e => rw [hm] at h; cases h
    | ok q =>
      rw [hm] at h
      simp only [Except.ok.injEq, Prod.mk.injEq] at h
      obtain ⟨rfl, rfl⟩ := h
      exact ⟨p.2, rfl, hm⟩
def okE (x : EnN) : Prop := (∀ z ∈ [x.id, x.item, x.frames, x.earliest, x.latest, x.booking], inW z) ∧ x.al.length ≤ 7 ∧ ∀ a ∈ x.al, ∀ z ∈ altNs a, inW z
theorem good_ent : Good rdEnt enNn okE := by
  rw [rdEnt_seq]
  have h := good_map (good_seq (good_N 6) (good_C good_alt 7 (by decide))) (f := fun p : List Int × Alts => (⟨p.1.getD 0 0, p.1.getD 1 0, p.1.getD 2 0, p.1.getD 3 0, p.1.getD 4 0, p.1.getD 5 0, p.2⟩ : EnN)) (g := fun x => ([x.id, x.item, x.frames, x.earliest, x.latest, x.booking], x.al)) (fun y => rfl)
    (fun p => p.1.length = 6) (fun s k x k1 h => by obtain ⟨k2, h2, _⟩ := seq_fst h; exact rdN_len h2) (fun x hx => by obtain ⟨a, b, c, d, e, f, hl⟩ := len6 hx; obtain ⟨l, al⟩ := x; simp only at hl; subst hl; rfl)
  exact ⟨h.sound, h.ext, h.ext8, h.err, fun x a b hx => h.full x a b ⟨⟨rfl, hx.1⟩, hx.2⟩⟩
abbrev SeqP := (((((List Int × Alts) × List Int) × List Itm) × List EnN) × List Bkg) × List Cls
def ofSeq (x : SeqP) : PlN := ⟨x.1.1.1.1.1.1.getD 0 0, x.1.1.1.1.1.1.getD 1 0, x.1.1.1.1.1.1.getD 2 0, x.1.1.1.1.1.1.getD 3 0, x.1.1.1.1.1.2, x.1.1.1.1.2.getD 0 0, x.1.1.1.1.2.getD 1 0, x.1.1.1.1.2.getD 2 0, x.1.1.1.1.2.getD 3 0, x.1.1.1.2, x.1.1.2, x.1.2, x.2⟩
def toSeq (v : PlN) : SeqP := (((((([v.channel, v.num, v.den, v.offset], v.sh), [v.epoch, v.regions, v.length, v.fill]), v.its), v.es), v.bs), v.cs)
def seqR : List UInt8 → Nat → RdR SeqP := rdSeq (rdSeq (rdSeq (rdSeq (rdSeq (rdSeq (fun s k => rdN s 4 k) (fun s k => rdC s 40 (rdM altOf s 2) k)) (fun s k => rdN s 4 k)) (fun s k => rdC s 4000 (rdM itOf s 5) k)) (fun s k => rdC s 4000 (rdEnt s) k)) (fun s k => rdC s 2000 (rdM bkOf s 7) k)) (fun s k => rdC s 400 (rdM clOf s 8) k)
theorem rdPl_seq (s : List UInt8) : rdPl s = rdMap ofSeq seqR s 0 := by
  unfold rdPl rdMap seqR
  simp only [rdSeq]
  cases rdN s 4 0 with
  | error e => rfl
  | ok p =>
    dsimp only
    cases rdC s 40 (rdM altOf s 2) p.2 with
    | error e => rfl
    | ok q =>
      dsimp only
      cases rdN s 4 q.2 with
      | error e => rfl
      | ok r =>
        dsimp only
        cases rdC s 4000 (rdM itOf s 5) r.2 with
        | error e => rfl
        | ok t =>
          dsimp only
          cases rdC s 4000 (rdEnt s) t.2 with
          | error e => rfl
          | ok u =>
            dsimp only
            cases rdC s 2000 (rdM bkOf s 7) u.2 with
            | error e => rfl
            | ok v =>
              dsimp only
              cases rdC s 400 (rdM clOf s 8) v.2 with
              | error e => rfl
              | ok x => rfl
def numsN (v : PlN) : List Int := [v.channel, v.num, v.den, v.offset] ++ (((v.sh.length : Nat) : Int) :: v.sh.flatMap altNs) ++ [v.epoch, v.regions, v.length, v.fill] ++ (((v.its.length : Nat) : Int) :: v.its.flatMap itNs) ++ (((v.es.length : Nat) : Int) :: v.es.flatMap enNn) ++ (((v.bs.length : Nat) : Int) :: v.bs.flatMap bkNs) ++ (((v.cs.length : Nat) : Int) :: v.cs.flatMap clNs)
theorem numsP_nv (p : Pln) : numsP p = numsN p.nv := by
  unfold numsP numsN
  simp only [Pln.nv, List.length_map, List.flatMap_map]
  rfl
def okP (v : PlN) : Prop := (∀ z ∈ [v.channel, v.num, v.den, v.offset], inW z) ∧ (v.sh.length ≤ 40 ∧ ∀ a ∈ v.sh, ∀ z ∈ altNs a, inW z) ∧ (∀ z ∈ [v.epoch, v.regions, v.length, v.fill], inW z) ∧ (v.its.length ≤ 4000 ∧ ∀ x ∈ v.its, ∀ z ∈ itNs x, inW z) ∧ (v.es.length ≤ 4000 ∧ ∀ x ∈ v.es, okE x) ∧ (v.bs.length ≤ 2000 ∧ ∀ x ∈ v.bs, ∀ z ∈ bkNs x, inW z) ∧ (v.cs.length ≤ 400 ∧ ∀ x ∈ v.cs, ∀ z ∈ clNs x, inW z)
theorem good_pl : Good (rdMap ofSeq seqR) numsN okP := by
  have h := good_map (good_seq (good_seq (good_seq (good_seq (good_seq (good_seq (good_N 4) (good_C good_alt 40 (by decide))) (good_N 4)) (good_C good_it 4000 (by decide))) (good_C good_ent 4000 (by decide))) (good_C good_bk 2000 (by decide))) (good_C good_cl 400 (by decide))) (f := ofSeq) (g := toSeq) (fun y => rfl)
    (fun x => x.1.1.1.1.1.1.length = 4 ∧ x.1.1.1.1.2.length = 4) (fun s k x k1 h => by
      obtain ⟨_, h, _⟩ := seq_fst h
      obtain ⟨_, h, _⟩ := seq_fst h
      obtain ⟨_, h, _⟩ := seq_fst h
      obtain ⟨_, h, _⟩ := seq_fst h
      obtain ⟨_, h, h4⟩ := seq_fst h
      obtain ⟨_, h, _⟩ := seq_fst h
      exact ⟨rdN_len h, rdN_len h4⟩) (fun x hx => by
      obtain ⟨⟨⟨⟨⟨⟨l, sh⟩, m⟩, its⟩, es⟩, bs⟩, cs⟩ := x
      obtain ⟨h1, h2⟩ := hx
      obtain ⟨a, b, c, d, rfl⟩ := len4 h1
      obtain ⟨e, f, g, i, rfl⟩ := len4 h2
      rfl)
  exact ⟨h.sound, h.ext, h.ext8, h.err, fun v a b hv => h.full v a b ⟨⟨⟨⟨⟨⟨⟨rfl, hv.1⟩, hv.2.1⟩, rfl, hv.2.2.1⟩, hv.2.2.2.1⟩, hv.2.2.2.2.1⟩, hv.2.2.2.2.2.1⟩, hv.2.2.2.2.2.2⟩⟩
theorem in_flat {α : Type} {f : α → List Int} {l : List α} {n : Int} (h : ∀ z ∈ n :: l.flatMap f, inW z) : ∀ x ∈ l, ∀ z ∈ f x, inW z := fun x hx z hz => h z (List.mem_cons_of_mem _ (List.mem_flatMap.2 ⟨x, hx, hz⟩))
theorem valid_ok {p : Pln} (h : validPl p = true) : okP p.nv := by
  obtain ⟨hz, _⟩ := valid_nums h
  unfold numsP at hz
  simp only [List.mem_append] at hz
  have g1 : ∀ z ∈ [p.channel, p.num, p.den, p.offset], inW z := fun z k => hz z (.inl (.inl (.inl (.inl (.inl (.inl k))))))
  have g2 : ∀ z ∈ ((p.sh.length : Nat) : Int) :: p.sh.flatMap altNs, inW z := fun z k => hz z (.inl (.inl (.inl (.inl (.inl (.inr k))))))
  have g3 : ∀ z ∈ [p.epoch, p.regions, p.length, p.fill], inW z := fun z k => hz z (.inl (.inl (.inl (.inl (.inr k)))))
  have g4 : ∀ z ∈ ((p.its.length : Nat) : Int) :: p.its.flatMap itNs, inW z := fun z k => hz z (.inl (.inl (.inl (.inr k))))
  have g5 : ∀ z ∈ ((p.es.length : Nat) : Int) :: p.es.flatMap enNs, inW z := fun z k => hz z (.inl (.inl (.inr k)))
  have g6 : ∀ z ∈ ((p.bs.length : Nat) : Int) :: p.bs.flatMap bkNs, inW z := fun z k => hz z (.inl (.inr k))
  have g7 : ∀ z ∈ ((p.cs.length : Nat) : Int) :: p.cs.flatMap clNs, inW z := fun z k => hz z (.inr k)
  unfold validPl at h
  simp only [Bool.and_eq_true, decide_eq_true_eq] at h
  obtain ⟨⟨⟨⟨h1, h2⟩, h3⟩, h4, h5⟩, h6⟩ := h
  unfold soundP zoneP at h1
  unfold itsP at h2
  unfold bksP at h3
  unfold clsP at h6
  simp only [Bool.and_eq_true, decide_eq_true_eq, inR_iff] at h1 h2 h3 h6
  refine ⟨g1, ⟨by show p.sh.length ≤ 40; omega, in_flat g2⟩, g3, ⟨by show p.its.length ≤ 4000; omega, in_flat g4⟩, ⟨by show (p.es.map Ent.nv).length ≤ 4000; rw [List.length_map]; omega, fun x hx => ?_⟩, ⟨by show p.bs.length ≤ 2000; omega, in_flat g6⟩, ⟨by show p.cs.length ≤ 400; omega, in_flat g7⟩⟩
  obtain ⟨e, he, rfl⟩ := List.mem_map.1 hx
  have k1 := in_flat g5 e he
  have k2 := entsP_in h5 e he
  unfold entP at k2
  simp only [Bool.and_eq_true] at k2
  refine ⟨fun z hz => k1 z (List.mem_append_left _ hz), (alts_in h2.1.1.2 h1.1.2.2 k2.1.2).1, in_flat (fun z hz => k1 z (List.mem_append_right _ hz))⟩
theorem rd_enc {p : Pln} (h : validPl p = true) (b : List UInt8) : rdPl (encInts (numsP p) ++ b) = .ok (p.nv, (encInts (numsP p)).length) := by
  have := good_pl.full p.nv [] b (valid_ok h)
  rw [rdPl_seq, numsP_nv]
  simpa using this
theorem dec_enc {p : Pln} (h : validPl p = true) : decN (encInts (numsP p)) = (p.nv, 0) := by
  have h1 := rd_enc h []
  rw [List.append_nil] at h1
  unfold decN
  rw [h1]
  simp only
  rw [if_neg (by omega), ← validPl_nv, if_pos h]
theorem tl_ {α : Type} (l : List α) (k : Nat) : (l.take k).length = min l.length k := by rw [List.length_take, Nat.min_comm]
def exPl (i e : Nat) (lat bk : Int) (B : Option Addr) (bc : Nat) (bs : List Bkg) : Pln := ⟨0, 25, 1, 0, none, 0, [], 0, 2, 100, 1, some ⟨i, 0, none⟩, 2, [⟨1, 5, 10, 0, 0⟩, ⟨2, 2, 20, 0, 0⟩], some ⟨e, 0, none⟩, 1, [⟨5, 2, 20, 0, lat, bk, none, 0, []⟩], B, bc, bs, none, 0, []⟩
def exS : List UInt8 := [] ++ encInts [0, 25, 1, 0, 0, 0, 2, 100, 1, 2, 1, 5, 10, 0, 0, 2, 2, 20, 0, 0, 1, 5, 2, 20, 0, 80, 0, 0, 0, 0]
theorem dec_exS : decN exS = ((exPl 0 0 80 0 none 0 []).nv, 0) := dec_enc (p := exPl 0 0 80 0 none 0 []) (by kernel_rfl)
theorem dec_nil : decN [] = (zeroN, 10) := by kernel_rfl
theorem IsRow.box {α : Type} {k : Nat} {cs : α → Array Value} (hk : ∀ e, (cs e).size = k) {w : World} {b t : Nat} {vs : List Value} {l : List α} (h : Box w b t vs.toArray) (hv : vs = flat cs l) : IsRow k cs w (some ⟨b, 0, none⟩) l := by
 subst hv
 refine ⟨flat_len hk l, .inr ⟨b, 0, rfl, h.lt, fun i hi => ?_⟩⟩
 have hi' : i < (flat cs l).length := by rw [flat_len hk l]; exact hi
 rw [Nat.zero_add, List.getElem?_eq_getElem hi']
 exact h.cell (by simp [hi'])
theorem isEx {w : World} {i e : Nat} {lat bk : Int} (h1 : Box w i 38 [(.int .i64 1), (.int .i64 5), (.int .i64 10), (.int .i64 0), (.int .i64 0), (.int .i64 2), (.int .i64 2), (.int .i64 20), (.int .i64 0), (.int .i64 0)].toArray) (h2 : Box w e 43 [.int .i64 5, .int .i64 2, .int .i64 20, .int .i64 0, .int .i64 lat, .int .i64 bk, .slice none 0 0].toArray) : IsPln w (exPl i e lat bk none 0 []) :=
 ⟨IsRow.nil _ _, IsRow.box itC_size h1 rfl, ⟨IsRow.box enC_size h2 rfl, fun x hx => by rcases List.mem_singleton.1 hx with rfl; exact ⟨IsRow.nil _ _, Nat.zero_le _⟩⟩, IsRow.nil _ _, IsRow.nil _ _, Nat.zero_le _, by show 2 ≤ maxLen; unfold maxLen; omega, by show 1 ≤ maxLen; unfold maxLen; omega, Nat.zero_le _, Nat.zero_le _⟩
theorem isExB {w : World} {i e b : Nat} {lat bk : Int} (h1 : Box w i 38 [(.int .i64 1), (.int .i64 5), (.int .i64 10), (.int .i64 0), (.int .i64 0), (.int .i64 2), (.int .i64 2), (.int .i64 20), (.int .i64 0), (.int .i64 0)].toArray) (h2 : Box w e 43 [.int .i64 5, .int .i64 2, .int .i64 20, .int .i64 0, .int .i64 lat, .int .i64 bk, .slice none 0 0].toArray) (h3 : Box w b 47 [(.int .i64 1), (.int .i64 2), (.int .i64 1), (.int .i64 0), (.int .i64 50), (.int .i64 90), (.int .i64 0)].toArray) : IsPln w (exPl i e lat bk (some ⟨b, 0, none⟩) 1 [⟨1, 2, 1, 0, 50, 90, 0⟩]) :=
 ⟨IsRow.nil _ _, IsRow.box itC_size h1 rfl, ⟨IsRow.box enC_size h2 rfl, fun x hx => by rcases List.mem_singleton.1 hx with rfl; exact ⟨IsRow.nil _ _, Nat.zero_le _⟩⟩, IsRow.box bkC_size h3 rfl, IsRow.nil _ _, Nat.zero_le _, by show 2 ≤ maxLen; unfold maxLen; omega, by show 1 ≤ maxLen; unfold maxLen; omega, by show 1 ≤ maxLen; unfold maxLen; omega, Nat.zero_le _⟩
theorem Hp.gain2 {w0 w w' : World} {L : List HB} {K : List FK} (H : Hp w0 w L K) (hb : Below w.heap.size w w') {b c t u : Nat} {vs us : List Value} (h1 : Box w' b t vs.toArray) (h2 : Box w' c u us.toArray) (n1 : w.heap.size ≤ b) (n2 : w.heap.size ≤ c) (hne : b ≠ c) : Hp w0 w' (bx b t vs true :: bx c u us true :: L) K := by
 have H2 := H.gain hb (bx c u us true) h2 (bx_ok _ _ _ _) (fun k hk => by cases hk; exact h2.lt) (fun k hk => by cases hk; exact n2)
 refine H2.add (bx b t vs true) h1 (bx_ok _ _ _ _) (fun k hk => by cases hk; exact h1.lt) (fun k hk => ⟨fun y hy hyk => ?_, fun p hp hpk => ?_⟩) (fun _ k hk => by cases hk; exact Nat.le_trans H.size n1)
 ·cases hk
  rcases List.mem_cons.1 hy with rfl | hy
  ·exact hne hyk
  ·have := (H.res y hy).2.2 _ hyk; omega
 ·cases hk
  have := ((H.kept p hp).2.2 _ hpk).1
  omega
theorem example_any (w : World) : Calls Tryz.prog 30 #[] w fun e w' => ∃ b1 b2, e = .returned (.agg (plC (exPl b1 b2 80 0 none 0 [])).toArray) ∧ Box w' b1 38 [(ii 1), (ii 5), (ii 10), (ii 0), (ii 0), (ii 2), (ii 2), (ii 20), (ii 0), (ii 0)].toArray ∧ Box w' b2 43 [(ii 5), (ii 2), (ii 20), (ii 0), (ii 80), (ii 0), (.slice none 0 0)].toArray ∧ w.heap.size ≤ b1 ∧ w.heap.size ≤ b2 ∧ b1 ≠ b2 ∧ Below w.heap.size w w' := by
 have HP := Hp.start w
 refine w_enter 8 [] Tryz.func30 rfl Tryz.ntmps30 (by kernel_rfl) (by kernel_rfl) fun a H => ?_
 refine sq (rg ?_)
 refine H.al HP 0 32 [(ii 0), (ii 0), (ii 0), (ii 0), (.slice none 0 0), (ii 0), (ii 0), (ii 0), (ii 0), (.slice none 0 0), (.slice none 0 0), (.slice none 0 0), (.slice none 0 0)] fun b_1 w_2 a H HP => ?_
 refine nl (tn (sq (rg ?_)))
 refine H.v 1 (.agg #[(ii 25), (ii 1)]) fun a H => H.v 2 (.agg #[(ii 1), (ii 5), (ii 10), (ii 0), (ii 0)]) fun a H => H.v 3 (.agg #[(ii 2), (ii 2), (ii 20), (ii 0), (ii 0)]) fun a H => H.alloc HP 4 (fun b => (.slice (some ⟨b, 0, none⟩) 2 2)) 38 [(ii 1), (ii 5), (ii 10), (ii 0), (ii 0), (ii 2), (ii 2), (ii 20), (ii 0), (ii 0)] (by kernel_rfl) (fun w => by kernel_rfl) fun b_3 w_4 a H HP => H.v 5 (.agg #[(ii 5), (ii 2), (ii 20), (ii 0), (ii 80), (ii 0), (.slice none 0 0)]) fun a H => H.alloc HP 6 (fun b => (.slice (some ⟨b, 0, none⟩) 1 1)) 43 [(ii 5), (ii 2), (ii 20), (ii 0), (ii 80), (ii 0), (.slice none 0 0)] (by kernel_rfl) (fun w => by kernel_rfl) fun b_5 w_6 a H HP => H.v 7 (.agg #[(ii 0), (ii 25), (ii 1), (ii 0), (.slice none 0 0), (ii 0), (ii 2), (ii 100), (ii 1), (.slice (some ⟨b_3, 0, none⟩) 2 2), (.slice (some ⟨b_5, 0, none⟩) 1 1), (.slice none 0 0), (.slice none 0 0)]) fun a H => H.st HP 2 b_1 0 13 32 true (.agg #[(ii 0), (ii 25), (ii 1), (ii 0), (.slice none 0 0), (ii 0), (ii 2), (ii 100), (ii 1), (.slice (some ⟨b_3, 0, none⟩) 2 2), (.slice (some ⟨b_5, 0, none⟩) 1 1), (.slice none 0 0), (.slice none 0 0)]) [bx b_5 43 [(ii 5), (ii 2), (ii 20), (ii 0), (ii 80), (ii 0), (.slice none 0 0)] true, bx b_3 38 [(ii 1), (ii 5), (ii 10), (ii 0), (ii 0), (ii 2), (ii 2), (ii 20), (ii 0), (ii 0)] true, bx b_1 32 [(ii 0), (ii 25), (ii 1), (ii 0), (.slice none 0 0), (ii 0), (ii 2), (ii 100), (ii 1), (.slice (some ⟨b_3, 0, none⟩) 2 2), (.slice (some ⟨b_5, 0, none⟩) 1 1), (.slice none 0 0), (.slice none 0 0)] true] rfl fun w_7 a H HP => ?_
 refine nl (tn (rt ?_))
 refine H.ret1 (fn := Tryz.f30) Tryz.results30 (RV.cellN (vs := [(ii 0), (ii 25), (ii 1), (ii 0), (.slice none 0 0), (ii 0), (ii 2), (ii 100), (ii 1), (.slice (some ⟨b_3, 0, none⟩) 2 2), (.slice (some ⟨b_5, 0, none⟩) 1 1), (.slice none 0 0), (.slice none 0 0)]) (b := b_1) (off := 0) (k := 13) (by kernel_rfl) (by kernel_rfl) (by kernel_rfl) rfl (HP.cells 2 rfl 0 13 (by kernel_rfl))) ?_
 exact ⟨b_3, b_5, rfl, HP.at_ 1 rfl, HP.at_ 0 rfl, HP.fresh _ (List.mem_of_getElem? (i := 1) rfl) rfl _ rfl, HP.fresh _ (List.mem_of_getElem? (i := 0) rfl) rfl _ rfl, (HP.neB 0 1 rfl rfl (by decide)).symm, HP.bl⟩
theorem sane_any (a0 a1 : Addr) (w : World) (hL : LaidP a0 a1 w) : Calls Tryz.prog 12 #[] w fun e w' => e = .returned (.bool true) ∧ Below w.heap.size w w' := by
 have HP := Hp.start w
 refine w_enter 146 [] Tryz.func12 rfl Tryz.ntmps12 (by kernel_rfl) (by kernel_rfl) fun a H => ?_
 refine sq (rg ?_)
 refine H.v 0 (.bool false) fun a H => ?_
 refine nl (tn (sq (rg ?_)))
 refine H.cl 21 (Tryz.call30 _ _) (example_any w) ?_
 rintro e w_1 ⟨bi1, be1, rfl, hx1, hx2, hn1, hn2, hne, hb⟩
 refine ⟨_, rfl, ?_⟩
 intro a H
 have HP := HP.gain2 hb hx1 hx2 hn1 hn2 hne
 refine H.al HP 1 32 [(ii 0), (ii 0), (ii 0), (ii 0), (.slice none 0 0), (ii 0), (ii 0), (ii 0), (ii 0), (.slice none 0 0), (.slice none 0 0), (.slice none 0 0), (.slice none 0 0)] fun b_2 w_3 a H HP => H.st HP 0 b_2 0 13 32 true (.agg #[(ii 0), (ii 25), (ii 1), (ii 0), (.slice none 0 0), (ii 0), (ii 2), (ii 100), (ii 1), (.slice (some ⟨bi1, 0, none⟩) 2 2), (.slice (some ⟨be1, 0, none⟩) 1 1), (.slice none 0 0), (.slice none 0 0)]) [bx b_2 32 [(ii 0), (ii 25), (ii 1), (ii 0), (.slice none 0 0), (ii 0), (ii 2), (ii 100), (ii 1), (.slice (some ⟨bi1, 0, none⟩) 2 2), (.slice (some ⟨be1, 0, none⟩) 1 1), (.slice none 0 0), (.slice none 0 0)] true, bx bi1 38 [(ii 1), (ii 5), (ii 10), (ii 0), (ii 0), (ii 2), (ii 2), (ii 20), (ii 0), (ii 0)] true, bx be1 43 [(ii 5), (ii 2), (ii 20), (ii 0), (ii 80), (ii 0), (.slice none 0 0)] true] rfl fun w_4 a H HP => ?_
 refine nl (tn (sq (rg ?_)))
 refine H.cl 22 (Tryz.call30 _ _) (example_any w_4) ?_
 rintro e w_5 ⟨bi2, be2, rfl, hx1, hx2, hn1, hn2, hne, hb⟩
 refine ⟨_, rfl, ?_⟩
 intro a H
 have HP := HP.gain2 hb hx1 hx2 hn1 hn2 hne
 refine H.al HP 2 32 [(ii 0), (ii 0), (ii 0), (ii 0), (.slice none 0 0), (ii 0), (ii 0), (ii 0), (ii 0), (.slice none 0 0), (.slice none 0 0), (.slice none 0 0), (.slice none 0 0)] fun b_6 w_7 a H HP => H.st HP 0 b_6 0 13 32 true (.agg #[(ii 0), (ii 25), (ii 1), (ii 0), (.slice none 0 0), (ii 0), (ii 2), (ii 100), (ii 1), (.slice (some ⟨bi2, 0, none⟩) 2 2), (.slice (some ⟨be2, 0, none⟩) 1 1), (.slice none 0 0), (.slice none 0 0)]) [bx b_6 32 [(ii 0), (ii 25), (ii 1), (ii 0), (.slice none 0 0), (ii 0), (ii 2), (ii 100), (ii 1), (.slice (some ⟨bi2, 0, none⟩) 2 2), (.slice (some ⟨be2, 0, none⟩) 1 1), (.slice none 0 0), (.slice none 0 0)] true, bx bi2 38 [(ii 1), (ii 5), (ii 10), (ii 0), (ii 0), (ii 2), (ii 2), (ii 20), (ii 0), (ii 0)] true, bx be2 43 [(ii 5), (ii 2), (ii 20), (ii 0), (ii 80), (ii 0), (.slice none 0 0)] true, bx b_2 32 [(ii 0), (ii 25), (ii 1), (ii 0), (.slice none 0 0), (ii 0), (ii 2), (ii 100), (ii 1), (.slice (some ⟨bi1, 0, none⟩) 2 2), (.slice (some ⟨be1, 0, none⟩) 1 1), (.slice none 0 0), (.slice none 0 0)] true, bx bi1 38 [(ii 1), (ii 5), (ii 10), (ii 0), (ii 0), (ii 2), (ii 2), (ii 20), (ii 0), (ii 0)] true, bx be1 43 [(ii 5), (ii 2), (ii 20), (ii 0), (ii 80), (ii 0), (.slice none 0 0)] true] rfl fun w_8 a H HP => ?_
 refine nl (tn (sq (rg ?_)))
 refine H.v 23 (pt b_6 10) fun a H => H.u 24 (.slice (some ⟨be2, 0, none⟩) 1 1) (ex_l1 (HP.cell 0 rfl 10 rfl)) fun a H => H.u 25 (pt be2 0) (ex_index (b := be2) (off := 0) (len := 1) (cap := 1) (e := 43) (k := 7) (ik := .i64) (i := 0) (m := 0) (by kernel_rfl) (by kernel_rfl) (by omega) (by omega) (by kernel_rfl) (by kernel_rfl)) fun a H => H.v 26 (pt be2 4) fun a H => H.st HP 2 be2 4 1 43 true (ii 81) [bx b_6 32 [(ii 0), (ii 25), (ii 1), (ii 0), (.slice none 0 0), (ii 0), (ii 2), (ii 100), (ii 1), (.slice (some ⟨bi2, 0, none⟩) 2 2), (.slice (some ⟨be2, 0, none⟩) 1 1), (.slice none 0 0), (.slice none 0 0)] true, bx bi2 38 [(ii 1), (ii 5), (ii 10), (ii 0), (ii 0), (ii 2), (ii 2), (ii 20), (ii 0), (ii 0)] true, bx be2 43 [(ii 5), (ii 2), (ii 20), (ii 0), (ii 81), (ii 0), (.slice none 0 0)] true, bx b_2 32 [(ii 0), (ii 25), (ii 1), (ii 0), (.slice none 0 0), (ii 0), (ii 2), (ii 100), (ii 1), (.slice (some ⟨bi1, 0, none⟩) 2 2), (.slice (some ⟨be1, 0, none⟩) 1 1), (.slice none 0 0), (.slice none 0 0)] true, bx bi1 38 [(ii 1), (ii 5), (ii 10), (ii 0), (ii 0), (ii 2), (ii 2), (ii 20), (ii 0), (ii 0)] true, bx be1 43 [(ii 5), (ii 2), (ii 20), (ii 0), (ii 80), (ii 0), (.slice none 0 0)] true] rfl fun w_9 a H HP => ?_
 refine nl (tn (sq (rg ?_)))
 refine H.cl 27 (Tryz.call30 _ _) (example_any w_9) ?_
 rintro e w_10 ⟨bi3, be3, rfl, hx1, hx2, hn1, hn2, hne, hb⟩
 refine ⟨_, rfl, ?_⟩
 intro a H
 have HP := HP.gain2 hb hx1 hx2 hn1 hn2 hne
 refine H.al HP 3 32 [(ii 0), (ii 0), (ii 0), (ii 0), (.slice none 0 0), (ii 0), (ii 0), (ii 0), (ii 0), (.slice none 0 0), (.slice none 0 0), (.slice none 0 0), (.slice none 0 0)] fun b_11 w_12 a H HP => H.st HP 0 b_11 0 13 32 true (.agg #[(ii 0), (ii 25), (ii 1), (ii 0), (.slice none 0 0), (ii 0), (ii 2), (ii 100), (ii 1), (.slice (some ⟨bi3, 0, none⟩) 2 2), (.slice (some ⟨be3, 0, none⟩) 1 1), (.slice none 0 0), (.slice none 0 0)]) [bx b_11 32 [(ii 0), (ii 25), (ii 1), (ii 0), (.slice none 0 0), (ii 0), (ii 2), (ii 100), (ii 1), (.slice (some ⟨bi3, 0, none⟩) 2 2), (.slice (some ⟨be3, 0, none⟩) 1 1), (.slice none 0 0), (.slice none 0 0)] true, bx bi3 38 [(ii 1), (ii 5), (ii 10), (ii 0), (ii 0), (ii 2), (ii 2), (ii 20), (ii 0), (ii 0)] true, bx be3 43 [(ii 5), (ii 2), (ii 20), (ii 0), (ii 80), (ii 0), (.slice none 0 0)] true, bx b_6 32 [(ii 0), (ii 25), (ii 1), (ii 0), (.slice none 0 0), (ii 0), (ii 2), (ii 100), (ii 1), (.slice (some ⟨bi2, 0, none⟩) 2 2), (.slice (some ⟨be2, 0, none⟩) 1 1), (.slice none 0 0), (.slice none 0 0)] true, bx bi2 38 [(ii 1), (ii 5), (ii 10), (ii 0), (ii 0), (ii 2), (ii 2), (ii 20), (ii 0), (ii 0)] true, bx be2 43 [(ii 5), (ii 2), (ii 20), (ii 0), (ii 81), (ii 0), (.slice none 0 0)] true, bx b_2 32 [(ii 0), (ii 25), (ii 1), (ii 0), (.slice none 0 0), (ii 0), (ii 2), (ii 100), (ii 1), (.slice (some ⟨bi1, 0, none⟩) 2 2), (.slice (some ⟨be1, 0, none⟩) 1 1), (.slice none 0 0), (.slice none 0 0)] true, bx bi1 38 [(ii 1), (ii 5), (ii 10), (ii 0), (ii 0), (ii 2), (ii 2), (ii 20), (ii 0), (ii 0)] true, bx be1 43 [(ii 5), (ii 2), (ii 20), (ii 0), (ii 80), (ii 0), (.slice none 0 0)] true] rfl fun w_13 a H HP => ?_
 refine nl (tn (sq (rg ?_)))
 refine H.v 28 (.agg #[(ii 1), (ii 2), (ii 1), (ii 0), (ii 50), (ii 90), (ii 0)]) fun a H => H.alloc HP 29 (fun b => (.slice (some ⟨b, 0, none⟩) 1 1)) 47 [(ii 1), (ii 2), (ii 1), (ii 0), (ii 50), (ii 90), (ii 0)] (by kernel_rfl) (fun w => by kernel_rfl) fun b_14 w_15 a H HP => H.v 30 (pt b_11 11) fun a H => H.st HP 1 b_11 11 1 32 true (.slice (some ⟨b_14, 0, none⟩) 1 1) [bx b_14 47 [(ii 1), (ii 2), (ii 1), (ii 0), (ii 50), (ii 90), (ii 0)] true, bx b_11 32 [(ii 0), (ii 25), (ii 1), (ii 0), (.slice none 0 0), (ii 0), (ii 2), (ii 100), (ii 1), (.slice (some ⟨bi3, 0, none⟩) 2 2), (.slice (some ⟨be3, 0, none⟩) 1 1), (.slice (some ⟨b_14, 0, none⟩) 1 1), (.slice none 0 0)] true, bx bi3 38 [(ii 1), (ii 5), (ii 10), (ii 0), (ii 0), (ii 2), (ii 2), (ii 20), (ii 0), (ii 0)] true, bx be3 43 [(ii 5), (ii 2), (ii 20), (ii 0), (ii 80), (ii 0), (.slice none 0 0)] true, bx b_6 32 [(ii 0), (ii 25), (ii 1), (ii 0), (.slice none 0 0), (ii 0), (ii 2), (ii 100), (ii 1), (.slice (some ⟨bi2, 0, none⟩) 2 2), (.slice (some ⟨be2, 0, none⟩) 1 1), (.slice none 0 0), (.slice none 0 0)] true, bx bi2 38 [(ii 1), (ii 5), (ii 10), (ii 0), (ii 0), (ii 2), (ii 2), (ii 20), (ii 0), (ii 0)] true, bx be2 43 [(ii 5), (ii 2), (ii 20), (ii 0), (ii 81), (ii 0), (.slice none 0 0)] true, bx b_2 32 [(ii 0), (ii 25), (ii 1), (ii 0), (.slice none 0 0), (ii 0), (ii 2), (ii 100), (ii 1), (.slice (some ⟨bi1, 0, none⟩) 2 2), (.slice (some ⟨be1, 0, none⟩) 1 1), (.slice none 0 0), (.slice none 0 0)] true, bx bi1 38 [(ii 1), (ii 5), (ii 10), (ii 0), (ii 0), (ii 2), (ii 2), (ii 20), (ii 0), (ii 0)] true, bx be1 43 [(ii 5), (ii 2), (ii 20), (ii 0), (ii 80), (ii 0), (.slice none 0 0)] true] rfl fun w_16 a H HP => ?_
 refine nl (tn (sq (rg ?_)))
 refine H.u 31 (.agg #[(ii 0), (ii 25), (ii 1), (ii 0), (.slice none 0 0), (ii 0), (ii 2), (ii 100), (ii 1), (.slice (some ⟨bi3, 0, none⟩) 2 2), (.slice (some ⟨be3, 0, none⟩) 1 1), (.slice (some ⟨b_14, 0, none⟩) 1 1), (.slice none 0 0)]) (ex_lN [(ii 0), (ii 25), (ii 1), (ii 0), (.slice none 0 0), (ii 0), (ii 2), (ii 100), (ii 1), (.slice (some ⟨bi3, 0, none⟩) 2 2), (.slice (some ⟨be3, 0, none⟩) 1 1), (.slice (some ⟨b_14, 0, none⟩) 1 1), (.slice none 0 0)] (HP.cells 1 rfl 0 13 (by kernel_rfl))) fun a H => H.cb HP 32 (Tryz.call14 _ _) ((by have hh := valid_any (exPl bi3 be3 80 0 (some ⟨b_14, 0, none⟩) 1 [⟨1, 2, 1, 0, 50, 90, 0⟩]) w_16 (isExB (HP.at_ 2 rfl) (HP.at_ 3 rfl) (HP.at_ 0 rfl)) (hL.below HP.bl).rates; rw [show validPl (exPl bi3 be3 80 0 (some ⟨b_14, 0, none⟩) 1 [⟨1, 2, 1, 0, 50, 90, 0⟩]) = true from by kernel_rfl] at hh; exact hh)) fun w_17 hb a H HP => H.v 4 (.bool true) fun a H => ?_
 refine nl (tn (sq (rg ?_)))
 refine H.v 33 (pt b_11 10) fun a H => H.u 34 (.slice (some ⟨be3, 0, none⟩) 1 1) (ex_l1 (HP.cell 1 rfl 10 rfl)) fun a H => H.u 35 (pt be3 0) (ex_index (b := be3) (off := 0) (len := 1) (cap := 1) (e := 43) (k := 7) (ik := .i64) (i := 0) (m := 0) (by kernel_rfl) (by kernel_rfl) (by omega) (by omega) (by kernel_rfl) (by kernel_rfl)) fun a H => H.v 36 (pt be3 5) fun a H => H.st HP 3 be3 5 1 43 true (ii 1) [bx b_14 47 [(ii 1), (ii 2), (ii 1), (ii 0), (ii 50), (ii 90), (ii 0)] true, bx b_11 32 [(ii 0), (ii 25), (ii 1), (ii 0), (.slice none 0 0), (ii 0), (ii 2), (ii 100), (ii 1), (.slice (some ⟨bi3, 0, none⟩) 2 2), (.slice (some ⟨be3, 0, none⟩) 1 1), (.slice (some ⟨b_14, 0, none⟩) 1 1), (.slice none 0 0)] true, bx bi3 38 [(ii 1), (ii 5), (ii 10), (ii 0), (ii 0), (ii 2), (ii 2), (ii 20), (ii 0), (ii 0)] true, bx be3 43 [(ii 5), (ii 2), (ii 20), (ii 0), (ii 80), (ii 1), (.slice none 0 0)] true, bx b_6 32 [(ii 0), (ii 25), (ii 1), (ii 0), (.slice none 0 0), (ii 0), (ii 2), (ii 100), (ii 1), (.slice (some ⟨bi2, 0, none⟩) 2 2), (.slice (some ⟨be2, 0, none⟩) 1 1), (.slice none 0 0), (.slice none 0 0)] true, bx bi2 38 [(ii 1), (ii 5), (ii 10), (ii 0), (ii 0), (ii 2), (ii 2), (ii 20), (ii 0), (ii 0)] true, bx be2 43 [(ii 5), (ii 2), (ii 20), (ii 0), (ii 81), (ii 0), (.slice none 0 0)] true, bx b_2 32 [(ii 0), (ii 25), (ii 1), (ii 0), (.slice none 0 0), (ii 0), (ii 2), (ii 100), (ii 1), (.slice (some ⟨bi1, 0, none⟩) 2 2), (.slice (some ⟨be1, 0, none⟩) 1 1), (.slice none 0 0), (.slice none 0 0)] true, bx bi1 38 [(ii 1), (ii 5), (ii 10), (ii 0), (ii 0), (ii 2), (ii 2), (ii 20), (ii 0), (ii 0)] true, bx be1 43 [(ii 5), (ii 2), (ii 20), (ii 0), (ii 80), (ii 0), (.slice none 0 0)] true] rfl fun w_18 a H HP => ?_
 refine nl (tn (sq (rg ?_)))
 refine H.u 38 (.agg #[(ii 0), (ii 25), (ii 1), (ii 0), (.slice none 0 0), (ii 0), (ii 2), (ii 100), (ii 1), (.slice (some ⟨bi1, 0, none⟩) 2 2), (.slice (some ⟨be1, 0, none⟩) 1 1), (.slice none 0 0), (.slice none 0 0)]) (ex_lN [(ii 0), (ii 25), (ii 1), (ii 0), (.slice none 0 0), (ii 0), (ii 2), (ii 100), (ii 1), (.slice (some ⟨bi1, 0, none⟩) 2 2), (.slice (some ⟨be1, 0, none⟩) 1 1), (.slice none 0 0), (.slice none 0 0)] (HP.cells 7 rfl 0 13 (by kernel_rfl))) fun a H => H.cb HP 39 (Tryz.call25 _ _) ((by have hh := encode_any (exPl bi1 be1 80 0 none 0 []) w_18 (isEx (HP.at_ 8 rfl) (HP.at_ 9 rfl)) (hL.below HP.bl).rates; rw [show encV (exPl bi1 be1 80 0 none 0 []) = .tuple #[.string (bstr exS), .int .i64 0] from by kernel_rfl] at hh; exact hh)) fun w_19 hb a H HP => H.v 37 (.tuple #[(.string (bstr exS)), (ii 0)]) fun a H => H.v 40 (.string (bstr exS)) fun a H => H.v 41 (ii 0) fun a H => H.v 5 (.string (bstr exS)) fun a H => H.v 6 (ii 0) fun a H => ?_
 refine nl (tn (sq (rg ?_)))
 refine H.v 43 (.string (bstr exS)) fun a H => ?_
 have hlt0 := HP.lt
 refine H.cl 44 (Tryz.call27 _ _) ((by have hh := decode_any a0 a1 exS w_19 (hL.below HP.bl) (by decide +kernel); unfold DecPost at hh; simp only [dec_exS] at hh; exact hh)) ?_
 rintro e w_20 ⟨pd, rfl, hnv, hpd, hnew, hb⟩
 refine ⟨_, rfl, ?_⟩
 intro a H
 have HP := HP.next hb
 have HP := HP.keepF (plnK pd) hpd (plnK_ok pd) (fun j hj => ⟨hpd.lt j hj, fun y hy hyk => by simp only [List.mem_cons, List.not_mem_nil, or_false] at hy; rcases hy with rfl | rfl | rfl | rfl | rfl | rfl | rfl | rfl | rfl | rfl <;> (first | exact Nat.lt_irrefl _ (Nat.lt_of_lt_of_le (hlt0 _ (List.mem_of_getElem? (i := 0) rfl) j hyk) (hnew j hj)) | exact Nat.lt_irrefl _ (Nat.lt_of_lt_of_le (hlt0 _ (List.mem_of_getElem? (i := 1) rfl) j hyk) (hnew j hj)) | exact Nat.lt_irrefl _ (Nat.lt_of_lt_of_le (hlt0 _ (List.mem_of_getElem? (i := 2) rfl) j hyk) (hnew j hj)) | exact Nat.lt_irrefl _ (Nat.lt_of_lt_of_le (hlt0 _ (List.mem_of_getElem? (i := 3) rfl) j hyk) (hnew j hj)) | exact Nat.lt_irrefl _ (Nat.lt_of_lt_of_le (hlt0 _ (List.mem_of_getElem? (i := 4) rfl) j hyk) (hnew j hj)) | exact Nat.lt_irrefl _ (Nat.lt_of_lt_of_le (hlt0 _ (List.mem_of_getElem? (i := 5) rfl) j hyk) (hnew j hj)) | exact Nat.lt_irrefl _ (Nat.lt_of_lt_of_le (hlt0 _ (List.mem_of_getElem? (i := 6) rfl) j hyk) (hnew j hj)) | exact Nat.lt_irrefl _ (Nat.lt_of_lt_of_le (hlt0 _ (List.mem_of_getElem? (i := 7) rfl) j hyk) (hnew j hj)) | exact Nat.lt_irrefl _ (Nat.lt_of_lt_of_le (hlt0 _ (List.mem_of_getElem? (i := 8) rfl) j hyk) (hnew j hj)) | exact Nat.lt_irrefl _ (Nat.lt_of_lt_of_le (hlt0 _ (List.mem_of_getElem? (i := 9) rfl) j hyk) (hnew j hj)))⟩)
 refine H.v 42 (.tuple #[(plV pd), (ii 0)]) fun a H => H.v 45 (plV pd) fun a H => H.v 46 (ii 0) fun a H => H.al HP 7 32 [(ii 0), (ii 0), (ii 0), (ii 0), (.slice none 0 0), (ii 0), (ii 0), (ii 0), (ii 0), (.slice none 0 0), (.slice none 0 0), (.slice none 0 0), (.slice none 0 0)] fun b_21 w_22 a H HP => H.st HP 0 b_21 0 13 32 true (plV pd) [bx b_21 32 (plL pd) true, bx b_14 47 [(ii 1), (ii 2), (ii 1), (ii 0), (ii 50), (ii 90), (ii 0)] true, bx b_11 32 [(ii 0), (ii 25), (ii 1), (ii 0), (.slice none 0 0), (ii 0), (ii 2), (ii 100), (ii 1), (.slice (some ⟨bi3, 0, none⟩) 2 2), (.slice (some ⟨be3, 0, none⟩) 1 1), (.slice (some ⟨b_14, 0, none⟩) 1 1), (.slice none 0 0)] true, bx bi3 38 [(ii 1), (ii 5), (ii 10), (ii 0), (ii 0), (ii 2), (ii 2), (ii 20), (ii 0), (ii 0)] true, bx be3 43 [(ii 5), (ii 2), (ii 20), (ii 0), (ii 80), (ii 1), (.slice none 0 0)] true, bx b_6 32 [(ii 0), (ii 25), (ii 1), (ii 0), (.slice none 0 0), (ii 0), (ii 2), (ii 100), (ii 1), (.slice (some ⟨bi2, 0, none⟩) 2 2), (.slice (some ⟨be2, 0, none⟩) 1 1), (.slice none 0 0), (.slice none 0 0)] true, bx bi2 38 [(ii 1), (ii 5), (ii 10), (ii 0), (ii 0), (ii 2), (ii 2), (ii 20), (ii 0), (ii 0)] true, bx be2 43 [(ii 5), (ii 2), (ii 20), (ii 0), (ii 81), (ii 0), (.slice none 0 0)] true, bx b_2 32 [(ii 0), (ii 25), (ii 1), (ii 0), (.slice none 0 0), (ii 0), (ii 2), (ii 100), (ii 1), (.slice (some ⟨bi1, 0, none⟩) 2 2), (.slice (some ⟨be1, 0, none⟩) 1 1), (.slice none 0 0), (.slice none 0 0)] true, bx bi1 38 [(ii 1), (ii 5), (ii 10), (ii 0), (ii 0), (ii 2), (ii 2), (ii 20), (ii 0), (ii 0)] true, bx be1 43 [(ii 5), (ii 2), (ii 20), (ii 0), (ii 80), (ii 0), (.slice none 0 0)] true] rfl fun w_23 a H HP => H.v 8 (ii 0) fun a H => ?_
 refine nl (tn (sq (rg ?_)))
 refine H.u 48 (.agg #[(ii 0), (ii 25), (ii 1), (ii 0), (.slice none 0 0), (ii 0), (ii 2), (ii 100), (ii 1), (.slice (some ⟨bi2, 0, none⟩) 2 2), (.slice (some ⟨be2, 0, none⟩) 1 1), (.slice none 0 0), (.slice none 0 0)]) (ex_lN [(ii 0), (ii 25), (ii 1), (ii 0), (.slice none 0 0), (ii 0), (ii 2), (ii 100), (ii 1), (.slice (some ⟨bi2, 0, none⟩) 2 2), (.slice (some ⟨be2, 0, none⟩) 1 1), (.slice none 0 0), (.slice none 0 0)] (HP.cells 5 rfl 0 13 (by kernel_rfl))) fun a H => H.cb HP 49 (Tryz.call25 _ _) ((by have hh := encode_any (exPl bi2 be2 81 0 none 0 []) w_23 (isEx (HP.at_ 6 rfl) (HP.at_ 7 rfl)) (hL.below HP.bl).rates; rw [show encV (exPl bi2 be2 81 0 none 0 []) = .tuple #[.string (bstr []), .int .i64 80] from by kernel_rfl] at hh; exact hh)) fun w_24 hb a H HP => H.v 47 (.tuple #[(.string (bstr ([]))), (ii 80)]) fun a H => H.v 50 (.string (bstr ([]))) fun a H => H.v 51 (ii 80) fun a H => H.v 9 (.string (bstr ([]))) fun a H => H.v 10 (ii 80) fun a H => ?_
 refine nl (tn (sq (rg ?_)))
 refine H.cl 53 (Tryz.call27 _ _) ((by have hh := decode_any a0 a1 [] w_24 (hL.below HP.bl) (by decide); unfold DecPost at hh; simp only [dec_nil] at hh; exact hh)) ?_
 rintro e w_25 ⟨p2, rfl, _, _, _, hb⟩
 refine ⟨_, rfl, ?_⟩
 intro a H
 have HP := HP.next hb
 refine H.v 52 (.tuple #[(plV p2), (ii 10)]) fun a H => H.v 54 (plV p2) fun a H => H.v 55 (ii 10) fun a H => H.al HP 11 32 [(ii 0), (ii 0), (ii 0), (ii 0), (.slice none 0 0), (ii 0), (ii 0), (ii 0), (ii 0), (.slice none 0 0), (.slice none 0 0), (.slice none 0 0), (.slice none 0 0)] fun b_26 w_27 a H HP => H.st HP 0 b_26 0 13 32 true (plV p2) [bx b_26 32 (plL p2) true, bx b_21 32 (plL pd) true, bx b_14 47 [(ii 1), (ii 2), (ii 1), (ii 0), (ii 50), (ii 90), (ii 0)] true, bx b_11 32 [(ii 0), (ii 25), (ii 1), (ii 0), (.slice none 0 0), (ii 0), (ii 2), (ii 100), (ii 1), (.slice (some ⟨bi3, 0, none⟩) 2 2), (.slice (some ⟨be3, 0, none⟩) 1 1), (.slice (some ⟨b_14, 0, none⟩) 1 1), (.slice none 0 0)] true, bx bi3 38 [(ii 1), (ii 5), (ii 10), (ii 0), (ii 0), (ii 2), (ii 2), (ii 20), (ii 0), (ii 0)] true, bx be3 43 [(ii 5), (ii 2), (ii 20), (ii 0), (ii 80), (ii 1), (.slice none 0 0)] true, bx b_6 32 [(ii 0), (ii 25), (ii 1), (ii 0), (.slice none 0 0), (ii 0), (ii 2), (ii 100), (ii 1), (.slice (some ⟨bi2, 0, none⟩) 2 2), (.slice (some ⟨be2, 0, none⟩) 1 1), (.slice none 0 0), (.slice none 0 0)] true, bx bi2 38 [(ii 1), (ii 5), (ii 10), (ii 0), (ii 0), (ii 2), (ii 2), (ii 20), (ii 0), (ii 0)] true, bx be2 43 [(ii 5), (ii 2), (ii 20), (ii 0), (ii 81), (ii 0), (.slice none 0 0)] true, bx b_2 32 [(ii 0), (ii 25), (ii 1), (ii 0), (.slice none 0 0), (ii 0), (ii 2), (ii 100), (ii 1), (.slice (some ⟨bi1, 0, none⟩) 2 2), (.slice (some ⟨be1, 0, none⟩) 1 1), (.slice none 0 0), (.slice none 0 0)] true, bx bi1 38 [(ii 1), (ii 5), (ii 10), (ii 0), (ii 0), (ii 2), (ii 2), (ii 20), (ii 0), (ii 0)] true, bx be1 43 [(ii 5), (ii 2), (ii 20), (ii 0), (ii 80), (ii 0), (.slice none 0 0)] true] rfl fun w_28 a H HP => H.v 12 (ii 10) fun a H => ?_
 refine nl (tn (sq (rg ?_)))
 refine H.u 57 (.agg #[(ii 0), (ii 25), (ii 1), (ii 0), (.slice none 0 0), (ii 0), (ii 2), (ii 100), (ii 1), (.slice (some ⟨bi1, 0, none⟩) 2 2), (.slice (some ⟨be1, 0, none⟩) 1 1), (.slice none 0 0), (.slice none 0 0)]) (ex_lN [(ii 0), (ii 25), (ii 1), (ii 0), (.slice none 0 0), (ii 0), (ii 2), (ii 100), (ii 1), (.slice (some ⟨bi1, 0, none⟩) 2 2), (.slice (some ⟨be1, 0, none⟩) 1 1), (.slice none 0 0), (.slice none 0 0)] (HP.cells 9 rfl 0 13 (by kernel_rfl))) fun a H => H.cb HP 58 (Tryz.call18 _ _) (item_any (exPl bi1 be1 80 0 none 0 []) 2 w_28 (isEx (HP.at_ 10 rfl) (HP.at_ 11 rfl))) fun w_29 hb a H HP => H.v 56 (.tuple #[(.agg #[(ii 2), (ii 2), (ii 20), (ii 0), (ii 0)]), (.bool true)]) fun a H => H.v 59 (.agg #[(ii 2), (ii 2), (ii 20), (ii 0), (ii 0)]) fun a H => H.v 60 (.bool true) fun a H => H.al HP 13 38 [(ii 0), (ii 0), (ii 0), (ii 0), (ii 0)] fun b_30 w_31 a H HP => H.st HP 0 b_30 0 5 38 true (.agg #[(ii 2), (ii 2), (ii 20), (ii 0), (ii 0)]) [bx b_30 38 [(ii 2), (ii 2), (ii 20), (ii 0), (ii 0)] true, bx b_26 32 (plL p2) true, bx b_21 32 (plL pd) true, bx b_14 47 [(ii 1), (ii 2), (ii 1), (ii 0), (ii 50), (ii 90), (ii 0)] true, bx b_11 32 [(ii 0), (ii 25), (ii 1), (ii 0), (.slice none 0 0), (ii 0), (ii 2), (ii 100), (ii 1), (.slice (some ⟨bi3, 0, none⟩) 2 2), (.slice (some ⟨be3, 0, none⟩) 1 1), (.slice (some ⟨b_14, 0, none⟩) 1 1), (.slice none 0 0)] true, bx bi3 38 [(ii 1), (ii 5), (ii 10), (ii 0), (ii 0), (ii 2), (ii 2), (ii 20), (ii 0), (ii 0)] true, bx be3 43 [(ii 5), (ii 2), (ii 20), (ii 0), (ii 80), (ii 1), (.slice none 0 0)] true, bx b_6 32 [(ii 0), (ii 25), (ii 1), (ii 0), (.slice none 0 0), (ii 0), (ii 2), (ii 100), (ii 1), (.slice (some ⟨bi2, 0, none⟩) 2 2), (.slice (some ⟨be2, 0, none⟩) 1 1), (.slice none 0 0), (.slice none 0 0)] true, bx bi2 38 [(ii 1), (ii 5), (ii 10), (ii 0), (ii 0), (ii 2), (ii 2), (ii 20), (ii 0), (ii 0)] true, bx be2 43 [(ii 5), (ii 2), (ii 20), (ii 0), (ii 81), (ii 0), (.slice none 0 0)] true, bx b_2 32 [(ii 0), (ii 25), (ii 1), (ii 0), (.slice none 0 0), (ii 0), (ii 2), (ii 100), (ii 1), (.slice (some ⟨bi1, 0, none⟩) 2 2), (.slice (some ⟨be1, 0, none⟩) 1 1), (.slice none 0 0), (.slice none 0 0)] true, bx bi1 38 [(ii 1), (ii 5), (ii 10), (ii 0), (ii 0), (ii 2), (ii 2), (ii 20), (ii 0), (ii 0)] true, bx be1 43 [(ii 5), (ii 2), (ii 20), (ii 0), (ii 80), (ii 0), (.slice none 0 0)] true] rfl fun w_32 a H HP => H.v 14 (.bool true) fun a H => ?_
 refine nl (tn (sq (rg ?_)))
 refine H.u 62 (.agg #[(ii 0), (ii 25), (ii 1), (ii 0), (.slice none 0 0), (ii 0), (ii 2), (ii 100), (ii 1), (.slice (some ⟨bi1, 0, none⟩) 2 2), (.slice (some ⟨be1, 0, none⟩) 1 1), (.slice none 0 0), (.slice none 0 0)]) (ex_lN [(ii 0), (ii 25), (ii 1), (ii 0), (.slice none 0 0), (ii 0), (ii 2), (ii 100), (ii 1), (.slice (some ⟨bi1, 0, none⟩) 2 2), (.slice (some ⟨be1, 0, none⟩) 1 1), (.slice none 0 0), (.slice none 0 0)] (HP.cells 10 rfl 0 13 (by kernel_rfl))) fun a H => ?_
 refine H.cl 63 (Tryz.call20 _ _) (entry_any (exPl bi1 be1 80 0 none 0 []) 2 w_32 (isEx (HP.at_ 11 rfl) (HP.at_ 12 rfl)) (by first | decide | exact (by decide : (0:Nat) ≤ 1000000000))) ?_
 rintro e w_35 ⟨Be_33, ce_34, rfl, _, hb⟩
 refine ⟨_, rfl, ?_⟩
 intro a H
 have HP := HP.next hb
 refine H.v 61 (.tuple #[(.agg #[(ii 0), (ii 0), (ii 0), (ii 0), (ii 0), (ii 0), (.slice Be_33 0 ce_34)]), (.bool false)]) fun a H => H.v 64 (.agg #[(ii 0), (ii 0), (ii 0), (ii 0), (ii 0), (ii 0), (.slice Be_33 0 ce_34)]) fun a H => H.v 65 (.bool false) fun a H => H.al HP 15 43 [(ii 0), (ii 0), (ii 0), (ii 0), (ii 0), (ii 0), (.slice none 0 0)] fun b_36 w_37 a H HP => H.st HP 0 b_36 0 7 43 true (.agg #[(ii 0), (ii 0), (ii 0), (ii 0), (ii 0), (ii 0), (.slice Be_33 0 ce_34)]) [bx b_36 43 [(ii 0), (ii 0), (ii 0), (ii 0), (ii 0), (ii 0), (.slice Be_33 0 ce_34)] true, bx b_30 38 [(ii 2), (ii 2), (ii 20), (ii 0), (ii 0)] true, bx b_26 32 (plL p2) true, bx b_21 32 (plL pd) true, bx b_14 47 [(ii 1), (ii 2), (ii 1), (ii 0), (ii 50), (ii 90), (ii 0)] true, bx b_11 32 [(ii 0), (ii 25), (ii 1), (ii 0), (.slice none 0 0), (ii 0), (ii 2), (ii 100), (ii 1), (.slice (some ⟨bi3, 0, none⟩) 2 2), (.slice (some ⟨be3, 0, none⟩) 1 1), (.slice (some ⟨b_14, 0, none⟩) 1 1), (.slice none 0 0)] true, bx bi3 38 [(ii 1), (ii 5), (ii 10), (ii 0), (ii 0), (ii 2), (ii 2), (ii 20), (ii 0), (ii 0)] true, bx be3 43 [(ii 5), (ii 2), (ii 20), (ii 0), (ii 80), (ii 1), (.slice none 0 0)] true, bx b_6 32 [(ii 0), (ii 25), (ii 1), (ii 0), (.slice none 0 0), (ii 0), (ii 2), (ii 100), (ii 1), (.slice (some ⟨bi2, 0, none⟩) 2 2), (.slice (some ⟨be2, 0, none⟩) 1 1), (.slice none 0 0), (.slice none 0 0)] true, bx bi2 38 [(ii 1), (ii 5), (ii 10), (ii 0), (ii 0), (ii 2), (ii 2), (ii 20), (ii 0), (ii 0)] true, bx be2 43 [(ii 5), (ii 2), (ii 20), (ii 0), (ii 81), (ii 0), (.slice none 0 0)] true, bx b_2 32 [(ii 0), (ii 25), (ii 1), (ii 0), (.slice none 0 0), (ii 0), (ii 2), (ii 100), (ii 1), (.slice (some ⟨bi1, 0, none⟩) 2 2), (.slice (some ⟨be1, 0, none⟩) 1 1), (.slice none 0 0), (.slice none 0 0)] true, bx bi1 38 [(ii 1), (ii 5), (ii 10), (ii 0), (ii 0), (ii 2), (ii 2), (ii 20), (ii 0), (ii 0)] true, bx be1 43 [(ii 5), (ii 2), (ii 20), (ii 0), (ii 80), (ii 0), (.slice none 0 0)] true] rfl fun w_38 a H HP => H.v 16 (.bool false) fun a H => ?_
 refine nl (tn (sq (rg ?_)))
 refine H.u 67 (.agg #[(ii 0), (ii 25), (ii 1), (ii 0), (.slice none 0 0), (ii 0), (ii 2), (ii 100), (ii 1), (.slice (some ⟨bi1, 0, none⟩) 2 2), (.slice (some ⟨be1, 0, none⟩) 1 1), (.slice none 0 0), (.slice none 0 0)]) (ex_lN [(ii 0), (ii 25), (ii 1), (ii 0), (.slice none 0 0), (ii 0), (ii 2), (ii 100), (ii 1), (.slice (some ⟨bi1, 0, none⟩) 2 2), (.slice (some ⟨be1, 0, none⟩) 1 1), (.slice none 0 0), (.slice none 0 0)] (HP.cells 11 rfl 0 13 (by kernel_rfl))) fun a H => ?_
 refine H.cl 68 (Tryz.call20 _ _) (entry_any (exPl bi1 be1 80 0 none 0 []) 5 w_38 (isEx (HP.at_ 12 rfl) (HP.at_ 13 rfl)) (by first | decide | exact (by decide : (0:Nat) ≤ 1000000000))) ?_
 rintro e w_41 ⟨Be_39, ce_40, rfl, _, hb⟩
 refine ⟨_, rfl, ?_⟩
 intro a H
 have HP := HP.next hb
 refine H.v 66 (.tuple #[(.agg #[(ii 5), (ii 2), (ii 20), (ii 0), (ii 80), (ii 0), (.slice Be_39 0 ce_40)]), (.bool true)]) fun a H => H.v 69 (.agg #[(ii 5), (ii 2), (ii 20), (ii 0), (ii 80), (ii 0), (.slice Be_39 0 ce_40)]) fun a H => H.v 70 (.bool true) fun a H => H.al HP 17 43 [(ii 0), (ii 0), (ii 0), (ii 0), (ii 0), (ii 0), (.slice none 0 0)] fun b_42 w_43 a H HP => H.st HP 0 b_42 0 7 43 true (.agg #[(ii 5), (ii 2), (ii 20), (ii 0), (ii 80), (ii 0), (.slice Be_39 0 ce_40)]) [bx b_42 43 [(ii 5), (ii 2), (ii 20), (ii 0), (ii 80), (ii 0), (.slice Be_39 0 ce_40)] true, bx b_36 43 [(ii 0), (ii 0), (ii 0), (ii 0), (ii 0), (ii 0), (.slice Be_33 0 ce_34)] true, bx b_30 38 [(ii 2), (ii 2), (ii 20), (ii 0), (ii 0)] true, bx b_26 32 (plL p2) true, bx b_21 32 (plL pd) true, bx b_14 47 [(ii 1), (ii 2), (ii 1), (ii 0), (ii 50), (ii 90), (ii 0)] true, bx b_11 32 [(ii 0), (ii 25), (ii 1), (ii 0), (.slice none 0 0), (ii 0), (ii 2), (ii 100), (ii 1), (.slice (some ⟨bi3, 0, none⟩) 2 2), (.slice (some ⟨be3, 0, none⟩) 1 1), (.slice (some ⟨b_14, 0, none⟩) 1 1), (.slice none 0 0)] true, bx bi3 38 [(ii 1), (ii 5), (ii 10), (ii 0), (ii 0), (ii 2), (ii 2), (ii 20), (ii 0), (ii 0)] true, bx be3 43 [(ii 5), (ii 2), (ii 20), (ii 0), (ii 80), (ii 1), (.slice none 0 0)] true, bx b_6 32 [(ii 0), (ii 25), (ii 1), (ii 0), (.slice none 0 0), (ii 0), (ii 2), (ii 100), (ii 1), (.slice (some ⟨bi2, 0, none⟩) 2 2), (.slice (some ⟨be2, 0, none⟩) 1 1), (.slice none 0 0), (.slice none 0 0)] true, bx bi2 38 [(ii 1), (ii 5), (ii 10), (ii 0), (ii 0), (ii 2), (ii 2), (ii 20), (ii 0), (ii 0)] true, bx be2 43 [(ii 5), (ii 2), (ii 20), (ii 0), (ii 81), (ii 0), (.slice none 0 0)] true, bx b_2 32 [(ii 0), (ii 25), (ii 1), (ii 0), (.slice none 0 0), (ii 0), (ii 2), (ii 100), (ii 1), (.slice (some ⟨bi1, 0, none⟩) 2 2), (.slice (some ⟨be1, 0, none⟩) 1 1), (.slice none 0 0), (.slice none 0 0)] true, bx bi1 38 [(ii 1), (ii 5), (ii 10), (ii 0), (ii 0), (ii 2), (ii 2), (ii 20), (ii 0), (ii 0)] true, bx be1 43 [(ii 5), (ii 2), (ii 20), (ii 0), (ii 80), (ii 0), (.slice none 0 0)] true] rfl fun w_44 a H HP => H.v 18 (.bool true) fun a H => ?_
 refine nl (tn (sq (rg ?_)))
 refine H.u 72 (.agg #[(ii 0), (ii 25), (ii 1), (ii 0), (.slice none 0 0), (ii 0), (ii 2), (ii 100), (ii 1), (.slice (some ⟨bi3, 0, none⟩) 2 2), (.slice (some ⟨be3, 0, none⟩) 1 1), (.slice (some ⟨b_14, 0, none⟩) 1 1), (.slice none 0 0)]) (ex_lN [(ii 0), (ii 25), (ii 1), (ii 0), (.slice none 0 0), (ii 0), (ii 2), (ii 100), (ii 1), (.slice (some ⟨bi3, 0, none⟩) 2 2), (.slice (some ⟨be3, 0, none⟩) 1 1), (.slice (some ⟨b_14, 0, none⟩) 1 1), (.slice none 0 0)] (HP.cells 6 rfl 0 13 (by kernel_rfl))) fun a H => H.cb HP 73 (Tryz.call22 _ _) (booking_any (exPl bi3 be3 80 1 (some ⟨b_14, 0, none⟩) 1 [⟨1, 2, 1, 0, 50, 90, 0⟩]) 1 w_44 (isExB (HP.at_ 7 rfl) (HP.at_ 8 rfl) (HP.at_ 5 rfl))) fun w_45 hb a H HP => H.v 71 (.tuple #[(.agg #[(ii 1), (ii 2), (ii 1), (ii 0), (ii 50), (ii 90), (ii 0)]), (.bool true)]) fun a H => H.v 74 (.agg #[(ii 1), (ii 2), (ii 1), (ii 0), (ii 50), (ii 90), (ii 0)]) fun a H => H.v 75 (.bool true) fun a H => H.al HP 19 47 [(ii 0), (ii 0), (ii 0), (ii 0), (ii 0), (ii 0), (ii 0)] fun b_46 w_47 a H HP => H.st HP 0 b_46 0 7 47 true (.agg #[(ii 1), (ii 2), (ii 1), (ii 0), (ii 50), (ii 90), (ii 0)]) [bx b_46 47 [(ii 1), (ii 2), (ii 1), (ii 0), (ii 50), (ii 90), (ii 0)] true, bx b_42 43 [(ii 5), (ii 2), (ii 20), (ii 0), (ii 80), (ii 0), (.slice Be_39 0 ce_40)] true, bx b_36 43 [(ii 0), (ii 0), (ii 0), (ii 0), (ii 0), (ii 0), (.slice Be_33 0 ce_34)] true, bx b_30 38 [(ii 2), (ii 2), (ii 20), (ii 0), (ii 0)] true, bx b_26 32 (plL p2) true, bx b_21 32 (plL pd) true, bx b_14 47 [(ii 1), (ii 2), (ii 1), (ii 0), (ii 50), (ii 90), (ii 0)] true, bx b_11 32 [(ii 0), (ii 25), (ii 1), (ii 0), (.slice none 0 0), (ii 0), (ii 2), (ii 100), (ii 1), (.slice (some ⟨bi3, 0, none⟩) 2 2), (.slice (some ⟨be3, 0, none⟩) 1 1), (.slice (some ⟨b_14, 0, none⟩) 1 1), (.slice none 0 0)] true, bx bi3 38 [(ii 1), (ii 5), (ii 10), (ii 0), (ii 0), (ii 2), (ii 2), (ii 20), (ii 0), (ii 0)] true, bx be3 43 [(ii 5), (ii 2), (ii 20), (ii 0), (ii 80), (ii 1), (.slice none 0 0)] true, bx b_6 32 [(ii 0), (ii 25), (ii 1), (ii 0), (.slice none 0 0), (ii 0), (ii 2), (ii 100), (ii 1), (.slice (some ⟨bi2, 0, none⟩) 2 2), (.slice (some ⟨be2, 0, none⟩) 1 1), (.slice none 0 0), (.slice none 0 0)] true, bx bi2 38 [(ii 1), (ii 5), (ii 10), (ii 0), (ii 0), (ii 2), (ii 2), (ii 20), (ii 0), (ii 0)] true, bx be2 43 [(ii 5), (ii 2), (ii 20), (ii 0), (ii 81), (ii 0), (.slice none 0 0)] true, bx b_2 32 [(ii 0), (ii 25), (ii 1), (ii 0), (.slice none 0 0), (ii 0), (ii 2), (ii 100), (ii 1), (.slice (some ⟨bi1, 0, none⟩) 2 2), (.slice (some ⟨be1, 0, none⟩) 1 1), (.slice none 0 0), (.slice none 0 0)] true, bx bi1 38 [(ii 1), (ii 5), (ii 10), (ii 0), (ii 0), (ii 2), (ii 2), (ii 20), (ii 0), (ii 0)] true, bx be1 43 [(ii 5), (ii 2), (ii 20), (ii 0), (ii 80), (ii 0), (.slice none 0 0)] true] rfl fun w_48 a H HP => H.v 20 (.bool true) fun a H => ?_
 refine nl (tn (sq (rg ?_)))
 refine H.u 76 (.agg #[(ii 0), (ii 25), (ii 1), (ii 0), (.slice none 0 0), (ii 0), (ii 2), (ii 100), (ii 1), (.slice (some ⟨bi1, 0, none⟩) 2 2), (.slice (some ⟨be1, 0, none⟩) 1 1), (.slice none 0 0), (.slice none 0 0)]) (ex_lN [(ii 0), (ii 25), (ii 1), (ii 0), (.slice none 0 0), (ii 0), (ii 2), (ii 100), (ii 1), (.slice (some ⟨bi1, 0, none⟩) 2 2), (.slice (some ⟨be1, 0, none⟩) 1 1), (.slice none 0 0), (.slice none 0 0)] (HP.cells 13 rfl 0 13 (by kernel_rfl))) fun a H => H.cb HP 77 (Tryz.call14 _ _) ((by have hh := valid_any (exPl bi1 be1 80 0 none 0 []) w_48 (isEx (HP.at_ 14 rfl) (HP.at_ 15 rfl)) (hL.below HP.bl).rates; rw [show validPl (exPl bi1 be1 80 0 none 0 []) = true from by kernel_rfl] at hh; exact hh)) fun w_49 hb a H HP => H.v 78 (.bool true) fun a H => H.u 79 (.agg #[(ii 0), (ii 25), (ii 1), (ii 0), (.slice none 0 0), (ii 0), (ii 2), (ii 100), (ii 1), (.slice (some ⟨bi2, 0, none⟩) 2 2), (.slice (some ⟨be2, 0, none⟩) 1 1), (.slice none 0 0), (.slice none 0 0)]) (ex_lN [(ii 0), (ii 25), (ii 1), (ii 0), (.slice none 0 0), (ii 0), (ii 2), (ii 100), (ii 1), (.slice (some ⟨bi2, 0, none⟩) 2 2), (.slice (some ⟨be2, 0, none⟩) 1 1), (.slice none 0 0), (.slice none 0 0)] (HP.cells 10 rfl 0 13 (by kernel_rfl))) fun a H => H.cb HP 80 (Tryz.call14 _ _) ((by have hh := valid_any (exPl bi2 be2 81 0 none 0 []) w_49 (isEx (HP.at_ 11 rfl) (HP.at_ 12 rfl)) (hL.below HP.bl).rates; rw [show validPl (exPl bi2 be2 81 0 none 0 []) = false from by kernel_rfl] at hh; exact hh)) fun w_50 hb a H HP => H.v 81 (.bool true) fun a H => H.v 82 (.bool true) fun a H => H.v 83 (.bool true) fun a H => H.v 84 (.bool true) fun a H => H.v 85 (.bool true) fun a H => H.v 86 (.bool true) fun a H => H.u 87 (.agg #[(ii 0), (ii 25), (ii 1), (ii 0), (.slice none 0 0), (ii 0), (ii 2), (ii 100), (ii 1), (.slice (some ⟨bi3, 0, none⟩) 2 2), (.slice (some ⟨be3, 0, none⟩) 1 1), (.slice (some ⟨b_14, 0, none⟩) 1 1), (.slice none 0 0)]) (ex_lN [(ii 0), (ii 25), (ii 1), (ii 0), (.slice none 0 0), (ii 0), (ii 2), (ii 100), (ii 1), (.slice (some ⟨bi3, 0, none⟩) 2 2), (.slice (some ⟨be3, 0, none⟩) 1 1), (.slice (some ⟨b_14, 0, none⟩) 1 1), (.slice none 0 0)] (HP.cells 7 rfl 0 13 (by kernel_rfl))) fun a H => H.cb HP 88 (Tryz.call14 _ _) ((by have hh := valid_any (exPl bi3 be3 80 1 (some ⟨b_14, 0, none⟩) 1 [⟨1, 2, 1, 0, 50, 90, 0⟩]) w_50 (isExB (HP.at_ 8 rfl) (HP.at_ 9 rfl) (HP.at_ 6 rfl)) (hL.below HP.bl).rates; rw [show validPl (exPl bi3 be3 80 1 (some ⟨b_14, 0, none⟩) 1 [⟨1, 2, 1, 0, 50, 90, 0⟩]) = false from by kernel_rfl] at hh; exact hh)) fun w_51 hb a H HP => H.v 89 (.bool true) fun a H => H.v 90 (.bool true) fun a H => H.v 91 (.bool true) fun a H => ?_
 refine H.v 92 (ii 0) fun a H => H.v 93 (.bool true) fun a H => H.v 94 (.bool true) fun a H => H.v 95 (.bool true) fun a H => H.v 96 (ii 0) fun a H => H.v 97 (.bool true) fun a H => H.v 98 (.bool true) fun a H => H.v 99 (.bool true) fun a H => H.u 100 (.agg #[(ii 0), (ii 25), (ii 1), (ii 0), (.slice none 0 0), (ii 0), (ii 2), (ii 100), (ii 1), (.slice (some ⟨bi1, 0, none⟩) 2 2), (.slice (some ⟨be1, 0, none⟩) 1 1), (.slice none 0 0), (.slice none 0 0)]) (ex_lN [(ii 0), (ii 25), (ii 1), (ii 0), (.slice none 0 0), (ii 0), (ii 2), (ii 100), (ii 1), (.slice (some ⟨bi1, 0, none⟩) 2 2), (.slice (some ⟨be1, 0, none⟩) 1 1), (.slice none 0 0), (.slice none 0 0)] (HP.cells 13 rfl 0 13 (by kernel_rfl))) fun a H => H.u 101 (plV pd) (ex_lN (plL pd) (HP.cells 5 rfl 0 13 (by kernel_rfl))) fun a H => H.cb HP 102 (Tryz.call16 _ _) ((by have hh := same_any (exPl bi1 be1 80 0 none 0 []) pd w_51 (isEx (HP.at_ 14 rfl) (HP.at_ 15 rfl)) (HP.fact 0 rfl : IsPln _ pd); rw [show decide ((exPl bi1 be1 80 0 none 0 []).nv = pd.nv) = true from (by rw [hnv]; exact decide_eq_true rfl)] at hh; exact hh)) fun w_52 hb a H HP => H.v 103 (.bool true) fun a H => H.v 104 (.bool true) fun a H => H.u 105 (.agg #[(ii 0), (ii 25), (ii 1), (ii 0), (.slice none 0 0), (ii 0), (ii 2), (ii 100), (ii 1), (.slice (some ⟨bi1, 0, none⟩) 2 2), (.slice (some ⟨be1, 0, none⟩) 1 1), (.slice none 0 0), (.slice none 0 0)]) (ex_lN [(ii 0), (ii 25), (ii 1), (ii 0), (.slice none 0 0), (ii 0), (ii 2), (ii 100), (ii 1), (.slice (some ⟨bi1, 0, none⟩) 2 2), (.slice (some ⟨be1, 0, none⟩) 1 1), (.slice none 0 0), (.slice none 0 0)] (HP.cells 13 rfl 0 13 (by kernel_rfl))) fun a H => H.u 106 (.agg #[(ii 0), (ii 25), (ii 1), (ii 0), (.slice none 0 0), (ii 0), (ii 2), (ii 100), (ii 1), (.slice (some ⟨bi2, 0, none⟩) 2 2), (.slice (some ⟨be2, 0, none⟩) 1 1), (.slice none 0 0), (.slice none 0 0)]) (ex_lN [(ii 0), (ii 25), (ii 1), (ii 0), (.slice none 0 0), (ii 0), (ii 2), (ii 100), (ii 1), (.slice (some ⟨bi2, 0, none⟩) 2 2), (.slice (some ⟨be2, 0, none⟩) 1 1), (.slice none 0 0), (.slice none 0 0)] (HP.cells 10 rfl 0 13 (by kernel_rfl))) fun a H => H.cb HP 107 (Tryz.call16 _ _) ((by have hh := same_any (exPl bi1 be1 80 0 none 0 []) (exPl bi2 be2 81 0 none 0 []) w_52 (isEx (HP.at_ 14 rfl) (HP.at_ 15 rfl)) (isEx (HP.at_ 11 rfl) (HP.at_ 12 rfl)); rw [show decide ((exPl bi1 be1 80 0 none 0 []).nv = (exPl bi2 be2 81 0 none 0 []).nv) = false from (by kernel_rfl)] at hh; exact hh)) fun w_53 hb a H HP => ?_
 refine H.v 108 (.bool true) fun a H => H.v 109 (.bool true) fun a H => H.v 110 (.bool true) fun a H => H.v 111 (ii 80) fun a H => H.v 112 (.bool true) fun a H => H.v 113 (.bool true) fun a H => H.v 114 (.bool true) fun a H => H.v 115 (ii 10) fun a H => H.v 116 (.bool true) fun a H => H.v 117 (.bool true) fun a H => H.v 118 (.bool true) fun a H => H.v 119 (.bool true) fun a H => H.v 120 (.bool true) fun a H => H.v 121 (.bool true) fun a H => H.v 122 (pt b_30 2) fun a H => H.u 123 (ii 20) (ex_l1 (HP.cell 3 rfl 2 rfl)) fun a H => ?_
 refine H.v 124 (.bool true) fun a H => H.v 125 (.bool true) fun a H => H.v 126 (.bool true) fun a H => H.v 127 (.bool false) fun a H => H.v 128 (.bool true) fun a H => H.v 129 (.bool true) fun a H => H.v 130 (.bool true) fun a H => H.v 131 (.bool true) fun a H => H.v 132 (.bool true) fun a H => H.v 133 (.bool true) fun a H => H.v 134 (pt b_42 4) fun a H => H.u 135 (ii 80) (ex_l1 (HP.cell 1 rfl 4 rfl)) fun a H => H.v 136 (.bool true) fun a H => H.v 137 (.bool true) fun a H => H.v 138 (.bool true) fun a H => H.v 139 (.bool true) fun a H => ?_
 refine H.v 140 (.bool true) fun a H => H.v 141 (.bool true) fun a H => H.v 142 (pt b_46 5) fun a H => H.u 143 (ii 90) (ex_l1 (HP.cell 0 rfl 5 rfl)) fun a H => H.v 144 (.bool true) fun a H => H.v 145 (.bool true) fun a H => H.v 0 (.bool true) fun a H => ?_
 refine nl (tn (rt ?_))
 refine H.r1 (.bool true) Tryz.results12 ?_
 exact ⟨rfl, HP.bl⟩
theorem Hp.keepQ {w0 w w' : World} {L : List HB} {K : List FK} (H : Hp w0 w L K) (hb : Below w.heap.size w w') (hL : (L.all fun x => x.fresh) = true) (q : Pln) (hq : IsPln w' q) (hfr : ∀ j, q.fp j → j < w0.heap.size ∨ w.heap.size ≤ j) : Hp w0 w' L (plnK q :: K) :=
  (H.next hb).keepF (plnK q) hq (plnK_ok q) fun j hj => ⟨hq.lt j hj, fun x hx hxk => by
    rcases hfr j hj with h | h
    · have := H.fresh x hx (List.all_eq_true.1 hL x hx) j hxk; omega
    · have := H.lt x hx j hxk; omega⟩
theorem vE {v : PlN} (h : validN v = true) : validPl v.pl = true := by rw [validPl_nv, PlN.nv_pl]; exact h
theorem take_min {α : Type} (s : List α) (k : Nat) : s.take (min s.length k) = s.take k := by
  rcases Nat.le_total s.length k with h | h
  · rw [Nat.min_eq_left h, List.take_of_length_le h, List.take_of_length_le (Nat.le_refl _)]
  · rw [Nat.min_eq_right h]
theorem decode_law (s : List UInt8) (w : World) (a0 a1 : Addr) (hL : LaidP a0 a1 w) : Calls Tryz.prog 6 #[.string (bstr s)] w fun e w' => e = .returned (.bool true) ∧ Below w.heap.size w w' := by
 have HP := Hp.start w
 have hs5 : (s.take 5000).length ≤ 1000000 := by rw [tl_]; omega
 refine w_enter 37 [(0, (.string (bstr s)))] Tryz.func6 rfl Tryz.ntmps6 (by kernel_rfl) (by kernel_rfl) fun a H => ?_
 refine sq (rg ?_)
 refine H.v 2 (.bool false) fun a H => ?_
 refine nl (tn (sq (rg ?_)))
 refine H.cb HP 9 (Tryz.call12 _ _) (sane_any a0 a1 w (hL.below HP.bl)) fun w_1 hb a H HP => H.v 3 (.bool true) fun a H => ?_
 refine nl (tn (sq (rg ?_)))
 refine H.v 10 (.string (bstr s)) fun a H => H.v 11 (.string (bstr s)) fun a H => H.v 12 (ii s.length) fun a H => H.valE 13 (ii (if (5000 : Int) < (s.length : Int) then 5000 else (s.length : Int))) (ii ((min s.length 5000 : Nat) : Int)) (by kernel_rfl) (by kernel_rfl) ((congrArg (Value.int .i64) (by split <;> omega))) fun a H => H.valE 14 (.string (bstr (s.take (min s.length 5000)))) (.string (bstr (s.take 5000))) (by kernel_rfl) (ex_ssliceH (kk := .i64) (l := s) (j := ((min s.length 5000 : Nat) : Int)) (b := min s.length 5000) (by kernel_rfl) (by kernel_rfl) (by kernel_rfl) (by omega) (by omega)) ((congrArg (fun x => Value.string (bstr x)) (take_min _ _))) fun a H => H.v 0 (.string (bstr (s.take 5000))) fun a H => ?_
 refine nl (tn (sq (rg ?_)))
 refine H.v 16 (.string (bstr (s.take 5000))) fun a H => ?_
 refine H.cl 17 (Tryz.call27 _ _) ((by have hh := decode_any a0 a1 (s.take 5000) w_1 (hL.below HP.bl) hs5; unfold DecPost at hh; exact hh)) ?_
 rintro e w_2 ⟨d1, rfl, hnv_d1, hq_d1, hfr_d1, hb⟩
 refine ⟨_, rfl, ?_⟩
 intro a H
 have HP := HP.keepQ hb (by kernel_rfl) d1 hq_d1 (fun j hj => .inr (hfr_d1 j hj))
 refine H.v 15 (.tuple #[(plV d1), (ii ((decN (s.take 5000)).2))]) fun a H => H.v 18 (plV d1) fun a H => H.v 19 (ii ((decN (s.take 5000)).2)) fun a H => H.al HP 4 32 [(ii 0), (ii 0), (ii 0), (ii 0), (.slice none 0 0), (ii 0), (ii 0), (ii 0), (ii 0), (.slice none 0 0), (.slice none 0 0), (.slice none 0 0), (.slice none 0 0)] fun b_3 w_4 a H HP => H.st HP 0 b_3 0 13 32 true (plV d1) [bx b_3 32 (plL d1) true] rfl fun w_5 a H HP => H.v 5 (ii ((decN (s.take 5000)).2)) fun a H => ?_
 refine nl (tn (sq (rg ?_)))
 refine H.v 21 (.string (bstr (s.take 5000))) fun a H => ?_
 refine H.cl 22 (Tryz.call28 _ _) ((by have hh := rdecode_any (s.take 5000) w_5 hs5; unfold DecPost at hh; exact hh)) ?_
 rintro e w_6 ⟨d2, rfl, hnv_d2, hq_d2, hfr_d2, hb⟩
 refine ⟨_, rfl, ?_⟩
 intro a H
 have HP := HP.keepQ hb (by kernel_rfl) d2 hq_d2 (fun j hj => .inr (hfr_d2 j hj))
 refine H.v 20 (.tuple #[(plV d2), (ii ((decN (s.take 5000)).2))]) fun a H => H.v 23 (plV d2) fun a H => H.v 24 (ii ((decN (s.take 5000)).2)) fun a H => H.al HP 6 32 [(ii 0), (ii 0), (ii 0), (ii 0), (.slice none 0 0), (ii 0), (ii 0), (ii 0), (ii 0), (.slice none 0 0), (.slice none 0 0), (.slice none 0 0), (.slice none 0 0)] fun b_7 w_8 a H HP => H.st HP 0 b_7 0 13 32 true (plV d2) [bx b_7 32 (plL d2) true, bx b_3 32 (plL d1) true] rfl fun w_9 a H HP => H.v 7 (ii ((decN (s.take 5000)).2)) fun a H => ?_
 refine nl (tn (sq (rg ?_)))
 refine H.u 25 (plV d1) (ex_lN (plL d1) (HP.cells 1 rfl 0 13 (by kernel_rfl))) fun a H => H.u 26 (plV d2) (ex_lN (plL d2) (HP.cells 0 rfl 0 13 (by kernel_rfl))) fun a H => H.cb HP 27 (Tryz.call17 _ _) ((by have hh := rsame_any d1 d2 w_9 (HP.fact 1 rfl : IsPln _ d1) (HP.fact 0 rfl : IsPln _ d2); rw [decide_eq_true (show d1.nv = d2.nv from hnv_d1.trans hnv_d2.symm)] at hh; exact hh)) fun w_10 hb a H HP => H.v 8 (.bool true) fun a H => ?_
 refine nl (tn (sq (rg ?_)))
 refine H.v 28 (.bool true) fun a H => H.v 29 (.bool true) fun a H => H.v 30 (.bool true) fun a H => H.v 31 (.bool true) fun a H => H.v 32 (.bool true) fun a H => H.v 33 (ii ((decN (s.take 5000)).2)) fun a H => H.v 34 (ii ((decN (s.take 5000)).2)) fun a H => H.valE 35 (.bool ((decN (s.take 5000)).2 == (decN (s.take 5000)).2)) (.bool true) (by kernel_rfl) (by kernel_rfl) ((congrArg Value.bool (beq_self_eq_true _))) fun a H => H.v 36 (.bool true) fun a H => H.v 2 (.bool true) fun a H => ?_
 refine nl (tn (rt ?_))
 refine H.r1 (.bool true) Tryz.results6 ?_
 exact ⟨rfl, HP.bl⟩
open Go.Deep
structure Op (P : Program) (t : TypeId) (α : Type) where
  size : Nat
  cells : α → List Value
  ok : World → α → Prop
  csize : P.cellsOf t = size
  len : ∀ a, (cells a).length = size
  opens : ∀ {H : Type} {enc : TypeId × Value → H} {w : World} {base : Nat} {held : Bool} {fuel : Nat} {cs : List Value} {x : DataW H × List MemPlace},
    DataW.trod enc P w base (fun _ => true) held fuel t cs = some x → (∀ n ∈ x.1.weights P t, n ≤ reachBytes) → ∃ a, cs = cells a ∧ ok w a
end Go.Proofs.YteeillphhiaopaaGreatDoor
namespace Go.Proofs.YteeillphhiaopaaGreatDoor.planDecodeMatchesReference
set_option maxRecDepth 100000
set_option maxHeartbeats 4000000
open Go.ChangeShapes Go.WideShapes Go.ChangeAt Go.RowKit
set_option linter.unusedVariables false
theorem walk (x0 : ByteArray) (w : World) (h : ∃ a0 a1, LaidP a0 a1 w) (hx0 : x0.size ≤ reachBytes) : Calls Tryz.prog 6 #[.string x0] w fun e w' => e = .returned (.bool true) ∧ Below w.heap.size w w' := by
  obtain ⟨a0, a1, hL⟩ := h
  obtain ⟨lx0, rfl⟩ := bstr_of x0
  exact decode_law lx0 w a0 a1 hL
end Go.Proofs.YteeillphhiaopaaGreatDoor.planDecodeMatchesReference
namespace Go.Proofs.YteeillphhiaopaaGreatDoor.planDecodeMatchesReference
set_option maxRecDepth 100000
set_option maxHeartbeats 4000000
open Go.ChangeShapes Go.WideShapes Go.ChangeAt Go.RowKit
open Go.ChangeMaps (open_string shut_string)
set_option linter.unusedVariables false
theorem own : ownKnob Tryz.prog.godebug = none := by kernel_rfl
theorem laidOut : laidOutB Tryz.prog = true := by kernel_rfl
set_option maxRecDepth 100000 in
theorem lifted (os : Os) (started : os.Started) (H : Type) (enc : TypeId × Value → H) :
    ReturnsInHanded {} Tryz.checked os 6 .any (fun w args => (Rows.planDecodeMatchesReferenceSpec.pre enc Tryz.prog Tryz.f6 [] false w args ∧ laidMetH Tryz.prog laid2 w) ∧ sizedMet enc Tryz.prog Tryz.f6 (OpenSpec.ofChange Rows.planDecodeMatchesReferenceSpec) false w args) (Rows.planDecodeMatchesReferenceSpec.post enc Tryz.prog Tryz.f6 false true false false) := by
  refine returnsInHanded_of_change_and (C := Tryz.checked) (X := fun w _ => laidMetH Tryz.prog laid2 w) (fun _ _ _ hh h => h.of_heap hh) own started (by kernel_rfl) Tryz.func6
    (ChangeSpec.witness_shaped (enc := enc) (C := Tryz.checked) (os := os) (X := fun w _ => laidMetH Tryz.prog laid2 w) false (World.doorLaid Tryz.prog 4000 os) #[.string ByteArray.empty] 12 rfl (World.shaped_of_RefB (by kernel_rfl) (by kernel_rfl)) (by kernel_rfl) (by kernel_rfl) (by kernel_rfl) (door_met os _)) ?_
  intro W base args ds gs before hval0 hW hcnd hsz0 hL _
  have hval : ∀ (j : Nat) t v, Tryz.f6.params[j]? = some t → args[j]? = some v → Value.okWide Tryz.prog W .any base t v := hval0
  have hW' := hW
  obtain ⟨p, q, hA0, hV, rfl, hfz, hnd⟩ := hW
  have hA : DataW.TrodAll enc Tryz.prog W 0 (fun _ => true) true Tryz.f6.params.toList args.toList ds p := hA0
  have hsz : (DataW.weightsEach Tryz.prog (Tryz.f6.params.toList ++ Rows.planDecodeMatchesReferenceSpec.plain.varTypes Tryz.prog) (ds ++ gs)).all (· ≤ reachBytes) = true := hsz0
  rw [Tryz.params6] at hA hval hsz
  obtain ⟨v0, vs0, d0, ds0, p0, q0, hargs, rfl, rfl, h0, r0⟩ := trodAll_cons hA
  obtain ⟨rfl, rfl, rfl⟩ := trodAll_nil r0
  obtain rfl : args = #[v0] := by cases args; simp_all
  obtain ⟨rfl, rfl⟩ := trodVars_none hV
  obtain ⟨s0, rfl, rfl, rfl, w0⟩ := open_string Tryz.underlying9 (hval 0 9 v0 rfl rfl) h0
  have r0s : s0.size ≤ reachBytes := by have q := sized_string hsz (j := 0) (t := 9) (by rfl) (by rfl); rw [Array.length_toList] at q; exact q
  clear hA0 hval0 hsz0
  refine (walk s0 W (laid_of hL) r0s).mono fun e W' ⟨he, bel⟩ => ?_
  subst he
  exact ⟨_, rfl, _, _, _, [], _, [], hW', trodAll_mk1 (shut_bool Tryz.underlying4 _), (trodAll_cons_mk (shut_string Tryz.underlying9 w0) trodAll_mk0), rfl, bel.frame _, fun h => by cases h⟩
theorem over : Rows.planDecodeMatchesReferenceRow.holds Tryz.pinned (OpenSpec.ofChange Rows.planDecodeMatchesReferenceSpec) :=
  OpenClaim.holds_of_wide 6 Tryz.f6 rfl rfl rfl rfl rfl rfl rfl ⟨rfl, rfl, rfl, rfl, rfl⟩ rfl rfl rfl rfl rfl (by kernel_rfl) Tryz.func6 (by kernel_rfl)
    (of_decide_eq_true (by kernel_rfl)) (by unfold Func.isWrapper; first | (rw [if_pos (by decide +kernel)]; kernel_rfl) | (rw [if_neg (by decide +kernel)]; exact ⟨rfl, rfl⟩))
    (fun os started H enc _ => lifted os started H enc)
theorem proved : Rows.PlanDecodeMatchesReferenceCardSaid :=
  Claim7.holds_tied_plain_at .later [] [.data, .sentinel, .sentinel] true (true, "0920b850dcc38d1adf8ac1a12a8052cedc72f0c93030e4301d2dcc84e7d73c35") true
    over (fun _ h => by cases h) (by kernel_rfl) (fun _ h => by cases h) planDecodeMatchesReference_row_tie rfl ⟨rfl, rfl⟩ (by kernel_rfl) rfl
    (fun f fn hf hfn => by
      obtain rfl : f = 6 := Option.some.inj ((show Tryz.prog.funcNamed "onair/onairlaw08.PlanDecodeMatchesReference" = some 6 by kernel_rfl).symm.trans hf) |>.symm
      obtain rfl : fn = Tryz.f6 := (Option.some.inj (Tryz.func6.symm.trans hfn)).symm
      exact ⟨by kernel_rfl, fun j t ht => by
        rw [Tryz.params6] at ht
        have hm : t ∈ [9] := by simpa using Array.mem_of_getElem? ht
        have hall : ([9].all fun u => !Tryz.prog.wantsStandIn u) = true := by kernel_rfl
        exact (show Tryz.prog.wantsStandIn t = false by simpa using List.all_eq_true.1 hall t hm)⟩)
    (by kernel_rfl)
#print axioms proved
end Go.Proofs.YteeillphhiaopaaGreatDoor.planDecodeMatchesReference
