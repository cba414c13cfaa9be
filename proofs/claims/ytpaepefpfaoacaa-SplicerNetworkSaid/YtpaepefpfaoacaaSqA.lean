/- Contracts of pick, has, end. -/
import Derived.Test.YtpaepefpfaoacaaSymA
import Derived.Test.YtpaepefpfaoacaaSpA
namespace Go.Proofs.Ytpaepefpfaoacaa
open Go.ChangeShapes Go.WideShapes Go.ChangeAt Go.RowKit
set_option linter.unusedVariables false
set_option linter.unusedSimpArgs false

theorem ex_rem {P : Program} {ρ : Operand → Value} {w : World} {t t' : TypeId} {x y : Operand} {dst : Option Tmp} {ty : TypeId} {pos : String} {af : Array Edge} {g : Option (Nat × Bool)} {a b : Int} {k : IntKind}
    (hx : ρ x = .int k a) (hy : ρ y = .int k b) (hb : b ≠ 0) : (execOp ρ ⟨dst, .binOp .rem t x y t', ty, pos, af, g⟩).run P w = .ok (.value (.int k (a.tmod b))) w := by
  simp [execOp, hx, hy, eqGuard, binOp, Op.intDiv, hb, Sem.run_bind]
def pickI (c n : Int) : Int := (if c < 0 then -(c + 1) else c) % n
theorem pickI_lt (c n : Int) (hn : 0 < n) : 0 ≤ pickI c n ∧ pickI c n < n := ⟨Int.emod_nonneg _ (by omega), Int.emod_lt_of_pos _ hn⟩
def hasP (x : Int) (zs : List Int) : Bool := zs.any (· == x)
theorem hasP_snoc {x y : Int} {zs : List Int} (h : hasP x zs = false) (hy : (y == x) = false) : hasP x (zs ++ [y]) = false := by
  unfold hasP at *; simp [List.any_append] at *; exact ⟨h, hy⟩
theorem hasP_hit {x : Int} {zs : List Int} {j : Nat} (hj : j < zs.length) (h : zs.getD j 0 = x) : hasP x zs = true := by
  unfold hasP
  rw [List.any_eq_true]
  refine ⟨zs[j], List.getElem_mem hj, ?_⟩
  simp [List.getD, List.getElem?_eq_getElem hj] at h
  simp [h]
def evZ : EvA := ⟨⟨0, 0, 0, 0, 0, 0⟩, none, 0, []⟩
def endP (es : List EvA) : Int := match es.getLast? with | some e => e.ev.start + e.ev.frames | none => 0
theorem endP_snoc (es : List EvA) (e : EvA) : endP (es ++ [e]) = e.ev.start + e.ev.frames := by simp [endP]
theorem IsEvs.get {w : World} {A : Option Addr} {n : Nat} {l : List EvA} (h : IsEvs w A n l) {j : Nat} (hj : j < n) :
    ∃ b off, A = some ⟨b, off, none⟩ ∧ b < w.heap.size ∧ (w.cell? ⟨b, off + j * 7, none⟩ = some (.int .i64 (l.getD j evZ).ev.entry) ∧ w.cell? ⟨b, off + j * 7 + 1, none⟩ = some (.int .i64 (l.getD j evZ).ev.item) ∧ w.cell? ⟨b, off + j * 7 + 2, none⟩ = some (.int .i64 (l.getD j evZ).ev.start) ∧ w.cell? ⟨b, off + j * 7 + 3, none⟩ = some (.int .i64 (l.getD j evZ).ev.frames) ∧ w.cell? ⟨b, off + j * 7 + 4, none⟩ = some (.int .i64 (l.getD j evZ).ev.inn) ∧ w.cell? ⟨b, off + j * 7 + 5, none⟩ = some (.int .i64 (l.getD j evZ).ev.regions) ∧ w.cell? ⟨b, off + j * 7 + 6, none⟩ = some (.slice (l.getD j evZ).A (l.getD j evZ).al.length (l.getD j evZ).c)) ∧ l.getD j evZ ∈ l := by
  have hr : IsRow 7 EvA.cells w A n l := ⟨h.1, h.2.1⟩
  obtain ⟨b, off, e, rfl, hb, he, hc⟩ := IsRow.at_ (k := 7) (cs := EvA.cells) (fun _ => rfl) hr hj
  have hm : e ∈ l := List.mem_of_getElem? he
  rw [show l.getD j evZ = e by simp [List.getD, he]]
  exact ⟨b, off, rfl, hb, ⟨hc 0 _ rfl, hc 1 _ rfl, hc 2 _ rfl, hc 3 _ rfl, hc 4 _ rfl, hc 5 _ rfl, hc 6 _ rfl⟩, hm⟩
set_option maxRecDepth 100000 in
set_option maxHeartbeats 4000000 in
theorem pick_any (c n : Int) (w : World) (hc : -9223372036854775808 ≤ c ∧ c ≤ 9223372036854775807) (hn : 0 < n) :
    Calls Try.prog 11 #[.int .i64 c, .int .i64 n] w fun e w' => e = .returned (.int .i64 (pickI c n)) ∧ w = w' := by
  have HP := Hp.start w
  refine w_enter 13 [(0, (.int .i64 c)), (1, (.int .i64 n))] Try.func11 rfl Try.ntmps11 (by kernel_rfl) (by kernel_rfl) ?_
  intro a H
  refine wp_seq ?_
  refine w_region ?_
  refine H.val 4 (.int .i64 0) (by kernel_rfl) (by kernel_rfl) ?_
  intro a H
  refine wpList_nil ?_
  refine then_normal ?_
  refine wp_seq ?_
  refine wp_seq ?_
  refine w_region ?_
  refine H.val 5 (.int .i64 c) (by kernel_rfl) (by kernel_rfl) ?_
  intro a H
  refine H.val 6 (.bool (decide (c < 0))) (by kernel_rfl) (by kernel_rfl) ?_
  intro a H
  refine wpList_nil ?_
  refine then_normal ?_
  refine w_if H rfl (fun g6 => ?_) (fun g6 => ?_)
  · have g6p := of_decide_eq_true g6
    refine w_region ?_
    refine H.val 7 (.int .i64 c) (by kernel_rfl) (by kernel_rfl) ?_
    intro a H
    refine H.valE 8 (.int .i64 (IntKind.i64.wrap (c + 1))) (.int .i64 (c + 1)) (by kernel_rfl) (by kernel_rfl) ((by rw [wrap_ini64 _ (by omega)])) ?_
    intro a H
    refine H.valE 9 (.int .i64 (IntKind.i64.wrap (0 - (c + 1)))) (.int .i64 (-(c + 1))) (by kernel_rfl) (by kernel_rfl) ((by rw [Int.zero_sub, wrap_ini64 _ (by omega)])) ?_
    intro a H
    refine H.val 0 (.int .i64 (-(c + 1))) (by kernel_rfl) (by kernel_rfl) ?_
    intro a H
    refine wpList_nil ?_
    refine then_normal ?_
    refine wp_seq ?_
    refine w_region ?_
    refine H.val 10 (.int .i64 (-(c + 1))) (by kernel_rfl) (by kernel_rfl) ?_
    intro a H
    refine H.val 11 (.int .i64 n) (by kernel_rfl) (by kernel_rfl) ?_
    intro a H
    refine H.valE 12 (.int .i64 ((-(c + 1)).tmod n)) (.int .i64 ((-(c + 1)) % n)) (by kernel_rfl) (ex_rem (k := .i64) (by kernel_rfl) (by kernel_rfl) (by omega)) ((by rw [tmod_nn _ _ (by omega)])) ?_
    intro a H
    refine H.val 4 (.int .i64 ((-(c + 1)) % n)) (by kernel_rfl) (by kernel_rfl) ?_
    intro a H
    refine wpList_nil ?_
    refine then_normal ?_
    refine wp_ret ?_
    refine H.ret1 (fn := Try.f11) Try.results11 (RV.tmp_ (v := (.int .i64 ((-(c + 1)) % n))) (by kernel_rfl)) ?_
    exact ⟨by unfold pickI; rw [if_pos (by omega)], rfl⟩
  · have g6p := of_decide_eq_false g6
    refine wp_skip ?_
    refine then_normal ?_
    refine wp_seq ?_
    refine w_region ?_
    refine H.val 10 (.int .i64 c) (by kernel_rfl) (by kernel_rfl) ?_
    intro a H
    refine H.val 11 (.int .i64 n) (by kernel_rfl) (by kernel_rfl) ?_
    intro a H
    refine H.valE 12 (.int .i64 (c.tmod n)) (.int .i64 (c % n)) (by kernel_rfl) (ex_rem (k := .i64) (by kernel_rfl) (by kernel_rfl) (by omega)) ((by rw [tmod_nn _ _ (by omega)])) ?_
    intro a H
    refine H.val 4 (.int .i64 (c % n)) (by kernel_rfl) (by kernel_rfl) ?_
    intro a H
    refine wpList_nil ?_
    refine then_normal ?_
    refine wp_ret ?_
    refine H.ret1 (fn := Try.f11) Try.results11 (RV.tmp_ (v := (.int .i64 (c % n))) (by kernel_rfl)) ?_
    exact ⟨by unfold pickI; rw [if_neg (by omega)], rfl⟩
set_option maxRecDepth 100000 in
set_option maxHeartbeats 4000000 in
theorem has_any (A : Option Addr) (n c : Nat) (zs : List Int) (x : Int) (w : World) (h : IsInts w A n zs) (hn : n ≤ 1000000) :
    Calls Try.prog 28 #[.slice A n c, .int .i64 x] w fun e w' => e = .returned (.bool (hasP x zs)) ∧ Below w.heap.size w w' := by
  have hl := h.1
  have HP := Hp.start w
  refine w_enter 18 [(0, (.slice A n c)), (1, (.int .i64 x))] Try.func28 rfl Try.ntmps28 (by kernel_rfl) (by kernel_rfl) ?_
  intro a H
  refine wp_seq ?_
  refine w_region ?_
  refine H.val 4 (.bool false) (by kernel_rfl) (by kernel_rfl) ?_
  intro a H
  refine wpList_nil ?_
  refine then_normal ?_
  refine wp_seq ?_
  refine wp_seq ?_
  refine w_region ?_
  refine H.val 5 (.int .i64 0) (by kernel_rfl) (by kernel_rfl) ?_
  intro a H
  refine wpList_nil ?_
  refine then_normal ?_
  refine wp_block ?_
  refine w_loop (fun mm a v => ∃ (j : Nat), n - j = mm ∧ Sl 18 [(5, (.int .i64 ((j : Nat) : Int))), (1, (.int .i64 x)), (0, (.slice A n c)), (4, (.bool false))] a ∧ Hp w v [] [] ∧ (j ≤ n) ∧ (hasP x (zs.take j) = false)) (n - 0) ?_ ?_
  · exact ⟨0, (by omega), H.keep (by kernel_rfl), HP, by omega, rfl⟩
  rintro mm a w1 ⟨j, hmeas, H, HP, hj, hno⟩
  refine wp_seq ?_
  refine wp_seq ?_
  refine w_region ?_
  refine H.val 6 (.int .i64 ((j : Nat) : Int)) (by kernel_rfl) (by kernel_rfl) ?_
  intro a H
  refine H.val 7 (.slice A n c) (by kernel_rfl) (by kernel_rfl) ?_
  intro a H
  refine H.val 8 (.int .i64 ((n : Nat) : Int)) (by kernel_rfl) (by kernel_rfl) ?_
  intro a H
  refine H.val 9 (.bool (decide (((j : Nat) : Int) < ((n : Nat) : Int)))) (by kernel_rfl) (by kernel_rfl) ?_
  intro a H
  refine wpList_nil ?_
  refine then_normal ?_
  refine w_if H rfl (fun g9 => ?_) (fun g9 => ?_)
  · have g9p := of_decide_eq_true g9
    refine wp_skip ?_
    refine then_normal ?_
    refine wp_seq ?_
    refine wp_block ?_
    refine wp_seq ?_
    obtain ⟨b0, off, hA, hbl, hcell⟩ := h.2.resolve_left (by omega)
    subst hA
    have pa : w.cell? ⟨b0, off + j * 1, none⟩ = some (.int .i64 (zs.getD j 0)) := by rw [Nat.mul_one]; exact hcell j (by omega)
    refine w_region ?_
    refine H.val 12 (.slice (some ⟨b0, off, none⟩) n c) (by kernel_rfl) (by kernel_rfl) ?_
    intro a H
    refine H.val 13 (.int .i64 ((j : Nat) : Int)) (by kernel_rfl) (by kernel_rfl) ?_
    intro a H
    refine H.val 14 (.pointer (some ⟨b0, off + j * 1, none⟩)) (by kernel_rfl) (ex_index (b := b0) (off := off) (len := n) (cap := c) (e := 3) (k := 1) (ik := .i64) (i := ((j : Nat) : Int)) (m := j) (by kernel_rfl) (by kernel_rfl) (by omega) (by omega) (by kernel_rfl) (by kernel_rfl)) ?_
    intro a H
    refine H.val 15 (.int .i64 (zs.getD j 0)) (by kernel_rfl) (ex_load1 (by kernel_rfl) (by kernel_rfl) (HP.oldc (by kernel_rfl) pa)) ?_
    intro a H
    refine H.val 16 (.int .i64 x) (by kernel_rfl) (by kernel_rfl) ?_
    intro a H
    refine H.val 17 (.bool ((zs.getD j 0) == x)) (by kernel_rfl) (by kernel_rfl) ?_
    intro a H
    refine wpList_nil ?_
    refine then_normal ?_
    refine w_if H rfl (fun g17 => ?_) (fun g17 => ?_)
    · have g17p := eq_of_beq g17
      refine wp_seq ?_
      refine w_region ?_
      refine H.val 4 (.bool true) (by kernel_rfl) (by kernel_rfl) ?_
      intro a H
      refine wpList_nil ?_
      refine then_normal ?_
      refine wp_ret ?_
      refine inb_ret ?_
      refine then_ret ?_
      refine then_ret ?_
      refine inb_ret ?_
      refine then_ret ?_
      refine H.ret1 (fn := Try.f28) Try.results28 (RV.tmp_ (v := (.bool true)) (by kernel_rfl)) ?_
      exact ⟨by rw [hasP_hit (by omega) g17p], (HP.below (by kernel_rfl))⟩
    · have g17p := ne_of_beq_false g17
      refine wp_skip ?_
      refine inb_normal ?_
      refine then_normal ?_
      refine w_region ?_
      refine H.val 10 (.int .i64 ((j : Nat) : Int)) (by kernel_rfl) (by kernel_rfl) ?_
      intro a H
      refine H.valE 11 (.int .i64 (IntKind.i64.wrap (((j : Nat) : Int) + 1))) (.int .i64 (((j : Nat) : Int) + 1)) (by kernel_rfl) (by kernel_rfl) ((by rw [wrap_ini64 _ (by omega)])) ?_
      intro a H
      refine H.val 5 (.int .i64 (((j : Nat) : Int) + 1)) (by kernel_rfl) (by kernel_rfl) ?_
      intro a H
      refine wpList_nil ?_
      refine then_normal ?_
      have H := H.as 5 (.int .i64 ((j + 1 : Nat) : Int)) rfl rfl
      refine ⟨_, ?_, j + 1, rfl, H.keep (by kernel_rfl), HP, by omega, by rw [take_getD (by omega)]; exact hasP_snoc hno g17⟩
      omega
  · have g9p := of_decide_eq_false g9
    refine wp_exit ?_
    refine then_exit ?_
    refine then_exit ?_
    refine w_exit_here ?_
    refine then_normal ?_
    refine wp_seq ?_
    refine w_region ?_
    refine H.val 4 (.bool false) (by kernel_rfl) (by kernel_rfl) ?_
    intro a H
    refine wpList_nil ?_
    refine then_normal ?_
    refine wp_ret ?_
    refine H.ret1 (fn := Try.f28) Try.results28 (RV.tmp_ (v := (.bool false)) (by kernel_rfl)) ?_
    exact ⟨by rw [List.take_of_length_le (by omega)] at hno; rw [hno], (HP.below (by kernel_rfl))⟩
set_option maxRecDepth 100000 in
set_option maxHeartbeats 4000000 in
theorem end_any (A : Option Addr) (n c : Nat) (es : List EvA) (w : World) (h : IsEvs w A n es) (hn : n ≤ 1000000) (hb : ∀ e ∈ es, 0 ≤ e.ev.start ∧ e.ev.start ≤ 1000000000 ∧ 0 ≤ e.ev.frames ∧ e.ev.frames ≤ 1000000000) :
    Calls Try.prog 26 #[.slice A n c] w fun e w' => e = .returned (.int .i64 (endP es)) ∧ Below w.heap.size w w' := by
  have hl := h.1
  have HP := Hp.start w
  refine w_enter 23 [(0, (.slice A n c))] Try.func26 rfl Try.ntmps26 (by kernel_rfl) (by kernel_rfl) ?_
  intro a H
  refine wp_seq ?_
  refine w_region ?_
  refine H.val 2 (.int .i64 0) (by kernel_rfl) (by kernel_rfl) ?_
  intro a H
  refine wpList_nil ?_
  refine then_normal ?_
  refine wp_seq ?_
  refine w_region ?_
  refine H.val 3 (.int .i64 0) (by kernel_rfl) (by kernel_rfl) ?_
  intro a H
  refine wpList_nil ?_
  refine then_normal ?_
  refine wp_seq ?_
  refine wp_seq ?_
  refine w_region ?_
  refine H.val 4 (.int .i64 0) (by kernel_rfl) (by kernel_rfl) ?_
  intro a H
  refine wpList_nil ?_
  refine then_normal ?_
  refine wp_block ?_
  refine w_loop (fun mm a v => ∃ (j : Nat), ∃ (e : Int), n - j = mm ∧ Sl 23 [(4, (.int .i64 ((j : Nat) : Int))), (3, (.int .i64 e)), (0, (.slice A n c)), (2, (.int .i64 0))] a ∧ Hp w v [] [] ∧ (j ≤ n) ∧ (e = endP (es.take j))) (n - 0) ?_ ?_
  · exact ⟨0, 0, (by omega), H.keep (by kernel_rfl), HP, by omega, rfl⟩
  rintro mm a w1 ⟨j, e, hmeas, H, HP, hj, he⟩
  obtain ⟨X, hX⟩ : ∃ X, es.getD j evZ = X := ⟨_, rfl⟩
  refine wp_seq ?_
  refine wp_seq ?_
  refine w_region ?_
  refine H.val 5 (.int .i64 ((j : Nat) : Int)) (by kernel_rfl) (by kernel_rfl) ?_
  intro a H
  refine H.val 6 (.slice A n c) (by kernel_rfl) (by kernel_rfl) ?_
  intro a H
  refine H.val 7 (.int .i64 ((n : Nat) : Int)) (by kernel_rfl) (by kernel_rfl) ?_
  intro a H
  refine H.val 8 (.bool (decide (((j : Nat) : Int) < ((n : Nat) : Int)))) (by kernel_rfl) (by kernel_rfl) ?_
  intro a H
  refine wpList_nil ?_
  refine then_normal ?_
  refine w_if H rfl (fun g8 => ?_) (fun g8 => ?_)
  · have g8p := of_decide_eq_true g8
    refine wp_skip ?_
    refine then_normal ?_
    refine wp_seq ?_
    refine wp_block ?_
    obtain ⟨b0, off, hA, hbl, pc, hmem⟩ := IsEvs.get h (j := j) (by omega)
    subst hA
    rw [hX] at pc hmem
    have hbd := hb X hmem
    refine An.start (fun v => Hp w v [] []) 12 12 HP wide_follows rfl ?_
    intro w2 HP
    refine An.pure H (.inr (HP)) 0 11 (.slice (some ⟨b0, off, none⟩) n c) rfl (by kernel_rfl) (by kernel_rfl) (fun _ _ _ h => h) (fun _ => by kernel_rfl) ?_
    intro a H
    refine An.pure H (.inr (HP)) 1 12 (.int .i64 ((j : Nat) : Int)) rfl (by kernel_rfl) (by kernel_rfl) (fun _ _ _ h => h) (fun _ => by kernel_rfl) ?_
    intro a H
    refine An.pure H (.inr (HP)) 2 13 (.pointer (some ⟨b0, off + j * 7, none⟩)) rfl (by kernel_rfl) (by kernel_rfl) (fun _ _ _ h => h) (fun _ => ex_index (b := b0) (off := off) (len := n) (cap := c) (e := 63) (k := 7) (ik := .i64) (i := ((j : Nat) : Int)) (m := j) (by kernel_rfl) (by kernel_rfl) (by omega) (by omega) (by kernel_rfl) (by kernel_rfl)) ?_
    intro a H
    refine An.pure H (.inr (HP)) 3 14 (.pointer (some ⟨b0, off + j * 7 + 2, none⟩)) rfl (by kernel_rfl) (by kernel_rfl) (fun _ _ _ h => h) (fun _ => by kernel_rfl) ?_
    intro a H
    refine An.val H (HP) 4 15 (.int .i64 X.ev.start) rfl (by kernel_rfl) (by kernel_rfl) (fun _ _ _ h => h) (fun _ hS => ex_load1 (by kernel_rfl) (by kernel_rfl) (hS.oldc (by kernel_rfl) (pc.2.2.1))) ?_
    intro a H
    refine An.pure H (.inr (HP)) 5 16 (.slice (some ⟨b0, off, none⟩) n c) rfl (by kernel_rfl) (by kernel_rfl) (fun _ _ _ h => h) (fun _ => by kernel_rfl) ?_
    intro a H
    refine An.pure H (.inr (HP)) 6 17 (.int .i64 ((j : Nat) : Int)) rfl (by kernel_rfl) (by kernel_rfl) (fun _ _ _ h => h) (fun _ => by kernel_rfl) ?_
    intro a H
    refine An.pure H (.inr (HP)) 7 18 (.pointer (some ⟨b0, off + j * 7, none⟩)) rfl (by kernel_rfl) (by kernel_rfl) (fun _ _ _ h => h) (fun _ => ex_index (b := b0) (off := off) (len := n) (cap := c) (e := 63) (k := 7) (ik := .i64) (i := ((j : Nat) : Int)) (m := j) (by kernel_rfl) (by kernel_rfl) (by omega) (by omega) (by kernel_rfl) (by kernel_rfl)) ?_
    intro a H
    refine An.pure H (.inr (HP)) 8 19 (.pointer (some ⟨b0, off + j * 7 + 3, none⟩)) rfl (by kernel_rfl) (by kernel_rfl) (fun _ _ _ h => h) (fun _ => by kernel_rfl) ?_
    intro a H
    refine An.val H (HP) 9 20 (.int .i64 X.ev.frames) rfl (by kernel_rfl) (by kernel_rfl) (fun _ _ _ h => h) (fun _ hS => ex_load1 (by kernel_rfl) (by kernel_rfl) (hS.oldc (by kernel_rfl) (pc.2.2.2.1))) ?_
    intro a H
    refine An.pureE H (.inr (HP)) 10 21 (.int .i64 (IntKind.i64.wrap (X.ev.start + X.ev.frames))) (.int .i64 (X.ev.start + X.ev.frames)) rfl (by kernel_rfl) (by kernel_rfl) (fun _ _ _ h => h) (fun _ => by kernel_rfl) ((by rw [wrap_ini64 _ (by omega)])) ?_
    intro a H
    refine An.pure H (.inr (HP)) 11 3 (.int .i64 (X.ev.start + X.ev.frames)) rfl (by kernel_rfl) (by kernel_rfl) (fun _ _ _ h => h) (fun _ => by kernel_rfl) ?_
    intro a H
    refine An.done (by kernel_rfl) ?_
    have H := H.keep (L' := [(3, (.int .i64 (X.ev.start + X.ev.frames))), (8, (.bool (decide (((j : Nat) : Int) < ((n : Nat) : Int))))), (7, (.int .i64 ((n : Nat) : Int))), (6, (.slice (some ⟨b0, off, none⟩) n c)), (5, (.int .i64 ((j : Nat) : Int))), (4, (.int .i64 ((j : Nat) : Int))), (0, (.slice (some ⟨b0, off, none⟩) n c)), (2, (.int .i64 0))]) (by kernel_rfl)
    refine inb_normal ?_
    refine then_normal ?_
    refine w_region ?_
    refine H.val 9 (.int .i64 ((j : Nat) : Int)) (by kernel_rfl) (by kernel_rfl) ?_
    intro a H
    refine H.valE 10 (.int .i64 (IntKind.i64.wrap (((j : Nat) : Int) + 1))) (.int .i64 (((j : Nat) : Int) + 1)) (by kernel_rfl) (by kernel_rfl) ((by rw [wrap_ini64 _ (by omega)])) ?_
    intro a H
    refine H.val 4 (.int .i64 (((j : Nat) : Int) + 1)) (by kernel_rfl) (by kernel_rfl) ?_
    intro a H
    refine wpList_nil ?_
    refine then_normal ?_
    have H := H.as 4 (.int .i64 ((j + 1 : Nat) : Int)) rfl rfl
    refine ⟨_, ?_, j + 1, X.ev.start + X.ev.frames, rfl, H.keep (by kernel_rfl), HP, by omega, by rw [take_at (d := evZ) (by omega), hX]; exact (endP_snoc _ _).symm⟩
    omega
  · have g8p := of_decide_eq_false g8
    refine wp_exit ?_
    refine then_exit ?_
    refine then_exit ?_
    refine w_exit_here ?_
    refine then_normal ?_
    refine wp_seq ?_
    refine w_region ?_
    refine H.val 22 (.int .i64 e) (by kernel_rfl) (by kernel_rfl) ?_
    intro a H
    refine H.val 2 (.int .i64 e) (by kernel_rfl) (by kernel_rfl) ?_
    intro a H
    refine wpList_nil ?_
    refine then_normal ?_
    refine wp_ret ?_
    refine H.ret1 (fn := Try.f26) Try.results26 (RV.tmp_ (v := (.int .i64 e)) (by kernel_rfl)) ?_
    exact ⟨by rw [he, List.take_of_length_le (by omega)], (HP.below (by kernel_rfl))⟩
end Go.Proofs.Ytpaepefpfaoacaa
