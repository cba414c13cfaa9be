/- SplicerNetwork: the walk. -/
import Derived.Test.YtpaepefpfaoacaaSqP
import Derived.Test.YtpaepefpfaoacaaSqM
namespace Go.Proofs.Ytpaepefpfaoacaa
open Go.ChangeShapes Go.WideShapes Go.ChangeAt Go.RowKit
set_option linter.unusedVariables false
set_option linter.unusedSimpArgs false

theorem row_blk {w : World} {b n c k : Nat} {A : Option Addr} {l : List EvA} (h : (rowsR b 63 7 EvA.cells evOk evFp (.slice A n c) l).F w) (hk : (rowsR b 63 7 EvA.cells evOk evFp (.slice A n c) l).fp k) : k < w.heap.size := by
  rcases hk with hk | ⟨a, ha, hk⟩
  · exact (own_lt h.1 k hk).1
  · exact ((h.2 a ha).2 k hk).1
def RetEvsO (L : List Pc) (m : Nat) (w : World) (e : Ending) (w' : World) : Prop :=
  ∃ A c l, e = .returned (.slice A m c) ∧ (rowsR w.heap.size 63 7 EvA.cells evOk evFp (.slice A m c) l).F w' ∧ (∀ k, (rowsR w.heap.size 63 7 EvA.cells evOk evFp (.slice A m c) l).fp k → w.heap.size ≤ k) ∧ specE l = eventsTo L m ∧ l.length = m ∧ Below w.heap.size w w'
theorem evs_endO {L : List Pc} {w w' : World} {A : Option Addr} {c j m : Nat} {l : List EvA} (h : (rowsR w.heap.size 63 7 EvA.cells evOk evFp (.slice A l.length c) l).F w') (hf : ∀ k, (rowsR w.heap.size 63 7 EvA.cells evOk evFp (.slice A l.length c) l).fp k → w.heap.size ≤ k) (hsp : specE l = eventsTo L j) (hj : j = m) (hb : Below w.heap.size w w') :
    RetEvsO L m w (.returned (.slice A l.length c)) w' := by
  subst hj
  have hl := specE_len hsp
  rw [hl] at h hf ⊢
  exact ⟨A, c, l, rfl, h, hf, hsp, hl, hb⟩
set_option maxRecDepth 100000 in
set_option maxHeartbeats 8000000 in
theorem events_own (A : Option Addr) (n c : Nat) (L : List Pc) (w : World) (h : IsRow 5 Pc.cells w A n L) (hn : n ≤ 9223372036854775807) (hL : ∀ p ∈ L, p.bd) :
    Calls Try.prog 13 #[.slice A n c] w fun e w' => RetEvsO L (min n 10) w e w' := by
  have hln := h.1
  have HP := Hp.start w
  refine w_enter 90 [(0, (.slice A n c))] Try.func13 rfl Try.ntmps13 (by kernel_rfl) (by kernel_rfl) ?_
  intro a H
  refine wp_seq ?_
  refine w_region ?_
  refine H.val 2 (.slice none 0 0) (by kernel_rfl) (by kernel_rfl) ?_
  intro a H
  refine wpList_nil ?_
  refine then_normal ?_
  refine wp_seq ?_
  refine w_region ?_
  refine H.val 3 (.slice none 0 0) (by kernel_rfl) (by kernel_rfl) ?_
  intro a H
  refine wpList_nil ?_
  refine then_normal ?_
  refine wp_seq ?_
  refine w_region ?_
  refine H.val 4 (.int .i64 0) (by kernel_rfl) (by kernel_rfl) ?_
  intro a H
  refine wpList_nil ?_
  refine then_normal ?_
  refine wp_seq ?_
  refine wp_seq ?_
  refine w_region ?_
  refine H.val 5 (.int .i64 0) (by kernel_rfl) (by kernel_rfl) ?_
  intro a H
  refine wpList_nil ?_
  refine then_normal ?_
  refine wp_block ?_
  have HP := HP.nilRow w.heap.size 63 7 EvA.cells evOk evFp elOk_ev
  refine w_loop (fun mm a wv => ∃ (j : Nat), ∃ (EA : Option Addr), ∃ (ec : Nat), ∃ (l' : List EvA), ∃ (t : Int), n - j = mm ∧ Sl 90 [(5, (.int .i64 ((j : Nat) : Int))), (4, (.int .i64 t)), (3, (.slice EA l'.length ec)), (2, (.slice none 0 0)), (0, (.slice A n c))] a ∧ Hp w wv [(rowsR w.heap.size 63 7 EvA.cells evOk evFp (.slice EA l'.length ec) l')] [] ∧ (j ≤ n ∧ j ≤ 10) ∧ (specE l' = eventsTo L j) ∧ (t = startAt L j) ∧ (0 ≤ t ∧ t ≤ 40 * j)) (n - 0) ?_ ?_
  · exact ⟨0, none, 0, [], 0, (by omega), H.keep (by kernel_rfl), HP, by omega, rfl, rfl, by omega⟩
  rintro mm a w_1 ⟨j, EA, ec, l', t, hmeas, H, HP, hj, hsp, ht, htb⟩
  have hll : l'.length = j := specE_len hsp
  obtain ⟨X, hX⟩ : ∃ X, L.getD j pcZ = X := ⟨_, rfl⟩
  refine wp_seq ?_
  refine wp_seq ?_
  refine w_region ?_
  refine H.val 7 (.int .i64 ((j : Nat) : Int)) (by kernel_rfl) (by kernel_rfl) ?_
  intro a H
  refine H.val 8 (.slice A n c) (by kernel_rfl) (by kernel_rfl) ?_
  intro a H
  refine H.val 9 (.int .i64 ((n : Nat) : Int)) (by kernel_rfl) (by kernel_rfl) ?_
  intro a H
  refine H.val 10 (.bool (decide (((j : Nat) : Int) < ((n : Nat) : Int)))) (by kernel_rfl) (by kernel_rfl) ?_
  intro a H
  refine H.val 11 (.bool (decide (((j : Nat) : Int) < ((n : Nat) : Int)))) (by kernel_rfl) (by kernel_rfl) ?_
  intro a H
  refine H.split 11 rfl (fun g11 H => ?_) (fun g11 H => ?_)
  · have g11p := of_decide_eq_true g11
    refine H.val 12 (.int .i64 ((j : Nat) : Int)) (by kernel_rfl) (by kernel_rfl) ?_
    intro a H
    refine H.val 13 (.bool (decide (((j : Nat) : Int) < 10))) (by kernel_rfl) (by kernel_rfl) ?_
    intro a H
    refine H.val 14 (.bool (decide (((j : Nat) : Int) < 10))) (by kernel_rfl) (by kernel_rfl) ?_
    intro a H
    refine wpList_nil ?_
    have H := H.keep (L' := [(14, (.bool (decide (((j : Nat) : Int) < 10)))), (5, (.int .i64 ((j : Nat) : Int))), (4, (.int .i64 t)), (3, (.slice EA l'.length ec)), (2, (.slice none 0 0)), (0, (.slice A n c))]) (by kernel_rfl)
    refine then_normal ?_
    refine w_if H rfl (fun g14 => ?_) (fun g14 => ?_)
    · have g14p := of_decide_eq_true g14
      refine wp_skip ?_
      refine then_normal ?_
      refine wp_seq ?_
      obtain ⟨b0, off, hA, hbl, ⟨p0, p1, p2, p3, p4⟩, hmem⟩ := IsPcs.get h (j := j) (by omega)
      subst hA
      rw [hX] at p0 p1 p2 p3 p4 hmem
      have hb := hL X hmem
      refine wp_block ?_
      refine w_cut (fun a wv => ∃ (bE : Nat), Sl 90 [(6, (.pointer (some ⟨bE, 0, none⟩))), (5, (.int .i64 ((j : Nat) : Int))), (4, (.int .i64 t)), (3, (.slice EA l'.length ec)), (2, (.slice none 0 0)), (0, (.slice (some ⟨b0, off, none⟩) n c))] a ∧ Hp w wv [bx bE 63 [(.int .i64 (((j : Nat) : Int) + 1)), (.int .i64 (1 + pickI X.item 5)), (.int .i64 t), (.int .i64 (1 + pickI X.frames 40)), (.int .i64 0), (.int .i64 (255 - 2 * pickI X.regions 4)), (.slice none 0 0)] true, (rowsR w.heap.size 63 7 EvA.cells evOk evFp (.slice EA l'.length ec) l')] [] ∧ (0 ≤ pickI X.frames 40 ∧ pickI X.frames 40 < 40)) ?_ ?_
      ·
        refine An.start (fun v => Hp w v [(rowsR w.heap.size 63 7 EvA.cells evOk evFp (.slice EA l'.length ec) l')] []) 27 28 HP wide_follows rfl ?_
        intro w_2 HP
        refine An.pure H (.inr (HP)) 0 17 (.int .i64 ((j : Nat) : Int)) rfl (by kernel_rfl) (by kernel_rfl) (fun _ _ _ h => h) (fun _ => by kernel_rfl) ?_
        intro a H
        refine An.pureE H (.inr (HP)) 1 18 (.int .i64 (IntKind.i64.wrap (((j : Nat) : Int) + 1))) (.int .i64 (((j : Nat) : Int) + 1)) rfl (by kernel_rfl) (by kernel_rfl) (fun _ _ _ h => h) (fun _ => by kernel_rfl) ((by rw [wrap_ini64 _ (by omega)])) ?_
        intro a H
        refine An.pure H (.inr (HP)) 2 19 (.slice (some ⟨b0, off, none⟩) n c) rfl (by kernel_rfl) (by kernel_rfl) (fun _ _ _ h => h) (fun _ => by kernel_rfl) ?_
        intro a H
        refine An.pure H (.inr (HP)) 3 20 (.int .i64 ((j : Nat) : Int)) rfl (by kernel_rfl) (by kernel_rfl) (fun _ _ _ h => h) (fun _ => by kernel_rfl) ?_
        intro a H
        refine An.pure H (.inr (HP)) 4 21 (.pointer (some ⟨b0, off + j * 5, none⟩)) rfl (by kernel_rfl) (by kernel_rfl) (fun _ _ _ h => h) (fun _ => ex_index (b := b0) (off := off) (len := n) (cap := c) (e := 82) (k := 5) (ik := .i64) (i := ((j : Nat) : Int)) (m := j) (by kernel_rfl) (by kernel_rfl) (by omega) (by omega) (by kernel_rfl) (by kernel_rfl)) ?_
        intro a H
        refine An.pure H (.inr (HP)) 5 22 (.pointer (some ⟨b0, off + j * 5, none⟩)) rfl (by kernel_rfl) (by kernel_rfl) (fun _ _ _ h => h) (fun _ => by kernel_rfl) ?_
        intro a H
        refine An.val H (HP) 6 23 (.int .i64 X.item) rfl (by kernel_rfl) (by kernel_rfl) (fun _ _ _ h => h) (fun _ hS => ex_load1 (by kernel_rfl) (by kernel_rfl) (hS.oldc (by kernel_rfl) p0)) ?_
        intro a H
        refine An.pure H (.inr (HP)) 9 26 (.int .i64 t) rfl (by kernel_rfl) (by kernel_rfl) (fun _ _ _ h => h) (fun _ => by kernel_rfl) ?_
        intro a H
        refine An.pure H (.inr (HP)) 10 27 (.slice (some ⟨b0, off, none⟩) n c) rfl (by kernel_rfl) (by kernel_rfl) (fun _ _ _ h => h) (fun _ => by kernel_rfl) ?_
        intro a H
        refine An.pure H (.inr (HP)) 11 28 (.int .i64 ((j : Nat) : Int)) rfl (by kernel_rfl) (by kernel_rfl) (fun _ _ _ h => h) (fun _ => by kernel_rfl) ?_
        intro a H
        refine An.pure H (.inr (HP)) 12 29 (.pointer (some ⟨b0, off + j * 5, none⟩)) rfl (by kernel_rfl) (by kernel_rfl) (fun _ _ _ h => h) (fun _ => ex_index (b := b0) (off := off) (len := n) (cap := c) (e := 82) (k := 5) (ik := .i64) (i := ((j : Nat) : Int)) (m := j) (by kernel_rfl) (by kernel_rfl) (by omega) (by omega) (by kernel_rfl) (by kernel_rfl)) ?_
        intro a H
        refine An.pure H (.inr (HP)) 13 30 (.pointer (some ⟨b0, off + j * 5 + 1, none⟩)) rfl (by kernel_rfl) (by kernel_rfl) (fun _ _ _ h => h) (fun _ => by kernel_rfl) ?_
        intro a H
        refine An.val H (HP) 14 31 (.int .i64 X.frames) rfl (by kernel_rfl) (by kernel_rfl) (fun _ _ _ h => h) (fun _ hS => ex_load1 (by kernel_rfl) (by kernel_rfl) (hS.oldc (by kernel_rfl) p1)) ?_
        intro a H
        refine An.pure H (.inr (HP)) 17 34 (.slice (some ⟨b0, off, none⟩) n c) rfl (by kernel_rfl) (by kernel_rfl) (fun _ _ _ h => h) (fun _ => by kernel_rfl) ?_
        intro a H
        refine An.pure H (.inr (HP)) 18 35 (.int .i64 ((j : Nat) : Int)) rfl (by kernel_rfl) (by kernel_rfl) (fun _ _ _ h => h) (fun _ => by kernel_rfl) ?_
        intro a H
        refine An.pure H (.inr (HP)) 19 36 (.pointer (some ⟨b0, off + j * 5, none⟩)) rfl (by kernel_rfl) (by kernel_rfl) (fun _ _ _ h => h) (fun _ => ex_index (b := b0) (off := off) (len := n) (cap := c) (e := 82) (k := 5) (ik := .i64) (i := ((j : Nat) : Int)) (m := j) (by kernel_rfl) (by kernel_rfl) (by omega) (by omega) (by kernel_rfl) (by kernel_rfl)) ?_
        intro a H
        refine An.pure H (.inr (HP)) 20 37 (.pointer (some ⟨b0, off + j * 5 + 4, none⟩)) rfl (by kernel_rfl) (by kernel_rfl) (fun _ _ _ h => h) (fun _ => by kernel_rfl) ?_
        intro a H
        refine An.val H (HP) 21 38 (.int .i64 X.regions) rfl (by kernel_rfl) (by kernel_rfl) (fun _ _ _ h => h) (fun _ hS => ex_load1 (by kernel_rfl) (by kernel_rfl) (hS.oldc (by kernel_rfl) p4)) ?_
        intro a H
        refine An.two 7 26 (by kernel_rfl) ?_ ?_
        · refine Op.call H 24 rfl (by kernel_rfl) (Eq.trans (by kernel_rfl : _ = (callFunc 11 #[(.int .i64 X.item), (.int .i64 5)]).run Try.prog w_2) (Try.call11 _ _)) (pick_any X.item 5 w_2 (hb.1) (by omega)) ?_
          rintro e w_4 ⟨rfl, hw⟩
          refine ⟨_, rfl, ?_⟩
          intro a H
          have HP := hw ▸ HP
          have hpk_3 := pickI_lt X.item 5 (by omega)
          refine ⟨.inr (HP), ?_⟩
          refine An.pureE H (.inr (HP)) 8 25 (.int .i64 (IntKind.i64.wrap (1 + (pickI X.item 5)))) (.int .i64 (1 + (pickI X.item 5))) rfl (by kernel_rfl) (by kernel_rfl) (fun _ _ _ h => h) (fun _ => by kernel_rfl) ((by rw [wrap_ini64 _ (by omega)])) ?_
          intro a H
          refine An.two 15 26 (by kernel_rfl) ?_ ?_
          · refine Op.call H 32 rfl (by kernel_rfl) (Eq.trans (by kernel_rfl : _ = (callFunc 11 #[(.int .i64 X.frames), (.int .i64 40)]).run Try.prog w_4) (Try.call11 _ _)) (pick_any X.frames 40 w_4 (hb.2.1) (by omega)) ?_
            rintro e w_6 ⟨rfl, hw⟩
            refine ⟨_, rfl, ?_⟩
            intro a H
            have HP := hw ▸ HP
            have hpk_5 := pickI_lt X.frames 40 (by omega)
            refine ⟨.inr (HP), ?_⟩
            refine An.pureE H (.inr (HP)) 16 33 (.int .i64 (IntKind.i64.wrap (1 + (pickI X.frames 40)))) (.int .i64 (1 + (pickI X.frames 40))) rfl (by kernel_rfl) (by kernel_rfl) (fun _ _ _ h => h) (fun _ => by kernel_rfl) ((by rw [wrap_ini64 _ (by omega)])) ?_
            intro a H
            refine An.two 22 26 (by kernel_rfl) ?_ ?_
            · refine Op.call H 39 rfl (by kernel_rfl) (Eq.trans (by kernel_rfl : _ = (callFunc 11 #[(.int .i64 X.regions), (.int .i64 4)]).run Try.prog w_6) (Try.call11 _ _)) (pick_any X.regions 4 w_6 (hb.2.2.2.2) (by omega)) ?_
              rintro e w_8 ⟨rfl, hw⟩
              refine ⟨_, rfl, ?_⟩
              intro a H
              have HP := hw ▸ HP
              have hpk_7 := pickI_lt X.regions 4 (by omega)
              refine ⟨.inr (HP), ?_⟩
              refine An.pureE H (.inr (HP)) 23 40 (.int .i64 (IntKind.i64.wrap (2 * (pickI X.regions 4)))) (.int .i64 (2 * (pickI X.regions 4))) rfl (by kernel_rfl) (by kernel_rfl) (fun _ _ _ h => h) (fun _ => by kernel_rfl) ((by rw [wrap_ini64 _ (by omega)])) ?_
              intro a H
              refine An.pureE H (.inr (HP)) 24 41 (.int .i64 (IntKind.i64.wrap (255 - (2 * (pickI X.regions 4))))) (.int .i64 (255 - (2 * (pickI X.regions 4)))) rfl (by kernel_rfl) (by kernel_rfl) (fun _ _ _ h => h) (fun _ => by kernel_rfl) ((by rw [wrap_ini64 _ (by omega)])) ?_
              intro a H
              refine An.pure H (.inr (HP)) 25 42 (.agg #[(.int .i64 (((j : Nat) : Int) + 1)), (.int .i64 (1 + (pickI X.item 5))), (.int .i64 t), (.int .i64 (1 + (pickI X.frames 40))), (.int .i64 0), (.int .i64 (255 - (2 * (pickI X.regions 4)))), (.slice none 0 0)]) rfl (by kernel_rfl) (by kernel_rfl) (fun _ _ _ h => h) (fun _ => by kernel_rfl) ?_
              intro a H
              refine An.one 26 (by kernel_rfl) ?_
              refine Op.alloc H HP 6 (fun b => (.pointer (some ⟨b, 0, none⟩))) 63 [(.int .i64 0), (.int .i64 0), (.int .i64 0), (.int .i64 0), (.int .i64 0), (.int .i64 0), (.slice none 0 0)] rfl (by kernel_rfl) (fun w => by kernel_rfl) ?_
              intro b_9 w_10 a H HP
              refine ⟨.inr ((HP.tail rfl)), ?_⟩
              refine An.one 27 (by kernel_rfl) ?_
              refine Op.store H HP 0 b_9 0 7 63 [(.int .i64 0), (.int .i64 0), (.int .i64 0), (.int .i64 0), (.int .i64 0), (.int .i64 0), (.slice none 0 0)] true (.agg #[(.int .i64 (((j : Nat) : Int) + 1)), (.int .i64 (1 + (pickI X.item 5))), (.int .i64 t), (.int .i64 (1 + (pickI X.frames 40))), (.int .i64 0), (.int .i64 (255 - (2 * (pickI X.regions 4)))), (.slice none 0 0)]) [bx b_9 63 [(.int .i64 (((j : Nat) : Int) + 1)), (.int .i64 (1 + (pickI X.item 5))), (.int .i64 t), (.int .i64 (1 + (pickI X.frames 40))), (.int .i64 0), (.int .i64 (255 - (2 * (pickI X.regions 4)))), (.slice none 0 0)] true, (rowsR w.heap.size 63 7 EvA.cells evOk evFp (.slice EA l'.length ec) l')] rfl (by kernel_rfl) (by kernel_rfl) (by kernel_rfl) rfl (by kernel_rfl) (by kernel_rfl) (by kernel_rfl) (by kernel_rfl) (by kernel_rfl) ?_
              intro w_11 a H HP
              refine ⟨.inl (by kernel_rfl), ?_⟩
              refine An.done (by kernel_rfl) ?_
              have H := H.keep (L' := [(6, (.pointer (some ⟨b_9, 0, none⟩))), (14, (.bool (decide (((j : Nat) : Int) < 10)))), (5, (.int .i64 ((j : Nat) : Int))), (4, (.int .i64 t)), (3, (.slice EA l'.length ec)), (2, (.slice none 0 0)), (0, (.slice (some ⟨b0, off, none⟩) n c))]) (by kernel_rfl)
              refine then_normal ?_
              exact ⟨b_9, H.keep (by kernel_rfl), HP, pickI_lt X.frames 40 (by omega)⟩
            · refine Op.alloc H HP 6 (fun b => (.pointer (some ⟨b, 0, none⟩))) 63 [(.int .i64 0), (.int .i64 0), (.int .i64 0), (.int .i64 0), (.int .i64 0), (.int .i64 0), (.slice none 0 0)] rfl (by kernel_rfl) (fun w => by kernel_rfl) ?_
              intro b_12 w_13 a H HP
              refine ⟨.inr ((HP.tail rfl)), ?_⟩
              refine An.one 22 (by kernel_rfl) ?_
              refine Op.call H 39 rfl (by kernel_rfl) (Eq.trans (by kernel_rfl : _ = (callFunc 11 #[(.int .i64 X.regions), (.int .i64 4)]).run Try.prog w_13) (Try.call11 _ _)) (pick_any X.regions 4 w_13 (hb.2.2.2.2) (by omega)) ?_
              rintro e w_15 ⟨rfl, hw⟩
              refine ⟨_, rfl, ?_⟩
              intro a H
              have HP := hw ▸ HP
              have hpk_14 := pickI_lt X.regions 4 (by omega)
              refine ⟨.inr ((HP.tail rfl)), ?_⟩
              refine An.pureE H (.inr ((HP.tail rfl))) 23 40 (.int .i64 (IntKind.i64.wrap (2 * (pickI X.regions 4)))) (.int .i64 (2 * (pickI X.regions 4))) rfl (by kernel_rfl) (by kernel_rfl) (fun _ _ _ h => h) (fun _ => by kernel_rfl) ((by rw [wrap_ini64 _ (by omega)])) ?_
              intro a H
              refine An.pureE H (.inr ((HP.tail rfl))) 24 41 (.int .i64 (IntKind.i64.wrap (255 - (2 * (pickI X.regions 4))))) (.int .i64 (255 - (2 * (pickI X.regions 4)))) rfl (by kernel_rfl) (by kernel_rfl) (fun _ _ _ h => h) (fun _ => by kernel_rfl) ((by rw [wrap_ini64 _ (by omega)])) ?_
              intro a H
              refine An.pure H (.inr ((HP.tail rfl))) 25 42 (.agg #[(.int .i64 (((j : Nat) : Int) + 1)), (.int .i64 (1 + (pickI X.item 5))), (.int .i64 t), (.int .i64 (1 + (pickI X.frames 40))), (.int .i64 0), (.int .i64 (255 - (2 * (pickI X.regions 4)))), (.slice none 0 0)]) rfl (by kernel_rfl) (by kernel_rfl) (fun _ _ _ h => h) (fun _ => by kernel_rfl) ?_
              intro a H
              refine An.one 27 (by kernel_rfl) ?_
              refine Op.store H HP 0 b_12 0 7 63 [(.int .i64 0), (.int .i64 0), (.int .i64 0), (.int .i64 0), (.int .i64 0), (.int .i64 0), (.slice none 0 0)] true (.agg #[(.int .i64 (((j : Nat) : Int) + 1)), (.int .i64 (1 + (pickI X.item 5))), (.int .i64 t), (.int .i64 (1 + (pickI X.frames 40))), (.int .i64 0), (.int .i64 (255 - (2 * (pickI X.regions 4)))), (.slice none 0 0)]) [bx b_12 63 [(.int .i64 (((j : Nat) : Int) + 1)), (.int .i64 (1 + (pickI X.item 5))), (.int .i64 t), (.int .i64 (1 + (pickI X.frames 40))), (.int .i64 0), (.int .i64 (255 - (2 * (pickI X.regions 4)))), (.slice none 0 0)] true, (rowsR w.heap.size 63 7 EvA.cells evOk evFp (.slice EA l'.length ec) l')] rfl (by kernel_rfl) (by kernel_rfl) (by kernel_rfl) rfl (by kernel_rfl) (by kernel_rfl) (by kernel_rfl) (by kernel_rfl) (by kernel_rfl) ?_
              intro w_16 a H HP
              refine ⟨.inl (by kernel_rfl), ?_⟩
              refine An.done (by kernel_rfl) ?_
              have H := H.keep (L' := [(6, (.pointer (some ⟨b_12, 0, none⟩))), (14, (.bool (decide (((j : Nat) : Int) < 10)))), (5, (.int .i64 ((j : Nat) : Int))), (4, (.int .i64 t)), (3, (.slice EA l'.length ec)), (2, (.slice none 0 0)), (0, (.slice (some ⟨b0, off, none⟩) n c))]) (by kernel_rfl)
              refine then_normal ?_
              exact ⟨b_12, H.keep (by kernel_rfl), HP, pickI_lt X.frames 40 (by omega)⟩
          · refine Op.alloc H HP 6 (fun b => (.pointer (some ⟨b, 0, none⟩))) 63 [(.int .i64 0), (.int .i64 0), (.int .i64 0), (.int .i64 0), (.int .i64 0), (.int .i64 0), (.slice none 0 0)] rfl (by kernel_rfl) (fun w => by kernel_rfl) ?_
            intro b_17 w_18 a H HP
            refine ⟨.inr ((HP.tail rfl)), ?_⟩
            refine An.one 15 (by kernel_rfl) ?_
            refine Op.call H 32 rfl (by kernel_rfl) (Eq.trans (by kernel_rfl : _ = (callFunc 11 #[(.int .i64 X.frames), (.int .i64 40)]).run Try.prog w_18) (Try.call11 _ _)) (pick_any X.frames 40 w_18 (hb.2.1) (by omega)) ?_
            rintro e w_20 ⟨rfl, hw⟩
            refine ⟨_, rfl, ?_⟩
            intro a H
            have HP := hw ▸ HP
            have hpk_19 := pickI_lt X.frames 40 (by omega)
            refine ⟨.inr ((HP.tail rfl)), ?_⟩
            refine An.pureE H (.inr ((HP.tail rfl))) 16 33 (.int .i64 (IntKind.i64.wrap (1 + (pickI X.frames 40)))) (.int .i64 (1 + (pickI X.frames 40))) rfl (by kernel_rfl) (by kernel_rfl) (fun _ _ _ h => h) (fun _ => by kernel_rfl) ((by rw [wrap_ini64 _ (by omega)])) ?_
            intro a H
            refine An.one 22 (by kernel_rfl) ?_
            refine Op.call H 39 rfl (by kernel_rfl) (Eq.trans (by kernel_rfl : _ = (callFunc 11 #[(.int .i64 X.regions), (.int .i64 4)]).run Try.prog w_20) (Try.call11 _ _)) (pick_any X.regions 4 w_20 (hb.2.2.2.2) (by omega)) ?_
            rintro e w_22 ⟨rfl, hw⟩
            refine ⟨_, rfl, ?_⟩
            intro a H
            have HP := hw ▸ HP
            have hpk_21 := pickI_lt X.regions 4 (by omega)
            refine ⟨.inr ((HP.tail rfl)), ?_⟩
            refine An.pureE H (.inr ((HP.tail rfl))) 23 40 (.int .i64 (IntKind.i64.wrap (2 * (pickI X.regions 4)))) (.int .i64 (2 * (pickI X.regions 4))) rfl (by kernel_rfl) (by kernel_rfl) (fun _ _ _ h => h) (fun _ => by kernel_rfl) ((by rw [wrap_ini64 _ (by omega)])) ?_
            intro a H
            refine An.pureE H (.inr ((HP.tail rfl))) 24 41 (.int .i64 (IntKind.i64.wrap (255 - (2 * (pickI X.regions 4))))) (.int .i64 (255 - (2 * (pickI X.regions 4)))) rfl (by kernel_rfl) (by kernel_rfl) (fun _ _ _ h => h) (fun _ => by kernel_rfl) ((by rw [wrap_ini64 _ (by omega)])) ?_
            intro a H
            refine An.pure H (.inr ((HP.tail rfl))) 25 42 (.agg #[(.int .i64 (((j : Nat) : Int) + 1)), (.int .i64 (1 + (pickI X.item 5))), (.int .i64 t), (.int .i64 (1 + (pickI X.frames 40))), (.int .i64 0), (.int .i64 (255 - (2 * (pickI X.regions 4)))), (.slice none 0 0)]) rfl (by kernel_rfl) (by kernel_rfl) (fun _ _ _ h => h) (fun _ => by kernel_rfl) ?_
            intro a H
            refine An.one 27 (by kernel_rfl) ?_
            refine Op.store H HP 0 b_17 0 7 63 [(.int .i64 0), (.int .i64 0), (.int .i64 0), (.int .i64 0), (.int .i64 0), (.int .i64 0), (.slice none 0 0)] true (.agg #[(.int .i64 (((j : Nat) : Int) + 1)), (.int .i64 (1 + (pickI X.item 5))), (.int .i64 t), (.int .i64 (1 + (pickI X.frames 40))), (.int .i64 0), (.int .i64 (255 - (2 * (pickI X.regions 4)))), (.slice none 0 0)]) [bx b_17 63 [(.int .i64 (((j : Nat) : Int) + 1)), (.int .i64 (1 + (pickI X.item 5))), (.int .i64 t), (.int .i64 (1 + (pickI X.frames 40))), (.int .i64 0), (.int .i64 (255 - (2 * (pickI X.regions 4)))), (.slice none 0 0)] true, (rowsR w.heap.size 63 7 EvA.cells evOk evFp (.slice EA l'.length ec) l')] rfl (by kernel_rfl) (by kernel_rfl) (by kernel_rfl) rfl (by kernel_rfl) (by kernel_rfl) (by kernel_rfl) (by kernel_rfl) (by kernel_rfl) ?_
            intro w_23 a H HP
            refine ⟨.inl (by kernel_rfl), ?_⟩
            refine An.done (by kernel_rfl) ?_
            have H := H.keep (L' := [(6, (.pointer (some ⟨b_17, 0, none⟩))), (14, (.bool (decide (((j : Nat) : Int) < 10)))), (5, (.int .i64 ((j : Nat) : Int))), (4, (.int .i64 t)), (3, (.slice EA l'.length ec)), (2, (.slice none 0 0)), (0, (.slice (some ⟨b0, off, none⟩) n c))]) (by kernel_rfl)
            refine then_normal ?_
            exact ⟨b_17, H.keep (by kernel_rfl), HP, pickI_lt X.frames 40 (by omega)⟩
        · refine Op.alloc H HP 6 (fun b => (.pointer (some ⟨b, 0, none⟩))) 63 [(.int .i64 0), (.int .i64 0), (.int .i64 0), (.int .i64 0), (.int .i64 0), (.int .i64 0), (.slice none 0 0)] rfl (by kernel_rfl) (fun w => by kernel_rfl) ?_
          intro b_24 w_25 a H HP
          refine ⟨.inr ((HP.tail rfl)), ?_⟩
          refine An.one 7 (by kernel_rfl) ?_
          refine Op.call H 24 rfl (by kernel_rfl) (Eq.trans (by kernel_rfl : _ = (callFunc 11 #[(.int .i64 X.item), (.int .i64 5)]).run Try.prog w_25) (Try.call11 _ _)) (pick_any X.item 5 w_25 (hb.1) (by omega)) ?_
          rintro e w_27 ⟨rfl, hw⟩
          refine ⟨_, rfl, ?_⟩
          intro a H
          have HP := hw ▸ HP
          have hpk_26 := pickI_lt X.item 5 (by omega)
          refine ⟨.inr ((HP.tail rfl)), ?_⟩
          refine An.pureE H (.inr ((HP.tail rfl))) 8 25 (.int .i64 (IntKind.i64.wrap (1 + (pickI X.item 5)))) (.int .i64 (1 + (pickI X.item 5))) rfl (by kernel_rfl) (by kernel_rfl) (fun _ _ _ h => h) (fun _ => by kernel_rfl) ((by rw [wrap_ini64 _ (by omega)])) ?_
          intro a H
          refine An.one 15 (by kernel_rfl) ?_
          refine Op.call H 32 rfl (by kernel_rfl) (Eq.trans (by kernel_rfl : _ = (callFunc 11 #[(.int .i64 X.frames), (.int .i64 40)]).run Try.prog w_27) (Try.call11 _ _)) (pick_any X.frames 40 w_27 (hb.2.1) (by omega)) ?_
          rintro e w_29 ⟨rfl, hw⟩
          refine ⟨_, rfl, ?_⟩
          intro a H
          have HP := hw ▸ HP
          have hpk_28 := pickI_lt X.frames 40 (by omega)
          refine ⟨.inr ((HP.tail rfl)), ?_⟩
          refine An.pureE H (.inr ((HP.tail rfl))) 16 33 (.int .i64 (IntKind.i64.wrap (1 + (pickI X.frames 40)))) (.int .i64 (1 + (pickI X.frames 40))) rfl (by kernel_rfl) (by kernel_rfl) (fun _ _ _ h => h) (fun _ => by kernel_rfl) ((by rw [wrap_ini64 _ (by omega)])) ?_
          intro a H
          refine An.one 22 (by kernel_rfl) ?_
          refine Op.call H 39 rfl (by kernel_rfl) (Eq.trans (by kernel_rfl : _ = (callFunc 11 #[(.int .i64 X.regions), (.int .i64 4)]).run Try.prog w_29) (Try.call11 _ _)) (pick_any X.regions 4 w_29 (hb.2.2.2.2) (by omega)) ?_
          rintro e w_31 ⟨rfl, hw⟩
          refine ⟨_, rfl, ?_⟩
          intro a H
          have HP := hw ▸ HP
          have hpk_30 := pickI_lt X.regions 4 (by omega)
          refine ⟨.inr ((HP.tail rfl)), ?_⟩
          refine An.pureE H (.inr ((HP.tail rfl))) 23 40 (.int .i64 (IntKind.i64.wrap (2 * (pickI X.regions 4)))) (.int .i64 (2 * (pickI X.regions 4))) rfl (by kernel_rfl) (by kernel_rfl) (fun _ _ _ h => h) (fun _ => by kernel_rfl) ((by rw [wrap_ini64 _ (by omega)])) ?_
          intro a H
          refine An.pureE H (.inr ((HP.tail rfl))) 24 41 (.int .i64 (IntKind.i64.wrap (255 - (2 * (pickI X.regions 4))))) (.int .i64 (255 - (2 * (pickI X.regions 4)))) rfl (by kernel_rfl) (by kernel_rfl) (fun _ _ _ h => h) (fun _ => by kernel_rfl) ((by rw [wrap_ini64 _ (by omega)])) ?_
          intro a H
          refine An.pure H (.inr ((HP.tail rfl))) 25 42 (.agg #[(.int .i64 (((j : Nat) : Int) + 1)), (.int .i64 (1 + (pickI X.item 5))), (.int .i64 t), (.int .i64 (1 + (pickI X.frames 40))), (.int .i64 0), (.int .i64 (255 - (2 * (pickI X.regions 4)))), (.slice none 0 0)]) rfl (by kernel_rfl) (by kernel_rfl) (fun _ _ _ h => h) (fun _ => by kernel_rfl) ?_
          intro a H
          refine An.one 27 (by kernel_rfl) ?_
          refine Op.store H HP 0 b_24 0 7 63 [(.int .i64 0), (.int .i64 0), (.int .i64 0), (.int .i64 0), (.int .i64 0), (.int .i64 0), (.slice none 0 0)] true (.agg #[(.int .i64 (((j : Nat) : Int) + 1)), (.int .i64 (1 + (pickI X.item 5))), (.int .i64 t), (.int .i64 (1 + (pickI X.frames 40))), (.int .i64 0), (.int .i64 (255 - (2 * (pickI X.regions 4)))), (.slice none 0 0)]) [bx b_24 63 [(.int .i64 (((j : Nat) : Int) + 1)), (.int .i64 (1 + (pickI X.item 5))), (.int .i64 t), (.int .i64 (1 + (pickI X.frames 40))), (.int .i64 0), (.int .i64 (255 - (2 * (pickI X.regions 4)))), (.slice none 0 0)] true, (rowsR w.heap.size 63 7 EvA.cells evOk evFp (.slice EA l'.length ec) l')] rfl (by kernel_rfl) (by kernel_rfl) (by kernel_rfl) rfl (by kernel_rfl) (by kernel_rfl) (by kernel_rfl) (by kernel_rfl) (by kernel_rfl) ?_
          intro w_32 a H HP
          refine ⟨.inl (by kernel_rfl), ?_⟩
          refine An.done (by kernel_rfl) ?_
          have H := H.keep (L' := [(6, (.pointer (some ⟨b_24, 0, none⟩))), (14, (.bool (decide (((j : Nat) : Int) < 10)))), (5, (.int .i64 ((j : Nat) : Int))), (4, (.int .i64 t)), (3, (.slice EA l'.length ec)), (2, (.slice none 0 0)), (0, (.slice (some ⟨b0, off, none⟩) n c))]) (by kernel_rfl)
          refine then_normal ?_
          exact ⟨b_24, H.keep (by kernel_rfl), HP, pickI_lt X.frames 40 (by omega)⟩
      ·
        rintro a w_33 ⟨bE, H, HP, hk1⟩
        refine wp_seq ?_
        refine wp_seq ?_
        have HP := HP.nilRow w.heap.size 69 2 altCells (fun _ _ => True) (fun _ _ => False) elOk_flat
        refine w_region ?_
        refine H.val 43 (.slice (some ⟨b0, off, none⟩) n c) (by kernel_rfl) (by kernel_rfl) ?_
        intro a H
        refine H.val 44 (.int .i64 ((j : Nat) : Int)) (by kernel_rfl) (by kernel_rfl) ?_
        intro a H
        refine H.val 45 (.pointer (some ⟨b0, off + j * 5, none⟩)) (by kernel_rfl) (ex_index (b := b0) (off := off) (len := n) (cap := c) (e := 82) (k := 5) (ik := .i64) (i := ((j : Nat) : Int)) (m := j) (by kernel_rfl) (by kernel_rfl) (by omega) (by omega) (by kernel_rfl) (by kernel_rfl)) ?_
        intro a H
        refine H.val 46 (.pointer (some ⟨b0, off + j * 5 + 2, none⟩)) (by kernel_rfl) (by kernel_rfl) ?_
        intro a H
        refine H.val 47 (.int .i64 X.one) (by kernel_rfl) (ex_load1 (by kernel_rfl) (by kernel_rfl) (HP.oldc (by kernel_rfl) p2)) ?_
        intro a H
        refine H.call 48 (by kernel_rfl) (Eq.trans (by kernel_rfl : _ = (callFunc 11 #[(.int .i64 X.one), (.int .i64 6)]).run Try.prog w_33) (Try.call11 _ _)) (pick_any X.one 6 w_33 (hb.2.2.1) (by omega)) ?_
        rintro e w_35 ⟨rfl, hw⟩
        refine ⟨_, rfl, ?_⟩
        intro a H
        have HP := hw ▸ HP
        have hpk_34 := pickI_lt X.one 6 (by omega)
        refine H.val 49 (.bool (decide ((pickI X.one 6) > 0))) (by kernel_rfl) (by kernel_rfl) ?_
        intro a H
        refine wpList_nil ?_
        have H := H.keep (L' := [(49, (.bool (decide ((pickI X.one 6) > 0)))), (6, (.pointer (some ⟨bE, 0, none⟩))), (5, (.int .i64 ((j : Nat) : Int))), (4, (.int .i64 t)), (3, (.slice EA l'.length ec)), (2, (.slice none 0 0)), (0, (.slice (some ⟨b0, off, none⟩) n c))]) (by kernel_rfl)
        refine then_normal ?_
        refine w_if H rfl (fun g49 => ?_) (fun g49 => ?_)
        · have g49p := of_decide_eq_true g49
          have HP := HP.front 0 rfl [(rowsR w.heap.size 69 2 altCells (fun _ _ => True) (fun _ _ => False) (.slice none 0 0) ([] : List (Int × Int))), bx bE 63 [(.int .i64 (((j : Nat) : Int) + 1)), (.int .i64 (1 + pickI X.item 5)), (.int .i64 t), (.int .i64 (1 + pickI X.frames 40)), (.int .i64 0), (.int .i64 (255 - 2 * pickI X.regions 4)), (.slice none 0 0)] true, (rowsR w.heap.size 63 7 EvA.cells evOk evFp (.slice EA l'.length ec) l')] (by kernel_rfl)
          refine An.start (fun v => Hp w v [bx bE 63 [(.int .i64 (((j : Nat) : Int) + 1)), (.int .i64 (1 + pickI X.item 5)), (.int .i64 t), (.int .i64 (1 + pickI X.frames 40)), (.int .i64 0), (.int .i64 (255 - 2 * pickI X.regions 4)), (.slice none 0 0)] true, (rowsR w.heap.size 63 7 EvA.cells evOk evFp (.slice EA l'.length ec) l')] []) 12 13 HP wide_follows rfl ?_
          intro w_36 HP
          refine An.pure H (.inr ((HP.tail rfl))) 0 50 (.pointer (some ⟨bE, 6, none⟩)) rfl (by kernel_rfl) (by kernel_rfl) (fun _ _ _ h => h) (fun _ => by kernel_rfl) ?_
          intro a H
          refine An.val H ((HP.tail rfl)) 1 51 (.slice none 0 0) rfl (by kernel_rfl) (by kernel_rfl) (fun _ _ _ h => h) (fun _ hS => ex_load1 (by kernel_rfl) (by kernel_rfl) (hS.cell 0 rfl 6 rfl)) ?_
          intro a H
          refine An.pure H (.inr ((HP.tail rfl))) 2 52 (.slice (some ⟨b0, off, none⟩) n c) rfl (by kernel_rfl) (by kernel_rfl) (fun _ _ _ h => h) (fun _ => by kernel_rfl) ?_
          intro a H
          refine An.pure H (.inr ((HP.tail rfl))) 3 53 (.int .i64 ((j : Nat) : Int)) rfl (by kernel_rfl) (by kernel_rfl) (fun _ _ _ h => h) (fun _ => by kernel_rfl) ?_
          intro a H
          refine An.pure H (.inr ((HP.tail rfl))) 4 54 (.pointer (some ⟨b0, off + j * 5, none⟩)) rfl (by kernel_rfl) (by kernel_rfl) (fun _ _ _ h => h) (fun _ => ex_index (b := b0) (off := off) (len := n) (cap := c) (e := 82) (k := 5) (ik := .i64) (i := ((j : Nat) : Int)) (m := j) (by kernel_rfl) (by kernel_rfl) (by omega) (by omega) (by kernel_rfl) (by kernel_rfl)) ?_
          intro a H
          refine An.pure H (.inr ((HP.tail rfl))) 5 55 (.pointer (some ⟨b0, off + j * 5 + 2, none⟩)) rfl (by kernel_rfl) (by kernel_rfl) (fun _ _ _ h => h) (fun _ => by kernel_rfl) ?_
          intro a H
          refine An.val H ((HP.tail rfl)) 6 56 (.int .i64 X.one) rfl (by kernel_rfl) (by kernel_rfl) (fun _ _ _ h => h) (fun _ hS => ex_load1 (by kernel_rfl) (by kernel_rfl) (hS.oldc (by kernel_rfl) p2)) ?_
          intro a H
          refine An.one 7 (by kernel_rfl) ?_
          refine Op.call H 57 rfl (by kernel_rfl) (Eq.trans (by kernel_rfl : _ = (callFunc 11 #[(.int .i64 X.one), (.int .i64 6)]).run Try.prog w_36) (Try.call11 _ _)) (pick_any X.one 6 w_36 (hb.2.2.1) (by omega)) ?_
          rintro e w_38 ⟨rfl, hw⟩
          refine ⟨_, rfl, ?_⟩
          intro a H
          have HP := hw ▸ HP
          have hpk_37 := pickI_lt X.one 6 (by omega)
          refine ⟨.inr ((HP.tail rfl)), ?_⟩
          refine An.pure H (.inr ((HP.tail rfl))) 8 58 (.agg #[(.int .i64 1), (.int .i64 (pickI X.one 6))]) rfl (by kernel_rfl) (by kernel_rfl) (fun _ _ _ h => h) (fun _ => by kernel_rfl) ?_
          intro a H
          refine An.one 9 (by kernel_rfl) ?_
          refine Op.alloc H HP 59 (fun b => (.slice (some ⟨b, 0, none⟩) 1 1)) 69 [(.int .i64 1), (.int .i64 (pickI X.one 6))] rfl (by kernel_rfl) (fun w => by kernel_rfl) ?_
          intro b_39 w_40 a H HP
          refine ⟨.inr (((HP.tail rfl).tail rfl)), ?_⟩
          refine An.one 10 (by kernel_rfl) ?_
          have HP := HP.pend0 1 rfl elOk_flat ((1, pickI X.one 6) : Int × Int) [bx b_39 69 [(.int .i64 1), (.int .i64 (pickI X.one 6))] true, (rowsP w.heap.size 69 2 altCells (fun _ _ => True) (fun _ _ => False) (.slice none 0 0) ([] : List (Int × Int)) ((1, pickI X.one 6) : Int × Int)), bx bE 63 [(.int .i64 (((j : Nat) : Int) + 1)), (.int .i64 (1 + pickI X.item 5)), (.int .i64 t), (.int .i64 (1 + pickI X.frames 40)), (.int .i64 0), (.int .i64 (255 - 2 * pickI X.regions 4)), (.slice none 0 0)] true, (rowsR w.heap.size 63 7 EvA.cells evOk evFp (.slice EA l'.length ec) l')] (by kernel_rfl) trivial (fun _ h => h)
          refine Op.push H HP 60 1 0 (v := (.slice none 0 0)) (e := 69) (p := ((1, pickI X.one 6) : Int × Int)) (l := ([] : List (Int × Int))) (cs := altCells) (ok := (fun _ _ => True)) (fe := (fun _ _ => False)) (size := 2) (z := (.agg #[.int .i64 0, .int .i64 0])) (bytes := 16) (bb := b_39) (tb := 69) (fb := true) rfl (by kernel_rfl) elOk_flat (by kernel_rfl) (by kernel_rfl) rfl (by kernel_rfl) (by kernel_rfl) (by kernel_rfl) (by kernel_rfl) (by kernel_rfl) rfl (by kernel_rfl) (by simp [maxLen]) (by simp) ?_
          intro B_41 c_42 w_43 a H HP
          have HP : Hp w w_43 [bx b_39 69 [(.int .i64 1), (.int .i64 (pickI X.one 6))] true, (rowsR w.heap.size 69 2 altCells (fun _ _ => True) (fun _ _ => False) (.slice B_41 (([] : List (Int × Int)).length + 1) c_42) (([] : List (Int × Int)) ++ [((1, pickI X.one 6) : Int × Int)])), bx bE 63 [(.int .i64 (((j : Nat) : Int) + 1)), (.int .i64 (1 + pickI X.item 5)), (.int .i64 t), (.int .i64 (1 + pickI X.frames 40)), (.int .i64 0), (.int .i64 (255 - 2 * pickI X.regions 4)), (.slice none 0 0)] true, (rowsR w.heap.size 63 7 EvA.cells evOk evFp (.slice EA l'.length ec) l')] [] := HP
          refine ⟨.inr (((HP.tail rfl).tail rfl)), ?_⟩
          refine An.pure H (.inr (((HP.tail rfl).tail rfl))) 11 61 (.pointer (some ⟨bE, 6, none⟩)) rfl (by kernel_rfl) (by kernel_rfl) (fun _ _ _ h => h) (fun _ => by kernel_rfl) ?_
          intro a H
          refine An.one 12 (by kernel_rfl) ?_
          refine Op.store H HP 2 bE 6 1 63 [(.int .i64 (((j : Nat) : Int) + 1)), (.int .i64 (1 + pickI X.item 5)), (.int .i64 t), (.int .i64 (1 + pickI X.frames 40)), (.int .i64 0), (.int .i64 (255 - 2 * pickI X.regions 4)), (.slice none 0 0)] true (.slice B_41 (([] : List (Int × Int)).length + 1) c_42) [bx b_39 69 [(.int .i64 1), (.int .i64 (pickI X.one 6))] true, (rowsR w.heap.size 69 2 altCells (fun _ _ => True) (fun _ _ => False) (.slice B_41 (([] : List (Int × Int)).length + 1) c_42) (([] : List (Int × Int)) ++ [((1, pickI X.one 6) : Int × Int)])), bx bE 63 [(.int .i64 (((j : Nat) : Int) + 1)), (.int .i64 (1 + pickI X.item 5)), (.int .i64 t), (.int .i64 (1 + pickI X.frames 40)), (.int .i64 0), (.int .i64 (255 - 2 * pickI X.regions 4)), (.slice B_41 (([] : List (Int × Int)).length + 1) c_42)] true, (rowsR w.heap.size 63 7 EvA.cells evOk evFp (.slice EA l'.length ec) l')] rfl (by kernel_rfl) (by kernel_rfl) (by kernel_rfl) rfl (by kernel_rfl) (by kernel_rfl) (by kernel_rfl) (by kernel_rfl) (by kernel_rfl) ?_
          intro w_44 a H HP
          refine ⟨.inl (by kernel_rfl), ?_⟩
          refine An.done (by kernel_rfl) ?_
          have H := H.keep (L' := [(49, (.bool (decide ((pickI X.one 6) > 0)))), (6, (.pointer (some ⟨bE, 0, none⟩))), (5, (.int .i64 ((j : Nat) : Int))), (4, (.int .i64 t)), (3, (.slice EA l'.length ec)), (2, (.slice none 0 0)), (0, (.slice (some ⟨b0, off, none⟩) n c))]) (by kernel_rfl)
          refine then_normal ?_
          refine wp_seq ?_
          refine wp_seq ?_
          refine w_region ?_
          refine H.val 62 (.slice (some ⟨b0, off, none⟩) n c) (by kernel_rfl) (by kernel_rfl) ?_
          intro a H
          refine H.val 63 (.int .i64 ((j : Nat) : Int)) (by kernel_rfl) (by kernel_rfl) ?_
          intro a H
          refine H.val 64 (.pointer (some ⟨b0, off + j * 5, none⟩)) (by kernel_rfl) (ex_index (b := b0) (off := off) (len := n) (cap := c) (e := 82) (k := 5) (ik := .i64) (i := ((j : Nat) : Int)) (m := j) (by kernel_rfl) (by kernel_rfl) (by omega) (by omega) (by kernel_rfl) (by kernel_rfl)) ?_
          intro a H
          refine H.val 65 (.pointer (some ⟨b0, off + j * 5 + 3, none⟩)) (by kernel_rfl) (by kernel_rfl) ?_
          intro a H
          refine H.val 66 (.int .i64 X.two) (by kernel_rfl) (ex_load1 (by kernel_rfl) (by kernel_rfl) (HP.oldc (by kernel_rfl) p3)) ?_
          intro a H
          refine H.call 67 (by kernel_rfl) (Eq.trans (by kernel_rfl : _ = (callFunc 11 #[(.int .i64 X.two), (.int .i64 6)]).run Try.prog w_44) (Try.call11 _ _)) (pick_any X.two 6 w_44 (hb.2.2.2.1) (by omega)) ?_
          rintro e w_46 ⟨rfl, hw⟩
          refine ⟨_, rfl, ?_⟩
          intro a H
          have HP := hw ▸ HP
          have hpk_45 := pickI_lt X.two 6 (by omega)
          refine H.val 68 (.bool (decide ((pickI X.two 6) > 0))) (by kernel_rfl) (by kernel_rfl) ?_
          intro a H
          refine wpList_nil ?_
          have H := H.keep (L' := [(68, (.bool (decide ((pickI X.two 6) > 0)))), (49, (.bool (decide ((pickI X.one 6) > 0)))), (6, (.pointer (some ⟨bE, 0, none⟩))), (5, (.int .i64 ((j : Nat) : Int))), (4, (.int .i64 t)), (3, (.slice EA l'.length ec)), (2, (.slice none 0 0)), (0, (.slice (some ⟨b0, off, none⟩) n c))]) (by kernel_rfl)
          refine then_normal ?_
          refine w_if H rfl (fun g68 => ?_) (fun g68 => ?_)
          · have g68p := of_decide_eq_true g68
            have HP := HP.front 1 rfl [(rowsR w.heap.size 69 2 altCells (fun _ _ => True) (fun _ _ => False) (.slice B_41 (([] : List (Int × Int)).length + 1) c_42) (([] : List (Int × Int)) ++ [((1, pickI X.one 6) : Int × Int)])), bx b_39 69 [(.int .i64 1), (.int .i64 (pickI X.one 6))] true, bx bE 63 [(.int .i64 (((j : Nat) : Int) + 1)), (.int .i64 (1 + pickI X.item 5)), (.int .i64 t), (.int .i64 (1 + pickI X.frames 40)), (.int .i64 0), (.int .i64 (255 - 2 * pickI X.regions 4)), (.slice B_41 (([] : List (Int × Int)).length + 1) c_42)] true, (rowsR w.heap.size 63 7 EvA.cells evOk evFp (.slice EA l'.length ec) l')] (by kernel_rfl)
            refine An.start (fun v => Hp w v [bx b_39 69 [(.int .i64 1), (.int .i64 (pickI X.one 6))] true, bx bE 63 [(.int .i64 (((j : Nat) : Int) + 1)), (.int .i64 (1 + pickI X.item 5)), (.int .i64 t), (.int .i64 (1 + pickI X.frames 40)), (.int .i64 0), (.int .i64 (255 - 2 * pickI X.regions 4)), (.slice B_41 (([] : List (Int × Int)).length + 1) c_42)] true, (rowsR w.heap.size 63 7 EvA.cells evOk evFp (.slice EA l'.length ec) l')] []) 12 13 HP wide_follows rfl ?_
            intro w_47 HP
            refine An.pure H (.inr ((HP.tail rfl))) 0 69 (.pointer (some ⟨bE, 6, none⟩)) rfl (by kernel_rfl) (by kernel_rfl) (fun _ _ _ h => h) (fun _ => by kernel_rfl) ?_
            intro a H
            refine An.val H ((HP.tail rfl)) 1 70 (.slice B_41 (([] : List (Int × Int)).length + 1) c_42) rfl (by kernel_rfl) (by kernel_rfl) (fun _ _ _ h => h) (fun _ hS => ex_load1 (by kernel_rfl) (by kernel_rfl) (hS.cell 1 rfl 6 rfl)) ?_
            intro a H
            refine An.pure H (.inr ((HP.tail rfl))) 2 71 (.slice (some ⟨b0, off, none⟩) n c) rfl (by kernel_rfl) (by kernel_rfl) (fun _ _ _ h => h) (fun _ => by kernel_rfl) ?_
            intro a H
            refine An.pure H (.inr ((HP.tail rfl))) 3 72 (.int .i64 ((j : Nat) : Int)) rfl (by kernel_rfl) (by kernel_rfl) (fun _ _ _ h => h) (fun _ => by kernel_rfl) ?_
            intro a H
            refine An.pure H (.inr ((HP.tail rfl))) 4 73 (.pointer (some ⟨b0, off + j * 5, none⟩)) rfl (by kernel_rfl) (by kernel_rfl) (fun _ _ _ h => h) (fun _ => ex_index (b := b0) (off := off) (len := n) (cap := c) (e := 82) (k := 5) (ik := .i64) (i := ((j : Nat) : Int)) (m := j) (by kernel_rfl) (by kernel_rfl) (by omega) (by omega) (by kernel_rfl) (by kernel_rfl)) ?_
            intro a H
            refine An.pure H (.inr ((HP.tail rfl))) 5 74 (.pointer (some ⟨b0, off + j * 5 + 3, none⟩)) rfl (by kernel_rfl) (by kernel_rfl) (fun _ _ _ h => h) (fun _ => by kernel_rfl) ?_
            intro a H
            refine An.val H ((HP.tail rfl)) 6 75 (.int .i64 X.two) rfl (by kernel_rfl) (by kernel_rfl) (fun _ _ _ h => h) (fun _ hS => ex_load1 (by kernel_rfl) (by kernel_rfl) (hS.oldc (by kernel_rfl) p3)) ?_
            intro a H
            refine An.one 7 (by kernel_rfl) ?_
            refine Op.call H 76 rfl (by kernel_rfl) (Eq.trans (by kernel_rfl : _ = (callFunc 11 #[(.int .i64 X.two), (.int .i64 6)]).run Try.prog w_47) (Try.call11 _ _)) (pick_any X.two 6 w_47 (hb.2.2.2.1) (by omega)) ?_
            rintro e w_49 ⟨rfl, hw⟩
            refine ⟨_, rfl, ?_⟩
            intro a H
            have HP := hw ▸ HP
            have hpk_48 := pickI_lt X.two 6 (by omega)
            refine ⟨.inr ((HP.tail rfl)), ?_⟩
            refine An.pure H (.inr ((HP.tail rfl))) 8 77 (.agg #[(.int .i64 2), (.int .i64 (pickI X.two 6))]) rfl (by kernel_rfl) (by kernel_rfl) (fun _ _ _ h => h) (fun _ => by kernel_rfl) ?_
            intro a H
            refine An.one 9 (by kernel_rfl) ?_
            refine Op.alloc H HP 78 (fun b => (.slice (some ⟨b, 0, none⟩) 1 1)) 69 [(.int .i64 2), (.int .i64 (pickI X.two 6))] rfl (by kernel_rfl) (fun w => by kernel_rfl) ?_
            intro b_50 w_51 a H HP
            refine ⟨.inr (((HP.tail rfl).tail rfl)), ?_⟩
            refine An.one 10 (by kernel_rfl) ?_
            have HP := HP.pend0 1 rfl elOk_flat ((2, pickI X.two 6) : Int × Int) [bx b_50 69 [(.int .i64 2), (.int .i64 (pickI X.two 6))] true, (rowsP w.heap.size 69 2 altCells (fun _ _ => True) (fun _ _ => False) (.slice B_41 (([] : List (Int × Int)).length + 1) c_42) (([] : List (Int × Int)) ++ [((1, pickI X.one 6) : Int × Int)]) ((2, pickI X.two 6) : Int × Int)), bx b_39 69 [(.int .i64 1), (.int .i64 (pickI X.one 6))] true, bx bE 63 [(.int .i64 (((j : Nat) : Int) + 1)), (.int .i64 (1 + pickI X.item 5)), (.int .i64 t), (.int .i64 (1 + pickI X.frames 40)), (.int .i64 0), (.int .i64 (255 - 2 * pickI X.regions 4)), (.slice B_41 (([] : List (Int × Int)).length + 1) c_42)] true, (rowsR w.heap.size 63 7 EvA.cells evOk evFp (.slice EA l'.length ec) l')] (by kernel_rfl) trivial (fun _ h => h)
            refine Op.push H HP 79 1 0 (v := (.slice B_41 (([] : List (Int × Int)).length + 1) c_42)) (e := 69) (p := ((2, pickI X.two 6) : Int × Int)) (l := (([] : List (Int × Int)) ++ [((1, pickI X.one 6) : Int × Int)])) (cs := altCells) (ok := (fun _ _ => True)) (fe := (fun _ _ => False)) (size := 2) (z := (.agg #[.int .i64 0, .int .i64 0])) (bytes := 16) (bb := b_50) (tb := 69) (fb := true) rfl (by kernel_rfl) elOk_flat (by kernel_rfl) (by kernel_rfl) rfl (by kernel_rfl) (by kernel_rfl) (by kernel_rfl) (by kernel_rfl) (by kernel_rfl) rfl (by kernel_rfl) (by simp [maxLen]) (by simp) ?_
            intro B_52 c_53 w_54 a H HP
            have HP : Hp w w_54 [bx b_50 69 [(.int .i64 2), (.int .i64 (pickI X.two 6))] true, (rowsR w.heap.size 69 2 altCells (fun _ _ => True) (fun _ _ => False) (.slice B_52 ((([] : List (Int × Int)) ++ [((1, pickI X.one 6) : Int × Int)]).length + 1) c_53) (([] : List (Int × Int)) ++ [((1, pickI X.one 6) : Int × Int)] ++ [((2, pickI X.two 6) : Int × Int)])), bx b_39 69 [(.int .i64 1), (.int .i64 (pickI X.one 6))] true, bx bE 63 [(.int .i64 (((j : Nat) : Int) + 1)), (.int .i64 (1 + pickI X.item 5)), (.int .i64 t), (.int .i64 (1 + pickI X.frames 40)), (.int .i64 0), (.int .i64 (255 - 2 * pickI X.regions 4)), (.slice B_41 (([] : List (Int × Int)).length + 1) c_42)] true, (rowsR w.heap.size 63 7 EvA.cells evOk evFp (.slice EA l'.length ec) l')] [] := HP
            refine ⟨.inr (((HP.tail rfl).tail rfl)), ?_⟩
            refine An.pure H (.inr (((HP.tail rfl).tail rfl))) 11 80 (.pointer (some ⟨bE, 6, none⟩)) rfl (by kernel_rfl) (by kernel_rfl) (fun _ _ _ h => h) (fun _ => by kernel_rfl) ?_
            intro a H
            refine An.one 12 (by kernel_rfl) ?_
            refine Op.store H HP 3 bE 6 1 63 [(.int .i64 (((j : Nat) : Int) + 1)), (.int .i64 (1 + pickI X.item 5)), (.int .i64 t), (.int .i64 (1 + pickI X.frames 40)), (.int .i64 0), (.int .i64 (255 - 2 * pickI X.regions 4)), (.slice B_41 (([] : List (Int × Int)).length + 1) c_42)] true (.slice B_52 ((([] : List (Int × Int)) ++ [((1, pickI X.one 6) : Int × Int)]).length + 1) c_53) [bx b_50 69 [(.int .i64 2), (.int .i64 (pickI X.two 6))] true, (rowsR w.heap.size 69 2 altCells (fun _ _ => True) (fun _ _ => False) (.slice B_52 ((([] : List (Int × Int)) ++ [((1, pickI X.one 6) : Int × Int)]).length + 1) c_53) (([] : List (Int × Int)) ++ [((1, pickI X.one 6) : Int × Int)] ++ [((2, pickI X.two 6) : Int × Int)])), bx b_39 69 [(.int .i64 1), (.int .i64 (pickI X.one 6))] true, bx bE 63 [(.int .i64 (((j : Nat) : Int) + 1)), (.int .i64 (1 + pickI X.item 5)), (.int .i64 t), (.int .i64 (1 + pickI X.frames 40)), (.int .i64 0), (.int .i64 (255 - 2 * pickI X.regions 4)), (.slice B_52 ((([] : List (Int × Int)) ++ [((1, pickI X.one 6) : Int × Int)]).length + 1) c_53)] true, (rowsR w.heap.size 63 7 EvA.cells evOk evFp (.slice EA l'.length ec) l')] rfl (by kernel_rfl) (by kernel_rfl) (by kernel_rfl) rfl (by kernel_rfl) (by kernel_rfl) (by kernel_rfl) (by kernel_rfl) (by kernel_rfl) ?_
            intro w_55 a H HP
            refine ⟨.inl (by kernel_rfl), ?_⟩
            refine An.done (by kernel_rfl) ?_
            have H := H.keep (L' := [(68, (.bool (decide ((pickI X.two 6) > 0)))), (49, (.bool (decide ((pickI X.one 6) > 0)))), (6, (.pointer (some ⟨bE, 0, none⟩))), (5, (.int .i64 ((j : Nat) : Int))), (4, (.int .i64 t)), (3, (.slice EA l'.length ec)), (2, (.slice none 0 0)), (0, (.slice (some ⟨b0, off, none⟩) n c))]) (by kernel_rfl)
            refine then_normal ?_
            refine wp_seq ?_
            refine w_region ?_
            refine H.val 81 (.slice EA l'.length ec) (by kernel_rfl) (by kernel_rfl) ?_
            intro a H
            refine H.val 82 (.agg #[(.int .i64 (((j : Nat) : Int) + 1)), (.int .i64 (1 + pickI X.item 5)), (.int .i64 t), (.int .i64 (1 + pickI X.frames 40)), (.int .i64 0), (.int .i64 (255 - 2 * pickI X.regions 4)), (.slice B_52 ((([] : List (Int × Int)) ++ [((1, pickI X.one 6) : Int × Int)]).length + 1) c_53)]) (by kernel_rfl) (ex_loadN (vs := [(.int .i64 (((j : Nat) : Int) + 1)), (.int .i64 (1 + pickI X.item 5)), (.int .i64 t), (.int .i64 (1 + pickI X.frames 40)), (.int .i64 0), (.int .i64 (255 - 2 * pickI X.regions 4)), (.slice B_52 ((([] : List (Int × Int)) ++ [((1, pickI X.one 6) : Int × Int)]).length + 1) c_53)]) (by kernel_rfl) (by kernel_rfl) (by kernel_rfl) rfl (HP.cells 3 rfl 0 7 (by kernel_rfl))) ?_
            intro a H
            refine H.alloc HP 83 (fun b => (.slice (some ⟨b, 0, none⟩) 1 1)) 63 [(.int .i64 (((j : Nat) : Int) + 1)), (.int .i64 (1 + pickI X.item 5)), (.int .i64 t), (.int .i64 (1 + pickI X.frames 40)), (.int .i64 0), (.int .i64 (255 - 2 * pickI X.regions 4)), (.slice B_52 ((([] : List (Int × Int)) ++ [((1, pickI X.one 6) : Int × Int)]).length + 1) c_53)] (by kernel_rfl) (fun w => by kernel_rfl) ?_
            intro b_56 w_57 a H HP
            have HP := HP.front 2 rfl [(rowsR w.heap.size 69 2 altCells (fun _ _ => True) (fun _ _ => False) (.slice B_52 ((([] : List (Int × Int)) ++ [((1, pickI X.one 6) : Int × Int)]).length + 1) c_53) (([] : List (Int × Int)) ++ [((1, pickI X.one 6) : Int × Int)] ++ [((2, pickI X.two 6) : Int × Int)])), bx b_56 63 [(.int .i64 (((j : Nat) : Int) + 1)), (.int .i64 (1 + pickI X.item 5)), (.int .i64 t), (.int .i64 (1 + pickI X.frames 40)), (.int .i64 0), (.int .i64 (255 - 2 * pickI X.regions 4)), (.slice B_52 ((([] : List (Int × Int)) ++ [((1, pickI X.one 6) : Int × Int)]).length + 1) c_53)] true, bx b_50 69 [(.int .i64 2), (.int .i64 (pickI X.two 6))] true, bx b_39 69 [(.int .i64 1), (.int .i64 (pickI X.one 6))] true, bx bE 63 [(.int .i64 (((j : Nat) : Int) + 1)), (.int .i64 (1 + pickI X.item 5)), (.int .i64 t), (.int .i64 (1 + pickI X.frames 40)), (.int .i64 0), (.int .i64 (255 - 2 * pickI X.regions 4)), (.slice B_52 ((([] : List (Int × Int)) ++ [((1, pickI X.one 6) : Int × Int)]).length + 1) c_53)] true, (rowsR w.heap.size 63 7 EvA.cells evOk evFp (.slice EA l'.length ec) l')] (by kernel_rfl)
            have HP := HP.absorb 4 rfl elOk_ev (⟨⟨((j : Nat) : Int) + 1, 1 + pickI X.item 5, t, 1 + pickI X.frames 40, 0, 255 - 2 * pickI X.regions 4⟩, B_52, c_53, ([] : List (Int × Int)) ++ [((1, pickI X.one 6) : Int × Int)] ++ [((2, pickI X.two 6) : Int × Int)]⟩ : EvA) [bx b_56 63 [(.int .i64 (((j : Nat) : Int) + 1)), (.int .i64 (1 + pickI X.item 5)), (.int .i64 t), (.int .i64 (1 + pickI X.frames 40)), (.int .i64 0), (.int .i64 (255 - 2 * pickI X.regions 4)), (.slice B_52 ((([] : List (Int × Int)) ++ [((1, pickI X.one 6) : Int × Int)]).length + 1) c_53)] true, bx b_50 69 [(.int .i64 2), (.int .i64 (pickI X.two 6))] true, bx b_39 69 [(.int .i64 1), (.int .i64 (pickI X.one 6))] true, bx bE 63 [(.int .i64 (((j : Nat) : Int) + 1)), (.int .i64 (1 + pickI X.item 5)), (.int .i64 t), (.int .i64 (1 + pickI X.frames 40)), (.int .i64 0), (.int .i64 (255 - 2 * pickI X.regions 4)), (.slice B_52 ((([] : List (Int × Int)) ++ [((1, pickI X.one 6) : Int × Int)]).length + 1) c_53)] true, (rowsP w.heap.size 63 7 EvA.cells evOk evFp (.slice EA l'.length ec) l' (⟨⟨((j : Nat) : Int) + 1, 1 + pickI X.item 5, t, 1 + pickI X.frames 40, 0, 255 - 2 * pickI X.regions 4⟩, B_52, c_53, ([] : List (Int × Int)) ++ [((1, pickI X.one 6) : Int × Int)] ++ [((2, pickI X.two 6) : Int × Int)]⟩ : EvA))] (by kernel_rfl) (alts_ok (HP.held 0 rfl) (by simp)) (fun k hk => .inl (own_of_row hk)) rfl
            refine H.push HP 84 4 0 (v := (.slice EA l'.length ec)) (e := 63) (p := (⟨⟨((j : Nat) : Int) + 1, 1 + pickI X.item 5, t, 1 + pickI X.frames 40, 0, 255 - 2 * pickI X.regions 4⟩, B_52, c_53, ([] : List (Int × Int)) ++ [((1, pickI X.one 6) : Int × Int)] ++ [((2, pickI X.two 6) : Int × Int)]⟩ : EvA)) (l := l') (cs := EvA.cells) (ok := evOk) (fe := evFp) (size := 7) (z := (.agg #[.int .i64 0, .int .i64 0, .int .i64 0, .int .i64 0, .int .i64 0, .int .i64 0, .slice none 0 0])) (bytes := 72) (bb := b_56) (tb := 63) (fb := true) (by kernel_rfl) elOk_ev (by kernel_rfl) (by kernel_rfl) rfl (by kernel_rfl) (by kernel_rfl) (by kernel_rfl) (by kernel_rfl) (by kernel_rfl) rfl (by kernel_rfl) (by unfold maxLen; omega) (by omega) ?_
            intro B_58 c_59 w_60 a H HP
            have HP : Hp w w_60 [bx b_56 63 [(.int .i64 (((j : Nat) : Int) + 1)), (.int .i64 (1 + pickI X.item 5)), (.int .i64 t), (.int .i64 (1 + pickI X.frames 40)), (.int .i64 0), (.int .i64 (255 - 2 * pickI X.regions 4)), (.slice B_52 ((([] : List (Int × Int)) ++ [((1, pickI X.one 6) : Int × Int)]).length + 1) c_53)] true, bx b_50 69 [(.int .i64 2), (.int .i64 (pickI X.two 6))] true, bx b_39 69 [(.int .i64 1), (.int .i64 (pickI X.one 6))] true, bx bE 63 [(.int .i64 (((j : Nat) : Int) + 1)), (.int .i64 (1 + pickI X.item 5)), (.int .i64 t), (.int .i64 (1 + pickI X.frames 40)), (.int .i64 0), (.int .i64 (255 - 2 * pickI X.regions 4)), (.slice B_52 ((([] : List (Int × Int)) ++ [((1, pickI X.one 6) : Int × Int)]).length + 1) c_53)] true, (rowsR w.heap.size 63 7 EvA.cells evOk evFp (.slice B_58 (l'.length + 1) c_59) (l' ++ [(⟨⟨((j : Nat) : Int) + 1, 1 + pickI X.item 5, t, 1 + pickI X.frames 40, 0, 255 - 2 * pickI X.regions 4⟩, B_52, c_53, ([] : List (Int × Int)) ++ [((1, pickI X.one 6) : Int × Int)] ++ [((2, pickI X.two 6) : Int × Int)]⟩ : EvA)]))] [] := HP
            refine H.val 3 (.slice B_58 (l'.length + 1) c_59) (by kernel_rfl) (by kernel_rfl) ?_
            intro a H
            refine wpList_nil ?_
            refine then_normal ?_
            refine w_region ?_
            refine H.val 85 (.int .i64 t) (by kernel_rfl) (by kernel_rfl) ?_
            intro a H
            refine H.val 86 (.pointer (some ⟨bE, 3, none⟩)) (by kernel_rfl) (by kernel_rfl) ?_
            intro a H
            refine H.val 87 (.int .i64 (1 + pickI X.frames 40)) (by kernel_rfl) (ex_load1 (by kernel_rfl) (by kernel_rfl) (HP.cell 3 rfl 3 rfl)) ?_
            intro a H
            refine H.valE 88 (.int .i64 (IntKind.i64.wrap (t + (1 + pickI X.frames 40)))) (.int .i64 (t + (1 + pickI X.frames 40))) (by kernel_rfl) (by kernel_rfl) ((by rw [wrap_ini64 _ (by omega)])) ?_
            intro a H
            refine H.val 4 (.int .i64 (t + (1 + pickI X.frames 40))) (by kernel_rfl) (by kernel_rfl) ?_
            intro a H
            refine wpList_nil ?_
            have H := H.keep (L' := [(4, (.int .i64 (t + (1 + pickI X.frames 40)))), (3, (.slice B_58 (l'.length + 1) c_59)), (84, (.slice B_58 (l'.length + 1) c_59)), (83, (.slice (some ⟨b_56, 0, none⟩) 1 1)), (82, (.agg #[(.int .i64 (((j : Nat) : Int) + 1)), (.int .i64 (1 + pickI X.item 5)), (.int .i64 t), (.int .i64 (1 + pickI X.frames 40)), (.int .i64 0), (.int .i64 (255 - 2 * pickI X.regions 4)), (.slice B_52 ((([] : List (Int × Int)) ++ [((1, pickI X.one 6) : Int × Int)]).length + 1) c_53)])), (81, (.slice EA l'.length ec)), (68, (.bool (decide ((pickI X.two 6) > 0)))), (49, (.bool (decide ((pickI X.one 6) > 0)))), (6, (.pointer (some ⟨bE, 0, none⟩))), (5, (.int .i64 ((j : Nat) : Int))), (2, (.slice none 0 0)), (0, (.slice (some ⟨b0, off, none⟩) n c))]) (by kernel_rfl)
            refine inb_normal ?_
            refine then_normal ?_
            refine w_region ?_
            refine H.val 15 (.int .i64 ((j : Nat) : Int)) (by kernel_rfl) (by kernel_rfl) ?_
            intro a H
            refine H.valE 16 (.int .i64 (IntKind.i64.wrap (((j : Nat) : Int) + 1))) (.int .i64 (((j : Nat) : Int) + 1)) (by kernel_rfl) (by kernel_rfl) ((by rw [wrap_ini64 _ (by omega)])) ?_
            intro a H
            refine H.val 5 (.int .i64 (((j : Nat) : Int) + 1)) (by kernel_rfl) (by kernel_rfl) ?_
            intro a H
            refine wpList_nil ?_
            refine then_normal ?_
            have H := H.as 5 (.int .i64 ((j + 1 : Nat) : Int)) rfl rfl
            have H := H.as 3 (.slice B_58 ((l' ++ [(⟨⟨((j : Nat) : Int) + 1, 1 + pickI X.item 5, t, 1 + pickI X.frames 40, 0, 255 - 2 * pickI X.regions 4⟩, B_52, c_53, ([] : List (Int × Int)) ++ [((1, pickI X.one 6) : Int × Int)] ++ [((2, pickI X.two 6) : Int × Int)]⟩ : EvA)]).length) c_59) rfl (by simp)
            refine ⟨_, ?_, j + 1, B_58, c_59, l' ++ [(⟨⟨((j : Nat) : Int) + 1, 1 + pickI X.item 5, t, 1 + pickI X.frames 40, 0, 255 - 2 * pickI X.regions 4⟩, B_52, c_53, ([] : List (Int × Int)) ++ [((1, pickI X.one 6) : Int × Int)] ++ [((2, pickI X.two 6) : Int × Int)]⟩ : EvA)], t + (1 + pickI X.frames 40), rfl, H.keep (by kernel_rfl), (by simpa using ((((HP.tail rfl).tail rfl).tail rfl).tail rfl)), by omega, eventsTo_snoc hsp hX ht (altsP_of g49 g68), by rw [ht, startAt_succ, hX], by omega⟩
            omega
          · have g68p := of_decide_eq_false g68
            refine wp_skip ?_
            refine then_normal ?_
            refine wp_seq ?_
            refine w_region ?_
            refine H.val 81 (.slice EA l'.length ec) (by kernel_rfl) (by kernel_rfl) ?_
            intro a H
            refine H.val 82 (.agg #[(.int .i64 (((j : Nat) : Int) + 1)), (.int .i64 (1 + pickI X.item 5)), (.int .i64 t), (.int .i64 (1 + pickI X.frames 40)), (.int .i64 0), (.int .i64 (255 - 2 * pickI X.regions 4)), (.slice B_41 (([] : List (Int × Int)).length + 1) c_42)]) (by kernel_rfl) (ex_loadN (vs := [(.int .i64 (((j : Nat) : Int) + 1)), (.int .i64 (1 + pickI X.item 5)), (.int .i64 t), (.int .i64 (1 + pickI X.frames 40)), (.int .i64 0), (.int .i64 (255 - 2 * pickI X.regions 4)), (.slice B_41 (([] : List (Int × Int)).length + 1) c_42)]) (by kernel_rfl) (by kernel_rfl) (by kernel_rfl) rfl (HP.cells 2 rfl 0 7 (by kernel_rfl))) ?_
            intro a H
            refine H.alloc HP 83 (fun b => (.slice (some ⟨b, 0, none⟩) 1 1)) 63 [(.int .i64 (((j : Nat) : Int) + 1)), (.int .i64 (1 + pickI X.item 5)), (.int .i64 t), (.int .i64 (1 + pickI X.frames 40)), (.int .i64 0), (.int .i64 (255 - 2 * pickI X.regions 4)), (.slice B_41 (([] : List (Int × Int)).length + 1) c_42)] (by kernel_rfl) (fun w => by kernel_rfl) ?_
            intro b_61 w_62 a H HP
            have HP := HP.front 2 rfl [(rowsR w.heap.size 69 2 altCells (fun _ _ => True) (fun _ _ => False) (.slice B_41 (([] : List (Int × Int)).length + 1) c_42) (([] : List (Int × Int)) ++ [((1, pickI X.one 6) : Int × Int)])), bx b_61 63 [(.int .i64 (((j : Nat) : Int) + 1)), (.int .i64 (1 + pickI X.item 5)), (.int .i64 t), (.int .i64 (1 + pickI X.frames 40)), (.int .i64 0), (.int .i64 (255 - 2 * pickI X.regions 4)), (.slice B_41 (([] : List (Int × Int)).length + 1) c_42)] true, bx b_39 69 [(.int .i64 1), (.int .i64 (pickI X.one 6))] true, bx bE 63 [(.int .i64 (((j : Nat) : Int) + 1)), (.int .i64 (1 + pickI X.item 5)), (.int .i64 t), (.int .i64 (1 + pickI X.frames 40)), (.int .i64 0), (.int .i64 (255 - 2 * pickI X.regions 4)), (.slice B_41 (([] : List (Int × Int)).length + 1) c_42)] true, (rowsR w.heap.size 63 7 EvA.cells evOk evFp (.slice EA l'.length ec) l')] (by kernel_rfl)
            have HP := HP.absorb 3 rfl elOk_ev (⟨⟨((j : Nat) : Int) + 1, 1 + pickI X.item 5, t, 1 + pickI X.frames 40, 0, 255 - 2 * pickI X.regions 4⟩, B_41, c_42, ([] : List (Int × Int)) ++ [((1, pickI X.one 6) : Int × Int)]⟩ : EvA) [bx b_61 63 [(.int .i64 (((j : Nat) : Int) + 1)), (.int .i64 (1 + pickI X.item 5)), (.int .i64 t), (.int .i64 (1 + pickI X.frames 40)), (.int .i64 0), (.int .i64 (255 - 2 * pickI X.regions 4)), (.slice B_41 (([] : List (Int × Int)).length + 1) c_42)] true, bx b_39 69 [(.int .i64 1), (.int .i64 (pickI X.one 6))] true, bx bE 63 [(.int .i64 (((j : Nat) : Int) + 1)), (.int .i64 (1 + pickI X.item 5)), (.int .i64 t), (.int .i64 (1 + pickI X.frames 40)), (.int .i64 0), (.int .i64 (255 - 2 * pickI X.regions 4)), (.slice B_41 (([] : List (Int × Int)).length + 1) c_42)] true, (rowsP w.heap.size 63 7 EvA.cells evOk evFp (.slice EA l'.length ec) l' (⟨⟨((j : Nat) : Int) + 1, 1 + pickI X.item 5, t, 1 + pickI X.frames 40, 0, 255 - 2 * pickI X.regions 4⟩, B_41, c_42, ([] : List (Int × Int)) ++ [((1, pickI X.one 6) : Int × Int)]⟩ : EvA))] (by kernel_rfl) (alts_ok (HP.held 0 rfl) (by simp)) (fun k hk => .inl (own_of_row hk)) rfl
            refine H.push HP 84 3 0 (v := (.slice EA l'.length ec)) (e := 63) (p := (⟨⟨((j : Nat) : Int) + 1, 1 + pickI X.item 5, t, 1 + pickI X.frames 40, 0, 255 - 2 * pickI X.regions 4⟩, B_41, c_42, ([] : List (Int × Int)) ++ [((1, pickI X.one 6) : Int × Int)]⟩ : EvA)) (l := l') (cs := EvA.cells) (ok := evOk) (fe := evFp) (size := 7) (z := (.agg #[.int .i64 0, .int .i64 0, .int .i64 0, .int .i64 0, .int .i64 0, .int .i64 0, .slice none 0 0])) (bytes := 72) (bb := b_61) (tb := 63) (fb := true) (by kernel_rfl) elOk_ev (by kernel_rfl) (by kernel_rfl) rfl (by kernel_rfl) (by kernel_rfl) (by kernel_rfl) (by kernel_rfl) (by kernel_rfl) rfl (by kernel_rfl) (by unfold maxLen; omega) (by omega) ?_
            intro B_63 c_64 w_65 a H HP
            have HP : Hp w w_65 [bx b_61 63 [(.int .i64 (((j : Nat) : Int) + 1)), (.int .i64 (1 + pickI X.item 5)), (.int .i64 t), (.int .i64 (1 + pickI X.frames 40)), (.int .i64 0), (.int .i64 (255 - 2 * pickI X.regions 4)), (.slice B_41 (([] : List (Int × Int)).length + 1) c_42)] true, bx b_39 69 [(.int .i64 1), (.int .i64 (pickI X.one 6))] true, bx bE 63 [(.int .i64 (((j : Nat) : Int) + 1)), (.int .i64 (1 + pickI X.item 5)), (.int .i64 t), (.int .i64 (1 + pickI X.frames 40)), (.int .i64 0), (.int .i64 (255 - 2 * pickI X.regions 4)), (.slice B_41 (([] : List (Int × Int)).length + 1) c_42)] true, (rowsR w.heap.size 63 7 EvA.cells evOk evFp (.slice B_63 (l'.length + 1) c_64) (l' ++ [(⟨⟨((j : Nat) : Int) + 1, 1 + pickI X.item 5, t, 1 + pickI X.frames 40, 0, 255 - 2 * pickI X.regions 4⟩, B_41, c_42, ([] : List (Int × Int)) ++ [((1, pickI X.one 6) : Int × Int)]⟩ : EvA)]))] [] := HP
            refine H.val 3 (.slice B_63 (l'.length + 1) c_64) (by kernel_rfl) (by kernel_rfl) ?_
            intro a H
            refine wpList_nil ?_
            refine then_normal ?_
            refine w_region ?_
            refine H.val 85 (.int .i64 t) (by kernel_rfl) (by kernel_rfl) ?_
            intro a H
            refine H.val 86 (.pointer (some ⟨bE, 3, none⟩)) (by kernel_rfl) (by kernel_rfl) ?_
            intro a H
            refine H.val 87 (.int .i64 (1 + pickI X.frames 40)) (by kernel_rfl) (ex_load1 (by kernel_rfl) (by kernel_rfl) (HP.cell 2 rfl 3 rfl)) ?_
            intro a H
            refine H.valE 88 (.int .i64 (IntKind.i64.wrap (t + (1 + pickI X.frames 40)))) (.int .i64 (t + (1 + pickI X.frames 40))) (by kernel_rfl) (by kernel_rfl) ((by rw [wrap_ini64 _ (by omega)])) ?_
            intro a H
            refine H.val 4 (.int .i64 (t + (1 + pickI X.frames 40))) (by kernel_rfl) (by kernel_rfl) ?_
            intro a H
            refine wpList_nil ?_
            have H := H.keep (L' := [(4, (.int .i64 (t + (1 + pickI X.frames 40)))), (3, (.slice B_63 (l'.length + 1) c_64)), (84, (.slice B_63 (l'.length + 1) c_64)), (83, (.slice (some ⟨b_61, 0, none⟩) 1 1)), (82, (.agg #[(.int .i64 (((j : Nat) : Int) + 1)), (.int .i64 (1 + pickI X.item 5)), (.int .i64 t), (.int .i64 (1 + pickI X.frames 40)), (.int .i64 0), (.int .i64 (255 - 2 * pickI X.regions 4)), (.slice B_41 (([] : List (Int × Int)).length + 1) c_42)])), (81, (.slice EA l'.length ec)), (68, (.bool (decide ((pickI X.two 6) > 0)))), (49, (.bool (decide ((pickI X.one 6) > 0)))), (6, (.pointer (some ⟨bE, 0, none⟩))), (5, (.int .i64 ((j : Nat) : Int))), (2, (.slice none 0 0)), (0, (.slice (some ⟨b0, off, none⟩) n c))]) (by kernel_rfl)
            refine inb_normal ?_
            refine then_normal ?_
            refine w_region ?_
            refine H.val 15 (.int .i64 ((j : Nat) : Int)) (by kernel_rfl) (by kernel_rfl) ?_
            intro a H
            refine H.valE 16 (.int .i64 (IntKind.i64.wrap (((j : Nat) : Int) + 1))) (.int .i64 (((j : Nat) : Int) + 1)) (by kernel_rfl) (by kernel_rfl) ((by rw [wrap_ini64 _ (by omega)])) ?_
            intro a H
            refine H.val 5 (.int .i64 (((j : Nat) : Int) + 1)) (by kernel_rfl) (by kernel_rfl) ?_
            intro a H
            refine wpList_nil ?_
            refine then_normal ?_
            have H := H.as 5 (.int .i64 ((j + 1 : Nat) : Int)) rfl rfl
            have H := H.as 3 (.slice B_63 ((l' ++ [(⟨⟨((j : Nat) : Int) + 1, 1 + pickI X.item 5, t, 1 + pickI X.frames 40, 0, 255 - 2 * pickI X.regions 4⟩, B_41, c_42, ([] : List (Int × Int)) ++ [((1, pickI X.one 6) : Int × Int)]⟩ : EvA)]).length) c_64) rfl (by simp)
            refine ⟨_, ?_, j + 1, B_63, c_64, l' ++ [(⟨⟨((j : Nat) : Int) + 1, 1 + pickI X.item 5, t, 1 + pickI X.frames 40, 0, 255 - 2 * pickI X.regions 4⟩, B_41, c_42, ([] : List (Int × Int)) ++ [((1, pickI X.one 6) : Int × Int)]⟩ : EvA)], t + (1 + pickI X.frames 40), rfl, H.keep (by kernel_rfl), (by simpa using (((HP.tail rfl).tail rfl).tail rfl)), by omega, eventsTo_snoc hsp hX ht (altsP_of g49 g68), by rw [ht, startAt_succ, hX], by omega⟩
            omega
        · have g49p := of_decide_eq_false g49
          refine wp_skip ?_
          refine then_normal ?_
          refine wp_seq ?_
          refine wp_seq ?_
          refine w_region ?_
          refine H.val 62 (.slice (some ⟨b0, off, none⟩) n c) (by kernel_rfl) (by kernel_rfl) ?_
          intro a H
          refine H.val 63 (.int .i64 ((j : Nat) : Int)) (by kernel_rfl) (by kernel_rfl) ?_
          intro a H
          refine H.val 64 (.pointer (some ⟨b0, off + j * 5, none⟩)) (by kernel_rfl) (ex_index (b := b0) (off := off) (len := n) (cap := c) (e := 82) (k := 5) (ik := .i64) (i := ((j : Nat) : Int)) (m := j) (by kernel_rfl) (by kernel_rfl) (by omega) (by omega) (by kernel_rfl) (by kernel_rfl)) ?_
          intro a H
          refine H.val 65 (.pointer (some ⟨b0, off + j * 5 + 3, none⟩)) (by kernel_rfl) (by kernel_rfl) ?_
          intro a H
          refine H.val 66 (.int .i64 X.two) (by kernel_rfl) (ex_load1 (by kernel_rfl) (by kernel_rfl) (HP.oldc (by kernel_rfl) p3)) ?_
          intro a H
          refine H.call 67 (by kernel_rfl) (Eq.trans (by kernel_rfl : _ = (callFunc 11 #[(.int .i64 X.two), (.int .i64 6)]).run Try.prog w_35) (Try.call11 _ _)) (pick_any X.two 6 w_35 (hb.2.2.2.1) (by omega)) ?_
          rintro e w_67 ⟨rfl, hw⟩
          refine ⟨_, rfl, ?_⟩
          intro a H
          have HP := hw ▸ HP
          have hpk_66 := pickI_lt X.two 6 (by omega)
          refine H.val 68 (.bool (decide ((pickI X.two 6) > 0))) (by kernel_rfl) (by kernel_rfl) ?_
          intro a H
          refine wpList_nil ?_
          have H := H.keep (L' := [(68, (.bool (decide ((pickI X.two 6) > 0)))), (49, (.bool (decide ((pickI X.one 6) > 0)))), (6, (.pointer (some ⟨bE, 0, none⟩))), (5, (.int .i64 ((j : Nat) : Int))), (4, (.int .i64 t)), (3, (.slice EA l'.length ec)), (2, (.slice none 0 0)), (0, (.slice (some ⟨b0, off, none⟩) n c))]) (by kernel_rfl)
          refine then_normal ?_
          refine w_if H rfl (fun g68 => ?_) (fun g68 => ?_)
          · have g68p := of_decide_eq_true g68
            have HP := HP.front 0 rfl [(rowsR w.heap.size 69 2 altCells (fun _ _ => True) (fun _ _ => False) (.slice none 0 0) ([] : List (Int × Int))), bx bE 63 [(.int .i64 (((j : Nat) : Int) + 1)), (.int .i64 (1 + pickI X.item 5)), (.int .i64 t), (.int .i64 (1 + pickI X.frames 40)), (.int .i64 0), (.int .i64 (255 - 2 * pickI X.regions 4)), (.slice none 0 0)] true, (rowsR w.heap.size 63 7 EvA.cells evOk evFp (.slice EA l'.length ec) l')] (by kernel_rfl)
            refine An.start (fun v => Hp w v [bx bE 63 [(.int .i64 (((j : Nat) : Int) + 1)), (.int .i64 (1 + pickI X.item 5)), (.int .i64 t), (.int .i64 (1 + pickI X.frames 40)), (.int .i64 0), (.int .i64 (255 - 2 * pickI X.regions 4)), (.slice none 0 0)] true, (rowsR w.heap.size 63 7 EvA.cells evOk evFp (.slice EA l'.length ec) l')] []) 12 13 HP wide_follows rfl ?_
            intro w_68 HP
            refine An.pure H (.inr ((HP.tail rfl))) 0 69 (.pointer (some ⟨bE, 6, none⟩)) rfl (by kernel_rfl) (by kernel_rfl) (fun _ _ _ h => h) (fun _ => by kernel_rfl) ?_
            intro a H
            refine An.val H ((HP.tail rfl)) 1 70 (.slice none 0 0) rfl (by kernel_rfl) (by kernel_rfl) (fun _ _ _ h => h) (fun _ hS => ex_load1 (by kernel_rfl) (by kernel_rfl) (hS.cell 0 rfl 6 rfl)) ?_
            intro a H
            refine An.pure H (.inr ((HP.tail rfl))) 2 71 (.slice (some ⟨b0, off, none⟩) n c) rfl (by kernel_rfl) (by kernel_rfl) (fun _ _ _ h => h) (fun _ => by kernel_rfl) ?_
            intro a H
            refine An.pure H (.inr ((HP.tail rfl))) 3 72 (.int .i64 ((j : Nat) : Int)) rfl (by kernel_rfl) (by kernel_rfl) (fun _ _ _ h => h) (fun _ => by kernel_rfl) ?_
            intro a H
            refine An.pure H (.inr ((HP.tail rfl))) 4 73 (.pointer (some ⟨b0, off + j * 5, none⟩)) rfl (by kernel_rfl) (by kernel_rfl) (fun _ _ _ h => h) (fun _ => ex_index (b := b0) (off := off) (len := n) (cap := c) (e := 82) (k := 5) (ik := .i64) (i := ((j : Nat) : Int)) (m := j) (by kernel_rfl) (by kernel_rfl) (by omega) (by omega) (by kernel_rfl) (by kernel_rfl)) ?_
            intro a H
            refine An.pure H (.inr ((HP.tail rfl))) 5 74 (.pointer (some ⟨b0, off + j * 5 + 3, none⟩)) rfl (by kernel_rfl) (by kernel_rfl) (fun _ _ _ h => h) (fun _ => by kernel_rfl) ?_
            intro a H
            refine An.val H ((HP.tail rfl)) 6 75 (.int .i64 X.two) rfl (by kernel_rfl) (by kernel_rfl) (fun _ _ _ h => h) (fun _ hS => ex_load1 (by kernel_rfl) (by kernel_rfl) (hS.oldc (by kernel_rfl) p3)) ?_
            intro a H
            refine An.one 7 (by kernel_rfl) ?_
            refine Op.call H 76 rfl (by kernel_rfl) (Eq.trans (by kernel_rfl : _ = (callFunc 11 #[(.int .i64 X.two), (.int .i64 6)]).run Try.prog w_68) (Try.call11 _ _)) (pick_any X.two 6 w_68 (hb.2.2.2.1) (by omega)) ?_
            rintro e w_70 ⟨rfl, hw⟩
            refine ⟨_, rfl, ?_⟩
            intro a H
            have HP := hw ▸ HP
            have hpk_69 := pickI_lt X.two 6 (by omega)
            refine ⟨.inr ((HP.tail rfl)), ?_⟩
            refine An.pure H (.inr ((HP.tail rfl))) 8 77 (.agg #[(.int .i64 2), (.int .i64 (pickI X.two 6))]) rfl (by kernel_rfl) (by kernel_rfl) (fun _ _ _ h => h) (fun _ => by kernel_rfl) ?_
            intro a H
            refine An.one 9 (by kernel_rfl) ?_
            refine Op.alloc H HP 78 (fun b => (.slice (some ⟨b, 0, none⟩) 1 1)) 69 [(.int .i64 2), (.int .i64 (pickI X.two 6))] rfl (by kernel_rfl) (fun w => by kernel_rfl) ?_
            intro b_71 w_72 a H HP
            refine ⟨.inr (((HP.tail rfl).tail rfl)), ?_⟩
            refine An.one 10 (by kernel_rfl) ?_
            have HP := HP.pend0 1 rfl elOk_flat ((2, pickI X.two 6) : Int × Int) [bx b_71 69 [(.int .i64 2), (.int .i64 (pickI X.two 6))] true, (rowsP w.heap.size 69 2 altCells (fun _ _ => True) (fun _ _ => False) (.slice none 0 0) ([] : List (Int × Int)) ((2, pickI X.two 6) : Int × Int)), bx bE 63 [(.int .i64 (((j : Nat) : Int) + 1)), (.int .i64 (1 + pickI X.item 5)), (.int .i64 t), (.int .i64 (1 + pickI X.frames 40)), (.int .i64 0), (.int .i64 (255 - 2 * pickI X.regions 4)), (.slice none 0 0)] true, (rowsR w.heap.size 63 7 EvA.cells evOk evFp (.slice EA l'.length ec) l')] (by kernel_rfl) trivial (fun _ h => h)
            refine Op.push H HP 79 1 0 (v := (.slice none 0 0)) (e := 69) (p := ((2, pickI X.two 6) : Int × Int)) (l := ([] : List (Int × Int))) (cs := altCells) (ok := (fun _ _ => True)) (fe := (fun _ _ => False)) (size := 2) (z := (.agg #[.int .i64 0, .int .i64 0])) (bytes := 16) (bb := b_71) (tb := 69) (fb := true) rfl (by kernel_rfl) elOk_flat (by kernel_rfl) (by kernel_rfl) rfl (by kernel_rfl) (by kernel_rfl) (by kernel_rfl) (by kernel_rfl) (by kernel_rfl) rfl (by kernel_rfl) (by simp [maxLen]) (by simp) ?_
            intro B_73 c_74 w_75 a H HP
            have HP : Hp w w_75 [bx b_71 69 [(.int .i64 2), (.int .i64 (pickI X.two 6))] true, (rowsR w.heap.size 69 2 altCells (fun _ _ => True) (fun _ _ => False) (.slice B_73 (([] : List (Int × Int)).length + 1) c_74) (([] : List (Int × Int)) ++ [((2, pickI X.two 6) : Int × Int)])), bx bE 63 [(.int .i64 (((j : Nat) : Int) + 1)), (.int .i64 (1 + pickI X.item 5)), (.int .i64 t), (.int .i64 (1 + pickI X.frames 40)), (.int .i64 0), (.int .i64 (255 - 2 * pickI X.regions 4)), (.slice none 0 0)] true, (rowsR w.heap.size 63 7 EvA.cells evOk evFp (.slice EA l'.length ec) l')] [] := HP
            refine ⟨.inr (((HP.tail rfl).tail rfl)), ?_⟩
            refine An.pure H (.inr (((HP.tail rfl).tail rfl))) 11 80 (.pointer (some ⟨bE, 6, none⟩)) rfl (by kernel_rfl) (by kernel_rfl) (fun _ _ _ h => h) (fun _ => by kernel_rfl) ?_
            intro a H
            refine An.one 12 (by kernel_rfl) ?_
            refine Op.store H HP 2 bE 6 1 63 [(.int .i64 (((j : Nat) : Int) + 1)), (.int .i64 (1 + pickI X.item 5)), (.int .i64 t), (.int .i64 (1 + pickI X.frames 40)), (.int .i64 0), (.int .i64 (255 - 2 * pickI X.regions 4)), (.slice none 0 0)] true (.slice B_73 (([] : List (Int × Int)).length + 1) c_74) [bx b_71 69 [(.int .i64 2), (.int .i64 (pickI X.two 6))] true, (rowsR w.heap.size 69 2 altCells (fun _ _ => True) (fun _ _ => False) (.slice B_73 (([] : List (Int × Int)).length + 1) c_74) (([] : List (Int × Int)) ++ [((2, pickI X.two 6) : Int × Int)])), bx bE 63 [(.int .i64 (((j : Nat) : Int) + 1)), (.int .i64 (1 + pickI X.item 5)), (.int .i64 t), (.int .i64 (1 + pickI X.frames 40)), (.int .i64 0), (.int .i64 (255 - 2 * pickI X.regions 4)), (.slice B_73 (([] : List (Int × Int)).length + 1) c_74)] true, (rowsR w.heap.size 63 7 EvA.cells evOk evFp (.slice EA l'.length ec) l')] rfl (by kernel_rfl) (by kernel_rfl) (by kernel_rfl) rfl (by kernel_rfl) (by kernel_rfl) (by kernel_rfl) (by kernel_rfl) (by kernel_rfl) ?_
            intro w_76 a H HP
            refine ⟨.inl (by kernel_rfl), ?_⟩
            refine An.done (by kernel_rfl) ?_
            have H := H.keep (L' := [(68, (.bool (decide ((pickI X.two 6) > 0)))), (49, (.bool (decide ((pickI X.one 6) > 0)))), (6, (.pointer (some ⟨bE, 0, none⟩))), (5, (.int .i64 ((j : Nat) : Int))), (4, (.int .i64 t)), (3, (.slice EA l'.length ec)), (2, (.slice none 0 0)), (0, (.slice (some ⟨b0, off, none⟩) n c))]) (by kernel_rfl)
            refine then_normal ?_
            refine wp_seq ?_
            refine w_region ?_
            refine H.val 81 (.slice EA l'.length ec) (by kernel_rfl) (by kernel_rfl) ?_
            intro a H
            refine H.val 82 (.agg #[(.int .i64 (((j : Nat) : Int) + 1)), (.int .i64 (1 + pickI X.item 5)), (.int .i64 t), (.int .i64 (1 + pickI X.frames 40)), (.int .i64 0), (.int .i64 (255 - 2 * pickI X.regions 4)), (.slice B_73 (([] : List (Int × Int)).length + 1) c_74)]) (by kernel_rfl) (ex_loadN (vs := [(.int .i64 (((j : Nat) : Int) + 1)), (.int .i64 (1 + pickI X.item 5)), (.int .i64 t), (.int .i64 (1 + pickI X.frames 40)), (.int .i64 0), (.int .i64 (255 - 2 * pickI X.regions 4)), (.slice B_73 (([] : List (Int × Int)).length + 1) c_74)]) (by kernel_rfl) (by kernel_rfl) (by kernel_rfl) rfl (HP.cells 2 rfl 0 7 (by kernel_rfl))) ?_
            intro a H
            refine H.alloc HP 83 (fun b => (.slice (some ⟨b, 0, none⟩) 1 1)) 63 [(.int .i64 (((j : Nat) : Int) + 1)), (.int .i64 (1 + pickI X.item 5)), (.int .i64 t), (.int .i64 (1 + pickI X.frames 40)), (.int .i64 0), (.int .i64 (255 - 2 * pickI X.regions 4)), (.slice B_73 (([] : List (Int × Int)).length + 1) c_74)] (by kernel_rfl) (fun w => by kernel_rfl) ?_
            intro b_77 w_78 a H HP
            have HP := HP.front 2 rfl [(rowsR w.heap.size 69 2 altCells (fun _ _ => True) (fun _ _ => False) (.slice B_73 (([] : List (Int × Int)).length + 1) c_74) (([] : List (Int × Int)) ++ [((2, pickI X.two 6) : Int × Int)])), bx b_77 63 [(.int .i64 (((j : Nat) : Int) + 1)), (.int .i64 (1 + pickI X.item 5)), (.int .i64 t), (.int .i64 (1 + pickI X.frames 40)), (.int .i64 0), (.int .i64 (255 - 2 * pickI X.regions 4)), (.slice B_73 (([] : List (Int × Int)).length + 1) c_74)] true, bx b_71 69 [(.int .i64 2), (.int .i64 (pickI X.two 6))] true, bx bE 63 [(.int .i64 (((j : Nat) : Int) + 1)), (.int .i64 (1 + pickI X.item 5)), (.int .i64 t), (.int .i64 (1 + pickI X.frames 40)), (.int .i64 0), (.int .i64 (255 - 2 * pickI X.regions 4)), (.slice B_73 (([] : List (Int × Int)).length + 1) c_74)] true, (rowsR w.heap.size 63 7 EvA.cells evOk evFp (.slice EA l'.length ec) l')] (by kernel_rfl)
            have HP := HP.absorb 3 rfl elOk_ev (⟨⟨((j : Nat) : Int) + 1, 1 + pickI X.item 5, t, 1 + pickI X.frames 40, 0, 255 - 2 * pickI X.regions 4⟩, B_73, c_74, ([] : List (Int × Int)) ++ [((2, pickI X.two 6) : Int × Int)]⟩ : EvA) [bx b_77 63 [(.int .i64 (((j : Nat) : Int) + 1)), (.int .i64 (1 + pickI X.item 5)), (.int .i64 t), (.int .i64 (1 + pickI X.frames 40)), (.int .i64 0), (.int .i64 (255 - 2 * pickI X.regions 4)), (.slice B_73 (([] : List (Int × Int)).length + 1) c_74)] true, bx b_71 69 [(.int .i64 2), (.int .i64 (pickI X.two 6))] true, bx bE 63 [(.int .i64 (((j : Nat) : Int) + 1)), (.int .i64 (1 + pickI X.item 5)), (.int .i64 t), (.int .i64 (1 + pickI X.frames 40)), (.int .i64 0), (.int .i64 (255 - 2 * pickI X.regions 4)), (.slice B_73 (([] : List (Int × Int)).length + 1) c_74)] true, (rowsP w.heap.size 63 7 EvA.cells evOk evFp (.slice EA l'.length ec) l' (⟨⟨((j : Nat) : Int) + 1, 1 + pickI X.item 5, t, 1 + pickI X.frames 40, 0, 255 - 2 * pickI X.regions 4⟩, B_73, c_74, ([] : List (Int × Int)) ++ [((2, pickI X.two 6) : Int × Int)]⟩ : EvA))] (by kernel_rfl) (alts_ok (HP.held 0 rfl) (by simp)) (fun k hk => .inl (own_of_row hk)) rfl
            refine H.push HP 84 3 0 (v := (.slice EA l'.length ec)) (e := 63) (p := (⟨⟨((j : Nat) : Int) + 1, 1 + pickI X.item 5, t, 1 + pickI X.frames 40, 0, 255 - 2 * pickI X.regions 4⟩, B_73, c_74, ([] : List (Int × Int)) ++ [((2, pickI X.two 6) : Int × Int)]⟩ : EvA)) (l := l') (cs := EvA.cells) (ok := evOk) (fe := evFp) (size := 7) (z := (.agg #[.int .i64 0, .int .i64 0, .int .i64 0, .int .i64 0, .int .i64 0, .int .i64 0, .slice none 0 0])) (bytes := 72) (bb := b_77) (tb := 63) (fb := true) (by kernel_rfl) elOk_ev (by kernel_rfl) (by kernel_rfl) rfl (by kernel_rfl) (by kernel_rfl) (by kernel_rfl) (by kernel_rfl) (by kernel_rfl) rfl (by kernel_rfl) (by unfold maxLen; omega) (by omega) ?_
            intro B_79 c_80 w_81 a H HP
            have HP : Hp w w_81 [bx b_77 63 [(.int .i64 (((j : Nat) : Int) + 1)), (.int .i64 (1 + pickI X.item 5)), (.int .i64 t), (.int .i64 (1 + pickI X.frames 40)), (.int .i64 0), (.int .i64 (255 - 2 * pickI X.regions 4)), (.slice B_73 (([] : List (Int × Int)).length + 1) c_74)] true, bx b_71 69 [(.int .i64 2), (.int .i64 (pickI X.two 6))] true, bx bE 63 [(.int .i64 (((j : Nat) : Int) + 1)), (.int .i64 (1 + pickI X.item 5)), (.int .i64 t), (.int .i64 (1 + pickI X.frames 40)), (.int .i64 0), (.int .i64 (255 - 2 * pickI X.regions 4)), (.slice B_73 (([] : List (Int × Int)).length + 1) c_74)] true, (rowsR w.heap.size 63 7 EvA.cells evOk evFp (.slice B_79 (l'.length + 1) c_80) (l' ++ [(⟨⟨((j : Nat) : Int) + 1, 1 + pickI X.item 5, t, 1 + pickI X.frames 40, 0, 255 - 2 * pickI X.regions 4⟩, B_73, c_74, ([] : List (Int × Int)) ++ [((2, pickI X.two 6) : Int × Int)]⟩ : EvA)]))] [] := HP
            refine H.val 3 (.slice B_79 (l'.length + 1) c_80) (by kernel_rfl) (by kernel_rfl) ?_
            intro a H
            refine wpList_nil ?_
            refine then_normal ?_
            refine w_region ?_
            refine H.val 85 (.int .i64 t) (by kernel_rfl) (by kernel_rfl) ?_
            intro a H
            refine H.val 86 (.pointer (some ⟨bE, 3, none⟩)) (by kernel_rfl) (by kernel_rfl) ?_
            intro a H
            refine H.val 87 (.int .i64 (1 + pickI X.frames 40)) (by kernel_rfl) (ex_load1 (by kernel_rfl) (by kernel_rfl) (HP.cell 2 rfl 3 rfl)) ?_
            intro a H
            refine H.valE 88 (.int .i64 (IntKind.i64.wrap (t + (1 + pickI X.frames 40)))) (.int .i64 (t + (1 + pickI X.frames 40))) (by kernel_rfl) (by kernel_rfl) ((by rw [wrap_ini64 _ (by omega)])) ?_
            intro a H
            refine H.val 4 (.int .i64 (t + (1 + pickI X.frames 40))) (by kernel_rfl) (by kernel_rfl) ?_
            intro a H
            refine wpList_nil ?_
            have H := H.keep (L' := [(4, (.int .i64 (t + (1 + pickI X.frames 40)))), (3, (.slice B_79 (l'.length + 1) c_80)), (84, (.slice B_79 (l'.length + 1) c_80)), (83, (.slice (some ⟨b_77, 0, none⟩) 1 1)), (82, (.agg #[(.int .i64 (((j : Nat) : Int) + 1)), (.int .i64 (1 + pickI X.item 5)), (.int .i64 t), (.int .i64 (1 + pickI X.frames 40)), (.int .i64 0), (.int .i64 (255 - 2 * pickI X.regions 4)), (.slice B_73 (([] : List (Int × Int)).length + 1) c_74)])), (81, (.slice EA l'.length ec)), (68, (.bool (decide ((pickI X.two 6) > 0)))), (49, (.bool (decide ((pickI X.one 6) > 0)))), (6, (.pointer (some ⟨bE, 0, none⟩))), (5, (.int .i64 ((j : Nat) : Int))), (2, (.slice none 0 0)), (0, (.slice (some ⟨b0, off, none⟩) n c))]) (by kernel_rfl)
            refine inb_normal ?_
            refine then_normal ?_
            refine w_region ?_
            refine H.val 15 (.int .i64 ((j : Nat) : Int)) (by kernel_rfl) (by kernel_rfl) ?_
            intro a H
            refine H.valE 16 (.int .i64 (IntKind.i64.wrap (((j : Nat) : Int) + 1))) (.int .i64 (((j : Nat) : Int) + 1)) (by kernel_rfl) (by kernel_rfl) ((by rw [wrap_ini64 _ (by omega)])) ?_
            intro a H
            refine H.val 5 (.int .i64 (((j : Nat) : Int) + 1)) (by kernel_rfl) (by kernel_rfl) ?_
            intro a H
            refine wpList_nil ?_
            refine then_normal ?_
            have H := H.as 5 (.int .i64 ((j + 1 : Nat) : Int)) rfl rfl
            have H := H.as 3 (.slice B_79 ((l' ++ [(⟨⟨((j : Nat) : Int) + 1, 1 + pickI X.item 5, t, 1 + pickI X.frames 40, 0, 255 - 2 * pickI X.regions 4⟩, B_73, c_74, ([] : List (Int × Int)) ++ [((2, pickI X.two 6) : Int × Int)]⟩ : EvA)]).length) c_80) rfl (by simp)
            refine ⟨_, ?_, j + 1, B_79, c_80, l' ++ [(⟨⟨((j : Nat) : Int) + 1, 1 + pickI X.item 5, t, 1 + pickI X.frames 40, 0, 255 - 2 * pickI X.regions 4⟩, B_73, c_74, ([] : List (Int × Int)) ++ [((2, pickI X.two 6) : Int × Int)]⟩ : EvA)], t + (1 + pickI X.frames 40), rfl, H.keep (by kernel_rfl), (by simpa using (((HP.tail rfl).tail rfl).tail rfl)), by omega, eventsTo_snoc hsp hX ht (altsP_of g49 g68), by rw [ht, startAt_succ, hX], by omega⟩
            omega
          · have g68p := of_decide_eq_false g68
            refine wp_skip ?_
            refine then_normal ?_
            refine wp_seq ?_
            refine w_region ?_
            refine H.val 81 (.slice EA l'.length ec) (by kernel_rfl) (by kernel_rfl) ?_
            intro a H
            refine H.val 82 (.agg #[(.int .i64 (((j : Nat) : Int) + 1)), (.int .i64 (1 + pickI X.item 5)), (.int .i64 t), (.int .i64 (1 + pickI X.frames 40)), (.int .i64 0), (.int .i64 (255 - 2 * pickI X.regions 4)), (.slice none 0 0)]) (by kernel_rfl) (ex_loadN (vs := [(.int .i64 (((j : Nat) : Int) + 1)), (.int .i64 (1 + pickI X.item 5)), (.int .i64 t), (.int .i64 (1 + pickI X.frames 40)), (.int .i64 0), (.int .i64 (255 - 2 * pickI X.regions 4)), (.slice none 0 0)]) (by kernel_rfl) (by kernel_rfl) (by kernel_rfl) rfl (HP.cells 1 rfl 0 7 (by kernel_rfl))) ?_
            intro a H
            refine H.alloc HP 83 (fun b => (.slice (some ⟨b, 0, none⟩) 1 1)) 63 [(.int .i64 (((j : Nat) : Int) + 1)), (.int .i64 (1 + pickI X.item 5)), (.int .i64 t), (.int .i64 (1 + pickI X.frames 40)), (.int .i64 0), (.int .i64 (255 - 2 * pickI X.regions 4)), (.slice none 0 0)] (by kernel_rfl) (fun w => by kernel_rfl) ?_
            intro b_82 w_83 a H HP
            have HP := HP.front 1 rfl [(rowsR w.heap.size 69 2 altCells (fun _ _ => True) (fun _ _ => False) (.slice none 0 0) ([] : List (Int × Int))), bx b_82 63 [(.int .i64 (((j : Nat) : Int) + 1)), (.int .i64 (1 + pickI X.item 5)), (.int .i64 t), (.int .i64 (1 + pickI X.frames 40)), (.int .i64 0), (.int .i64 (255 - 2 * pickI X.regions 4)), (.slice none 0 0)] true, bx bE 63 [(.int .i64 (((j : Nat) : Int) + 1)), (.int .i64 (1 + pickI X.item 5)), (.int .i64 t), (.int .i64 (1 + pickI X.frames 40)), (.int .i64 0), (.int .i64 (255 - 2 * pickI X.regions 4)), (.slice none 0 0)] true, (rowsR w.heap.size 63 7 EvA.cells evOk evFp (.slice EA l'.length ec) l')] (by kernel_rfl)
            have HP := HP.absorb 2 rfl elOk_ev (⟨⟨((j : Nat) : Int) + 1, 1 + pickI X.item 5, t, 1 + pickI X.frames 40, 0, 255 - 2 * pickI X.regions 4⟩, none, 0, ([] : List (Int × Int))⟩ : EvA) [bx b_82 63 [(.int .i64 (((j : Nat) : Int) + 1)), (.int .i64 (1 + pickI X.item 5)), (.int .i64 t), (.int .i64 (1 + pickI X.frames 40)), (.int .i64 0), (.int .i64 (255 - 2 * pickI X.regions 4)), (.slice none 0 0)] true, bx bE 63 [(.int .i64 (((j : Nat) : Int) + 1)), (.int .i64 (1 + pickI X.item 5)), (.int .i64 t), (.int .i64 (1 + pickI X.frames 40)), (.int .i64 0), (.int .i64 (255 - 2 * pickI X.regions 4)), (.slice none 0 0)] true, (rowsP w.heap.size 63 7 EvA.cells evOk evFp (.slice EA l'.length ec) l' (⟨⟨((j : Nat) : Int) + 1, 1 + pickI X.item 5, t, 1 + pickI X.frames 40, 0, 255 - 2 * pickI X.regions 4⟩, none, 0, ([] : List (Int × Int))⟩ : EvA))] (by kernel_rfl) (alts_ok (HP.held 0 rfl) (by simp)) (fun k hk => .inl (own_of_row hk)) rfl
            refine H.push HP 84 2 0 (v := (.slice EA l'.length ec)) (e := 63) (p := (⟨⟨((j : Nat) : Int) + 1, 1 + pickI X.item 5, t, 1 + pickI X.frames 40, 0, 255 - 2 * pickI X.regions 4⟩, none, 0, ([] : List (Int × Int))⟩ : EvA)) (l := l') (cs := EvA.cells) (ok := evOk) (fe := evFp) (size := 7) (z := (.agg #[.int .i64 0, .int .i64 0, .int .i64 0, .int .i64 0, .int .i64 0, .int .i64 0, .slice none 0 0])) (bytes := 72) (bb := b_82) (tb := 63) (fb := true) (by kernel_rfl) elOk_ev (by kernel_rfl) (by kernel_rfl) rfl (by kernel_rfl) (by kernel_rfl) (by kernel_rfl) (by kernel_rfl) (by kernel_rfl) rfl (by kernel_rfl) (by unfold maxLen; omega) (by omega) ?_
            intro B_84 c_85 w_86 a H HP
            have HP : Hp w w_86 [bx b_82 63 [(.int .i64 (((j : Nat) : Int) + 1)), (.int .i64 (1 + pickI X.item 5)), (.int .i64 t), (.int .i64 (1 + pickI X.frames 40)), (.int .i64 0), (.int .i64 (255 - 2 * pickI X.regions 4)), (.slice none 0 0)] true, bx bE 63 [(.int .i64 (((j : Nat) : Int) + 1)), (.int .i64 (1 + pickI X.item 5)), (.int .i64 t), (.int .i64 (1 + pickI X.frames 40)), (.int .i64 0), (.int .i64 (255 - 2 * pickI X.regions 4)), (.slice none 0 0)] true, (rowsR w.heap.size 63 7 EvA.cells evOk evFp (.slice B_84 (l'.length + 1) c_85) (l' ++ [(⟨⟨((j : Nat) : Int) + 1, 1 + pickI X.item 5, t, 1 + pickI X.frames 40, 0, 255 - 2 * pickI X.regions 4⟩, none, 0, ([] : List (Int × Int))⟩ : EvA)]))] [] := HP
            refine H.val 3 (.slice B_84 (l'.length + 1) c_85) (by kernel_rfl) (by kernel_rfl) ?_
            intro a H
            refine wpList_nil ?_
            refine then_normal ?_
            refine w_region ?_
            refine H.val 85 (.int .i64 t) (by kernel_rfl) (by kernel_rfl) ?_
            intro a H
            refine H.val 86 (.pointer (some ⟨bE, 3, none⟩)) (by kernel_rfl) (by kernel_rfl) ?_
            intro a H
            refine H.val 87 (.int .i64 (1 + pickI X.frames 40)) (by kernel_rfl) (ex_load1 (by kernel_rfl) (by kernel_rfl) (HP.cell 1 rfl 3 rfl)) ?_
            intro a H
            refine H.valE 88 (.int .i64 (IntKind.i64.wrap (t + (1 + pickI X.frames 40)))) (.int .i64 (t + (1 + pickI X.frames 40))) (by kernel_rfl) (by kernel_rfl) ((by rw [wrap_ini64 _ (by omega)])) ?_
            intro a H
            refine H.val 4 (.int .i64 (t + (1 + pickI X.frames 40))) (by kernel_rfl) (by kernel_rfl) ?_
            intro a H
            refine wpList_nil ?_
            have H := H.keep (L' := [(4, (.int .i64 (t + (1 + pickI X.frames 40)))), (3, (.slice B_84 (l'.length + 1) c_85)), (84, (.slice B_84 (l'.length + 1) c_85)), (83, (.slice (some ⟨b_82, 0, none⟩) 1 1)), (82, (.agg #[(.int .i64 (((j : Nat) : Int) + 1)), (.int .i64 (1 + pickI X.item 5)), (.int .i64 t), (.int .i64 (1 + pickI X.frames 40)), (.int .i64 0), (.int .i64 (255 - 2 * pickI X.regions 4)), (.slice none 0 0)])), (81, (.slice EA l'.length ec)), (68, (.bool (decide ((pickI X.two 6) > 0)))), (49, (.bool (decide ((pickI X.one 6) > 0)))), (6, (.pointer (some ⟨bE, 0, none⟩))), (5, (.int .i64 ((j : Nat) : Int))), (2, (.slice none 0 0)), (0, (.slice (some ⟨b0, off, none⟩) n c))]) (by kernel_rfl)
            refine inb_normal ?_
            refine then_normal ?_
            refine w_region ?_
            refine H.val 15 (.int .i64 ((j : Nat) : Int)) (by kernel_rfl) (by kernel_rfl) ?_
            intro a H
            refine H.valE 16 (.int .i64 (IntKind.i64.wrap (((j : Nat) : Int) + 1))) (.int .i64 (((j : Nat) : Int) + 1)) (by kernel_rfl) (by kernel_rfl) ((by rw [wrap_ini64 _ (by omega)])) ?_
            intro a H
            refine H.val 5 (.int .i64 (((j : Nat) : Int) + 1)) (by kernel_rfl) (by kernel_rfl) ?_
            intro a H
            refine wpList_nil ?_
            refine then_normal ?_
            have H := H.as 5 (.int .i64 ((j + 1 : Nat) : Int)) rfl rfl
            have H := H.as 3 (.slice B_84 ((l' ++ [(⟨⟨((j : Nat) : Int) + 1, 1 + pickI X.item 5, t, 1 + pickI X.frames 40, 0, 255 - 2 * pickI X.regions 4⟩, none, 0, ([] : List (Int × Int))⟩ : EvA)]).length) c_85) rfl (by simp)
            refine ⟨_, ?_, j + 1, B_84, c_85, l' ++ [(⟨⟨((j : Nat) : Int) + 1, 1 + pickI X.item 5, t, 1 + pickI X.frames 40, 0, 255 - 2 * pickI X.regions 4⟩, none, 0, ([] : List (Int × Int))⟩ : EvA)], t + (1 + pickI X.frames 40), rfl, H.keep (by kernel_rfl), (by simpa using ((HP.tail rfl).tail rfl)), by omega, eventsTo_snoc hsp hX ht (altsP_of g49 g68), by rw [ht, startAt_succ, hX], by omega⟩
            omega
    · have g14p := of_decide_eq_false g14
      refine wp_exit ?_
      refine then_exit ?_
      refine then_exit ?_
      refine w_exit_here ?_
      refine then_normal ?_
      refine wp_seq ?_
      refine w_region ?_
      refine H.val 89 (.slice EA l'.length ec) (by kernel_rfl) (by kernel_rfl) ?_
      intro a H
      refine H.val 2 (.slice EA l'.length ec) (by kernel_rfl) (by kernel_rfl) ?_
      intro a H
      refine wpList_nil ?_
      refine then_normal ?_
      refine wp_ret ?_
      refine H.ret1 (fn := Try.f13) Try.results13 (RV.tmp_ (v := (.slice EA l'.length ec)) (by kernel_rfl)) ?_
      exact evs_endO (HP.held 0 rfl) (HP.fresh _ (List.mem_of_getElem? (i := 0) rfl) rfl) hsp (by omega) (HP.below (by kernel_rfl))
  · have g11p := of_decide_eq_false g11
    refine H.skip 12 (by kernel_rfl) ?_
    intro a H
    refine H.skip 13 (by kernel_rfl) ?_
    intro a H
    refine H.val 14 (.bool false) (by kernel_rfl) (by kernel_rfl) ?_
    intro a H
    refine wpList_nil ?_
    have H := H.keep (L' := [(14, (.bool false)), (5, (.int .i64 ((j : Nat) : Int))), (4, (.int .i64 t)), (3, (.slice EA l'.length ec)), (2, (.slice none 0 0)), (0, (.slice A n c))]) (by kernel_rfl)
    refine then_normal ?_
    refine w_iff H rfl ?_
    refine wp_exit ?_
    refine then_exit ?_
    refine then_exit ?_
    refine w_exit_here ?_
    refine then_normal ?_
    refine wp_seq ?_
    refine w_region ?_
    refine H.val 89 (.slice EA l'.length ec) (by kernel_rfl) (by kernel_rfl) ?_
    intro a H
    refine H.val 2 (.slice EA l'.length ec) (by kernel_rfl) (by kernel_rfl) ?_
    intro a H
    refine wpList_nil ?_
    refine then_normal ?_
    refine wp_ret ?_
    refine H.ret1 (fn := Try.f13) Try.results13 (RV.tmp_ (v := (.slice EA l'.length ec)) (by kernel_rfl)) ?_
    exact evs_endO (HP.held 0 rfl) (HP.fresh _ (List.mem_of_getElem? (i := 0) rfl) rfl) hsp (by omega) (HP.below (by kernel_rfl))
set_option maxRecDepth 100000 in
set_option maxHeartbeats 4000000 in
theorem network_walk (r : Int) (X : Nat → Int) (PA : Option Addr) (pn pc : Nat) (PL : List Pc) (ZA : Option Addr) (zn zc : Nat) (zs : List Int) (w : World) (hreg : -9223372036854775808 ≤ r ∧ r ≤ 9223372036854775807) (hX : ∀ i, -9223372036854775808 ≤ X i ∧ X i ≤ 9223372036854775807) (hpcs : IsRow 5 Pc.cells w PA pn PL) (hpn : pn ≤ 9223372036854775807) (hpb : ∀ p ∈ PL, p.bd) (hzs : IsInts w ZA zn zs) (hzn : zn ≤ 9223372036854775807) (hzb : ∀ z ∈ zs, -9223372036854775808 ≤ z ∧ z ≤ 9223372036854775807) :
    Calls Try.prog 6 #[.agg #[.int .i64 (X 0), .int .i64 (X 1), .int .i64 (X 2), .int .i64 (X 3), .int .i64 (X 4), .int .i64 (X 5), .int .i64 (X 6), .int .i64 (X 7), .int .i64 (X 8), .int .i64 (X 9), .int .i64 (X 10), .int .i64 (X 11), .int .i64 (X 12), .int .i64 (X 13), .int .i64 (X 14), .int .i64 (X 15), .int .i64 (X 16), .int .i64 (X 17), .int .i64 (X 18), .int .i64 (X 19)], .slice PA pn pc, .slice ZA zn zc, .int .i64 r] w fun e w' => e = .returned (.bool true) ∧ Below w.heap.size w w' := by
  have HP := Hp.start w
  refine w_enter 153 [(0, (.agg #[(.int .i64 (X 0)), (.int .i64 (X 1)), (.int .i64 (X 2)), (.int .i64 (X 3)), (.int .i64 (X 4)), (.int .i64 (X 5)), (.int .i64 (X 6)), (.int .i64 (X 7)), (.int .i64 (X 8)), (.int .i64 (X 9)), (.int .i64 (X 10)), (.int .i64 (X 11)), (.int .i64 (X 12)), (.int .i64 (X 13)), (.int .i64 (X 14)), (.int .i64 (X 15)), (.int .i64 (X 16)), (.int .i64 (X 17)), (.int .i64 (X 18)), (.int .i64 (X 19))])), (1, (.slice PA pn pc)), (2, (.slice ZA zn zc)), (3, (.int .i64 r))] Try.func6 rfl Try.ntmps6 (by kernel_rfl) (by kernel_rfl) ?_
  intro a H
  refine wp_seq ?_
  refine w_region ?_
  refine H.alloc HP 4 (fun b => (.pointer (some ⟨b, 0, none⟩))) 24 [(.int .i64 (X 0)), (.int .i64 (X 1)), (.int .i64 (X 2)), (.int .i64 (X 3)), (.int .i64 (X 4)), (.int .i64 (X 5)), (.int .i64 (X 6)), (.int .i64 (X 7)), (.int .i64 (X 8)), (.int .i64 (X 9)), (.int .i64 (X 10)), (.int .i64 (X 11)), (.int .i64 (X 12)), (.int .i64 (X 13)), (.int .i64 (X 14)), (.int .i64 (X 15)), (.int .i64 (X 16)), (.int .i64 (X 17)), (.int .i64 (X 18)), (.int .i64 (X 19))] (by kernel_rfl) (fun w => by kernel_rfl) ?_
  intro b_1 w_2 a H HP
  refine H.val 8 (.bool false) (by kernel_rfl) (by kernel_rfl) ?_
  intro a H
  refine wpList_nil ?_
  refine then_normal ?_
  refine wp_seq ?_
  refine w_region ?_
  refine H.call 27 (by kernel_rfl) (Eq.trans (by kernel_rfl : _ = (callFunc 8 #[]).run Try.prog w_2) (Try.call8 _ _)) (sane_any w_2) ?_
  rintro e w_3 ⟨rfl, hb⟩
  refine ⟨_, rfl, ?_⟩
  intro a H
  have HP := HP.next hb
  refine H.val 9 (.bool true) (by kernel_rfl) (by kernel_rfl) ?_
  intro a H
  refine wpList_nil ?_
  refine then_normal ?_
  refine wp_seq ?_
  refine w_region ?_
  refine H.val 28 (.agg #[(.int .i64 (X 0)), (.int .i64 (X 1)), (.int .i64 (X 2)), (.int .i64 (X 3)), (.int .i64 (X 4)), (.int .i64 (X 5)), (.int .i64 (X 6)), (.int .i64 (X 7)), (.int .i64 (X 8)), (.int .i64 (X 9)), (.int .i64 (X 10)), (.int .i64 (X 11)), (.int .i64 (X 12)), (.int .i64 (X 13)), (.int .i64 (X 14)), (.int .i64 (X 15)), (.int .i64 (X 16)), (.int .i64 (X 17)), (.int .i64 (X 18)), (.int .i64 (X 19))]) (by kernel_rfl) (ex_loadN (vs := [(.int .i64 (X 0)), (.int .i64 (X 1)), (.int .i64 (X 2)), (.int .i64 (X 3)), (.int .i64 (X 4)), (.int .i64 (X 5)), (.int .i64 (X 6)), (.int .i64 (X 7)), (.int .i64 (X 8)), (.int .i64 (X 9)), (.int .i64 (X 10)), (.int .i64 (X 11)), (.int .i64 (X 12)), (.int .i64 (X 13)), (.int .i64 (X 14)), (.int .i64 (X 15)), (.int .i64 (X 16)), (.int .i64 (X 17)), (.int .i64 (X 18)), (.int .i64 (X 19))]) (by kernel_rfl) (by kernel_rfl) (by kernel_rfl) rfl (HP.cells 0 rfl 0 20 (by kernel_rfl))) ?_
  intro a H
  refine H.call 29 (by kernel_rfl) (Eq.trans (by kernel_rfl : _ = (callFunc 9 #[(.agg #[(.int .i64 (X 0)), (.int .i64 (X 1)), (.int .i64 (X 2)), (.int .i64 (X 3)), (.int .i64 (X 4)), (.int .i64 (X 5)), (.int .i64 (X 6)), (.int .i64 (X 7)), (.int .i64 (X 8)), (.int .i64 (X 9)), (.int .i64 (X 10)), (.int .i64 (X 11)), (.int .i64 (X 12)), (.int .i64 (X 13)), (.int .i64 (X 14)), (.int .i64 (X 15)), (.int .i64 (X 16)), (.int .i64 (X 17)), (.int .i64 (X 18)), (.int .i64 (X 19))])]).run Try.prog w_3) (Try.call9 _ _)) (library_any X w_3 hX) ?_
  rintro e w_4 ⟨LA, lc, lib, rfl, hlib, hspec, hl5, hlc, hb, hnewl⟩
  refine ⟨_, rfl, ?_⟩
  intro a H
  have HP := HP.gain hb (astsR LA 5 lib) hlib (astsK_ok _ _ _) (fun k hk => asts_lt hlib hk) hnewl
  obtain ⟨hz0, hplen, hvalid⟩ := spec_find hspec
  refine H.val 10 (.slice LA 5 lc) (by kernel_rfl) (by kernel_rfl) ?_
  intro a H
  refine wpList_nil ?_
  refine then_normal ?_
  refine wp_seq ?_
  refine w_region ?_
  refine H.val 30 (.int .i64 r) (by kernel_rfl) (by kernel_rfl) ?_
  intro a H
  refine H.call 31 (by kernel_rfl) (Eq.trans (by kernel_rfl : _ = (callFunc 11 #[(.int .i64 r), (.int .i64 7)]).run Try.prog w_4) (Try.call11 _ _)) (pick_any r 7 w_4 hreg (by omega)) ?_
  rintro e w_6 ⟨rfl, hw⟩
  refine ⟨_, rfl, ?_⟩
  intro a H
  have HP := hw ▸ HP
  have hpk_5 := pickI_lt r 7 (by omega)
  refine H.valE 32 (.int .i64 (IntKind.i64.wrap (1 + (pickI r 7)))) (.int .i64 (1 + (pickI r 7))) (by kernel_rfl) (by kernel_rfl) ((by rw [wrap_ini64 _ (by omega)])) ?_
  intro a H
  refine H.val 3 (.int .i64 (1 + (pickI r 7))) (by kernel_rfl) (by kernel_rfl) ?_
  intro a H
  refine wpList_nil ?_
  refine then_normal ?_
  refine wp_seq ?_
  refine w_region ?_
  refine H.val 34 (.slice LA 5 lc) (by kernel_rfl) (by kernel_rfl) ?_
  intro a H
  refine H.call 35 (by kernel_rfl) (Eq.trans (by kernel_rfl : _ = (callFunc 10 #[(.int .i64 0), (.int .i64 0), (.slice LA 5 lc)]).run Try.prog w_6) (Try.call10 _ _)) ((new_ok 0 0 LA 5 lc lib w_6 (HP.held 0 rfl) ⟨hplen, by omega⟩ (newOk_lib (by omega) (by omega) hvalid))) ?_
  rintro e w_7 ⟨b, k, rfl, hspn, hkc, hkr, hks, hb, hnews⟩
  refine ⟨_, rfl, ?_⟩
  intro a H
  have HP := HP.gain hb (splR b k spZ none 0) hspn (splR_ok _ _ _ _ _) (splR_lt hspn) hnews
  refine H.val 33 (.tuple #[(.pointer (some ⟨b, 0, none⟩)), (.int .i64 0)]) (by kernel_rfl) (by kernel_rfl) ?_
  intro a H
  refine H.val 36 (.pointer (some ⟨b, 0, none⟩)) (by kernel_rfl) (by kernel_rfl) ?_
  intro a H
  refine H.val 37 (.int .i64 0) (by kernel_rfl) (by kernel_rfl) ?_
  intro a H
  refine H.val 11 (.pointer (some ⟨b, 0, none⟩)) (by kernel_rfl) (by kernel_rfl) ?_
  intro a H
  refine H.val 12 (.int .i64 0) (by kernel_rfl) (by kernel_rfl) ?_
  intro a H
  refine wpList_nil ?_
  have H := H.keep (L' := [(12, (.int .i64 0)), (11, (.pointer (some ⟨b, 0, none⟩))), (3, (.int .i64 (1 + (pickI r 7)))), (32, (.int .i64 (1 + (pickI r 7)))), (31, (.int .i64 (pickI r 7))), (30, (.int .i64 r)), (10, (.slice LA 5 lc)), (29, (.slice LA 5 lc)), (28, (.agg #[(.int .i64 (X 0)), (.int .i64 (X 1)), (.int .i64 (X 2)), (.int .i64 (X 3)), (.int .i64 (X 4)), (.int .i64 (X 5)), (.int .i64 (X 6)), (.int .i64 (X 7)), (.int .i64 (X 8)), (.int .i64 (X 9)), (.int .i64 (X 10)), (.int .i64 (X 11)), (.int .i64 (X 12)), (.int .i64 (X 13)), (.int .i64 (X 14)), (.int .i64 (X 15)), (.int .i64 (X 16)), (.int .i64 (X 17)), (.int .i64 (X 18)), (.int .i64 (X 19))])), (9, (.bool true)), (27, (.bool true)), (8, (.bool false)), (4, (.pointer (some ⟨b_1, 0, none⟩))), (0, (.agg #[(.int .i64 (X 0)), (.int .i64 (X 1)), (.int .i64 (X 2)), (.int .i64 (X 3)), (.int .i64 (X 4)), (.int .i64 (X 5)), (.int .i64 (X 6)), (.int .i64 (X 7)), (.int .i64 (X 8)), (.int .i64 (X 9)), (.int .i64 (X 10)), (.int .i64 (X 11)), (.int .i64 (X 12)), (.int .i64 (X 13)), (.int .i64 (X 14)), (.int .i64 (X 15)), (.int .i64 (X 16)), (.int .i64 (X 17)), (.int .i64 (X 18)), (.int .i64 (X 19))])), (1, (.slice PA pn pc)), (2, (.slice ZA zn zc))]) (by kernel_rfl)
  refine then_normal ?_
  refine wp_seq ?_
  refine w_region ?_
  refine H.val 39 (.int .i64 (1 + (pickI r 7))) (by kernel_rfl) (by kernel_rfl) ?_
  intro a H
  refine H.val 40 (.slice LA 5 lc) (by kernel_rfl) (by kernel_rfl) ?_
  intro a H
  refine H.call 41 (by kernel_rfl) (Eq.trans (by kernel_rfl : _ = (callFunc 10 #[(.int .i64 0), (.int .i64 (1 + (pickI r 7))), (.slice LA 5 lc)]).run Try.prog w_7) (Try.call10 _ _)) ((new_ok 0 (1 + (pickI r 7)) LA 5 lc lib w_7 (HP.held 1 rfl) ⟨hplen, by omega⟩ (newOk_lib (by omega) (by omega) hvalid))) ?_
  rintro e w_8 ⟨b2, k2, rfl, hspn2, hkc2, hkr2, hks2, hb, hnews2⟩
  refine ⟨_, rfl, ?_⟩
  intro a H
  have HP := HP.gain hb (splR b2 k2 spZ none 0) hspn2 (splR_ok _ _ _ _ _) (splR_lt hspn2) hnews2
  refine H.val 38 (.tuple #[(.pointer (some ⟨b2, 0, none⟩)), (.int .i64 0)]) (by kernel_rfl) (by kernel_rfl) ?_
  intro a H
  refine H.val 42 (.pointer (some ⟨b2, 0, none⟩)) (by kernel_rfl) (by kernel_rfl) ?_
  intro a H
  refine H.val 43 (.int .i64 0) (by kernel_rfl) (by kernel_rfl) ?_
  intro a H
  refine H.val 13 (.pointer (some ⟨b2, 0, none⟩)) (by kernel_rfl) (by kernel_rfl) ?_
  intro a H
  refine H.val 14 (.int .i64 0) (by kernel_rfl) (by kernel_rfl) ?_
  intro a H
  refine wpList_nil ?_
  have H := H.keep (L' := [(14, (.int .i64 0)), (13, (.pointer (some ⟨b2, 0, none⟩))), (12, (.int .i64 0)), (11, (.pointer (some ⟨b, 0, none⟩))), (3, (.int .i64 (1 + (pickI r 7)))), (32, (.int .i64 (1 + (pickI r 7)))), (31, (.int .i64 (pickI r 7))), (30, (.int .i64 r)), (10, (.slice LA 5 lc)), (29, (.slice LA 5 lc)), (28, (.agg #[(.int .i64 (X 0)), (.int .i64 (X 1)), (.int .i64 (X 2)), (.int .i64 (X 3)), (.int .i64 (X 4)), (.int .i64 (X 5)), (.int .i64 (X 6)), (.int .i64 (X 7)), (.int .i64 (X 8)), (.int .i64 (X 9)), (.int .i64 (X 10)), (.int .i64 (X 11)), (.int .i64 (X 12)), (.int .i64 (X 13)), (.int .i64 (X 14)), (.int .i64 (X 15)), (.int .i64 (X 16)), (.int .i64 (X 17)), (.int .i64 (X 18)), (.int .i64 (X 19))])), (9, (.bool true)), (27, (.bool true)), (8, (.bool false)), (4, (.pointer (some ⟨b_1, 0, none⟩))), (0, (.agg #[(.int .i64 (X 0)), (.int .i64 (X 1)), (.int .i64 (X 2)), (.int .i64 (X 3)), (.int .i64 (X 4)), (.int .i64 (X 5)), (.int .i64 (X 6)), (.int .i64 (X 7)), (.int .i64 (X 8)), (.int .i64 (X 9)), (.int .i64 (X 10)), (.int .i64 (X 11)), (.int .i64 (X 12)), (.int .i64 (X 13)), (.int .i64 (X 14)), (.int .i64 (X 15)), (.int .i64 (X 16)), (.int .i64 (X 17)), (.int .i64 (X 18)), (.int .i64 (X 19))])), (1, (.slice PA pn pc)), (2, (.slice ZA zn zc))]) (by kernel_rfl)
  refine then_normal ?_
  refine wp_seq ?_
  refine w_region ?_
  refine H.val 45 (.slice LA 5 lc) (by kernel_rfl) (by kernel_rfl) ?_
  intro a H
  refine H.call 46 (by kernel_rfl) (Eq.trans (by kernel_rfl : _ = (callFunc 10 #[(.int .i64 0), (.int .i64 0), (.slice LA 5 lc)]).run Try.prog w_8) (Try.call10 _ _)) ((new_ok 0 0 LA 5 lc lib w_8 (HP.held 2 rfl) ⟨hplen, by omega⟩ (newOk_lib (by omega) (by omega) hvalid))) ?_
  rintro e w_9 ⟨b3, k3, rfl, hspn3, hkc3, hkr3, hks3, hb, hnews3⟩
  refine ⟨_, rfl, ?_⟩
  intro a H
  have HP := HP.gain hb (splR b3 k3 spZ none 0) hspn3 (splR_ok _ _ _ _ _) (splR_lt hspn3) hnews3
  refine H.val 44 (.tuple #[(.pointer (some ⟨b3, 0, none⟩)), (.int .i64 0)]) (by kernel_rfl) (by kernel_rfl) ?_
  intro a H
  refine H.val 47 (.pointer (some ⟨b3, 0, none⟩)) (by kernel_rfl) (by kernel_rfl) ?_
  intro a H
  refine H.val 48 (.int .i64 0) (by kernel_rfl) (by kernel_rfl) ?_
  intro a H
  refine H.val 15 (.pointer (some ⟨b3, 0, none⟩)) (by kernel_rfl) (by kernel_rfl) ?_
  intro a H
  refine H.val 16 (.int .i64 0) (by kernel_rfl) (by kernel_rfl) ?_
  intro a H
  refine wpList_nil ?_
  refine then_normal ?_
  refine wp_seq ?_
  refine wp_seq ?_
  refine w_region ?_
  refine H.val 49 (.int .i64 0) (by kernel_rfl) (by kernel_rfl) ?_
  intro a H
  refine H.val 50 (.bool false) (by kernel_rfl) (by kernel_rfl) ?_
  intro a H
  refine H.val 51 (.bool false) (by kernel_rfl) (by kernel_rfl) ?_
  intro a H
  refine H.val 52 (.int .i64 0) (by kernel_rfl) (by kernel_rfl) ?_
  intro a H
  refine H.val 53 (.bool false) (by kernel_rfl) (by kernel_rfl) ?_
  intro a H
  refine H.val 54 (.bool false) (by kernel_rfl) (by kernel_rfl) ?_
  intro a H
  refine H.val 55 (.bool false) (by kernel_rfl) (by kernel_rfl) ?_
  intro a H
  refine H.val 56 (.int .i64 0) (by kernel_rfl) (by kernel_rfl) ?_
  intro a H
  refine H.val 57 (.bool false) (by kernel_rfl) (by kernel_rfl) ?_
  intro a H
  refine H.val 58 (.bool false) (by kernel_rfl) (by kernel_rfl) ?_
  intro a H
  refine wpList_nil ?_
  have H := H.keep (L' := [(58, (.bool false)), (16, (.int .i64 0)), (15, (.pointer (some ⟨b3, 0, none⟩))), (48, (.int .i64 0)), (47, (.pointer (some ⟨b3, 0, none⟩))), (44, (.tuple #[(.pointer (some ⟨b3, 0, none⟩)), (.int .i64 0)])), (46, (.tuple #[(.pointer (some ⟨b3, 0, none⟩)), (.int .i64 0)])), (45, (.slice LA 5 lc)), (14, (.int .i64 0)), (13, (.pointer (some ⟨b2, 0, none⟩))), (12, (.int .i64 0)), (11, (.pointer (some ⟨b, 0, none⟩))), (3, (.int .i64 (1 + (pickI r 7)))), (32, (.int .i64 (1 + (pickI r 7)))), (31, (.int .i64 (pickI r 7))), (30, (.int .i64 r)), (10, (.slice LA 5 lc)), (29, (.slice LA 5 lc)), (28, (.agg #[(.int .i64 (X 0)), (.int .i64 (X 1)), (.int .i64 (X 2)), (.int .i64 (X 3)), (.int .i64 (X 4)), (.int .i64 (X 5)), (.int .i64 (X 6)), (.int .i64 (X 7)), (.int .i64 (X 8)), (.int .i64 (X 9)), (.int .i64 (X 10)), (.int .i64 (X 11)), (.int .i64 (X 12)), (.int .i64 (X 13)), (.int .i64 (X 14)), (.int .i64 (X 15)), (.int .i64 (X 16)), (.int .i64 (X 17)), (.int .i64 (X 18)), (.int .i64 (X 19))])), (9, (.bool true)), (27, (.bool true)), (8, (.bool false)), (4, (.pointer (some ⟨b_1, 0, none⟩))), (0, (.agg #[(.int .i64 (X 0)), (.int .i64 (X 1)), (.int .i64 (X 2)), (.int .i64 (X 3)), (.int .i64 (X 4)), (.int .i64 (X 5)), (.int .i64 (X 6)), (.int .i64 (X 7)), (.int .i64 (X 8)), (.int .i64 (X 9)), (.int .i64 (X 10)), (.int .i64 (X 11)), (.int .i64 (X 12)), (.int .i64 (X 13)), (.int .i64 (X 14)), (.int .i64 (X 15)), (.int .i64 (X 16)), (.int .i64 (X 17)), (.int .i64 (X 18)), (.int .i64 (X 19))])), (1, (.slice PA pn pc)), (2, (.slice ZA zn zc))]) (by kernel_rfl)
  refine then_normal ?_
  refine w_iff H rfl ?_
  refine wp_skip ?_
  refine then_normal ?_
  refine wp_seq ?_
  refine w_region ?_
  refine H.val 59 (.slice PA pn pc) (by kernel_rfl) (by kernel_rfl) ?_
  intro a H
  obtain ⟨m, hm⟩ : ∃ m, min pn 10 = m := ⟨_, rfl⟩
  refine H.call 60 (by kernel_rfl) (Eq.trans (by kernel_rfl : _ = (callFunc 13 #[(.slice PA pn pc)]).run Try.prog w_9) (Try.call13 _ _)) ((by have hh := events_own PA pn pc PL w_9 (hpcs.below (HP.below (by kernel_rfl))) (by omega) hpb; rw [hm] at hh; exact hh)) ?_
  rintro e w_10 ⟨EA, ec, es, rfl, hes, hnewe, hespec, hel, hb⟩
  refine ⟨_, rfl, ?_⟩
  intro a H
  have HP := HP.gain hb (rowsR w_9.heap.size 63 7 EvA.cells evOk evFp (.slice EA m ec) es) hes (rowsR_ok elOk_ev) (fun k hk => row_blk hes hk) hnewe
  obtain ⟨hebd, hend⟩ := evs_bd hespec (by omega) (by have := hpcs.1; omega)
  have hal := evs_alts hespec
  refine H.val 17 (.slice EA m ec) (by kernel_rfl) (by kernel_rfl) ?_
  intro a H
  refine wpList_nil ?_
  refine then_normal ?_
  refine wp_seq ?_
  refine w_region ?_
  refine H.alloc HP 61 (fun b => (.slice (some ⟨b, 0, none⟩) 0 0)) 63 [] (by kernel_rfl) (fun w => by kernel_rfl) ?_
  intro b_11 w_12 a H HP
  refine H.val 62 (.slice EA m ec) (by kernel_rfl) (by kernel_rfl) ?_
  intro a H
  have hrp := HP.held 1 rfl
  refine H.pushAll HP 63 0 (bb := b_11) (z := .agg #[.int .i64 0, .int .i64 0, .int .i64 0, .int .i64 0, .int .i64 0, .int .i64 0, .slice none 0 0]) (e := 63) (size := 7) (bytes := 72) (m := m) (c := ec) (A := EA) (cs := EvA.cells) es (by kernel_rfl) (by kernel_rfl) (by kernel_rfl) rfl (by kernel_rfl) (by kernel_rfl) (by kernel_rfl) (own_nil0 (n := m) (by have hh := hrp.1; rw [hel] at hh; exact hh)) rfl hel (by have hh := hrp.1; rw [hel] at hh; exact Rd.of_own hh) (ev_ones es) (by unfold maxLen; omega) (by omega) ?_
  intro B_13 c_14 w_15 a H HP
  have HP : Hp w w_15 [(rowsR w.heap.size 63 7 EvA.cells (fun _ _ => True) (fun _ _ => False) (.slice B_13 m c_14) es), (rowsR w_9.heap.size 63 7 EvA.cells evOk evFp (.slice EA m ec) es), (splR b3 k3 spZ none 0), (splR b2 k2 spZ none 0), (splR b k spZ none 0), (astsR LA 5 lib), bx b_1 24 [(.int .i64 (X 0)), (.int .i64 (X 1)), (.int .i64 (X 2)), (.int .i64 (X 3)), (.int .i64 (X 4)), (.int .i64 (X 5)), (.int .i64 (X 6)), (.int .i64 (X 7)), (.int .i64 (X 8)), (.int .i64 (X 9)), (.int .i64 (X 10)), (.int .i64 (X 11)), (.int .i64 (X 12)), (.int .i64 (X 13)), (.int .i64 (X 14)), (.int .i64 (X 15)), (.int .i64 (X 16)), (.int .i64 (X 17)), (.int .i64 (X 18)), (.int .i64 (X 19))] true] [] := HP
  refine H.val 18 (.slice B_13 m c_14) (by kernel_rfl) (by kernel_rfl) ?_
  intro a H
  refine wpList_nil ?_
  refine then_normal ?_
  refine wp_seq ?_
  refine wp_seq ?_
  refine w_region ?_
  refine H.val 19 (.int .i64 0) (by kernel_rfl) (by kernel_rfl) ?_
  intro a H
  refine wpList_nil ?_
  refine then_normal ?_
  refine wp_block ?_
  have HP := HP.sub [0, 1, 2, 3, 4, 5] [(rowsR w.heap.size 63 7 EvA.cells (fun _ _ => True) (fun _ _ => False) (.slice B_13 m c_14) es), (rowsR w_9.heap.size 63 7 EvA.cells evOk evFp (.slice EA m ec) es), (splR b3 k3 spZ none 0), (splR b2 k2 spZ none 0), (splR b k spZ none 0), (astsR LA 5 lib)] (by kernel_rfl) (by kernel_rfl)
  refine w_loop (fun mm a wv => ∃ (j : Nat), m - j = mm ∧ Sl 153 [(19, (.int .i64 ((j : Nat) : Int))), (8, (.bool false)), (9, (.bool true)), (10, (.slice LA 5 lc)), (11, (.pointer (some ⟨b, 0, none⟩))), (13, (.pointer (some ⟨b2, 0, none⟩))), (15, (.pointer (some ⟨b3, 0, none⟩))), (17, (.slice EA m ec)), (18, (.slice B_13 m c_14)), (2, (.slice ZA zn zc)), (3, (.int .i64 (1 + (pickI r 7))))] a ∧ Hp w wv [(rowsR w.heap.size 63 7 EvA.cells (fun _ _ => True) (fun _ _ => False) (.slice B_13 m c_14) (upTo bareE j es)), (rowsR w_9.heap.size 63 7 EvA.cells evOk evFp (.slice EA m ec) (upTo reg255 j es)), (splR b3 k3 spZ none 0), (splR b2 k2 spZ none 0), (splR b k spZ none 0), (astsR LA 5 lib)] [] ∧ (j ≤ m)) (m - 0) ?_ ?_
  · exact ⟨0, (by omega), H.keep (by kernel_rfl), (by rw [upTo_zero, upTo_zero]; exact HP), by omega⟩
  rintro mm a w_16 ⟨j, hmeas, H, HP, hj⟩
  refine wp_seq ?_
  refine wp_seq ?_
  refine w_region ?_
  refine H.val 64 (.int .i64 ((j : Nat) : Int)) (by kernel_rfl) (by kernel_rfl) ?_
  intro a H
  refine H.val 65 (.slice B_13 m c_14) (by kernel_rfl) (by kernel_rfl) ?_
  intro a H
  refine H.val 66 (.int .i64 ((m : Nat) : Int)) (by kernel_rfl) (by kernel_rfl) ?_
  intro a H
  refine H.val 67 (.bool (decide (((j : Nat) : Int) < ((m : Nat) : Int)))) (by kernel_rfl) (by kernel_rfl) ?_
  intro a H
  refine wpList_nil ?_
  refine then_normal ?_
  refine w_if H rfl (fun g67 => ?_) (fun g67 => ?_)
  · have g67p := of_decide_eq_true g67
    refine wp_skip ?_
    refine then_normal ?_
    refine wp_seq ?_
    refine wp_block ?_
    refine wp_seq ?_
    obtain ⟨ej, hej⟩ : ∃ e, es[j]? = some e := ⟨_, List.getElem?_eq_getElem (by omega)⟩
    have hrp := HP.held 1 rfl
    have hrb := HP.held 0 rfl
    obtain ⟨g1, hg1⟩ := own_some0 (n := m) (by have hh := hrp.1; rw [upTo_len, hel] at hh; exact hh) (by omega)
    obtain ⟨g2, hg2⟩ := own_some0 (n := m) (by have hh := hrb.1; rw [upTo_len, hel] at hh; exact hh) (by omega)
    subst hg1 hg2
    have hu1 := upTo_at reg255 (l := es) (j := j) (by omega)
    have hu2 := upTo_at bareE (l := es) (j := j) (by omega)
    rw [hej] at hu1 hu2
    have hx2 : ((upTo bareE j es).set j (noAlts ej))[j]? = some (noAlts ej) := by rw [List.getElem?_set_self (by rw [upTo_len]; omega)]
    refine w_region ?_
    refine H.val 70 (.slice (some ⟨g2, 0, none⟩) m c_14) (by kernel_rfl) (by kernel_rfl) ?_
    intro a H
    refine H.val 71 (.int .i64 ((j : Nat) : Int)) (by kernel_rfl) (by kernel_rfl) ?_
    intro a H
    refine H.val 72 (.pointer (some ⟨g2, 0 + j * 7, none⟩)) (by kernel_rfl) (ex_index (b := g2) (off := 0) (len := m) (cap := c_14) (e := 63) (k := 7) (ik := .i64) (i := ((j : Nat) : Int)) (m := j) (by kernel_rfl) (by kernel_rfl) (by omega) (by omega) (by kernel_rfl) (by kernel_rfl)) ?_
    intro a H
    refine H.val 73 (.pointer (some ⟨g2, 0 + j * 7 + 6, none⟩)) (by kernel_rfl) (by kernel_rfl) ?_
    intro a H
    refine H.storeRow HP 0 (g := g2) (cap := c_14) (i := 0 + j * 7 + 6) (n := m) (base := w.heap.size) (e := 63) (size := 7) (cs := EvA.cells) (ok := (fun _ _ => True)) (fe := (fun _ _ => False)) (l := (upTo bareE j es)) (l' := ((upTo bareE j es).set j (noAlts ej))) (.slice none 0 0) (by kernel_rfl) (by kernel_rfl) (by kernel_rfl) (by kernel_rfl) (by kernel_rfl) rfl (by simp [upTo_len, hel]) (by omega) (by simp [upTo_len, hel]) (by rw [Nat.zero_add]; exact flat_set EvA.len7 (by omega) rfl hu2) (less_set hu2 (fun _ h => trivial) (fun _ h => h)) elOk_flat [(rowsR w.heap.size 63 7 EvA.cells (fun _ _ => True) (fun _ _ => False) (.slice (some ⟨g2, 0, none⟩) m c_14) ((upTo bareE j es).set j (noAlts ej))), (rowsR w_9.heap.size 63 7 EvA.cells evOk evFp (.slice (some ⟨g1, 0, none⟩) m ec) (upTo reg255 j es)), (splR b3 k3 spZ none 0), (splR b2 k2 spZ none 0), (splR b k spZ none 0), (astsR LA 5 lib)] (by kernel_rfl) ?_
    intro w_17 a H HP
    refine wpList_nil ?_
    refine then_normal ?_
    refine wp_seq ?_
    refine w_region ?_
    refine H.val 74 (.slice (some ⟨g2, 0, none⟩) m c_14) (by kernel_rfl) (by kernel_rfl) ?_
    intro a H
    refine H.val 75 (.int .i64 ((j : Nat) : Int)) (by kernel_rfl) (by kernel_rfl) ?_
    intro a H
    refine H.val 76 (.pointer (some ⟨g2, 0 + j * 7, none⟩)) (by kernel_rfl) (ex_index (b := g2) (off := 0) (len := m) (cap := c_14) (e := 63) (k := 7) (ik := .i64) (i := ((j : Nat) : Int)) (m := j) (by kernel_rfl) (by kernel_rfl) (by omega) (by omega) (by kernel_rfl) (by kernel_rfl)) ?_
    intro a H
    refine H.val 77 (.pointer (some ⟨g2, 0 + j * 7 + 5, none⟩)) (by kernel_rfl) (by kernel_rfl) ?_
    intro a H
    refine H.storeRow HP 0 (g := g2) (cap := c_14) (i := 0 + j * 7 + 5) (n := m) (base := w.heap.size) (e := 63) (size := 7) (cs := EvA.cells) (ok := (fun _ _ => True)) (fe := (fun _ _ => False)) (l := ((upTo bareE j es).set j (noAlts ej))) (l' := (((upTo bareE j es).set j (noAlts ej)).set j (bareE ej))) (.int .i64 255) (by kernel_rfl) (by kernel_rfl) (by kernel_rfl) (by kernel_rfl) (by kernel_rfl) rfl (by simp [upTo_len, hel]) (by omega) (by simp [upTo_len, hel]) (by rw [Nat.zero_add]; exact flat_set EvA.len7 (by omega) rfl hx2) (less_set hx2 (fun _ h => trivial) (fun _ h => h)) elOk_flat [(rowsR w.heap.size 63 7 EvA.cells (fun _ _ => True) (fun _ _ => False) (.slice (some ⟨g2, 0, none⟩) m c_14) (((upTo bareE j es).set j (noAlts ej)).set j (bareE ej))), (rowsR w_9.heap.size 63 7 EvA.cells evOk evFp (.slice (some ⟨g1, 0, none⟩) m ec) (upTo reg255 j es)), (splR b3 k3 spZ none 0), (splR b2 k2 spZ none 0), (splR b k spZ none 0), (astsR LA 5 lib)] (by kernel_rfl) ?_
    intro w_18 a H HP
    refine wpList_nil ?_
    refine then_normal ?_
    refine w_region ?_
    refine H.val 78 (.slice (some ⟨g1, 0, none⟩) m ec) (by kernel_rfl) (by kernel_rfl) ?_
    intro a H
    refine H.val 79 (.int .i64 ((j : Nat) : Int)) (by kernel_rfl) (by kernel_rfl) ?_
    intro a H
    refine H.val 80 (.pointer (some ⟨g1, 0 + j * 7, none⟩)) (by kernel_rfl) (ex_index (b := g1) (off := 0) (len := m) (cap := ec) (e := 63) (k := 7) (ik := .i64) (i := ((j : Nat) : Int)) (m := j) (by kernel_rfl) (by kernel_rfl) (by omega) (by omega) (by kernel_rfl) (by kernel_rfl)) ?_
    intro a H
    refine H.val 81 (.pointer (some ⟨g1, 0 + j * 7 + 5, none⟩)) (by kernel_rfl) (by kernel_rfl) ?_
    intro a H
    refine H.storeRow HP 1 (g := g1) (cap := ec) (i := 0 + j * 7 + 5) (n := m) (base := w_9.heap.size) (e := 63) (size := 7) (cs := EvA.cells) (ok := evOk) (fe := evFp) (l := (upTo reg255 j es)) (l' := ((upTo reg255 j es).set j (reg255 ej))) (.int .i64 255) (by kernel_rfl) (by kernel_rfl) (by kernel_rfl) (by kernel_rfl) (by kernel_rfl) rfl (by simp [upTo_len, hel]) (by omega) (by simp [upTo_len, hel]) (by rw [Nat.zero_add]; exact flat_set EvA.len7 (by omega) rfl hu1) (less_set hu1 (fun _ h => h) (fun _ h => h)) elOk_ev [(rowsR w.heap.size 63 7 EvA.cells (fun _ _ => True) (fun _ _ => False) (.slice (some ⟨g2, 0, none⟩) m c_14) (((upTo bareE j es).set j (noAlts ej)).set j (bareE ej))), (rowsR w_9.heap.size 63 7 EvA.cells evOk evFp (.slice (some ⟨g1, 0, none⟩) m ec) ((upTo reg255 j es).set j (reg255 ej))), (splR b3 k3 spZ none 0), (splR b2 k2 spZ none 0), (splR b k spZ none 0), (astsR LA 5 lib)] (by kernel_rfl) ?_
    intro w_19 a H HP
    refine wpList_nil ?_
    have HP := HP
    rw [List.set_set] at HP
    refine inb_normal ?_
    refine then_normal ?_
    refine w_region ?_
    refine H.val 68 (.int .i64 ((j : Nat) : Int)) (by kernel_rfl) (by kernel_rfl) ?_
    intro a H
    refine H.valE 69 (.int .i64 (IntKind.i64.wrap (((j : Nat) : Int) + 1))) (.int .i64 (((j : Nat) : Int) + 1)) (by kernel_rfl) (by kernel_rfl) ((by rw [wrap_ini64 _ (by omega)])) ?_
    intro a H
    refine H.val 19 (.int .i64 (((j : Nat) : Int) + 1)) (by kernel_rfl) (by kernel_rfl) ?_
    intro a H
    refine wpList_nil ?_
    refine then_normal ?_
    have H := H.as 19 (.int .i64 ((j + 1 : Nat) : Int)) rfl rfl
    refine ⟨_, ?_, j + 1, rfl, H.keep (by kernel_rfl), (by rw [upTo_succ reg255 hej, upTo_succ bareE hej]; exact HP), by omega⟩
    omega
  · have g67p := of_decide_eq_false g67
    refine wp_exit ?_
    refine then_exit ?_
    refine then_exit ?_
    refine w_exit_here ?_
    refine then_normal ?_
    refine wp_seq ?_
    have hjm : j = m := by omega
    rw [upTo_all reg255 (by omega), upTo_all bareE (by omega)] at HP
    have hebd1 : ∀ e ∈ es.map reg255, evBd e := by intro e he; obtain ⟨x, hx, rfl⟩ := List.mem_map.1 he; have h1 := (hebd x hx).1; unfold evBd at h1 ⊢; simp only [reg255, ev255]; omega
    have hebd2 : ∀ e ∈ es.map bareE, evBd e := by intro e he; obtain ⟨x, hx, rfl⟩ := List.mem_map.1 he; have h1 := (hebd x hx).1; unfold evBd at h1 ⊢; simp only [bareE, ev255, List.length_nil]; omega
    have hend1 : endP (es.map reg255) = endP es := endP_map (g := reg255) (fun _ => ⟨rfl, rfl⟩) es
    have hend2 : endP (es.map bareE) = endP es := endP_map (g := bareE) (fun _ => ⟨rfl, rfl⟩) es
    refine w_region ?_
    refine H.val 82 (.slice EA m ec) (by kernel_rfl) (by kernel_rfl) ?_
    intro a H
    refine H.val 83 (.slice LA 5 lc) (by kernel_rfl) (by kernel_rfl) ?_
    intro a H
    refine H.val 84 (.slice ZA zn zc) (by kernel_rfl) (by kernel_rfl) ?_
    intro a H
    refine H.call 85 (by kernel_rfl) (Eq.trans (by kernel_rfl : _ = (callFunc 12 #[(.slice EA m ec), (.slice LA 5 lc), (.slice ZA zn zc)]).run Try.prog w_16) (Try.call12 _ _)) (feed_any EA m ec (es.map reg255) LA 5 lc lib ZA zn zc zs w_16 (evs_of_row (HP.held 1 rfl) (by simp [hel])) (by omega) hebd1 (HP.held 5 rfl) (by omega) hplen (hzs.below (HP.below (by kernel_rfl))) hzn hzb (by rw [hend1]; exact hend)) ?_
    rintro e w_20 ⟨UA1, uc1, ul1, rfl, hul1, huspec1, huca, hucb, hb, hnewu1⟩
    refine ⟨_, rfl, ?_⟩
    intro a H
    have HP := HP.gain hb (unitsR UA1 ul1) hul1 (unitsR_ok _ _) (fun k hk => units_lt hul1 hk) hnewu1
    refine H.val 20 (.slice UA1 ul1.length uc1) (by kernel_rfl) (by kernel_rfl) ?_
    intro a H
    refine wpList_nil ?_
    refine then_normal ?_
    refine wp_seq ?_
    refine w_region ?_
    refine H.val 86 (.slice B_13 m c_14) (by kernel_rfl) (by kernel_rfl) ?_
    intro a H
    refine H.val 87 (.slice LA 5 lc) (by kernel_rfl) (by kernel_rfl) ?_
    intro a H
    refine H.val 88 (.slice ZA zn zc) (by kernel_rfl) (by kernel_rfl) ?_
    intro a H
    refine H.call 89 (by kernel_rfl) (Eq.trans (by kernel_rfl : _ = (callFunc 12 #[(.slice B_13 m c_14), (.slice LA 5 lc), (.slice ZA zn zc)]).run Try.prog w_20) (Try.call12 _ _)) (feed_any B_13 m c_14 (es.map bareE) LA 5 lc lib ZA zn zc zs w_20 (evs_of_bare (HP.held 1 rfl) (by simp [hel]) (fun e he => by obtain ⟨x, _, rfl⟩ := List.mem_map.1 he; exact ⟨rfl, rfl, rfl⟩)) (by omega) hebd2 (HP.held 6 rfl) (by omega) hplen (hzs.below (HP.below (by kernel_rfl))) hzn hzb (by rw [hend2]; exact hend)) ?_
    rintro e w_21 ⟨UA2, uc2, ul2, rfl, hul2, huspec2, huca, hucb, hb, hnewu2⟩
    refine ⟨_, rfl, ?_⟩
    intro a H
    have HP := HP.gain hb (unitsR UA2 ul2) hul2 (unitsR_ok _ _) (fun k hk => units_lt hul2 hk) hnewu2
    refine H.val 21 (.slice UA2 ul2.length uc2) (by kernel_rfl) (by kernel_rfl) ?_
    intro a H
    refine wpList_nil ?_
    refine then_normal ?_
    refine wp_seq ?_
    refine wp_seq ?_
    refine w_region ?_
    refine H.val 22 (.int .i64 0) (by kernel_rfl) (by kernel_rfl) ?_
    intro a H
    refine wpList_nil ?_
    refine then_normal ?_
    refine wp_block ?_
    obtain ⟨us1, hus1⟩ : ∃ us, feedTo (es.map reg255) lib (goneP (zs.take (min zn 20))) (endP es).toNat = us := ⟨_, rfl⟩
    rw [hend1, hus1] at huspec1
    have hfo1 : FeedOk lib us1 := by rw [← hus1]; exact feedTo_ok hplen hebd1 (by omega)
    have hulen1 : ul1.length = us1.length := by rw [← huspec1]; simp
    have huln1 : us1.length = (endP es).toNat := by rw [← hus1]; simp [feedTo]
    obtain ⟨us2, hus2⟩ : ∃ us, feedTo (es.map bareE) lib (goneP (zs.take (min zn 20))) (endP es).toNat = us := ⟨_, rfl⟩
    rw [hend2, hus2] at huspec2
    have hfo2 : FeedOk lib us2 := by rw [← hus2]; exact feedTo_ok hplen hebd2 (by omega)
    have hulen2 : ul2.length = us2.length := by rw [← huspec2]; simp
    have huln2 : us2.length = (endP es).toNat := by rw [← hus2]; simp [feedTo]
    have hnet : ∀ q, q < us2.length → sameNet (us1.getD q (slateS 0)) (us2.getD q (slateS 0)) ∧ (us2.getD q (slateS 0)).regions = 255 ∧ (∀ r, itemP r (us2.getD q (slateS 0)).al = none) ∧ itemP 0 (us1.getD q (slateS 0)).al = none := by intro q hq; rw [← hus1, ← hus2]; exact net_feed hal (by omega)
    have HP := HP.sub [0, 1, 4, 5, 6] [(unitsR UA2 ul2), (unitsR UA1 ul1), (splR b3 k3 spZ none 0), (splR b2 k2 spZ none 0), (splR b k spZ none 0)] (by kernel_rfl) (by kernel_rfl)
    refine w_loop (fun mm a wv => ∃ (j : Nat), ∃ (NA : Option Addr), ∃ (nc : Nat), ∃ (NA2 : Option Addr), ∃ (nc2 : Nat), ∃ (NA3 : Option Addr), ∃ (nc3 : Nat), ul2.length - j = mm ∧ Sl 153 [(22, (.int .i64 ((j : Nat) : Int))), (20, (.slice UA1 ul1.length uc1)), (21, (.slice UA2 ul2.length uc2)), (11, (.pointer (some ⟨b, 0, none⟩))), (13, (.pointer (some ⟨b2, 0, none⟩))), (15, (.pointer (some ⟨b3, 0, none⟩))), (9, (.bool true)), (8, (.bool false))] a ∧ Hp w wv [(unitsR UA2 ul2), (unitsR UA1 ul1), (splR b3 k3 (stAt k3 us1 j) NA3 nc3), (splR b2 k2 (stAt k2 us2 j) NA2 nc2), (splR b k (stAt k us2 j) NA nc)] [] ∧ (j ≤ ul2.length) ∧ (twin k (stAt k us2 j) k2 (stAt k2 us2 j)) ∧ (twin k (stAt k us2 j) k3 (stAt k3 us1 j))) (ul2.length - 0) ?_ ?_
    · exact ⟨0, none, 0, none, 0, none, 0, (by omega), H.keep (by kernel_rfl), HP, by omega, ⟨rfl, rfl⟩, ⟨rfl, rfl⟩⟩
    rintro mm a w_22 ⟨j, NA, nc, NA2, nc2, NA3, nc3, hmeas, H, HP, hj, ht2, ht3⟩
    obtain ⟨hfull, hinv, hli0, hli1⟩ := stAt_ok (k := k) (us := us2) hks hfo2 hz0 hplen j (by omega)
    obtain ⟨hfull2, hinv2, hli02, hli12⟩ := stAt_ok (k := k2) (us := us2) hks2 hfo2 hz0 hplen j (by omega)
    obtain ⟨hfull3, hinv3, hli03, hli13⟩ := stAt_ok (k := k3) (us := us1) hks3 hfo1 hz0 hplen j (by omega)
    refine wp_seq ?_
    refine wp_seq ?_
    refine w_region ?_
    refine H.val 90 (.int .i64 ((j : Nat) : Int)) (by kernel_rfl) (by kernel_rfl) ?_
    intro a H
    refine H.val 91 (.slice UA2 ul2.length uc2) (by kernel_rfl) (by kernel_rfl) ?_
    intro a H
    refine H.val 92 (.int .i64 ((ul2.length : Nat) : Int)) (by kernel_rfl) (by kernel_rfl) ?_
    intro a H
    refine H.val 93 (.bool (decide (((j : Nat) : Int) < ((ul2.length : Nat) : Int)))) (by kernel_rfl) (by kernel_rfl) ?_
    intro a H
    refine wpList_nil ?_
    refine then_normal ?_
    refine w_if H rfl (fun g93 => ?_) (fun g93 => ?_)
    · have g93p := of_decide_eq_true g93
      refine wp_skip ?_
      refine then_normal ?_
      refine wp_seq ?_
      refine wp_block ?_
      refine wp_seq ?_
      obtain ⟨u2, hu2⟩ : ∃ u, ul2.getD j (slateA 0) = u := ⟨_, rfl⟩
      obtain ⟨bq, oq, hUA, _, pcs2, huo, hmu2⟩ := IsUnits.get (HP.held 0 rfl) (j := j) (by omega)
      subst hUA
      obtain ⟨bu2, hbq⟩ : ∃ b, b = bq := ⟨_, rfl⟩
      obtain ⟨ou2, hoq⟩ : ∃ o, o = oq := ⟨_, rfl⟩
      subst hbq hoq
      rw [hu2] at pcs2 hmu2
      obtain ⟨u1, hu1⟩ : ∃ u, ul1.getD j (slateA 0) = u := ⟨_, rfl⟩
      obtain ⟨hn1, hn2, hn3, hn4⟩ := hnet j (by omega)
      have hsp2 := feed_spec huspec2 (by omega) hu2
      have hsp1 := feed_spec huspec1 (by omega) hu1
      rw [← hsp1, ← hsp2] at hn1
      rw [← hsp2] at hn2 hn3
      rw [← hsp1] at hn4
      obtain ⟨m1, m2, m3, m4, m5, m6, m7, m8⟩ := hn1
      have hch2 : u2.channel = 0 := (congrArg US.channel hsp2 : u2.channel = _).trans (hfo2 _ (getD_memU (us := us2) (j := j) (by omega))).2.2.2
      have hch1 : u1.channel = 0 := (congrArg US.channel hsp1 : u1.channel = _).trans (hfo1 _ (getD_memU (us := us1) (j := j) (by omega))).2.2.2
      have hnp : netP u2 = netP u1 := by simp only at m1 m2 m3 m4 m5 m6 m7 m8; simp only [netP, m4, m5, m6, m7]
      have hst1 : stAt k us2 (j + 1) = (stepS k (stAt k us2 j) u2).2.2 := by rw [stS_eq (k := k) (s := (stAt k us2 j)) huspec2 (by omega) hu2]; rfl
      have hst12 : stAt k2 us2 (j + 1) = (stepS k2 (stAt k2 us2 j) u2).2.2 := by rw [stS_eq (k := k2) (s := (stAt k2 us2 j)) huspec2 (by omega) hu2]; rfl
      have hst13 : stAt k3 us1 (j + 1) = (stepS k3 (stAt k3 us1 j) u1).2.2 := by rw [stS_eq (k := k3) (s := (stAt k3 us1 j)) huspec1 (by omega) hu1]; rfl
      have ka := same_trans hks hks2
      have kb := same_trans hks hks3
      obtain ⟨q1, q2, tw2⟩ := net_twin ht2 ka (hch2.trans hkc.symm) (hch2.trans hkc2.symm) (hn3 _) (hn3 _) hn2 hn2 (by rw [hkr]; omega) (by rw [hkr]; omega) (by rw [hkr2]; omega) (by rw [hkr2]; omega) rfl rfl rfl
      obtain ⟨q3, q4, tw3⟩ := net_twin ht3 kb (hch2.trans hkc.symm) (hch1.trans hkc3.symm) (hn3 _) (by rw [hkr3]; exact hn4) hn2 (m8.trans hn2) (by rw [hkr]; omega) (by rw [hkr]; omega) (by rw [hkr3]; omega) (by rw [hkr3]; omega) m3.symm m4.symm hnp
      have hsh := net_shown (s := (stAt k us2 j)) (hch2.trans hkc.symm) (hn3 _) hn2 (by rw [hkr]; omega) (by rw [hkr]; omega)
      obtain ⟨p, hp⟩ : ∃ p, (stepS k (stAt k us2 j) u2).1 = p := ⟨_, rfl⟩
      obtain ⟨v, hv⟩ : ∃ v, (stepS k (stAt k us2 j) u2).2.1 = v := ⟨_, rfl⟩
      obtain ⟨p2, hp2⟩ : ∃ p, (stepS k2 (stAt k2 us2 j) u2).1 = p := ⟨_, rfl⟩
      obtain ⟨v2, hv2⟩ : ∃ v, (stepS k2 (stAt k2 us2 j) u2).2.1 = v := ⟨_, rfl⟩
      obtain ⟨p3, hp3⟩ : ∃ p, (stepS k3 (stAt k3 us1 j) u1).1 = p := ⟨_, rfl⟩
      obtain ⟨v3, hv3⟩ : ∃ v, (stepS k3 (stAt k3 us1 j) u1).2.1 = v := ⟨_, rfl⟩
      rw [hp, hp2] at q1
      rw [hv, hv2] at q2
      rw [hp, hp3] at q3
      rw [hv, hv3] at q4
      rw [hp] at hsh
      refine w_region ?_
      refine H.val 96 (.pointer (some ⟨b, 0, none⟩)) (by kernel_rfl) (by kernel_rfl) ?_
      intro a H
      refine H.val 97 (.slice (some ⟨bu2, ou2, none⟩) ul2.length uc2) (by kernel_rfl) (by kernel_rfl) ?_
      intro a H
      refine H.val 98 (.int .i64 ((j : Nat) : Int)) (by kernel_rfl) (by kernel_rfl) ?_
      intro a H
      refine H.val 99 (.pointer (some ⟨bu2, ou2 + j * 13, none⟩)) (by kernel_rfl) (ex_index (b := bu2) (off := ou2) (len := ul2.length) (cap := uc2) (e := 46) (k := 13) (ik := .i64) (i := ((j : Nat) : Int)) (m := j) (by kernel_rfl) (by kernel_rfl) (by omega) (by omega) (by kernel_rfl) (by kernel_rfl)) ?_
      intro a H
      refine H.val 100 (.agg #[(.int .i64 u2.channel), (.int .i64 u2.frame), (.int .i64 u2.version), (.int .i64 u2.item), (.int .i64 u2.index), (.bool u2.key), (.string u2.data), (.int .i64 u2.regions), (.int .i64 u2.gain), (.string u2.caption), (.int .i64 u2.os), (.int .i64 u2.of), (.slice u2.A u2.al.length u2.c)]) (by kernel_rfl) (ex_loadN (vs := [(.int .i64 u2.channel), (.int .i64 u2.frame), (.int .i64 u2.version), (.int .i64 u2.item), (.int .i64 u2.index), (.bool u2.key), (.string u2.data), (.int .i64 u2.regions), (.int .i64 u2.gain), (.string u2.caption), (.int .i64 u2.os), (.int .i64 u2.of), (.slice u2.A u2.al.length u2.c)]) (by kernel_rfl) (by kernel_rfl) (by kernel_rfl) rfl (cells13 (pcs2.1) (pcs2.2.1) (pcs2.2.2.1) (pcs2.2.2.2.1) (pcs2.2.2.2.2.1) (pcs2.2.2.2.2.2.1) (pcs2.2.2.2.2.2.2.1) (pcs2.2.2.2.2.2.2.2.1) (pcs2.2.2.2.2.2.2.2.2.1) (pcs2.2.2.2.2.2.2.2.2.2.1) (pcs2.2.2.2.2.2.2.2.2.2.2.1) (pcs2.2.2.2.2.2.2.2.2.2.2.2.1) (pcs2.2.2.2.2.2.2.2.2.2.2.2.2))) ?_
      intro a H
      refine H.call 101 (by kernel_rfl) (Eq.trans (by kernel_rfl : _ = (callFunc 14 #[(.pointer (some ⟨b, 0, none⟩)), (.agg #[(.int .i64 u2.channel), (.int .i64 u2.frame), (.int .i64 u2.version), (.int .i64 u2.item), (.int .i64 u2.index), (.bool u2.key), (.string u2.data), (.int .i64 u2.regions), (.int .i64 u2.gain), (.string u2.caption), (.int .i64 u2.os), (.int .i64 u2.of), (.slice u2.A u2.al.length u2.c)])]).run Try.prog w_22) (Try.call14 _ _)) ((by have hh := step_any b k (stAt k us2 j) u2 w_22 NA nc (HP.held 4 rfl) ((HP.held 0 rfl).2 u2 hmu2) (fun jj hj e => pairwise_at HP.apart (i := 0) (j := 4) rfl rfl (by omega) jj (.inr ⟨u2, hmu2, hj⟩) (.inl e)) (by rw [hkr]; omega) (by rw [hkr]; omega) hinv; rw [hp, hv] at hh; exact hh)) ?_
      rintro e w_25 ⟨rfl, NB_23, cB_24, hsp, hq, hg⟩
      refine ⟨_, rfl, ?_⟩
      intro a H
      have HP := HP.stepped 4 rfl [(unitsR (some ⟨bu2, ou2, none⟩) ul2), (unitsR UA1 ul1), (splR b3 k3 (stAt k3 us1 j) NA3 nc3), (splR b2 k2 (stAt k2 us2 j) NA2 nc2), (splR b k (stepS k (stAt k us2 j) u2).2.2 NB_23 cB_24)] (by kernel_rfl) hsp hq hg
      refine H.alloc HP 23 (fun b => (.pointer (some ⟨b, 0, none⟩))) 36 [(.int .i64 0), (.int .i64 0), (.int .i64 0)] (by kernel_rfl) (fun w => by kernel_rfl) ?_
      intro b_26 w_27 a H HP
      refine H.store HP 0 b_26 0 3 36 [(.int .i64 0), (.int .i64 0), (.int .i64 0)] true (.agg #[(.int .i64 p.item), (.int .i64 p.index), (.int .i64 v)]) [bx b_26 36 [(.int .i64 p.item), (.int .i64 p.index), (.int .i64 v)] true, (unitsR (some ⟨bu2, ou2, none⟩) ul2), (unitsR UA1 ul1), (splR b3 k3 (stAt k3 us1 j) NA3 nc3), (splR b2 k2 (stAt k2 us2 j) NA2 nc2), (splR b k (stepS k (stAt k us2 j) u2).2.2 NB_23 cB_24)] (by kernel_rfl) (by kernel_rfl) (by kernel_rfl) rfl (by kernel_rfl) (by kernel_rfl) (by kernel_rfl) (by kernel_rfl) (by kernel_rfl) ?_
      intro w_28 a H HP
      refine wpList_nil ?_
      have H := H.keep (L' := [(23, (.pointer (some ⟨b_26, 0, none⟩))), (93, (.bool (decide (((j : Nat) : Int) < ((ul2.length : Nat) : Int))))), (92, (.int .i64 ((ul2.length : Nat) : Int))), (91, (.slice (some ⟨bu2, ou2, none⟩) ul2.length uc2)), (90, (.int .i64 ((j : Nat) : Int))), (22, (.int .i64 ((j : Nat) : Int))), (20, (.slice UA1 ul1.length uc1)), (21, (.slice (some ⟨bu2, ou2, none⟩) ul2.length uc2)), (11, (.pointer (some ⟨b, 0, none⟩))), (13, (.pointer (some ⟨b2, 0, none⟩))), (15, (.pointer (some ⟨b3, 0, none⟩))), (9, (.bool true)), (8, (.bool false))]) (by kernel_rfl)
      refine then_normal ?_
      refine wp_seq ?_
      obtain ⟨bq, oq, hUA, _, pcs2, huo, hmu2⟩ := IsUnits.get (HP.held 1 rfl) (j := j) (by omega)
      obtain ⟨rfl, rfl⟩ : bu2 = bq ∧ ou2 = oq := by simpa using hUA
      rw [hu2] at pcs2 hmu2
      refine w_region ?_
      refine H.val 102 (.pointer (some ⟨b2, 0, none⟩)) (by kernel_rfl) (by kernel_rfl) ?_
      intro a H
      refine H.val 103 (.slice (some ⟨bu2, ou2, none⟩) ul2.length uc2) (by kernel_rfl) (by kernel_rfl) ?_
      intro a H
      refine H.val 104 (.int .i64 ((j : Nat) : Int)) (by kernel_rfl) (by kernel_rfl) ?_
      intro a H
      refine H.val 105 (.pointer (some ⟨bu2, ou2 + j * 13, none⟩)) (by kernel_rfl) (ex_index (b := bu2) (off := ou2) (len := ul2.length) (cap := uc2) (e := 46) (k := 13) (ik := .i64) (i := ((j : Nat) : Int)) (m := j) (by kernel_rfl) (by kernel_rfl) (by omega) (by omega) (by kernel_rfl) (by kernel_rfl)) ?_
      intro a H
      refine H.val 106 (.agg #[(.int .i64 u2.channel), (.int .i64 u2.frame), (.int .i64 u2.version), (.int .i64 u2.item), (.int .i64 u2.index), (.bool u2.key), (.string u2.data), (.int .i64 u2.regions), (.int .i64 u2.gain), (.string u2.caption), (.int .i64 u2.os), (.int .i64 u2.of), (.slice u2.A u2.al.length u2.c)]) (by kernel_rfl) (ex_loadN (vs := [(.int .i64 u2.channel), (.int .i64 u2.frame), (.int .i64 u2.version), (.int .i64 u2.item), (.int .i64 u2.index), (.bool u2.key), (.string u2.data), (.int .i64 u2.regions), (.int .i64 u2.gain), (.string u2.caption), (.int .i64 u2.os), (.int .i64 u2.of), (.slice u2.A u2.al.length u2.c)]) (by kernel_rfl) (by kernel_rfl) (by kernel_rfl) rfl (cells13 (pcs2.1) (pcs2.2.1) (pcs2.2.2.1) (pcs2.2.2.2.1) (pcs2.2.2.2.2.1) (pcs2.2.2.2.2.2.1) (pcs2.2.2.2.2.2.2.1) (pcs2.2.2.2.2.2.2.2.1) (pcs2.2.2.2.2.2.2.2.2.1) (pcs2.2.2.2.2.2.2.2.2.2.1) (pcs2.2.2.2.2.2.2.2.2.2.2.1) (pcs2.2.2.2.2.2.2.2.2.2.2.2.1) (pcs2.2.2.2.2.2.2.2.2.2.2.2.2))) ?_
      intro a H
      refine H.call 107 (by kernel_rfl) (Eq.trans (by kernel_rfl : _ = (callFunc 14 #[(.pointer (some ⟨b2, 0, none⟩)), (.agg #[(.int .i64 u2.channel), (.int .i64 u2.frame), (.int .i64 u2.version), (.int .i64 u2.item), (.int .i64 u2.index), (.bool u2.key), (.string u2.data), (.int .i64 u2.regions), (.int .i64 u2.gain), (.string u2.caption), (.int .i64 u2.os), (.int .i64 u2.of), (.slice u2.A u2.al.length u2.c)])]).run Try.prog w_28) (Try.call14 _ _)) ((by have hh := step_any b2 k2 (stAt k2 us2 j) u2 w_28 NA2 nc2 (HP.held 4 rfl) ((HP.held 1 rfl).2 u2 hmu2) (fun jj hj e => pairwise_at HP.apart (i := 1) (j := 4) rfl rfl (by omega) jj (.inr ⟨u2, hmu2, hj⟩) (.inl e)) (by rw [hkr2]; omega) (by rw [hkr2]; omega) hinv2; rw [hp2, hv2] at hh; exact hh)) ?_
      rintro e w_31 ⟨rfl, NB_29, cB_30, hsp, hq, hg⟩
      refine ⟨_, rfl, ?_⟩
      intro a H
      have HP := HP.stepped 4 rfl [bx b_26 36 [(.int .i64 p.item), (.int .i64 p.index), (.int .i64 v)] true, (unitsR (some ⟨bu2, ou2, none⟩) ul2), (unitsR UA1 ul1), (splR b3 k3 (stAt k3 us1 j) NA3 nc3), (splR b2 k2 (stepS k2 (stAt k2 us2 j) u2).2.2 NB_29 cB_30), (splR b k (stepS k (stAt k us2 j) u2).2.2 NB_23 cB_24)] (by kernel_rfl) hsp hq hg
      refine H.alloc HP 24 (fun b => (.pointer (some ⟨b, 0, none⟩))) 36 [(.int .i64 0), (.int .i64 0), (.int .i64 0)] (by kernel_rfl) (fun w => by kernel_rfl) ?_
      intro b_32 w_33 a H HP
      refine H.store HP 0 b_32 0 3 36 [(.int .i64 0), (.int .i64 0), (.int .i64 0)] true (.agg #[(.int .i64 p2.item), (.int .i64 p2.index), (.int .i64 v2)]) [bx b_32 36 [(.int .i64 p2.item), (.int .i64 p2.index), (.int .i64 v2)] true, bx b_26 36 [(.int .i64 p.item), (.int .i64 p.index), (.int .i64 v)] true, (unitsR (some ⟨bu2, ou2, none⟩) ul2), (unitsR UA1 ul1), (splR b3 k3 (stAt k3 us1 j) NA3 nc3), (splR b2 k2 (stepS k2 (stAt k2 us2 j) u2).2.2 NB_29 cB_30), (splR b k (stepS k (stAt k us2 j) u2).2.2 NB_23 cB_24)] (by kernel_rfl) (by kernel_rfl) (by kernel_rfl) rfl (by kernel_rfl) (by kernel_rfl) (by kernel_rfl) (by kernel_rfl) (by kernel_rfl) ?_
      intro w_34 a H HP
      refine wpList_nil ?_
      have H := H.keep (L' := [(24, (.pointer (some ⟨b_32, 0, none⟩))), (23, (.pointer (some ⟨b_26, 0, none⟩))), (93, (.bool (decide (((j : Nat) : Int) < ((ul2.length : Nat) : Int))))), (92, (.int .i64 ((ul2.length : Nat) : Int))), (91, (.slice (some ⟨bu2, ou2, none⟩) ul2.length uc2)), (90, (.int .i64 ((j : Nat) : Int))), (22, (.int .i64 ((j : Nat) : Int))), (20, (.slice UA1 ul1.length uc1)), (21, (.slice (some ⟨bu2, ou2, none⟩) ul2.length uc2)), (11, (.pointer (some ⟨b, 0, none⟩))), (13, (.pointer (some ⟨b2, 0, none⟩))), (15, (.pointer (some ⟨b3, 0, none⟩))), (9, (.bool true)), (8, (.bool false))]) (by kernel_rfl)
      refine then_normal ?_
      refine wp_seq ?_
      obtain ⟨bq, oq, hUA, _, pcs1, huo, hmu1⟩ := IsUnits.get (HP.held 3 rfl) (j := j) (by omega)
      subst hUA
      obtain ⟨bu1, hbq⟩ : ∃ b, b = bq := ⟨_, rfl⟩
      obtain ⟨ou1, hoq⟩ : ∃ o, o = oq := ⟨_, rfl⟩
      subst hbq hoq
      rw [hu1] at pcs1 hmu1
      refine w_region ?_
      refine H.val 108 (.pointer (some ⟨b3, 0, none⟩)) (by kernel_rfl) (by kernel_rfl) ?_
      intro a H
      refine H.val 109 (.slice (some ⟨bu1, ou1, none⟩) ul1.length uc1) (by kernel_rfl) (by kernel_rfl) ?_
      intro a H
      refine H.val 110 (.int .i64 ((j : Nat) : Int)) (by kernel_rfl) (by kernel_rfl) ?_
      intro a H
      refine H.val 111 (.pointer (some ⟨bu1, ou1 + j * 13, none⟩)) (by kernel_rfl) (ex_index (b := bu1) (off := ou1) (len := ul1.length) (cap := uc1) (e := 46) (k := 13) (ik := .i64) (i := ((j : Nat) : Int)) (m := j) (by kernel_rfl) (by kernel_rfl) (by omega) (by omega) (by kernel_rfl) (by kernel_rfl)) ?_
      intro a H
      refine H.val 112 (.agg #[(.int .i64 u1.channel), (.int .i64 u1.frame), (.int .i64 u1.version), (.int .i64 u1.item), (.int .i64 u1.index), (.bool u1.key), (.string u1.data), (.int .i64 u1.regions), (.int .i64 u1.gain), (.string u1.caption), (.int .i64 u1.os), (.int .i64 u1.of), (.slice u1.A u1.al.length u1.c)]) (by kernel_rfl) (ex_loadN (vs := [(.int .i64 u1.channel), (.int .i64 u1.frame), (.int .i64 u1.version), (.int .i64 u1.item), (.int .i64 u1.index), (.bool u1.key), (.string u1.data), (.int .i64 u1.regions), (.int .i64 u1.gain), (.string u1.caption), (.int .i64 u1.os), (.int .i64 u1.of), (.slice u1.A u1.al.length u1.c)]) (by kernel_rfl) (by kernel_rfl) (by kernel_rfl) rfl (cells13 (pcs1.1) (pcs1.2.1) (pcs1.2.2.1) (pcs1.2.2.2.1) (pcs1.2.2.2.2.1) (pcs1.2.2.2.2.2.1) (pcs1.2.2.2.2.2.2.1) (pcs1.2.2.2.2.2.2.2.1) (pcs1.2.2.2.2.2.2.2.2.1) (pcs1.2.2.2.2.2.2.2.2.2.1) (pcs1.2.2.2.2.2.2.2.2.2.2.1) (pcs1.2.2.2.2.2.2.2.2.2.2.2.1) (pcs1.2.2.2.2.2.2.2.2.2.2.2.2))) ?_
      intro a H
      refine H.call 113 (by kernel_rfl) (Eq.trans (by kernel_rfl : _ = (callFunc 14 #[(.pointer (some ⟨b3, 0, none⟩)), (.agg #[(.int .i64 u1.channel), (.int .i64 u1.frame), (.int .i64 u1.version), (.int .i64 u1.item), (.int .i64 u1.index), (.bool u1.key), (.string u1.data), (.int .i64 u1.regions), (.int .i64 u1.gain), (.string u1.caption), (.int .i64 u1.os), (.int .i64 u1.of), (.slice u1.A u1.al.length u1.c)])]).run Try.prog w_34) (Try.call14 _ _)) ((by have hh := step_any b3 k3 (stAt k3 us1 j) u1 w_34 NA3 nc3 (HP.held 4 rfl) ((HP.held 3 rfl).2 u1 hmu1) (fun jj hj e => pairwise_at HP.apart (i := 3) (j := 4) rfl rfl (by omega) jj (.inr ⟨u1, hmu1, hj⟩) (.inl e)) (by rw [hkr3]; omega) (by rw [hkr3]; omega) hinv3; rw [hp3, hv3] at hh; exact hh)) ?_
      rintro e w_37 ⟨rfl, NB_35, cB_36, hsp, hq, hg⟩
      refine ⟨_, rfl, ?_⟩
      intro a H
      have HP := HP.stepped 4 rfl [bx b_32 36 [(.int .i64 p2.item), (.int .i64 p2.index), (.int .i64 v2)] true, bx b_26 36 [(.int .i64 p.item), (.int .i64 p.index), (.int .i64 v)] true, (unitsR (some ⟨bu2, ou2, none⟩) ul2), (unitsR (some ⟨bu1, ou1, none⟩) ul1), (splR b3 k3 (stepS k3 (stAt k3 us1 j) u1).2.2 NB_35 cB_36), (splR b2 k2 (stepS k2 (stAt k2 us2 j) u2).2.2 NB_29 cB_30), (splR b k (stepS k (stAt k us2 j) u2).2.2 NB_23 cB_24)] (by kernel_rfl) hsp hq hg
      refine H.alloc HP 25 (fun b => (.pointer (some ⟨b, 0, none⟩))) 36 [(.int .i64 0), (.int .i64 0), (.int .i64 0)] (by kernel_rfl) (fun w => by kernel_rfl) ?_
      intro b_38 w_39 a H HP
      refine H.store HP 0 b_38 0 3 36 [(.int .i64 0), (.int .i64 0), (.int .i64 0)] true (.agg #[(.int .i64 p3.item), (.int .i64 p3.index), (.int .i64 v3)]) [bx b_38 36 [(.int .i64 p3.item), (.int .i64 p3.index), (.int .i64 v3)] true, bx b_32 36 [(.int .i64 p2.item), (.int .i64 p2.index), (.int .i64 v2)] true, bx b_26 36 [(.int .i64 p.item), (.int .i64 p.index), (.int .i64 v)] true, (unitsR (some ⟨bu2, ou2, none⟩) ul2), (unitsR (some ⟨bu1, ou1, none⟩) ul1), (splR b3 k3 (stepS k3 (stAt k3 us1 j) u1).2.2 NB_35 cB_36), (splR b2 k2 (stepS k2 (stAt k2 us2 j) u2).2.2 NB_29 cB_30), (splR b k (stepS k (stAt k us2 j) u2).2.2 NB_23 cB_24)] (by kernel_rfl) (by kernel_rfl) (by kernel_rfl) rfl (by kernel_rfl) (by kernel_rfl) (by kernel_rfl) (by kernel_rfl) (by kernel_rfl) ?_
      intro w_40 a H HP
      refine wpList_nil ?_
      have H := H.keep (L' := [(25, (.pointer (some ⟨b_38, 0, none⟩))), (24, (.pointer (some ⟨b_32, 0, none⟩))), (23, (.pointer (some ⟨b_26, 0, none⟩))), (93, (.bool (decide (((j : Nat) : Int) < ((ul2.length : Nat) : Int))))), (92, (.int .i64 ((ul2.length : Nat) : Int))), (91, (.slice (some ⟨bu2, ou2, none⟩) ul2.length uc2)), (90, (.int .i64 ((j : Nat) : Int))), (22, (.int .i64 ((j : Nat) : Int))), (20, (.slice (some ⟨bu1, ou1, none⟩) ul1.length uc1)), (21, (.slice (some ⟨bu2, ou2, none⟩) ul2.length uc2)), (11, (.pointer (some ⟨b, 0, none⟩))), (13, (.pointer (some ⟨b2, 0, none⟩))), (15, (.pointer (some ⟨b3, 0, none⟩))), (9, (.bool true)), (8, (.bool false))]) (by kernel_rfl)
      refine then_normal ?_
      refine wp_seq ?_
      obtain ⟨bq, oq, hUA, _, pcs2, huo, hmu2⟩ := IsUnits.get (HP.held 3 rfl) (j := j) (by omega)
      obtain ⟨rfl, rfl⟩ : bu2 = bq ∧ ou2 = oq := by simpa using hUA
      rw [hu2] at pcs2 hmu2
      refine w_region ?_
      refine H.val 114 (.slice (some ⟨bu2, ou2, none⟩) ul2.length uc2) (by kernel_rfl) (by kernel_rfl) ?_
      intro a H
      refine H.val 115 (.int .i64 ((j : Nat) : Int)) (by kernel_rfl) (by kernel_rfl) ?_
      intro a H
      refine H.val 116 (.pointer (some ⟨bu2, ou2 + j * 13, none⟩)) (by kernel_rfl) (ex_index (b := bu2) (off := ou2) (len := ul2.length) (cap := uc2) (e := 46) (k := 13) (ik := .i64) (i := ((j : Nat) : Int)) (m := j) (by kernel_rfl) (by kernel_rfl) (by omega) (by omega) (by kernel_rfl) (by kernel_rfl)) ?_
      intro a H
      refine H.val 117 (.agg #[(.int .i64 u2.channel), (.int .i64 u2.frame), (.int .i64 u2.version), (.int .i64 u2.item), (.int .i64 u2.index), (.bool u2.key), (.string u2.data), (.int .i64 u2.regions), (.int .i64 u2.gain), (.string u2.caption), (.int .i64 u2.os), (.int .i64 u2.of), (.slice u2.A u2.al.length u2.c)]) (by kernel_rfl) (ex_loadN (vs := [(.int .i64 u2.channel), (.int .i64 u2.frame), (.int .i64 u2.version), (.int .i64 u2.item), (.int .i64 u2.index), (.bool u2.key), (.string u2.data), (.int .i64 u2.regions), (.int .i64 u2.gain), (.string u2.caption), (.int .i64 u2.os), (.int .i64 u2.of), (.slice u2.A u2.al.length u2.c)]) (by kernel_rfl) (by kernel_rfl) (by kernel_rfl) rfl (cells13 (pcs2.1) (pcs2.2.1) (pcs2.2.2.1) (pcs2.2.2.2.1) (pcs2.2.2.2.2.1) (pcs2.2.2.2.2.2.1) (pcs2.2.2.2.2.2.2.1) (pcs2.2.2.2.2.2.2.2.1) (pcs2.2.2.2.2.2.2.2.2.1) (pcs2.2.2.2.2.2.2.2.2.2.1) (pcs2.2.2.2.2.2.2.2.2.2.2.1) (pcs2.2.2.2.2.2.2.2.2.2.2.2.1) (pcs2.2.2.2.2.2.2.2.2.2.2.2.2))) ?_
      intro a H
      refine H.alloc HP 26 (fun b => (.pointer (some ⟨b, 0, none⟩))) 46 [(.int .i64 0), (.int .i64 0), (.int .i64 0), (.int .i64 0), (.int .i64 0), (.bool false), (.string (ByteArray.mk #[])), (.int .i64 0), (.int .i64 0), (.string (ByteArray.mk #[])), (.int .i64 0), (.int .i64 0), (.slice none 0 0)] (by kernel_rfl) (fun w => by kernel_rfl) ?_
      intro b_41 w_42 a H HP
      refine H.store HP 0 b_41 0 13 46 [(.int .i64 0), (.int .i64 0), (.int .i64 0), (.int .i64 0), (.int .i64 0), (.bool false), (.string (ByteArray.mk #[])), (.int .i64 0), (.int .i64 0), (.string (ByteArray.mk #[])), (.int .i64 0), (.int .i64 0), (.slice none 0 0)] true (.agg #[(.int .i64 u2.channel), (.int .i64 u2.frame), (.int .i64 u2.version), (.int .i64 u2.item), (.int .i64 u2.index), (.bool u2.key), (.string u2.data), (.int .i64 u2.regions), (.int .i64 u2.gain), (.string u2.caption), (.int .i64 u2.os), (.int .i64 u2.of), (.slice u2.A u2.al.length u2.c)]) [bx b_41 46 [(.int .i64 u2.channel), (.int .i64 u2.frame), (.int .i64 u2.version), (.int .i64 u2.item), (.int .i64 u2.index), (.bool u2.key), (.string u2.data), (.int .i64 u2.regions), (.int .i64 u2.gain), (.string u2.caption), (.int .i64 u2.os), (.int .i64 u2.of), (.slice u2.A u2.al.length u2.c)] true, bx b_38 36 [(.int .i64 p3.item), (.int .i64 p3.index), (.int .i64 v3)] true, bx b_32 36 [(.int .i64 p2.item), (.int .i64 p2.index), (.int .i64 v2)] true, bx b_26 36 [(.int .i64 p.item), (.int .i64 p.index), (.int .i64 v)] true, (unitsR (some ⟨bu2, ou2, none⟩) ul2), (unitsR (some ⟨bu1, ou1, none⟩) ul1), (splR b3 k3 (stepS k3 (stAt k3 us1 j) u1).2.2 NB_35 cB_36), (splR b2 k2 (stepS k2 (stAt k2 us2 j) u2).2.2 NB_29 cB_30), (splR b k (stepS k (stAt k us2 j) u2).2.2 NB_23 cB_24)] (by kernel_rfl) (by kernel_rfl) (by kernel_rfl) rfl (by kernel_rfl) (by kernel_rfl) (by kernel_rfl) (by kernel_rfl) (by kernel_rfl) ?_
      intro w_43 a H HP
      refine wpList_nil ?_
      refine then_normal ?_
      refine wp_seq ?_
      refine w_region ?_
      refine H.val 118 (.agg #[(.int .i64 p.item), (.int .i64 p.index), (.int .i64 v)]) (by kernel_rfl) (ex_loadN (vs := [(.int .i64 p.item), (.int .i64 p.index), (.int .i64 v)]) (by kernel_rfl) (by kernel_rfl) (by kernel_rfl) rfl (HP.cells 3 rfl 0 3 (by kernel_rfl))) ?_
      intro a H
      refine H.val 119 (.agg #[(.int .i64 p2.item), (.int .i64 p2.index), (.int .i64 v2)]) (by kernel_rfl) (ex_loadN (vs := [(.int .i64 p2.item), (.int .i64 p2.index), (.int .i64 v2)]) (by kernel_rfl) (by kernel_rfl) (by kernel_rfl) rfl (HP.cells 2 rfl 0 3 (by kernel_rfl))) ?_
      intro a H
      refine H.valE 120 (.bool (!((p.item == p2.item) && ((p.index == p2.index) && (v == v2))))) (.bool false) (by kernel_rfl) (ex_neSh (a0 := p.item) (a1 := p.index) (a2 := v) (b0 := p2.item) (b1 := p2.index) (b2 := v2) (by kernel_rfl) (by kernel_rfl)) ((congrArg Value.bool (by rw [q1, q2]; simp))) ?_
      intro a H
      refine H.val 121 (.bool false) (by kernel_rfl) (by kernel_rfl) ?_
      intro a H
      refine H.val 122 (.agg #[(.int .i64 p.item), (.int .i64 p.index), (.int .i64 v)]) (by kernel_rfl) (ex_loadN (vs := [(.int .i64 p.item), (.int .i64 p.index), (.int .i64 v)]) (by kernel_rfl) (by kernel_rfl) (by kernel_rfl) rfl (HP.cells 3 rfl 0 3 (by kernel_rfl))) ?_
      intro a H
      refine H.val 123 (.agg #[(.int .i64 p3.item), (.int .i64 p3.index), (.int .i64 v3)]) (by kernel_rfl) (ex_loadN (vs := [(.int .i64 p3.item), (.int .i64 p3.index), (.int .i64 v3)]) (by kernel_rfl) (by kernel_rfl) (by kernel_rfl) rfl (HP.cells 1 rfl 0 3 (by kernel_rfl))) ?_
      intro a H
      refine H.valE 124 (.bool (!((p.item == p3.item) && ((p.index == p3.index) && (v == v3))))) (.bool false) (by kernel_rfl) (ex_neSh (a0 := p.item) (a1 := p.index) (a2 := v) (b0 := p3.item) (b1 := p3.index) (b2 := v3) (by kernel_rfl) (by kernel_rfl)) ((congrArg Value.bool (by rw [q3, q4]; simp))) ?_
      intro a H
      refine H.val 125 (.bool false) (by kernel_rfl) (by kernel_rfl) ?_
      intro a H
      refine H.val 126 (.bool false) (by kernel_rfl) (by kernel_rfl) ?_
      intro a H
      refine H.val 127 (.pointer (some ⟨b_26, 0, none⟩)) (by kernel_rfl) (by kernel_rfl) ?_
      intro a H
      refine H.val 128 (.int .i64 p.item) (by kernel_rfl) (ex_load1 (by kernel_rfl) (by kernel_rfl) (HP.cell 3 rfl 0 rfl)) ?_
      intro a H
      refine H.val 129 (.bool (p.item != 0)) (by kernel_rfl) (by kernel_rfl) ?_
      intro a H
      refine H.val 130 (.bool (p.item != 0)) (by kernel_rfl) (by kernel_rfl) ?_
      intro a H
      refine H.split 130 rfl (fun g130 H => ?_) (fun g130 H => ?_)
      · have g130p := bne_iff_ne.1 g130
        refine H.val 131 (.pointer (some ⟨b_26, 0, none⟩)) (by kernel_rfl) (by kernel_rfl) ?_
        intro a H
        refine H.val 132 (.int .i64 p.item) (by kernel_rfl) (ex_load1 (by kernel_rfl) (by kernel_rfl) (HP.cell 3 rfl 0 rfl)) ?_
        intro a H
        refine H.val 133 (.pointer (some ⟨b_41, 3, none⟩)) (by kernel_rfl) (by kernel_rfl) ?_
        intro a H
        refine H.val 134 (.int .i64 u2.item) (by kernel_rfl) (ex_load1 (by kernel_rfl) (by kernel_rfl) (HP.cell 0 rfl 3 rfl)) ?_
        intro a H
        refine H.valE 135 (.bool (p.item != u2.item)) (.bool false) (by kernel_rfl) (by kernel_rfl) ((congrArg Value.bool (by rw [(hsh g130p).1]; simp))) ?_
        intro a H
        refine H.val 136 (.bool false) (by kernel_rfl) (by kernel_rfl) ?_
        intro a H
        refine H.val 137 (.pointer (some ⟨b_26, 1, none⟩)) (by kernel_rfl) (by kernel_rfl) ?_
        intro a H
        refine H.val 138 (.int .i64 p.index) (by kernel_rfl) (ex_load1 (by kernel_rfl) (by kernel_rfl) (HP.cell 3 rfl 1 rfl)) ?_
        intro a H
        refine H.val 139 (.pointer (some ⟨b_41, 4, none⟩)) (by kernel_rfl) (by kernel_rfl) ?_
        intro a H
        refine H.val 140 (.int .i64 u2.index) (by kernel_rfl) (ex_load1 (by kernel_rfl) (by kernel_rfl) (HP.cell 0 rfl 4 rfl)) ?_
        intro a H
        refine H.valE 141 (.bool (p.index != u2.index)) (.bool false) (by kernel_rfl) (by kernel_rfl) ((congrArg Value.bool (by rw [(hsh g130p).2]; simp))) ?_
        intro a H
        refine H.val 142 (.bool false) (by kernel_rfl) (by kernel_rfl) ?_
        intro a H
        refine H.val 143 (.bool false) (by kernel_rfl) (by kernel_rfl) ?_
        intro a H
        refine H.val 144 (.bool false) (by kernel_rfl) (by kernel_rfl) ?_
        intro a H
        refine H.val 145 (.bool false) (by kernel_rfl) (by kernel_rfl) ?_
        intro a H
        refine H.val 146 (.pointer (some ⟨b, 0, none⟩)) (by kernel_rfl) (by kernel_rfl) ?_
        intro a H
        refine H.call 147 (by kernel_rfl) (Eq.trans (by kernel_rfl : _ = (callFunc 17 #[(.pointer (some ⟨b, 0, none⟩))]).run Try.prog w_43) (Try.call17 _ _)) (full_any b k (stepS k (stAt k us2 j) u2).2.2 w_43 (HP.held 8 rfl).ok) ?_
        rintro e w_44 ⟨rfl, hw⟩
        refine ⟨_, rfl, ?_⟩
        intro a H
        have HP := hw ▸ HP
        refine H.val 148 (.pointer (some ⟨b2, 0, none⟩)) (by kernel_rfl) (by kernel_rfl) ?_
        intro a H
        refine H.call 149 (by kernel_rfl) (Eq.trans (by kernel_rfl : _ = (callFunc 17 #[(.pointer (some ⟨b2, 0, none⟩))]).run Try.prog w_44) (Try.call17 _ _)) (full_any b2 k2 (stepS k2 (stAt k2 us2 j) u2).2.2 w_44 (HP.held 7 rfl).ok) ?_
        rintro e w_45 ⟨rfl, hw⟩
        refine ⟨_, rfl, ?_⟩
        intro a H
        have HP := hw ▸ HP
        refine H.valE 150 (.bool (((stepS k (stAt k us2 j) u2).2.2.full) != ((stepS k2 (stAt k2 us2 j) u2).2.2.full))) (.bool false) (by kernel_rfl) (by kernel_rfl) ((congrArg Value.bool (by rw [tw2.1]; simp))) ?_
        intro a H
        refine H.val 151 (.bool false) (by kernel_rfl) (by kernel_rfl) ?_
        intro a H
        refine wpList_nil ?_
        have H := H.keep (L' := [(151, (.bool false)), (26, (.pointer (some ⟨b_41, 0, none⟩))), (117, (.agg #[(.int .i64 u2.channel), (.int .i64 u2.frame), (.int .i64 u2.version), (.int .i64 u2.item), (.int .i64 u2.index), (.bool u2.key), (.string u2.data), (.int .i64 u2.regions), (.int .i64 u2.gain), (.string u2.caption), (.int .i64 u2.os), (.int .i64 u2.of), (.slice u2.A u2.al.length u2.c)])), (116, (.pointer (some ⟨bu2, ou2 + j * 13, none⟩))), (115, (.int .i64 ((j : Nat) : Int))), (114, (.slice (some ⟨bu2, ou2, none⟩) ul2.length uc2)), (25, (.pointer (some ⟨b_38, 0, none⟩))), (24, (.pointer (some ⟨b_32, 0, none⟩))), (23, (.pointer (some ⟨b_26, 0, none⟩))), (93, (.bool (decide (((j : Nat) : Int) < ((ul2.length : Nat) : Int))))), (92, (.int .i64 ((ul2.length : Nat) : Int))), (91, (.slice (some ⟨bu2, ou2, none⟩) ul2.length uc2)), (90, (.int .i64 ((j : Nat) : Int))), (22, (.int .i64 ((j : Nat) : Int))), (20, (.slice (some ⟨bu1, ou1, none⟩) ul1.length uc1)), (21, (.slice (some ⟨bu2, ou2, none⟩) ul2.length uc2)), (11, (.pointer (some ⟨b, 0, none⟩))), (13, (.pointer (some ⟨b2, 0, none⟩))), (15, (.pointer (some ⟨b3, 0, none⟩))), (9, (.bool true)), (8, (.bool false))]) (by kernel_rfl)
        refine then_normal ?_
        refine w_iff H rfl ?_
        refine wp_skip ?_
        refine inb_normal ?_
        refine then_normal ?_
        refine w_region ?_
        refine H.val 94 (.int .i64 ((j : Nat) : Int)) (by kernel_rfl) (by kernel_rfl) ?_
        intro a H
        refine H.valE 95 (.int .i64 (IntKind.i64.wrap (((j : Nat) : Int) + 1))) (.int .i64 (((j : Nat) : Int) + 1)) (by kernel_rfl) (by kernel_rfl) ((by rw [wrap_ini64 _ (by omega)])) ?_
        intro a H
        refine H.val 22 (.int .i64 (((j : Nat) : Int) + 1)) (by kernel_rfl) (by kernel_rfl) ?_
        intro a H
        refine wpList_nil ?_
        refine then_normal ?_
        have H := H.as 22 (.int .i64 ((j + 1 : Nat) : Int)) rfl rfl
        refine ⟨_, ?_, j + 1, NB_23, cB_24, NB_29, cB_30, NB_35, cB_36, rfl, H.keep (by kernel_rfl), (by rw [hst1, hst12, hst13]; exact ((((HP.tail rfl).tail rfl).tail rfl).tail rfl)), by omega, (by rw [hst1, hst12]; exact tw2), (by rw [hst1, hst13]; exact tw3)⟩
        omega
      · have g130p := eq_of_bne_false g130
        refine H.skip 131 (by kernel_rfl) ?_
        intro a H
        refine H.skip 132 (by kernel_rfl) ?_
        intro a H
        refine H.skip 133 (by kernel_rfl) ?_
        intro a H
        refine H.skip 134 (by kernel_rfl) ?_
        intro a H
        refine H.skip 135 (by kernel_rfl) ?_
        intro a H
        refine H.skip 136 (by kernel_rfl) ?_
        intro a H
        refine H.skip 137 (by kernel_rfl) ?_
        intro a H
        refine H.skip 138 (by kernel_rfl) ?_
        intro a H
        refine H.skip 139 (by kernel_rfl) ?_
        intro a H
        refine H.skip 140 (by kernel_rfl) ?_
        intro a H
        refine H.skip 141 (by kernel_rfl) ?_
        intro a H
        refine H.skip 142 (by kernel_rfl) ?_
        intro a H
        refine H.val 143 (.bool false) (by kernel_rfl) (by kernel_rfl) ?_
        intro a H
        refine H.val 144 (.bool false) (by kernel_rfl) (by kernel_rfl) ?_
        intro a H
        refine H.val 145 (.bool false) (by kernel_rfl) (by kernel_rfl) ?_
        intro a H
        refine H.val 146 (.pointer (some ⟨b, 0, none⟩)) (by kernel_rfl) (by kernel_rfl) ?_
        intro a H
        refine H.call 147 (by kernel_rfl) (Eq.trans (by kernel_rfl : _ = (callFunc 17 #[(.pointer (some ⟨b, 0, none⟩))]).run Try.prog w_43) (Try.call17 _ _)) (full_any b k (stepS k (stAt k us2 j) u2).2.2 w_43 (HP.held 8 rfl).ok) ?_
        rintro e w_46 ⟨rfl, hw⟩
        refine ⟨_, rfl, ?_⟩
        intro a H
        have HP := hw ▸ HP
        refine H.val 148 (.pointer (some ⟨b2, 0, none⟩)) (by kernel_rfl) (by kernel_rfl) ?_
        intro a H
        refine H.call 149 (by kernel_rfl) (Eq.trans (by kernel_rfl : _ = (callFunc 17 #[(.pointer (some ⟨b2, 0, none⟩))]).run Try.prog w_46) (Try.call17 _ _)) (full_any b2 k2 (stepS k2 (stAt k2 us2 j) u2).2.2 w_46 (HP.held 7 rfl).ok) ?_
        rintro e w_47 ⟨rfl, hw⟩
        refine ⟨_, rfl, ?_⟩
        intro a H
        have HP := hw ▸ HP
        refine H.valE 150 (.bool (((stepS k (stAt k us2 j) u2).2.2.full) != ((stepS k2 (stAt k2 us2 j) u2).2.2.full))) (.bool false) (by kernel_rfl) (by kernel_rfl) ((congrArg Value.bool (by rw [tw2.1]; simp))) ?_
        intro a H
        refine H.val 151 (.bool false) (by kernel_rfl) (by kernel_rfl) ?_
        intro a H
        refine wpList_nil ?_
        have H := H.keep (L' := [(151, (.bool false)), (26, (.pointer (some ⟨b_41, 0, none⟩))), (117, (.agg #[(.int .i64 u2.channel), (.int .i64 u2.frame), (.int .i64 u2.version), (.int .i64 u2.item), (.int .i64 u2.index), (.bool u2.key), (.string u2.data), (.int .i64 u2.regions), (.int .i64 u2.gain), (.string u2.caption), (.int .i64 u2.os), (.int .i64 u2.of), (.slice u2.A u2.al.length u2.c)])), (116, (.pointer (some ⟨bu2, ou2 + j * 13, none⟩))), (115, (.int .i64 ((j : Nat) : Int))), (114, (.slice (some ⟨bu2, ou2, none⟩) ul2.length uc2)), (25, (.pointer (some ⟨b_38, 0, none⟩))), (24, (.pointer (some ⟨b_32, 0, none⟩))), (23, (.pointer (some ⟨b_26, 0, none⟩))), (93, (.bool (decide (((j : Nat) : Int) < ((ul2.length : Nat) : Int))))), (92, (.int .i64 ((ul2.length : Nat) : Int))), (91, (.slice (some ⟨bu2, ou2, none⟩) ul2.length uc2)), (90, (.int .i64 ((j : Nat) : Int))), (22, (.int .i64 ((j : Nat) : Int))), (20, (.slice (some ⟨bu1, ou1, none⟩) ul1.length uc1)), (21, (.slice (some ⟨bu2, ou2, none⟩) ul2.length uc2)), (11, (.pointer (some ⟨b, 0, none⟩))), (13, (.pointer (some ⟨b2, 0, none⟩))), (15, (.pointer (some ⟨b3, 0, none⟩))), (9, (.bool true)), (8, (.bool false))]) (by kernel_rfl)
        refine then_normal ?_
        refine w_iff H rfl ?_
        refine wp_skip ?_
        refine inb_normal ?_
        refine then_normal ?_
        refine w_region ?_
        refine H.val 94 (.int .i64 ((j : Nat) : Int)) (by kernel_rfl) (by kernel_rfl) ?_
        intro a H
        refine H.valE 95 (.int .i64 (IntKind.i64.wrap (((j : Nat) : Int) + 1))) (.int .i64 (((j : Nat) : Int) + 1)) (by kernel_rfl) (by kernel_rfl) ((by rw [wrap_ini64 _ (by omega)])) ?_
        intro a H
        refine H.val 22 (.int .i64 (((j : Nat) : Int) + 1)) (by kernel_rfl) (by kernel_rfl) ?_
        intro a H
        refine wpList_nil ?_
        refine then_normal ?_
        have H := H.as 22 (.int .i64 ((j + 1 : Nat) : Int)) rfl rfl
        refine ⟨_, ?_, j + 1, NB_23, cB_24, NB_29, cB_30, NB_35, cB_36, rfl, H.keep (by kernel_rfl), (by rw [hst1, hst12, hst13]; exact ((((HP.tail rfl).tail rfl).tail rfl).tail rfl)), by omega, (by rw [hst1, hst12]; exact tw2), (by rw [hst1, hst13]; exact tw3)⟩
        omega
    · have g93p := of_decide_eq_false g93
      refine wp_exit ?_
      refine then_exit ?_
      refine then_exit ?_
      refine w_exit_here ?_
      refine then_normal ?_
      refine wp_seq ?_
      refine w_region ?_
      refine H.val 152 (.bool true) (by kernel_rfl) (by kernel_rfl) ?_
      intro a H
      refine H.val 8 (.bool true) (by kernel_rfl) (by kernel_rfl) ?_
      intro a H
      refine wpList_nil ?_
      refine then_normal ?_
      refine wp_ret ?_
      refine H.ret1 (fn := Try.f6) Try.results6 (RV.tmp_ (v := (.bool true)) (by kernel_rfl)) ?_
      exact ⟨rfl, (HP.below (by kernel_rfl))⟩
namespace splicerNetwork
theorem walk (x : Nat → Int) (l : SlA Pc) (z : SlA Int) (r : Int) (w : World) (h1 : opFiles.ok w x) (h2 : opPcs.ok w l) (h3 : opInts.ok w z) (h0 : (Lit.int .i64 r).wf = true) :
    Calls Try.prog 6 #[.agg (opFiles.cells x).toArray, (opPcs.cells l).headD undef, (opInts.cells z).headD undef, .int .i64 r] w fun e w' => e = .returned (.bool true) ∧ Below w.heap.size w w' :=
  network_walk r x l.A l.l.length l.c l.l z.A z.l.length z.c z.l w (wf64_bd h0) h1 (opPcs_is h2).1 (opPcs_is h2).2.1 (opPcs_is h2).2.2 (opInts_is h3).1 (opInts_is h3).2.1 (opInts_is h3).2.2
end splicerNetwork
end Go.Proofs.Ytpaepefpfaoacaa
