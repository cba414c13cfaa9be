/- The iterator over the events that opt out. -/
import Derived.Test.YtfpnjlfcnfjkdaaOptI
namespace Go.Proofs.Ytfpnjlfcnfjkdaa
open Go.ChangeShapes Go.WideShapes Go.ChangeAt Go.RowKit Go.Shelf
set_option linter.unusedVariables false
attribute [local go_sem] Oper.semAt_some

/-- Whether an event that is placed opts out. -/
def EvA.outs (e : EvA) : Bool := !e.ev.inBad && validP (e.ev.start - e.ev.inn) (e.ev.frames + e.ev.inn) e.al
abbrev OEv (l : List EvA) := { e : EvA // e ∈ l ∧ e.ev.placed = true ∧ e.outs = true }
abbrev opts (l : List EvA) : List EvA := l.filter EvA.outs
abbrev oevV (e : EvA) : Value := .agg #[.int .i64 e.ev.entry, .int .i64 e.ev.item, .int .i64 e.ev.start, .int .i64 e.ev.frames, .int .i64 e.ev.inn, .int .i64 e.ev.regions, .slice e.A e.al.length e.c, .int .i64 (e.ev.start - e.ev.inn), .int .i64 (e.ev.frames + e.ev.inn), .slice e.A e.al.length e.c]

set_option maxHeartbeats 1000000 in
theorem opts_in (n : Nat) (A : Option Addr) (m c : Nat) (w : World) :
    CallsIn Fence.wide n Try.prog 33 #[.slice A m c] w fun e w' => e = .returned (.func (.func 40) #[] #[.pointer (some ⟨w.heap.size, 0, none⟩)]) ∧ w' = w.alloc (.cells #[.slice A m c] 31) := by
  refine callsIn_of_wp Try.func33 rfl trivial ?_ rfl
  simp only [Try.ntmps33, List.size_toArray, List.length_cons, List.length_nil, Nat.reduceAdd, Nat.reduceSub, Array.replicate_succ, Array.replicate_zero, List.push_toArray, List.append_toArray, List.nil_append, List.cons_append]
  gi_wp2
  go_ret
  exact ⟨rfl, rfl⟩

theorem snoc_opts {es : List EvA} {ys : List (PEv es)} {x : PEv es} : opts ((ys ++ [x]).map (·.1)) = opts (ys.map (·.1)) ++ (if x.1.outs = true then [x.1] else []) := by
  simp only [opts, List.map_append, List.filter_append, List.map_cons, List.map_nil, List.filter_cons, List.filter_nil]
theorem opts_pre {a b : List EvA} (h : a <+: b) : opts a <+: opts b := by
  obtain ⟨r, rfl⟩ := h
  simp only [opts, List.filter_append]
  exact List.prefix_append _ _

set_option maxRecDepth 100000 in
set_option maxHeartbeats 4000000 in
theorem opts1_in (n : Nat) (hn : 8 ≤ n) (w₀ : World) (l Bs n₁ n₂ : Nat) (A : Option Addr) (m c : Nat) (es : List EvA) (hm : m ≤ 9223372036854775807) (J Jx : List (OEv es) → World → Prop)
    (W : World) (hJo : OwnFrom W.heap.size J) (hJxo : OwnFrom W.heap.size Jx)
    (hY : ∀ pre x W, J pre W → pre.length < m → YieldAt Fence.wide (n - 1) Try.prog l #[oevV x.1] W fun e W' =>
      (e = .returned (.bool true) ∧ J (pre ++ [x]) W' ∧ KeepC w₀.heap.size n₁ n₂ W W') ∨ (e = .returned (.bool false) ∧ Jx (pre ++ [x]) W' ∧ KeepC w₀.heap.size n₁ n₂ W W'))
    (hBs : Box W Bs 31 #[.slice A m c]) (hBn : n₁ ≤ Bs) (hn₂ : n₂ ≤ W.heap.size) (hw₀ : Below w₀.heap.size w₀ W) (hI : IsEvs w₀ A m es) (h0 : J [] W) :
    CallsIn Fence.wide n Try.prog 40 #[.func (.yield l) #[] #[], .pointer (some ⟨Bs, 0, none⟩)] W fun e W' => (∃ v, e = .returned v) ∧
      ((∃ ys : List (OEv es), ys.map (·.1) = opts (plac es) ∧ J ys W') ∨ (∃ pre : List (OEv es), pre.map (·.1) <+: opts (plac es) ∧ Jx pre W')) := by
  have HI := Lib.hid hI
  have HX := Lib.hid hBs
  have hcs := hBs.cell (i := 0) rfl
  have hlt := hBs.lt
  have h1 : 1 ≤ n := by omega
  have h3 : 1 ≤ n - 1 - 1 := by omega
  have hml := hI.1
  clear hI hBs
  refine callsIn_of_wp_marks Try.func40 rfl trivial ?_ rfl
  simp only [Try.ntmps40, List.size_toArray, List.length_cons, List.length_nil, Nat.reduceAdd, Nat.reduceSub, Array.replicate_succ, Array.replicate_zero, List.push_toArray, List.append_toArray, List.nil_append, List.cons_append]
  gi_wp2_with (refine ⟨trivial, ?_⟩; gi_at_call 28; refine (events_in _ _ _ _ _).mono ?_; rintro e w' ⟨rfl, rfl⟩)
  obtain ⟨W0, hW0⟩ : ∃ W0, (W.alloc (Obj.cells #[Value.func (Fn.yield l) #[] #[]] 75)).alloc (Obj.cells #[Value.slice A m c] 31) = W0 := ⟨_, rfl⟩
  have hB0 : Below W.heap.size W W0 := by rw [← hW0]; exact ((Below.refl _ W).alloc (Nat.le_refl _) _).alloc (by simp) _
  have hs0 : W0.heap.size = W.heap.size + 2 := by rw [← hW0]; simp
  have y0 : Box W0 W.heap.size 75 #[.func (.yield l) #[] #[]] := by rw [← hW0]; exact (Box.new W _ _).next (balloc _ _)
  have e0 : Box W0 (W.heap.size + 1) 31 #[.slice A m c] := by
    rw [← hW0]
    have := Box.new (W.alloc (Obj.cells #[Value.func (Fn.yield l) #[] #[]] 75)) 31 #[.slice A m c]
    simpa using this
  have hw0 : w₀.heap.size ≤ W.heap.size := hw₀.size
  rw [hW0]
  clear hW0 hcs
  have HY0 := Lib.hid y0
  have HE0 := Lib.hid e0
  clear y0 e0
  refine wpIn_rangeO (F := Fence.wide) rfl (by omega) (gf := 39) (lb := #[.pointer (some ⟨W.heap.size + 1, 0, none⟩)]) rfl trivial (enters_of Try.func39 (by kernel_rfl) rfl)
    (events_seq _ (by omega) w₀ (W.heap.size + 1) W.heap.size (W0.heap.size + 2) A m c es hm W0 HE0.out (by omega) (hw₀.trans (hB0.mono hw0)) HI.out) KeepC.trans (KeepC.put (by omega) rfl) (fun _ => rfl)
    (fun ys W' => (∃ pre : List (OEv es), pre.map (·.1) = opts (ys.map (·.1)) ∧ J pre W') ∧ KeepC w₀.heap.size n₁ n₂ W0 W')
    (fun c ys W' => c = .ret ∧ ∃ pre : List (OEv es), pre.map (·.1) = opts (ys.map (·.1)) ∧ Jx pre W')
    (OwnFrom.and (OwnFrom.ex fun pre => OwnFrom.and (ownFrom_pure _ _) (OwnFrom.at (OwnFrom.imp hJo (by omega)) pre)) (keepC_own (by omega) (by omega) (by omega)))
    (fun c => OwnFrom.and (ownFrom_pure _ _) (OwnFrom.ex fun pre => OwnFrom.and (ownFrom_pure _ _) (OwnFrom.at (OwnFrom.imp hJxo (by omega)) pre)))
    ⟨⟨[], rfl, OwnFrom.below hJo h0 hB0⟩, KeepC.refl _ _ _ _⟩
    (fun x a' W' => ∃ Bx, Box W' Bx 56 x.1.cells ∧ a' = { tmps := #[.func (.yield l) #[] #[], .pointer (some ⟨Bs, 0, none⟩), .pointer (some ⟨W.heap.size, 0, none⟩), .pointer (some ⟨Bx, 0, none⟩), undef, undef, .slice A m c, .func (.func 39) #[] #[.pointer (some ⟨W.heap.size + 1, 0, none⟩)], .agg x.1.cells, undef, undef, undef, undef, undef, undef, undef, undef, undef, undef, undef, undef, undef, undef], defers := [] })
    (fun x a' => OwnFrom.ex fun Bx => OwnFrom.and (box_own _ _ _ _) (ownFrom_pure _ _))
    ?assign ?body ?done ?stop
  case assign =>
    rintro l' pre x W' K ⟨⟨p, hp, hJp⟩, hk⟩ hK
    have hj := OwnFrom.below (OwnFrom.imp hJo (show W.heap.size ≤ W'.heap.size from Nat.le_trans hB0.size hk.1.size)) hJp (balloc W' (.cells x.1.cells 56))
    have HJ := Lib.hid hj
    have HP := Lib.hid hp
    have hw1 : w₀.heap.size ≤ W'.heap.size := Nat.le_trans (Nat.le_trans hw0 hB0.size) hk.1.size
    clear hj hp hJp
    gi_wp2
    exact hK _ _ (keepsFrom_below (balloc _ _)) (KeepC.below (balloc _ _) hw1) ⟨⟨p, HP.out, HJ.out⟩, hk.trans (KeepC.below (balloc _ _) hw1)⟩ ⟨_, Box.new _ _ _, rfl⟩
  case body =>
    rintro l' pre ⟨⟨ev, A', c', al⟩, hmem, hpl⟩ a' W' ⟨⟨p, hp, hJp⟩, hk⟩ ⟨Bx, hbx, rfl⟩ hlen
    have hB1 : Below w₀.heap.size w₀ W' := (hw₀.trans (hB0.mono hw0)).trans hk.1
    obtain ⟨ha, _⟩ := HI.out.2.2 _ hmem
    have HA := Lib.hid (ha.below hB1)
    have hplen : p.length ≤ pre.length := by
      have := congrArg List.length hp
      rw [List.length_map] at this
      rw [this]
      exact Nat.le_trans (List.length_filter_le _ _) (by simp)
    have hw1 : w₀.heap.size ≤ W'.heap.size := hB1.size
    have hW1 : W.heap.size ≤ W'.heap.size := Nat.le_trans hB0.size hk.1.size
    have HJ := Lib.hid hJp
    have HP := Lib.hid hp
    have HB := Lib.hid hbx
    have HKK := Lib.hid hk
    have HY1 : Hid (Box W' W.heap.size 75 #[.func (.yield l) #[] #[]]) := Lib.hid (hk.box (by omega) HY0.out)
    have HJo : Hid (OwnFrom W'.heap.size J) := Lib.hid (OwnFrom.imp hJo hW1)
    -- what an event that is passed over leaves
    have KEY : Hid (∀ w2, Below W'.heap.size W' w2 → EvA.outs ⟨ev, A', c', al⟩ = false → KeepsFrom W0.heap.size W' w2 ∧ KeepC w₀.heap.size W.heap.size (W0.heap.size + 2) W' w2 ∧ ((∃ q : List (OEv es), q.map (·.1) = opts ((pre ++ [(⟨⟨ev, A', c', al⟩, hmem, hpl⟩ : PEv es)]).map (·.1)) ∧ J q w2) ∧ KeepC w₀.heap.size n₁ n₂ W0 w2)) := Lib.hid (fun w2 b2 ho =>
      ⟨keepsFrom_below b2, KeepC.below b2 hw1, ⟨p, by rw [snoc_opts, HP.out]; simp [ho], OwnFrom.below HJo.out HJ.out b2⟩, hk.trans (KeepC.below b2 hw1)⟩)
    obtain ⟨x1, x2, s, f, i, x4⟩ := ev
    have b0 := hbx.cell (i := 0) rfl
    have b1 := hbx.cell (i := 1) rfl
    have b2 := hbx.cell (i := 2) rfl
    have b3 := hbx.cell (i := 3) rfl
    have b4 := hbx.cell (i := 4) rfl
    have b5 := hbx.cell (i := 5) rfl
    have b6 := hbx.cell (i := 6) rfl
    dsimp only at hpl
    clear hp hJp hbx ha hB1 hk
    by_cases hin : Ev.inBad ⟨x1, x2, s, f, i, x4⟩ = true
    · have HO : Hid (optE ⟨x1, x2, s, f, i, x4⟩ A' al.length c' al = .tuple #[.agg #[.int .i64 0, .int .i64 0, .slice none 0 0], .bool false]) := Lib.hid (by simp [optE, hin])
      have HX2 := Lib.hid (show EvA.outs ⟨⟨x1, x2, s, f, i, x4⟩, A', c', al⟩ = false by simp [EvA.outs, hin])
      clear hin
      gi_wp2_with (refine ⟨trivial, ?_⟩; gi_at_call 30; refine (CallsIn.inRound l' (callsIn_wide.2 (opt_any ⟨x1, x2, s, f, i, x4⟩ A' al.length c' al W' hpl HA.out))).mono ?_; rintro e w1 ⟨rfl, bw⟩; rw [HO.out])
      refine ⟨fun _ h => (by cases h), ?_⟩
      gi_wp2
      exact KEY.out _ (bw.alloc bw.size _) HX2.out
    · by_cases hv : validP (s - i) (f + i) al = true
      · have HO : Hid (optE ⟨x1, x2, s, f, i, x4⟩ A' al.length c' al = .tuple #[.agg #[.int .i64 (s - i), .int .i64 (f + i), .slice A' al.length c'], .bool true]) := Lib.hid (by simp [optE, hin, hv])
        have hou : EvA.outs ⟨⟨x1, x2, s, f, i, x4⟩, A', c', al⟩ = true := by simp [EvA.outs, hin, hv]
        have HS : Hid ((p ++ [(⟨⟨⟨x1, x2, s, f, i, x4⟩, A', c', al⟩, hmem, hpl, hou⟩ : OEv es)]).map (·.1) = opts ((pre ++ [(⟨⟨⟨x1, x2, s, f, i, x4⟩, A', c', al⟩, hmem, hpl⟩ : PEv es)]).map (·.1))) := Lib.hid (by
          rw [snoc_opts, List.map_append, HP.out]
          simp [hou])
        have KEY2 : Hid (∀ w1, Below W'.heap.size W' w1 → Box (w1.alloc (.cells #[.int .i64 (s - i), .int .i64 (f + i), .slice A' al.length c'] 24)) W.heap.size 75 #[.func (.yield l) #[] #[]] ∧ Box (w1.alloc (.cells #[.int .i64 (s - i), .int .i64 (f + i), .slice A' al.length c'] 24)) Bx 56 (evCells ⟨x1, x2, s, f, i, x4⟩ A' al.length c') ∧
            Below W'.heap.size W' (w1.alloc (.cells #[.int .i64 (s - i), .int .i64 (f + i), .slice A' al.length c'] 24)) ∧ J p (w1.alloc (.cells #[.int .i64 (s - i), .int .i64 (f + i), .slice A' al.length c'] 24))) := Lib.hid (fun w1 bw =>
          ⟨HY1.out.next (bw.alloc bw.size _), HB.out.next (bw.alloc bw.size _), bw.alloc bw.size _, OwnFrom.below HJo.out HJ.out (bw.alloc bw.size _)⟩)
        clear hin hv
        gi_wp2_with fail
        refine ⟨trivial, (CallsIn.inRound l' (callsIn_wide.2 (opt_any ⟨x1, x2, s, f, i, x4⟩ A' al.length c' al W' hpl HA.out))).mono ?_⟩
        rintro e w1 ⟨rfl, bw⟩
        rw [HO.out]
        obtain ⟨k1, k2, k3, k4⟩ := KEY2.out w1 bw
        have hbl := HB.out.lt
        have hyl := HY1.out.lt
        have hsz := bw.size
        have hne : Bx < w1.heap.size := Nat.lt_of_lt_of_le hbl hsz
        have hne2 : W.heap.size < w1.heap.size := Nat.lt_of_lt_of_le hyl hsz
        clear b0 b1 b2 b3 b4 b5 b6
        have q0 := (HY1.out.next bw).cell (i := 0) rfl
        have b0 := (HB.out.next bw).cell (i := 0) rfl
        have b1 := (HB.out.next bw).cell (i := 1) rfl
        have b2 := (HB.out.next bw).cell (i := 2) rfl
        have b3 := (HB.out.next bw).cell (i := 3) rfl
        have b4 := (HB.out.next bw).cell (i := 4) rfl
        have b5 := (HB.out.next bw).cell (i := 5) rfl
        have b6 := (HB.out.next bw).cell (i := 6) rfl
        obtain ⟨fn, tmps, assign, body, hy, hR⟩ := hY p ⟨⟨⟨x1, x2, s, f, i, x4⟩, A', c', al⟩, hmem, hpl, hou⟩ _ k4 (by omega)
        dsimp only at hy
        have K3 := Lib.hid k3
        clear k1 k2 k3 k4 hbl hyl hsz KEY2
        have KEY3 : Hid (∀ W3, KeepC w₀.heap.size n₁ n₂ (w1.alloc (.cells #[.int .i64 (s - i), .int .i64 (f + i), .slice A' al.length c'] 24)) W3 → KeepsFrom W0.heap.size W' W3 ∧ KeepC w₀.heap.size W.heap.size (W0.heap.size + 2) W' W3 ∧ KeepC w₀.heap.size n₁ n₂ W0 W3) := Lib.hid (fun W3 hk3 =>
          ⟨(keepsFrom_below K3.out).trans (hk3.from (by omega) (by omega)), (KeepC.below K3.out hw1).trans (hk3.mono (by omega) (by omega)), HKK.out.trans ((KeepC.below K3.out hw1).trans hk3)⟩)
        gi_wp2_with fail
        refine (round_any hR).mono ?_
        rintro e W3 (⟨rfl, hJ3, hk3⟩ | ⟨rfl, hJx3, hk3⟩)
        · gi_wp2
          obtain ⟨u1, u2, u3⟩ := KEY3.out W3 hk3
          exact ⟨u1, u2, ⟨_, HS.out, hJ3⟩, u3⟩
        · gi_wp2
          obtain ⟨u1, u2, u3⟩ := KEY3.out W3 hk3
          exact ⟨u1, u2, rfl, _, HS.out, hJx3⟩
      · have HO : Hid (optE ⟨x1, x2, s, f, i, x4⟩ A' al.length c' al = .tuple #[.agg #[.int .i64 (s - i), .int .i64 (f + i), .slice A' al.length c'], .bool false]) := Lib.hid (by simp [optE, hin, hv])
        have HX2 := Lib.hid (show EvA.outs ⟨⟨x1, x2, s, f, i, x4⟩, A', c', al⟩ = false by simp [EvA.outs, hin, hv])
        clear hin hv
        gi_wp2_with (refine ⟨trivial, ?_⟩; gi_at_call 30; refine (CallsIn.inRound l' (callsIn_wide.2 (opt_any ⟨x1, x2, s, f, i, x4⟩ A' al.length c' al W' hpl HA.out))).mono ?_; rintro e w1 ⟨rfl, bw⟩; rw [HO.out])
        refine ⟨fun _ h => (by cases h), ?_⟩
        gi_wp2
        exact KEY.out _ (bw.alloc bw.size _) HX2.out
  case done =>
    rintro D ys W' hD hys ⟨⟨p, hp, hJp⟩, hk⟩ hK
    gi_wp2
    refine ⟨by simp, .inl ⟨_, _, rfl, run_takeDeferred hK, ?_⟩⟩
    exact ⟨_, results_none rfl _ _ _, ⟨_, rfl⟩, .inl ⟨p, by rw [hp, hys], OwnFrom.putObj (OwnFrom.imp hJo hB0.size) _ hJp hD hK rfl⟩⟩
  case stop =>
    rintro D c ys W' hD hys ⟨rfl, p, hp, hJp⟩ hK
    gi_wp2
    refine ⟨by simp, .inl ⟨_, _, rfl, run_takeDeferred hK, ?_⟩⟩
    exact ⟨_, results_none rfl _ _ _, ⟨_, rfl⟩, .inr ⟨p, by rw [hp]; exact opts_pre hys, OwnFrom.putObj (OwnFrom.imp hJxo hB0.size) _ hJp hD hK rfl⟩⟩

theorem opts_seq (n : Nat) (hn : 8 ≤ n) (w₀ : World) (Bs n₁ n₂ : Nat) (A : Option Addr) (m c : Nat) (es : List EvA) (hm : m ≤ 9223372036854775807) (w : World)
    (hBs : Box w Bs 31 #[.slice A m c]) (hBn : n₁ ≤ Bs) (hn₂ : n₂ = w.heap.size + 2) (hw₀ : Below w₀.heap.size w₀ w) (hI : IsEvs w₀ A m es) :
    SeqO Fence.wide n Try.prog 40 #[.pointer (some ⟨Bs, 0, none⟩)] (fun x : OEv es => #[oevV x.1]) (KeepC w₀.heap.size n₁ n₂) (fun ys => ys.map (·.1) = opts (plac es)) (fun pre => pre.map (·.1) <+: opts (plac es)) m w := fun l J Jx W hW hW2 hJ hJx hY h0 =>
  opts1_in n hn w₀ l Bs n₁ n₂ A m c es hm J Jx W hJ hJx hY (hBs.next hW) hBn (by omega) (hw₀.trans (hW.mono hw₀.size)) hI h0
end Go.Proofs.Ytfpnjlfcnfjkdaa
