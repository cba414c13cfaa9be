/- Contract of optout's Next. -/
import Derived.Test.YtfpnjlfcnfjkdaaOptK
import Derived.Laws.EntriesVeiled
namespace Go.Proofs.Ytfpnjlfcnfjkdaa
open Go.ChangeShapes Go.WideShapes Go.ChangeAt Go.RowKit Go.Shelf
set_option linter.unusedVariables false
attribute [local go_sem] Oper.semAt_some

/-! ### Plain -/
def EvA.takes (fr : Int) (e : EvA) : Bool := e.ev.inn == 0 && e.ev.follows fr
def offerP (b : Option EvA) (e : EvA) : Option EvA :=
  match b with
  | none => some e
  | some d => if e.ev.start - e.ev.inn < d.ev.start - d.ev.inn then some e else some d
/-- The event that is announced. -/
def annP (fr : Int) (l : List EvA) : Option EvA := (l.filter (EvA.takes fr)).foldl offerP none
def nextE (fr : Int) (es : List EvA) : Option EvA :=
  match (plac es).find? fun e => e.ev.runs fr with
  | some e => if e.outs = true then some e else annP fr (opts (plac es))
  | none => annP fr (opts (plac es))
def outP : Option EvA → POpt
  | none => .zero
  | some e => ⟨e.ev.start - e.ev.inn, e.ev.frames + e.ev.inn, e.al⟩
abbrev nextP (fr : Int) (es : List EvA) : POpt := outP (nextE fr es)
theorem annP_mem {fr : Int} {l : List EvA} {e : EvA} (h : annP fr l = some e) : e ∈ l := by
  have key : ∀ (l : List EvA) (b : Option EvA) (e : EvA), l.foldl offerP b = some e → b = some e ∨ e ∈ l := by
    intro l
    induction l with
    | nil => intro b e h; exact .inl h
    | cons a l ih =>
      intro b e h
      rcases ih _ _ h with h | h
      · cases b with
        | none => simp only [offerP, Option.some.injEq] at h; subst h; exact .inr (List.mem_cons_self ..)
        | some d =>
          simp only [offerP] at h
          split at h
          · cases h; exact .inr (List.mem_cons_self ..)
          · exact .inl h
      · exact .inr (List.mem_cons_of_mem _ h)
  rcases key _ _ _ h with h | h
  · cases h
  · exact (List.mem_filter.1 h).1
abbrev nextC (b : Option EvA) : Array Value :=
  match b with
  | none => optC 0 0 none 0 0
  | some e => optC (e.ev.start - e.ev.inn) (e.ev.frames + e.ev.inn) e.A e.al.length e.c

theorem annP_snoc (fr : Int) (l : List EvA) (e : EvA) : annP fr (l ++ [e]) = if e.takes fr = true then offerP (annP fr l) e else annP fr l := by
  unfold annP
  rw [List.filter_append, List.foldl_append]
  by_cases h : e.takes fr = true <;> simp [h]
theorem find_pre {α : Type} {p : α → Bool} {l pre : List α} {x : α} (h : pre ++ [x] <+: l) (h1 : ∀ y ∈ pre, p y = false) (h2 : p x = true) : l.find? p = some x := by
  obtain ⟨r, rfl⟩ := h
  rw [List.append_assoc, List.find?_append, List.find?_eq_none.2 (by simpa using h1)]
  simp [h2]

/-- The result of Next stands in its variable, in memory of its own. -/
def NextRes (b : Nat) (o : POpt) (W : World) : Prop := ∃ B c, (Box W b 24 (optC o.s o.f B o.al.length c) ∧ Rd W 2 B o.al.length (pairs o.al)) ∧ o.al.length ≤ c ∧ c ≤ maxLen ∧ (B = none → c = 0) ∧ (∀ b' off, B = some ⟨b', off, none⟩ → b < b')
theorem nextRes_own {β : Type} (B b : Nat) (o : POpt) : OwnFrom B (fun (_ : β) W => NextRes b o W) :=
  OwnFrom.ex fun X => OwnFrom.ex fun c => OwnFrom.and (OwnFrom.and (box_own _ _ _ _) (rd_own _ _ _ _ _)) (ownFrom_pure _ _)
theorem Rd.set {w : World} {size : Nat} {A : Option Addr} {n : Nat} {xs : List Value} (h : Rd w size A n xs) {b i : Nat} (v : Value) (hb : ∀ b' off, A = some ⟨b', off, none⟩ → b < b') : Rd (w.setCell ⟨b, i, none⟩ v) size A n xs := by
  obtain ⟨h1, h2⟩ := h
  refine ⟨h1, ?_⟩
  rcases h2 with h2 | ⟨b', off, rfl, hlt, hc⟩
  · exact .inl h2
  · have hne := hb b' off rfl
    refine .inr ⟨b', off, rfl, by simpa [World.setCell] using hlt, fun j hj => ?_⟩
    rw [← hc j hj]
    exact World.cell?_of_block (Below.heap_setCell w ⟨b, i, none⟩ v b' (by show b' ≠ b; omega))
/-- What own has returned is stored in the result. -/
theorem nextRes_store {w w3 : World} {b : Nat} {o : POpt} {vs : Array Value} {B : Option Addr} {c : Nat} (hx : Box w3 b 24 vs) (hv : vs.size = 3) (hb : b < w.heap.size) (h1 : IsAlts w3 B o.al.length o.al) (h2 : o.al.length ≤ c) (h3 : c ≤ maxLen) (h4 : B = none → c = 0) (h5 : ∀ b' off, B = some ⟨b', off, none⟩ → w.heap.size ≤ b') :
    NextRes b o (((w3.setCell ⟨b, 0, none⟩ (.int .i64 o.s)).setCell ⟨b, 1, none⟩ (.int .i64 o.f)).setCell ⟨b, 2, none⟩ (.slice B o.al.length c)) := by
  have h6 : ∀ b' off, B = some ⟨b', off, none⟩ → b < b' := fun b' off e => Nat.lt_of_lt_of_le hb (h5 b' off e)
  refine ⟨B, c, ⟨?_, ((h1.2.set _ h6).set _ h6).set _ h6⟩, h2, h3, h4, h6⟩
  obtain ⟨l⟩ := vs
  match l, hv with
  | [v0, v1, v2], _ =>
    have := ((hx.set (i := 0) (.int .i64 o.s)).set (i := 1) (.int .i64 o.f)).set (i := 2) (.slice B o.al.length c)
    simpa using this
theorem nextC_facts {fr : Int} {es : List EvA} {w : World} {A : Option Addr} {m : Nat} (hI : IsEvs w A m es) {b : Option EvA} (hb : ∀ e, b = some e → e ∈ es ∧ e.outs = true) :
    ∃ s f B c al, nextC b = optC s f B al.length c ∧ outP b = ⟨s, f, al⟩ ∧ IsAlts w B al.length al ∧ al.length ≤ 7 ∧ (B = none → al.length = 0 ∧ c = 0) := by
  cases b with
  | none => exact ⟨0, 0, none, 0, [], rfl, rfl, IsAlts.nil _ _, by simp, fun _ => ⟨rfl, rfl⟩⟩
  | some e =>
    obtain ⟨h1, h2⟩ := hb e rfl
    obtain ⟨k1, k2, k3, k4, _⟩ := hI.2.2 e h1
    have hv : validP (e.ev.start - e.ev.inn) (e.ev.frames + e.ev.inn) e.al = true := by
      simp only [EvA.outs, Bool.and_eq_true] at h2
      exact h2.2
    exact ⟨_, _, e.A, e.c, e.al, rfl, rfl, k1, (valid_facts hv).2.2.1, fun h => by have := k4 h; exact ⟨by omega, this⟩⟩
theorem opts_mem {fr : Int} {es : List EvA} {e : EvA} (h : annP fr (opts (plac es)) = some e) : e ∈ es ∧ e.outs = true := by
  have h1 := annP_mem h
  simp only [opts, plac, List.mem_filter] at h1
  exact ⟨h1.1.1, h1.2⟩

theorem next_results {w Wf : World} {o : POpt} {tmps : Array Value} (hp : tmps.getD 4 undef = .pointer (some ⟨w.heap.size + 1, 0, none⟩)) (h : NextRes (w.heap.size + 1) o Wf) (hb : Below w.heap.size w Wf) :
    ∃ v, (results Try.f18 tmps).run Try.prog Wf = .ok v Wf ∧ RetOpt o.s o.f o.al w (.returned v) Wf := by
  obtain ⟨B, c, ⟨hx, hrd⟩, h2, h3, h4, h5⟩ := h
  refine ⟨optV o.s o.f B o.al.length c, ?_, B, c, rfl, ⟨rfl, hrd⟩, h2, h3, h4, hb, fun b off e => ?_⟩
  · have c0 := hx.cell (i := 0) rfl
    have c1 := hx.cell (i := 1) rfl
    have c2 := hx.cell (i := 2) rfl
    rw [Array.getD_eq_getD_getElem?] at hp
    simp [results, Try.results18, hp, go_sem, c0, c1, c2]
  · have := h5 b off e
    omega
theorem next_end {w W : World} {o : POpt} {D : Nat} (hD : w.heap.size ≤ D) (hK : W.heap[D]? = some (.deferred (some []))) (h : NextRes (w.heap.size + 1) o W) (hb : Below w.heap.size w W) : NextRes (w.heap.size + 1) o (W.putObj D (.deferred none)) ∧ Below w.heap.size w (W.putObj D (.deferred none)) :=
  ⟨OwnFrom.putObj (nextRes_own (β := Unit) w.heap.size _ _) (s := ()) _ h hD hK rfl, OwnFrom.putObj (ownFrom_below (β := Unit) (Nat.le_refl _) (Nat.le_refl _)) (s := ()) _ hb hD hK rfl⟩


set_option maxRecDepth 100000 in
set_option maxHeartbeats 8000000 in
theorem next_any (A : Option Addr) (m c : Nat) (fr : Int) (es : List EvA) (w : World) (hI : IsEvs w A m es) (hm : m ≤ 9223372036854775807) :
    Calls Try.prog 18 #[.slice A m c, .int .i64 fr] w (RetOpt (nextP fr es).s (nextP fr es).f (nextP fr es).al w) := by
  have HI := Lib.hid hI
  have hml := hI.1
  clear hI
  refine (callsIn_wide (n := 20)).1 ?_
  refine callsIn_of_wp_marks Try.func18 rfl trivial ?_ rfl
  simp only [Try.ntmps18, List.size_toArray, List.length_cons, List.length_nil, Nat.reduceAdd, Nat.reduceSub, Array.replicate_succ, Array.replicate_zero, List.push_toArray, List.append_toArray, List.nil_append, List.cons_append]
  gi_wp2
  refine wpIn_scope ?_
  refine wpIn_seq (wpIn_label ?_)
  gi_wp2_with (refine ⟨trivial, ?_⟩; gi_at_call 28; refine (events_in _ _ _ _ _).mono ?_; rintro e w' ⟨rfl, rfl⟩)
  obtain ⟨W0, hW0⟩ : ∃ W0, ((w.alloc (Obj.cells #[.int .i64 fr] 3)).alloc (Obj.cells #[.int .i64 0, .int .i64 0, .slice none 0 0] 24)).alloc (Obj.cells #[Value.slice A m c] 31) = W0 := ⟨_, rfl⟩
  have hB0 : Below w.heap.size w W0 := by rw [← hW0]; exact (((Below.refl _ w).alloc (Nat.le_refl _) _).alloc (by simp) _).alloc (by simp; omega) _
  have hs0 : W0.heap.size = w.heap.size + 3 := by rw [← hW0]; simp
  have f0 : Box W0 w.heap.size 3 #[.int .i64 fr] := by rw [← hW0]; exact ((Box.new w _ _).next (balloc _ _)).next (balloc _ _)
  have r0 : Box W0 (w.heap.size + 1) 24 zero3 := by
    rw [← hW0]
    have := (Box.new (w.alloc (Obj.cells #[.int .i64 fr] 3)) 24 zero3).next (balloc _ (Obj.cells #[Value.slice A m c] 31))
    simpa using this
  have e0 : Box W0 (w.heap.size + 1 + 1) 31 #[.slice A m c] := by
    rw [← hW0]
    have := Box.new ((w.alloc (Obj.cells #[.int .i64 fr] 3)).alloc (Obj.cells #[.int .i64 0, .int .i64 0, .slice none 0 0] 24)) 31 #[.slice A m c]
    simpa using this
  rw [hW0]
  clear hW0
  have HF0 := Lib.hid f0
  have HR0 := Lib.hid r0
  have HE0 := Lib.hid e0
  clear f0 r0 e0
  refine wpIn_rangeO (F := Fence.wide) rfl (by omega) (gf := 39) (lb := #[.pointer (some ⟨w.heap.size + 1 + 1, 0, none⟩)]) rfl trivial (enters_of Try.func39 (by kernel_rfl) rfl)
    (events_seq _ (by omega) w (w.heap.size + 1 + 1) (w.heap.size + 1 + 1) (W0.heap.size + 2) A m c es hm W0 HE0.out (by omega) hB0 HI.out) KeepC.trans (KeepC.put (by omega) rfl) (fun _ => rfl)
    (fun ys W' => (∀ x ∈ ys, x.1.ev.runs fr = false) ∧ (Box W' w.heap.size 3 #[.int .i64 fr] ∧ Box W' (w.heap.size + 1) 24 zero3) ∧ Below w.heap.size w W')
    (fun k ys W' => ((∃ pre x, (ys = pre ++ [x] ∧ (∀ y ∈ pre, y.1.ev.runs fr = false) ∧ x.1.ev.runs fr = true) ∧
        (if x.1.outs = true then k = .ret ∧ NextRes (w.heap.size + 1) (outP (some x.1)) W' else k = .exit 0 ∧ Box W' w.heap.size 3 #[.int .i64 fr] ∧ Box W' (w.heap.size + 1) 24 zero3)) ∧ Below w.heap.size w W'))
    (OwnFrom.and (ownFrom_pure _ _) (OwnFrom.and (OwnFrom.and (box_own _ _ _ (fun _ => _)) (box_own _ _ _ (fun _ => _))) (ownFrom_below (Nat.le_refl _) (by omega))))
    (fun k => OwnFrom.and (OwnFrom.ex fun pre => OwnFrom.ex fun x => OwnFrom.and (ownFrom_pure _ _) (by
      by_cases hx : x.1.outs = true
      · simp only [hx, if_true]; exact OwnFrom.and (ownFrom_pure _ _) (nextRes_own _ _ _)
      · simp only [hx]; exact OwnFrom.and (ownFrom_pure _ _) (OwnFrom.and (box_own _ _ _ (fun _ => _)) (box_own _ _ _ (fun _ => _))))) (ownFrom_below (Nat.le_refl _) (by omega)))
    ⟨by simp, ⟨HF0.out, HR0.out⟩, hB0⟩
    (fun x a' W' => ∃ Bx, (Box W' Bx 56 x.1.cells) ∧ a' = { tmps := #[.slice A m c, .int .i64 fr, undef, .pointer (some ⟨w.heap.size, 0, none⟩), .pointer (some ⟨w.heap.size + 1, 0, none⟩), .pointer (some ⟨Bx, 0, none⟩), undef, undef, undef, undef, undef, undef, .slice A m c, .func (.func 39) #[] #[.pointer (some ⟨w.heap.size + 1 + 1, 0, none⟩)], evV x.1.ev x.1.A x.1.al.length x.1.c, undef, undef, undef, undef, undef, undef, undef, undef, undef, undef, undef, undef, undef, undef, undef, undef, undef, undef, undef, undef, undef, undef, undef, undef, undef, undef, undef, undef, undef, undef, undef, undef, undef], defers := [] })
    (fun x a' => OwnFrom.ex fun Bx => OwnFrom.and (box_own _ _ _ (fun _ => _)) (ownFrom_pure _ _))
    ?assign ?body ?done ?stop
  case assign =>
    rintro l' pre x W' K ⟨h1, ⟨t1, t2⟩, tB⟩ hK
    have T1 := Lib.hid t1
    have T2 := Lib.hid t2
    have H1 := Lib.hid h1
    clear t1 t2 h1
    gi_wp2
    exact hK _ _ (keepsFrom_below (balloc _ _)) (KeepC.below (balloc _ _) tB.size) ⟨H1.out, ⟨T1.out.next (balloc _ _), T2.out.next (balloc _ _)⟩, tB.alloc tB.size _⟩ ⟨W'.heap.size, Box.new _ _ _, rfl⟩
  case body =>
    rintro l' pre ⟨⟨ev, A', c', al⟩, hmem, hpl⟩ a' W' ⟨h1, ⟨t1, t2⟩, tB⟩ ⟨Bx, hbx, rfl⟩ hlen
    obtain ⟨ha, hb1, hb2, hb3, _⟩ := HI.out.2.2 _ hmem
    obtain ⟨x1, x2, s, f, i, x4⟩ := ev
    have b0 := hbx.cell (i := 0) rfl
    have b1 := hbx.cell (i := 1) rfl
    have b2 := hbx.cell (i := 2) rfl
    have b3 := hbx.cell (i := 3) rfl
    have b4 := hbx.cell (i := 4) rfl
    have b5 := hbx.cell (i := 5) rfl
    have b6 := hbx.cell (i := 6) rfl
    have f0 := t1.cell (i := 0) rfl
    have HA := Lib.hid (ha.below tB)
    have HB := Lib.hid hbx
    have T1 := Lib.hid t1
    have T2 := Lib.hid t2
    have H1 := Lib.hid h1
    dsimp only at hpl
    clear ha hbx t1 t2 h1
    by_cases hr : Ev.runs ⟨x1, x2, s, f, i, x4⟩ fr = true
    · have HR := Lib.hid hr
      have KEY : Hid (∀ w2, Below W'.heap.size W' w2 → EvA.outs ⟨⟨x1, x2, s, f, i, x4⟩, A', c', al⟩ = false → ∀ k : Code, k = .exit 0 → KeepsFrom W0.heap.size W' w2 ∧ KeepC w.heap.size (w.heap.size + 1 + 1) (W0.heap.size + 2) W' w2 ∧ ((∃ pre' x, ((pre ++ [(⟨⟨⟨x1, x2, s, f, i, x4⟩, A', c', al⟩, hmem, hpl⟩ : PEv es)]) = pre' ++ [x] ∧ (∀ y ∈ pre', y.1.ev.runs fr = false) ∧ x.1.ev.runs fr = true) ∧
        (if x.1.outs = true then k = .ret ∧ NextRes (w.heap.size + 1) (outP (some x.1)) w2 else k = .exit 0 ∧ Box w2 w.heap.size 3 #[.int .i64 fr] ∧ Box w2 (w.heap.size + 1) 24 zero3)) ∧ Below w.heap.size w w2)) := Lib.hid (fun w2 b2 ho k hk =>
        ⟨keepsFrom_below b2, KeepC.below b2 tB.size, ⟨pre, _, ⟨rfl, H1.out, HR.out⟩, by rw [if_neg (by rw [ho]; simp)]; exact ⟨hk, T1.out.next b2, T2.out.next b2⟩⟩, bnext tB b2⟩)
      have KEY2 : Hid (∀ w1, Below W'.heap.size W' w1 → Box w1 Bx 56 (evCells ⟨x1, x2, s, f, i, x4⟩ A' al.length c') ∧ IsAlts w1 A' al.length al) := Lib.hid (fun w1 b1 => ⟨HB.out.next b1, HA.out.below b1⟩)
      by_cases hin : Ev.inBad ⟨x1, x2, s, f, i, x4⟩ = true
      · have HO : Hid (optE ⟨x1, x2, s, f, i, x4⟩ A' al.length c' al = .tuple #[.agg #[.int .i64 0, .int .i64 0, .slice none 0 0], .bool false]) := Lib.hid (by simp [optE, hin])
        have HX2 := Lib.hid (show EvA.outs ⟨⟨x1, x2, s, f, i, x4⟩, A', c', al⟩ = false by simp [EvA.outs, hin])
        clear hin
        gi_wp2_with fail
        refine ⟨trivial, (CallsIn.inRound l' (callsIn_wide.2 (runs_any ⟨x1, x2, s, f, i, x4⟩ A' al.length c' fr _ hpl))).mono ?_⟩
        rintro e w1 ⟨rfl, bw⟩
        rw [HR.out]
        obtain ⟨g1, g2⟩ := KEY2.out w1 bw
        clear b0 b1 b2 b3 b4 b5 b6 f0
        have b0 := g1.cell (i := 0) rfl
        have b1 := g1.cell (i := 1) rfl
        have b2 := g1.cell (i := 2) rfl
        have b3 := g1.cell (i := 3) rfl
        have b4 := g1.cell (i := 4) rfl
        have b5 := g1.cell (i := 5) rfl
        have b6 := g1.cell (i := 6) rfl
        have G2 := Lib.hid g2
        clear g1 g2
        gi_wp2_with fail
        refine ⟨trivial, (CallsIn.inRound l' (callsIn_wide.2 (opt_any ⟨x1, x2, s, f, i, x4⟩ A' al.length c' al w1 hpl G2.out))).mono ?_⟩
        rintro e w2 ⟨rfl, bw2⟩
        rw [HO.out]
        have b5' := bnext bw bw2
        clear b0 b1 b2 b3 b4 b5 b6
        gi_wp2_with fail
        exact KEY.out _ (b5'.alloc b5'.size _) HX2.out _ rfl
      · by_cases hv : validP (s - i) (f + i) al = true
        · have HO : Hid (optE ⟨x1, x2, s, f, i, x4⟩ A' al.length c' al = .tuple #[.agg #[.int .i64 (s - i), .int .i64 (f + i), .slice A' al.length c'], .bool true]) := Lib.hid (by simp [optE, hin, hv])
          have hou : EvA.outs ⟨⟨x1, x2, s, f, i, x4⟩, A', c', al⟩ = true := by simp [EvA.outs, hin, hv]
          have HOU := Lib.hid hou
          have h7 := (valid_facts hv).2.2.1
          have HNO : Hid (A' = none → al.length = 0 ∧ c' = 0) := Lib.hid (fun e => by have h0 := hb3 e; have h00 : al.length ≤ c' := hb1; have h000 : c' = 0 := h0; exact ⟨by omega, h0⟩)
          clear hin hv hou
          gi_wp2_with fail
          refine ⟨trivial, (CallsIn.inRound l' (callsIn_wide.2 (runs_any ⟨x1, x2, s, f, i, x4⟩ A' al.length c' fr _ hpl))).mono ?_⟩
          rintro e w1 ⟨rfl, bw⟩
          rw [HR.out]
          obtain ⟨g1, g2⟩ := KEY2.out w1 bw
          clear b0 b1 b2 b3 b4 b5 b6 f0
          have b0 := g1.cell (i := 0) rfl
          have b1 := g1.cell (i := 1) rfl
          have b2 := g1.cell (i := 2) rfl
          have b3 := g1.cell (i := 3) rfl
          have b4 := g1.cell (i := 4) rfl
          have b5 := g1.cell (i := 5) rfl
          have b6 := g1.cell (i := 6) rfl
          have G2 := Lib.hid g2
          clear g1 g2
          gi_wp2_with fail
          refine ⟨trivial, (CallsIn.inRound l' (callsIn_wide.2 (opt_any ⟨x1, x2, s, f, i, x4⟩ A' al.length c' al w1 hpl G2.out))).mono ?_⟩
          rintro e w2 ⟨rfl, bw2⟩
          rw [HO.out]
          have b5' := bnext bw bw2
          clear b0 b1 b2 b3 b4 b5 b6
          have HA2 := Lib.hid (KEY2.out _ b5').2
          have b6' := Lib.hid (b5'.alloc b5'.size (.cells #[.int .i64 (s - i), .int .i64 (f + i), .slice A' al.length c'] 24))
          have HA3 := Lib.hid (HA2.out.below (balloc w2 (.cells #[.int .i64 (s - i), .int .i64 (f + i), .slice A' al.length c'] 24)))
          gi_wp2_with fail
          refine ⟨trivial, (CallsIn.inRound l' (callsIn_wide.2 (own_any (s - i) (f + i) A' al.length c' al _ HA3.out h7 HNO.out))).mono ?_⟩
          rintro e w5 ⟨B5, c5, rfl, o1, o2, o3, o4, o5, o6⟩
          have o7 := bnext b6'.out o5
          have T6 := T2.out.next o7
          have z0 := T6.cell (i := 0) rfl
          have z1 := T6.cell (i := 1) rfl
          have z2 := T6.cell (i := 2) rfl
          have y0 := T6.frozen 0
          have y1 := T6.frozen 1
          have y2 := T6.frozen 2
          have hlt : w.heap.size + 1 < (w2.alloc (.cells #[.int .i64 (s - i), .int .i64 (f + i), .slice A' al.length c'] 24)).heap.size := Nat.lt_of_lt_of_le T2.out.lt b6'.out.size
          have HRS := Lib.hid (nextRes_store (o := ⟨s - i, f + i, al⟩) T6 rfl hlt o1 o2 o3 o4 o6)
          have HBB := Lib.hid (((((bnext tB o7).setCell (p := ⟨w.heap.size + 1, 0, none⟩) (by simp) (.int .i64 (s - i))).setCell (p := ⟨w.heap.size + 1, 1, none⟩) (by simp) (.int .i64 (f + i))).setCell (p := ⟨w.heap.size + 1, 2, none⟩) (by simp) (.slice B5 al.length c5)))
          have O7 := Lib.hid o7
          clear T6 o1 o2 o3 o4 o5 o6 o7 KEY KEY2
          gi_wp2_with fail
          refine ⟨?_, ?_, ⟨pre, _, ⟨rfl, H1.out, HR.out⟩, ?_⟩, HBB.out⟩
          · exact (keepsFrom_below O7.out).trans ((((KeepsOthers.setCell _ _ _).trans (KeepsOthers.setCell _ _ _)).trans (KeepsOthers.setCell _ _ _)).from _)
          · exact (((KeepC.below O7.out tB.size).trans (KeepC.set _ _ (by omega) (by omega))).trans (KeepC.set _ _ (by omega) (by omega))).trans (KeepC.set _ _ (by omega) (by omega))
          · rw [if_pos HOU.out]
            exact ⟨rfl, HRS.out⟩
        · have HO : Hid (optE ⟨x1, x2, s, f, i, x4⟩ A' al.length c' al = .tuple #[.agg #[.int .i64 (s - i), .int .i64 (f + i), .slice A' al.length c'], .bool false]) := Lib.hid (by simp [optE, hin, hv])
          have HX2 := Lib.hid (show EvA.outs ⟨⟨x1, x2, s, f, i, x4⟩, A', c', al⟩ = false by simp [EvA.outs, hin, hv])
          clear hin hv
          gi_wp2_with fail
          refine ⟨trivial, (CallsIn.inRound l' (callsIn_wide.2 (runs_any ⟨x1, x2, s, f, i, x4⟩ A' al.length c' fr _ hpl))).mono ?_⟩
          rintro e w1 ⟨rfl, bw⟩
          rw [HR.out]
          obtain ⟨g1, g2⟩ := KEY2.out w1 bw
          clear b0 b1 b2 b3 b4 b5 b6 f0
          have b0 := g1.cell (i := 0) rfl
          have b1 := g1.cell (i := 1) rfl
          have b2 := g1.cell (i := 2) rfl
          have b3 := g1.cell (i := 3) rfl
          have b4 := g1.cell (i := 4) rfl
          have b5 := g1.cell (i := 5) rfl
          have b6 := g1.cell (i := 6) rfl
          have G2 := Lib.hid g2
          clear g1 g2
          gi_wp2_with fail
          refine ⟨trivial, (CallsIn.inRound l' (callsIn_wide.2 (opt_any ⟨x1, x2, s, f, i, x4⟩ A' al.length c' al w1 hpl G2.out))).mono ?_⟩
          rintro e w2 ⟨rfl, bw2⟩
          rw [HO.out]
          have b5' := bnext bw bw2
          clear b0 b1 b2 b3 b4 b5 b6
          gi_wp2_with fail
          exact KEY.out _ (b5'.alloc b5'.size _) HX2.out _ rfl
    · have hr' : Ev.runs ⟨x1, x2, s, f, i, x4⟩ fr = false := by simpa using hr
      have HR := Lib.hid hr'
      clear hr
      gi_wp2_with (refine ⟨trivial, ?_⟩; gi_at_call 29; refine (CallsIn.inRound l' (callsIn_wide.2 (runs_any ⟨x1, x2, s, f, i, x4⟩ A' al.length c' fr _ hpl))).mono ?_; rintro e w1 ⟨rfl, bw⟩; rw [HR.out])
      refine ⟨keepsFrom_below bw, KeepC.below bw tB.size, ?_, ⟨T1.out.next bw, T2.out.next bw⟩, bnext tB bw⟩
      intro y hy
      rcases List.mem_append.1 hy with hy | hy
      · exact H1.out y hy
      · simp only [List.mem_cons, List.not_mem_nil, or_false] at hy
        subst hy
        exact HR.out
  case done =>
    rintro D ys W' hD hys ⟨h1, h2, h3⟩ hK
    have HN : Hid (nextE fr es = annP fr (opts (plac es))) := Lib.hid (by
      unfold nextE
      rw [← hys, List.find?_eq_none.2 (by simpa using h1)])
    clear h1 hys
    have hBW : w.heap.size + 3 ≤ W'.heap.size := by have := (Array.getElem?_eq_some_iff.1 hK).1; have := h3.size; omega
    have HF1 := Lib.hid h2.1
    have HR1 := Lib.hid h2.2
    have HK1 := Lib.hid hK
    have hDW : D < W'.heap.size := (Array.getElem?_eq_some_iff.1 hK).1
    clear h2 hK
    gi_wp2_with (refine ⟨trivial, ?_⟩; gi_at_call 33; refine (opts_in _ _ _ _ _).mono ?_; rintro e w' ⟨rfl, rfl⟩)
    obtain ⟨W1, hW1⟩ : ∃ W1, (((W'.alloc (Obj.cells #[.int .i64 0, .int .i64 0, .slice none 0 0] 24)).alloc (Obj.cells #[.bool false] 4)).alloc (Obj.cells #[.func (.func 32) #[] #[.pointer (some ⟨W'.heap.size + 1, 0, none⟩), .pointer (some ⟨W'.heap.size, 0, none⟩)]] 61)).alloc (Obj.cells #[Value.slice A m c] 31) = W1 := ⟨_, rfl⟩
    have hB1 : Below W'.heap.size W' W1 := by rw [← hW1]; exact ((((Below.refl _ W').alloc (Nat.le_refl _) _).alloc (by simp) _).alloc (by simp; omega) _).alloc (by simp; omega) _
    have hs1 : W1.heap.size = W'.heap.size + 4 := by rw [← hW1]; simp
    have n0 : Box W1 W'.heap.size 24 (optC 0 0 none 0 0) := by rw [← hW1]; exact (((Box.new W' _ _).next (balloc _ _)).next (balloc _ _)).next (balloc _ _)
    have g0 : Box W1 (W'.heap.size + 1) 4 #[.bool false] := by
      rw [← hW1]
      have := ((Box.new (W'.alloc (Obj.cells #[.int .i64 0, .int .i64 0, .slice none 0 0] 24)) 4 #[.bool false]).next (balloc _ (Obj.cells #[.func (.func 32) #[] #[.pointer (some ⟨W'.heap.size + 1, 0, none⟩), .pointer (some ⟨W'.heap.size, 0, none⟩)]] 61))).next (balloc _ (Obj.cells #[Value.slice A m c] 31))
      simpa using this
    have o0 : Box W1 (W'.heap.size + 1 + 1) 61 #[.func (.func 32) #[] #[.pointer (some ⟨W'.heap.size + 1, 0, none⟩), .pointer (some ⟨W'.heap.size, 0, none⟩)]] := by
      rw [← hW1]
      have := (Box.new ((W'.alloc (Obj.cells #[.int .i64 0, .int .i64 0, .slice none 0 0] 24)).alloc (Obj.cells #[.bool false] 4)) 61 #[.func (.func 32) #[] #[.pointer (some ⟨W'.heap.size + 1, 0, none⟩), .pointer (some ⟨W'.heap.size, 0, none⟩)]]).next (balloc _ (Obj.cells #[Value.slice A m c] 31))
      simpa using this
    have e1 : Box W1 (W'.heap.size + 1 + 1 + 1) 31 #[.slice A m c] := by
      rw [← hW1]
      have := Box.new (((W'.alloc (Obj.cells #[.int .i64 0, .int .i64 0, .slice none 0 0] 24)).alloc (Obj.cells #[.bool false] 4)).alloc (Obj.cells #[.func (.func 32) #[] #[.pointer (some ⟨W'.heap.size + 1, 0, none⟩), .pointer (some ⟨W'.heap.size, 0, none⟩)]] 61)) 31 #[.slice A m c]
      simpa using this
    have k1 : W1.heap[D]? = some (.deferred (some [])) := (hB1.block D hDW).trans HK1.out
    have hBw : Below w.heap.size w W1 := h3.trans (hB1.mono h3.size)
    rw [hW1]
    clear hW1
    have HN0 := Lib.hid n0
    have HG0 := Lib.hid g0
    have HO0 := Lib.hid o0
    have HE1 := Lib.hid e1
    have HKD := Lib.hid k1
    have HF2 := Lib.hid (HF1.out.next hB1)
    have HR2 := Lib.hid (HR1.out.next hB1)
    clear n0 g0 o0 e1 k1
    refine wpIn_rangeO (F := Fence.wide) rfl (by omega) (gf := 40) (lb := #[.pointer (some ⟨W'.heap.size + 1 + 1 + 1, 0, none⟩)]) rfl trivial (enters_of Try.func40 (by kernel_rfl) rfl)
      (opts_seq _ (by omega) w (W'.heap.size + 1 + 1 + 1) (W'.heap.size + 1 + 1 + 1) (W1.heap.size + 2) A m c es hm W1 HE1.out (by omega) rfl hBw HI.out) KeepC.trans (KeepC.put (by omega) rfl) (fun _ => rfl)
      (fun ys W'' => ((Box W'' W'.heap.size 24 (nextC (annP fr (ys.map (·.1)))) ∧ Box W'' (W'.heap.size + 1) 4 #[.bool (annP fr (ys.map (·.1))).isSome]) ∧ (Box W'' (W'.heap.size + 1 + 1) 61 #[.func (.func 32) #[] #[.pointer (some ⟨W'.heap.size + 1, 0, none⟩), .pointer (some ⟨W'.heap.size, 0, none⟩)]] ∧ Box W'' w.heap.size 3 #[.int .i64 fr] ∧ Box W'' (w.heap.size + 1) 24 zero3)) ∧ Below w.heap.size w W'' ∧ W''.heap[D]? = some (.deferred (some [])))
      (fun _ _ _ => False)
      (OwnFrom.and (OwnFrom.and (OwnFrom.and (box_own _ _ _ _) (box_own _ _ _ _)) (OwnFrom.and (box_own _ _ _ (fun _ => _)) (OwnFrom.and (box_own _ _ _ (fun _ => _)) (box_own _ _ _ (fun _ => _))))) (OwnFrom.and (ownFrom_below (Nat.le_refl _) (by omega)) (own_block (by omega))))
      (fun _ => ownFrom_pure _ _)
      ⟨⟨⟨HN0.out, HG0.out⟩, HO0.out, HF2.out, HR2.out⟩, hBw, HKD.out⟩
      (fun x a' W'' => ∃ Bx, (Box W'' Bx 66 #[.int .i64 x.1.ev.entry, .int .i64 x.1.ev.item, .int .i64 x.1.ev.start, .int .i64 x.1.ev.frames, .int .i64 x.1.ev.inn, .int .i64 x.1.ev.regions, .slice x.1.A x.1.al.length x.1.c, .int .i64 (x.1.ev.start - x.1.ev.inn), .int .i64 (x.1.ev.frames + x.1.ev.inn), .slice x.1.A x.1.al.length x.1.c] ) ∧ a' = { tmps := #[.slice A m c, .int .i64 fr, undef, .pointer (some ⟨w.heap.size, 0, none⟩), .pointer (some ⟨w.heap.size + 1, 0, none⟩), undef, undef, undef, .pointer (some ⟨W'.heap.size, 0, none⟩), .pointer (some ⟨W'.heap.size + 1, 0, none⟩), .pointer (some ⟨W'.heap.size + 1 + 1, 0, none⟩), .pointer (some ⟨Bx, 0, none⟩), .slice A m c, .func (.func 39) #[] #[.pointer (some ⟨w.heap.size + 1 + 1, 0, none⟩)], undef, undef, undef, undef, undef, undef, undef, undef, undef, undef, undef, undef, undef, .func (.func 32) #[] #[.pointer (some ⟨W'.heap.size + 1, 0, none⟩), .pointer (some ⟨W'.heap.size, 0, none⟩)], .slice A m c, .func (.func 40) #[] #[.pointer (some ⟨W'.heap.size + 1 + 1 + 1, 0, none⟩)], oevV x.1, undef, undef, undef, undef, undef, undef, undef, undef, undef, undef, undef, undef, undef, undef, undef, undef, undef], defers := [] })
      (fun x a' => OwnFrom.ex fun Bx => OwnFrom.and (box_own _ _ _ (fun _ => _)) (ownFrom_pure _ _))
      ?assignA ?bodyA ?doneA ?stopA
    case assignA =>
      rintro l' pre x W'' K ⟨⟨⟨t1, t2⟩, t3, t4, t5⟩, tB, tD⟩ hK
      have T1 := Lib.hid t1
      have T2 := Lib.hid t2
      have T3 := Lib.hid t3
      have T4 := Lib.hid t4
      have T5 := Lib.hid t5
      have TD := Lib.hid tD
      clear t1 t2 t3 t4 t5 tD
      gi_wp2
      refine hK _ _ (keepsFrom_below (balloc _ _)) (KeepC.below (balloc _ _) tB.size) ⟨⟨⟨T1.out.next (balloc _ _), T2.out.next (balloc _ _)⟩, T3.out.next (balloc _ _), T4.out.next (balloc _ _), T5.out.next (balloc _ _)⟩, tB.alloc tB.size _, ((balloc _ _).block D (Array.getElem?_eq_some_iff.1 TD.out).1).trans TD.out⟩ ⟨W''.heap.size, Box.new _ _ _, rfl⟩
    case bodyA =>
      rintro l' pre ⟨⟨ev, A', c', al⟩, hmem, hpl, hou⟩ a' W'' ⟨⟨⟨t1, t2⟩, t3, t4, t5⟩, tB, tD⟩ ⟨Bx, hbx, rfl⟩ hlen
      obtain ⟨x1, x2, s, f, i, x4⟩ := ev
      have b0 := hbx.cell (i := 0) rfl
      have b1 := hbx.cell (i := 1) rfl
      have b2 := hbx.cell (i := 2) rfl
      have b3 := hbx.cell (i := 3) rfl
      have b4 := hbx.cell (i := 4) rfl
      have b5 := hbx.cell (i := 5) rfl
      have b6 := hbx.cell (i := 6) rfl
      have f0 := t4.cell (i := 0) rfl
      have HB := Lib.hid hbx
      have T1 := Lib.hid t1
      have T2 := Lib.hid t2
      have T3 := Lib.hid t3
      have T4 := Lib.hid t4
      have T5 := Lib.hid t5
      have TD := Lib.hid tD
      have KEY : Hid (∀ w2, Below W''.heap.size W'' w2 → EvA.takes fr ⟨⟨x1, x2, s, f, i, x4⟩, A', c', al⟩ = false → KeepsFrom W1.heap.size W'' w2 ∧ KeepC w.heap.size (W'.heap.size + 1 + 1 + 1) (W1.heap.size + 2) W'' w2 ∧ (((Box w2 W'.heap.size 24 (nextC (annP fr ((pre ++ [(⟨⟨⟨x1, x2, s, f, i, x4⟩, A', c', al⟩, hmem, hpl, hou⟩ : OEv es)]).map (·.1)))) ∧ Box w2 (W'.heap.size + 1) 4 #[.bool (annP fr ((pre ++ [(⟨⟨⟨x1, x2, s, f, i, x4⟩, A', c', al⟩, hmem, hpl, hou⟩ : OEv es)]).map (·.1))).isSome]) ∧ (Box w2 (W'.heap.size + 1 + 1) 61 #[.func (.func 32) #[] #[.pointer (some ⟨W'.heap.size + 1, 0, none⟩), .pointer (some ⟨W'.heap.size, 0, none⟩)]] ∧ Box w2 w.heap.size 3 #[.int .i64 fr] ∧ Box w2 (w.heap.size + 1) 24 zero3)) ∧ Below w.heap.size w w2 ∧ w2.heap[D]? = some (.deferred (some [])))) := Lib.hid (fun w2 b2 ht => by
        rw [List.map_append, List.map_cons, List.map_nil, annP_snoc, if_neg (by rw [ht]; simp)]
        exact ⟨keepsFrom_below b2, KeepC.below b2 tB.size, ⟨⟨T1.out.next b2, T2.out.next b2⟩, T3.out.next b2, T4.out.next b2, T5.out.next b2⟩, bnext tB b2, (b2.block D (Array.getElem?_eq_some_iff.1 TD.out).1).trans TD.out⟩)
      clear hbx t1 t2 t3 t4 t5 tD
      dsimp only at hpl
      by_cases hi : i = 0
      · subst hi
        by_cases hfo : Ev.follows ⟨x1, x2, s, f, 0, x4⟩ fr = true
        · have HTK := Lib.hid (show EvA.takes fr ⟨⟨x1, x2, s, f, 0, x4⟩, A', c', al⟩ = true by simp [EvA.takes, hfo])
          have KEY2 : Hid (∀ w1, Below W''.heap.size W'' w1 → Box w1 Bx 66 #[.int .i64 x1, .int .i64 x2, .int .i64 s, .int .i64 f, .int .i64 0, .int .i64 x4, .slice A' al.length c', .int .i64 (s - 0), .int .i64 (f + 0), .slice A' al.length c'] ∧ Box w1 (W'.heap.size + 1 + 1) 61 #[.func (.func 32) #[] #[.pointer (some ⟨W'.heap.size + 1, 0, none⟩), .pointer (some ⟨W'.heap.size, 0, none⟩)]] ∧ Box w1 W'.heap.size 24 (nextC (annP fr (pre.map (·.1)))) ∧ Box w1 (W'.heap.size + 1) 4 #[.bool (annP fr (pre.map (·.1))).isSome]) := Lib.hid (fun w1 b1 => ⟨HB.out.next b1, T3.out.next b1, T1.out.next b1, T2.out.next b1⟩)
          gi_wp2_with fail
          refine ⟨trivial, (CallsIn.inRound l' (callsIn_wide.2 (follows_any ⟨x1, x2, s, f, 0, x4⟩ A' al.length c' fr _ hpl))).mono ?_⟩
          rintro e w1 ⟨rfl, bw⟩
          rw [hfo]
          obtain ⟨u1, u2, u3, u4⟩ := KEY2.out w1 bw
          clear b0 b1 b2 b3 b4 b5 b6 f0
          have d7 := u1.cell (i := 7) rfl
          have d8 := u1.cell (i := 8) rfl
          have d9 := u1.cell (i := 9) rfl
          have dF := u2.cell (i := 0) rfl
          have U3 := Lib.hid u3
          have U4 := Lib.hid u4
          have hEND : Hid (∀ e w3, (match annP fr (pre.map (·.1)) with | none => OfferPost (W'.heap.size + 1) W'.heap.size false (s - 0) (f + 0) A' al.length c' 0 0 none 0 0 w1 e w3 | some d => OfferPost (W'.heap.size + 1) W'.heap.size true (s - 0) (f + 0) A' al.length c' (d.ev.start - d.ev.inn) (d.ev.frames + d.ev.inn) d.A d.al.length d.c w1 e w3) → (∃ v, e = .returned v) ∧ Only2 (W'.heap.size + 1) W'.heap.size w1 w3 ∧ Box w3 W'.heap.size 24 (nextC (annP fr ((pre ++ [(⟨⟨⟨x1, x2, s, f, 0, x4⟩, A', c', al⟩, hmem, hpl, hou⟩ : OEv es)]).map (·.1)))) ∧ Box w3 (W'.heap.size + 1) 4 #[.bool (annP fr ((pre ++ [(⟨⟨⟨x1, x2, s, f, 0, x4⟩, A', c', al⟩, hmem, hpl, hou⟩ : OEv es)]).map (·.1))).isSome]) := Lib.hid (fun e w3 ho => by
            rw [List.map_append, List.map_cons, List.map_nil, annP_snoc, if_pos HTK.out]
            cases hd : annP fr (pre.map (·.1)) with
            | none =>
              rw [hd] at ho
              obtain ⟨o1, o2, o3⟩ := ho
              rw [if_pos (.inl rfl)] at o3
              exact ⟨o1, o2, o3.2, o3.1⟩
            | some d =>
              rw [hd] at ho
              obtain ⟨o1, o2, o3⟩ := ho
              simp only [offerP]
              by_cases hlt : s - 0 < d.ev.start - d.ev.inn
              · rw [if_pos (.inr hlt)] at o3
                rw [if_pos hlt]
                exact ⟨o1, o2, o3.2, o3.1⟩
              · rw [if_neg (by simpa using hlt)] at o3
                rw [if_neg hlt]
                exact ⟨o1, o2, o3.2, o3.1⟩)
          clear u1 u2 u3 u4 KEY KEY2
          gi_wp2_with fail
          have hcall : CallsIn (Fence.wide.inRound l') (20 - 1 - 1 - 1) Try.prog 32 #[optV (s - 0) (f + 0) A' al.length c', .pointer (some ⟨W'.heap.size + 1, 0, none⟩), .pointer (some ⟨W'.heap.size, 0, none⟩)] w1 (fun e w3 => (∃ v, e = .returned v) ∧ Only2 (W'.heap.size + 1) W'.heap.size w1 w3 ∧ Box w3 W'.heap.size 24 (nextC (annP fr ((pre ++ [(⟨⟨⟨x1, x2, s, f, 0, x4⟩, A', c', al⟩, hmem, hpl, hou⟩ : OEv es)]).map (·.1)))) ∧ Box w3 (W'.heap.size + 1) 4 #[.bool (annP fr ((pre ++ [(⟨⟨⟨x1, x2, s, f, 0, x4⟩, A', c', al⟩, hmem, hpl, hou⟩ : OEv es)]).map (·.1))).isSome]) := by
            cases hd : annP fr (pre.map (·.1)) with
            | none =>
              have v3 := U3.out
              have v4 := U4.out
              rw [hd] at v3 v4
              refine (CallsIn.inRound l' (callsIn_wide.2 (offer_any (W'.heap.size + 1) W'.heap.size false (s - 0) (f + 0) A' al.length c' 0 0 none 0 0 w1 v4 v3 (by omega)))).mono fun e w3 ho => hEND.out e w3 (by rw [hd]; exact ho)
            | some d =>
              have v3 := U3.out
              have v4 := U4.out
              rw [hd] at v3 v4
              refine (CallsIn.inRound l' (callsIn_wide.2 (offer_any (W'.heap.size + 1) W'.heap.size true (s - 0) (f + 0) A' al.length c' (d.ev.start - d.ev.inn) (d.ev.frames + d.ev.inn) d.A d.al.length d.c w1 v4 v3 (by omega)))).mono fun e w3 ho => hEND.out e w3 (by rw [hd]; exact ho)
          simp only [Int.sub_zero, Int.add_zero] at hcall
          refine ⟨trivial, hcall.mono ?_⟩
          rintro e w3 ⟨⟨v, rfl⟩, o2, o3, o4⟩
          have O2 := Lib.hid o2
          have O3 := Lib.hid o3
          have O4 := Lib.hid o4
          have hww : w.heap.size ≤ w1.heap.size := (bnext tB bw).size
          have hW'' : W'.heap.size + 1 < w1.heap.size := Nat.lt_of_lt_of_le T2.out.lt bw.size
          clear o2 o3 o4 hcall
          gi_wp2_with fail
          exact ⟨(keepsFrom_below bw).trans (O2.out.from (by omega) (by omega)), (KeepC.below bw tB.size).trans (O2.out.keep hww (by omega) (by omega) (by omega) (by omega)), ⟨⟨O3.out, O4.out⟩, O2.out.box (T3.out.next bw) (by omega) (by omega), O2.out.box (T4.out.next bw) (by omega) (by omega), O2.out.box (T5.out.next bw) (by omega) (by omega)⟩, (bnext tB bw).trans (O2.out.below hww (by omega) (by omega)), (O2.out.block (by omega) (by omega) (by omega)).trans ((bw.block D (Array.getElem?_eq_some_iff.1 TD.out).1).trans TD.out)⟩
        · have hfo' : Ev.follows ⟨x1, x2, s, f, 0, x4⟩ fr = false := by simpa using hfo
          have HTK := Lib.hid (show EvA.takes fr ⟨⟨x1, x2, s, f, 0, x4⟩, A', c', al⟩ = false by simp [EvA.takes, hfo'])
          gi_wp2_with (refine ⟨trivial, ?_⟩; gi_at_call 34; refine (CallsIn.inRound l' (callsIn_wide.2 (follows_any ⟨x1, x2, s, f, 0, x4⟩ A' al.length c' fr _ hpl))).mono ?_; rintro e w1 ⟨rfl, bw⟩; rw [hfo'])
          exact KEY.out _ bw HTK.out
      · have hi' : (i == 0) = false := by simpa using hi
        have HTK := Lib.hid (show EvA.takes fr ⟨⟨x1, x2, s, f, i, x4⟩, A', c', al⟩ = false by simp [EvA.takes, hi'])
        gi_wp2_with fail
        refine ⟨trivial, ?_⟩
        gi_wp2_with fail
        exact KEY.out _ (Below.refl _ _) HTK.out
    case doneA =>
      rintro D2 ys2 W2 hD2 hys2 ⟨⟨⟨t1, t2⟩, t3, t4, t5⟩, tB, tD⟩ hK2
      rw [hys2] at t1
      obtain ⟨s, f, B, c2, al, q1, q2, q3, q4, q5⟩ := nextC_facts (fr := fr) HI.out (b := annP fr (opts (plac es))) (fun e he => opts_mem he)
      rw [q1] at t1
      have HQ : Hid (nextP fr es = ⟨s, f, al⟩) := Lib.hid (by rw [nextP, HN.out, q2])
      have b0 := t1.cell (i := 0) rfl
      have b1 := t1.cell (i := 1) rfl
      have b2 := t1.cell (i := 2) rfl
      have r0 := t5.cell (i := 0) rfl
      have T5 := Lib.hid t5
      have TD := Lib.hid tD
      have TK2 := Lib.hid hK2
      have HAL := Lib.hid (q3.below tB)
      have Q5 := Lib.hid q5
      have hDD : D ≠ D2 := by have := h3.size; omega
      clear q1 q2 q3 q5 t1 t2 t3 t4 t5 tD hK2
      gi_wp2_with fail
      refine ⟨trivial, (callsIn_wide.2 (own_any s f B al.length c2 al W2 HAL.out q4 Q5.out)).mono ?_⟩
      rintro e w5 ⟨B5, c5, rfl, o1, o2, o3, o4, o5, o6⟩
      have T6 := T5.out.next o5
      have z0 := T6.cell (i := 0) rfl
      have z1 := T6.cell (i := 1) rfl
      have z2 := T6.cell (i := 2) rfl
      have y0 := T6.frozen 0
      have y1 := T6.frozen 1
      have y2 := T6.frozen 2
      have hlt := T5.out.lt
      have HR := Lib.hid (nextRes_store (o := ⟨s, f, al⟩) T6 rfl hlt o1 o2 o3 o4 o6)
      have HBB := Lib.hid (((((bnext tB o5).setCell (p := ⟨w.heap.size + 1, 0, none⟩) (by simp) (.int .i64 s)).setCell (p := ⟨w.heap.size + 1, 1, none⟩) (by simp) (.int .i64 f)).setCell (p := ⟨w.heap.size + 1, 2, none⟩) (by simp) (.slice B5 al.length c5)))
      have HD2 : Hid (w5.heap[D2]? = some (.deferred (some []))) := Lib.hid ((o5.block D2 (Array.getElem?_eq_some_iff.1 TK2.out).1).trans TK2.out)
      have HD1 : Hid (w5.heap[D]? = some (.deferred (some []))) := Lib.hid ((o5.block D (Array.getElem?_eq_some_iff.1 TD.out).1).trans TD.out)
      clear T6 o1 o2 o3 o4 o5 o6
      gi_wp2_with fail
      rw [HQ.out]
      have hk2 := (((KeepsOthers.setCell _ _ _).trans (KeepsOthers.setCell _ _ _)).trans (KeepsOthers.setCell _ _ _)).same D2 _ HD2.out rfl (W' := (((w5.setCell ⟨w.heap.size + 1, 0, none⟩ (.int .i64 s)).setCell ⟨w.heap.size + 1, 1, none⟩ (.int .i64 f)).setCell ⟨w.heap.size + 1, 2, none⟩ (.slice B5 al.length c5)))
      have hk1 := (((KeepsOthers.setCell _ _ _).trans (KeepsOthers.setCell _ _ _)).trans (KeepsOthers.setCell _ _ _)).same D _ HD1.out rfl (W' := (((w5.setCell ⟨w.heap.size + 1, 0, none⟩ (.int .i64 s)).setCell ⟨w.heap.size + 1, 1, none⟩ (.int .i64 f)).setCell ⟨w.heap.size + 1, 2, none⟩ (.slice B5 al.length c5)))
      obtain ⟨p1, p2⟩ := next_end (by omega) hk2 HR.out HBB.out
      have hk3 := (World.putObj_heap_other (o := .deferred none) hDD).trans hk1
      obtain ⟨p3, p4⟩ := next_end (by omega) hk3 p1 p2
      refine ⟨by simp, .inl ⟨_, _, rfl, run_takeDeferred hk2, ?_⟩⟩
      refine ⟨by simp, .inl ⟨_, _, rfl, run_takeDeferred hk3, ?_⟩⟩
      exact next_results (o := ⟨s, f, al⟩) rfl p3 p4
    case stopA =>
      rintro D2 c2 pre2 W2 _ _ h2 _
      exact h2.elim
  case stop =>
    rintro D k ys W' hD hys ⟨⟨pre, x, ⟨hy, h1, h4⟩, h5⟩, h3⟩ hK
    subst hy
    have hfi : (plac es).find? (fun e => e.ev.runs fr) = some x.1 := by
      rw [List.map_append] at hys
      exact find_pre hys (by simpa using h1) h4
    by_cases hx : x.1.outs = true
    · rw [if_pos hx] at h5
      obtain ⟨rfl, hr⟩ := h5
      have HN : Hid (nextE fr es = some x.1) := Lib.hid (by unfold nextE; rw [hfi]; simp [hx])
      have HR := Lib.hid hr
      have HK := Lib.hid hK
      clear hys h1 h4 hfi hr hK
      gi_wp2
      refine ⟨by simp, .inl ⟨_, _, rfl, run_takeDeferred HK.out, ?_⟩⟩
      obtain ⟨z1, z2⟩ := next_end (by omega) HK.out HR.out h3
      have hq : nextP fr es = outP (some x.1) := by rw [nextP, HN.out]
      rw [hq]
      exact next_results rfl z1 z2
    · rw [if_neg hx] at h5
      obtain ⟨rfl, h2⟩ := h5
      have HN : Hid (nextE fr es = annP fr (opts (plac es))) := Lib.hid (by unfold nextE; rw [hfi]; simp [hx])
      clear hys h1 h4 hfi hx
      have hBW : w.heap.size + 3 ≤ W'.heap.size := by have := (Array.getElem?_eq_some_iff.1 hK).1; have := h3.size; omega
      have HF1 := Lib.hid h2.1
      have HR1 := Lib.hid h2.2
      have HK1 := Lib.hid hK
      have hDW : D < W'.heap.size := (Array.getElem?_eq_some_iff.1 hK).1
      clear h2 hK
      gi_wp2_with (refine ⟨trivial, ?_⟩; gi_at_call 33; refine (opts_in _ _ _ _ _).mono ?_; rintro e w' ⟨rfl, rfl⟩)
      obtain ⟨W1, hW1⟩ : ∃ W1, (((W'.alloc (Obj.cells #[.int .i64 0, .int .i64 0, .slice none 0 0] 24)).alloc (Obj.cells #[.bool false] 4)).alloc (Obj.cells #[.func (.func 32) #[] #[.pointer (some ⟨W'.heap.size + 1, 0, none⟩), .pointer (some ⟨W'.heap.size, 0, none⟩)]] 61)).alloc (Obj.cells #[Value.slice A m c] 31) = W1 := ⟨_, rfl⟩
      have hB1 : Below W'.heap.size W' W1 := by rw [← hW1]; exact ((((Below.refl _ W').alloc (Nat.le_refl _) _).alloc (by simp) _).alloc (by simp; omega) _).alloc (by simp; omega) _
      have hs1 : W1.heap.size = W'.heap.size + 4 := by rw [← hW1]; simp
      have n0 : Box W1 W'.heap.size 24 (optC 0 0 none 0 0) := by rw [← hW1]; exact (((Box.new W' _ _).next (balloc _ _)).next (balloc _ _)).next (balloc _ _)
      have g0 : Box W1 (W'.heap.size + 1) 4 #[.bool false] := by
        rw [← hW1]
        have := ((Box.new (W'.alloc (Obj.cells #[.int .i64 0, .int .i64 0, .slice none 0 0] 24)) 4 #[.bool false]).next (balloc _ (Obj.cells #[.func (.func 32) #[] #[.pointer (some ⟨W'.heap.size + 1, 0, none⟩), .pointer (some ⟨W'.heap.size, 0, none⟩)]] 61))).next (balloc _ (Obj.cells #[Value.slice A m c] 31))
        simpa using this
      have o0 : Box W1 (W'.heap.size + 1 + 1) 61 #[.func (.func 32) #[] #[.pointer (some ⟨W'.heap.size + 1, 0, none⟩), .pointer (some ⟨W'.heap.size, 0, none⟩)]] := by
        rw [← hW1]
        have := (Box.new ((W'.alloc (Obj.cells #[.int .i64 0, .int .i64 0, .slice none 0 0] 24)).alloc (Obj.cells #[.bool false] 4)) 61 #[.func (.func 32) #[] #[.pointer (some ⟨W'.heap.size + 1, 0, none⟩), .pointer (some ⟨W'.heap.size, 0, none⟩)]]).next (balloc _ (Obj.cells #[Value.slice A m c] 31))
        simpa using this
      have e1 : Box W1 (W'.heap.size + 1 + 1 + 1) 31 #[.slice A m c] := by
        rw [← hW1]
        have := Box.new (((W'.alloc (Obj.cells #[.int .i64 0, .int .i64 0, .slice none 0 0] 24)).alloc (Obj.cells #[.bool false] 4)).alloc (Obj.cells #[.func (.func 32) #[] #[.pointer (some ⟨W'.heap.size + 1, 0, none⟩), .pointer (some ⟨W'.heap.size, 0, none⟩)]] 61)) 31 #[.slice A m c]
        simpa using this
      have k1 : W1.heap[D]? = some (.deferred (some [])) := (hB1.block D hDW).trans HK1.out
      have hBw : Below w.heap.size w W1 := h3.trans (hB1.mono h3.size)
      rw [hW1]
      clear hW1
      have HN0 := Lib.hid n0
      have HG0 := Lib.hid g0
      have HO0 := Lib.hid o0
      have HE1 := Lib.hid e1
      have HKD := Lib.hid k1
      have HF2 := Lib.hid (HF1.out.next hB1)
      have HR2 := Lib.hid (HR1.out.next hB1)
      clear n0 g0 o0 e1 k1
      refine wpIn_rangeO (F := Fence.wide) rfl (by omega) (gf := 40) (lb := #[.pointer (some ⟨W'.heap.size + 1 + 1 + 1, 0, none⟩)]) rfl trivial (enters_of Try.func40 (by kernel_rfl) rfl)
        (opts_seq _ (by omega) w (W'.heap.size + 1 + 1 + 1) (W'.heap.size + 1 + 1 + 1) (W1.heap.size + 2) A m c es hm W1 HE1.out (by omega) rfl hBw HI.out) KeepC.trans (KeepC.put (by omega) rfl) (fun _ => rfl)
        (fun ys W'' => ((Box W'' W'.heap.size 24 (nextC (annP fr (ys.map (·.1)))) ∧ Box W'' (W'.heap.size + 1) 4 #[.bool (annP fr (ys.map (·.1))).isSome]) ∧ (Box W'' (W'.heap.size + 1 + 1) 61 #[.func (.func 32) #[] #[.pointer (some ⟨W'.heap.size + 1, 0, none⟩), .pointer (some ⟨W'.heap.size, 0, none⟩)]] ∧ Box W'' w.heap.size 3 #[.int .i64 fr] ∧ Box W'' (w.heap.size + 1) 24 zero3)) ∧ Below w.heap.size w W'' ∧ W''.heap[D]? = some (.deferred (some [])))
        (fun _ _ _ => False)
        (OwnFrom.and (OwnFrom.and (OwnFrom.and (box_own _ _ _ _) (box_own _ _ _ _)) (OwnFrom.and (box_own _ _ _ (fun _ => _)) (OwnFrom.and (box_own _ _ _ (fun _ => _)) (box_own _ _ _ (fun _ => _))))) (OwnFrom.and (ownFrom_below (Nat.le_refl _) (by omega)) (own_block (by omega))))
        (fun _ => ownFrom_pure _ _)
        ⟨⟨⟨HN0.out, HG0.out⟩, HO0.out, HF2.out, HR2.out⟩, hBw, HKD.out⟩
        (fun x a' W'' => ∃ Bx, (Box W'' Bx 66 #[.int .i64 x.1.ev.entry, .int .i64 x.1.ev.item, .int .i64 x.1.ev.start, .int .i64 x.1.ev.frames, .int .i64 x.1.ev.inn, .int .i64 x.1.ev.regions, .slice x.1.A x.1.al.length x.1.c, .int .i64 (x.1.ev.start - x.1.ev.inn), .int .i64 (x.1.ev.frames + x.1.ev.inn), .slice x.1.A x.1.al.length x.1.c] ) ∧ a' = { tmps := #[.slice A m c, .int .i64 fr, undef, .pointer (some ⟨w.heap.size, 0, none⟩), .pointer (some ⟨w.heap.size + 1, 0, none⟩), undef, undef, undef, .pointer (some ⟨W'.heap.size, 0, none⟩), .pointer (some ⟨W'.heap.size + 1, 0, none⟩), .pointer (some ⟨W'.heap.size + 1 + 1, 0, none⟩), .pointer (some ⟨Bx, 0, none⟩), .slice A m c, .func (.func 39) #[] #[.pointer (some ⟨w.heap.size + 1 + 1, 0, none⟩)], undef, undef, undef, undef, undef, undef, undef, undef, undef, undef, undef, undef, undef, .func (.func 32) #[] #[.pointer (some ⟨W'.heap.size + 1, 0, none⟩), .pointer (some ⟨W'.heap.size, 0, none⟩)], .slice A m c, .func (.func 40) #[] #[.pointer (some ⟨W'.heap.size + 1 + 1 + 1, 0, none⟩)], oevV x.1, undef, undef, undef, undef, undef, undef, undef, undef, undef, undef, undef, undef, undef, undef, undef, undef, undef], defers := [] })
        (fun x a' => OwnFrom.ex fun Bx => OwnFrom.and (box_own _ _ _ (fun _ => _)) (ownFrom_pure _ _))
        ?assignB ?bodyB ?doneB ?stopB
      case assignB =>
        rintro l' pre x W'' K ⟨⟨⟨t1, t2⟩, t3, t4, t5⟩, tB, tD⟩ hK
        have T1 := Lib.hid t1
        have T2 := Lib.hid t2
        have T3 := Lib.hid t3
        have T4 := Lib.hid t4
        have T5 := Lib.hid t5
        have TD := Lib.hid tD
        clear t1 t2 t3 t4 t5 tD
        gi_wp2
        refine hK _ _ (keepsFrom_below (balloc _ _)) (KeepC.below (balloc _ _) tB.size) ⟨⟨⟨T1.out.next (balloc _ _), T2.out.next (balloc _ _)⟩, T3.out.next (balloc _ _), T4.out.next (balloc _ _), T5.out.next (balloc _ _)⟩, tB.alloc tB.size _, ((balloc _ _).block D (Array.getElem?_eq_some_iff.1 TD.out).1).trans TD.out⟩ ⟨W''.heap.size, Box.new _ _ _, rfl⟩
      case bodyB =>
        rintro l' pre ⟨⟨ev, A', c', al⟩, hmem, hpl, hou⟩ a' W'' ⟨⟨⟨t1, t2⟩, t3, t4, t5⟩, tB, tD⟩ ⟨Bx, hbx, rfl⟩ hlen
        obtain ⟨x1, x2, s, f, i, x4⟩ := ev
        have b0 := hbx.cell (i := 0) rfl
        have b1 := hbx.cell (i := 1) rfl
        have b2 := hbx.cell (i := 2) rfl
        have b3 := hbx.cell (i := 3) rfl
        have b4 := hbx.cell (i := 4) rfl
        have b5 := hbx.cell (i := 5) rfl
        have b6 := hbx.cell (i := 6) rfl
        have f0 := t4.cell (i := 0) rfl
        have HB := Lib.hid hbx
        have T1 := Lib.hid t1
        have T2 := Lib.hid t2
        have T3 := Lib.hid t3
        have T4 := Lib.hid t4
        have T5 := Lib.hid t5
        have TD := Lib.hid tD
        have KEY : Hid (∀ w2, Below W''.heap.size W'' w2 → EvA.takes fr ⟨⟨x1, x2, s, f, i, x4⟩, A', c', al⟩ = false → KeepsFrom W1.heap.size W'' w2 ∧ KeepC w.heap.size (W'.heap.size + 1 + 1 + 1) (W1.heap.size + 2) W'' w2 ∧ (((Box w2 W'.heap.size 24 (nextC (annP fr ((pre ++ [(⟨⟨⟨x1, x2, s, f, i, x4⟩, A', c', al⟩, hmem, hpl, hou⟩ : OEv es)]).map (·.1)))) ∧ Box w2 (W'.heap.size + 1) 4 #[.bool (annP fr ((pre ++ [(⟨⟨⟨x1, x2, s, f, i, x4⟩, A', c', al⟩, hmem, hpl, hou⟩ : OEv es)]).map (·.1))).isSome]) ∧ (Box w2 (W'.heap.size + 1 + 1) 61 #[.func (.func 32) #[] #[.pointer (some ⟨W'.heap.size + 1, 0, none⟩), .pointer (some ⟨W'.heap.size, 0, none⟩)]] ∧ Box w2 w.heap.size 3 #[.int .i64 fr] ∧ Box w2 (w.heap.size + 1) 24 zero3)) ∧ Below w.heap.size w w2 ∧ w2.heap[D]? = some (.deferred (some [])))) := Lib.hid (fun w2 b2 ht => by
          rw [List.map_append, List.map_cons, List.map_nil, annP_snoc, if_neg (by rw [ht]; simp)]
          exact ⟨keepsFrom_below b2, KeepC.below b2 tB.size, ⟨⟨T1.out.next b2, T2.out.next b2⟩, T3.out.next b2, T4.out.next b2, T5.out.next b2⟩, bnext tB b2, (b2.block D (Array.getElem?_eq_some_iff.1 TD.out).1).trans TD.out⟩)
        clear hbx t1 t2 t3 t4 t5 tD
        dsimp only at hpl
        by_cases hi : i = 0
        · subst hi
          by_cases hfo : Ev.follows ⟨x1, x2, s, f, 0, x4⟩ fr = true
          · have HTK := Lib.hid (show EvA.takes fr ⟨⟨x1, x2, s, f, 0, x4⟩, A', c', al⟩ = true by simp [EvA.takes, hfo])
            have KEY2 : Hid (∀ w1, Below W''.heap.size W'' w1 → Box w1 Bx 66 #[.int .i64 x1, .int .i64 x2, .int .i64 s, .int .i64 f, .int .i64 0, .int .i64 x4, .slice A' al.length c', .int .i64 (s - 0), .int .i64 (f + 0), .slice A' al.length c'] ∧ Box w1 (W'.heap.size + 1 + 1) 61 #[.func (.func 32) #[] #[.pointer (some ⟨W'.heap.size + 1, 0, none⟩), .pointer (some ⟨W'.heap.size, 0, none⟩)]] ∧ Box w1 W'.heap.size 24 (nextC (annP fr (pre.map (·.1)))) ∧ Box w1 (W'.heap.size + 1) 4 #[.bool (annP fr (pre.map (·.1))).isSome]) := Lib.hid (fun w1 b1 => ⟨HB.out.next b1, T3.out.next b1, T1.out.next b1, T2.out.next b1⟩)
            gi_wp2_with fail
            refine ⟨trivial, (CallsIn.inRound l' (callsIn_wide.2 (follows_any ⟨x1, x2, s, f, 0, x4⟩ A' al.length c' fr _ hpl))).mono ?_⟩
            rintro e w1 ⟨rfl, bw⟩
            rw [hfo]
            obtain ⟨u1, u2, u3, u4⟩ := KEY2.out w1 bw
            clear b0 b1 b2 b3 b4 b5 b6 f0
            have d7 := u1.cell (i := 7) rfl
            have d8 := u1.cell (i := 8) rfl
            have d9 := u1.cell (i := 9) rfl
            have dF := u2.cell (i := 0) rfl
            have U3 := Lib.hid u3
            have U4 := Lib.hid u4
            have hEND : Hid (∀ e w3, (match annP fr (pre.map (·.1)) with | none => OfferPost (W'.heap.size + 1) W'.heap.size false (s - 0) (f + 0) A' al.length c' 0 0 none 0 0 w1 e w3 | some d => OfferPost (W'.heap.size + 1) W'.heap.size true (s - 0) (f + 0) A' al.length c' (d.ev.start - d.ev.inn) (d.ev.frames + d.ev.inn) d.A d.al.length d.c w1 e w3) → (∃ v, e = .returned v) ∧ Only2 (W'.heap.size + 1) W'.heap.size w1 w3 ∧ Box w3 W'.heap.size 24 (nextC (annP fr ((pre ++ [(⟨⟨⟨x1, x2, s, f, 0, x4⟩, A', c', al⟩, hmem, hpl, hou⟩ : OEv es)]).map (·.1)))) ∧ Box w3 (W'.heap.size + 1) 4 #[.bool (annP fr ((pre ++ [(⟨⟨⟨x1, x2, s, f, 0, x4⟩, A', c', al⟩, hmem, hpl, hou⟩ : OEv es)]).map (·.1))).isSome]) := Lib.hid (fun e w3 ho => by
              rw [List.map_append, List.map_cons, List.map_nil, annP_snoc, if_pos HTK.out]
              cases hd : annP fr (pre.map (·.1)) with
              | none =>
                rw [hd] at ho
                obtain ⟨o1, o2, o3⟩ := ho
                rw [if_pos (.inl rfl)] at o3
                exact ⟨o1, o2, o3.2, o3.1⟩
              | some d =>
                rw [hd] at ho
                obtain ⟨o1, o2, o3⟩ := ho
                simp only [offerP]
                by_cases hlt : s - 0 < d.ev.start - d.ev.inn
                · rw [if_pos (.inr hlt)] at o3
                  rw [if_pos hlt]
                  exact ⟨o1, o2, o3.2, o3.1⟩
                · rw [if_neg (by simpa using hlt)] at o3
                  rw [if_neg hlt]
                  exact ⟨o1, o2, o3.2, o3.1⟩)
            clear u1 u2 u3 u4 KEY KEY2
            gi_wp2_with fail
            have hcall : CallsIn (Fence.wide.inRound l') (20 - 1 - 1 - 1) Try.prog 32 #[optV (s - 0) (f + 0) A' al.length c', .pointer (some ⟨W'.heap.size + 1, 0, none⟩), .pointer (some ⟨W'.heap.size, 0, none⟩)] w1 (fun e w3 => (∃ v, e = .returned v) ∧ Only2 (W'.heap.size + 1) W'.heap.size w1 w3 ∧ Box w3 W'.heap.size 24 (nextC (annP fr ((pre ++ [(⟨⟨⟨x1, x2, s, f, 0, x4⟩, A', c', al⟩, hmem, hpl, hou⟩ : OEv es)]).map (·.1)))) ∧ Box w3 (W'.heap.size + 1) 4 #[.bool (annP fr ((pre ++ [(⟨⟨⟨x1, x2, s, f, 0, x4⟩, A', c', al⟩, hmem, hpl, hou⟩ : OEv es)]).map (·.1))).isSome]) := by
              cases hd : annP fr (pre.map (·.1)) with
              | none =>
                have v3 := U3.out
                have v4 := U4.out
                rw [hd] at v3 v4
                refine (CallsIn.inRound l' (callsIn_wide.2 (offer_any (W'.heap.size + 1) W'.heap.size false (s - 0) (f + 0) A' al.length c' 0 0 none 0 0 w1 v4 v3 (by omega)))).mono fun e w3 ho => hEND.out e w3 (by rw [hd]; exact ho)
              | some d =>
                have v3 := U3.out
                have v4 := U4.out
                rw [hd] at v3 v4
                refine (CallsIn.inRound l' (callsIn_wide.2 (offer_any (W'.heap.size + 1) W'.heap.size true (s - 0) (f + 0) A' al.length c' (d.ev.start - d.ev.inn) (d.ev.frames + d.ev.inn) d.A d.al.length d.c w1 v4 v3 (by omega)))).mono fun e w3 ho => hEND.out e w3 (by rw [hd]; exact ho)
            simp only [Int.sub_zero, Int.add_zero] at hcall
            refine ⟨trivial, hcall.mono ?_⟩
            rintro e w3 ⟨⟨v, rfl⟩, o2, o3, o4⟩
            have O2 := Lib.hid o2
            have O3 := Lib.hid o3
            have O4 := Lib.hid o4
            have hww : w.heap.size ≤ w1.heap.size := (bnext tB bw).size
            have hW'' : W'.heap.size + 1 < w1.heap.size := Nat.lt_of_lt_of_le T2.out.lt bw.size
            clear o2 o3 o4 hcall
            gi_wp2_with fail
            exact ⟨(keepsFrom_below bw).trans (O2.out.from (by omega) (by omega)), (KeepC.below bw tB.size).trans (O2.out.keep hww (by omega) (by omega) (by omega) (by omega)), ⟨⟨O3.out, O4.out⟩, O2.out.box (T3.out.next bw) (by omega) (by omega), O2.out.box (T4.out.next bw) (by omega) (by omega), O2.out.box (T5.out.next bw) (by omega) (by omega)⟩, (bnext tB bw).trans (O2.out.below hww (by omega) (by omega)), (O2.out.block (by omega) (by omega) (by omega)).trans ((bw.block D (Array.getElem?_eq_some_iff.1 TD.out).1).trans TD.out)⟩
          · have hfo' : Ev.follows ⟨x1, x2, s, f, 0, x4⟩ fr = false := by simpa using hfo
            have HTK := Lib.hid (show EvA.takes fr ⟨⟨x1, x2, s, f, 0, x4⟩, A', c', al⟩ = false by simp [EvA.takes, hfo'])
            gi_wp2_with (refine ⟨trivial, ?_⟩; gi_at_call 34; refine (CallsIn.inRound l' (callsIn_wide.2 (follows_any ⟨x1, x2, s, f, 0, x4⟩ A' al.length c' fr _ hpl))).mono ?_; rintro e w1 ⟨rfl, bw⟩; rw [hfo'])
            exact KEY.out _ bw HTK.out
        · have hi' : (i == 0) = false := by simpa using hi
          have HTK := Lib.hid (show EvA.takes fr ⟨⟨x1, x2, s, f, i, x4⟩, A', c', al⟩ = false by simp [EvA.takes, hi'])
          gi_wp2_with fail
          refine ⟨trivial, ?_⟩
          gi_wp2_with fail
          exact KEY.out _ (Below.refl _ _) HTK.out
      case doneB =>
        rintro D2 ys2 W2 hD2 hys2 ⟨⟨⟨t1, t2⟩, t3, t4, t5⟩, tB, tD⟩ hK2
        rw [hys2] at t1
        obtain ⟨s, f, B, c2, al, q1, q2, q3, q4, q5⟩ := nextC_facts (fr := fr) HI.out (b := annP fr (opts (plac es))) (fun e he => opts_mem he)
        rw [q1] at t1
        have HQ : Hid (nextP fr es = ⟨s, f, al⟩) := Lib.hid (by rw [nextP, HN.out, q2])
        have b0 := t1.cell (i := 0) rfl
        have b1 := t1.cell (i := 1) rfl
        have b2 := t1.cell (i := 2) rfl
        have r0 := t5.cell (i := 0) rfl
        have T5 := Lib.hid t5
        have TD := Lib.hid tD
        have TK2 := Lib.hid hK2
        have HAL := Lib.hid (q3.below tB)
        have Q5 := Lib.hid q5
        have hDD : D ≠ D2 := by have := h3.size; omega
        clear q1 q2 q3 q5 t1 t2 t3 t4 t5 tD hK2
        gi_wp2_with fail
        refine ⟨trivial, (callsIn_wide.2 (own_any s f B al.length c2 al W2 HAL.out q4 Q5.out)).mono ?_⟩
        rintro e w5 ⟨B5, c5, rfl, o1, o2, o3, o4, o5, o6⟩
        have T6 := T5.out.next o5
        have z0 := T6.cell (i := 0) rfl
        have z1 := T6.cell (i := 1) rfl
        have z2 := T6.cell (i := 2) rfl
        have y0 := T6.frozen 0
        have y1 := T6.frozen 1
        have y2 := T6.frozen 2
        have hlt := T5.out.lt
        have HR := Lib.hid (nextRes_store (o := ⟨s, f, al⟩) T6 rfl hlt o1 o2 o3 o4 o6)
        have HBB := Lib.hid (((((bnext tB o5).setCell (p := ⟨w.heap.size + 1, 0, none⟩) (by simp) (.int .i64 s)).setCell (p := ⟨w.heap.size + 1, 1, none⟩) (by simp) (.int .i64 f)).setCell (p := ⟨w.heap.size + 1, 2, none⟩) (by simp) (.slice B5 al.length c5)))
        have HD2 : Hid (w5.heap[D2]? = some (.deferred (some []))) := Lib.hid ((o5.block D2 (Array.getElem?_eq_some_iff.1 TK2.out).1).trans TK2.out)
        have HD1 : Hid (w5.heap[D]? = some (.deferred (some []))) := Lib.hid ((o5.block D (Array.getElem?_eq_some_iff.1 TD.out).1).trans TD.out)
        clear T6 o1 o2 o3 o4 o5 o6
        gi_wp2_with fail
        rw [HQ.out]
        have hk2 := (((KeepsOthers.setCell _ _ _).trans (KeepsOthers.setCell _ _ _)).trans (KeepsOthers.setCell _ _ _)).same D2 _ HD2.out rfl (W' := (((w5.setCell ⟨w.heap.size + 1, 0, none⟩ (.int .i64 s)).setCell ⟨w.heap.size + 1, 1, none⟩ (.int .i64 f)).setCell ⟨w.heap.size + 1, 2, none⟩ (.slice B5 al.length c5)))
        have hk1 := (((KeepsOthers.setCell _ _ _).trans (KeepsOthers.setCell _ _ _)).trans (KeepsOthers.setCell _ _ _)).same D _ HD1.out rfl (W' := (((w5.setCell ⟨w.heap.size + 1, 0, none⟩ (.int .i64 s)).setCell ⟨w.heap.size + 1, 1, none⟩ (.int .i64 f)).setCell ⟨w.heap.size + 1, 2, none⟩ (.slice B5 al.length c5)))
        obtain ⟨p1, p2⟩ := next_end (by omega) hk2 HR.out HBB.out
        have hk3 := (World.putObj_heap_other (o := .deferred none) hDD).trans hk1
        obtain ⟨p3, p4⟩ := next_end (by omega) hk3 p1 p2
        refine ⟨by simp, .inl ⟨_, _, rfl, run_takeDeferred hk2, ?_⟩⟩
        refine ⟨by simp, .inl ⟨_, _, rfl, run_takeDeferred hk3, ?_⟩⟩
        exact next_results (o := ⟨s, f, al⟩) rfl p3 p4
      case stopB =>
        rintro D2 c2 pre2 W2 _ _ h2 _
        exact h2.elim
end Go.Proofs.Ytfpnjlfcnfjkdaa
