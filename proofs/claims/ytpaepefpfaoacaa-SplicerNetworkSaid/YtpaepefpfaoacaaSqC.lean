/- Contract of events. -/
import Derived.Test.YtpaepefpfaoacaaSqB
namespace Go.Proofs.Ytpaepefpfaoacaa
open Go.ChangeShapes Go.WideShapes Go.ChangeAt Go.RowKit
set_option linter.unusedVariables false
set_option linter.unusedSimpArgs false

/-- One of the things that are held takes in more. -/
theorem Hp.grow {w0 w : World} {L : List HB} {K : List FK} (H : Hp w0 w L K) (i : Nat) {x : HB} (hi : L[i]? = some x) (x' : HB) (L' : List HB) (hL : L.set i x' = L') (hF : x'.F w) (hok : x'.ok) (hlt : ∀ k, x'.fp k → k < w.heap.size)
    (hfp : ∀ k, x'.fp k → x.fp k ∨ (w0.heap.size ≤ k ∧ (∀ y ∈ L, ¬ y.fp k) ∧ ∀ p ∈ K, ¬ p.fp k)) (hall : ∀ k, x.fp k → x'.fp k) (hfr : x'.fresh = x.fresh) : Hp w0 w L' K := by
  subst hL
  have hm := mem_set H.apart (x' := x') hi
  have hxm := List.mem_of_getElem? hi
  have hil := (List.getElem?_eq_some_iff.1 hi).1
  have hx'm : x' ∈ L.set i x' := List.mem_iff_getElem?.2 ⟨i, by rw [List.getElem?_set]; simp [hil]⟩
  have hback : ∀ y ∈ L, y = x ∨ y ∈ L.set i x' := by
    intro y hy
    obtain ⟨k, hk⟩ := List.mem_iff_getElem?.1 hy
    by_cases e : i = k
    · subst e; rw [hi] at hk; cases hk; exact .inl rfl
    · exact .inr (List.mem_iff_getElem?.2 ⟨k, by rw [List.getElem?_set_ne e]; exact hk⟩)
  have hnot : ∀ y ∈ L, ∀ k, x'.fp k → y.fp k → x.fp k := fun y hy k hk hy' => (hfp k hk).resolve_right fun h => h.2.1 y hy hy'
  refine ⟨H.os, H.tape, H.output, H.size, fun k hk hn => H.old k hk fun y hy => ?_, fun y hy => ?_, ?_, fun y hy hfy k hk => ?_, fun p hp => ?_⟩
  · rcases hback y hy with rfl | hy
    · exact fun h => hn x' hx'm (hall k h)
    · exact hn y hy
  · rcases hm y hy with rfl | ⟨hy, _⟩
    · exact ⟨hF, hok, hlt⟩
    · exact H.res y hy
  · exact pairwise_set H.apart hi (fun z hz h k hk hk' => h k hk (hnot z hz k hk' hk)) (fun z hz h k hk hk' => h k (hnot z hz k hk hk') hk')
  · rcases hm y hy with rfl | ⟨hy, _⟩
    · rcases hfp k hk with h | h
      · exact H.fresh x hxm (hfr ▸ hfy) k h
      · exact h.1
    · exact H.fresh y hy hfy k hk
  · obtain ⟨k1, k2, k3⟩ := H.kept p hp
    refine ⟨k1, k2, fun k hk => ⟨(k3 k hk).1, fun y hy hy' => ?_⟩⟩
    rcases hm y hy with rfl | ⟨hy, _⟩
    · rcases hfp k hy' with h | h
      · exact (k3 k hk).2 x hxm h
      · exact h.2.2 p hp hk
    · exact (k3 k hk).2 y hy hy'
section
variable {α : Type} {base : Nat} {e : TypeId} {size : Nat} {cs : α → Array Value} {ok : α → World → Prop} {fe : α → Nat → Prop} {v : Value} {l : List α}
/-- What is held at the front becomes part of an element that is to be appended. -/
theorem Hp.absorb {w0 w : World} {y : HB} {L : List HB} {K : List FK} (H : Hp w0 w (y :: L) K) (i : Nat) (hi : L[i]? = some (rowsR base e size cs ok fe v l)) (hel : ElOk ok fe) (p : α) (L' : List HB) (hL : L.set i (rowsP base e size cs ok fe v l p) = L') (hp : ok p w) (hfe : ∀ k, fe p k → y.fp k) (hy : y.fresh = true) : Hp w0 w L' K := by
  have H1 := H.tail hy
  have hyr := H.res y (List.mem_cons_self ..)
  have hya : ∀ z ∈ L, ∀ k, y.fp k → ¬ z.fp k := by
    cases H.apart with
    | cons p _ => exact fun z hz k hk => p z hz k hk
  have hx := H1.held i hi
  have hr := (H1.res _ (List.mem_of_getElem? hi)).2.2
  refine H1.grow i hi _ L' hL ⟨hx, hp, fun k hk => ⟨hyr.2.2 k (hfe k hk), fun e => hya _ (List.mem_of_getElem? hi) k (hfe k hk) (.inl e)⟩⟩ (rowsP_ok hel) (fun k hk => ?_) (fun k hk => ?_) (fun k hk => .inl hk) rfl
  · rcases hk with hk | hk
    · exact hr k hk
    · exact hyr.2.2 k (hfe k hk)
  · rcases hk with hk | hk
    · exact .inl hk
    · exact .inr ⟨H.fresh y (List.mem_cons_self ..) hy k (hfe k hk), fun z hz => hya z hz k (hfe k hk), fun q hq hq' => ((H.kept q hq).2.2 k hq').2 y (List.mem_cons_self ..) (hfe k hk)⟩
end
/-! ### Pieces and events -/
structure Pc where
  item : Int
  frames : Int
  one : Int
  two : Int
  regions : Int
abbrev Pc.cells (p : Pc) : Array Value := #[.int .i64 p.item, .int .i64 p.frames, .int .i64 p.one, .int .i64 p.two, .int .i64 p.regions]
def pcZ : Pc := ⟨0, 0, 0, 0, 0⟩
abbrev i64 (x : Int) : Prop := -9223372036854775808 ≤ x ∧ x ≤ 9223372036854775807
def Pc.bd (p : Pc) : Prop := i64 p.item ∧ i64 p.frames ∧ i64 p.one ∧ i64 p.two ∧ i64 p.regions
theorem IsPcs.get {w : World} {A : Option Addr} {n : Nat} {l : List Pc} (h : IsRow 5 Pc.cells w A n l) {j : Nat} (hj : j < n) :
    ∃ b off, A = some ⟨b, off, none⟩ ∧ b < w.heap.size ∧ (w.cell? ⟨b, off + j * 5, none⟩ = some (.int .i64 (l.getD j pcZ).item) ∧ w.cell? ⟨b, off + j * 5 + 1, none⟩ = some (.int .i64 (l.getD j pcZ).frames) ∧ w.cell? ⟨b, off + j * 5 + 2, none⟩ = some (.int .i64 (l.getD j pcZ).one) ∧ w.cell? ⟨b, off + j * 5 + 3, none⟩ = some (.int .i64 (l.getD j pcZ).two) ∧ w.cell? ⟨b, off + j * 5 + 4, none⟩ = some (.int .i64 (l.getD j pcZ).regions)) ∧ l.getD j pcZ ∈ l := by
  obtain ⟨b, off, e, rfl, hb, he, hc⟩ := IsRow.at_ (k := 5) (cs := Pc.cells) (fun _ => rfl) h hj
  have hm : e ∈ l := List.mem_of_getElem? he
  rw [show l.getD j pcZ = e by simp [List.getD, he]]
  exact ⟨b, off, rfl, hb, ⟨hc 0 _ rfl, hc 1 _ rfl, hc 2 _ rfl, hc 3 _ rfl, hc 4 _ rfl⟩, hm⟩
def altCells (a : Int × Int) : Array Value := #[.int .i64 a.1, .int .i64 a.2]
def evOk (e : EvA) (w : World) : Prop := e.ok w
def evFp (e : EvA) (k : Nat) : Prop := rowFp e.al.length e.A k
theorem elOk_ev : ElOk evOk evFp := fun _ _ _ h hk hs => ⟨⟨h.1.1, h.1.2.keep hk hs⟩, h.2⟩
theorem own_of_row {n m c k : Nat} {A : Option Addr} (h : rowFp n A k) : (Value.slice A m c).ownBlock = some k := by
  obtain ⟨_, off, rfl⟩ := h; rfl
theorem alts_ok {w : World} {base t : Nat} {ev : Ev} {A : Option Addr} {n c : Nat} {al : List (Int × Int)} (h : (rowsR base t 2 altCells (fun _ _ => True) (fun _ _ => False) (.slice A n c) al).F w) (hl : al.length ≤ 2 ∧ n = al.length) : evOk ⟨ev, A, c, al⟩ w := by
  obtain ⟨h2, rfl⟩ := hl
  have f := own_facts h.1
  refine ⟨⟨rfl, Rd.of_own h.1⟩, f.1, f.2.1, f.2.2, ?_⟩
  show al.length * 16 ≤ reachBytes
  unfold reachBytes
  omega
/-- The alternatives of a piece. -/
def altsP (one two : Int) : Alts := (if 0 < pickI one 6 then [(1, pickI one 6)] else []) ++ (if 0 < pickI two 6 then [(2, pickI two 6)] else [])
def startAt (L : List Pc) (j : Nat) : Int := ((L.take j).map fun p => 1 + pickI p.frames 40).sum
def evSpec (L : List Pc) (i : Nat) : Ev × Alts := (⟨((i : Nat) : Int) + 1, 1 + pickI (L.getD i pcZ).item 5, startAt L i, 1 + pickI (L.getD i pcZ).frames 40, 0, 255 - 2 * pickI (L.getD i pcZ).regions 4⟩, altsP (L.getD i pcZ).one (L.getD i pcZ).two)
def eventsTo (L : List Pc) (j : Nat) : List (Ev × Alts) := (List.range j).map (evSpec L)
abbrev specE (l : List EvA) : List (Ev × Alts) := l.map fun e => (e.ev, e.al)
theorem specE_len {l : List EvA} {L : List Pc} {j : Nat} (h : specE l = eventsTo L j) : l.length = j := by
  have := congrArg List.length h
  simpa [specE, eventsTo] using this
theorem startAt_succ {L : List Pc} {j : Nat} (hj : j < L.length := by omega) : startAt L (j + 1) = startAt L j + (1 + pickI (L.getD j pcZ).frames 40) := by
  unfold startAt
  rw [take_at (d := pcZ) hj]
  simp
theorem altsP_of {one two : Int} {a b : Bool} (h1 : decide (pickI one 6 > 0) = a) (h2 : decide (pickI two 6 > 0) = b) : altsP one two = (if a = true then [(1, pickI one 6)] else []) ++ (if b = true then [(2, pickI two 6)] else []) := by
  subst h1
  subst h2
  simp [altsP]
theorem eventsTo_snoc {L : List Pc} {j : Nat} {l : List EvA} {X : Pc} {t : Int} {A : Option Addr} {c : Nat} {al al' : Alts} (h : specE l = eventsTo L j) (hX : L.getD j pcZ = X) (ht : t = startAt L j) (hal : altsP X.one X.two = al') (he : al = al' := by simp) :
    specE (l ++ [⟨⟨((j : Nat) : Int) + 1, 1 + pickI X.item 5, t, 1 + pickI X.frames 40, 0, 255 - 2 * pickI X.regions 4⟩, A, c, al⟩]) = eventsTo L (j + 1) := by
  subst he
  subst hX
  unfold eventsTo at *
  rw [List.range_succ, List.map_append, ← h]
  simp only [List.getD] at hal ⊢
  simp [specE, evSpec, ht, hal]
def RetEvs (L : List Pc) (m : Nat) (w : World) (e : Ending) (w' : World) : Prop :=
  ∃ A c l, e = .returned (.slice A m c) ∧ IsEvs w' A m l ∧ specE l = eventsTo L m ∧ m ≤ c ∧ c ≤ maxLen ∧ (A = none → c = 0) ∧ Below w.heap.size w w' ∧ ∀ j, (rowFp m A j ∨ ∃ e ∈ l, rowFp e.al.length e.A j) → w.heap.size ≤ j
theorem evs_end {L : List Pc} {w w' : World} {A : Option Addr} {c j m : Nat} {l : List EvA} (h : (rowsR w.heap.size 63 7 EvA.cells evOk evFp (.slice A l.length c) l).F w') (hf : ∀ k, (rowsR w.heap.size 63 7 EvA.cells evOk evFp (.slice A l.length c) l).fp k → w.heap.size ≤ k) (hsp : specE l = eventsTo L j) (hj : j = m) (hb : Below w.heap.size w w') :
    RetEvs L m w (.returned (.slice A l.length c)) w' := by
  subst hj
  have hl := specE_len hsp
  have f := own_facts h.1
  have h1 := Rd.of_own h.1
  rw [hl] at f h1
  refine ⟨A, c, l, by rw [hl], ⟨hl, h1, fun a ha => (h.2 a ha).1⟩, hsp, f.1, f.2.1, f.2.2, hb, fun i hi => ?_⟩
  rcases hi with ⟨_, off, e⟩ | hi
  · exact hf i (.inl (by rw [e]; rfl))
  · exact hf i (.inr hi)
set_option maxRecDepth 100000 in
set_option maxHeartbeats 8000000 in
theorem events_any (A : Option Addr) (n c : Nat) (L : List Pc) (w : World) (h : IsRow 5 Pc.cells w A n L) (hn : n ≤ 9223372036854775807) (hL : ∀ p ∈ L, p.bd) :
    Calls Try.prog 13 #[.slice A n c] w fun e w' => RetEvs L (min n 10) w e w' := by
  have hln := h.1
  have HP := Hp.start w
  refine w_enter 90 [(0, (.slice A n c))] Try.func13 rfl Try.ntmps13 (by kernel_rfl) (by kernel_rfl) ?_
  intro a H
  refine wp_seq ?_
  refine w_region ?_
  refine H.val 2 (.slice none 0 0) (by kernel_rfl) (by kernel_rfl) ?_
  intro a H
  refine wpList_nil ?_
  refine then_normal ?_
  refine wp_seq ?_
  refine w_region ?_
  refine H.val 3 (.slice none 0 0) (by kernel_rfl) (by kernel_rfl) ?_
  intro a H
  refine wpList_nil ?_
  refine then_normal ?_
  refine wp_seq ?_
  refine w_region ?_
  refine H.val 4 (.int .i64 0) (by kernel_rfl) (by kernel_rfl) ?_
  intro a H
  refine wpList_nil ?_
  refine then_normal ?_
  refine wp_seq ?_
  refine wp_seq ?_
  refine w_region ?_
  refine H.val 5 (.int .i64 0) (by kernel_rfl) (by kernel_rfl) ?_
  intro a H
  refine wpList_nil ?_
  refine then_normal ?_
  refine wp_block ?_
  have HP := HP.nilRow w.heap.size 63 7 EvA.cells evOk evFp elOk_ev
  refine w_loop (fun mm a v => ∃ (j : Nat), ∃ (EA : Option Addr), ∃ (ec : Nat), ∃ (l' : List EvA), ∃ (t : Int), n - j = mm ∧ Sl 90 [(5, (.int .i64 ((j : Nat) : Int))), (4, (.int .i64 t)), (3, (.slice EA l'.length ec)), (2, (.slice none 0 0)), (0, (.slice A n c))] a ∧ Hp w v [(rowsR w.heap.size 63 7 EvA.cells evOk evFp (.slice EA l'.length ec) l')] [] ∧ (j ≤ n ∧ j ≤ 10) ∧ (specE l' = eventsTo L j) ∧ (t = startAt L j) ∧ (0 ≤ t ∧ t ≤ 40 * j)) (n - 0) ?_ ?_
  · exact ⟨0, none, 0, [], 0, (by omega), H.keep (by kernel_rfl), HP, by omega, rfl, rfl, by omega⟩
  rintro mm a w_1 ⟨j, EA, ec, l', t, hmeas, H, HP, hj, hsp, ht, htb⟩
  have hll : l'.length = j := specE_len hsp
  obtain ⟨X, hX⟩ : ∃ X, L.getD j pcZ = X := ⟨_, rfl⟩
  refine wp_seq ?_
  refine wp_seq ?_
  refine w_region ?_
  refine H.val 7 (.int .i64 ((j : Nat) : Int)) (by kernel_rfl) (by kernel_rfl) ?_
  intro a H
  refine H.val 8 (.slice A n c) (by kernel_rfl) (by kernel_rfl) ?_
  intro a H
  refine H.val 9 (.int .i64 ((n : Nat) : Int)) (by kernel_rfl) (by kernel_rfl) ?_
  intro a H
  refine H.val 10 (.bool (decide (((j : Nat) : Int) < ((n : Nat) : Int)))) (by kernel_rfl) (by kernel_rfl) ?_
  intro a H
  refine H.val 11 (.bool (decide (((j : Nat) : Int) < ((n : Nat) : Int)))) (by kernel_rfl) (by kernel_rfl) ?_
  intro a H
  refine H.split 11 rfl (fun g11 H => ?_) (fun g11 H => ?_)
  · have g11p := of_decide_eq_true g11
    refine H.val 12 (.int .i64 ((j : Nat) : Int)) (by kernel_rfl) (by kernel_rfl) ?_
    intro a H
    refine H.val 13 (.bool (decide (((j : Nat) : Int) < 10))) (by kernel_rfl) (by kernel_rfl) ?_
    intro a H
    refine H.val 14 (.bool (decide (((j : Nat) : Int) < 10))) (by kernel_rfl) (by kernel_rfl) ?_
    intro a H
    refine wpList_nil ?_
    have H := H.keep (L' := [(14, (.bool (decide (((j : Nat) : Int) < 10)))), (5, (.int .i64 ((j : Nat) : Int))), (4, (.int .i64 t)), (3, (.slice EA l'.length ec)), (2, (.slice none 0 0)), (0, (.slice A n c))]) (by kernel_rfl)
    refine then_normal ?_
    refine w_if H rfl (fun g14 => ?_) (fun g14 => ?_)
    · have g14p := of_decide_eq_true g14
      refine wp_skip ?_
      refine then_normal ?_
      refine wp_seq ?_
      obtain ⟨b0, off, hA, hbl, ⟨p0, p1, p2, p3, p4⟩, hmem⟩ := IsPcs.get h (j := j) (by omega)
      subst hA
      rw [hX] at p0 p1 p2 p3 p4 hmem
      have hb := hL X hmem
      refine wp_block ?_
      refine w_cut (fun a v => ∃ (bE : Nat), Sl 90 [(6, (.pointer (some ⟨bE, 0, none⟩))), (5, (.int .i64 ((j : Nat) : Int))), (4, (.int .i64 t)), (3, (.slice EA l'.length ec)), (2, (.slice none 0 0)), (0, (.slice (some ⟨b0, off, none⟩) n c))] a ∧ Hp w v [bx bE 63 [(.int .i64 (((j : Nat) : Int) + 1)), (.int .i64 (1 + pickI X.item 5)), (.int .i64 t), (.int .i64 (1 + pickI X.frames 40)), (.int .i64 0), (.int .i64 (255 - 2 * pickI X.regions 4)), (.slice none 0 0)] true, (rowsR w.heap.size 63 7 EvA.cells evOk evFp (.slice EA l'.length ec) l')] [] ∧ (0 ≤ pickI X.frames 40 ∧ pickI X.frames 40 < 40)) ?_ ?_
      ·
        refine An.start (fun v => Hp w v [(rowsR w.heap.size 63 7 EvA.cells evOk evFp (.slice EA l'.length ec) l')] []) 27 28 HP wide_follows rfl ?_
        intro w_2 HP
        refine An.pure H (.inr (HP)) 0 17 (.int .i64 ((j : Nat) : Int)) rfl (by kernel_rfl) (by kernel_rfl) (fun _ _ _ h => h) (fun _ => by kernel_rfl) ?_
        intro a H
        refine An.pureE H (.inr (HP)) 1 18 (.int .i64 (IntKind.i64.wrap (((j : Nat) : Int) + 1))) (.int .i64 (((j : Nat) : Int) + 1)) rfl (by kernel_rfl) (by kernel_rfl) (fun _ _ _ h => h) (fun _ => by kernel_rfl) ((by rw [wrap_ini64 _ (by omega)])) ?_
        intro a H
        refine An.pure H (.inr (HP)) 2 19 (.slice (some ⟨b0, off, none⟩) n c) rfl (by kernel_rfl) (by kernel_rfl) (fun _ _ _ h => h) (fun _ => by kernel_rfl) ?_
        intro a H
        refine An.pure H (.inr (HP)) 3 20 (.int .i64 ((j : Nat) : Int)) rfl (by kernel_rfl) (by kernel_rfl) (fun _ _ _ h => h) (fun _ => by kernel_rfl) ?_
        intro a H
        refine An.pure H (.inr (HP)) 4 21 (.pointer (some ⟨b0, off + j * 5, none⟩)) rfl (by kernel_rfl) (by kernel_rfl) (fun _ _ _ h => h) (fun _ => ex_index (b := b0) (off := off) (len := n) (cap := c) (e := 82) (k := 5) (ik := .i64) (i := ((j : Nat) : Int)) (m := j) (by kernel_rfl) (by kernel_rfl) (by omega) (by omega) (by kernel_rfl) (by kernel_rfl)) ?_
        intro a H
        refine An.pure H (.inr (HP)) 5 22 (.pointer (some ⟨b0, off + j * 5, none⟩)) rfl (by kernel_rfl) (by kernel_rfl) (fun _ _ _ h => h) (fun _ => by kernel_rfl) ?_
        intro a H
        refine An.val H (HP) 6 23 (.int .i64 X.item) rfl (by kernel_rfl) (by kernel_rfl) (fun _ _ _ h => h) (fun _ hS => ex_load1 (by kernel_rfl) (by kernel_rfl) (hS.oldc (by kernel_rfl) p0)) ?_
        intro a H
        refine An.pure H (.inr (HP)) 9 26 (.int .i64 t) rfl (by kernel_rfl) (by kernel_rfl) (fun _ _ _ h => h) (fun _ => by kernel_rfl) ?_
        intro a H
        refine An.pure H (.inr (HP)) 10 27 (.slice (some ⟨b0, off, none⟩) n c) rfl (by kernel_rfl) (by kernel_rfl) (fun _ _ _ h => h) (fun _ => by kernel_rfl) ?_
        intro a H
        refine An.pure H (.inr (HP)) 11 28 (.int .i64 ((j : Nat) : Int)) rfl (by kernel_rfl) (by kernel_rfl) (fun _ _ _ h => h) (fun _ => by kernel_rfl) ?_
        intro a H
        refine An.pure H (.inr (HP)) 12 29 (.pointer (some ⟨b0, off + j * 5, none⟩)) rfl (by kernel_rfl) (by kernel_rfl) (fun _ _ _ h => h) (fun _ => ex_index (b := b0) (off := off) (len := n) (cap := c) (e := 82) (k := 5) (ik := .i64) (i := ((j : Nat) : Int)) (m := j) (by kernel_rfl) (by kernel_rfl) (by omega) (by omega) (by kernel_rfl) (by kernel_rfl)) ?_
        intro a H
        refine An.pure H (.inr (HP)) 13 30 (.pointer (some ⟨b0, off + j * 5 + 1, none⟩)) rfl (by kernel_rfl) (by kernel_rfl) (fun _ _ _ h => h) (fun _ => by kernel_rfl) ?_
        intro a H
        refine An.val H (HP) 14 31 (.int .i64 X.frames) rfl (by kernel_rfl) (by kernel_rfl) (fun _ _ _ h => h) (fun _ hS => ex_load1 (by kernel_rfl) (by kernel_rfl) (hS.oldc (by kernel_rfl) p1)) ?_
        intro a H
        refine An.pure H (.inr (HP)) 17 34 (.slice (some ⟨b0, off, none⟩) n c) rfl (by kernel_rfl) (by kernel_rfl) (fun _ _ _ h => h) (fun _ => by kernel_rfl) ?_
        intro a H
        refine An.pure H (.inr (HP)) 18 35 (.int .i64 ((j : Nat) : Int)) rfl (by kernel_rfl) (by kernel_rfl) (fun _ _ _ h => h) (fun _ => by kernel_rfl) ?_
        intro a H
        refine An.pure H (.inr (HP)) 19 36 (.pointer (some ⟨b0, off + j * 5, none⟩)) rfl (by kernel_rfl) (by kernel_rfl) (fun _ _ _ h => h) (fun _ => ex_index (b := b0) (off := off) (len := n) (cap := c) (e := 82) (k := 5) (ik := .i64) (i := ((j : Nat) : Int)) (m := j) (by kernel_rfl) (by kernel_rfl) (by omega) (by omega) (by kernel_rfl) (by kernel_rfl)) ?_
        intro a H
        refine An.pure H (.inr (HP)) 20 37 (.pointer (some ⟨b0, off + j * 5 + 4, none⟩)) rfl (by kernel_rfl) (by kernel_rfl) (fun _ _ _ h => h) (fun _ => by kernel_rfl) ?_
        intro a H
        refine An.val H (HP) 21 38 (.int .i64 X.regions) rfl (by kernel_rfl) (by kernel_rfl) (fun _ _ _ h => h) (fun _ hS => ex_load1 (by kernel_rfl) (by kernel_rfl) (hS.oldc (by kernel_rfl) p4)) ?_
        intro a H
        refine An.two 7 26 (by kernel_rfl) ?_ ?_
        · refine Op.call H 24 rfl (by kernel_rfl) (Eq.trans (by kernel_rfl : _ = (callFunc 11 #[(.int .i64 X.item), (.int .i64 5)]).run Try.prog w_2) (Try.call11 _ _)) (pick_any X.item 5 w_2 (hb.1) (by omega)) ?_
          rintro e w_4 ⟨rfl, hw⟩
          refine ⟨_, rfl, ?_⟩
          intro a H
          have HP := hw ▸ HP
          have hpk_3 := pickI_lt X.item 5 (by omega)
          refine ⟨.inr (HP), ?_⟩
          refine An.pureE H (.inr (HP)) 8 25 (.int .i64 (IntKind.i64.wrap (1 + (pickI X.item 5)))) (.int .i64 (1 + (pickI X.item 5))) rfl (by kernel_rfl) (by kernel_rfl) (fun _ _ _ h => h) (fun _ => by kernel_rfl) ((by rw [wrap_ini64 _ (by omega)])) ?_
          intro a H
          refine An.two 15 26 (by kernel_rfl) ?_ ?_
          · refine Op.call H 32 rfl (by kernel_rfl) (Eq.trans (by kernel_rfl : _ = (callFunc 11 #[(.int .i64 X.frames), (.int .i64 40)]).run Try.prog w_4) (Try.call11 _ _)) (pick_any X.frames 40 w_4 (hb.2.1) (by omega)) ?_
            rintro e w_6 ⟨rfl, hw⟩
            refine ⟨_, rfl, ?_⟩
            intro a H
            have HP := hw ▸ HP
            have hpk_5 := pickI_lt X.frames 40 (by omega)
            refine ⟨.inr (HP), ?_⟩
            refine An.pureE H (.inr (HP)) 16 33 (.int .i64 (IntKind.i64.wrap (1 + (pickI X.frames 40)))) (.int .i64 (1 + (pickI X.frames 40))) rfl (by kernel_rfl) (by kernel_rfl) (fun _ _ _ h => h) (fun _ => by kernel_rfl) ((by rw [wrap_ini64 _ (by omega)])) ?_
            intro a H
            refine An.two 22 26 (by kernel_rfl) ?_ ?_
            · refine Op.call H 39 rfl (by kernel_rfl) (Eq.trans (by kernel_rfl : _ = (callFunc 11 #[(.int .i64 X.regions), (.int .i64 4)]).run Try.prog w_6) (Try.call11 _ _)) (pick_any X.regions 4 w_6 (hb.2.2.2.2) (by omega)) ?_
              rintro e w_8 ⟨rfl, hw⟩
              refine ⟨_, rfl, ?_⟩
              intro a H
              have HP := hw ▸ HP
              have hpk_7 := pickI_lt X.regions 4 (by omega)
              refine ⟨.inr (HP), ?_⟩
              refine An.pureE H (.inr (HP)) 23 40 (.int .i64 (IntKind.i64.wrap (2 * (pickI X.regions 4)))) (.int .i64 (2 * (pickI X.regions 4))) rfl (by kernel_rfl) (by kernel_rfl) (fun _ _ _ h => h) (fun _ => by kernel_rfl) ((by rw [wrap_ini64 _ (by omega)])) ?_
              intro a H
              refine An.pureE H (.inr (HP)) 24 41 (.int .i64 (IntKind.i64.wrap (255 - (2 * (pickI X.regions 4))))) (.int .i64 (255 - (2 * (pickI X.regions 4)))) rfl (by kernel_rfl) (by kernel_rfl) (fun _ _ _ h => h) (fun _ => by kernel_rfl) ((by rw [wrap_ini64 _ (by omega)])) ?_
              intro a H
              refine An.pure H (.inr (HP)) 25 42 (.agg #[(.int .i64 (((j : Nat) : Int) + 1)), (.int .i64 (1 + (pickI X.item 5))), (.int .i64 t), (.int .i64 (1 + (pickI X.frames 40))), (.int .i64 0), (.int .i64 (255 - (2 * (pickI X.regions 4)))), (.slice none 0 0)]) rfl (by kernel_rfl) (by kernel_rfl) (fun _ _ _ h => h) (fun _ => by kernel_rfl) ?_
              intro a H
              refine An.one 26 (by kernel_rfl) ?_
              refine Op.alloc H HP 6 (fun b => (.pointer (some ⟨b, 0, none⟩))) 63 [(.int .i64 0), (.int .i64 0), (.int .i64 0), (.int .i64 0), (.int .i64 0), (.int .i64 0), (.slice none 0 0)] rfl (by kernel_rfl) (fun w => by kernel_rfl) ?_
              intro b_9 w_10 a H HP
              refine ⟨.inr ((HP.tail rfl)), ?_⟩
              refine An.one 27 (by kernel_rfl) ?_
              refine Op.store H HP 0 b_9 0 7 63 [(.int .i64 0), (.int .i64 0), (.int .i64 0), (.int .i64 0), (.int .i64 0), (.int .i64 0), (.slice none 0 0)] true (.agg #[(.int .i64 (((j : Nat) : Int) + 1)), (.int .i64 (1 + (pickI X.item 5))), (.int .i64 t), (.int .i64 (1 + (pickI X.frames 40))), (.int .i64 0), (.int .i64 (255 - (2 * (pickI X.regions 4)))), (.slice none 0 0)]) [bx b_9 63 [(.int .i64 (((j : Nat) : Int) + 1)), (.int .i64 (1 + (pickI X.item 5))), (.int .i64 t), (.int .i64 (1 + (pickI X.frames 40))), (.int .i64 0), (.int .i64 (255 - (2 * (pickI X.regions 4)))), (.slice none 0 0)] true, (rowsR w.heap.size 63 7 EvA.cells evOk evFp (.slice EA l'.length ec) l')] rfl (by kernel_rfl) (by kernel_rfl) (by kernel_rfl) rfl (by kernel_rfl) (by kernel_rfl) (by kernel_rfl) (by kernel_rfl) (by kernel_rfl) ?_
              intro w_11 a H HP
              refine ⟨.inl (by kernel_rfl), ?_⟩
              refine An.done (by kernel_rfl) ?_
              have H := H.keep (L' := [(6, (.pointer (some ⟨b_9, 0, none⟩))), (14, (.bool (decide (((j : Nat) : Int) < 10)))), (5, (.int .i64 ((j : Nat) : Int))), (4, (.int .i64 t)), (3, (.slice EA l'.length ec)), (2, (.slice none 0 0)), (0, (.slice (some ⟨b0, off, none⟩) n c))]) (by kernel_rfl)
              refine then_normal ?_
              exact ⟨b_9, H.keep (by kernel_rfl), HP, pickI_lt X.frames 40 (by omega)⟩
            · refine Op.alloc H HP 6 (fun b => (.pointer (some ⟨b, 0, none⟩))) 63 [(.int .i64 0), (.int .i64 0), (.int .i64 0), (.int .i64 0), (.int .i64 0), (.int .i64 0), (.slice none 0 0)] rfl (by kernel_rfl) (fun w => by kernel_rfl) ?_
              intro b_12 w_13 a H HP
              refine ⟨.inr ((HP.tail rfl)), ?_⟩
              refine An.one 22 (by kernel_rfl) ?_
              refine Op.call H 39 rfl (by kernel_rfl) (Eq.trans (by kernel_rfl : _ = (callFunc 11 #[(.int .i64 X.regions), (.int .i64 4)]).run Try.prog w_13) (Try.call11 _ _)) (pick_any X.regions 4 w_13 (hb.2.2.2.2) (by omega)) ?_
              rintro e w_15 ⟨rfl, hw⟩
              refine ⟨_, rfl, ?_⟩
              intro a H
              have HP := hw ▸ HP
              have hpk_14 := pickI_lt X.regions 4 (by omega)
              refine ⟨.inr ((HP.tail rfl)), ?_⟩
              refine An.pureE H (.inr ((HP.tail rfl))) 23 40 (.int .i64 (IntKind.i64.wrap (2 * (pickI X.regions 4)))) (.int .i64 (2 * (pickI X.regions 4))) rfl (by kernel_rfl) (by kernel_rfl) (fun _ _ _ h => h) (fun _ => by kernel_rfl) ((by rw [wrap_ini64 _ (by omega)])) ?_
              intro a H
              refine An.pureE H (.inr ((HP.tail rfl))) 24 41 (.int .i64 (IntKind.i64.wrap (255 - (2 * (pickI X.regions 4))))) (.int .i64 (255 - (2 * (pickI X.regions 4)))) rfl (by kernel_rfl) (by kernel_rfl) (fun _ _ _ h => h) (fun _ => by kernel_rfl) ((by rw [wrap_ini64 _ (by omega)])) ?_
              intro a H
              refine An.pure H (.inr ((HP.tail rfl))) 25 42 (.agg #[(.int .i64 (((j : Nat) : Int) + 1)), (.int .i64 (1 + (pickI X.item 5))), (.int .i64 t), (.int .i64 (1 + (pickI X.frames 40))), (.int .i64 0), (.int .i64 (255 - (2 * (pickI X.regions 4)))), (.slice none 0 0)]) rfl (by kernel_rfl) (by kernel_rfl) (fun _ _ _ h => h) (fun _ => by kernel_rfl) ?_
              intro a H
              refine An.one 27 (by kernel_rfl) ?_
              refine Op.store H HP 0 b_12 0 7 63 [(.int .i64 0), (.int .i64 0), (.int .i64 0), (.int .i64 0), (.int .i64 0), (.int .i64 0), (.slice none 0 0)] true (.agg #[(.int .i64 (((j : Nat) : Int) + 1)), (.int .i64 (1 + (pickI X.item 5))), (.int .i64 t), (.int .i64 (1 + (pickI X.frames 40))), (.int .i64 0), (.int .i64 (255 - (2 * (pickI X.regions 4)))), (.slice none 0 0)]) [bx b_12 63 [(.int .i64 (((j : Nat) : Int) + 1)), (.int .i64 (1 + (pickI X.item 5))), (.int .i64 t), (.int .i64 (1 + (pickI X.frames 40))), (.int .i64 0), (.int .i64 (255 - (2 * (pickI X.regions 4)))), (.slice none 0 0)] true, (rowsR w.heap.size 63 7 EvA.cells evOk evFp (.slice EA l'.length ec) l')] rfl (by kernel_rfl) (by kernel_rfl) (by kernel_rfl) rfl (by kernel_rfl) (by kernel_rfl) (by kernel_rfl) (by kernel_rfl) (by kernel_rfl) ?_
              intro w_16 a H HP
              refine ⟨.inl (by kernel_rfl), ?_⟩
              refine An.done (by kernel_rfl) ?_
              have H := H.keep (L' := [(6, (.pointer (some ⟨b_12, 0, none⟩))), (14, (.bool (decide (((j : Nat) : Int) < 10)))), (5, (.int .i64 ((j : Nat) : Int))), (4, (.int .i64 t)), (3, (.slice EA l'.length ec)), (2, (.slice none 0 0)), (0, (.slice (some ⟨b0, off, none⟩) n c))]) (by kernel_rfl)
              refine then_normal ?_
              exact ⟨b_12, H.keep (by kernel_rfl), HP, pickI_lt X.frames 40 (by omega)⟩
          · refine Op.alloc H HP 6 (fun b => (.pointer (some ⟨b, 0, none⟩))) 63 [(.int .i64 0), (.int .i64 0), (.int .i64 0), (.int .i64 0), (.int .i64 0), (.int .i64 0), (.slice none 0 0)] rfl (by kernel_rfl) (fun w => by kernel_rfl) ?_
            intro b_17 w_18 a H HP
            refine ⟨.inr ((HP.tail rfl)), ?_⟩
            refine An.one 15 (by kernel_rfl) ?_
            refine Op.call H 32 rfl (by kernel_rfl) (Eq.trans (by kernel_rfl : _ = (callFunc 11 #[(.int .i64 X.frames), (.int .i64 40)]).run Try.prog w_18) (Try.call11 _ _)) (pick_any X.frames 40 w_18 (hb.2.1) (by omega)) ?_
            rintro e w_20 ⟨rfl, hw⟩
            refine ⟨_, rfl, ?_⟩
            intro a H
            have HP := hw ▸ HP
            have hpk_19 := pickI_lt X.frames 40 (by omega)
            refine ⟨.inr ((HP.tail rfl)), ?_⟩
            refine An.pureE H (.inr ((HP.tail rfl))) 16 33 (.int .i64 (IntKind.i64.wrap (1 + (pickI X.frames 40)))) (.int .i64 (1 + (pickI X.frames 40))) rfl (by kernel_rfl) (by kernel_rfl) (fun _ _ _ h => h) (fun _ => by kernel_rfl) ((by rw [wrap_ini64 _ (by omega)])) ?_
            intro a H
            refine An.one 22 (by kernel_rfl) ?_
            refine Op.call H 39 rfl (by kernel_rfl) (Eq.trans (by kernel_rfl : _ = (callFunc 11 #[(.int .i64 X.regions), (.int .i64 4)]).run Try.prog w_20) (Try.call11 _ _)) (pick_any X.regions 4 w_20 (hb.2.2.2.2) (by omega)) ?_
            rintro e w_22 ⟨rfl, hw⟩
            refine ⟨_, rfl, ?_⟩
            intro a H
            have HP := hw ▸ HP
            have hpk_21 := pickI_lt X.regions 4 (by omega)
            refine ⟨.inr ((HP.tail rfl)), ?_⟩
            refine An.pureE H (.inr ((HP.tail rfl))) 23 40 (.int .i64 (IntKind.i64.wrap (2 * (pickI X.regions 4)))) (.int .i64 (2 * (pickI X.regions 4))) rfl (by kernel_rfl) (by kernel_rfl) (fun _ _ _ h => h) (fun _ => by kernel_rfl) ((by rw [wrap_ini64 _ (by omega)])) ?_
            intro a H
            refine An.pureE H (.inr ((HP.tail rfl))) 24 41 (.int .i64 (IntKind.i64.wrap (255 - (2 * (pickI X.regions 4))))) (.int .i64 (255 - (2 * (pickI X.regions 4)))) rfl (by kernel_rfl) (by kernel_rfl) (fun _ _ _ h => h) (fun _ => by kernel_rfl) ((by rw [wrap_ini64 _ (by omega)])) ?_
            intro a H
            refine An.pure H (.inr ((HP.tail rfl))) 25 42 (.agg #[(.int .i64 (((j : Nat) : Int) + 1)), (.int .i64 (1 + (pickI X.item 5))), (.int .i64 t), (.int .i64 (1 + (pickI X.frames 40))), (.int .i64 0), (.int .i64 (255 - (2 * (pickI X.regions 4)))), (.slice none 0 0)]) rfl (by kernel_rfl) (by kernel_rfl) (fun _ _ _ h => h) (fun _ => by kernel_rfl) ?_
            intro a H
            refine An.one 27 (by kernel_rfl) ?_
            refine Op.store H HP 0 b_17 0 7 63 [(.int .i64 0), (.int .i64 0), (.int .i64 0), (.int .i64 0), (.int .i64 0), (.int .i64 0), (.slice none 0 0)] true (.agg #[(.int .i64 (((j : Nat) : Int) + 1)), (.int .i64 (1 + (pickI X.item 5))), (.int .i64 t), (.int .i64 (1 + (pickI X.frames 40))), (.int .i64 0), (.int .i64 (255 - (2 * (pickI X.regions 4)))), (.slice none 0 0)]) [bx b_17 63 [(.int .i64 (((j : Nat) : Int) + 1)), (.int .i64 (1 + (pickI X.item 5))), (.int .i64 t), (.int .i64 (1 + (pickI X.frames 40))), (.int .i64 0), (.int .i64 (255 - (2 * (pickI X.regions 4)))), (.slice none 0 0)] true, (rowsR w.heap.size 63 7 EvA.cells evOk evFp (.slice EA l'.length ec) l')] rfl (by kernel_rfl) (by kernel_rfl) (by kernel_rfl) rfl (by kernel_rfl) (by kernel_rfl) (by kernel_rfl) (by kernel_rfl) (by kernel_rfl) ?_
            intro w_23 a H HP
            refine ⟨.inl (by kernel_rfl), ?_⟩
            refine An.done (by kernel_rfl) ?_
            have H := H.keep (L' := [(6, (.pointer (some ⟨b_17, 0, none⟩))), (14, (.bool (decide (((j : Nat) : Int) < 10)))), (5, (.int .i64 ((j : Nat) : Int))), (4, (.int .i64 t)), (3, (.slice EA l'.length ec)), (2, (.slice none 0 0)), (0, (.slice (some ⟨b0, off, none⟩) n c))]) (by kernel_rfl)
            refine then_normal ?_
            exact ⟨b_17, H.keep (by kernel_rfl), HP, pickI_lt X.frames 40 (by omega)⟩
        · refine Op.alloc H HP 6 (fun b => (.pointer (some ⟨b, 0, none⟩))) 63 [(.int .i64 0), (.int .i64 0), (.int .i64 0), (.int .i64 0), (.int .i64 0), (.int .i64 0), (.slice none 0 0)] rfl (by kernel_rfl) (fun w => by kernel_rfl) ?_
          intro b_24 w_25 a H HP
          refine ⟨.inr ((HP.tail rfl)), ?_⟩
          refine An.one 7 (by kernel_rfl) ?_
          refine Op.call H 24 rfl (by kernel_rfl) (Eq.trans (by kernel_rfl : _ = (callFunc 11 #[(.int .i64 X.item), (.int .i64 5)]).run Try.prog w_25) (Try.call11 _ _)) (pick_any X.item 5 w_25 (hb.1) (by omega)) ?_
          rintro e w_27 ⟨rfl, hw⟩
          refine ⟨_, rfl, ?_⟩
          intro a H
          have HP := hw ▸ HP
          have hpk_26 := pickI_lt X.item 5 (by omega)
          refine ⟨.inr ((HP.tail rfl)), ?_⟩
          refine An.pureE H (.inr ((HP.tail rfl))) 8 25 (.int .i64 (IntKind.i64.wrap (1 + (pickI X.item 5)))) (.int .i64 (1 + (pickI X.item 5))) rfl (by kernel_rfl) (by kernel_rfl) (fun _ _ _ h => h) (fun _ => by kernel_rfl) ((by rw [wrap_ini64 _ (by omega)])) ?_
          intro a H
          refine An.one 15 (by kernel_rfl) ?_
          refine Op.call H 32 rfl (by kernel_rfl) (Eq.trans (by kernel_rfl : _ = (callFunc 11 #[(.int .i64 X.frames), (.int .i64 40)]).run Try.prog w_27) (Try.call11 _ _)) (pick_any X.frames 40 w_27 (hb.2.1) (by omega)) ?_
          rintro e w_29 ⟨rfl, hw⟩
          refine ⟨_, rfl, ?_⟩
          intro a H
          have HP := hw ▸ HP
          have hpk_28 := pickI_lt X.frames 40 (by omega)
          refine ⟨.inr ((HP.tail rfl)), ?_⟩
          refine An.pureE H (.inr ((HP.tail rfl))) 16 33 (.int .i64 (IntKind.i64.wrap (1 + (pickI X.frames 40)))) (.int .i64 (1 + (pickI X.frames 40))) rfl (by kernel_rfl) (by kernel_rfl) (fun _ _ _ h => h) (fun _ => by kernel_rfl) ((by rw [wrap_ini64 _ (by omega)])) ?_
          intro a H
          refine An.one 22 (by kernel_rfl) ?_
          refine Op.call H 39 rfl (by kernel_rfl) (Eq.trans (by kernel_rfl : _ = (callFunc 11 #[(.int .i64 X.regions), (.int .i64 4)]).run Try.prog w_29) (Try.call11 _ _)) (pick_any X.regions 4 w_29 (hb.2.2.2.2) (by omega)) ?_
          rintro e w_31 ⟨rfl, hw⟩
          refine ⟨_, rfl, ?_⟩
          intro a H
          have HP := hw ▸ HP
          have hpk_30 := pickI_lt X.regions 4 (by omega)
          refine ⟨.inr ((HP.tail rfl)), ?_⟩
          refine An.pureE H (.inr ((HP.tail rfl))) 23 40 (.int .i64 (IntKind.i64.wrap (2 * (pickI X.regions 4)))) (.int .i64 (2 * (pickI X.regions 4))) rfl (by kernel_rfl) (by kernel_rfl) (fun _ _ _ h => h) (fun _ => by kernel_rfl) ((by rw [wrap_ini64 _ (by omega)])) ?_
          intro a H
          refine An.pureE H (.inr ((HP.tail rfl))) 24 41 (.int .i64 (IntKind.i64.wrap (255 - (2 * (pickI X.regions 4))))) (.int .i64 (255 - (2 * (pickI X.regions 4)))) rfl (by kernel_rfl) (by kernel_rfl) (fun _ _ _ h => h) (fun _ => by kernel_rfl) ((by rw [wrap_ini64 _ (by omega)])) ?_
          intro a H
          refine An.pure H (.inr ((HP.tail rfl))) 25 42 (.agg #[(.int .i64 (((j : Nat) : Int) + 1)), (.int .i64 (1 + (pickI X.item 5))), (.int .i64 t), (.int .i64 (1 + (pickI X.frames 40))), (.int .i64 0), (.int .i64 (255 - (2 * (pickI X.regions 4)))), (.slice none 0 0)]) rfl (by kernel_rfl) (by kernel_rfl) (fun _ _ _ h => h) (fun _ => by kernel_rfl) ?_
          intro a H
          refine An.one 27 (by kernel_rfl) ?_
          refine Op.store H HP 0 b_24 0 7 63 [(.int .i64 0), (.int .i64 0), (.int .i64 0), (.int .i64 0), (.int .i64 0), (.int .i64 0), (.slice none 0 0)] true (.agg #[(.int .i64 (((j : Nat) : Int) + 1)), (.int .i64 (1 + (pickI X.item 5))), (.int .i64 t), (.int .i64 (1 + (pickI X.frames 40))), (.int .i64 0), (.int .i64 (255 - (2 * (pickI X.regions 4)))), (.slice none 0 0)]) [bx b_24 63 [(.int .i64 (((j : Nat) : Int) + 1)), (.int .i64 (1 + (pickI X.item 5))), (.int .i64 t), (.int .i64 (1 + (pickI X.frames 40))), (.int .i64 0), (.int .i64 (255 - (2 * (pickI X.regions 4)))), (.slice none 0 0)] true, (rowsR w.heap.size 63 7 EvA.cells evOk evFp (.slice EA l'.length ec) l')] rfl (by kernel_rfl) (by kernel_rfl) (by kernel_rfl) rfl (by kernel_rfl) (by kernel_rfl) (by kernel_rfl) (by kernel_rfl) (by kernel_rfl) ?_
          intro w_32 a H HP
          refine ⟨.inl (by kernel_rfl), ?_⟩
          refine An.done (by kernel_rfl) ?_
          have H := H.keep (L' := [(6, (.pointer (some ⟨b_24, 0, none⟩))), (14, (.bool (decide (((j : Nat) : Int) < 10)))), (5, (.int .i64 ((j : Nat) : Int))), (4, (.int .i64 t)), (3, (.slice EA l'.length ec)), (2, (.slice none 0 0)), (0, (.slice (some ⟨b0, off, none⟩) n c))]) (by kernel_rfl)
          refine then_normal ?_
          exact ⟨b_24, H.keep (by kernel_rfl), HP, pickI_lt X.frames 40 (by omega)⟩
      ·
        rintro a w_33 ⟨bE, H, HP, hk1⟩
        refine wp_seq ?_
        refine wp_seq ?_
        have HP := HP.nilRow w.heap.size 69 2 altCells (fun _ _ => True) (fun _ _ => False) elOk_flat
        refine w_region ?_
        refine H.val 43 (.slice (some ⟨b0, off, none⟩) n c) (by kernel_rfl) (by kernel_rfl) ?_
        intro a H
        refine H.val 44 (.int .i64 ((j : Nat) : Int)) (by kernel_rfl) (by kernel_rfl) ?_
        intro a H
        refine H.val 45 (.pointer (some ⟨b0, off + j * 5, none⟩)) (by kernel_rfl) (ex_index (b := b0) (off := off) (len := n) (cap := c) (e := 82) (k := 5) (ik := .i64) (i := ((j : Nat) : Int)) (m := j) (by kernel_rfl) (by kernel_rfl) (by omega) (by omega) (by kernel_rfl) (by kernel_rfl)) ?_
        intro a H
        refine H.val 46 (.pointer (some ⟨b0, off + j * 5 + 2, none⟩)) (by kernel_rfl) (by kernel_rfl) ?_
        intro a H
        refine H.val 47 (.int .i64 X.one) (by kernel_rfl) (ex_load1 (by kernel_rfl) (by kernel_rfl) (HP.oldc (by kernel_rfl) p2)) ?_
        intro a H
        refine H.call 48 (by kernel_rfl) (Eq.trans (by kernel_rfl : _ = (callFunc 11 #[(.int .i64 X.one), (.int .i64 6)]).run Try.prog w_33) (Try.call11 _ _)) (pick_any X.one 6 w_33 (hb.2.2.1) (by omega)) ?_
        rintro e w_35 ⟨rfl, hw⟩
        refine ⟨_, rfl, ?_⟩
        intro a H
        have HP := hw ▸ HP
        have hpk_34 := pickI_lt X.one 6 (by omega)
        refine H.val 49 (.bool (decide ((pickI X.one 6) > 0))) (by kernel_rfl) (by kernel_rfl) ?_
        intro a H
        refine wpList_nil ?_
        have H := H.keep (L' := [(49, (.bool (decide ((pickI X.one 6) > 0)))), (6, (.pointer (some ⟨bE, 0, none⟩))), (5, (.int .i64 ((j : Nat) : Int))), (4, (.int .i64 t)), (3, (.slice EA l'.length ec)), (2, (.slice none 0 0)), (0, (.slice (some ⟨b0, off, none⟩) n c))]) (by kernel_rfl)
        refine then_normal ?_
        refine w_if H rfl (fun g49 => ?_) (fun g49 => ?_)
        · have g49p := of_decide_eq_true g49
          have HP := HP.front 0 rfl [(rowsR w.heap.size 69 2 altCells (fun _ _ => True) (fun _ _ => False) (.slice none 0 0) ([] : List (Int × Int))), bx bE 63 [(.int .i64 (((j : Nat) : Int) + 1)), (.int .i64 (1 + pickI X.item 5)), (.int .i64 t), (.int .i64 (1 + pickI X.frames 40)), (.int .i64 0), (.int .i64 (255 - 2 * pickI X.regions 4)), (.slice none 0 0)] true, (rowsR w.heap.size 63 7 EvA.cells evOk evFp (.slice EA l'.length ec) l')] (by kernel_rfl)
          refine An.start (fun v => Hp w v [bx bE 63 [(.int .i64 (((j : Nat) : Int) + 1)), (.int .i64 (1 + pickI X.item 5)), (.int .i64 t), (.int .i64 (1 + pickI X.frames 40)), (.int .i64 0), (.int .i64 (255 - 2 * pickI X.regions 4)), (.slice none 0 0)] true, (rowsR w.heap.size 63 7 EvA.cells evOk evFp (.slice EA l'.length ec) l')] []) 12 13 HP wide_follows rfl ?_
          intro w_36 HP
          refine An.pure H (.inr ((HP.tail rfl))) 0 50 (.pointer (some ⟨bE, 6, none⟩)) rfl (by kernel_rfl) (by kernel_rfl) (fun _ _ _ h => h) (fun _ => by kernel_rfl) ?_
          intro a H
          refine An.val H ((HP.tail rfl)) 1 51 (.slice none 0 0) rfl (by kernel_rfl) (by kernel_rfl) (fun _ _ _ h => h) (fun _ hS => ex_load1 (by kernel_rfl) (by kernel_rfl) (hS.cell 0 rfl 6 rfl)) ?_
          intro a H
          refine An.pure H (.inr ((HP.tail rfl))) 2 52 (.slice (some ⟨b0, off, none⟩) n c) rfl (by kernel_rfl) (by kernel_rfl) (fun _ _ _ h => h) (fun _ => by kernel_rfl) ?_
          intro a H
          refine An.pure H (.inr ((HP.tail rfl))) 3 53 (.int .i64 ((j : Nat) : Int)) rfl (by kernel_rfl) (by kernel_rfl) (fun _ _ _ h => h) (fun _ => by kernel_rfl) ?_
          intro a H
          refine An.pure H (.inr ((HP.tail rfl))) 4 54 (.pointer (some ⟨b0, off + j * 5, none⟩)) rfl (by kernel_rfl) (by kernel_rfl) (fun _ _ _ h => h) (fun _ => ex_index (b := b0) (off := off) (len := n) (cap := c) (e := 82) (k := 5) (ik := .i64) (i := ((j : Nat) : Int)) (m := j) (by kernel_rfl) (by kernel_rfl) (by omega) (by omega) (by kernel_rfl) (by kernel_rfl)) ?_
          intro a H
          refine An.pure H (.inr ((HP.tail rfl))) 5 55 (.pointer (some ⟨b0, off + j * 5 + 2, none⟩)) rfl (by kernel_rfl) (by kernel_rfl) (fun _ _ _ h => h) (fun _ => by kernel_rfl) ?_
          intro a H
          refine An.val H ((HP.tail rfl)) 6 56 (.int .i64 X.one) rfl (by kernel_rfl) (by kernel_rfl) (fun _ _ _ h => h) (fun _ hS => ex_load1 (by kernel_rfl) (by kernel_rfl) (hS.oldc (by kernel_rfl) p2)) ?_
          intro a H
          refine An.one 7 (by kernel_rfl) ?_
          refine Op.call H 57 rfl (by kernel_rfl) (Eq.trans (by kernel_rfl : _ = (callFunc 11 #[(.int .i64 X.one), (.int .i64 6)]).run Try.prog w_36) (Try.call11 _ _)) (pick_any X.one 6 w_36 (hb.2.2.1) (by omega)) ?_
          rintro e w_38 ⟨rfl, hw⟩
          refine ⟨_, rfl, ?_⟩
          intro a H
          have HP := hw ▸ HP
          have hpk_37 := pickI_lt X.one 6 (by omega)
          refine ⟨.inr ((HP.tail rfl)), ?_⟩
          refine An.pure H (.inr ((HP.tail rfl))) 8 58 (.agg #[(.int .i64 1), (.int .i64 (pickI X.one 6))]) rfl (by kernel_rfl) (by kernel_rfl) (fun _ _ _ h => h) (fun _ => by kernel_rfl) ?_
          intro a H
          refine An.one 9 (by kernel_rfl) ?_
          refine Op.alloc H HP 59 (fun b => (.slice (some ⟨b, 0, none⟩) 1 1)) 69 [(.int .i64 1), (.int .i64 (pickI X.one 6))] rfl (by kernel_rfl) (fun w => by kernel_rfl) ?_
          intro b_39 w_40 a H HP
          refine ⟨.inr (((HP.tail rfl).tail rfl)), ?_⟩
          refine An.one 10 (by kernel_rfl) ?_
          have HP := HP.pend0 1 rfl elOk_flat ((1, pickI X.one 6) : Int × Int) [bx b_39 69 [(.int .i64 1), (.int .i64 (pickI X.one 6))] true, (rowsP w.heap.size 69 2 altCells (fun _ _ => True) (fun _ _ => False) (.slice none 0 0) ([] : List (Int × Int)) ((1, pickI X.one 6) : Int × Int)), bx bE 63 [(.int .i64 (((j : Nat) : Int) + 1)), (.int .i64 (1 + pickI X.item 5)), (.int .i64 t), (.int .i64 (1 + pickI X.frames 40)), (.int .i64 0), (.int .i64 (255 - 2 * pickI X.regions 4)), (.slice none 0 0)] true, (rowsR w.heap.size 63 7 EvA.cells evOk evFp (.slice EA l'.length ec) l')] (by kernel_rfl) trivial (fun _ h => h)
          refine Op.push H HP 60 1 0 (v := (.slice none 0 0)) (e := 69) (p := ((1, pickI X.one 6) : Int × Int)) (l := ([] : List (Int × Int))) (cs := altCells) (ok := (fun _ _ => True)) (fe := (fun _ _ => False)) (size := 2) (z := (.agg #[.int .i64 0, .int .i64 0])) (bytes := 16) (bb := b_39) (tb := 69) (fb := true) rfl (by kernel_rfl) elOk_flat (by kernel_rfl) (by kernel_rfl) rfl (by kernel_rfl) (by kernel_rfl) (by kernel_rfl) (by kernel_rfl) (by kernel_rfl) rfl (by kernel_rfl) (by simp [maxLen]) (by simp) ?_
          intro B_41 c_42 w_43 a H HP
          have HP : Hp w w_43 [bx b_39 69 [(.int .i64 1), (.int .i64 (pickI X.one 6))] true, (rowsR w.heap.size 69 2 altCells (fun _ _ => True) (fun _ _ => False) (.slice B_41 (([] : List (Int × Int)).length + 1) c_42) (([] : List (Int × Int)) ++ [((1, pickI X.one 6) : Int × Int)])), bx bE 63 [(.int .i64 (((j : Nat) : Int) + 1)), (.int .i64 (1 + pickI X.item 5)), (.int .i64 t), (.int .i64 (1 + pickI X.frames 40)), (.int .i64 0), (.int .i64 (255 - 2 * pickI X.regions 4)), (.slice none 0 0)] true, (rowsR w.heap.size 63 7 EvA.cells evOk evFp (.slice EA l'.length ec) l')] [] := HP
          refine ⟨.inr (((HP.tail rfl).tail rfl)), ?_⟩
          refine An.pure H (.inr (((HP.tail rfl).tail rfl))) 11 61 (.pointer (some ⟨bE, 6, none⟩)) rfl (by kernel_rfl) (by kernel_rfl) (fun _ _ _ h => h) (fun _ => by kernel_rfl) ?_
          intro a H
          refine An.one 12 (by kernel_rfl) ?_
          refine Op.store H HP 2 bE 6 1 63 [(.int .i64 (((j : Nat) : Int) + 1)), (.int .i64 (1 + pickI X.item 5)), (.int .i64 t), (.int .i64 (1 + pickI X.frames 40)), (.int .i64 0), (.int .i64 (255 - 2 * pickI X.regions 4)), (.slice none 0 0)] true (.slice B_41 (([] : List (Int × Int)).length + 1) c_42) [bx b_39 69 [(.int .i64 1), (.int .i64 (pickI X.one 6))] true, (rowsR w.heap.size 69 2 altCells (fun _ _ => True) (fun _ _ => False) (.slice B_41 (([] : List (Int × Int)).length + 1) c_42) (([] : List (Int × Int)) ++ [((1, pickI X.one 6) : Int × Int)])), bx bE 63 [(.int .i64 (((j : Nat) : Int) + 1)), (.int .i64 (1 + pickI X.item 5)), (.int .i64 t), (.int .i64 (1 + pickI X.frames 40)), (.int .i64 0), (.int .i64 (255 - 2 * pickI X.regions 4)), (.slice B_41 (([] : List (Int × Int)).length + 1) c_42)] true, (rowsR w.heap.size 63 7 EvA.cells evOk evFp (.slice EA l'.length ec) l')] rfl (by kernel_rfl) (by kernel_rfl) (by kernel_rfl) rfl (by kernel_rfl) (by kernel_rfl) (by kernel_rfl) (by kernel_rfl) (by kernel_rfl) ?_
          intro w_44 a H HP
          refine ⟨.inl (by kernel_rfl), ?_⟩
          refine An.done (by kernel_rfl) ?_
          have H := H.keep (L' := [(49, (.bool (decide ((pickI X.one 6) > 0)))), (6, (.pointer (some ⟨bE, 0, none⟩))), (5, (.int .i64 ((j : Nat) : Int))), (4, (.int .i64 t)), (3, (.slice EA l'.length ec)), (2, (.slice none 0 0)), (0, (.slice (some ⟨b0, off, none⟩) n c))]) (by kernel_rfl)
          refine then_normal ?_
          refine wp_seq ?_
          refine wp_seq ?_
          refine w_region ?_
          refine H.val 62 (.slice (some ⟨b0, off, none⟩) n c) (by kernel_rfl) (by kernel_rfl) ?_
          intro a H
          refine H.val 63 (.int .i64 ((j : Nat) : Int)) (by kernel_rfl) (by kernel_rfl) ?_
          intro a H
          refine H.val 64 (.pointer (some ⟨b0, off + j * 5, none⟩)) (by kernel_rfl) (ex_index (b := b0) (off := off) (len := n) (cap := c) (e := 82) (k := 5) (ik := .i64) (i := ((j : Nat) : Int)) (m := j) (by kernel_rfl) (by kernel_rfl) (by omega) (by omega) (by kernel_rfl) (by kernel_rfl)) ?_
          intro a H
          refine H.val 65 (.pointer (some ⟨b0, off + j * 5 + 3, none⟩)) (by kernel_rfl) (by kernel_rfl) ?_
          intro a H
          refine H.val 66 (.int .i64 X.two) (by kernel_rfl) (ex_load1 (by kernel_rfl) (by kernel_rfl) (HP.oldc (by kernel_rfl) p3)) ?_
          intro a H
          refine H.call 67 (by kernel_rfl) (Eq.trans (by kernel_rfl : _ = (callFunc 11 #[(.int .i64 X.two), (.int .i64 6)]).run Try.prog w_44) (Try.call11 _ _)) (pick_any X.two 6 w_44 (hb.2.2.2.1) (by omega)) ?_
          rintro e w_46 ⟨rfl, hw⟩
          refine ⟨_, rfl, ?_⟩
          intro a H
          have HP := hw ▸ HP
          have hpk_45 := pickI_lt X.two 6 (by omega)
          refine H.val 68 (.bool (decide ((pickI X.two 6) > 0))) (by kernel_rfl) (by kernel_rfl) ?_
          intro a H
          refine wpList_nil ?_
          have H := H.keep (L' := [(68, (.bool (decide ((pickI X.two 6) > 0)))), (49, (.bool (decide ((pickI X.one 6) > 0)))), (6, (.pointer (some ⟨bE, 0, none⟩))), (5, (.int .i64 ((j : Nat) : Int))), (4, (.int .i64 t)), (3, (.slice EA l'.length ec)), (2, (.slice none 0 0)), (0, (.slice (some ⟨b0, off, none⟩) n c))]) (by kernel_rfl)
          refine then_normal ?_
          refine w_if H rfl (fun g68 => ?_) (fun g68 => ?_)
          · have g68p := of_decide_eq_true g68
            have HP := HP.front 1 rfl [(rowsR w.heap.size 69 2 altCells (fun _ _ => True) (fun _ _ => False) (.slice B_41 (([] : List (Int × Int)).length + 1) c_42) (([] : List (Int × Int)) ++ [((1, pickI X.one 6) : Int × Int)])), bx b_39 69 [(.int .i64 1), (.int .i64 (pickI X.one 6))] true, bx bE 63 [(.int .i64 (((j : Nat) : Int) + 1)), (.int .i64 (1 + pickI X.item 5)), (.int .i64 t), (.int .i64 (1 + pickI X.frames 40)), (.int .i64 0), (.int .i64 (255 - 2 * pickI X.regions 4)), (.slice B_41 (([] : List (Int × Int)).length + 1) c_42)] true, (rowsR w.heap.size 63 7 EvA.cells evOk evFp (.slice EA l'.length ec) l')] (by kernel_rfl)
            refine An.start (fun v => Hp w v [bx b_39 69 [(.int .i64 1), (.int .i64 (pickI X.one 6))] true, bx bE 63 [(.int .i64 (((j : Nat) : Int) + 1)), (.int .i64 (1 + pickI X.item 5)), (.int .i64 t), (.int .i64 (1 + pickI X.frames 40)), (.int .i64 0), (.int .i64 (255 - 2 * pickI X.regions 4)), (.slice B_41 (([] : List (Int × Int)).length + 1) c_42)] true, (rowsR w.heap.size 63 7 EvA.cells evOk evFp (.slice EA l'.length ec) l')] []) 12 13 HP wide_follows rfl ?_
            intro w_47 HP
            refine An.pure H (.inr ((HP.tail rfl))) 0 69 (.pointer (some ⟨bE, 6, none⟩)) rfl (by kernel_rfl) (by kernel_rfl) (fun _ _ _ h => h) (fun _ => by kernel_rfl) ?_
            intro a H
            refine An.val H ((HP.tail rfl)) 1 70 (.slice B_41 (([] : List (Int × Int)).length + 1) c_42) rfl (by kernel_rfl) (by kernel_rfl) (fun _ _ _ h => h) (fun _ hS => ex_load1 (by kernel_rfl) (by kernel_rfl) (hS.cell 1 rfl 6 rfl)) ?_
            intro a H
            refine An.pure H (.inr ((HP.tail rfl))) 2 71 (.slice (some ⟨b0, off, none⟩) n c) rfl (by kernel_rfl) (by kernel_rfl) (fun _ _ _ h => h) (fun _ => by kernel_rfl) ?_
            intro a H
            refine An.pure H (.inr ((HP.tail rfl))) 3 72 (.int .i64 ((j : Nat) : Int)) rfl (by kernel_rfl) (by kernel_rfl) (fun _ _ _ h => h) (fun _ => by kernel_rfl) ?_
            intro a H
            refine An.pure H (.inr ((HP.tail rfl))) 4 73 (.pointer (some ⟨b0, off + j * 5, none⟩)) rfl (by kernel_rfl) (by kernel_rfl) (fun _ _ _ h => h) (fun _ => ex_index (b := b0) (off := off) (len := n) (cap := c) (e := 82) (k := 5) (ik := .i64) (i := ((j : Nat) : Int)) (m := j) (by kernel_rfl) (by kernel_rfl) (by omega) (by omega) (by kernel_rfl) (by kernel_rfl)) ?_
            intro a H
            refine An.pure H (.inr ((HP.tail rfl))) 5 74 (.pointer (some ⟨b0, off + j * 5 + 3, none⟩)) rfl (by kernel_rfl) (by kernel_rfl) (fun _ _ _ h => h) (fun _ => by kernel_rfl) ?_
            intro a H
            refine An.val H ((HP.tail rfl)) 6 75 (.int .i64 X.two) rfl (by kernel_rfl) (by kernel_rfl) (fun _ _ _ h => h) (fun _ hS => ex_load1 (by kernel_rfl) (by kernel_rfl) (hS.oldc (by kernel_rfl) p3)) ?_
            intro a H
            refine An.one 7 (by kernel_rfl) ?_
            refine Op.call H 76 rfl (by kernel_rfl) (Eq.trans (by kernel_rfl : _ = (callFunc 11 #[(.int .i64 X.two), (.int .i64 6)]).run Try.prog w_47) (Try.call11 _ _)) (pick_any X.two 6 w_47 (hb.2.2.2.1) (by omega)) ?_
            rintro e w_49 ⟨rfl, hw⟩
            refine ⟨_, rfl, ?_⟩
            intro a H
            have HP := hw ▸ HP
            have hpk_48 := pickI_lt X.two 6 (by omega)
            refine ⟨.inr ((HP.tail rfl)), ?_⟩
            refine An.pure H (.inr ((HP.tail rfl))) 8 77 (.agg #[(.int .i64 2), (.int .i64 (pickI X.two 6))]) rfl (by kernel_rfl) (by kernel_rfl) (fun _ _ _ h => h) (fun _ => by kernel_rfl) ?_
            intro a H
            refine An.one 9 (by kernel_rfl) ?_
            refine Op.alloc H HP 78 (fun b => (.slice (some ⟨b, 0, none⟩) 1 1)) 69 [(.int .i64 2), (.int .i64 (pickI X.two 6))] rfl (by kernel_rfl) (fun w => by kernel_rfl) ?_
            intro b_50 w_51 a H HP
            refine ⟨.inr (((HP.tail rfl).tail rfl)), ?_⟩
            refine An.one 10 (by kernel_rfl) ?_
            have HP := HP.pend0 1 rfl elOk_flat ((2, pickI X.two 6) : Int × Int) [bx b_50 69 [(.int .i64 2), (.int .i64 (pickI X.two 6))] true, (rowsP w.heap.size 69 2 altCells (fun _ _ => True) (fun _ _ => False) (.slice B_41 (([] : List (Int × Int)).length + 1) c_42) (([] : List (Int × Int)) ++ [((1, pickI X.one 6) : Int × Int)]) ((2, pickI X.two 6) : Int × Int)), bx b_39 69 [(.int .i64 1), (.int .i64 (pickI X.one 6))] true, bx bE 63 [(.int .i64 (((j : Nat) : Int) + 1)), (.int .i64 (1 + pickI X.item 5)), (.int .i64 t), (.int .i64 (1 + pickI X.frames 40)), (.int .i64 0), (.int .i64 (255 - 2 * pickI X.regions 4)), (.slice B_41 (([] : List (Int × Int)).length + 1) c_42)] true, (rowsR w.heap.size 63 7 EvA.cells evOk evFp (.slice EA l'.length ec) l')] (by kernel_rfl) trivial (fun _ h => h)
            refine Op.push H HP 79 1 0 (v := (.slice B_41 (([] : List (Int × Int)).length + 1) c_42)) (e := 69) (p := ((2, pickI X.two 6) : Int × Int)) (l := (([] : List (Int × Int)) ++ [((1, pickI X.one 6) : Int × Int)])) (cs := altCells) (ok := (fun _ _ => True)) (fe := (fun _ _ => False)) (size := 2) (z := (.agg #[.int .i64 0, .int .i64 0])) (bytes := 16) (bb := b_50) (tb := 69) (fb := true) rfl (by kernel_rfl) elOk_flat (by kernel_rfl) (by kernel_rfl) rfl (by kernel_rfl) (by kernel_rfl) (by kernel_rfl) (by kernel_rfl) (by kernel_rfl) rfl (by kernel_rfl) (by simp [maxLen]) (by simp) ?_
            intro B_52 c_53 w_54 a H HP
            have HP : Hp w w_54 [bx b_50 69 [(.int .i64 2), (.int .i64 (pickI X.two 6))] true, (rowsR w.heap.size 69 2 altCells (fun _ _ => True) (fun _ _ => False) (.slice B_52 ((([] : List (Int × Int)) ++ [((1, pickI X.one 6) : Int × Int)]).length + 1) c_53) (([] : List (Int × Int)) ++ [((1, pickI X.one 6) : Int × Int)] ++ [((2, pickI X.two 6) : Int × Int)])), bx b_39 69 [(.int .i64 1), (.int .i64 (pickI X.one 6))] true, bx bE 63 [(.int .i64 (((j : Nat) : Int) + 1)), (.int .i64 (1 + pickI X.item 5)), (.int .i64 t), (.int .i64 (1 + pickI X.frames 40)), (.int .i64 0), (.int .i64 (255 - 2 * pickI X.regions 4)), (.slice B_41 (([] : List (Int × Int)).length + 1) c_42)] true, (rowsR w.heap.size 63 7 EvA.cells evOk evFp (.slice EA l'.length ec) l')] [] := HP
            refine ⟨.inr (((HP.tail rfl).tail rfl)), ?_⟩
            refine An.pure H (.inr (((HP.tail rfl).tail rfl))) 11 80 (.pointer (some ⟨bE, 6, none⟩)) rfl (by kernel_rfl) (by kernel_rfl) (fun _ _ _ h => h) (fun _ => by kernel_rfl) ?_
            intro a H
            refine An.one 12 (by kernel_rfl) ?_
            refine Op.store H HP 3 bE 6 1 63 [(.int .i64 (((j : Nat) : Int) + 1)), (.int .i64 (1 + pickI X.item 5)), (.int .i64 t), (.int .i64 (1 + pickI X.frames 40)), (.int .i64 0), (.int .i64 (255 - 2 * pickI X.regions 4)), (.slice B_41 (([] : List (Int × Int)).length + 1) c_42)] true (.slice B_52 ((([] : List (Int × Int)) ++ [((1, pickI X.one 6) : Int × Int)]).length + 1) c_53) [bx b_50 69 [(.int .i64 2), (.int .i64 (pickI X.two 6))] true, (rowsR w.heap.size 69 2 altCells (fun _ _ => True) (fun _ _ => False) (.slice B_52 ((([] : List (Int × Int)) ++ [((1, pickI X.one 6) : Int × Int)]).length + 1) c_53) (([] : List (Int × Int)) ++ [((1, pickI X.one 6) : Int × Int)] ++ [((2, pickI X.two 6) : Int × Int)])), bx b_39 69 [(.int .i64 1), (.int .i64 (pickI X.one 6))] true, bx bE 63 [(.int .i64 (((j : Nat) : Int) + 1)), (.int .i64 (1 + pickI X.item 5)), (.int .i64 t), (.int .i64 (1 + pickI X.frames 40)), (.int .i64 0), (.int .i64 (255 - 2 * pickI X.regions 4)), (.slice B_52 ((([] : List (Int × Int)) ++ [((1, pickI X.one 6) : Int × Int)]).length + 1) c_53)] true, (rowsR w.heap.size 63 7 EvA.cells evOk evFp (.slice EA l'.length ec) l')] rfl (by kernel_rfl) (by kernel_rfl) (by kernel_rfl) rfl (by kernel_rfl) (by kernel_rfl) (by kernel_rfl) (by kernel_rfl) (by kernel_rfl) ?_
            intro w_55 a H HP
            refine ⟨.inl (by kernel_rfl), ?_⟩
            refine An.done (by kernel_rfl) ?_
            have H := H.keep (L' := [(68, (.bool (decide ((pickI X.two 6) > 0)))), (49, (.bool (decide ((pickI X.one 6) > 0)))), (6, (.pointer (some ⟨bE, 0, none⟩))), (5, (.int .i64 ((j : Nat) : Int))), (4, (.int .i64 t)), (3, (.slice EA l'.length ec)), (2, (.slice none 0 0)), (0, (.slice (some ⟨b0, off, none⟩) n c))]) (by kernel_rfl)
            refine then_normal ?_
            refine wp_seq ?_
            refine w_region ?_
            refine H.val 81 (.slice EA l'.length ec) (by kernel_rfl) (by kernel_rfl) ?_
            intro a H
            refine H.val 82 (.agg #[(.int .i64 (((j : Nat) : Int) + 1)), (.int .i64 (1 + pickI X.item 5)), (.int .i64 t), (.int .i64 (1 + pickI X.frames 40)), (.int .i64 0), (.int .i64 (255 - 2 * pickI X.regions 4)), (.slice B_52 ((([] : List (Int × Int)) ++ [((1, pickI X.one 6) : Int × Int)]).length + 1) c_53)]) (by kernel_rfl) (ex_loadN (vs := [(.int .i64 (((j : Nat) : Int) + 1)), (.int .i64 (1 + pickI X.item 5)), (.int .i64 t), (.int .i64 (1 + pickI X.frames 40)), (.int .i64 0), (.int .i64 (255 - 2 * pickI X.regions 4)), (.slice B_52 ((([] : List (Int × Int)) ++ [((1, pickI X.one 6) : Int × Int)]).length + 1) c_53)]) (by kernel_rfl) (by kernel_rfl) (by kernel_rfl) rfl (HP.cells 3 rfl 0 7 (by kernel_rfl))) ?_
            intro a H
            refine H.alloc HP 83 (fun b => (.slice (some ⟨b, 0, none⟩) 1 1)) 63 [(.int .i64 (((j : Nat) : Int) + 1)), (.int .i64 (1 + pickI X.item 5)), (.int .i64 t), (.int .i64 (1 + pickI X.frames 40)), (.int .i64 0), (.int .i64 (255 - 2 * pickI X.regions 4)), (.slice B_52 ((([] : List (Int × Int)) ++ [((1, pickI X.one 6) : Int × Int)]).length + 1) c_53)] (by kernel_rfl) (fun w => by kernel_rfl) ?_
            intro b_56 w_57 a H HP
            have HP := HP.front 2 rfl [(rowsR w.heap.size 69 2 altCells (fun _ _ => True) (fun _ _ => False) (.slice B_52 ((([] : List (Int × Int)) ++ [((1, pickI X.one 6) : Int × Int)]).length + 1) c_53) (([] : List (Int × Int)) ++ [((1, pickI X.one 6) : Int × Int)] ++ [((2, pickI X.two 6) : Int × Int)])), bx b_56 63 [(.int .i64 (((j : Nat) : Int) + 1)), (.int .i64 (1 + pickI X.item 5)), (.int .i64 t), (.int .i64 (1 + pickI X.frames 40)), (.int .i64 0), (.int .i64 (255 - 2 * pickI X.regions 4)), (.slice B_52 ((([] : List (Int × Int)) ++ [((1, pickI X.one 6) : Int × Int)]).length + 1) c_53)] true, bx b_50 69 [(.int .i64 2), (.int .i64 (pickI X.two 6))] true, bx b_39 69 [(.int .i64 1), (.int .i64 (pickI X.one 6))] true, bx bE 63 [(.int .i64 (((j : Nat) : Int) + 1)), (.int .i64 (1 + pickI X.item 5)), (.int .i64 t), (.int .i64 (1 + pickI X.frames 40)), (.int .i64 0), (.int .i64 (255 - 2 * pickI X.regions 4)), (.slice B_52 ((([] : List (Int × Int)) ++ [((1, pickI X.one 6) : Int × Int)]).length + 1) c_53)] true, (rowsR w.heap.size 63 7 EvA.cells evOk evFp (.slice EA l'.length ec) l')] (by kernel_rfl)
            have HP := HP.absorb 4 rfl elOk_ev (⟨⟨((j : Nat) : Int) + 1, 1 + pickI X.item 5, t, 1 + pickI X.frames 40, 0, 255 - 2 * pickI X.regions 4⟩, B_52, c_53, ([] : List (Int × Int)) ++ [((1, pickI X.one 6) : Int × Int)] ++ [((2, pickI X.two 6) : Int × Int)]⟩ : EvA) [bx b_56 63 [(.int .i64 (((j : Nat) : Int) + 1)), (.int .i64 (1 + pickI X.item 5)), (.int .i64 t), (.int .i64 (1 + pickI X.frames 40)), (.int .i64 0), (.int .i64 (255 - 2 * pickI X.regions 4)), (.slice B_52 ((([] : List (Int × Int)) ++ [((1, pickI X.one 6) : Int × Int)]).length + 1) c_53)] true, bx b_50 69 [(.int .i64 2), (.int .i64 (pickI X.two 6))] true, bx b_39 69 [(.int .i64 1), (.int .i64 (pickI X.one 6))] true, bx bE 63 [(.int .i64 (((j : Nat) : Int) + 1)), (.int .i64 (1 + pickI X.item 5)), (.int .i64 t), (.int .i64 (1 + pickI X.frames 40)), (.int .i64 0), (.int .i64 (255 - 2 * pickI X.regions 4)), (.slice B_52 ((([] : List (Int × Int)) ++ [((1, pickI X.one 6) : Int × Int)]).length + 1) c_53)] true, (rowsP w.heap.size 63 7 EvA.cells evOk evFp (.slice EA l'.length ec) l' (⟨⟨((j : Nat) : Int) + 1, 1 + pickI X.item 5, t, 1 + pickI X.frames 40, 0, 255 - 2 * pickI X.regions 4⟩, B_52, c_53, ([] : List (Int × Int)) ++ [((1, pickI X.one 6) : Int × Int)] ++ [((2, pickI X.two 6) : Int × Int)]⟩ : EvA))] (by kernel_rfl) (alts_ok (HP.held 0 rfl) (by simp)) (fun k hk => .inl (own_of_row hk)) rfl
            refine H.push HP 84 4 0 (v := (.slice EA l'.length ec)) (e := 63) (p := (⟨⟨((j : Nat) : Int) + 1, 1 + pickI X.item 5, t, 1 + pickI X.frames 40, 0, 255 - 2 * pickI X.regions 4⟩, B_52, c_53, ([] : List (Int × Int)) ++ [((1, pickI X.one 6) : Int × Int)] ++ [((2, pickI X.two 6) : Int × Int)]⟩ : EvA)) (l := l') (cs := EvA.cells) (ok := evOk) (fe := evFp) (size := 7) (z := (.agg #[.int .i64 0, .int .i64 0, .int .i64 0, .int .i64 0, .int .i64 0, .int .i64 0, .slice none 0 0])) (bytes := 72) (bb := b_56) (tb := 63) (fb := true) (by kernel_rfl) elOk_ev (by kernel_rfl) (by kernel_rfl) rfl (by kernel_rfl) (by kernel_rfl) (by kernel_rfl) (by kernel_rfl) (by kernel_rfl) rfl (by kernel_rfl) (by unfold maxLen; omega) (by omega) ?_
            intro B_58 c_59 w_60 a H HP
            have HP : Hp w w_60 [bx b_56 63 [(.int .i64 (((j : Nat) : Int) + 1)), (.int .i64 (1 + pickI X.item 5)), (.int .i64 t), (.int .i64 (1 + pickI X.frames 40)), (.int .i64 0), (.int .i64 (255 - 2 * pickI X.regions 4)), (.slice B_52 ((([] : List (Int × Int)) ++ [((1, pickI X.one 6) : Int × Int)]).length + 1) c_53)] true, bx b_50 69 [(.int .i64 2), (.int .i64 (pickI X.two 6))] true, bx b_39 69 [(.int .i64 1), (.int .i64 (pickI X.one 6))] true, bx bE 63 [(.int .i64 (((j : Nat) : Int) + 1)), (.int .i64 (1 + pickI X.item 5)), (.int .i64 t), (.int .i64 (1 + pickI X.frames 40)), (.int .i64 0), (.int .i64 (255 - 2 * pickI X.regions 4)), (.slice B_52 ((([] : List (Int × Int)) ++ [((1, pickI X.one 6) : Int × Int)]).length + 1) c_53)] true, (rowsR w.heap.size 63 7 EvA.cells evOk evFp (.slice B_58 (l'.length + 1) c_59) (l' ++ [(⟨⟨((j : Nat) : Int) + 1, 1 + pickI X.item 5, t, 1 + pickI X.frames 40, 0, 255 - 2 * pickI X.regions 4⟩, B_52, c_53, ([] : List (Int × Int)) ++ [((1, pickI X.one 6) : Int × Int)] ++ [((2, pickI X.two 6) : Int × Int)]⟩ : EvA)]))] [] := HP
            refine H.val 3 (.slice B_58 (l'.length + 1) c_59) (by kernel_rfl) (by kernel_rfl) ?_
            intro a H
            refine wpList_nil ?_
            refine then_normal ?_
            refine w_region ?_
            refine H.val 85 (.int .i64 t) (by kernel_rfl) (by kernel_rfl) ?_
            intro a H
            refine H.val 86 (.pointer (some ⟨bE, 3, none⟩)) (by kernel_rfl) (by kernel_rfl) ?_
            intro a H
            refine H.val 87 (.int .i64 (1 + pickI X.frames 40)) (by kernel_rfl) (ex_load1 (by kernel_rfl) (by kernel_rfl) (HP.cell 3 rfl 3 rfl)) ?_
            intro a H
            refine H.valE 88 (.int .i64 (IntKind.i64.wrap (t + (1 + pickI X.frames 40)))) (.int .i64 (t + (1 + pickI X.frames 40))) (by kernel_rfl) (by kernel_rfl) ((by rw [wrap_ini64 _ (by omega)])) ?_
            intro a H
            refine H.val 4 (.int .i64 (t + (1 + pickI X.frames 40))) (by kernel_rfl) (by kernel_rfl) ?_
            intro a H
            refine wpList_nil ?_
            have H := H.keep (L' := [(4, (.int .i64 (t + (1 + pickI X.frames 40)))), (3, (.slice B_58 (l'.length + 1) c_59)), (84, (.slice B_58 (l'.length + 1) c_59)), (83, (.slice (some ⟨b_56, 0, none⟩) 1 1)), (82, (.agg #[(.int .i64 (((j : Nat) : Int) + 1)), (.int .i64 (1 + pickI X.item 5)), (.int .i64 t), (.int .i64 (1 + pickI X.frames 40)), (.int .i64 0), (.int .i64 (255 - 2 * pickI X.regions 4)), (.slice B_52 ((([] : List (Int × Int)) ++ [((1, pickI X.one 6) : Int × Int)]).length + 1) c_53)])), (81, (.slice EA l'.length ec)), (68, (.bool (decide ((pickI X.two 6) > 0)))), (49, (.bool (decide ((pickI X.one 6) > 0)))), (6, (.pointer (some ⟨bE, 0, none⟩))), (5, (.int .i64 ((j : Nat) : Int))), (2, (.slice none 0 0)), (0, (.slice (some ⟨b0, off, none⟩) n c))]) (by kernel_rfl)
            refine inb_normal ?_
            refine then_normal ?_
            refine w_region ?_
            refine H.val 15 (.int .i64 ((j : Nat) : Int)) (by kernel_rfl) (by kernel_rfl) ?_
            intro a H
            refine H.valE 16 (.int .i64 (IntKind.i64.wrap (((j : Nat) : Int) + 1))) (.int .i64 (((j : Nat) : Int) + 1)) (by kernel_rfl) (by kernel_rfl) ((by rw [wrap_ini64 _ (by omega)])) ?_
            intro a H
            refine H.val 5 (.int .i64 (((j : Nat) : Int) + 1)) (by kernel_rfl) (by kernel_rfl) ?_
            intro a H
            refine wpList_nil ?_
            refine then_normal ?_
            have H := H.as 5 (.int .i64 ((j + 1 : Nat) : Int)) rfl rfl
            have H := H.as 3 (.slice B_58 ((l' ++ [(⟨⟨((j : Nat) : Int) + 1, 1 + pickI X.item 5, t, 1 + pickI X.frames 40, 0, 255 - 2 * pickI X.regions 4⟩, B_52, c_53, ([] : List (Int × Int)) ++ [((1, pickI X.one 6) : Int × Int)] ++ [((2, pickI X.two 6) : Int × Int)]⟩ : EvA)]).length) c_59) rfl (by simp)
            refine ⟨_, ?_, j + 1, B_58, c_59, l' ++ [(⟨⟨((j : Nat) : Int) + 1, 1 + pickI X.item 5, t, 1 + pickI X.frames 40, 0, 255 - 2 * pickI X.regions 4⟩, B_52, c_53, ([] : List (Int × Int)) ++ [((1, pickI X.one 6) : Int × Int)] ++ [((2, pickI X.two 6) : Int × Int)]⟩ : EvA)], t + (1 + pickI X.frames 40), rfl, H.keep (by kernel_rfl), (by simpa using ((((HP.tail rfl).tail rfl).tail rfl).tail rfl)), by omega, eventsTo_snoc hsp hX ht (altsP_of g49 g68), by rw [ht, startAt_succ, hX], by omega⟩
            omega
          · have g68p := of_decide_eq_false g68
            refine wp_skip ?_
            refine then_normal ?_
            refine wp_seq ?_
            refine w_region ?_
            refine H.val 81 (.slice EA l'.length ec) (by kernel_rfl) (by kernel_rfl) ?_
            intro a H
            refine H.val 82 (.agg #[(.int .i64 (((j : Nat) : Int) + 1)), (.int .i64 (1 + pickI X.item 5)), (.int .i64 t), (.int .i64 (1 + pickI X.frames 40)), (.int .i64 0), (.int .i64 (255 - 2 * pickI X.regions 4)), (.slice B_41 (([] : List (Int × Int)).length + 1) c_42)]) (by kernel_rfl) (ex_loadN (vs := [(.int .i64 (((j : Nat) : Int) + 1)), (.int .i64 (1 + pickI X.item 5)), (.int .i64 t), (.int .i64 (1 + pickI X.frames 40)), (.int .i64 0), (.int .i64 (255 - 2 * pickI X.regions 4)), (.slice B_41 (([] : List (Int × Int)).length + 1) c_42)]) (by kernel_rfl) (by kernel_rfl) (by kernel_rfl) rfl (HP.cells 2 rfl 0 7 (by kernel_rfl))) ?_
            intro a H
            refine H.alloc HP 83 (fun b => (.slice (some ⟨b, 0, none⟩) 1 1)) 63 [(.int .i64 (((j : Nat) : Int) + 1)), (.int .i64 (1 + pickI X.item 5)), (.int .i64 t), (.int .i64 (1 + pickI X.frames 40)), (.int .i64 0), (.int .i64 (255 - 2 * pickI X.regions 4)), (.slice B_41 (([] : List (Int × Int)).length + 1) c_42)] (by kernel_rfl) (fun w => by kernel_rfl) ?_
            intro b_61 w_62 a H HP
            have HP := HP.front 2 rfl [(rowsR w.heap.size 69 2 altCells (fun _ _ => True) (fun _ _ => False) (.slice B_41 (([] : List (Int × Int)).length + 1) c_42) (([] : List (Int × Int)) ++ [((1, pickI X.one 6) : Int × Int)])), bx b_61 63 [(.int .i64 (((j : Nat) : Int) + 1)), (.int .i64 (1 + pickI X.item 5)), (.int .i64 t), (.int .i64 (1 + pickI X.frames 40)), (.int .i64 0), (.int .i64 (255 - 2 * pickI X.regions 4)), (.slice B_41 (([] : List (Int × Int)).length + 1) c_42)] true, bx b_39 69 [(.int .i64 1), (.int .i64 (pickI X.one 6))] true, bx bE 63 [(.int .i64 (((j : Nat) : Int) + 1)), (.int .i64 (1 + pickI X.item 5)), (.int .i64 t), (.int .i64 (1 + pickI X.frames 40)), (.int .i64 0), (.int .i64 (255 - 2 * pickI X.regions 4)), (.slice B_41 (([] : List (Int × Int)).length + 1) c_42)] true, (rowsR w.heap.size 63 7 EvA.cells evOk evFp (.slice EA l'.length ec) l')] (by kernel_rfl)
            have HP := HP.absorb 3 rfl elOk_ev (⟨⟨((j : Nat) : Int) + 1, 1 + pickI X.item 5, t, 1 + pickI X.frames 40, 0, 255 - 2 * pickI X.regions 4⟩, B_41, c_42, ([] : List (Int × Int)) ++ [((1, pickI X.one 6) : Int × Int)]⟩ : EvA) [bx b_61 63 [(.int .i64 (((j : Nat) : Int) + 1)), (.int .i64 (1 + pickI X.item 5)), (.int .i64 t), (.int .i64 (1 + pickI X.frames 40)), (.int .i64 0), (.int .i64 (255 - 2 * pickI X.regions 4)), (.slice B_41 (([] : List (Int × Int)).length + 1) c_42)] true, bx b_39 69 [(.int .i64 1), (.int .i64 (pickI X.one 6))] true, bx bE 63 [(.int .i64 (((j : Nat) : Int) + 1)), (.int .i64 (1 + pickI X.item 5)), (.int .i64 t), (.int .i64 (1 + pickI X.frames 40)), (.int .i64 0), (.int .i64 (255 - 2 * pickI X.regions 4)), (.slice B_41 (([] : List (Int × Int)).length + 1) c_42)] true, (rowsP w.heap.size 63 7 EvA.cells evOk evFp (.slice EA l'.length ec) l' (⟨⟨((j : Nat) : Int) + 1, 1 + pickI X.item 5, t, 1 + pickI X.frames 40, 0, 255 - 2 * pickI X.regions 4⟩, B_41, c_42, ([] : List (Int × Int)) ++ [((1, pickI X.one 6) : Int × Int)]⟩ : EvA))] (by kernel_rfl) (alts_ok (HP.held 0 rfl) (by simp)) (fun k hk => .inl (own_of_row hk)) rfl
            refine H.push HP 84 3 0 (v := (.slice EA l'.length ec)) (e := 63) (p := (⟨⟨((j : Nat) : Int) + 1, 1 + pickI X.item 5, t, 1 + pickI X.frames 40, 0, 255 - 2 * pickI X.regions 4⟩, B_41, c_42, ([] : List (Int × Int)) ++ [((1, pickI X.one 6) : Int × Int)]⟩ : EvA)) (l := l') (cs := EvA.cells) (ok := evOk) (fe := evFp) (size := 7) (z := (.agg #[.int .i64 0, .int .i64 0, .int .i64 0, .int .i64 0, .int .i64 0, .int .i64 0, .slice none 0 0])) (bytes := 72) (bb := b_61) (tb := 63) (fb := true) (by kernel_rfl) elOk_ev (by kernel_rfl) (by kernel_rfl) rfl (by kernel_rfl) (by kernel_rfl) (by kernel_rfl) (by kernel_rfl) (by kernel_rfl) rfl (by kernel_rfl) (by unfold maxLen; omega) (by omega) ?_
            intro B_63 c_64 w_65 a H HP
            have HP : Hp w w_65 [bx b_61 63 [(.int .i64 (((j : Nat) : Int) + 1)), (.int .i64 (1 + pickI X.item 5)), (.int .i64 t), (.int .i64 (1 + pickI X.frames 40)), (.int .i64 0), (.int .i64 (255 - 2 * pickI X.regions 4)), (.slice B_41 (([] : List (Int × Int)).length + 1) c_42)] true, bx b_39 69 [(.int .i64 1), (.int .i64 (pickI X.one 6))] true, bx bE 63 [(.int .i64 (((j : Nat) : Int) + 1)), (.int .i64 (1 + pickI X.item 5)), (.int .i64 t), (.int .i64 (1 + pickI X.frames 40)), (.int .i64 0), (.int .i64 (255 - 2 * pickI X.regions 4)), (.slice B_41 (([] : List (Int × Int)).length + 1) c_42)] true, (rowsR w.heap.size 63 7 EvA.cells evOk evFp (.slice B_63 (l'.length + 1) c_64) (l' ++ [(⟨⟨((j : Nat) : Int) + 1, 1 + pickI X.item 5, t, 1 + pickI X.frames 40, 0, 255 - 2 * pickI X.regions 4⟩, B_41, c_42, ([] : List (Int × Int)) ++ [((1, pickI X.one 6) : Int × Int)]⟩ : EvA)]))] [] := HP
            refine H.val 3 (.slice B_63 (l'.length + 1) c_64) (by kernel_rfl) (by kernel_rfl) ?_
            intro a H
            refine wpList_nil ?_
            refine then_normal ?_
            refine w_region ?_
            refine H.val 85 (.int .i64 t) (by kernel_rfl) (by kernel_rfl) ?_
            intro a H
            refine H.val 86 (.pointer (some ⟨bE, 3, none⟩)) (by kernel_rfl) (by kernel_rfl) ?_
            intro a H
            refine H.val 87 (.int .i64 (1 + pickI X.frames 40)) (by kernel_rfl) (ex_load1 (by kernel_rfl) (by kernel_rfl) (HP.cell 2 rfl 3 rfl)) ?_
            intro a H
            refine H.valE 88 (.int .i64 (IntKind.i64.wrap (t + (1 + pickI X.frames 40)))) (.int .i64 (t + (1 + pickI X.frames 40))) (by kernel_rfl) (by kernel_rfl) ((by rw [wrap_ini64 _ (by omega)])) ?_
            intro a H
            refine H.val 4 (.int .i64 (t + (1 + pickI X.frames 40))) (by kernel_rfl) (by kernel_rfl) ?_
            intro a H
            refine wpList_nil ?_
            have H := H.keep (L' := [(4, (.int .i64 (t + (1 + pickI X.frames 40)))), (3, (.slice B_63 (l'.length + 1) c_64)), (84, (.slice B_63 (l'.length + 1) c_64)), (83, (.slice (some ⟨b_61, 0, none⟩) 1 1)), (82, (.agg #[(.int .i64 (((j : Nat) : Int) + 1)), (.int .i64 (1 + pickI X.item 5)), (.int .i64 t), (.int .i64 (1 + pickI X.frames 40)), (.int .i64 0), (.int .i64 (255 - 2 * pickI X.regions 4)), (.slice B_41 (([] : List (Int × Int)).length + 1) c_42)])), (81, (.slice EA l'.length ec)), (68, (.bool (decide ((pickI X.two 6) > 0)))), (49, (.bool (decide ((pickI X.one 6) > 0)))), (6, (.pointer (some ⟨bE, 0, none⟩))), (5, (.int .i64 ((j : Nat) : Int))), (2, (.slice none 0 0)), (0, (.slice (some ⟨b0, off, none⟩) n c))]) (by kernel_rfl)
            refine inb_normal ?_
            refine then_normal ?_
            refine w_region ?_
            refine H.val 15 (.int .i64 ((j : Nat) : Int)) (by kernel_rfl) (by kernel_rfl) ?_
            intro a H
            refine H.valE 16 (.int .i64 (IntKind.i64.wrap (((j : Nat) : Int) + 1))) (.int .i64 (((j : Nat) : Int) + 1)) (by kernel_rfl) (by kernel_rfl) ((by rw [wrap_ini64 _ (by omega)])) ?_
            intro a H
            refine H.val 5 (.int .i64 (((j : Nat) : Int) + 1)) (by kernel_rfl) (by kernel_rfl) ?_
            intro a H
            refine wpList_nil ?_
            refine then_normal ?_
            have H := H.as 5 (.int .i64 ((j + 1 : Nat) : Int)) rfl rfl
            have H := H.as 3 (.slice B_63 ((l' ++ [(⟨⟨((j : Nat) : Int) + 1, 1 + pickI X.item 5, t, 1 + pickI X.frames 40, 0, 255 - 2 * pickI X.regions 4⟩, B_41, c_42, ([] : List (Int × Int)) ++ [((1, pickI X.one 6) : Int × Int)]⟩ : EvA)]).length) c_64) rfl (by simp)
            refine ⟨_, ?_, j + 1, B_63, c_64, l' ++ [(⟨⟨((j : Nat) : Int) + 1, 1 + pickI X.item 5, t, 1 + pickI X.frames 40, 0, 255 - 2 * pickI X.regions 4⟩, B_41, c_42, ([] : List (Int × Int)) ++ [((1, pickI X.one 6) : Int × Int)]⟩ : EvA)], t + (1 + pickI X.frames 40), rfl, H.keep (by kernel_rfl), (by simpa using (((HP.tail rfl).tail rfl).tail rfl)), by omega, eventsTo_snoc hsp hX ht (altsP_of g49 g68), by rw [ht, startAt_succ, hX], by omega⟩
            omega
        · have g49p := of_decide_eq_false g49
          refine wp_skip ?_
          refine then_normal ?_
          refine wp_seq ?_
          refine wp_seq ?_
          refine w_region ?_
          refine H.val 62 (.slice (some ⟨b0, off, none⟩) n c) (by kernel_rfl) (by kernel_rfl) ?_
          intro a H
          refine H.val 63 (.int .i64 ((j : Nat) : Int)) (by kernel_rfl) (by kernel_rfl) ?_
          intro a H
          refine H.val 64 (.pointer (some ⟨b0, off + j * 5, none⟩)) (by kernel_rfl) (ex_index (b := b0) (off := off) (len := n) (cap := c) (e := 82) (k := 5) (ik := .i64) (i := ((j : Nat) : Int)) (m := j) (by kernel_rfl) (by kernel_rfl) (by omega) (by omega) (by kernel_rfl) (by kernel_rfl)) ?_
          intro a H
          refine H.val 65 (.pointer (some ⟨b0, off + j * 5 + 3, none⟩)) (by kernel_rfl) (by kernel_rfl) ?_
          intro a H
          refine H.val 66 (.int .i64 X.two) (by kernel_rfl) (ex_load1 (by kernel_rfl) (by kernel_rfl) (HP.oldc (by kernel_rfl) p3)) ?_
          intro a H
          refine H.call 67 (by kernel_rfl) (Eq.trans (by kernel_rfl : _ = (callFunc 11 #[(.int .i64 X.two), (.int .i64 6)]).run Try.prog w_35) (Try.call11 _ _)) (pick_any X.two 6 w_35 (hb.2.2.2.1) (by omega)) ?_
          rintro e w_67 ⟨rfl, hw⟩
          refine ⟨_, rfl, ?_⟩
          intro a H
          have HP := hw ▸ HP
          have hpk_66 := pickI_lt X.two 6 (by omega)
          refine H.val 68 (.bool (decide ((pickI X.two 6) > 0))) (by kernel_rfl) (by kernel_rfl) ?_
          intro a H
          refine wpList_nil ?_
          have H := H.keep (L' := [(68, (.bool (decide ((pickI X.two 6) > 0)))), (49, (.bool (decide ((pickI X.one 6) > 0)))), (6, (.pointer (some ⟨bE, 0, none⟩))), (5, (.int .i64 ((j : Nat) : Int))), (4, (.int .i64 t)), (3, (.slice EA l'.length ec)), (2, (.slice none 0 0)), (0, (.slice (some ⟨b0, off, none⟩) n c))]) (by kernel_rfl)
          refine then_normal ?_
          refine w_if H rfl (fun g68 => ?_) (fun g68 => ?_)
          · have g68p := of_decide_eq_true g68
            have HP := HP.front 0 rfl [(rowsR w.heap.size 69 2 altCells (fun _ _ => True) (fun _ _ => False) (.slice none 0 0) ([] : List (Int × Int))), bx bE 63 [(.int .i64 (((j : Nat) : Int) + 1)), (.int .i64 (1 + pickI X.item 5)), (.int .i64 t), (.int .i64 (1 + pickI X.frames 40)), (.int .i64 0), (.int .i64 (255 - 2 * pickI X.regions 4)), (.slice none 0 0)] true, (rowsR w.heap.size 63 7 EvA.cells evOk evFp (.slice EA l'.length ec) l')] (by kernel_rfl)
            refine An.start (fun v => Hp w v [bx bE 63 [(.int .i64 (((j : Nat) : Int) + 1)), (.int .i64 (1 + pickI X.item 5)), (.int .i64 t), (.int .i64 (1 + pickI X.frames 40)), (.int .i64 0), (.int .i64 (255 - 2 * pickI X.regions 4)), (.slice none 0 0)] true, (rowsR w.heap.size 63 7 EvA.cells evOk evFp (.slice EA l'.length ec) l')] []) 12 13 HP wide_follows rfl ?_
            intro w_68 HP
            refine An.pure H (.inr ((HP.tail rfl))) 0 69 (.pointer (some ⟨bE, 6, none⟩)) rfl (by kernel_rfl) (by kernel_rfl) (fun _ _ _ h => h) (fun _ => by kernel_rfl) ?_
            intro a H
            refine An.val H ((HP.tail rfl)) 1 70 (.slice none 0 0) rfl (by kernel_rfl) (by kernel_rfl) (fun _ _ _ h => h) (fun _ hS => ex_load1 (by kernel_rfl) (by kernel_rfl) (hS.cell 0 rfl 6 rfl)) ?_
            intro a H
            refine An.pure H (.inr ((HP.tail rfl))) 2 71 (.slice (some ⟨b0, off, none⟩) n c) rfl (by kernel_rfl) (by kernel_rfl) (fun _ _ _ h => h) (fun _ => by kernel_rfl) ?_
            intro a H
            refine An.pure H (.inr ((HP.tail rfl))) 3 72 (.int .i64 ((j : Nat) : Int)) rfl (by kernel_rfl) (by kernel_rfl) (fun _ _ _ h => h) (fun _ => by kernel_rfl) ?_
            intro a H
            refine An.pure H (.inr ((HP.tail rfl))) 4 73 (.pointer (some ⟨b0, off + j * 5, none⟩)) rfl (by kernel_rfl) (by kernel_rfl) (fun _ _ _ h => h) (fun _ => ex_index (b := b0) (off := off) (len := n) (cap := c) (e := 82) (k := 5) (ik := .i64) (i := ((j : Nat) : Int)) (m := j) (by kernel_rfl) (by kernel_rfl) (by omega) (by omega) (by kernel_rfl) (by kernel_rfl)) ?_
            intro a H
            refine An.pure H (.inr ((HP.tail rfl))) 5 74 (.pointer (some ⟨b0, off + j * 5 + 3, none⟩)) rfl (by kernel_rfl) (by kernel_rfl) (fun _ _ _ h => h) (fun _ => by kernel_rfl) ?_
            intro a H
            refine An.val H ((HP.tail rfl)) 6 75 (.int .i64 X.two) rfl (by kernel_rfl) (by kernel_rfl) (fun _ _ _ h => h) (fun _ hS => ex_load1 (by kernel_rfl) (by kernel_rfl) (hS.oldc (by kernel_rfl) p3)) ?_
            intro a H
            refine An.one 7 (by kernel_rfl) ?_
            refine Op.call H 76 rfl (by kernel_rfl) (Eq.trans (by kernel_rfl : _ = (callFunc 11 #[(.int .i64 X.two), (.int .i64 6)]).run Try.prog w_68) (Try.call11 _ _)) (pick_any X.two 6 w_68 (hb.2.2.2.1) (by omega)) ?_
            rintro e w_70 ⟨rfl, hw⟩
            refine ⟨_, rfl, ?_⟩
            intro a H
            have HP := hw ▸ HP
            have hpk_69 := pickI_lt X.two 6 (by omega)
            refine ⟨.inr ((HP.tail rfl)), ?_⟩
            refine An.pure H (.inr ((HP.tail rfl))) 8 77 (.agg #[(.int .i64 2), (.int .i64 (pickI X.two 6))]) rfl (by kernel_rfl) (by kernel_rfl) (fun _ _ _ h => h) (fun _ => by kernel_rfl) ?_
            intro a H
            refine An.one 9 (by kernel_rfl) ?_
            refine Op.alloc H HP 78 (fun b => (.slice (some ⟨b, 0, none⟩) 1 1)) 69 [(.int .i64 2), (.int .i64 (pickI X.two 6))] rfl (by kernel_rfl) (fun w => by kernel_rfl) ?_
            intro b_71 w_72 a H HP
            refine ⟨.inr (((HP.tail rfl).tail rfl)), ?_⟩
            refine An.one 10 (by kernel_rfl) ?_
            have HP := HP.pend0 1 rfl elOk_flat ((2, pickI X.two 6) : Int × Int) [bx b_71 69 [(.int .i64 2), (.int .i64 (pickI X.two 6))] true, (rowsP w.heap.size 69 2 altCells (fun _ _ => True) (fun _ _ => False) (.slice none 0 0) ([] : List (Int × Int)) ((2, pickI X.two 6) : Int × Int)), bx bE 63 [(.int .i64 (((j : Nat) : Int) + 1)), (.int .i64 (1 + pickI X.item 5)), (.int .i64 t), (.int .i64 (1 + pickI X.frames 40)), (.int .i64 0), (.int .i64 (255 - 2 * pickI X.regions 4)), (.slice none 0 0)] true, (rowsR w.heap.size 63 7 EvA.cells evOk evFp (.slice EA l'.length ec) l')] (by kernel_rfl) trivial (fun _ h => h)
            refine Op.push H HP 79 1 0 (v := (.slice none 0 0)) (e := 69) (p := ((2, pickI X.two 6) : Int × Int)) (l := ([] : List (Int × Int))) (cs := altCells) (ok := (fun _ _ => True)) (fe := (fun _ _ => False)) (size := 2) (z := (.agg #[.int .i64 0, .int .i64 0])) (bytes := 16) (bb := b_71) (tb := 69) (fb := true) rfl (by kernel_rfl) elOk_flat (by kernel_rfl) (by kernel_rfl) rfl (by kernel_rfl) (by kernel_rfl) (by kernel_rfl) (by kernel_rfl) (by kernel_rfl) rfl (by kernel_rfl) (by simp [maxLen]) (by simp) ?_
            intro B_73 c_74 w_75 a H HP
            have HP : Hp w w_75 [bx b_71 69 [(.int .i64 2), (.int .i64 (pickI X.two 6))] true, (rowsR w.heap.size 69 2 altCells (fun _ _ => True) (fun _ _ => False) (.slice B_73 (([] : List (Int × Int)).length + 1) c_74) (([] : List (Int × Int)) ++ [((2, pickI X.two 6) : Int × Int)])), bx bE 63 [(.int .i64 (((j : Nat) : Int) + 1)), (.int .i64 (1 + pickI X.item 5)), (.int .i64 t), (.int .i64 (1 + pickI X.frames 40)), (.int .i64 0), (.int .i64 (255 - 2 * pickI X.regions 4)), (.slice none 0 0)] true, (rowsR w.heap.size 63 7 EvA.cells evOk evFp (.slice EA l'.length ec) l')] [] := HP
            refine ⟨.inr (((HP.tail rfl).tail rfl)), ?_⟩
            refine An.pure H (.inr (((HP.tail rfl).tail rfl))) 11 80 (.pointer (some ⟨bE, 6, none⟩)) rfl (by kernel_rfl) (by kernel_rfl) (fun _ _ _ h => h) (fun _ => by kernel_rfl) ?_
            intro a H
            refine An.one 12 (by kernel_rfl) ?_
            refine Op.store H HP 2 bE 6 1 63 [(.int .i64 (((j : Nat) : Int) + 1)), (.int .i64 (1 + pickI X.item 5)), (.int .i64 t), (.int .i64 (1 + pickI X.frames 40)), (.int .i64 0), (.int .i64 (255 - 2 * pickI X.regions 4)), (.slice none 0 0)] true (.slice B_73 (([] : List (Int × Int)).length + 1) c_74) [bx b_71 69 [(.int .i64 2), (.int .i64 (pickI X.two 6))] true, (rowsR w.heap.size 69 2 altCells (fun _ _ => True) (fun _ _ => False) (.slice B_73 (([] : List (Int × Int)).length + 1) c_74) (([] : List (Int × Int)) ++ [((2, pickI X.two 6) : Int × Int)])), bx bE 63 [(.int .i64 (((j : Nat) : Int) + 1)), (.int .i64 (1 + pickI X.item 5)), (.int .i64 t), (.int .i64 (1 + pickI X.frames 40)), (.int .i64 0), (.int .i64 (255 - 2 * pickI X.regions 4)), (.slice B_73 (([] : List (Int × Int)).length + 1) c_74)] true, (rowsR w.heap.size 63 7 EvA.cells evOk evFp (.slice EA l'.length ec) l')] rfl (by kernel_rfl) (by kernel_rfl) (by kernel_rfl) rfl (by kernel_rfl) (by kernel_rfl) (by kernel_rfl) (by kernel_rfl) (by kernel_rfl) ?_
            intro w_76 a H HP
            refine ⟨.inl (by kernel_rfl), ?_⟩
            refine An.done (by kernel_rfl) ?_
            have H := H.keep (L' := [(68, (.bool (decide ((pickI X.two 6) > 0)))), (49, (.bool (decide ((pickI X.one 6) > 0)))), (6, (.pointer (some ⟨bE, 0, none⟩))), (5, (.int .i64 ((j : Nat) : Int))), (4, (.int .i64 t)), (3, (.slice EA l'.length ec)), (2, (.slice none 0 0)), (0, (.slice (some ⟨b0, off, none⟩) n c))]) (by kernel_rfl)
            refine then_normal ?_
            refine wp_seq ?_
            refine w_region ?_
            refine H.val 81 (.slice EA l'.length ec) (by kernel_rfl) (by kernel_rfl) ?_
            intro a H
            refine H.val 82 (.agg #[(.int .i64 (((j : Nat) : Int) + 1)), (.int .i64 (1 + pickI X.item 5)), (.int .i64 t), (.int .i64 (1 + pickI X.frames 40)), (.int .i64 0), (.int .i64 (255 - 2 * pickI X.regions 4)), (.slice B_73 (([] : List (Int × Int)).length + 1) c_74)]) (by kernel_rfl) (ex_loadN (vs := [(.int .i64 (((j : Nat) : Int) + 1)), (.int .i64 (1 + pickI X.item 5)), (.int .i64 t), (.int .i64 (1 + pickI X.frames 40)), (.int .i64 0), (.int .i64 (255 - 2 * pickI X.regions 4)), (.slice B_73 (([] : List (Int × Int)).length + 1) c_74)]) (by kernel_rfl) (by kernel_rfl) (by kernel_rfl) rfl (HP.cells 2 rfl 0 7 (by kernel_rfl))) ?_
            intro a H
            refine H.alloc HP 83 (fun b => (.slice (some ⟨b, 0, none⟩) 1 1)) 63 [(.int .i64 (((j : Nat) : Int) + 1)), (.int .i64 (1 + pickI X.item 5)), (.int .i64 t), (.int .i64 (1 + pickI X.frames 40)), (.int .i64 0), (.int .i64 (255 - 2 * pickI X.regions 4)), (.slice B_73 (([] : List (Int × Int)).length + 1) c_74)] (by kernel_rfl) (fun w => by kernel_rfl) ?_
            intro b_77 w_78 a H HP
            have HP := HP.front 2 rfl [(rowsR w.heap.size 69 2 altCells (fun _ _ => True) (fun _ _ => False) (.slice B_73 (([] : List (Int × Int)).length + 1) c_74) (([] : List (Int × Int)) ++ [((2, pickI X.two 6) : Int × Int)])), bx b_77 63 [(.int .i64 (((j : Nat) : Int) + 1)), (.int .i64 (1 + pickI X.item 5)), (.int .i64 t), (.int .i64 (1 + pickI X.frames 40)), (.int .i64 0), (.int .i64 (255 - 2 * pickI X.regions 4)), (.slice B_73 (([] : List (Int × Int)).length + 1) c_74)] true, bx b_71 69 [(.int .i64 2), (.int .i64 (pickI X.two 6))] true, bx bE 63 [(.int .i64 (((j : Nat) : Int) + 1)), (.int .i64 (1 + pickI X.item 5)), (.int .i64 t), (.int .i64 (1 + pickI X.frames 40)), (.int .i64 0), (.int .i64 (255 - 2 * pickI X.regions 4)), (.slice B_73 (([] : List (Int × Int)).length + 1) c_74)] true, (rowsR w.heap.size 63 7 EvA.cells evOk evFp (.slice EA l'.length ec) l')] (by kernel_rfl)
            have HP := HP.absorb 3 rfl elOk_ev (⟨⟨((j : Nat) : Int) + 1, 1 + pickI X.item 5, t, 1 + pickI X.frames 40, 0, 255 - 2 * pickI X.regions 4⟩, B_73, c_74, ([] : List (Int × Int)) ++ [((2, pickI X.two 6) : Int × Int)]⟩ : EvA) [bx b_77 63 [(.int .i64 (((j : Nat) : Int) + 1)), (.int .i64 (1 + pickI X.item 5)), (.int .i64 t), (.int .i64 (1 + pickI X.frames 40)), (.int .i64 0), (.int .i64 (255 - 2 * pickI X.regions 4)), (.slice B_73 (([] : List (Int × Int)).length + 1) c_74)] true, bx b_71 69 [(.int .i64 2), (.int .i64 (pickI X.two 6))] true, bx bE 63 [(.int .i64 (((j : Nat) : Int) + 1)), (.int .i64 (1 + pickI X.item 5)), (.int .i64 t), (.int .i64 (1 + pickI X.frames 40)), (.int .i64 0), (.int .i64 (255 - 2 * pickI X.regions 4)), (.slice B_73 (([] : List (Int × Int)).length + 1) c_74)] true, (rowsP w.heap.size 63 7 EvA.cells evOk evFp (.slice EA l'.length ec) l' (⟨⟨((j : Nat) : Int) + 1, 1 + pickI X.item 5, t, 1 + pickI X.frames 40, 0, 255 - 2 * pickI X.regions 4⟩, B_73, c_74, ([] : List (Int × Int)) ++ [((2, pickI X.two 6) : Int × Int)]⟩ : EvA))] (by kernel_rfl) (alts_ok (HP.held 0 rfl) (by simp)) (fun k hk => .inl (own_of_row hk)) rfl
            refine H.push HP 84 3 0 (v := (.slice EA l'.length ec)) (e := 63) (p := (⟨⟨((j : Nat) : Int) + 1, 1 + pickI X.item 5, t, 1 + pickI X.frames 40, 0, 255 - 2 * pickI X.regions 4⟩, B_73, c_74, ([] : List (Int × Int)) ++ [((2, pickI X.two 6) : Int × Int)]⟩ : EvA)) (l := l') (cs := EvA.cells) (ok := evOk) (fe := evFp) (size := 7) (z := (.agg #[.int .i64 0, .int .i64 0, .int .i64 0, .int .i64 0, .int .i64 0, .int .i64 0, .slice none 0 0])) (bytes := 72) (bb := b_77) (tb := 63) (fb := true) (by kernel_rfl) elOk_ev (by kernel_rfl) (by kernel_rfl) rfl (by kernel_rfl) (by kernel_rfl) (by kernel_rfl) (by kernel_rfl) (by kernel_rfl) rfl (by kernel_rfl) (by unfold maxLen; omega) (by omega) ?_
            intro B_79 c_80 w_81 a H HP
            have HP : Hp w w_81 [bx b_77 63 [(.int .i64 (((j : Nat) : Int) + 1)), (.int .i64 (1 + pickI X.item 5)), (.int .i64 t), (.int .i64 (1 + pickI X.frames 40)), (.int .i64 0), (.int .i64 (255 - 2 * pickI X.regions 4)), (.slice B_73 (([] : List (Int × Int)).length + 1) c_74)] true, bx b_71 69 [(.int .i64 2), (.int .i64 (pickI X.two 6))] true, bx bE 63 [(.int .i64 (((j : Nat) : Int) + 1)), (.int .i64 (1 + pickI X.item 5)), (.int .i64 t), (.int .i64 (1 + pickI X.frames 40)), (.int .i64 0), (.int .i64 (255 - 2 * pickI X.regions 4)), (.slice B_73 (([] : List (Int × Int)).length + 1) c_74)] true, (rowsR w.heap.size 63 7 EvA.cells evOk evFp (.slice B_79 (l'.length + 1) c_80) (l' ++ [(⟨⟨((j : Nat) : Int) + 1, 1 + pickI X.item 5, t, 1 + pickI X.frames 40, 0, 255 - 2 * pickI X.regions 4⟩, B_73, c_74, ([] : List (Int × Int)) ++ [((2, pickI X.two 6) : Int × Int)]⟩ : EvA)]))] [] := HP
            refine H.val 3 (.slice B_79 (l'.length + 1) c_80) (by kernel_rfl) (by kernel_rfl) ?_
            intro a H
            refine wpList_nil ?_
            refine then_normal ?_
            refine w_region ?_
            refine H.val 85 (.int .i64 t) (by kernel_rfl) (by kernel_rfl) ?_
            intro a H
            refine H.val 86 (.pointer (some ⟨bE, 3, none⟩)) (by kernel_rfl) (by kernel_rfl) ?_
            intro a H
            refine H.val 87 (.int .i64 (1 + pickI X.frames 40)) (by kernel_rfl) (ex_load1 (by kernel_rfl) (by kernel_rfl) (HP.cell 2 rfl 3 rfl)) ?_
            intro a H
            refine H.valE 88 (.int .i64 (IntKind.i64.wrap (t + (1 + pickI X.frames 40)))) (.int .i64 (t + (1 + pickI X.frames 40))) (by kernel_rfl) (by kernel_rfl) ((by rw [wrap_ini64 _ (by omega)])) ?_
            intro a H
            refine H.val 4 (.int .i64 (t + (1 + pickI X.frames 40))) (by kernel_rfl) (by kernel_rfl) ?_
            intro a H
            refine wpList_nil ?_
            have H := H.keep (L' := [(4, (.int .i64 (t + (1 + pickI X.frames 40)))), (3, (.slice B_79 (l'.length + 1) c_80)), (84, (.slice B_79 (l'.length + 1) c_80)), (83, (.slice (some ⟨b_77, 0, none⟩) 1 1)), (82, (.agg #[(.int .i64 (((j : Nat) : Int) + 1)), (.int .i64 (1 + pickI X.item 5)), (.int .i64 t), (.int .i64 (1 + pickI X.frames 40)), (.int .i64 0), (.int .i64 (255 - 2 * pickI X.regions 4)), (.slice B_73 (([] : List (Int × Int)).length + 1) c_74)])), (81, (.slice EA l'.length ec)), (68, (.bool (decide ((pickI X.two 6) > 0)))), (49, (.bool (decide ((pickI X.one 6) > 0)))), (6, (.pointer (some ⟨bE, 0, none⟩))), (5, (.int .i64 ((j : Nat) : Int))), (2, (.slice none 0 0)), (0, (.slice (some ⟨b0, off, none⟩) n c))]) (by kernel_rfl)
            refine inb_normal ?_
            refine then_normal ?_
            refine w_region ?_
            refine H.val 15 (.int .i64 ((j : Nat) : Int)) (by kernel_rfl) (by kernel_rfl) ?_
            intro a H
            refine H.valE 16 (.int .i64 (IntKind.i64.wrap (((j : Nat) : Int) + 1))) (.int .i64 (((j : Nat) : Int) + 1)) (by kernel_rfl) (by kernel_rfl) ((by rw [wrap_ini64 _ (by omega)])) ?_
            intro a H
            refine H.val 5 (.int .i64 (((j : Nat) : Int) + 1)) (by kernel_rfl) (by kernel_rfl) ?_
            intro a H
            refine wpList_nil ?_
            refine then_normal ?_
            have H := H.as 5 (.int .i64 ((j + 1 : Nat) : Int)) rfl rfl
            have H := H.as 3 (.slice B_79 ((l' ++ [(⟨⟨((j : Nat) : Int) + 1, 1 + pickI X.item 5, t, 1 + pickI X.frames 40, 0, 255 - 2 * pickI X.regions 4⟩, B_73, c_74, ([] : List (Int × Int)) ++ [((2, pickI X.two 6) : Int × Int)]⟩ : EvA)]).length) c_80) rfl (by simp)
            refine ⟨_, ?_, j + 1, B_79, c_80, l' ++ [(⟨⟨((j : Nat) : Int) + 1, 1 + pickI X.item 5, t, 1 + pickI X.frames 40, 0, 255 - 2 * pickI X.regions 4⟩, B_73, c_74, ([] : List (Int × Int)) ++ [((2, pickI X.two 6) : Int × Int)]⟩ : EvA)], t + (1 + pickI X.frames 40), rfl, H.keep (by kernel_rfl), (by simpa using (((HP.tail rfl).tail rfl).tail rfl)), by omega, eventsTo_snoc hsp hX ht (altsP_of g49 g68), by rw [ht, startAt_succ, hX], by omega⟩
            omega
          · have g68p := of_decide_eq_false g68
            refine wp_skip ?_
            refine then_normal ?_
            refine wp_seq ?_
            refine w_region ?_
            refine H.val 81 (.slice EA l'.length ec) (by kernel_rfl) (by kernel_rfl) ?_
            intro a H
            refine H.val 82 (.agg #[(.int .i64 (((j : Nat) : Int) + 1)), (.int .i64 (1 + pickI X.item 5)), (.int .i64 t), (.int .i64 (1 + pickI X.frames 40)), (.int .i64 0), (.int .i64 (255 - 2 * pickI X.regions 4)), (.slice none 0 0)]) (by kernel_rfl) (ex_loadN (vs := [(.int .i64 (((j : Nat) : Int) + 1)), (.int .i64 (1 + pickI X.item 5)), (.int .i64 t), (.int .i64 (1 + pickI X.frames 40)), (.int .i64 0), (.int .i64 (255 - 2 * pickI X.regions 4)), (.slice none 0 0)]) (by kernel_rfl) (by kernel_rfl) (by kernel_rfl) rfl (HP.cells 1 rfl 0 7 (by kernel_rfl))) ?_
            intro a H
            refine H.alloc HP 83 (fun b => (.slice (some ⟨b, 0, none⟩) 1 1)) 63 [(.int .i64 (((j : Nat) : Int) + 1)), (.int .i64 (1 + pickI X.item 5)), (.int .i64 t), (.int .i64 (1 + pickI X.frames 40)), (.int .i64 0), (.int .i64 (255 - 2 * pickI X.regions 4)), (.slice none 0 0)] (by kernel_rfl) (fun w => by kernel_rfl) ?_
            intro b_82 w_83 a H HP
            have HP := HP.front 1 rfl [(rowsR w.heap.size 69 2 altCells (fun _ _ => True) (fun _ _ => False) (.slice none 0 0) ([] : List (Int × Int))), bx b_82 63 [(.int .i64 (((j : Nat) : Int) + 1)), (.int .i64 (1 + pickI X.item 5)), (.int .i64 t), (.int .i64 (1 + pickI X.frames 40)), (.int .i64 0), (.int .i64 (255 - 2 * pickI X.regions 4)), (.slice none 0 0)] true, bx bE 63 [(.int .i64 (((j : Nat) : Int) + 1)), (.int .i64 (1 + pickI X.item 5)), (.int .i64 t), (.int .i64 (1 + pickI X.frames 40)), (.int .i64 0), (.int .i64 (255 - 2 * pickI X.regions 4)), (.slice none 0 0)] true, (rowsR w.heap.size 63 7 EvA.cells evOk evFp (.slice EA l'.length ec) l')] (by kernel_rfl)
            have HP := HP.absorb 2 rfl elOk_ev (⟨⟨((j : Nat) : Int) + 1, 1 + pickI X.item 5, t, 1 + pickI X.frames 40, 0, 255 - 2 * pickI X.regions 4⟩, none, 0, ([] : List (Int × Int))⟩ : EvA) [bx b_82 63 [(.int .i64 (((j : Nat) : Int) + 1)), (.int .i64 (1 + pickI X.item 5)), (.int .i64 t), (.int .i64 (1 + pickI X.frames 40)), (.int .i64 0), (.int .i64 (255 - 2 * pickI X.regions 4)), (.slice none 0 0)] true, bx bE 63 [(.int .i64 (((j : Nat) : Int) + 1)), (.int .i64 (1 + pickI X.item 5)), (.int .i64 t), (.int .i64 (1 + pickI X.frames 40)), (.int .i64 0), (.int .i64 (255 - 2 * pickI X.regions 4)), (.slice none 0 0)] true, (rowsP w.heap.size 63 7 EvA.cells evOk evFp (.slice EA l'.length ec) l' (⟨⟨((j : Nat) : Int) + 1, 1 + pickI X.item 5, t, 1 + pickI X.frames 40, 0, 255 - 2 * pickI X.regions 4⟩, none, 0, ([] : List (Int × Int))⟩ : EvA))] (by kernel_rfl) (alts_ok (HP.held 0 rfl) (by simp)) (fun k hk => .inl (own_of_row hk)) rfl
            refine H.push HP 84 2 0 (v := (.slice EA l'.length ec)) (e := 63) (p := (⟨⟨((j : Nat) : Int) + 1, 1 + pickI X.item 5, t, 1 + pickI X.frames 40, 0, 255 - 2 * pickI X.regions 4⟩, none, 0, ([] : List (Int × Int))⟩ : EvA)) (l := l') (cs := EvA.cells) (ok := evOk) (fe := evFp) (size := 7) (z := (.agg #[.int .i64 0, .int .i64 0, .int .i64 0, .int .i64 0, .int .i64 0, .int .i64 0, .slice none 0 0])) (bytes := 72) (bb := b_82) (tb := 63) (fb := true) (by kernel_rfl) elOk_ev (by kernel_rfl) (by kernel_rfl) rfl (by kernel_rfl) (by kernel_rfl) (by kernel_rfl) (by kernel_rfl) (by kernel_rfl) rfl (by kernel_rfl) (by unfold maxLen; omega) (by omega) ?_
            intro B_84 c_85 w_86 a H HP
            have HP : Hp w w_86 [bx b_82 63 [(.int .i64 (((j : Nat) : Int) + 1)), (.int .i64 (1 + pickI X.item 5)), (.int .i64 t), (.int .i64 (1 + pickI X.frames 40)), (.int .i64 0), (.int .i64 (255 - 2 * pickI X.regions 4)), (.slice none 0 0)] true, bx bE 63 [(.int .i64 (((j : Nat) : Int) + 1)), (.int .i64 (1 + pickI X.item 5)), (.int .i64 t), (.int .i64 (1 + pickI X.frames 40)), (.int .i64 0), (.int .i64 (255 - 2 * pickI X.regions 4)), (.slice none 0 0)] true, (rowsR w.heap.size 63 7 EvA.cells evOk evFp (.slice B_84 (l'.length + 1) c_85) (l' ++ [(⟨⟨((j : Nat) : Int) + 1, 1 + pickI X.item 5, t, 1 + pickI X.frames 40, 0, 255 - 2 * pickI X.regions 4⟩, none, 0, ([] : List (Int × Int))⟩ : EvA)]))] [] := HP
            refine H.val 3 (.slice B_84 (l'.length + 1) c_85) (by kernel_rfl) (by kernel_rfl) ?_
            intro a H
            refine wpList_nil ?_
            refine then_normal ?_
            refine w_region ?_
            refine H.val 85 (.int .i64 t) (by kernel_rfl) (by kernel_rfl) ?_
            intro a H
            refine H.val 86 (.pointer (some ⟨bE, 3, none⟩)) (by kernel_rfl) (by kernel_rfl) ?_
            intro a H
            refine H.val 87 (.int .i64 (1 + pickI X.frames 40)) (by kernel_rfl) (ex_load1 (by kernel_rfl) (by kernel_rfl) (HP.cell 1 rfl 3 rfl)) ?_
            intro a H
            refine H.valE 88 (.int .i64 (IntKind.i64.wrap (t + (1 + pickI X.frames 40)))) (.int .i64 (t + (1 + pickI X.frames 40))) (by kernel_rfl) (by kernel_rfl) ((by rw [wrap_ini64 _ (by omega)])) ?_
            intro a H
            refine H.val 4 (.int .i64 (t + (1 + pickI X.frames 40))) (by kernel_rfl) (by kernel_rfl) ?_
            intro a H
            refine wpList_nil ?_
            have H := H.keep (L' := [(4, (.int .i64 (t + (1 + pickI X.frames 40)))), (3, (.slice B_84 (l'.length + 1) c_85)), (84, (.slice B_84 (l'.length + 1) c_85)), (83, (.slice (some ⟨b_82, 0, none⟩) 1 1)), (82, (.agg #[(.int .i64 (((j : Nat) : Int) + 1)), (.int .i64 (1 + pickI X.item 5)), (.int .i64 t), (.int .i64 (1 + pickI X.frames 40)), (.int .i64 0), (.int .i64 (255 - 2 * pickI X.regions 4)), (.slice none 0 0)])), (81, (.slice EA l'.length ec)), (68, (.bool (decide ((pickI X.two 6) > 0)))), (49, (.bool (decide ((pickI X.one 6) > 0)))), (6, (.pointer (some ⟨bE, 0, none⟩))), (5, (.int .i64 ((j : Nat) : Int))), (2, (.slice none 0 0)), (0, (.slice (some ⟨b0, off, none⟩) n c))]) (by kernel_rfl)
            refine inb_normal ?_
            refine then_normal ?_
            refine w_region ?_
            refine H.val 15 (.int .i64 ((j : Nat) : Int)) (by kernel_rfl) (by kernel_rfl) ?_
            intro a H
            refine H.valE 16 (.int .i64 (IntKind.i64.wrap (((j : Nat) : Int) + 1))) (.int .i64 (((j : Nat) : Int) + 1)) (by kernel_rfl) (by kernel_rfl) ((by rw [wrap_ini64 _ (by omega)])) ?_
            intro a H
            refine H.val 5 (.int .i64 (((j : Nat) : Int) + 1)) (by kernel_rfl) (by kernel_rfl) ?_
            intro a H
            refine wpList_nil ?_
            refine then_normal ?_
            have H := H.as 5 (.int .i64 ((j + 1 : Nat) : Int)) rfl rfl
            have H := H.as 3 (.slice B_84 ((l' ++ [(⟨⟨((j : Nat) : Int) + 1, 1 + pickI X.item 5, t, 1 + pickI X.frames 40, 0, 255 - 2 * pickI X.regions 4⟩, none, 0, ([] : List (Int × Int))⟩ : EvA)]).length) c_85) rfl (by simp)
            refine ⟨_, ?_, j + 1, B_84, c_85, l' ++ [(⟨⟨((j : Nat) : Int) + 1, 1 + pickI X.item 5, t, 1 + pickI X.frames 40, 0, 255 - 2 * pickI X.regions 4⟩, none, 0, ([] : List (Int × Int))⟩ : EvA)], t + (1 + pickI X.frames 40), rfl, H.keep (by kernel_rfl), (by simpa using ((HP.tail rfl).tail rfl)), by omega, eventsTo_snoc hsp hX ht (altsP_of g49 g68), by rw [ht, startAt_succ, hX], by omega⟩
            omega
    · have g14p := of_decide_eq_false g14
      refine wp_exit ?_
      refine then_exit ?_
      refine then_exit ?_
      refine w_exit_here ?_
      refine then_normal ?_
      refine wp_seq ?_
      refine w_region ?_
      refine H.val 89 (.slice EA l'.length ec) (by kernel_rfl) (by kernel_rfl) ?_
      intro a H
      refine H.val 2 (.slice EA l'.length ec) (by kernel_rfl) (by kernel_rfl) ?_
      intro a H
      refine wpList_nil ?_
      refine then_normal ?_
      refine wp_ret ?_
      refine H.ret1 (fn := Try.f13) Try.results13 (RV.tmp_ (v := (.slice EA l'.length ec)) (by kernel_rfl)) ?_
      exact evs_end (HP.held 0 rfl) (HP.fresh _ (List.mem_of_getElem? (i := 0) rfl) rfl) hsp (by omega) (HP.below (by kernel_rfl))
  · have g11p := of_decide_eq_false g11
    refine H.skip 12 (by kernel_rfl) ?_
    intro a H
    refine H.skip 13 (by kernel_rfl) ?_
    intro a H
    refine H.val 14 (.bool false) (by kernel_rfl) (by kernel_rfl) ?_
    intro a H
    refine wpList_nil ?_
    have H := H.keep (L' := [(14, (.bool false)), (5, (.int .i64 ((j : Nat) : Int))), (4, (.int .i64 t)), (3, (.slice EA l'.length ec)), (2, (.slice none 0 0)), (0, (.slice A n c))]) (by kernel_rfl)
    refine then_normal ?_
    refine w_iff H rfl ?_
    refine wp_exit ?_
    refine then_exit ?_
    refine then_exit ?_
    refine w_exit_here ?_
    refine then_normal ?_
    refine wp_seq ?_
    refine w_region ?_
    refine H.val 89 (.slice EA l'.length ec) (by kernel_rfl) (by kernel_rfl) ?_
    intro a H
    refine H.val 2 (.slice EA l'.length ec) (by kernel_rfl) (by kernel_rfl) ?_
    intro a H
    refine wpList_nil ?_
    refine then_normal ?_
    refine wp_ret ?_
    refine H.ret1 (fn := Try.f13) Try.results13 (RV.tmp_ (v := (.slice EA l'.length ec)) (by kernel_rfl)) ?_
    exact evs_end (HP.held 0 rfl) (HP.fresh _ (List.mem_of_getElem? (i := 0) rfl) rfl) hsp (by omega) (HP.below (by kernel_rfl))
end Go.Proofs.Ytpaepefpfaoacaa
