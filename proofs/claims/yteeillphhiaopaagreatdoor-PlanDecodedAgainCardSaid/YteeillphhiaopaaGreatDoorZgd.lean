/- Part 4 of the proofs: WrP, DeA, CrdP, Iter, SymG, SymH, WireI, WrC, PlH, PlI, DeB, DeC. -/
import Derived.Test.YteeillphhiaopaaGreatDoorRows
import Derived.ProofKit
import Derived.LaidMore
import Derived.OpenShut
import Derived.Stop.Joined
import Derived.Stop.LaidTwo
import Derived.Deep.Strs
import Derived.RangeFuncNested
import Derived.RangeFuncBound
import Derived.RangeFuncCalls
import Derived.RangeFuncLeaves
import Derived.Shelf.Abstract
import Derived.Shelf.RegionOpen
import Derived.WalkKit
import Derived.OwnWalkIn
import Derived.TacticsInMore
import Derived.LoopNIn
import Derived.LoopIn
import Derived.Scope
import Derived.Laws.IdiomStrings
import Derived.Lib.FrozenHead
import Derived.WalkLawsBesides
import Derived.Test.YteeillphhiaopaaGreatDoorZgc
namespace Go.Proofs.YteeillphhiaopaaGreatDoor
open Go.ChangeShapes Go.WideShapes Go.ChangeAt Go.RowKit
set_option linter.unusedVariables false
set_option linter.unusedSimpArgs false
def numsP (p : Pln) : List Int := [p.channel, p.num, p.den, p.offset] ++ (((p.sh.length : Nat) : Int) :: p.sh.flatMap altNs) ++ [p.epoch, p.regions, p.length, p.fill] ++ (((p.its.length : Nat) : Int) :: p.its.flatMap itNs) ++ (((p.es.length : Nat) : Int) :: p.es.flatMap enNs) ++ (((p.bs.length : Nat) : Int) :: p.bs.flatMap bkNs) ++ (((p.cs.length : Nat) : Int) :: p.cs.flatMap clNs)
abbrev inW (z : Int) : Prop := -wmax ≤ z ∧ z ≤ wmax
theorem flat_in {α : Type} {f : α → List Int} {l : List α} (h : ∀ x ∈ l, ∀ z ∈ f x, inW z) : ∀ z ∈ l.flatMap f, inW z := by
  intro z hz
  obtain ⟨x, hx, hz⟩ := List.mem_flatMap.1 hz
  exact h x hx z hz
theorem flat_cnt {α : Type} {f : α → List Int} {l : List α} {n : Nat} (h : ∀ x ∈ l, (f x).length ≤ n) : (l.flatMap f).length ≤ l.length * n := by
  induction l with
  | nil => simp
  | cons x l ih =>
    have h1 := h x (List.mem_cons_self ..)
    have h2 := ih fun y hy => h y (List.mem_cons_of_mem _ hy)
    simp only [List.flatMap_cons, List.length_append, List.length_cons, Nat.succ_mul]
    omega
theorem asc_in {α : Type} {f : α → Int} {lo hi : Int} {l : List α} (h : asc lo hi (l.map f) = true) {x : α} (hx : x ∈ l) : lo < f x ∧ f x ≤ hi := asc_lt h _ (List.mem_map.2 ⟨x, hx, rfl⟩)
theorem asc_cnt {lo hi : Int} : ∀ {l : List Int}, asc lo hi l = true → lo ≤ hi ∨ l = [] → (l.length : Int) ≤ max 0 (hi - lo)
  | [], _, _ => by simp; omega
  | n :: l, h, _ => by
    simp only [asc, Bool.and_eq_true, decide_eq_true_eq] at h
    have := asc_cnt h.2 (.inl h.1.2)
    simp only [List.length_cons]
    omega
theorem hI_in {l : List Itm} {k : Int} (ha : asc 0 1000000 (l.map (fun x => x.id)) = true) (h : hI l k = true) : 0 < k ∧ k ≤ 1000000 := by
  unfold hI fI at h
  cases hf : l.find? (fun x => x.id == k) with
  | none => rw [hf] at h; cases h
  | some x =>
    have h1 := asc_in ha (List.mem_of_find?_eq_some hf)
    have h2 := List.find?_some hf
    simp only [beq_iff_eq] at h2
    omega
theorem hB_in {l : List Bkg} {k : Int} (ha : asc 0 1000000 (l.map (fun x => x.id)) = true) (h : hB l k = true) : 0 < k ∧ k ≤ 1000000 := by
  unfold hB fB at h
  cases hf : l.find? (fun x => x.id == k) with
  | none => rw [hf] at h; cases h
  | some x =>
    have h1 := asc_in ha (List.mem_of_find?_eq_some hf)
    have h2 := List.find?_some hf
    simp only [beq_iff_eq] at h2
    omega
theorem gI_in {l : List Itm} {k n : Int} (h : (gI l k).kind = n) (hn : n ≠ 0) : hI l k = true := by
  unfold gI at h
  unfold hI
  cases hf : fI l k with
  | none => rw [hf] at h; exact absurd h.symm hn
  | some x => rfl
theorem shP_in {last : Int} : ∀ {l : Alts}, shP last l = true → ∀ a ∈ l, last < a.1 ∧ a.1 ≤ 10000000000 ∧ -50400 ≤ a.2 ∧ a.2 ≤ 50400
  | [], _, a, ha => by cases ha
  | b :: l, h, a, ha => by
    simp only [shP, Bool.and_eq_true, decide_eq_true_eq, inR_iff] at h
    rcases List.mem_cons.1 ha with rfl | ha
    · exact ⟨h.1.1.1, h.1.1.2, h.1.2⟩
    · have := shP_in h.2 a ha; omega
theorem entsP_in {p : Pln} : ∀ {l : List Ent} {seen : List Int}, entsP p seen l = true → ∀ e ∈ l, entP p e = true
  | [], _, _, e, he => by cases he
  | x :: l, seen, h, e, he => by
    simp only [entsP, Bool.and_eq_true] at h
    rcases List.mem_cons.1 he with rfl | he
    · exact h.1.1
    · exact entsP_in h.2 e he
theorem clP_in {c : Cls} (h : clP c = true) : ∀ z ∈ clNs c, inW z := by
  unfold clP useP bodyC itemC timeC at h
  unfold inW wmax
  simp only [Bool.and_eq_true] at h
  obtain ⟨h1, h2⟩ := h
  intro z hz
  simp only [clNs, List.mem_cons, List.not_mem_nil, or_false] at hz
  split at h2
  · rw [if_pos (by assumption)] at h1
    simp only [Bool.and_eq_true, decide_eq_true_eq, inR_iff, beq_iff_eq] at h1 h2
    omega
  · split at h2
    · rw [if_neg (by omega), if_pos (by omega)] at h1
      simp only [Bool.and_eq_true, decide_eq_true_eq, inR_iff, beq_iff_eq] at h1 h2
      omega
    · split at h2
      · rw [if_neg (by omega), if_pos (by omega)] at h1
        simp only [Bool.and_eq_true, decide_eq_true_eq, inR_iff, beq_iff_eq] at h1 h2
        omega
      · split at h2
        · rw [if_neg (by omega), if_neg (by omega), if_pos (by omega)] at h1
          simp only [Bool.and_eq_true, decide_eq_true_eq, inR_iff, beq_iff_eq] at h1 h2
          omega
        · split at h2
          · rw [if_neg (by omega), if_neg (by omega), if_neg (by omega), if_pos (by omega)] at h1
            simp only [Bool.and_eq_true, decide_eq_true_eq, inR_iff, beq_iff_eq] at h1 h2
            omega
          · cases h2
theorem alts_in {p : Pln} {e : Ent} (ha : asc 0 1000000 (p.its.map (fun x => x.id)) = true) (hr : p.regions ≤ 8) (h : altsP p.its p.regions e = true) : e.al.length ≤ 7 ∧ ∀ a ∈ e.al, inW a.1 ∧ inW a.2 := by
  unfold altsP at h
  simp only [Bool.and_eq_true, Bool.not_eq_true'] at h
  obtain ⟨⟨h1, _⟩, h3⟩ := h
  refine ⟨?_, fun a ha' => ?_⟩
  · have := asc_cnt h1 (by cases hl : e.al with | nil => exact .inr rfl | cons a l => rw [hl] at h1; simp only [List.map_cons, asc, Bool.and_eq_true, decide_eq_true_eq] at h1; exact .inl (by omega))
    rw [List.length_map] at this
    omega
  · have h4 := asc_in (f := fun x : Int × Int => x.1) h1 ha'
    have h5 : unfitP p.its e.frames a = false := by
      rw [← Bool.not_eq_true]
      intro hu
      rw [List.any_eq_false] at h3
      exact h3 a ha' hu
    have h6 : hI p.its a.2 = true := by
      unfold unfitP at h5
      simp only [Bool.or_eq_false_iff, Bool.not_eq_false'] at h5
      exact h5.1.1.1
    have h7 := hI_in ha h6
    unfold inW wmax
    omega
theorem ent_in {p : Pln} {e : Ent} (ha : asc 0 1000000 (p.its.map (fun x => x.id)) = true) (hb : asc 0 1000000 (p.bs.map (fun x => x.id)) = true) (hi : p.its.all itemP = true) (hr : p.regions ≤ 8) (hlen : p.length ≤ 100000000) (h : entP p e = true) : (∀ z ∈ enNs e, inW z) ∧ (enNs e).length ≤ 30 := by
  unfold entP at h
  simp only [Bool.and_eq_true, inR_iff] at h
  obtain ⟨⟨⟨h1, h2⟩, h3⟩, h4⟩ := h
  obtain ⟨h5, h6⟩ := alts_in ha hr h3
  have hfr := gI_frames hi e.item
  unfold fitsP at h2
  simp only [Bool.and_eq_true, inR_iff, decide_eq_true_eq] at h2
  have h7 := hI_in ha h2.1.1.1.1
  have h8 : 0 ≤ e.booking ∧ e.booking ≤ 1000000 := by
    unfold fulP at h4
    simp only [Bool.or_eq_true, Bool.and_eq_true, beq_iff_eq] at h4
    rcases h4 with h4 | h4
    · omega
    · have := hB_in hb h4.1; omega
  refine ⟨fun z hz => ?_, ?_⟩
  · simp only [enNs, List.mem_append, List.mem_cons, List.not_mem_nil, or_false] at hz
    rcases hz with hz | hz | hz
    · unfold inW wmax; omega
    · unfold inW wmax; omega
    · refine flat_in (fun a ha z hz => ?_) z hz
      simp only [altNs, List.mem_cons, List.not_mem_nil, or_false] at hz
      rcases hz with rfl | rfl
      · exact (h6 a ha).1
      · exact (h6 a ha).2
  · have h9 := flat_cnt (f := altNs) (l := e.al) (n := 2) (fun _ _ => Nat.le_refl _)
    simp only [enNs, List.length_append, List.length_cons, List.length_nil]
    omega
theorem valid_nums {p : Pln} (h : validPl p = true) : (∀ z ∈ numsP p, -wmax ≤ z ∧ z ≤ wmax) ∧ (numsP p).length ≤ 1000000 := by
  unfold validPl at h
  simp only [Bool.and_eq_true, decide_eq_true_eq] at h
  obtain ⟨⟨⟨⟨h1, h2⟩, h3⟩, h4, h5⟩, h6⟩ := h
  rw [soundP_eq] at h1
  unfold itsP at h2
  unfold bksP at h3
  unfold clsP at h6
  simp only [Bool.and_eq_true, decide_eq_true_eq, inR_iff] at h1 h2 h3 h6
  have hrate := rateOk_bd h1.1.1.1.1.2
  have hzone := h1.1.1.1.2
  unfold zoneP at hzone
  simp only [Bool.and_eq_true, decide_eq_true_eq, inR_iff] at hzone
  have hsh := shP_in hzone.2
  have hfill := hI_in h2.1.1.2 (gI_in (eq_of_beq h2.2) (by decide))
  have hits := h2.1.2
  have hen := fun e he => ent_in h2.1.1.2 h3.1.2 hits h1.1.2.2 h1.2.2 (entsP_in h5 e he)
  have hbk : ∀ x ∈ p.bs, ∀ z ∈ bkNs x, inW z := fun x hx z hz => by
    have k1 := List.all_eq_true.1 h3.2 x hx
    have k2 := asc_in h3.1.2 hx
    unfold bookP at k1
    simp only [Bool.and_eq_true, decide_eq_true_eq, inR_iff] at k1
    have k3 := hI_in h2.1.1.2 (gI_in (eq_of_beq k1.1.1.1) (by decide))
    simp only [bkNs, List.mem_cons, List.not_mem_nil, or_false] at hz
    unfold inW wmax
    omega
  have hit : ∀ x ∈ p.its, ∀ z ∈ itNs x, inW z := fun x hx z hz => by
    have k1 := List.all_eq_true.1 hits x hx
    have k2 := asc_in h2.1.1.2 hx
    unfold itemP at k1
    simp only [Bool.and_eq_true, inR_iff] at k1
    simp only [itNs, List.mem_cons, List.not_mem_nil, or_false] at hz
    unfold inW wmax
    omega
  have hsn : ∀ x ∈ p.sh, ∀ z ∈ altNs x, inW z := fun x hx z hz => by
    have k1 := hsh x hx
    simp only [altNs, List.mem_cons, List.not_mem_nil, or_false] at hz
    unfold inW wmax
    omega
  have hcn : ∀ x ∈ p.cs, ∀ z ∈ clNs x, inW z := fun x hx => clP_in (List.all_eq_true.1 h6.2 x hx)
  refine ⟨fun z hz => ?_, ?_⟩
  · simp only [numsP, List.mem_append] at hz
    rcases hz with ((((((hz | hz) | hz) | hz) | hz) | hz) | hz)
    · simp only [List.mem_cons, List.not_mem_nil, or_false] at hz; unfold wmax; omega
    · rcases List.mem_cons.1 hz with rfl | hz
      · unfold wmax; omega
      · exact flat_in hsn z hz
    · simp only [List.mem_cons, List.not_mem_nil, or_false] at hz; unfold wmax; omega
    · rcases List.mem_cons.1 hz with rfl | hz
      · unfold wmax; omega
      · exact flat_in hit z hz
    · rcases List.mem_cons.1 hz with rfl | hz
      · unfold wmax; omega
      · exact flat_in (fun e he => (hen e he).1) z hz
    · rcases List.mem_cons.1 hz with rfl | hz
      · unfold wmax; omega
      · exact flat_in hbk z hz
    · rcases List.mem_cons.1 hz with rfl | hz
      · unfold wmax; omega
      · exact flat_in hcn z hz
  · have c1 := flat_cnt (f := altNs) (l := p.sh) (n := 2) (fun _ _ => Nat.le_refl _)
    have c2 := flat_cnt (f := itNs) (l := p.its) (n := 5) (fun _ _ => Nat.le_refl _)
    have c3 := flat_cnt (f := enNs) (l := p.es) (n := 30) (fun e he => (hen e he).2)
    have c4 := flat_cnt (f := bkNs) (l := p.bs) (n := 7) (fun _ _ => Nat.le_refl _)
    have c5 := flat_cnt (f := clNs) (l := p.cs) (n := 8) (fun _ _ => Nat.le_refl _)
    simp only [numsP, List.length_append, List.length_cons, List.length_nil]
    omega
end Go.Proofs.YteeillphhiaopaaGreatDoor
namespace Go.Proofs.YteeillphhiaopaaGreatDoor
open Go.ChangeShapes Go.WideShapes Go.ChangeAt Go.RowKit
set_option linter.unusedVariables false
set_option linter.unusedSimpArgs false
structure LaidP (a0 a1 : Addr) (w : World) : Prop where
  rates : LaidR w
  c0 : w.cell? ⟨0, 0, none⟩ = some (.iface 212 (.pointer (some a0)))
  c1 : w.cell? ⟨1, 0, none⟩ = some (.iface 212 (.pointer (some a1)))
  ne : a0 ≠ a1
  b0 : ∃ c t, w.heap[a0.block]? = some (.cells c t (0, 0))
  b1 : ∃ c t, w.heap[a1.block]? = some (.cells c t (0, 0))
def lpFp (a0 a1 : Addr) (k : Nat) : Prop := k = 0 ∨ k = 1 ∨ k = 2 ∨ k = a0.block ∨ k = a1.block
theorem cell_keep {w w' : World} {b off : Nat} {v : Value} (h : w.cell? ⟨b, off, none⟩ = some v) (hk : w'.heap[b]? = w.heap[b]?) : w'.cell? ⟨b, off, none⟩ = some v := by
  rw [← h]
  simp only [World.cell?, hk]
theorem LaidP.keep {a0 a1 : Addr} {w w' : World} (h : LaidP a0 a1 w) (hk : ∀ k, lpFp a0 a1 k → w'.heap[k]? = w.heap[k]?) : LaidP a0 a1 w' :=
  ⟨fun i hi => cell_keep (h.rates i hi) (hk _ (.inr (.inr (.inl rfl)))), cell_keep h.c0 (hk _ (by unfold lpFp; omega)), cell_keep h.c1 (hk _ (by unfold lpFp; omega)), h.ne,
    by rw [hk _ (.inr (.inr (.inr (.inl rfl))))]; exact h.b0, by rw [hk _ (.inr (.inr (.inr (.inr rfl))))]; exact h.b1⟩
theorem LaidP.lt {a0 a1 : Addr} {w : World} (h : LaidP a0 a1 w) : ∀ k, lpFp a0 a1 k → k < w.heap.size := by
  have k2 := World.block_lt_of_cell? _ _ (h.rates 0 (by decide))
  have k0 := World.block_lt_of_cell? _ _ h.c0
  have k1 := World.block_lt_of_cell? _ _ h.c1
  obtain ⟨_, _, h0⟩ := h.b0
  obtain ⟨_, _, h1⟩ := h.b1
  have j0 := (Array.getElem?_eq_some_iff.1 h0).1
  have j1 := (Array.getElem?_eq_some_iff.1 h1).1
  simp only at k0 k1 k2
  rintro k (rfl | rfl | rfl | rfl | rfl) <;> omega
theorem LaidP.below {a0 a1 : Addr} {w w' : World} (h : LaidP a0 a1 w) (hb : Below w.heap.size w w') : LaidP a0 a1 w' := h.keep fun k hk => hb.block k (h.lt k hk)
def laidK (a0 a1 : Addr) : FK := ⟨lpFp a0 a1, LaidP a0 a1⟩
theorem laidK_ok (a0 a1 : Addr) : (laidK a0 a1).ok := fun _ _ h hk _ => h.keep hk
abbrev errV (a : Addr) : Value := .iface 212 (.pointer (some a))
abbrev panicOf (a : Addr) : List PanicEntry := [{ v := errV a, recovered := false }]
theorem Hp.swap {w0 w w' : World} {L L' : List HB} {K : List FK} (H : Hp w0 w L K) (f : Nat → Prop) (hag : Agree w w' f) (hL : L'.length = L.length)
    (h : ∀ (n : Nat) (x' : HB), L'[n]? = some x' → ∃ x : HB, L[n]? = some x ∧ x'.fp = x.fp ∧ x'.fresh = x.fresh ∧ ((x' = x ∧ ∀ k, x.fp k → ¬ f k) ∨ (x'.F w' ∧ x'.ok))) (hf : ∀ k, f k → ∃ x ∈ L, x.fp k) : Hp w0 w' L' K := by
  have back : ∀ x ∈ L, ∃ x' ∈ L', x'.fp = x.fp := by
    intro x hx
    obtain ⟨n, hn⟩ := List.mem_iff_getElem?.1 hx
    have hlt := (List.getElem?_eq_some_iff.1 hn).1
    obtain ⟨y, hy, e, _⟩ := h n (L'[n]'(by omega)) (List.getElem?_eq_getElem (by omega))
    rw [hn] at hy
    cases hy
    exact ⟨_, List.getElem_mem _, e⟩
  have forth : ∀ x' ∈ L', ∃ x ∈ L, x'.fp = x.fp ∧ x'.fresh = x.fresh ∧ ((x' = x ∧ ∀ k, x.fp k → ¬ f k) ∨ (x'.F w' ∧ x'.ok)) := by
    intro x' hx'
    obtain ⟨n, hn⟩ := List.mem_iff_getElem?.1 hx'
    obtain ⟨x, hx, r⟩ := h n x' hn
    exact ⟨x, List.mem_of_getElem? hx, r⟩
  refine ⟨hag.os.trans H.os, hag.tape.trans H.tape, hag.output.trans H.output, Nat.le_trans H.size hag.size, fun k hk hn => ?_, fun x' hx' => ?_, ?_, fun x' hx' hfr k hk => ?_, fun p hp => ?_⟩
  · have h1 : ∀ x ∈ L, ¬ x.fp k := fun x hx hxk => by
      obtain ⟨x', hx', e⟩ := back x hx
      exact hn x' hx' (e ▸ hxk)
    rw [hag.block k (Nat.lt_of_lt_of_le hk H.size) (fun hfk => by obtain ⟨x, hx, hxk⟩ := hf k hfk; exact h1 x hx hxk)]
    exact H.old k hk h1
  · obtain ⟨x, hx, e, _, r⟩ := forth x' hx'
    obtain ⟨g1, g2, g3⟩ := H.res x hx
    rcases r with ⟨rfl, hn⟩ | ⟨r1, r2⟩
    · exact ⟨g2 _ _ g1 (fun k hk => hag.block k (g3 k hk) (hn k hk)) hag.size, g2, fun k hk => Nat.lt_of_lt_of_le (g3 k hk) hag.size⟩
    · exact ⟨r1, r2, fun k hk => Nat.lt_of_lt_of_le (g3 k (e ▸ hk)) hag.size⟩
  · rw [List.pairwise_iff_getElem]
    intro i j hi hj hij k hk hk'
    obtain ⟨x, hx, e, _⟩ := h i _ (List.getElem?_eq_getElem hi)
    obtain ⟨y, hy, e', _⟩ := h j _ (List.getElem?_eq_getElem hj)
    exact pair_at H.apart hx hy hij k (e ▸ hk) (e' ▸ hk')
  · obtain ⟨x, hx, e, e2, _⟩ := forth x' hx'
    exact H.fresh x hx (e2 ▸ hfr) k (e ▸ hk)
  · obtain ⟨k1, k2, k3⟩ := H.kept p hp
    refine ⟨k2 _ _ k1 (fun k hk => hag.block k (k3 k hk).1 fun hfk => ?_) hag.size, k2, fun k hk => ⟨Nat.lt_of_lt_of_le (k3 k hk).1 hag.size, fun x' hx' hxk => ?_⟩⟩
    · obtain ⟨x, hx, hxk⟩ := hf k hfk
      exact (k3 k hk).2 x hx hxk
    · obtain ⟨x, hx, e, _⟩ := forth x' hx'
      exact (k3 k hk).2 x hx (e ▸ hxk)
theorem Hp.changed2 {w0 w w' : World} {L : List HB} {K : List FK} (H : Hp w0 w L K) (i j : Nat) {b c t u : Nat} {vs us : List Value} {f f' : Bool} (hi : L[i]? = some (bx b t vs f)) (hj : L[j]? = some (bx c u us f')) (vs' us' : List Value) (L' : List HB)
    (hL : (L.set i (bx b t vs' f)).set j (bx c u us' f') = L') (hij : i ≠ j) (hag : Agree w w' (fun k => k = b ∨ k = c)) (h1 : Box w' b t vs'.toArray) (h2 : Box w' c u us'.toArray) : Hp w0 w' L' K := by
  subst hL
  refine H.swap _ hag (by simp) (fun n x' hx' => ?_) (fun k hk => ?_)
  · by_cases hn : j = n
    · subst hn
      rw [List.getElem?_set] at hx'
      simp only [List.length_set, (List.getElem?_eq_some_iff.1 hj).1, if_true, Option.some.injEq] at hx'
      subst hx'
      exact ⟨_, hj, rfl, rfl, .inr ⟨h2, bx_ok _ _ _ _⟩⟩
    · rw [List.getElem?_set_ne hn] at hx'
      by_cases hm : i = n
      · subst hm
        rw [List.getElem?_set] at hx'
        simp only [(List.getElem?_eq_some_iff.1 hi).1, if_true, Option.some.injEq] at hx'
        subst hx'
        exact ⟨_, hi, rfl, rfl, .inr ⟨h1, bx_ok _ _ _ _⟩⟩
      · rw [List.getElem?_set_ne hm] at hx'
        refine ⟨x', hx', rfl, rfl, .inl ⟨rfl, fun k hk hk' => ?_⟩⟩
        rcases hk' with rfl | rfl
        · rcases Nat.lt_or_gt_of_ne hm with h | h
          · exact pair_at H.apart hi hx' h k rfl hk
          · exact pair_at H.apart hx' hi h k hk rfl
        · rcases Nat.lt_or_gt_of_ne hn with h | h
          · exact pair_at H.apart hj hx' h k rfl hk
          · exact pair_at H.apart hx' hj h k hk rfl
  · rcases hk with rfl | rfl
    · exact ⟨_, List.mem_of_getElem? hi, rfl⟩
    · exact ⟨_, List.mem_of_getElem? hj, rfl⟩
theorem Hp.agree {w0 w : World} {L : List HB} {K : List FK} (H : Hp w0 w L K) (f : Nat → Prop) (hf : ∀ x ∈ L, x.fresh = true ∨ ∀ k, x.fp k → f k) : Agree w0 w f :=
  ⟨H.os, H.tape, H.output, H.size, fun k hk hn => H.old k hk fun x hx hxk => by
    rcases hf x hx with h | h
    · have := H.fresh x hx h k hxk; omega
    · exact hn (h k hxk)⟩
def putAt : List Value → List Nat → List Int → List Value
  | us, o :: os, z :: zs => putAt (us.set o (.int .i64 z)) os zs
  | us, _, _ => us
theorem putAt_len : ∀ (us : List Value) (os : List Nat) (zs : List Int), (putAt us os zs).length = us.length
  | us, o :: os, z :: zs => by rw [putAt, putAt_len]; simp
  | us, [], _ => by simp [putAt]
  | us, _ :: _, [] => by simp [putAt]
theorem putAt_snoc : ∀ (us : List Value) (os : List Nat) (zs : List Int) {o : Nat} {z : Int}, os[zs.length]? = some o → putAt us os (zs ++ [z]) = (putAt us os zs).set o (.int .i64 z)
  | us, [], _, o, z, h => by simp at h
  | us, o' :: os, [], o, z, h => by simp at h; subst h; cases os <;> rfl
  | us, o' :: os, z' :: zs, o, z, h => by
    simp only [List.cons_append, putAt]
    exact putAt_snoc _ os zs (by simpa using h)
abbrev RdR (α : Type) := Except Int (α × Nat)
def rdN (s : List UInt8) : Nat → Nat → RdR (List Int)
  | 0, k => .ok ([], k)
  | n + 1, k => match rdInt s k with
    | none => .error 10
    | some (z, k1) => match rdN s n k1 with
      | .error e => .error e
      | .ok (l, k2) => .ok (z :: l, k2)
def rdL {α : Type} (el : Nat → RdR α) : Nat → Nat → RdR (List α)
  | 0, k => .ok ([], k)
  | n + 1, k => match el k with
    | .error e => .error e
    | .ok (x, k1) => match rdL el n k1 with
      | .error e => .error e
      | .ok (l, k2) => .ok (x :: l, k2)
def rdC {α : Type} (s : List UInt8) (most : Nat) (el : Nat → RdR α) (k : Nat) : RdR (List α) := match rdInt s k with
  | none => .error 10
  | some (n, k1) => if n < 0 ∨ (most : Int) < n then .error 80 else rdL el n.toNat k1
def rdM {α : Type} (f : List Int → α) (s : List UInt8) (m k : Nat) : RdR α := match rdN s m k with
  | .error e => .error e
  | .ok (l, k1) => .ok (f l, k1)
def altOf (l : List Int) : Int × Int := (l.getD 0 0, l.getD 1 0)
def itOf (l : List Int) : Itm := ⟨l.getD 0 0, l.getD 1 0, l.getD 2 0, l.getD 3 0, l.getD 4 0⟩
def bkOf (l : List Int) : Bkg := ⟨l.getD 0 0, l.getD 1 0, l.getD 2 0, l.getD 3 0, l.getD 4 0, l.getD 5 0, l.getD 6 0⟩
def clOf (l : List Int) : Cls := ⟨l.getD 0 0, l.getD 1 0, l.getD 2 0, l.getD 3 0, l.getD 4 0, l.getD 5 0, l.getD 6 0, l.getD 7 0⟩
def rdEnt (s : List UInt8) (k : Nat) : RdR EnN := match rdN s 6 k with
  | .error e => .error e
  | .ok (l, k1) => match rdC s 7 (rdM altOf s 2) k1 with
    | .error e => .error e
    | .ok (al, k2) => .ok (⟨l.getD 0 0, l.getD 1 0, l.getD 2 0, l.getD 3 0, l.getD 4 0, l.getD 5 0, al⟩, k2)
def rdPl (s : List UInt8) : RdR PlN := match rdN s 4 0 with
  | .error e => .error e
  | .ok (h, k1) => match rdC s 40 (rdM altOf s 2) k1 with
    | .error e => .error e
    | .ok (sh, k2) => match rdN s 4 k2 with
      | .error e => .error e
      | .ok (m, k3) => match rdC s 4000 (rdM itOf s 5) k3 with
        | .error e => .error e
        | .ok (its, k4) => match rdC s 4000 (rdEnt s) k4 with
          | .error e => .error e
          | .ok (es, k5) => match rdC s 2000 (rdM bkOf s 7) k5 with
            | .error e => .error e
            | .ok (bs, k6) => match rdC s 400 (rdM clOf s 8) k6 with
              | .error e => .error e
              | .ok (cs, k7) => .ok (⟨h.getD 0 0, h.getD 1 0, h.getD 2 0, h.getD 3 0, sh, m.getD 0 0, m.getD 1 0, m.getD 2 0, m.getD 3 0, its, es, bs, cs⟩, k7)
def zeroN : PlN := ⟨0, 0, 0, 0, [], 0, 0, 0, 0, [], [], [], []⟩
def decN (s : List UInt8) : PlN × Int := match rdPl s with
  | .error e => (zeroN, e)
  | .ok (v, k) => if k < s.length then (zeroN, 10) else if validN v then (v, 0) else (zeroN, 80)
def pre {α : Type} (l : List α) : RdR (List α) → RdR (List α)
  | .error e => .error e
  | .ok (m, k) => .ok (l ++ m, k)
theorem pre_nil {α : Type} (r : RdR (List α)) : pre [] r = r := by cases r <;> rfl
theorem pre_ok {α : Type} (l : List α) (k : Nat) : pre l (.ok ([], k)) = .ok (l, k) := by simp [pre]
theorem rdN_step {s : List UInt8} {n k k1 : Nat} {z : Int} {l : List Int} (h : rdInt s k = some (z, k1)) : pre l (rdN s (n + 1) k) = pre (l ++ [z]) (rdN s n k1) := by
  simp only [rdN, h]
  cases rdN s n k1 with
  | error e => rfl
  | ok p => simp [pre]
theorem rdN_none {s : List UInt8} {n k : Nat} {l : List Int} (h : rdInt s k = none) : pre l (rdN s (n + 1) k) = .error 10 := by
  simp only [rdN, h, pre]
theorem rdL_step {α : Type} {el : Nat → RdR α} {n k k1 : Nat} {x : α} {l : List α} (h : el k = .ok (x, k1)) : pre l (rdL el (n + 1) k) = pre (l ++ [x]) (rdL el n k1) := by
  simp only [rdL, h]
  cases rdL el n k1 with
  | error e => rfl
  | ok p => simp [pre]
theorem rdL_err {α : Type} {el : Nat → RdR α} {n k : Nat} {e : Int} {l : List α} (h : el k = .error e) : pre l (rdL el (n + 1) k) = .error e := by
  simp only [rdL, h, pre]
theorem rdInt_lt {s : List UInt8} {k e : Nat} {n : Int} (hk : k ≤ s.length) (h : rdInt s k = some (n, e)) : k < e ∧ e ≤ s.length := by
  obtain ⟨_, _, h1, h2, _⟩ := rdInt_canon hk h
  have := (encInt_len n).1
  omega
theorem rdN_len {s : List UInt8} : ∀ {n k k1 : Nat} {l : List Int}, rdN s n k = .ok (l, k1) → l.length = n
  | 0, k, k1, l, h => by simp [rdN] at h; rw [h.1]; rfl
  | n + 1, k, k1, l, h => by
    simp only [rdN] at h
    cases hr : rdInt s k with
    | none => rw [hr] at h; cases h
    | some p =>
      rw [hr] at h
      simp only at h
      cases hm : rdN s n p.2 with
      | error e => rw [hm] at h; cases h
      | ok q =>
        rw [hm] at h
        simp only [Except.ok.injEq, Prod.mk.injEq] at h
        rw [← h.1, List.length_cons, rdN_len hm]
end Go.Proofs.YteeillphhiaopaaGreatDoor
namespace Go.Proofs.YteeillphhiaopaaGreatDoor
open Go.ChangeShapes Go.WideShapes Go.ChangeAt Go.WideMaps Go.WideElems Go.RowKit
set_option linter.unusedVariables false
def laid2 : List (String × DataW Unit) := [("onair/timecode.rates", Rows.laid_onair_timecode_rates), ("onair/plan.errBytes", Rows.laid_onair_plan_errBytes), ("onair/plan.errPlan", Rows.laid_onair_plan_errPlan)]
theorem gnRates : Tryz.prog.globalNamed "onair/timecode.rates" = some 2 := by kernel_rfl
theorem gnBytes : Tryz.prog.globalNamed "onair/plan.errBytes" = some 0 := by kernel_rfl
theorem gnPlan : Tryz.prog.globalNamed "onair/plan.errPlan" = some 1 := by kernel_rfl
theorem door_met (os : Os) (args : Array Value) : laidMetH Tryz.prog laid2 ((World.doorLaid Tryz.prog 4000 os).forCall (fun _ _ => 0) ⟨#[], args, []⟩).memory :=
  laidMetH_of_parts3 (fuel := 12) (laidMet_of_run' 12 (by kernel_rfl) (by kernel_rfl)) (by kernel_rfl) (by kernel_rfl)
theorem star : "*" ++ "errors.errorString" = "*errors.errorString" := by decide
theorem rowErr (u : TypeId) (h : Tryz.prog.typeName? 3 u = some "*errors.errorString") : u = 212 :=
  typeName_ptr_named (nm := "errors.errorString") (by rw [star]; kernel_rfl) (by kernel_rfl) (by decide) u (by rw [star]; exact h)
theorem int_cell {H : Type} {enc : TypeId × Value → H} {P : Program} {w : World} {base : Nat} {spare : Nat → Bool} {held : Bool} {fuel : Nat} {t : TypeId} {cs : List Value} {x : DataW H × List MemPlace} {k : IntKind} (ht : P.underlying t = some (.int k)) (h : DataW.trod enc P w base spare held fuel t cs = some x) :
    ∃ n, cs = [.int k n] ∧ x.1 = .lit (.int k n) := by
  obtain ⟨n, rfl, rfl, _⟩ := DataW.trod_int ht h
  exact ⟨n, rfl, rfl⟩
theorem seg_get {cs l : List Value} {o n : Nat} (h : (cs.drop o).take n = l) {j : Nat} {v : Value} (hv : l[j]? = some v) : cs[o + j]? = some v := by
  subst h
  have hj : j < n := by
    have := (List.getElem?_eq_some_iff.1 hv).1
    simp at this; omega
  rw [List.getElem?_take_of_lt hj, List.getElem?_drop] at hv
  exact hv
def litI {H : Type} : DataW H → Int
  | .lit (.int _ n) => n
  | _ => 0
def rowI {H : Type} : DataW H → List Int
  | .agg [.agg [a, b], c, d] => [litI a, litI b, litI c, litI d]
  | _ => []
def ofAgg {H : Type} : DataW H → List (DataW H)
  | .agg l => l
  | _ => []
set_option maxRecDepth 100000 in
theorem laid_of {W : World} (h : laidMetH Tryz.prog laid2 W) : ∃ a0 a1, LaidP a0 a1 W := by
  rw [MakeChecks.laidMetH_plain _ _ _ (by kernel_rfl)] at h
  obtain ⟨ps, ⟨g2, t2, cs2, f2, p2, q2, hg2, ht2, hv2, hd2, ⟨g0, t0, cs0, f0, p0, q0, hg0, ht0, hv0, hd0, ⟨g1, t1, cs1, f1, p1, q1, hg1, ht1, hv1, hd1, _, e1⟩, e0⟩, e2⟩, hnd, hrows⟩ := h
  obtain rfl := Option.some.inj (gnRates.symm.trans hg2)
  obtain rfl := Option.some.inj (gnBytes.symm.trans hg0)
  obtain rfl := Option.some.inj (gnPlan.symm.trans hg1)
  obtain rfl := Option.some.inj ((show (Tryz.prog.globals[2]?).map (·.type) = some 200 by kernel_rfl).symm.trans ht2)
  obtain rfl := Option.some.inj ((show (Tryz.prog.globals[0]?).map (·.type) = some 99 by kernel_rfl).symm.trans ht0)
  obtain rfl := Option.some.inj ((show (Tryz.prog.globals[1]?).map (·.type) = some 99 by kernel_rfl).symm.trans ht1)
  subst e1 e0 e2
  obtain ⟨l0⟩ := cs0
  obtain ⟨l1⟩ := cs1
  have ok0 : ∀ u v, l0 = [.iface u v] → Value.okWide Tryz.prog W .any 0 u v := fun u v e => by
    subst e
    exact (hrows 0 0 (by simp [MemPlace.row])).2 u v (by simpa using World.var?_cell hg0 hv0 0)
  have ok1 : ∀ u v, l1 = [.iface u v] → Value.okWide Tryz.prog W .any 0 u v := fun u v e => by
    subst e
    exact (hrows 1 0 (by simp [MemPlace.row])).2 u v (by simpa using World.var?_cell hg1 hv1 0)
  obtain ⟨a0, s0, rfl, hc0, hs0, hz0, rfl⟩ := errorString_of_trod (te := 236) Tryz.underlying99 rowErr Tryz.underlying212 Tryz.underlying236 rfl rfl Tryz.underlying9 (by kernel_rfl) (by kernel_rfl) hd0 ok0
  obtain ⟨a1, s1, rfl, hc1, hs1, hz1, rfl⟩ := errorString_of_trod (te := 236) Tryz.underlying99 rowErr Tryz.underlying212 Tryz.underlying236 rfl rfl Tryz.underlying9 (by kernel_rfl) (by kernel_rfl) hd1 ok1
  obtain ⟨c0, t0, hb0⟩ := (hrows a0.block a0.off (by simp [MemPlace.row])).1
  obtain ⟨c1, t1, hb1⟩ := (hrows a1.block a1.off (by simp [MemPlace.row])).1
  refine ⟨a0, a1, ⟨fun i hi => ?_, by simpa using World.var?_cell hg0 hv0 0, by simpa using World.var?_cell hg1 hv1 0, ?_, ⟨c0, t0, hb0⟩, ⟨c1, t1, hb1⟩⟩⟩
  · obtain ⟨xs0, m0, _, hx0, _, hn0, hel0⟩ := DataW.trod_array (n := 8) (e := 172) (by kernel_rfl) hd2
    rw [show Tryz.prog.cellsOf 172 = 4 by kernel_rfl] at hel0
    have e0 : xs0.map (fun x => rowI x.1) = (ofAgg (Rows.laid_onair_timecode_rates (H := Unit))).map rowI := by
      have := congrArg (fun x => (ofAgg x.1).map rowI) hx0
      simpa [ofAgg, Function.comp_def] using this.symm
    have hr : i / 4 < 8 := by omega
    have hxi : xs0[i / 4]? = some xs0[i / 4] := List.getElem?_eq_getElem (by omega)
    obtain ⟨y0, y1, y2, n', hy, _, h0, h1, h2⟩ := Deep.trod_struct3 Tryz.underlying172 ((hel0 (i / 4) hr).trans hxi)
    obtain ⟨z0, z1, n2, hz, _, k0, k1⟩ := trod_struct2 Tryz.underlying23 h0
    obtain ⟨a, sa, la⟩ := int_cell (k := .i64) Tryz.underlying3 k0
    obtain ⟨b, sb, lb⟩ := int_cell (k := .i64) Tryz.underlying3 k1
    obtain ⟨c, sc, lc⟩ := int_cell (k := .i64) Tryz.underlying3 h1
    obtain ⟨d, sd, ld⟩ := int_cell (k := .i64) Tryz.underlying3 h2
    have a3 := seg_get rfl (seg_get rfl (seg_get sa (j := 0) rfl))
    have b3 := seg_get rfl (seg_get rfl (seg_get sb (j := 0) rfl))
    have c3 := seg_get rfl (seg_get sc (j := 0) rfl)
    have d3 := seg_get rfl (seg_get sd (j := 0) rfl)
    have hl : (xs0.map (fun x => rowI x.1))[i / 4]? = some [a, b, c, d] := by
      rw [List.getElem?_map, hxi, hy, hz]
      simp only [Option.map_some, rowI, la, lb, lc, ld, litI]
    rw [e0] at hl
    have key : ∀ r, r < 8 → ((ofAgg (Rows.laid_onair_timecode_rates (H := Unit))).map rowI)[r]? = some [rateCells.getD (4 * r) 0, rateCells.getD (4 * r + 1) 0, rateCells.getD (4 * r + 2) 0, rateCells.getD (4 * r + 3) 0] := by decide
    rw [key _ hr] at hl
    simp only [Option.some.injEq, List.cons.injEq, and_true] at hl
    obtain ⟨rfl, rfl, rfl, rfl⟩ := hl
    have hv := World.var?_cell hg2 hv2 i
    rw [hv]
    obtain ⟨r, hr2⟩ : ∃ r, i / 4 = r := ⟨_, rfl⟩
    rw [hr2] at a3 b3 c3 d3
    have hi4 : i = 4 * r ∨ i = 4 * r + 1 ∨ i = 4 * r + 2 ∨ i = 4 * r + 3 := by omega
    rw [← Array.getElem?_toList]
    rcases hi4 with rfl | rfl | rfl | rfl
    · refine Eq.trans ?_ a3; congr 1; simp; try omega
    · refine Eq.trans ?_ b3; congr 1; simp; try omega
    · refine Eq.trans ?_ c3; congr 1; simp; try omega
    · refine Eq.trans ?_ d3; congr 1; simp; try omega
  · rintro rfl
    have h2 := (List.nodup_append.1 hnd).2.1
    simp [MemPlace.row] at h2
end Go.Proofs.YteeillphhiaopaaGreatDoor
namespace Go.Proofs.YteeillphhiaopaaGreatDoor
open Go.ChangeShapes Go.WideShapes Go.ChangeAt Go.RowKit Go.Shelf
set_option linter.unusedVariables false
def KeepC (n₀ n₁ n₂ : Nat) (W W' : World) : Prop := Below n₀ W W' ∧ ∀ (b : Nat) (o : Obj), n₁ ≤ b → W.heap[b]? = some o → (o.isCells = true ∨ n₂ ≤ b) → W'.heap[b]? = some o
theorem KeepC.refl (n₀ n₁ n₂ : Nat) (W : World) : KeepC n₀ n₁ n₂ W W := ⟨Below.refl _ _, fun _ _ _ h _ => h⟩
theorem KeepC.trans {n₀ n₁ n₂ : Nat} {A B C : World} (h : KeepC n₀ n₁ n₂ A B) (k : KeepC n₀ n₁ n₂ B C) : KeepC n₀ n₁ n₂ A C := ⟨h.1.trans k.1, fun b o hb ho hc => k.2 b o hb (h.2 b o hb ho hc) hc⟩
theorem KeepC.put {n₀ n₁ n₂ : Nat} {w : World} (hn : n₀ ≤ w.heap.size) (hn₂ : n₂ = w.heap.size + 2) (W : World) (l : Nat) (o o' : Obj) (hl : w.heap.size ≤ l) (hl2 : l < w.heap.size + 2) (h : W.heap[l]? = some o) (h1 : o.isCells = false) (h2 : o.isWalk = false) : KeepC n₀ n₁ n₂ W (W.putObj l o') :=
  ⟨belowK_b hn W l o o' hl h h1 h2, fun b o2 _ hb hc => by
    refine (World.putObj_heap_other ?_).trans hb
    intro e
    subst e
    rcases hc with hc | hc
    · rw [h] at hb
      cases hb
      rw [h1] at hc
      cases hc
    · omega⟩
theorem KeepC.below {n₀ n₁ n₂ : Nat} {W W' : World} (h : Below W.heap.size W W') (hn : n₀ ≤ W.heap.size) : KeepC n₀ n₁ n₂ W W' :=
  ⟨h.mono hn, fun b o _ ho _ => (h.block b (Array.getElem?_eq_some_iff.1 ho).1).trans ho⟩
theorem KeepC.set {n₀ n₁ n₂ : Nat} (W : World) {b i : Nat} (v : Value) (h0 : n₀ ≤ b) (h1 : b < n₁) : KeepC n₀ n₁ n₂ W (W.setCell ⟨b, i, none⟩ v) :=
  ⟨(Below.refl _ _).setCell h0 _, fun b' o hb ho _ => (Below.heap_setCell W ⟨b, i, none⟩ v b' (by show b' ≠ b; omega)).trans ho⟩
theorem KeepC.mono {n₀ n₁ n₂ m₁ m₂ : Nat} {W W' : World} (h : KeepC n₀ n₁ n₂ W W') (hm : n₁ ≤ m₁) (hm2 : n₂ ≤ m₂) : KeepC n₀ m₁ m₂ W W' := ⟨h.1, fun b o hb ho hc => h.2 b o (Nat.le_trans hm hb) ho (hc.imp id (Nat.le_trans hm2))⟩
theorem KeepC.box {n₀ n₁ n₂ : Nat} {W W' : World} (h : KeepC n₀ n₁ n₂ W W') {b : Nat} {t : TypeId} {vs : Array Value} (hb : n₁ ≤ b) (hx : Box W b t vs) : Box W' b t vs := h.2 b _ hb hx (.inl rfl)
theorem KeepC.from {n₀ n₁ n₂ B : Nat} {W W' : World} (h : KeepC n₀ n₁ n₂ W W') (h1 : n₁ ≤ B) (h2 : n₂ ≤ B) : KeepsFrom B W W' := ⟨h.1.size, fun k o hk ho _ => h.2 k o (by omega) ho (.inr (by omega))⟩
theorem OwnFrom.imp {β : Type} {B B' : Nat} {I : β → World → Prop} (h : OwnFrom B I) (hb : B ≤ B') : OwnFrom B' I := fun s W W' row hs hg hr => h s W W' row hs hg (fun r e => ⟨Nat.le_trans hb (hr r e).1, (hr r e).2⟩)
theorem OwnFrom.at {β γ : Type} {B : Nat} {I : β → World → Prop} (h : OwnFrom B I) (s : β) : OwnFrom B (fun (_ : γ) W => I s W) := fun _ W W' row hs hg hr => h s W W' row hs hg hr
theorem OwnFrom.below {β : Type} {B : Nat} {I : β → World → Prop} (h : OwnFrom B I) {s : β} {W W' : World} (hs : I s W) (hb : Below W.heap.size W W') : I s W' :=
  h s W W' none hs ⟨hb.os, hb.tape, hb.output, hb.size, fun k hk _ => hb.block k hk⟩ (fun r e => by cases e)
end Go.Proofs.YteeillphhiaopaaGreatDoor
namespace Go.Proofs.YteeillphhiaopaaGreatDoor
open Go.ChangeShapes Go.WideShapes Go.ChangeAt Go.RowKit Go.Shelf
set_option linter.unusedVariables false
set_option linter.unusedSimpArgs false
def over (l : List UInt8) (o : Nat) (s : List UInt8) : List UInt8 := l.take o ++ s ++ l.drop (o + s.length)
end Go.Proofs.YteeillphhiaopaaGreatDoor
namespace Go.Proofs.YteeillphhiaopaaGreatDoor
open Go.ChangeShapes Go.WideShapes Go.ChangeAt Go.RowKit Go.Shelf
set_option linter.unusedVariables false
set_option linter.unusedSimpArgs false
theorem placed_mem {L : List HB} {x : HB} : ∀ {is : List Nat}, x ∈ placed L is → ∃ i ∈ is, L[i]? = some x
  | [], h => by cases h
  | i :: is, h => by
    simp only [placed] at h
    split at h
    · rename_i y hy
      rcases List.mem_cons.1 h with rfl | h
      · exact ⟨i, List.mem_cons_self .., hy⟩
      · obtain ⟨j, hj, e⟩ := placed_mem h; exact ⟨j, List.mem_cons_of_mem _ hj, e⟩
    · obtain ⟨j, hj, e⟩ := placed_mem h; exact ⟨j, List.mem_cons_of_mem _ hj, e⟩
def distinct : List Nat → Bool
  | [] => true
  | i :: is => !is.contains i && distinct is
end Go.Proofs.YteeillphhiaopaaGreatDoor
namespace Go.Proofs.YteeillphhiaopaaGreatDoor
open Go.ChangeShapes Go.WideShapes Go.ChangeAt Go.RowKit
set_option linter.unusedVariables false
def int3 : Option (Int × Nat) → Value
  | none => .tuple #[.int .i64 0, .int .i64 0, .int .i64 10]
  | some (n, e) => .tuple #[.int .i64 n, .int .i64 e, .int .i64 0]
theorem pow128 (j : Nat) : (2 : Nat) ^ (7 * j) = 128 ^ j := by rw [Nat.pow_mul]
theorem pow128_lt {j : Nat} (h : j < 9) : 128 ^ j ≤ 72057594037927936 := by
  have : 128 ^ j ≤ 128 ^ 8 := Nat.pow_le_pow_right (by omega) (by omega)
  simpa using this
theorem u8_wrap64 (x : Nat) (h : x < 256) : IntKind.u64.wrap (x : Int) = x := by
  rw [IntKind.wrap_u64]; omega
theorem join_eq (y j b : Nat) (hy : y < 128 ^ j) (hj : j < 9) (hb : b < 256) :
    bits BinOp.or IntKind.u64 (y : Int) (IntKind.u64.wrap (IntKind.u64.wrap (bits BinOp.and IntKind.u8 (b : Int) 127) * 2 ^ (7 * j))) = ((y + b % 128 * 128 ^ j : Nat) : Int) := by
  have hp := pow128_lt hj
  have h1 : bits BinOp.and IntKind.u8 (b : Int) 127 = ((b % 128 : Nat) : Int) := by
    rw [show (127 : Int) = ((127 : Nat) : Int) from rfl, u8_and_nat b 127 hb (by omega)]
    congr 1
    exact Nat.and_two_pow_sub_one_eq_mod b 7
  rw [h1, u8_wrap64 _ (by omega)]
  have h2 : ((b % 128 : Nat) : Int) * 2 ^ (7 * j) = ((b % 128 * 128 ^ j : Nat) : Int) := by
    rw [← pow128]; push_cast; rfl
  have h3 : b % 128 * 128 ^ j ≤ 127 * 128 ^ j := Nat.mul_le_mul_right _ (by omega)
  rw [h2, IntKind.wrap_u64, show ((b % 128 * 128 ^ j : Nat) : Int) % 18446744073709551616 = ((b % 128 * 128 ^ j : Nat) : Int) by omega]
  rw [u64_or_nat _ _ (by omega) (by omega), Nat.or_comm, nat_join (7 * j) _ _ (by rw [pow128]; exact Nat.mul_mod_left _ _) (by rw [pow128]; exact hy)]
  congr 1
  omega
set_option maxRecDepth 100000 in
set_option maxHeartbeats 4000000 in
theorem wint_any (s : ByteArray) (k : Nat) (w : World) (hs : s.size ≤ 9000000000000000000) (hk : k ≤ s.size) :
    Calls Tryz.prog 134 #[.string s, .int .i64 k] w fun e w' => e = .returned (int3 (rdInt s.data.toList k)) ∧ w = w' := by
  have d0 : decide ((k : Int) < 0) = false := by simp
  have d1 : decide (s.size < k) = false := by simp; omega
  go_enter Tryz.func134, Tryz.ntmps134
  go_wp2_with fail
  go_loop [7, 8] (fun z i => ∃ (j y : Nat), j ≤ 9 ∧ k + j ≤ s.size ∧ i = .int .i64 j ∧ z = .int .u64 y ∧ y < 128 ^ j ∧ vget 9 0 0 (s.data.toList.drop k) = vget (9 - j) j y (s.data.toList.drop (k + j))) (fun _ i => 9 - (intOf i).toNat)
  case atStart => exact ⟨0, 0, by omega, by omega, rfl, rfl, by decide, rfl⟩
  case round =>
    obtain ⟨j, y, hj, hkj, rfl, rfl, hy, hv⟩ := hrel
    have HY := Lib.hid hy
    have HV := Lib.hid hv
    clear hy hv
    have dk : 0 ≤ (k : Int) + j := by omega
    by_cases h9 : j < 9
    · by_cases hl : k + j < s.size
      · have hl1 : (k : Int) + j < s.size := by omega
        have hb := (s[k + j]'hl).toNat_lt
        have hdrop : s.data.toList.drop (k + j) = s[k + j] :: s.data.toList.drop (k + (j + 1)) := by
          have hl' : k + j < s.data.toList.length := by simpa using hl
          rw [List.drop_eq_getElem_cons hl']
          rfl
        have HJ := Lib.hid (join_eq y j (s[k + j]'hl).toNat HY.out h9 hb)
        have HP := Lib.hid (pow128_lt h9)
        have hst : vget (9 - j) j y (s.data.toList.drop (k + j)) = (if 128 ≤ (s[k + j]'hl).toNat then vget (9 - (j + 1)) (j + 1) (y + (s[k + j]'hl).toNat % 128 * 128 ^ j) (s.data.toList.drop (k + (j + 1)))
            else if (s[k + j]'hl).toNat = 0 ∧ 0 < j then none
            else if unzig (y + (s[k + j]'hl).toNat % 128 * 128 ^ j) < -wmax then none
            else some (unzig (y + (s[k + j]'hl).toNat % 128 * 128 ^ j), j + 1)) := by
          rw [hdrop, show 9 - j = (9 - (j + 1)) + 1 by omega, vget]
        have HS := Lib.hid hst
        have hz : y + (s[k + j]'hl).toNat % 128 * 128 ^ j < 128 ^ (j + 1) := by
          rw [Nat.pow_succ]
          have h3 : (s[k + j]'hl).toNat % 128 * 128 ^ j ≤ 127 * 128 ^ j := Nat.mul_le_mul_right _ (by omega)
          have := HY.out
          omega
        have HZ := Lib.hid hz
        clear hst hz hdrop
        go_upto_region 8 with (fail)
        go_cut [7] (fun z wx => z = .int .u64 ((y + (s[k + j]'hl).toNat % 128 * 128 ^ j : Nat) : Int) ∧ w = wx)
        case first =>
          go_wp2_with fail
          go_meet
          exact ⟨congrArg _ HJ.out, rfl⟩
        case rest =>
          obtain ⟨rfl, rfl⟩ := hcut
          generalize y + (s[k + j]'hl).toNat % 128 * 128 ^ j = Z at *
          have hZb : Z < 9223372036854775808 := by
            have h1 := HZ.out
            have h2 : 128 ^ (j + 1) ≤ 128 ^ 9 := Nat.pow_le_pow_right (by omega) (by omega)
            have h3 : (128 : Nat) ^ 9 = 9223372036854775808 := by decide
            omega
          generalize hbb : (s[k + j]'hl).toNat = b at *
          clear hbb
          have fin : ∀ r, vget (9 - j) j y (s.data.toList.drop (k + j)) = r → rdInt s.data.toList k = r.map (fun p => (p.1, k + p.2)) := by
            intro r hr; unfold rdInt; rw [HV.out, hr]
          have FIN := Lib.hid fin
          clear fin
          by_cases h1 : 128 ≤ b
          · have hs1 := HS.out
            rw [if_pos h1] at hs1
            have HS1 := Lib.hid hs1
            have h1i : (128 : Int) ≤ b := by omega
            clear hs1 HS
            go_wp2_with fail
            go_round
            case rel => exact ⟨j + 1, Z, by omega, by omega, by go_num, rfl, HZ.out, HV.out.trans HS1.out⟩
            case measure => simp [intOf]; omega
          · have hs1 := HS.out
            rw [if_neg h1] at hs1
            have h1i : (b : Int) < 128 := by omega
            by_cases h2 : b = 0 ∧ 0 < j
            · rw [if_pos h2] at hs1
              have HF := Lib.hid (FIN.out _ hs1)
              obtain ⟨rfl, h2j⟩ := h2
              have h2i : (0 : Int) < j := by omega
              clear hs1 HS
              go_wp2_with fail
              go_ret3
              exact ⟨by rw [HF.out]; rfl, rfl⟩
            · rw [if_neg h2] at hs1
              have hodd : Z % 2 = 1 → unzig Z = -((Z : Int) / 2) - 1 := by intro ho; unfold unzig; rw [if_pos ho]; omega
              have heven : Z % 2 ≠ 1 → unzig Z = (Z : Int) / 2 := by intro ho; unfold unzig; rw [if_neg ho]; omega
              have F1 : unzig Z < -4611686018427387903 → Hid (rdInt s.data.toList k = none) := fun h3 => Lib.hid (by
                have h3' : unzig Z < -wmax := h3
                have := FIN.out _ hs1; rw [if_pos h3'] at this; exact this)
              have F2 : ¬ unzig Z < -4611686018427387903 → Hid (rdInt s.data.toList k = some (unzig Z, k + (j + 1))) := fun h3 => Lib.hid (by
                have h3' : ¬ unzig Z < -wmax := h3
                have := FIN.out _ hs1; rw [if_neg h3'] at this; exact this)
              have hbj : (((b : Int) == 0) = false) ∨ (b = 0 ∧ j = 0) := by
                by_cases h : b = 0
                · right; omega
                · left; simp; exact h
              have hz2 : (Z % 2 = 1 ∧ ((Z : Int) % 2 == 1) = true ∧ (Z % 2 == 1) = true) ∨ (Z % 2 ≠ 1 ∧ ((Z : Int) % 2 == 1) = false ∧ (Z % 2 == 1) = false) := by
                by_cases h : Z % 2 = 1
                · left; refine ⟨h, ?_, ?_⟩ <;> simp <;> omega
                · right; refine ⟨h, ?_, ?_⟩ <;> simp <;> omega
              clear hs1 HS h2 FIN
              rcases hz2 with ⟨ho, ho1, ho2⟩ | ⟨ho, ho1, ho2⟩
              · have hu := hodd ho
                rw [hu] at F1 F2
                have HU := Lib.hid hu
                clear hodd heven hu ho
                by_cases h3 : -((Z : Int) / 2) - 1 < -4611686018427387903
                · have HF := F1 h3
                  clear F1 F2
                  rcases hbj with hb1 | ⟨rfl, rfl⟩
                  all_goals
                    go_wp2_with fail
                    go_ret3
                    exact ⟨by rw [HF.out]; rfl, rfl⟩
                · have HF := F2 h3
                  clear F1 F2
                  rcases hbj with hb1 | ⟨rfl, rfl⟩
                  all_goals
                    go_wp2_with fail
                    go_ret3
                    exact ⟨by rw [HF.out]; unfold int3; push_cast; simp [Int.add_assoc], rfl⟩
              · have hu := heven ho
                rw [hu] at F1 F2
                have h3 : ¬ (Z : Int) / 2 < -4611686018427387903 := by omega
                have HF := F2 h3
                clear hodd heven hu ho F1 F2
                rcases hbj with hb1 | ⟨rfl, rfl⟩
                all_goals
                  go_wp2_with fail
                  go_ret3
                  exact ⟨by rw [HF.out]; unfold int3; push_cast; simp [Int.add_assoc], rfl⟩
      · have hr : rdInt s.data.toList k = none := by
          unfold rdInt
          rw [HV.out, List.drop_eq_nil_of_le (by simp; omega), show 9 - j = (9 - (j + 1)) + 1 by omega, vget]
          rfl
        have HR := Lib.hid hr
        have hl1 : ¬ (k : Int) + j < s.size := by omega
        clear hr
        go_wp2_with fail
        go_ret3
        exact ⟨by rw [HR.out]; rfl, rfl⟩
    · have hr : rdInt s.data.toList k = none := by
        unfold rdInt
        rw [HV.out, show 9 - j = 0 by omega, vget]
        rfl
      have HR := Lib.hid hr
      have h9d : decide ((j : Int) < 9) = false := by simp; omega
      clear hr
      go_wp2_with fail
      go_ret3
      exact ⟨by rw [HR.out]; rfl, rfl⟩
end Go.Proofs.YteeillphhiaopaaGreatDoor
namespace Go.Proofs.YteeillphhiaopaaGreatDoor
open Go.ChangeShapes Go.WideShapes Go.ChangeAt Go.RowKit
set_option linter.unusedVariables false
set_option linter.unusedSimpArgs false
theorem nums_mem {p : Pln} {P : Int → Prop} (h : ∀ z ∈ numsP p, P z) : (∀ z ∈ [p.channel, p.num, p.den, p.offset], P z) ∧ (∀ z ∈ ((p.sh.length : Nat) : Int) :: p.sh.flatMap altNs, P z) ∧ (∀ z ∈ [p.epoch, p.regions, p.length, p.fill], P z) ∧ (∀ z ∈ ((p.its.length : Nat) : Int) :: p.its.flatMap itNs, P z) ∧ (∀ z ∈ ((p.es.length : Nat) : Int) :: p.es.flatMap enNs, P z) ∧ (∀ z ∈ ((p.bs.length : Nat) : Int) :: p.bs.flatMap bkNs, P z) ∧ (∀ z ∈ ((p.cs.length : Nat) : Int) :: p.cs.flatMap clNs, P z) := by
 unfold numsP at h
 simp only [List.mem_append] at h
 exact ⟨fun z hz => h z (.inl (.inl (.inl (.inl (.inl (.inl hz)))))), fun z hz => h z (.inl (.inl (.inl (.inl (.inl (.inr hz)))))), fun z hz => h z (.inl (.inl (.inl (.inl (.inr hz))))), fun z hz => h z (.inl (.inl (.inl (.inr hz)))), fun z hz => h z (.inl (.inl (.inr hz))), fun z hz => h z (.inl (.inr hz)), fun z hz => h z (.inr hz)⟩
theorem lens7 {bs : List UInt8} {a b c d e f g : List Int} (h : bs.length + 9 * (a ++ b ++ c ++ d ++ e ++ f ++ g).length ≤ 100000000000000) : bs.length + 9 * a.length ≤ 100000000000000 ∧ (bs ++ encInts a).length + 9 * b.length ≤ 100000000000000 ∧ (bs ++ encInts a ++ encInts b).length + 9 * c.length ≤ 100000000000000 ∧ (bs ++ encInts a ++ encInts b ++ encInts c).length + 9 * d.length ≤ 100000000000000 ∧ (bs ++ encInts a ++ encInts b ++ encInts c ++ encInts d).length + 9 * e.length ≤ 100000000000000 ∧ (bs ++ encInts a ++ encInts b ++ encInts c ++ encInts d ++ encInts e).length + 9 * f.length ≤ 100000000000000 ∧ (bs ++ encInts a ++ encInts b ++ encInts c ++ encInts d ++ encInts e ++ encInts f).length + 9 * g.length ≤ 100000000000000 := by
 have h1 := encInts_len a
 have h2 := encInts_len b
 have h3 := encInts_len c
 have h4 := encInts_len d
 have h5 := encInts_len e
 have h6 := encInts_len f
 simp only [List.length_append] at *
 refine ⟨?_, ?_, ?_, ?_, ?_, ?_, ?_⟩ <;> omega
theorem nums_some (p : Pln) : [] ++ encInts (numsP p) ≠ [] := by
 unfold numsP
 simp only [List.append_assoc, List.cons_append, encInts_cons, List.nil_append]
 intro h
 have := congrArg List.length h
 have := (encInt_len p.channel).1
 simp only [List.length_append, List.length_nil] at *
 omega
theorem bld_new {base b : Nat} {v : Value} {bs : List UInt8} {w : World} (h : (bldW base b v bs).F w) : ∀ k, (bldW base b v bs).fp k → base ≤ k := by
 obtain ⟨h1, _, h3, _⟩ := h
 rintro k (rfl | hk)
 ·exact h1
 ·exact (h3.lt k hk).1
theorem Hp.oldBld {w0 w : World} {L : List HB} {K : List FK} (H : Hp w0 w L K) (i : Nat) {b : Nat} {v : Value} {bs : List UInt8} (hi : L[i]? = some (bldW w0.heap.size b v bs)) {k : Nat} (hk : k < w0.heap.size) (hf : ∀ x ∈ L, x.fresh = true) : w.heap[k]? = w0.heap[k]? :=
 H.old k hk fun x hx hxk => by have := H.fresh x hx (hf x hx) k hxk; omega
theorem Hp.belowB {w0 w : World} {L : List HB} {K : List FK} (H : Hp w0 w L K) (hf : ∀ x ∈ L, x.fresh = true) : Below w0.heap.size w0 w := H.below (List.all_eq_true.2 hf)
def encV (p : Pln) : Value := if validPl p then .tuple #[.string (bstr ([] ++ encInts (numsP p))), .int .i64 0] else .tuple #[.string (bstr []), .int .i64 80]
set_option maxRecDepth 100000 in
set_option maxHeartbeats 4000000 in
theorem wplan_any (base b : Nat) (v : Value) (bs : List UInt8) (p : Pln) (w : World) (h : (bldW base b v bs).F w) (hpl : IsPln w p) (hnp : ∀ k, p.fp k → ¬ (bldW base b v bs).fp k) (hz : ∀ z ∈ numsP p, -wmax ≤ z ∧ z ≤ wmax) (hlen : bs.length + 9 * (numsP p).length ≤ 100000000000000) : Calls Tryz.prog 56 #[.pointer (some ⟨b, 0, none⟩), (plV p)] w (PutPost base b v bs (numsP p) w) := by
 obtain ⟨hz1, hz2, hz3, hz4, hz5, hz6, hz7⟩ := nums_mem hz
 obtain ⟨hl1, hl2, hl3, hl4, hl5, hl6, hl7⟩ := lens7 (bs := bs) (a := [p.channel, p.num, p.den, p.offset]) (b := (p.sh.length : Int) :: p.sh.flatMap altNs) (c := [p.epoch, p.regions, p.length, p.fill]) (d := (p.its.length : Int) :: p.its.flatMap itNs) (e := (p.es.length : Int) :: p.es.flatMap enNs) (f := (p.bs.length : Int) :: p.bs.flatMap bkNs) (g := (p.cs.length : Int) :: p.cs.flatMap clNs) hlen
 have HP : Hp w w [bldV w.heap.size base b v v bs] [plnK p] := (Hp.ownV h).keepV (plnK p) hpl (plnK_ok p) (fun k hk => hpl.lt k hk) hnp
 refine w_enter 55 [(0, (pt b 0)), (1, (plV p))] Tryz.func56 rfl Tryz.ntmps56 (by kernel_rfl) (by kernel_rfl) fun a H => ?_
 refine wp_seq (w_region ?_)
 refine H.alloc HP 2 (fun b => (pt b 0)) 125 [(pt b 0)] (by kernel_rfl) (fun w => by kernel_rfl) fun b_1 w_2 a H HP => ?_
 refine H.alloc HP 3 (fun b => (pt b 0)) 32 (plL p) (by kernel_rfl) (fun w => by kernel_rfl) fun b_3 w_4 a H HP => ?_
 refine wpList_nil (then_normal (wp_seq (w_region ?_)))
 refine H.u 4 (pt b 0) (ex_l1 (HP.cell 1 rfl 0 rfl)) fun a H => ?_
 refine H.v 5 (pt b_3 0) fun a H => ?_
 refine H.u 6 (ii p.channel) (ex_l1 (HP.cell 0 rfl 0 rfl)) fun a H => ?_
 refine H.v 7 (pt b_3 1) fun a H => ?_
 refine H.v 8 (pt b_3 1) fun a H => ?_
 refine H.u 9 (ii p.num) (ex_l1 (HP.cell 0 rfl 1 rfl)) fun a H => ?_
 refine H.v 10 (pt b_3 1) fun a H => ?_
 refine H.v 11 (pt b_3 2) fun a H => ?_
 refine H.u 12 (ii p.den) (ex_l1 (HP.cell 0 rfl 2 rfl)) fun a H => ?_
 refine H.v 13 (pt b_3 3) fun a H => ?_
 refine H.v 14 (pt b_3 3) fun a H => ?_
 refine H.u 15 (ii p.offset) (ex_l1 (HP.cell 0 rfl 3 rfl)) fun a H => ?_
 refine H.alloc HP 16 (fun b => (.slice (some ⟨b, 0, none⟩) 4 4)) 3 [(ii p.channel), (ii p.num), (ii p.den), (ii p.offset)] (by kernel_rfl) (fun w => by kernel_rfl) fun b_5 w_6 a H HP => ?_
 refine H.call 17 (by kernel_rfl) (Eq.trans (by kernel_rfl : _ = (callFunc 81 #[(pt b 0), (.slice (some ⟨b_5, 0, none⟩) 4 4)]).run Tryz.prog w_6) (Tryz.call81 _ _)) (put_any base b v bs b_5 [p.channel, p.num, p.den, p.offset] w_6 (HP.held 3 rfl).1 (HP.at_ 0 rfl) (fun k hk => HP.notBld 3 0 rfl rfl (by decide) k hk) hz1 hl1) ?_
 rintro e w_11 ⟨rfl, v_7, hF_8, hag_9, hv_10⟩
 refine ⟨_, rfl, ?_⟩
 intro a H
 have HP := HP.putV 3 rfl [bx b_5 3 [(ii p.channel), (ii p.num), (ii p.den), (ii p.offset)] true, bx b_3 32 (plL p) true, bx b_1 125 [(pt b 0)] true, (bldV w.heap.size base b v v_7 (bs ++ encInts ([p.channel, p.num, p.den, p.offset])))] (by kernel_rfl) hF_8 hag_9 hv_10
 refine wpList_nil (then_normal (wp_seq (w_region ?_)))
 refine H.u 18 (pt b 0) (ex_l1 (HP.cell 2 rfl 0 rfl)) fun a H => ?_
 refine H.v 19 (pt b_3 3) fun a H => ?_
 refine H.v 20 (pt b_3 4) fun a H => ?_
 refine H.u 21 (.slice p.SA p.sh.length p.sc) (ex_l1 (HP.cell 1 rfl 4 rfl)) fun a H => ?_
 refine H.v 22 (.func (.func 83) #[] #[(pt b_1 0)]) fun a H => ?_
 refine H.call 23 (by kernel_rfl) (Eq.trans (by kernel_rfl : _ = (callFunc 82 #[(pt b 0), (.slice p.SA p.sh.length p.sc), (.func (.func 83) #[] #[(pt b_1 0)])]).run Tryz.prog w_11) (Tryz.call82 _ _)) (writeS_any base b v_7 (bs ++ encInts ([p.channel, p.num, p.den, p.offset])) b_1 p.SA p.sc p.sh w_11 (HP.held 3 rfl).1 (HP.at_ 2 rfl) (fun k hk => HP.notBld 3 2 rfl rfl (by decide) k hk) (HP.fact 0 rfl : IsPln _ p).sh (fun k hk => HP.factBld 3 0 rfl rfl k (.inl hk)) hpl.lsh hz2 hl2) ?_
 rintro e w_16 ⟨rfl, v_12, hF_13, hag_14, hv_15⟩
 refine ⟨_, rfl, ?_⟩
 intro a H
 have HP := HP.putV 3 rfl [bx b_5 3 [(ii p.channel), (ii p.num), (ii p.den), (ii p.offset)] true, bx b_3 32 (plL p) true, bx b_1 125 [(pt b 0)] true, (bldV w.heap.size base b v v_12 (bs ++ encInts ([p.channel, p.num, p.den, p.offset]) ++ encInts ((p.sh.length : Int) :: p.sh.flatMap altNs)))] (by kernel_rfl) hF_13 hag_14 hv_15
 refine wpList_nil (then_normal (wp_seq (w_region ?_)))
 refine H.u 24 (pt b 0) (ex_l1 (HP.cell 2 rfl 0 rfl)) fun a H => ?_
 refine H.v 25 (pt b_3 5) fun a H => ?_
 refine H.u 26 (ii p.epoch) (ex_l1 (HP.cell 1 rfl 5 rfl)) fun a H => ?_
 refine H.v 27 (pt b_3 6) fun a H => ?_
 refine H.u 28 (ii p.regions) (ex_l1 (HP.cell 1 rfl 6 rfl)) fun a H => ?_
 refine H.v 29 (pt b_3 7) fun a H => ?_
 refine H.u 30 (ii p.length) (ex_l1 (HP.cell 1 rfl 7 rfl)) fun a H => ?_
 refine H.v 31 (pt b_3 8) fun a H => ?_
 refine H.u 32 (ii p.fill) (ex_l1 (HP.cell 1 rfl 8 rfl)) fun a H => ?_
 refine H.alloc HP 33 (fun b => (.slice (some ⟨b, 0, none⟩) 4 4)) 3 [(ii p.epoch), (ii p.regions), (ii p.length), (ii p.fill)] (by kernel_rfl) (fun w => by kernel_rfl) fun b_17 w_18 a H HP => ?_
 refine H.call 34 (by kernel_rfl) (Eq.trans (by kernel_rfl : _ = (callFunc 81 #[(pt b 0), (.slice (some ⟨b_17, 0, none⟩) 4 4)]).run Tryz.prog w_18) (Tryz.call81 _ _)) (put_any base b v_12 (bs ++ encInts ([p.channel, p.num, p.den, p.offset]) ++ encInts ((p.sh.length : Int) :: p.sh.flatMap altNs)) b_17 [p.epoch, p.regions, p.length, p.fill] w_18 (HP.held 4 rfl).1 (HP.at_ 0 rfl) (fun k hk => HP.notBld 4 0 rfl rfl (by decide) k hk) hz3 hl3) ?_
 rintro e w_23 ⟨rfl, v_19, hF_20, hag_21, hv_22⟩
 refine ⟨_, rfl, ?_⟩
 intro a H
 have HP := HP.putV 4 rfl [bx b_17 3 [(ii p.epoch), (ii p.regions), (ii p.length), (ii p.fill)] true, bx b_5 3 [(ii p.channel), (ii p.num), (ii p.den), (ii p.offset)] true, bx b_3 32 (plL p) true, bx b_1 125 [(pt b 0)] true, (bldV w.heap.size base b v v_19 (bs ++ encInts ([p.channel, p.num, p.den, p.offset]) ++ encInts ((p.sh.length : Int) :: p.sh.flatMap altNs) ++ encInts ([p.epoch, p.regions, p.length, p.fill])))] (by kernel_rfl) hF_20 hag_21 hv_22
 refine wpList_nil (then_normal (wp_seq (w_region ?_)))
 refine H.u 35 (pt b 0) (ex_l1 (HP.cell 3 rfl 0 rfl)) fun a H => ?_
 refine H.v 36 (pt b_3 9) fun a H => ?_
 refine H.u 37 (.slice p.IA p.its.length p.ic) (ex_l1 (HP.cell 2 rfl 9 rfl)) fun a H => ?_
 refine H.v 38 (.func (.func 85) #[] #[(pt b_1 0)]) fun a H => ?_
 refine H.call 39 (by kernel_rfl) (Eq.trans (by kernel_rfl : _ = (callFunc 84 #[(pt b 0), (.slice p.IA p.its.length p.ic), (.func (.func 85) #[] #[(pt b_1 0)])]).run Tryz.prog w_23) (Tryz.call84 _ _)) (writeI_any base b v_19 (bs ++ encInts ([p.channel, p.num, p.den, p.offset]) ++ encInts ((p.sh.length : Int) :: p.sh.flatMap altNs) ++ encInts ([p.epoch, p.regions, p.length, p.fill])) b_1 p.IA p.ic p.its w_23 (HP.held 4 rfl).1 (HP.at_ 3 rfl) (fun k hk => HP.notBld 4 3 rfl rfl (by decide) k hk) (HP.fact 0 rfl : IsPln _ p).its (fun k hk => HP.factBld 4 0 rfl rfl k (.inr (.inl hk))) hpl.lits hz4 hl4) ?_
 rintro e w_28 ⟨rfl, v_24, hF_25, hag_26, hv_27⟩
 refine ⟨_, rfl, ?_⟩
 intro a H
 have HP := HP.putV 4 rfl [bx b_17 3 [(ii p.epoch), (ii p.regions), (ii p.length), (ii p.fill)] true, bx b_5 3 [(ii p.channel), (ii p.num), (ii p.den), (ii p.offset)] true, bx b_3 32 (plL p) true, bx b_1 125 [(pt b 0)] true, (bldV w.heap.size base b v v_24 (bs ++ encInts ([p.channel, p.num, p.den, p.offset]) ++ encInts ((p.sh.length : Int) :: p.sh.flatMap altNs) ++ encInts ([p.epoch, p.regions, p.length, p.fill]) ++ encInts ((p.its.length : Int) :: p.its.flatMap itNs)))] (by kernel_rfl) hF_25 hag_26 hv_27
 refine wpList_nil (then_normal (wp_seq (w_region ?_)))
 refine H.u 40 (pt b 0) (ex_l1 (HP.cell 3 rfl 0 rfl)) fun a H => ?_
 refine H.v 41 (pt b_3 10) fun a H => ?_
 refine H.u 42 (.slice p.EA p.es.length p.ec) (ex_l1 (HP.cell 2 rfl 10 rfl)) fun a H => ?_
 refine H.v 43 (.func (.func 87) #[] #[(pt b_1 0)]) fun a H => ?_
 refine H.call 44 (by kernel_rfl) (Eq.trans (by kernel_rfl : _ = (callFunc 86 #[(pt b 0), (.slice p.EA p.es.length p.ec), (.func (.func 87) #[] #[(pt b_1 0)])]).run Tryz.prog w_28) (Tryz.call86 _ _)) (writeE_any base b v_24 (bs ++ encInts ([p.channel, p.num, p.den, p.offset]) ++ encInts ((p.sh.length : Int) :: p.sh.flatMap altNs) ++ encInts ([p.epoch, p.regions, p.length, p.fill]) ++ encInts ((p.its.length : Int) :: p.its.flatMap itNs)) b_1 p.EA p.ec p.es w_28 (HP.held 4 rfl).1 (HP.at_ 3 rfl) (fun k hk => HP.notBld 4 3 rfl rfl (by decide) k hk) (HP.fact 0 rfl : IsPln _ p).es (fun k hk => HP.factBld 4 0 rfl rfl k (.inr (.inr (.inl hk)))) hpl.les hz5 hl5) ?_
 rintro e w_33 ⟨rfl, v_29, hF_30, hag_31, hv_32⟩
 refine ⟨_, rfl, ?_⟩
 intro a H
 have HP := HP.putV 4 rfl [bx b_17 3 [(ii p.epoch), (ii p.regions), (ii p.length), (ii p.fill)] true, bx b_5 3 [(ii p.channel), (ii p.num), (ii p.den), (ii p.offset)] true, bx b_3 32 (plL p) true, bx b_1 125 [(pt b 0)] true, (bldV w.heap.size base b v v_29 (bs ++ encInts ([p.channel, p.num, p.den, p.offset]) ++ encInts ((p.sh.length : Int) :: p.sh.flatMap altNs) ++ encInts ([p.epoch, p.regions, p.length, p.fill]) ++ encInts ((p.its.length : Int) :: p.its.flatMap itNs) ++ encInts ((p.es.length : Int) :: p.es.flatMap enNs)))] (by kernel_rfl) hF_30 hag_31 hv_32
 refine wpList_nil (then_normal (wp_seq (w_region ?_)))
 refine H.u 45 (pt b 0) (ex_l1 (HP.cell 3 rfl 0 rfl)) fun a H => ?_
 refine H.v 46 (pt b_3 11) fun a H => ?_
 refine H.u 47 (.slice p.BA p.bs.length p.bc) (ex_l1 (HP.cell 2 rfl 11 rfl)) fun a H => ?_
 refine H.v 48 (.func (.func 91) #[] #[(pt b_1 0)]) fun a H => ?_
 refine H.call 49 (by kernel_rfl) (Eq.trans (by kernel_rfl : _ = (callFunc 90 #[(pt b 0), (.slice p.BA p.bs.length p.bc), (.func (.func 91) #[] #[(pt b_1 0)])]).run Tryz.prog w_33) (Tryz.call90 _ _)) (writeB_any base b v_29 (bs ++ encInts ([p.channel, p.num, p.den, p.offset]) ++ encInts ((p.sh.length : Int) :: p.sh.flatMap altNs) ++ encInts ([p.epoch, p.regions, p.length, p.fill]) ++ encInts ((p.its.length : Int) :: p.its.flatMap itNs) ++ encInts ((p.es.length : Int) :: p.es.flatMap enNs)) b_1 p.BA p.bc p.bs w_33 (HP.held 4 rfl).1 (HP.at_ 3 rfl) (fun k hk => HP.notBld 4 3 rfl rfl (by decide) k hk) (HP.fact 0 rfl : IsPln _ p).bs (fun k hk => HP.factBld 4 0 rfl rfl k (.inr (.inr (.inr (.inl hk))))) hpl.lbs hz6 hl6) ?_
 rintro e w_38 ⟨rfl, v_34, hF_35, hag_36, hv_37⟩
 refine ⟨_, rfl, ?_⟩
 intro a H
 have HP := HP.putV 4 rfl [bx b_17 3 [(ii p.epoch), (ii p.regions), (ii p.length), (ii p.fill)] true, bx b_5 3 [(ii p.channel), (ii p.num), (ii p.den), (ii p.offset)] true, bx b_3 32 (plL p) true, bx b_1 125 [(pt b 0)] true, (bldV w.heap.size base b v v_34 (bs ++ encInts ([p.channel, p.num, p.den, p.offset]) ++ encInts ((p.sh.length : Int) :: p.sh.flatMap altNs) ++ encInts ([p.epoch, p.regions, p.length, p.fill]) ++ encInts ((p.its.length : Int) :: p.its.flatMap itNs) ++ encInts ((p.es.length : Int) :: p.es.flatMap enNs) ++ encInts ((p.bs.length : Int) :: p.bs.flatMap bkNs)))] (by kernel_rfl) hF_35 hag_36 hv_37
 refine wpList_nil (then_normal (w_region ?_))
 refine H.u 50 (pt b 0) (ex_l1 (HP.cell 3 rfl 0 rfl)) fun a H => ?_
 refine H.v 51 (pt b_3 12) fun a H => ?_
 refine H.u 52 (.slice p.CA p.cs.length p.cc) (ex_l1 (HP.cell 2 rfl 12 rfl)) fun a H => ?_
 refine H.v 53 (.func (.func 93) #[] #[(pt b_1 0)]) fun a H => ?_
 refine H.call 54 (by kernel_rfl) (Eq.trans (by kernel_rfl : _ = (callFunc 92 #[(pt b 0), (.slice p.CA p.cs.length p.cc), (.func (.func 93) #[] #[(pt b_1 0)])]).run Tryz.prog w_38) (Tryz.call92 _ _)) (writeC_any base b v_34 (bs ++ encInts ([p.channel, p.num, p.den, p.offset]) ++ encInts ((p.sh.length : Int) :: p.sh.flatMap altNs) ++ encInts ([p.epoch, p.regions, p.length, p.fill]) ++ encInts ((p.its.length : Int) :: p.its.flatMap itNs) ++ encInts ((p.es.length : Int) :: p.es.flatMap enNs) ++ encInts ((p.bs.length : Int) :: p.bs.flatMap bkNs)) b_1 p.CA p.cc p.cs w_38 (HP.held 4 rfl).1 (HP.at_ 3 rfl) (fun k hk => HP.notBld 4 3 rfl rfl (by decide) k hk) (HP.fact 0 rfl : IsPln _ p).cs (fun k hk => HP.factBld 4 0 rfl rfl k (.inr (.inr (.inr (.inr hk))))) hpl.lcs hz7 hl7) ?_
 rintro e w_43 ⟨rfl, v_39, hF_40, hag_41, hv_42⟩
 refine ⟨_, rfl, ?_⟩
 intro a H
 have HP := HP.putV 4 rfl [bx b_17 3 [(ii p.epoch), (ii p.regions), (ii p.length), (ii p.fill)] true, bx b_5 3 [(ii p.channel), (ii p.num), (ii p.den), (ii p.offset)] true, bx b_3 32 (plL p) true, bx b_1 125 [(pt b 0)] true, (bldV w.heap.size base b v v_39 (bs ++ encInts ([p.channel, p.num, p.den, p.offset]) ++ encInts ((p.sh.length : Int) :: p.sh.flatMap altNs) ++ encInts ([p.epoch, p.regions, p.length, p.fill]) ++ encInts ((p.its.length : Int) :: p.its.flatMap itNs) ++ encInts ((p.es.length : Int) :: p.es.flatMap enNs) ++ encInts ((p.bs.length : Int) :: p.bs.flatMap bkNs) ++ encInts ((p.cs.length : Int) :: p.cs.flatMap clNs)))] (by kernel_rfl) hF_40 hag_41 hv_42
 refine wpList_nil ?_
 refine H.end0 (fn := Tryz.f56) Tryz.results56  ?_
 exact HP.endV 4 rfl (by simp only [numsP, encInts_append, List.append_assoc]) (by simp [bx])
set_option maxRecDepth 100000 in
set_option maxHeartbeats 4000000 in
theorem encode_any (p : Pln) (w : World) (hpl : IsPln w p) (hL : LaidR w) : Calls Tryz.prog 25 #[(plV p)] w fun e w' => e = .returned (encV p) ∧ Below w.heap.size w w' := by
 have HP := Hp.start w
 refine w_enter 12 [(0, (plV p))] Tryz.func25 rfl Tryz.ntmps25 (by kernel_rfl) (by kernel_rfl) fun a H => ?_
 refine wp_seq (w_region ?_)
 refine H.alloc HP 1 (fun b => (pt b 0)) 32 (plL p) (by kernel_rfl) (fun w => by kernel_rfl) fun b_1 w_2 a H HP => ?_
 refine H.v 2 (.string (bstr ([]))) fun a H => ?_
 refine H.v 3 (ii 0) fun a H => ?_
 refine wpList_nil (then_normal (wp_seq (wp_seq (w_region ?_))))
 refine H.u 5 (plV p) (ex_loadN (vs := (plL p)) (by kernel_rfl) (by kernel_rfl) (by kernel_rfl) rfl (HP.cells 0 rfl 0 13 (by kernel_rfl))) fun a H => ?_
 refine H.call 6 (by kernel_rfl) (Eq.trans (by kernel_rfl : _ = (callFunc 14 #[(plV p)]).run Tryz.prog w_2) (Tryz.call14 _ _)) (valid_any p w_2 (hpl.below HP.bl) (hL.below HP.bl)) ?_
 rintro e w_3 ⟨rfl, hb⟩
 refine ⟨_, rfl, ?_⟩
 intro a H
 have HP := HP.next hb
 refine H.v 7 (.bool (!(validPl p))) fun a H => ?_
 refine wpList_nil (then_normal ?_)
 refine w_if H rfl (fun g7 => ?_) (fun g7 => ?_)
 ·have g7p := not_is_true g7
  refine wp_seq (w_region ?_)
  refine H.v 2 (.string (bstr ([]))) fun a H => ?_
  refine H.v 3 (ii 80) fun a H => ?_
  refine wpList_nil (then_normal (wp_ret (then_ret ?_)))
  refine H.ret2 (fn := Tryz.f25) Tryz.results25 (RV.tmp_ (v := (.string (bstr ([])))) (by kernel_rfl)) (RV.tmp_ (v := (ii 80)) (by kernel_rfl)) ?_
  exact ⟨by unfold encV; rw [show validPl p = false from g7p]; rfl, HP.bl⟩
 ·have g7p := not_is_false g7
  refine wp_skip (then_normal (wp_seq (w_region ?_)))
  refine H.alloc HP 4 (fun b => (pt b 0)) 94 [(.pointer none), (.slice none 0 0)] (by kernel_rfl) (fun w => by kernel_rfl) fun b_4 w_5 a H HP => ?_
  refine wpList_nil ?_
  have HP := HP.toBld 0 5 rfl [(bldW w.heap.size b_4 (.slice none 0 0) []), bx b_1 32 (plL p) true] (by kernel_rfl)
  refine then_normal (wp_seq (w_region ?_))
  refine H.u 8 (plV p) (ex_loadN (vs := (plL p)) (by kernel_rfl) (by kernel_rfl) (by kernel_rfl) rfl (HP.cells 1 rfl 0 13 (by kernel_rfl))) fun a H => ?_
  obtain ⟨hzs, hcnt⟩ := valid_nums g7p
  refine H.call 9 (by kernel_rfl) (Eq.trans (by kernel_rfl : _ = (callFunc 56 #[(pt b_4 0), (plV p)]).run Tryz.prog w_5) (Tryz.call56 _ _)) (wplan_any w.heap.size b_4 (.slice none 0 0) [] p w_5 (HP.held 0 rfl) (hpl.keep (fun k hk => HP.oldBld 0 rfl (hpl.lt k hk) (by simp [bx, bldG])) HP.size) (fun k hk hf => by have h1 := bld_new (HP.held 0 rfl) k hf; have h2 := hpl.lt k hk; omega) hzs (by simp only [List.length_nil]; omega)) ?_
  rintro e w_6 ⟨rfl, v1, hF, hag, hv⟩
  refine ⟨_, rfl, ?_⟩
  intro a H
  have HP := HP.wrote 0 rfl [(bldW w.heap.size b_4 v1 ([] ++ encInts (numsP p))), bx b_1 32 (plL p) true] (by kernel_rfl) hF hag hv
  refine wpList_nil (then_normal (wp_seq (w_region ?_)))
  refine H.v 10 (pt b_4 0) fun a H => ?_
  refine H.call 11 (by kernel_rfl) (Eq.trans (by kernel_rfl : _ = (callFunc 57 #[(pt b_4 0)]).run Tryz.prog w_6) (Tryz.call57 _ _)) (strW_any w.heap.size b_4 v1 ([] ++ encInts (numsP p)) w_6 (HP.held 0 rfl) (nums_some p)) ?_
  rintro e w_7 ⟨rfl, hF2, hag2⟩
  refine ⟨_, rfl, ?_⟩
  intro a H
  have HP := HP.wrote 0 rfl [(bldW w.heap.size b_4 v1 ([] ++ encInts (numsP p))), bx b_1 32 (plL p) true] (by kernel_rfl) hF2 hag2 (fun k hk => .inl hk)
  refine H.v 2 (.string (bstr ([] ++ encInts (numsP p)))) fun a H => ?_
  refine H.v 3 (ii 0) fun a H => ?_
  refine wpList_nil (then_normal (wp_ret ?_))
  refine H.ret2 (fn := Tryz.f25) Tryz.results25 (RV.tmp_ (v := (.string (bstr ([] ++ encInts (numsP p))))) (by kernel_rfl)) (RV.tmp_ (v := (ii 0)) (by kernel_rfl)) ?_
  exact ⟨by unfold encV; rw [show validPl p = true from g7p]; rfl, HP.belowB (by simp [bx, bldG])⟩
end Go.Proofs.YteeillphhiaopaaGreatDoor
namespace Go.Proofs.YteeillphhiaopaaGreatDoor
open Go.ChangeShapes Go.WideShapes Go.ChangeAt Go.RowKit
set_option linter.unusedVariables false
set_option linter.unusedSimpArgs false
theorem take_eq_snoc {α : Type} {l m : List α} {i : Nat} {x y : α} (h : l.take i = m.take i) (hx : l[i]? = some x) (hy : m[i]? = some y) (e : x = y) : l.take (i + 1) = m.take (i + 1) := by
 rw [List.take_add_one, List.take_add_one, hx, hy, h, e]
theorem take_all {α : Type} {l m : List α} {i : Nat} (h : l.take i = m.take i) (hi : l.length ≤ i) (hl : l.length = m.length) : l = m := by
 rw [← List.take_of_length_le hi, h, List.take_of_length_le (by omega)]
theorem ne_at {α : Type} {l m : List α} {i : Nat} {x y : α} (hx : l[i]? = some x) (hy : m[i]? = some y) (e : x ≠ y) : l ≠ m := fun h => by
 subst h
 rw [hx] at hy
 exact e (Option.some.inj hy)
theorem ent_eqb (x y : Ent) : decide (x.nv = y.nv) = (x.id == y.id && x.item == y.item && x.frames == y.frames && x.earliest == y.earliest && x.latest == y.latest && x.booking == y.booking && decide (x.al = y.al)) := by
 rw [Bool.eq_iff_iff]
 simp [Ent.nv, and_assoc]
theorem pln_eqb (p q : Pln) : decide (p.nv = q.nv) = (p.channel == q.channel && (([p.num, p.den] : List Int) == [q.num, q.den]) && p.offset == q.offset && p.epoch == q.epoch && p.regions == q.regions && p.length == q.length && p.fill == q.fill && decide (p.sh = q.sh) && decide (p.its = q.its) && decide (p.es.map Ent.nv = q.es.map Ent.nv) && decide (p.bs = q.bs) && decide (p.cs = q.cs)) := by
 rw [Bool.eq_iff_iff]
 simp only [Pln.nv, PlN.mk.injEq, decide_eq_true_eq, Bool.and_eq_true, beq_iff_eq, List.cons.injEq, and_true]
 constructor
 ·rintro ⟨h1, h2, h3, h4, h5, h6, h7, h8, h9, h10, h11, h12, h13⟩; exact ⟨⟨⟨⟨⟨⟨⟨⟨⟨⟨⟨h1, h2, h3⟩, h4⟩, h6⟩, h7⟩, h8⟩, h9⟩, h5⟩, h10⟩, h11⟩, h12⟩, h13⟩
 ·rintro ⟨⟨⟨⟨⟨⟨⟨⟨⟨⟨⟨h1, h2, h3⟩, h4⟩, h6⟩, h7⟩, h8⟩, h9⟩, h5⟩, h10⟩, h11⟩, h12⟩, h13⟩; exact ⟨h1, h2, h3, h4, h5, h6, h7, h8, h9, h10, h11, h12, h13⟩
theorem map_at {α β : Type} {f : α → β} {l : List α} {i : Nat} {x : α} (hx : l[i]? = some x) : (l.map f)[i]? = some (f x) := by
 rw [List.getElem?_map, hx]; rfl
set_option maxRecDepth 100000 in
set_option maxHeartbeats 4000000 in
theorem findI_any (A : Option Addr) (c : Nat) (l : List Itm) (k : Int) (w : World) (hr : IsIt w A l) (hl : l.length ≤ maxLen) : Calls Tryz.prog 48 #[.slice A l.length c, .int .i64 k, .func (.func 49) #[] #[]] w fun e w' => e = .returned (.tuple #[(itV (gI l k)), .bool (hI l k)]) ∧ Below w.heap.size w w' := by
 unfold maxLen at hl
 have HP := Hp.start w
 refine w_enter 25 [(0, (.slice A l.length c)), (1, (ii k)), (2, (.func (.func 49) #[] #[]))] Tryz.func48 rfl Tryz.ntmps48 (by kernel_rfl) (by kernel_rfl) fun a H => ?_
 refine wp_seq (w_region ?_)
 refine H.alloc HP 6 (fun b => (pt b 0)) 38 [(ii 0), (ii 0), (ii 0), (ii 0), (ii 0)] (by kernel_rfl) (fun w => by kernel_rfl) fun b_1 w_2 a H HP => ?_
 refine H.v 7 (.bool false) fun a H => ?_
 refine wpList_nil (then_normal (wp_seq (wp_seq (w_region ?_))))
 refine H.v 11 (.slice A l.length c) fun a H => ?_
 refine H.v 12 (ii l.length) fun a H => ?_
 refine H.v 13 (ii 0) fun a H => ?_
 refine wpList_nil (then_normal (wp_block ?_))
 refine w_loop (fun mm a wv => ∃ (i : Nat), l.length - i = mm ∧ Sl 25 [(13, (ii i)), (12, (ii l.length)), (11, (.slice A l.length c)), (6, (pt b_1 0)), (0, (.slice A l.length c)), (1, (ii k)), (2, (.func (.func 49) #[] #[]))] a ∧ Hp w wv [bx b_1 38 [(ii 0), (ii 0), (ii 0), (ii 0), (ii 0)] true] [] ∧ (i ≤ l.length) ∧ (fI l k = fI (l.drop i) k)) (l.length - 0) ?_ ?_
 ·exact ⟨0, (by omega), H.keep (by kernel_rfl), HP, (Nat.zero_le _), rfl⟩
 rintro mm a w_3 ⟨i, hmeas, H, HP, hib, hrel⟩
 refine wp_seq (w_region ?_)
 refine H.v 14 (.bool (decide ((i : Int) < (l.length : Int)))) fun a H => ?_
 refine wpList_nil (then_normal (wp_seq ?_))
 refine w_if H rfl (fun g14 => ?_) (fun g14 => ?_)
 ·have g14p := of_decide_eq_true g14
  refine wp_skip (then_normal (wp_seq (wp_block (wp_seq ?_))))
  obtain ⟨bu_5, ou_6, x_4, hA_7, _, hd_9, hx_8, hm_10, _⟩ := IsRow.get itC_size (hr.below HP.bl) (i := i) (by omega)
  refine w_region ?_
  refine H.u 15 (.pointer (some ⟨bu_5, ou_6 + i * 5, none⟩)) (ex_indexA (b := bu_5) (off := ou_6) (len := l.length) (cap := c) (e := 38) (k := 5) (ik := .i64) (i := (i : Int)) (m := i) hA_7 (by kernel_rfl) (by kernel_rfl) (by omega) (by omega) (by kernel_rfl) (by kernel_rfl)) fun a H => ?_
  refine H.u 16 (itV x_4) (ex_loadN (b := bu_5) (off := ou_6 + i * 5) (vs := (itL x_4)) (by kernel_rfl) (by kernel_rfl) (by kernel_rfl) rfl (IsRow.cells itC_size (hr.below HP.bl) hA_7 hx_8)) fun a H => ?_
  refine H.alloc HP 9 (fun b => (pt b 0)) 38 [(ii 0), (ii 0), (ii 0), (ii 0), (ii 0)] (by kernel_rfl) (fun w => by kernel_rfl) fun b_11 w_12 a H HP => ?_
  refine H.store HP 0 b_11 0 5 38 _ true (itV x_4) [bx b_11 38 (itL x_4) true, bx b_1 38 [(ii 0), (ii 0), (ii 0), (ii 0), (ii 0)] true] (by kernel_rfl) (by kernel_rfl) (by kernel_rfl) rfl (by kernel_rfl) (by kernel_rfl) (by kernel_rfl) (by kernel_rfl) (by kernel_rfl) fun w_13 a H HP => ?_
  refine wpList_nil (then_normal (wp_seq (w_region ?_)))
  refine H.v 17 (.func (.func 49) #[] #[]) fun a H => ?_
  refine H.u 18 (itV x_4) (ex_loadN (vs := (itL x_4)) (by kernel_rfl) (by kernel_rfl) (by kernel_rfl) rfl (HP.cells 0 rfl 0 5 (by kernel_rfl))) fun a H => ?_
  refine H.call 19 (by kernel_rfl) (Eq.trans (by kernel_rfl : _ = (callFunc 49 #[(itV x_4)]).run Tryz.prog w_13) (Tryz.call49 _ _)) (itemID_any x_4 w_13) ?_
  rintro e w_14 ⟨rfl, hb⟩
  refine ⟨_, rfl, ?_⟩
  intro a H
  have HP := HP.next hb
  refine H.v 20 (ii k) fun a H => ?_
  refine H.v 21 (.bool (x_4.id == k)) fun a H => ?_
  refine wpList_nil (then_normal ?_)
  refine w_if H rfl (fun g21 => ?_) (fun g21 => ?_)
  ·have g21p := eq_of_beq g21
   refine wp_seq (w_region ?_)
   refine H.u 22 (itV x_4) (ex_loadN (vs := (itL x_4)) (by kernel_rfl) (by kernel_rfl) (by kernel_rfl) rfl (HP.cells 0 rfl 0 5 (by kernel_rfl))) fun a H => ?_
   refine H.store HP 1 b_1 0 5 38 _ true (itV x_4) [bx b_11 38 (itL x_4) true, bx b_1 38 (itL x_4) true] (by kernel_rfl) (by kernel_rfl) (by kernel_rfl) rfl (by kernel_rfl) (by kernel_rfl) (by kernel_rfl) (by kernel_rfl) (by kernel_rfl) fun w_15 a H HP => ?_
   refine H.v 7 (.bool true) fun a H => ?_
   refine wpList_nil (then_normal (wp_ret (inb_ret (then_ret (then_ret (inb_ret (then_ret ?_)))))))
   refine H.ret2 (fn := Tryz.f48) Tryz.results48 (RV.cellN (vs := (itL x_4)) (b := b_1) (off := 0) (k := 5) (by kernel_rfl) (by kernel_rfl) (by kernel_rfl) rfl (HP.cells 1 rfl 0 5 (by kernel_rfl))) (RV.tmp_ (v := (.bool true)) (by kernel_rfl)) ?_
   have hv : fI l k = some x_4 := by rw [hrel, hd_9]; unfold fI; rw [List.find?_cons, g21]
   exact ⟨by rw [show gI l k = x_4 from by unfold gI; rw [hv]; rfl, show hI l k = true from by unfold hI; rw [hv]; rfl], HP.bl⟩
  ·have g21p := ne_of_beq_false g21
   refine wp_skip (inb_normal (then_normal (w_region ?_)))
   refine H.valE 23 (ii (IntKind.i64.wrap ((i : Int) + 1))) (ii ((i : Int) + 1)) (by kernel_rfl) (by kernel_rfl) ((by rw [wrap_ini64 _ (by omega)])) fun a H => ?_
   refine H.v 13 (ii ((i : Int) + 1)) fun a H => ?_
   refine wpList_nil (then_normal ?_)
   have H := H.as 13 (ii ((i + 1 : Nat) : Int)) rfl rfl
   refine ⟨_, ?_, i + 1, rfl, H.keep (by kernel_rfl), (HP.tail rfl), (by omega), (by rw [hrel, hd_9]; unfold fI; rw [List.find?_cons, g21])⟩
   omega
 ·have g14p := of_decide_eq_false g14
  refine wp_exit (then_exit (then_exit ?_))
  refine w_exit_here ?_
  refine then_normal (wp_seq (w_region ?_))
  refine H.alloc HP 10 (fun b => (pt b 0)) 38 [(ii 0), (ii 0), (ii 0), (ii 0), (ii 0)] (by kernel_rfl) (fun w => by kernel_rfl) fun b_16 w_17 a H HP => ?_
  refine wpList_nil (then_normal (wp_seq (w_region ?_)))
  refine H.u 24 (.agg #[(ii 0), (ii 0), (ii 0), (ii 0), (ii 0)]) (ex_loadN (vs := [(ii 0), (ii 0), (ii 0), (ii 0), (ii 0)]) (by kernel_rfl) (by kernel_rfl) (by kernel_rfl) rfl (HP.cells 0 rfl 0 5 (by kernel_rfl))) fun a H => ?_
  refine H.store HP 1 b_1 0 5 38 _ true (.agg #[(ii 0), (ii 0), (ii 0), (ii 0), (ii 0)]) [bx b_16 38 [(ii 0), (ii 0), (ii 0), (ii 0), (ii 0)] true, bx b_1 38 [(ii 0), (ii 0), (ii 0), (ii 0), (ii 0)] true] (by kernel_rfl) (by kernel_rfl) (by kernel_rfl) rfl (by kernel_rfl) (by kernel_rfl) (by kernel_rfl) (by kernel_rfl) (by kernel_rfl) fun w_18 a H HP => ?_
  refine H.v 7 (.bool false) fun a H => ?_
  refine wpList_nil (then_normal (wp_ret ?_))
  refine H.ret2 (fn := Tryz.f48) Tryz.results48 (RV.cellN (vs := [(ii 0), (ii 0), (ii 0), (ii 0), (ii 0)]) (b := b_1) (off := 0) (k := 5) (by kernel_rfl) (by kernel_rfl) (by kernel_rfl) rfl (HP.cells 1 rfl 0 5 (by kernel_rfl))) (RV.tmp_ (v := (.bool false)) (by kernel_rfl)) ?_
  have hv : fI l k = none := by rw [hrel, List.drop_eq_nil_of_le (by omega)]; rfl
  exact ⟨by rw [show gI l k = itZ from by unfold gI; rw [hv]; rfl, show hI l k = false from by unfold hI; rw [hv]; rfl]; rfl, HP.bl⟩
set_option maxRecDepth 100000 in
set_option maxHeartbeats 4000000 in
theorem findB_any (A : Option Addr) (c : Nat) (l : List Bkg) (k : Int) (w : World) (hr : IsBk w A l) (hl : l.length ≤ maxLen) : Calls Tryz.prog 53 #[.slice A l.length c, .int .i64 k, .func (.func 54) #[] #[]] w fun e w' => e = .returned (.tuple #[(bkV (gB l k)), .bool (hB l k)]) ∧ Below w.heap.size w w' := by
 unfold maxLen at hl
 have HP := Hp.start w
 refine w_enter 25 [(0, (.slice A l.length c)), (1, (ii k)), (2, (.func (.func 54) #[] #[]))] Tryz.func53 rfl Tryz.ntmps53 (by kernel_rfl) (by kernel_rfl) fun a H => ?_
 refine wp_seq (w_region ?_)
 refine H.alloc HP 6 (fun b => (pt b 0)) 47 [(ii 0), (ii 0), (ii 0), (ii 0), (ii 0), (ii 0), (ii 0)] (by kernel_rfl) (fun w => by kernel_rfl) fun b_1 w_2 a H HP => ?_
 refine H.v 7 (.bool false) fun a H => ?_
 refine wpList_nil (then_normal (wp_seq (wp_seq (w_region ?_))))
 refine H.v 11 (.slice A l.length c) fun a H => ?_
 refine H.v 12 (ii l.length) fun a H => ?_
 refine H.v 13 (ii 0) fun a H => ?_
 refine wpList_nil (then_normal (wp_block ?_))
 refine w_loop (fun mm a wv => ∃ (i : Nat), l.length - i = mm ∧ Sl 25 [(13, (ii i)), (12, (ii l.length)), (11, (.slice A l.length c)), (6, (pt b_1 0)), (0, (.slice A l.length c)), (1, (ii k)), (2, (.func (.func 54) #[] #[]))] a ∧ Hp w wv [bx b_1 47 [(ii 0), (ii 0), (ii 0), (ii 0), (ii 0), (ii 0), (ii 0)] true] [] ∧ (i ≤ l.length) ∧ (fB l k = fB (l.drop i) k)) (l.length - 0) ?_ ?_
 ·exact ⟨0, (by omega), H.keep (by kernel_rfl), HP, (Nat.zero_le _), rfl⟩
 rintro mm a w_3 ⟨i, hmeas, H, HP, hib, hrel⟩
 refine wp_seq (w_region ?_)
 refine H.v 14 (.bool (decide ((i : Int) < (l.length : Int)))) fun a H => ?_
 refine wpList_nil (then_normal (wp_seq ?_))
 refine w_if H rfl (fun g14 => ?_) (fun g14 => ?_)
 ·have g14p := of_decide_eq_true g14
  refine wp_skip (then_normal (wp_seq (wp_block (wp_seq ?_))))
  obtain ⟨bu_5, ou_6, x_4, hA_7, _, hd_9, hx_8, hm_10, _⟩ := IsRow.get bkC_size (hr.below HP.bl) (i := i) (by omega)
  refine w_region ?_
  refine H.u 15 (.pointer (some ⟨bu_5, ou_6 + i * 7, none⟩)) (ex_indexA (b := bu_5) (off := ou_6) (len := l.length) (cap := c) (e := 47) (k := 7) (ik := .i64) (i := (i : Int)) (m := i) hA_7 (by kernel_rfl) (by kernel_rfl) (by omega) (by omega) (by kernel_rfl) (by kernel_rfl)) fun a H => ?_
  refine H.u 16 (bkV x_4) (ex_loadN (b := bu_5) (off := ou_6 + i * 7) (vs := (bkL x_4)) (by kernel_rfl) (by kernel_rfl) (by kernel_rfl) rfl (IsRow.cells bkC_size (hr.below HP.bl) hA_7 hx_8)) fun a H => ?_
  refine H.alloc HP 9 (fun b => (pt b 0)) 47 [(ii 0), (ii 0), (ii 0), (ii 0), (ii 0), (ii 0), (ii 0)] (by kernel_rfl) (fun w => by kernel_rfl) fun b_11 w_12 a H HP => ?_
  refine H.store HP 0 b_11 0 7 47 _ true (bkV x_4) [bx b_11 47 (bkL x_4) true, bx b_1 47 [(ii 0), (ii 0), (ii 0), (ii 0), (ii 0), (ii 0), (ii 0)] true] (by kernel_rfl) (by kernel_rfl) (by kernel_rfl) rfl (by kernel_rfl) (by kernel_rfl) (by kernel_rfl) (by kernel_rfl) (by kernel_rfl) fun w_13 a H HP => ?_
  refine wpList_nil (then_normal (wp_seq (w_region ?_)))
  refine H.v 17 (.func (.func 54) #[] #[]) fun a H => ?_
  refine H.u 18 (bkV x_4) (ex_loadN (vs := (bkL x_4)) (by kernel_rfl) (by kernel_rfl) (by kernel_rfl) rfl (HP.cells 0 rfl 0 7 (by kernel_rfl))) fun a H => ?_
  refine H.call 19 (by kernel_rfl) (Eq.trans (by kernel_rfl : _ = (callFunc 54 #[(bkV x_4)]).run Tryz.prog w_13) (Tryz.call54 _ _)) (bookingID_any x_4 w_13) ?_
  rintro e w_14 ⟨rfl, hb⟩
  refine ⟨_, rfl, ?_⟩
  intro a H
  have HP := HP.next hb
  refine H.v 20 (ii k) fun a H => ?_
  refine H.v 21 (.bool (x_4.id == k)) fun a H => ?_
  refine wpList_nil (then_normal ?_)
  refine w_if H rfl (fun g21 => ?_) (fun g21 => ?_)
  ·have g21p := eq_of_beq g21
   refine wp_seq (w_region ?_)
   refine H.u 22 (bkV x_4) (ex_loadN (vs := (bkL x_4)) (by kernel_rfl) (by kernel_rfl) (by kernel_rfl) rfl (HP.cells 0 rfl 0 7 (by kernel_rfl))) fun a H => ?_
   refine H.store HP 1 b_1 0 7 47 _ true (bkV x_4) [bx b_11 47 (bkL x_4) true, bx b_1 47 (bkL x_4) true] (by kernel_rfl) (by kernel_rfl) (by kernel_rfl) rfl (by kernel_rfl) (by kernel_rfl) (by kernel_rfl) (by kernel_rfl) (by kernel_rfl) fun w_15 a H HP => ?_
   refine H.v 7 (.bool true) fun a H => ?_
   refine wpList_nil (then_normal (wp_ret (inb_ret (then_ret (then_ret (inb_ret (then_ret ?_)))))))
   refine H.ret2 (fn := Tryz.f53) Tryz.results53 (RV.cellN (vs := (bkL x_4)) (b := b_1) (off := 0) (k := 7) (by kernel_rfl) (by kernel_rfl) (by kernel_rfl) rfl (HP.cells 1 rfl 0 7 (by kernel_rfl))) (RV.tmp_ (v := (.bool true)) (by kernel_rfl)) ?_
   have hv : fB l k = some x_4 := by rw [hrel, hd_9]; unfold fB; rw [List.find?_cons, g21]
   exact ⟨by rw [show gB l k = x_4 from by unfold gB; rw [hv]; rfl, show hB l k = true from by unfold hB; rw [hv]; rfl], HP.bl⟩
  ·have g21p := ne_of_beq_false g21
   refine wp_skip (inb_normal (then_normal (w_region ?_)))
   refine H.valE 23 (ii (IntKind.i64.wrap ((i : Int) + 1))) (ii ((i : Int) + 1)) (by kernel_rfl) (by kernel_rfl) ((by rw [wrap_ini64 _ (by omega)])) fun a H => ?_
   refine H.v 13 (ii ((i : Int) + 1)) fun a H => ?_
   refine wpList_nil (then_normal ?_)
   have H := H.as 13 (ii ((i + 1 : Nat) : Int)) rfl rfl
   refine ⟨_, ?_, i + 1, rfl, H.keep (by kernel_rfl), (HP.tail rfl), (by omega), (by rw [hrel, hd_9]; unfold fB; rw [List.find?_cons, g21])⟩
   omega
 ·have g14p := of_decide_eq_false g14
  refine wp_exit (then_exit (then_exit ?_))
  refine w_exit_here ?_
  refine then_normal (wp_seq (w_region ?_))
  refine H.alloc HP 10 (fun b => (pt b 0)) 47 [(ii 0), (ii 0), (ii 0), (ii 0), (ii 0), (ii 0), (ii 0)] (by kernel_rfl) (fun w => by kernel_rfl) fun b_16 w_17 a H HP => ?_
  refine wpList_nil (then_normal (wp_seq (w_region ?_)))
  refine H.u 24 (.agg #[(ii 0), (ii 0), (ii 0), (ii 0), (ii 0), (ii 0), (ii 0)]) (ex_loadN (vs := [(ii 0), (ii 0), (ii 0), (ii 0), (ii 0), (ii 0), (ii 0)]) (by kernel_rfl) (by kernel_rfl) (by kernel_rfl) rfl (HP.cells 0 rfl 0 7 (by kernel_rfl))) fun a H => ?_
  refine H.store HP 1 b_1 0 7 47 _ true (.agg #[(ii 0), (ii 0), (ii 0), (ii 0), (ii 0), (ii 0), (ii 0)]) [bx b_16 47 [(ii 0), (ii 0), (ii 0), (ii 0), (ii 0), (ii 0), (ii 0)] true, bx b_1 47 [(ii 0), (ii 0), (ii 0), (ii 0), (ii 0), (ii 0), (ii 0)] true] (by kernel_rfl) (by kernel_rfl) (by kernel_rfl) rfl (by kernel_rfl) (by kernel_rfl) (by kernel_rfl) (by kernel_rfl) (by kernel_rfl) fun w_18 a H HP => ?_
  refine H.v 7 (.bool false) fun a H => ?_
  refine wpList_nil (then_normal (wp_ret ?_))
  refine H.ret2 (fn := Tryz.f53) Tryz.results53 (RV.cellN (vs := [(ii 0), (ii 0), (ii 0), (ii 0), (ii 0), (ii 0), (ii 0)]) (b := b_1) (off := 0) (k := 7) (by kernel_rfl) (by kernel_rfl) (by kernel_rfl) rfl (HP.cells 1 rfl 0 7 (by kernel_rfl))) (RV.tmp_ (v := (.bool false)) (by kernel_rfl)) ?_
  have hv : fB l k = none := by rw [hrel, List.drop_eq_nil_of_le (by omega)]; rfl
  exact ⟨by rw [show gB l k = bkZ from by unfold gB; rw [hv]; rfl, show hB l k = false from by unfold hB; rw [hv]; rfl]; rfl, HP.bl⟩
set_option maxRecDepth 100000 in
set_option maxHeartbeats 4000000 in
theorem findE_any (A : Option Addr) (c : Nat) (l : List Ent) (k : Int) (w : World) (hr : IsRow 7 enC w A l) (hl : l.length ≤ maxLen) : Calls Tryz.prog 50 #[.slice A l.length c, .int .i64 k, .func (.func 51) #[] #[]] w fun e w' => e = .returned (.tuple #[(.agg #[(ii ((gE l k).id)), (ii ((gE l k).item)), (ii ((gE l k).frames)), (ii ((gE l k).earliest)), (ii ((gE l k).latest)), (ii ((gE l k).booking)), (.slice ((gE l k).A) ((gE l k).al.length) ((gE l k).c))]), .bool (hE l k)]) ∧ Below w.heap.size w w' := by
 unfold maxLen at hl
 have HP := Hp.start w
 refine w_enter 25 [(0, (.slice A l.length c)), (1, (ii k)), (2, (.func (.func 51) #[] #[]))] Tryz.func50 rfl Tryz.ntmps50 (by kernel_rfl) (by kernel_rfl) fun a H => ?_
 refine wp_seq (w_region ?_)
 refine H.alloc HP 6 (fun b => (pt b 0)) 43 [(ii 0), (ii 0), (ii 0), (ii 0), (ii 0), (ii 0), (.slice none 0 0)] (by kernel_rfl) (fun w => by kernel_rfl) fun b_1 w_2 a H HP => ?_
 refine H.v 7 (.bool false) fun a H => ?_
 refine wpList_nil (then_normal (wp_seq (wp_seq (w_region ?_))))
 refine H.v 11 (.slice A l.length c) fun a H => ?_
 refine H.v 12 (ii l.length) fun a H => ?_
 refine H.v 13 (ii 0) fun a H => ?_
 refine wpList_nil (then_normal (wp_block ?_))
 refine w_loop (fun mm a wv => ∃ (i : Nat), l.length - i = mm ∧ Sl 25 [(13, (ii i)), (12, (ii l.length)), (11, (.slice A l.length c)), (6, (pt b_1 0)), (0, (.slice A l.length c)), (1, (ii k)), (2, (.func (.func 51) #[] #[]))] a ∧ Hp w wv [bx b_1 43 [(ii 0), (ii 0), (ii 0), (ii 0), (ii 0), (ii 0), (.slice none 0 0)] true] [] ∧ (i ≤ l.length) ∧ (fE l k = fE (l.drop i) k)) (l.length - 0) ?_ ?_
 ·exact ⟨0, (by omega), H.keep (by kernel_rfl), HP, (Nat.zero_le _), rfl⟩
 rintro mm a w_3 ⟨i, hmeas, H, HP, hib, hrel⟩
 refine wp_seq (w_region ?_)
 refine H.v 14 (.bool (decide ((i : Int) < (l.length : Int)))) fun a H => ?_
 refine wpList_nil (then_normal (wp_seq ?_))
 refine w_if H rfl (fun g14 => ?_) (fun g14 => ?_)
 ·have g14p := of_decide_eq_true g14
  refine wp_skip (then_normal (wp_seq (wp_block (wp_seq ?_))))
  obtain ⟨bu_5, ou_6, x_4, hA_7, _, hd_9, hx_8, hm_10, _⟩ := IsRow.get enC_size (hr.below HP.bl) (i := i) (by omega)
  refine w_region ?_
  refine H.u 15 (.pointer (some ⟨bu_5, ou_6 + i * 7, none⟩)) (ex_indexA (b := bu_5) (off := ou_6) (len := l.length) (cap := c) (e := 43) (k := 7) (ik := .i64) (i := (i : Int)) (m := i) hA_7 (by kernel_rfl) (by kernel_rfl) (by omega) (by omega) (by kernel_rfl) (by kernel_rfl)) fun a H => ?_
  refine H.u 16 (enV x_4) (ex_loadN (b := bu_5) (off := ou_6 + i * 7) (vs := (enL x_4)) (by kernel_rfl) (by kernel_rfl) (by kernel_rfl) rfl (IsRow.cells enC_size (hr.below HP.bl) hA_7 hx_8)) fun a H => ?_
  refine H.alloc HP 9 (fun b => (pt b 0)) 43 [(ii 0), (ii 0), (ii 0), (ii 0), (ii 0), (ii 0), (.slice none 0 0)] (by kernel_rfl) (fun w => by kernel_rfl) fun b_11 w_12 a H HP => ?_
  refine H.store HP 0 b_11 0 7 43 _ true (enV x_4) [bx b_11 43 (enL x_4) true, bx b_1 43 [(ii 0), (ii 0), (ii 0), (ii 0), (ii 0), (ii 0), (.slice none 0 0)] true] (by kernel_rfl) (by kernel_rfl) (by kernel_rfl) rfl (by kernel_rfl) (by kernel_rfl) (by kernel_rfl) (by kernel_rfl) (by kernel_rfl) fun w_13 a H HP => ?_
  refine wpList_nil (then_normal (wp_seq (w_region ?_)))
  refine H.v 17 (.func (.func 51) #[] #[]) fun a H => ?_
  refine H.u 18 (enV x_4) (ex_loadN (vs := (enL x_4)) (by kernel_rfl) (by kernel_rfl) (by kernel_rfl) rfl (HP.cells 0 rfl 0 7 (by kernel_rfl))) fun a H => ?_
  refine H.call 19 (by kernel_rfl) (Eq.trans (by kernel_rfl : _ = (callFunc 51 #[(enV x_4)]).run Tryz.prog w_13) (Tryz.call51 _ _)) (entryID_any x_4 w_13) ?_
  rintro e w_14 ⟨rfl, hb⟩
  refine ⟨_, rfl, ?_⟩
  intro a H
  have HP := HP.next hb
  refine H.v 20 (ii k) fun a H => ?_
  refine H.v 21 (.bool (x_4.id == k)) fun a H => ?_
  refine wpList_nil (then_normal ?_)
  refine w_if H rfl (fun g21 => ?_) (fun g21 => ?_)
  ·have g21p := eq_of_beq g21
   refine wp_seq (w_region ?_)
   refine H.u 22 (enV x_4) (ex_loadN (vs := (enL x_4)) (by kernel_rfl) (by kernel_rfl) (by kernel_rfl) rfl (HP.cells 0 rfl 0 7 (by kernel_rfl))) fun a H => ?_
   refine H.store HP 1 b_1 0 7 43 _ true (enV x_4) [bx b_11 43 (enL x_4) true, bx b_1 43 (enL x_4) true] (by kernel_rfl) (by kernel_rfl) (by kernel_rfl) rfl (by kernel_rfl) (by kernel_rfl) (by kernel_rfl) (by kernel_rfl) (by kernel_rfl) fun w_15 a H HP => ?_
   refine H.v 7 (.bool true) fun a H => ?_
   refine wpList_nil (then_normal (wp_ret (inb_ret (then_ret (then_ret (inb_ret (then_ret ?_)))))))
   refine H.ret2 (fn := Tryz.f50) Tryz.results50 (RV.cellN (vs := (enL x_4)) (b := b_1) (off := 0) (k := 7) (by kernel_rfl) (by kernel_rfl) (by kernel_rfl) rfl (HP.cells 1 rfl 0 7 (by kernel_rfl))) (RV.tmp_ (v := (.bool true)) (by kernel_rfl)) ?_
   have hv : fE l k = some x_4 := by rw [hrel, hd_9]; unfold fE; rw [List.find?_cons, g21]
   exact ⟨by rw [show gE l k = x_4 from by unfold gE; rw [hv]; rfl, show hE l k = true from by unfold hE; rw [hv]; rfl], HP.bl⟩
  ·have g21p := ne_of_beq_false g21
   refine wp_skip (inb_normal (then_normal (w_region ?_)))
   refine H.valE 23 (ii (IntKind.i64.wrap ((i : Int) + 1))) (ii ((i : Int) + 1)) (by kernel_rfl) (by kernel_rfl) ((by rw [wrap_ini64 _ (by omega)])) fun a H => ?_
   refine H.v 13 (ii ((i : Int) + 1)) fun a H => ?_
   refine wpList_nil (then_normal ?_)
   have H := H.as 13 (ii ((i + 1 : Nat) : Int)) rfl rfl
   refine ⟨_, ?_, i + 1, rfl, H.keep (by kernel_rfl), (HP.tail rfl), (by omega), (by rw [hrel, hd_9]; unfold fE; rw [List.find?_cons, g21])⟩
   omega
 ·have g14p := of_decide_eq_false g14
  refine wp_exit (then_exit (then_exit ?_))
  refine w_exit_here ?_
  refine then_normal (wp_seq (w_region ?_))
  refine H.alloc HP 10 (fun b => (pt b 0)) 43 [(ii 0), (ii 0), (ii 0), (ii 0), (ii 0), (ii 0), (.slice none 0 0)] (by kernel_rfl) (fun w => by kernel_rfl) fun b_16 w_17 a H HP => ?_
  refine wpList_nil (then_normal (wp_seq (w_region ?_)))
  refine H.u 24 (.agg #[(ii 0), (ii 0), (ii 0), (ii 0), (ii 0), (ii 0), (.slice none 0 0)]) (ex_loadN (vs := [(ii 0), (ii 0), (ii 0), (ii 0), (ii 0), (ii 0), (.slice none 0 0)]) (by kernel_rfl) (by kernel_rfl) (by kernel_rfl) rfl (HP.cells 0 rfl 0 7 (by kernel_rfl))) fun a H => ?_
  refine H.store HP 1 b_1 0 7 43 _ true (.agg #[(ii 0), (ii 0), (ii 0), (ii 0), (ii 0), (ii 0), (.slice none 0 0)]) [bx b_16 43 [(ii 0), (ii 0), (ii 0), (ii 0), (ii 0), (ii 0), (.slice none 0 0)] true, bx b_1 43 [(ii 0), (ii 0), (ii 0), (ii 0), (ii 0), (ii 0), (.slice none 0 0)] true] (by kernel_rfl) (by kernel_rfl) (by kernel_rfl) rfl (by kernel_rfl) (by kernel_rfl) (by kernel_rfl) (by kernel_rfl) (by kernel_rfl) fun w_18 a H HP => ?_
  refine H.v 7 (.bool false) fun a H => ?_
  refine wpList_nil (then_normal (wp_ret ?_))
  refine H.ret2 (fn := Tryz.f50) Tryz.results50 (RV.cellN (vs := [(ii 0), (ii 0), (ii 0), (ii 0), (ii 0), (ii 0), (.slice none 0 0)]) (b := b_1) (off := 0) (k := 7) (by kernel_rfl) (by kernel_rfl) (by kernel_rfl) rfl (HP.cells 1 rfl 0 7 (by kernel_rfl))) (RV.tmp_ (v := (.bool false)) (by kernel_rfl)) ?_
  have hv : fE l k = none := by rw [hrel, List.drop_eq_nil_of_le (by omega)]; rfl
  exact ⟨by rw [show gE l k = enZ from by unfold gE; rw [hv]; rfl, show hE l k = false from by unfold hE; rw [hv]; rfl]; rfl, HP.bl⟩
set_option maxRecDepth 100000 in
set_option maxHeartbeats 4000000 in
theorem item_any (p : Pln) (k : Int) (w : World) (hpl : IsPln w p) : Calls Tryz.prog 18 #[(plV p), .int .i64 k] w fun e w' => e = .returned (.tuple #[(itV (gI p.its k)), .bool (hI p.its k)]) ∧ Below w.heap.size w w' := by
 have HP := Hp.start w
 refine w_enter 12 [(0, (plV p)), (1, (ii k))] Tryz.func18 rfl Tryz.ntmps18 (by kernel_rfl) (by kernel_rfl) fun a H => ?_
 refine wp_seq (w_region ?_)
 refine H.alloc HP 2 (fun b => (pt b 0)) 32 (plL p) (by kernel_rfl) (fun w => by kernel_rfl) fun b_1 w_2 a H HP => ?_
 refine H.alloc HP 4 (fun b => (pt b 0)) 38 [(ii 0), (ii 0), (ii 0), (ii 0), (ii 0)] (by kernel_rfl) (fun w => by kernel_rfl) fun b_3 w_4 a H HP => ?_
 refine H.v 5 (.bool false) fun a H => ?_
 refine wpList_nil (then_normal (wp_seq (w_region ?_)))
 refine H.v 6 (pt b_1 9) fun a H => ?_
 refine H.u 7 (.slice p.IA p.its.length p.ic) (ex_l1 (HP.cell 1 rfl 9 rfl)) fun a H => ?_
 refine H.v 8 (ii k) fun a H => ?_
 refine H.call 9 (by kernel_rfl) (Eq.trans (by kernel_rfl : _ = (callFunc 48 #[(.slice p.IA p.its.length p.ic), (ii k), (.func (.func 49) #[] #[])]).run Tryz.prog w_4) (Tryz.call48 _ _)) (findI_any p.IA p.ic p.its k w_4 (hpl.its.below HP.bl) hpl.lits) ?_
 rintro e w_5 ⟨rfl, hb⟩
 refine ⟨_, rfl, ?_⟩
 intro a H
 have HP := HP.next hb
 refine H.v 10 (itV (gI p.its k)) fun a H => ?_
 refine H.v 11 (.bool (hI p.its k)) fun a H => ?_
 refine H.store HP 0 b_3 0 5 38 _ true (itV (gI p.its k)) [bx b_3 38 (itL (gI p.its k)) true, bx b_1 32 (plL p) true] (by kernel_rfl) (by kernel_rfl) (by kernel_rfl) rfl (by kernel_rfl) (by kernel_rfl) (by kernel_rfl) (by kernel_rfl) (by kernel_rfl) fun w_6 a H HP => ?_
 refine H.v 5 (.bool (hI p.its k)) fun a H => ?_
 refine wpList_nil (then_normal (wp_ret ?_))
 refine H.ret2 (fn := Tryz.f18) Tryz.results18 (RV.cellN (vs := (itL (gI p.its k))) (b := b_3) (off := 0) (k := 5) (by kernel_rfl) (by kernel_rfl) (by kernel_rfl) rfl (HP.cells 0 rfl 0 5 (by kernel_rfl))) (RV.tmp_ (v := (.bool (hI p.its k))) (by kernel_rfl)) ?_
 exact ⟨rfl, HP.bl⟩
set_option maxRecDepth 100000 in
set_option maxHeartbeats 4000000 in
theorem booking_any (p : Pln) (k : Int) (w : World) (hpl : IsPln w p) : Calls Tryz.prog 22 #[(plV p), .int .i64 k] w fun e w' => e = .returned (.tuple #[(bkV (gB p.bs k)), .bool (hB p.bs k)]) ∧ Below w.heap.size w w' := by
 have HP := Hp.start w
 refine w_enter 12 [(0, (plV p)), (1, (ii k))] Tryz.func22 rfl Tryz.ntmps22 (by kernel_rfl) (by kernel_rfl) fun a H => ?_
 refine wp_seq (w_region ?_)
 refine H.alloc HP 2 (fun b => (pt b 0)) 32 (plL p) (by kernel_rfl) (fun w => by kernel_rfl) fun b_1 w_2 a H HP => ?_
 refine H.alloc HP 4 (fun b => (pt b 0)) 47 [(ii 0), (ii 0), (ii 0), (ii 0), (ii 0), (ii 0), (ii 0)] (by kernel_rfl) (fun w => by kernel_rfl) fun b_3 w_4 a H HP => ?_
 refine H.v 5 (.bool false) fun a H => ?_
 refine wpList_nil (then_normal (wp_seq (w_region ?_)))
 refine H.v 6 (pt b_1 11) fun a H => ?_
 refine H.u 7 (.slice p.BA p.bs.length p.bc) (ex_l1 (HP.cell 1 rfl 11 rfl)) fun a H => ?_
 refine H.v 8 (ii k) fun a H => ?_
 refine H.call 9 (by kernel_rfl) (Eq.trans (by kernel_rfl : _ = (callFunc 53 #[(.slice p.BA p.bs.length p.bc), (ii k), (.func (.func 54) #[] #[])]).run Tryz.prog w_4) (Tryz.call53 _ _)) (findB_any p.BA p.bc p.bs k w_4 (hpl.bs.below HP.bl) hpl.lbs) ?_
 rintro e w_5 ⟨rfl, hb⟩
 refine ⟨_, rfl, ?_⟩
 intro a H
 have HP := HP.next hb
 refine H.v 10 (bkV (gB p.bs k)) fun a H => ?_
 refine H.v 11 (.bool (hB p.bs k)) fun a H => ?_
 refine H.store HP 0 b_3 0 7 47 _ true (bkV (gB p.bs k)) [bx b_3 47 (bkL (gB p.bs k)) true, bx b_1 32 (plL p) true] (by kernel_rfl) (by kernel_rfl) (by kernel_rfl) rfl (by kernel_rfl) (by kernel_rfl) (by kernel_rfl) (by kernel_rfl) (by kernel_rfl) fun w_6 a H HP => ?_
 refine H.v 5 (.bool (hB p.bs k)) fun a H => ?_
 refine wpList_nil (then_normal (wp_ret ?_))
 refine H.ret2 (fn := Tryz.f22) Tryz.results22 (RV.cellN (vs := (bkL (gB p.bs k))) (b := b_3) (off := 0) (k := 7) (by kernel_rfl) (by kernel_rfl) (by kernel_rfl) rfl (HP.cells 0 rfl 0 7 (by kernel_rfl))) (RV.tmp_ (v := (.bool (hB p.bs k))) (by kernel_rfl)) ?_
 exact ⟨rfl, HP.bl⟩
set_option maxRecDepth 100000 in
set_option maxHeartbeats 4000000 in
theorem eqS_any (A B : Option Addr) (c d : Nat) (l m : List (Int × Int)) (w : World) (hr : IsAl w A l) (hs : IsAl w B m) (hl : l.length ≤ maxLen) (hm : m.length ≤ maxLen) : Calls Tryz.prog 42 #[.slice A l.length c, .slice B m.length d] w fun e w' => e = .returned (.bool (decide (l = m))) ∧ Below w.heap.size w w' := by
 unfold maxLen at hl hm
 have HP := Hp.start w
 refine w_enter 26 [(0, (.slice A l.length c)), (1, (.slice B m.length d))] Tryz.func42 rfl Tryz.ntmps42 (by kernel_rfl) (by kernel_rfl) fun a H => ?_
 refine wp_seq (w_region ?_)
 refine H.v 4 (.bool false) fun a H => ?_
 refine wpList_nil (then_normal (wp_seq (wp_seq (w_region ?_))))
 refine H.v 6 (.slice A l.length c) fun a H => ?_
 refine H.v 7 (ii l.length) fun a H => ?_
 refine H.v 8 (.slice B m.length d) fun a H => ?_
 refine H.v 9 (ii m.length) fun a H => ?_
 refine H.v 10 (.bool ((l.length : Int) != (m.length : Int))) fun a H => ?_
 refine wpList_nil (then_normal ?_)
 refine w_if H rfl (fun g10 => ?_) (fun g10 => ?_)
 ·have g10p := bne_iff_ne.1 g10
  refine wp_seq (w_region ?_)
  refine H.v 4 (.bool false) fun a H => ?_
  refine wpList_nil (then_normal (wp_ret (then_ret ?_)))
  refine H.ret1 (fn := Tryz.f42) Tryz.results42 (RV.tmp_ (v := (.bool false)) (by kernel_rfl)) ?_
  exact ⟨by rw [decide_eq_false (fun e => by subst e; omega)], HP.bl⟩
 ·have g10p := eq_of_bne_false g10
  refine wp_skip (then_normal (wp_seq (wp_seq (w_region ?_))))
  refine H.v 11 (.slice A l.length c) fun a H => ?_
  refine H.v 12 (ii l.length) fun a H => ?_
  refine H.v 13 (ii 0) fun a H => ?_
  refine wpList_nil (then_normal (wp_block ?_))
  refine w_loop (fun mm a wv => ∃ (i : Nat), l.length - i = mm ∧ Sl 26 [(13, (ii i)), (12, (ii l.length)), (11, (.slice A l.length c)), (10, (.bool ((l.length : Int) != (m.length : Int)))), (9, (ii m.length)), (8, (.slice B m.length d)), (7, (ii l.length)), (6, (.slice A l.length c)), (0, (.slice A l.length c)), (1, (.slice B m.length d))] a ∧ Hp w wv [] [] ∧ (i ≤ l.length) ∧ (l.take i = m.take i)) (l.length - 0) ?_ ?_
  ·exact ⟨0, (by omega), H.keep (by kernel_rfl), HP, (Nat.zero_le _), rfl⟩
  rintro mm a w_1 ⟨i, hmeas, H, HP, hib, hrel⟩
  refine wp_seq (w_region ?_)
  refine H.v 14 (.bool (decide ((i : Int) < (l.length : Int)))) fun a H => ?_
  refine wpList_nil (then_normal (wp_seq ?_))
  refine w_if H rfl (fun g14 => ?_) (fun g14 => ?_)
  ·have g14p := of_decide_eq_true g14
   refine wp_skip (then_normal (wp_seq (wp_block (wp_seq (w_region ?_)))))
   refine H.v 15 (ii i) fun a H => ?_
   refine H.v 5 (ii i) fun a H => ?_
   refine wpList_nil (then_normal (wp_seq ?_))
   obtain ⟨bu_3, ou_4, x_2, hA_5, _, hd_7, hx_6, hm_8, _⟩ := IsRow.get altC_size (hr.below HP.bl) (i := i) (by omega)
   obtain ⟨bu_10, ou_11, x_9, hA_12, _, hd_14, hx_13, hm_15, _⟩ := IsRow.get altC_size (hs.below HP.bl) (i := i) (by omega)
   refine An.start (fun v => Hp w v [] []) 9 9 HP wide_follows rfl fun w_16 HP => ?_
   refine An.p H (.inr HP) 0 16 (.slice A l.length c) fun a H => ?_
   refine An.p H (.inr HP) 1 17 (ii i) fun a H => ?_
   refine An.pure H (.inr (HP)) 2 18 (.pointer (some ⟨bu_3, ou_4 + i * 2, none⟩)) rfl (by kernel_rfl) (by kernel_rfl) (fun _ _ _ h => h) (fun _ => ex_indexA (b := bu_3) (off := ou_4) (len := l.length) (cap := c) (e := 76) (k := 2) (ik := .i64) (i := (i : Int)) (m := i) hA_5 (by kernel_rfl) (by kernel_rfl) (by omega) (by omega) (by kernel_rfl) (by kernel_rfl)) fun a H => ?_
   refine An.val H (HP) 3 19 (alV x_2) rfl (by kernel_rfl) (by kernel_rfl) (fun _ _ _ h => h) (fun _ hS => ex_loadN (b := bu_3) (off := ou_4 + i * 2) (vs := (alL x_2)) (by kernel_rfl) (by kernel_rfl) (by kernel_rfl) rfl (IsRow.cells altC_size (hr.below (hS.below (by kernel_rfl))) hA_5 hx_6)) fun a H => ?_
   refine An.p H (.inr HP) 4 20 (.slice B m.length d) fun a H => ?_
   refine An.p H (.inr HP) 5 21 (ii i) fun a H => ?_
   refine An.pure H (.inr (HP)) 6 22 (.pointer (some ⟨bu_10, ou_11 + i * 2, none⟩)) rfl (by kernel_rfl) (by kernel_rfl) (fun _ _ _ h => h) (fun _ => ex_indexA (b := bu_10) (off := ou_11) (len := m.length) (cap := d) (e := 76) (k := 2) (ik := .i64) (i := (i : Int)) (m := i) hA_12 (by kernel_rfl) (by kernel_rfl) (by omega) (by omega) (by kernel_rfl) (by kernel_rfl)) fun a H => ?_
   refine An.val H (HP) 7 23 (alV x_9) rfl (by kernel_rfl) (by kernel_rfl) (fun _ _ _ h => h) (fun _ hS => ex_loadN (b := bu_10) (off := ou_11 + i * 2) (vs := (alL x_9)) (by kernel_rfl) (by kernel_rfl) (by kernel_rfl) rfl (IsRow.cells altC_size (hs.below (hS.below (by kernel_rfl))) hA_12 hx_13)) fun a H => ?_
   refine An.pure H (.inr (HP)) 8 24 (.bool (!(([x_2.1, x_2.2] : List Int) == [x_9.1, x_9.2]))) rfl (by kernel_rfl) (by kernel_rfl) (fun _ _ _ h => h) (fun _ => ex_neL (a := [x_2.1, x_2.2]) (b := [x_9.1, x_9.2]) (by kernel_rfl) (by kernel_rfl) (by kernel_rfl) rfl) fun a H => ?_
   refine An.done (by kernel_rfl) ?_
   refine then_normal ?_
   refine w_if H rfl (fun g24 => ?_) (fun g24 => ?_)
   ·have g24p := not_is_true g24
    refine wp_seq (w_region ?_)
    refine H.v 4 (.bool false) fun a H => ?_
    refine wpList_nil (then_normal (wp_ret (inb_ret (then_ret (then_ret (inb_ret (then_ret ?_)))))))
    refine H.ret1 (fn := Tryz.f42) Tryz.results42 (RV.tmp_ (v := (.bool false)) (by kernel_rfl)) ?_
    exact ⟨by rw [decide_eq_false (ne_at hx_6 hx_13 (fun e => ne_of_beq_false g24p (alt_eq.2 e)))], HP.bl⟩
   ·have g24p := not_is_false g24
    refine wp_skip (inb_normal (then_normal (w_region ?_)))
    refine H.valE 25 (ii (IntKind.i64.wrap ((i : Int) + 1))) (ii ((i : Int) + 1)) (by kernel_rfl) (by kernel_rfl) ((by rw [wrap_ini64 _ (by omega)])) fun a H => ?_
    refine H.v 13 (ii ((i : Int) + 1)) fun a H => ?_
    refine wpList_nil (then_normal ?_)
    have H := H.as 13 (ii ((i + 1 : Nat) : Int)) rfl rfl
    refine ⟨_, ?_, i + 1, rfl, H.keep (by kernel_rfl), HP, (by omega), (take_eq_snoc hrel hx_6 hx_13 (alt_eq.1 (eq_of_beq g24p)))⟩
    omega
  ·have g14p := of_decide_eq_false g14
   refine wp_exit (then_exit (then_exit ?_))
   refine w_exit_here ?_
   refine then_normal (wp_seq (w_region ?_))
   refine H.v 4 (.bool true) fun a H => ?_
   refine wpList_nil (then_normal (wp_ret ?_))
   refine H.ret1 (fn := Tryz.f42) Tryz.results42 (RV.tmp_ (v := (.bool true)) (by kernel_rfl)) ?_
   exact ⟨by rw [decide_eq_true (take_all hrel (by omega) (by omega))], HP.bl⟩
set_option maxRecDepth 100000 in
set_option maxHeartbeats 4000000 in
theorem eqI_any (A B : Option Addr) (c d : Nat) (l m : List (Itm)) (w : World) (hr : IsIt w A l) (hs : IsIt w B m) (hl : l.length ≤ maxLen) (hm : m.length ≤ maxLen) : Calls Tryz.prog 43 #[.slice A l.length c, .slice B m.length d] w fun e w' => e = .returned (.bool (decide (l = m))) ∧ Below w.heap.size w w' := by
 unfold maxLen at hl hm
 have HP := Hp.start w
 refine w_enter 26 [(0, (.slice A l.length c)), (1, (.slice B m.length d))] Tryz.func43 rfl Tryz.ntmps43 (by kernel_rfl) (by kernel_rfl) fun a H => ?_
 refine wp_seq (w_region ?_)
 refine H.v 4 (.bool false) fun a H => ?_
 refine wpList_nil (then_normal (wp_seq (wp_seq (w_region ?_))))
 refine H.v 6 (.slice A l.length c) fun a H => ?_
 refine H.v 7 (ii l.length) fun a H => ?_
 refine H.v 8 (.slice B m.length d) fun a H => ?_
 refine H.v 9 (ii m.length) fun a H => ?_
 refine H.v 10 (.bool ((l.length : Int) != (m.length : Int))) fun a H => ?_
 refine wpList_nil (then_normal ?_)
 refine w_if H rfl (fun g10 => ?_) (fun g10 => ?_)
 ·have g10p := bne_iff_ne.1 g10
  refine wp_seq (w_region ?_)
  refine H.v 4 (.bool false) fun a H => ?_
  refine wpList_nil (then_normal (wp_ret (then_ret ?_)))
  refine H.ret1 (fn := Tryz.f43) Tryz.results43 (RV.tmp_ (v := (.bool false)) (by kernel_rfl)) ?_
  exact ⟨by rw [decide_eq_false (fun e => by subst e; omega)], HP.bl⟩
 ·have g10p := eq_of_bne_false g10
  refine wp_skip (then_normal (wp_seq (wp_seq (w_region ?_))))
  refine H.v 11 (.slice A l.length c) fun a H => ?_
  refine H.v 12 (ii l.length) fun a H => ?_
  refine H.v 13 (ii 0) fun a H => ?_
  refine wpList_nil (then_normal (wp_block ?_))
  refine w_loop (fun mm a wv => ∃ (i : Nat), l.length - i = mm ∧ Sl 26 [(13, (ii i)), (12, (ii l.length)), (11, (.slice A l.length c)), (10, (.bool ((l.length : Int) != (m.length : Int)))), (9, (ii m.length)), (8, (.slice B m.length d)), (7, (ii l.length)), (6, (.slice A l.length c)), (0, (.slice A l.length c)), (1, (.slice B m.length d))] a ∧ Hp w wv [] [] ∧ (i ≤ l.length) ∧ (l.take i = m.take i)) (l.length - 0) ?_ ?_
  ·exact ⟨0, (by omega), H.keep (by kernel_rfl), HP, (Nat.zero_le _), rfl⟩
  rintro mm a w_1 ⟨i, hmeas, H, HP, hib, hrel⟩
  refine wp_seq (w_region ?_)
  refine H.v 14 (.bool (decide ((i : Int) < (l.length : Int)))) fun a H => ?_
  refine wpList_nil (then_normal (wp_seq ?_))
  refine w_if H rfl (fun g14 => ?_) (fun g14 => ?_)
  ·have g14p := of_decide_eq_true g14
   refine wp_skip (then_normal (wp_seq (wp_block (wp_seq (w_region ?_)))))
   refine H.v 15 (ii i) fun a H => ?_
   refine H.v 5 (ii i) fun a H => ?_
   refine wpList_nil (then_normal (wp_seq ?_))
   obtain ⟨bu_3, ou_4, x_2, hA_5, _, hd_7, hx_6, hm_8, _⟩ := IsRow.get itC_size (hr.below HP.bl) (i := i) (by omega)
   obtain ⟨bu_10, ou_11, x_9, hA_12, _, hd_14, hx_13, hm_15, _⟩ := IsRow.get itC_size (hs.below HP.bl) (i := i) (by omega)
   refine An.start (fun v => Hp w v [] []) 9 9 HP wide_follows rfl fun w_16 HP => ?_
   refine An.p H (.inr HP) 0 16 (.slice A l.length c) fun a H => ?_
   refine An.p H (.inr HP) 1 17 (ii i) fun a H => ?_
   refine An.pure H (.inr (HP)) 2 18 (.pointer (some ⟨bu_3, ou_4 + i * 5, none⟩)) rfl (by kernel_rfl) (by kernel_rfl) (fun _ _ _ h => h) (fun _ => ex_indexA (b := bu_3) (off := ou_4) (len := l.length) (cap := c) (e := 38) (k := 5) (ik := .i64) (i := (i : Int)) (m := i) hA_5 (by kernel_rfl) (by kernel_rfl) (by omega) (by omega) (by kernel_rfl) (by kernel_rfl)) fun a H => ?_
   refine An.val H (HP) 3 19 (itV x_2) rfl (by kernel_rfl) (by kernel_rfl) (fun _ _ _ h => h) (fun _ hS => ex_loadN (b := bu_3) (off := ou_4 + i * 5) (vs := (itL x_2)) (by kernel_rfl) (by kernel_rfl) (by kernel_rfl) rfl (IsRow.cells itC_size (hr.below (hS.below (by kernel_rfl))) hA_5 hx_6)) fun a H => ?_
   refine An.p H (.inr HP) 4 20 (.slice B m.length d) fun a H => ?_
   refine An.p H (.inr HP) 5 21 (ii i) fun a H => ?_
   refine An.pure H (.inr (HP)) 6 22 (.pointer (some ⟨bu_10, ou_11 + i * 5, none⟩)) rfl (by kernel_rfl) (by kernel_rfl) (fun _ _ _ h => h) (fun _ => ex_indexA (b := bu_10) (off := ou_11) (len := m.length) (cap := d) (e := 38) (k := 5) (ik := .i64) (i := (i : Int)) (m := i) hA_12 (by kernel_rfl) (by kernel_rfl) (by omega) (by omega) (by kernel_rfl) (by kernel_rfl)) fun a H => ?_
   refine An.val H (HP) 7 23 (itV x_9) rfl (by kernel_rfl) (by kernel_rfl) (fun _ _ _ h => h) (fun _ hS => ex_loadN (b := bu_10) (off := ou_11 + i * 5) (vs := (itL x_9)) (by kernel_rfl) (by kernel_rfl) (by kernel_rfl) rfl (IsRow.cells itC_size (hs.below (hS.below (by kernel_rfl))) hA_12 hx_13)) fun a H => ?_
   refine An.pure H (.inr (HP)) 8 24 (.bool (!(([x_2.id, x_2.kind, x_2.frames, x_2.sponsor, x_2.rating] : List Int) == [x_9.id, x_9.kind, x_9.frames, x_9.sponsor, x_9.rating]))) rfl (by kernel_rfl) (by kernel_rfl) (fun _ _ _ h => h) (fun _ => ex_neL (a := [x_2.id, x_2.kind, x_2.frames, x_2.sponsor, x_2.rating]) (b := [x_9.id, x_9.kind, x_9.frames, x_9.sponsor, x_9.rating]) (by kernel_rfl) (by kernel_rfl) (by kernel_rfl) rfl) fun a H => ?_
   refine An.done (by kernel_rfl) ?_
   refine then_normal ?_
   refine w_if H rfl (fun g24 => ?_) (fun g24 => ?_)
   ·have g24p := not_is_true g24
    refine wp_seq (w_region ?_)
    refine H.v 4 (.bool false) fun a H => ?_
    refine wpList_nil (then_normal (wp_ret (inb_ret (then_ret (then_ret (inb_ret (then_ret ?_)))))))
    refine H.ret1 (fn := Tryz.f43) Tryz.results43 (RV.tmp_ (v := (.bool false)) (by kernel_rfl)) ?_
    exact ⟨by rw [decide_eq_false (ne_at hx_6 hx_13 (fun e => ne_of_beq_false g24p (itm_eq.2 e)))], HP.bl⟩
   ·have g24p := not_is_false g24
    refine wp_skip (inb_normal (then_normal (w_region ?_)))
    refine H.valE 25 (ii (IntKind.i64.wrap ((i : Int) + 1))) (ii ((i : Int) + 1)) (by kernel_rfl) (by kernel_rfl) ((by rw [wrap_ini64 _ (by omega)])) fun a H => ?_
    refine H.v 13 (ii ((i : Int) + 1)) fun a H => ?_
    refine wpList_nil (then_normal ?_)
    have H := H.as 13 (ii ((i + 1 : Nat) : Int)) rfl rfl
    refine ⟨_, ?_, i + 1, rfl, H.keep (by kernel_rfl), HP, (by omega), (take_eq_snoc hrel hx_6 hx_13 (itm_eq.1 (eq_of_beq g24p)))⟩
    omega
  ·have g14p := of_decide_eq_false g14
   refine wp_exit (then_exit (then_exit ?_))
   refine w_exit_here ?_
   refine then_normal (wp_seq (w_region ?_))
   refine H.v 4 (.bool true) fun a H => ?_
   refine wpList_nil (then_normal (wp_ret ?_))
   refine H.ret1 (fn := Tryz.f43) Tryz.results43 (RV.tmp_ (v := (.bool true)) (by kernel_rfl)) ?_
   exact ⟨by rw [decide_eq_true (take_all hrel (by omega) (by omega))], HP.bl⟩
set_option maxRecDepth 100000 in
set_option maxHeartbeats 4000000 in
theorem eqB_any (A B : Option Addr) (c d : Nat) (l m : List (Bkg)) (w : World) (hr : IsBk w A l) (hs : IsBk w B m) (hl : l.length ≤ maxLen) (hm : m.length ≤ maxLen) : Calls Tryz.prog 46 #[.slice A l.length c, .slice B m.length d] w fun e w' => e = .returned (.bool (decide (l = m))) ∧ Below w.heap.size w w' := by
 unfold maxLen at hl hm
 have HP := Hp.start w
 refine w_enter 26 [(0, (.slice A l.length c)), (1, (.slice B m.length d))] Tryz.func46 rfl Tryz.ntmps46 (by kernel_rfl) (by kernel_rfl) fun a H => ?_
 refine wp_seq (w_region ?_)
 refine H.v 4 (.bool false) fun a H => ?_
 refine wpList_nil (then_normal (wp_seq (wp_seq (w_region ?_))))
 refine H.v 6 (.slice A l.length c) fun a H => ?_
 refine H.v 7 (ii l.length) fun a H => ?_
 refine H.v 8 (.slice B m.length d) fun a H => ?_
 refine H.v 9 (ii m.length) fun a H => ?_
 refine H.v 10 (.bool ((l.length : Int) != (m.length : Int))) fun a H => ?_
 refine wpList_nil (then_normal ?_)
 refine w_if H rfl (fun g10 => ?_) (fun g10 => ?_)
 ·have g10p := bne_iff_ne.1 g10
  refine wp_seq (w_region ?_)
  refine H.v 4 (.bool false) fun a H => ?_
  refine wpList_nil (then_normal (wp_ret (then_ret ?_)))
  refine H.ret1 (fn := Tryz.f46) Tryz.results46 (RV.tmp_ (v := (.bool false)) (by kernel_rfl)) ?_
  exact ⟨by rw [decide_eq_false (fun e => by subst e; omega)], HP.bl⟩
 ·have g10p := eq_of_bne_false g10
  refine wp_skip (then_normal (wp_seq (wp_seq (w_region ?_))))
  refine H.v 11 (.slice A l.length c) fun a H => ?_
  refine H.v 12 (ii l.length) fun a H => ?_
  refine H.v 13 (ii 0) fun a H => ?_
  refine wpList_nil (then_normal (wp_block ?_))
  refine w_loop (fun mm a wv => ∃ (i : Nat), l.length - i = mm ∧ Sl 26 [(13, (ii i)), (12, (ii l.length)), (11, (.slice A l.length c)), (10, (.bool ((l.length : Int) != (m.length : Int)))), (9, (ii m.length)), (8, (.slice B m.length d)), (7, (ii l.length)), (6, (.slice A l.length c)), (0, (.slice A l.length c)), (1, (.slice B m.length d))] a ∧ Hp w wv [] [] ∧ (i ≤ l.length) ∧ (l.take i = m.take i)) (l.length - 0) ?_ ?_
  ·exact ⟨0, (by omega), H.keep (by kernel_rfl), HP, (Nat.zero_le _), rfl⟩
  rintro mm a w_1 ⟨i, hmeas, H, HP, hib, hrel⟩
  refine wp_seq (w_region ?_)
  refine H.v 14 (.bool (decide ((i : Int) < (l.length : Int)))) fun a H => ?_
  refine wpList_nil (then_normal (wp_seq ?_))
  refine w_if H rfl (fun g14 => ?_) (fun g14 => ?_)
  ·have g14p := of_decide_eq_true g14
   refine wp_skip (then_normal (wp_seq (wp_block (wp_seq (w_region ?_)))))
   refine H.v 15 (ii i) fun a H => ?_
   refine H.v 5 (ii i) fun a H => ?_
   refine wpList_nil (then_normal (wp_seq ?_))
   obtain ⟨bu_3, ou_4, x_2, hA_5, _, hd_7, hx_6, hm_8, _⟩ := IsRow.get bkC_size (hr.below HP.bl) (i := i) (by omega)
   obtain ⟨bu_10, ou_11, x_9, hA_12, _, hd_14, hx_13, hm_15, _⟩ := IsRow.get bkC_size (hs.below HP.bl) (i := i) (by omega)
   refine An.start (fun v => Hp w v [] []) 9 9 HP wide_follows rfl fun w_16 HP => ?_
   refine An.p H (.inr HP) 0 16 (.slice A l.length c) fun a H => ?_
   refine An.p H (.inr HP) 1 17 (ii i) fun a H => ?_
   refine An.pure H (.inr (HP)) 2 18 (.pointer (some ⟨bu_3, ou_4 + i * 7, none⟩)) rfl (by kernel_rfl) (by kernel_rfl) (fun _ _ _ h => h) (fun _ => ex_indexA (b := bu_3) (off := ou_4) (len := l.length) (cap := c) (e := 47) (k := 7) (ik := .i64) (i := (i : Int)) (m := i) hA_5 (by kernel_rfl) (by kernel_rfl) (by omega) (by omega) (by kernel_rfl) (by kernel_rfl)) fun a H => ?_
   refine An.val H (HP) 3 19 (bkV x_2) rfl (by kernel_rfl) (by kernel_rfl) (fun _ _ _ h => h) (fun _ hS => ex_loadN (b := bu_3) (off := ou_4 + i * 7) (vs := (bkL x_2)) (by kernel_rfl) (by kernel_rfl) (by kernel_rfl) rfl (IsRow.cells bkC_size (hr.below (hS.below (by kernel_rfl))) hA_5 hx_6)) fun a H => ?_
   refine An.p H (.inr HP) 4 20 (.slice B m.length d) fun a H => ?_
   refine An.p H (.inr HP) 5 21 (ii i) fun a H => ?_
   refine An.pure H (.inr (HP)) 6 22 (.pointer (some ⟨bu_10, ou_11 + i * 7, none⟩)) rfl (by kernel_rfl) (by kernel_rfl) (fun _ _ _ h => h) (fun _ => ex_indexA (b := bu_10) (off := ou_11) (len := m.length) (cap := d) (e := 47) (k := 7) (ik := .i64) (i := (i : Int)) (m := i) hA_12 (by kernel_rfl) (by kernel_rfl) (by omega) (by omega) (by kernel_rfl) (by kernel_rfl)) fun a H => ?_
   refine An.val H (HP) 7 23 (bkV x_9) rfl (by kernel_rfl) (by kernel_rfl) (fun _ _ _ h => h) (fun _ hS => ex_loadN (b := bu_10) (off := ou_11 + i * 7) (vs := (bkL x_9)) (by kernel_rfl) (by kernel_rfl) (by kernel_rfl) rfl (IsRow.cells bkC_size (hs.below (hS.below (by kernel_rfl))) hA_12 hx_13)) fun a H => ?_
   refine An.pure H (.inr (HP)) 8 24 (.bool (!(([x_2.id, x_2.item, x_2.region, x_2.from_, x_2.to_, x_2.until_, x_2.price] : List Int) == [x_9.id, x_9.item, x_9.region, x_9.from_, x_9.to_, x_9.until_, x_9.price]))) rfl (by kernel_rfl) (by kernel_rfl) (fun _ _ _ h => h) (fun _ => ex_neL (a := [x_2.id, x_2.item, x_2.region, x_2.from_, x_2.to_, x_2.until_, x_2.price]) (b := [x_9.id, x_9.item, x_9.region, x_9.from_, x_9.to_, x_9.until_, x_9.price]) (by kernel_rfl) (by kernel_rfl) (by kernel_rfl) rfl) fun a H => ?_
   refine An.done (by kernel_rfl) ?_
   refine then_normal ?_
   refine w_if H rfl (fun g24 => ?_) (fun g24 => ?_)
   ·have g24p := not_is_true g24
    refine wp_seq (w_region ?_)
    refine H.v 4 (.bool false) fun a H => ?_
    refine wpList_nil (then_normal (wp_ret (inb_ret (then_ret (then_ret (inb_ret (then_ret ?_)))))))
    refine H.ret1 (fn := Tryz.f46) Tryz.results46 (RV.tmp_ (v := (.bool false)) (by kernel_rfl)) ?_
    exact ⟨by rw [decide_eq_false (ne_at hx_6 hx_13 (fun e => ne_of_beq_false g24p (bkg_eq.2 e)))], HP.bl⟩
   ·have g24p := not_is_false g24
    refine wp_skip (inb_normal (then_normal (w_region ?_)))
    refine H.valE 25 (ii (IntKind.i64.wrap ((i : Int) + 1))) (ii ((i : Int) + 1)) (by kernel_rfl) (by kernel_rfl) ((by rw [wrap_ini64 _ (by omega)])) fun a H => ?_
    refine H.v 13 (ii ((i : Int) + 1)) fun a H => ?_
    refine wpList_nil (then_normal ?_)
    have H := H.as 13 (ii ((i + 1 : Nat) : Int)) rfl rfl
    refine ⟨_, ?_, i + 1, rfl, H.keep (by kernel_rfl), HP, (by omega), (take_eq_snoc hrel hx_6 hx_13 (bkg_eq.1 (eq_of_beq g24p)))⟩
    omega
  ·have g14p := of_decide_eq_false g14
   refine wp_exit (then_exit (then_exit ?_))
   refine w_exit_here ?_
   refine then_normal (wp_seq (w_region ?_))
   refine H.v 4 (.bool true) fun a H => ?_
   refine wpList_nil (then_normal (wp_ret ?_))
   refine H.ret1 (fn := Tryz.f46) Tryz.results46 (RV.tmp_ (v := (.bool true)) (by kernel_rfl)) ?_
   exact ⟨by rw [decide_eq_true (take_all hrel (by omega) (by omega))], HP.bl⟩
set_option maxRecDepth 100000 in
set_option maxHeartbeats 4000000 in
theorem eqC_any (A B : Option Addr) (c d : Nat) (l m : List (Cls)) (w : World) (hr : IsCl w A l) (hs : IsCl w B m) (hl : l.length ≤ maxLen) (hm : m.length ≤ maxLen) : Calls Tryz.prog 47 #[.slice A l.length c, .slice B m.length d] w fun e w' => e = .returned (.bool (decide (l = m))) ∧ Below w.heap.size w w' := by
 unfold maxLen at hl hm
 have HP := Hp.start w
 refine w_enter 26 [(0, (.slice A l.length c)), (1, (.slice B m.length d))] Tryz.func47 rfl Tryz.ntmps47 (by kernel_rfl) (by kernel_rfl) fun a H => ?_
 refine wp_seq (w_region ?_)
 refine H.v 4 (.bool false) fun a H => ?_
 refine wpList_nil (then_normal (wp_seq (wp_seq (w_region ?_))))
 refine H.v 6 (.slice A l.length c) fun a H => ?_
 refine H.v 7 (ii l.length) fun a H => ?_
 refine H.v 8 (.slice B m.length d) fun a H => ?_
 refine H.v 9 (ii m.length) fun a H => ?_
 refine H.v 10 (.bool ((l.length : Int) != (m.length : Int))) fun a H => ?_
 refine wpList_nil (then_normal ?_)
 refine w_if H rfl (fun g10 => ?_) (fun g10 => ?_)
 ·have g10p := bne_iff_ne.1 g10
  refine wp_seq (w_region ?_)
  refine H.v 4 (.bool false) fun a H => ?_
  refine wpList_nil (then_normal (wp_ret (then_ret ?_)))
  refine H.ret1 (fn := Tryz.f47) Tryz.results47 (RV.tmp_ (v := (.bool false)) (by kernel_rfl)) ?_
  exact ⟨by rw [decide_eq_false (fun e => by subst e; omega)], HP.bl⟩
 ·have g10p := eq_of_bne_false g10
  refine wp_skip (then_normal (wp_seq (wp_seq (w_region ?_))))
  refine H.v 11 (.slice A l.length c) fun a H => ?_
  refine H.v 12 (ii l.length) fun a H => ?_
  refine H.v 13 (ii 0) fun a H => ?_
  refine wpList_nil (then_normal (wp_block ?_))
  refine w_loop (fun mm a wv => ∃ (i : Nat), l.length - i = mm ∧ Sl 26 [(13, (ii i)), (12, (ii l.length)), (11, (.slice A l.length c)), (10, (.bool ((l.length : Int) != (m.length : Int)))), (9, (ii m.length)), (8, (.slice B m.length d)), (7, (ii l.length)), (6, (.slice A l.length c)), (0, (.slice A l.length c)), (1, (.slice B m.length d))] a ∧ Hp w wv [] [] ∧ (i ≤ l.length) ∧ (l.take i = m.take i)) (l.length - 0) ?_ ?_
  ·exact ⟨0, (by omega), H.keep (by kernel_rfl), HP, (Nat.zero_le _), rfl⟩
  rintro mm a w_1 ⟨i, hmeas, H, HP, hib, hrel⟩
  refine wp_seq (w_region ?_)
  refine H.v 14 (.bool (decide ((i : Int) < (l.length : Int)))) fun a H => ?_
  refine wpList_nil (then_normal (wp_seq ?_))
  refine w_if H rfl (fun g14 => ?_) (fun g14 => ?_)
  ·have g14p := of_decide_eq_true g14
   refine wp_skip (then_normal (wp_seq (wp_block (wp_seq (w_region ?_)))))
   refine H.v 15 (ii i) fun a H => ?_
   refine H.v 5 (ii i) fun a H => ?_
   refine wpList_nil (then_normal (wp_seq ?_))
   obtain ⟨bu_3, ou_4, x_2, hA_5, _, hd_7, hx_6, hm_8, _⟩ := IsRow.get clC_size (hr.below HP.bl) (i := i) (by omega)
   obtain ⟨bu_10, ou_11, x_9, hA_12, _, hd_14, hx_13, hm_15, _⟩ := IsRow.get clC_size (hs.below HP.bl) (i := i) (by omega)
   refine An.start (fun v => Hp w v [] []) 9 9 HP wide_follows rfl fun w_16 HP => ?_
   refine An.p H (.inr HP) 0 16 (.slice A l.length c) fun a H => ?_
   refine An.p H (.inr HP) 1 17 (ii i) fun a H => ?_
   refine An.pure H (.inr (HP)) 2 18 (.pointer (some ⟨bu_3, ou_4 + i * 8, none⟩)) rfl (by kernel_rfl) (by kernel_rfl) (fun _ _ _ h => h) (fun _ => ex_indexA (b := bu_3) (off := ou_4) (len := l.length) (cap := c) (e := 73) (k := 8) (ik := .i64) (i := (i : Int)) (m := i) hA_5 (by kernel_rfl) (by kernel_rfl) (by omega) (by omega) (by kernel_rfl) (by kernel_rfl)) fun a H => ?_
   refine An.val H (HP) 3 19 (clV x_2) rfl (by kernel_rfl) (by kernel_rfl) (fun _ _ _ h => h) (fun _ hS => ex_loadN (b := bu_3) (off := ou_4 + i * 8) (vs := (clL x_2)) (by kernel_rfl) (by kernel_rfl) (by kernel_rfl) rfl (IsRow.cells clC_size (hr.below (hS.below (by kernel_rfl))) hA_5 hx_6)) fun a H => ?_
   refine An.p H (.inr HP) 4 20 (.slice B m.length d) fun a H => ?_
   refine An.p H (.inr HP) 5 21 (ii i) fun a H => ?_
   refine An.pure H (.inr (HP)) 6 22 (.pointer (some ⟨bu_10, ou_11 + i * 8, none⟩)) rfl (by kernel_rfl) (by kernel_rfl) (fun _ _ _ h => h) (fun _ => ex_indexA (b := bu_10) (off := ou_11) (len := m.length) (cap := d) (e := 73) (k := 8) (ik := .i64) (i := (i : Int)) (m := i) hA_12 (by kernel_rfl) (by kernel_rfl) (by omega) (by omega) (by kernel_rfl) (by kernel_rfl)) fun a H => ?_
   refine An.val H (HP) 7 23 (clV x_9) rfl (by kernel_rfl) (by kernel_rfl) (fun _ _ _ h => h) (fun _ hS => ex_loadN (b := bu_10) (off := ou_11 + i * 8) (vs := (clL x_9)) (by kernel_rfl) (by kernel_rfl) (by kernel_rfl) rfl (IsRow.cells clC_size (hs.below (hS.below (by kernel_rfl))) hA_12 hx_13)) fun a H => ?_
   refine An.pure H (.inr (HP)) 8 24 (.bool (!(([x_2.kind, x_2.item, x_2.from_, x_2.to_, x_2.regions, x_2.n, x_2.a, x_2.b] : List Int) == [x_9.kind, x_9.item, x_9.from_, x_9.to_, x_9.regions, x_9.n, x_9.a, x_9.b]))) rfl (by kernel_rfl) (by kernel_rfl) (fun _ _ _ h => h) (fun _ => ex_neL (a := [x_2.kind, x_2.item, x_2.from_, x_2.to_, x_2.regions, x_2.n, x_2.a, x_2.b]) (b := [x_9.kind, x_9.item, x_9.from_, x_9.to_, x_9.regions, x_9.n, x_9.a, x_9.b]) (by kernel_rfl) (by kernel_rfl) (by kernel_rfl) rfl) fun a H => ?_
   refine An.done (by kernel_rfl) ?_
   refine then_normal ?_
   refine w_if H rfl (fun g24 => ?_) (fun g24 => ?_)
   ·have g24p := not_is_true g24
    refine wp_seq (w_region ?_)
    refine H.v 4 (.bool false) fun a H => ?_
    refine wpList_nil (then_normal (wp_ret (inb_ret (then_ret (then_ret (inb_ret (then_ret ?_)))))))
    refine H.ret1 (fn := Tryz.f47) Tryz.results47 (RV.tmp_ (v := (.bool false)) (by kernel_rfl)) ?_
    exact ⟨by rw [decide_eq_false (ne_at hx_6 hx_13 (fun e => ne_of_beq_false g24p (cls_eq.2 e)))], HP.bl⟩
   ·have g24p := not_is_false g24
    refine wp_skip (inb_normal (then_normal (w_region ?_)))
    refine H.valE 25 (ii (IntKind.i64.wrap ((i : Int) + 1))) (ii ((i : Int) + 1)) (by kernel_rfl) (by kernel_rfl) ((by rw [wrap_ini64 _ (by omega)])) fun a H => ?_
    refine H.v 13 (ii ((i : Int) + 1)) fun a H => ?_
    refine wpList_nil (then_normal ?_)
    have H := H.as 13 (ii ((i + 1 : Nat) : Int)) rfl rfl
    refine ⟨_, ?_, i + 1, rfl, H.keep (by kernel_rfl), HP, (by omega), (take_eq_snoc hrel hx_6 hx_13 (cls_eq.1 (eq_of_beq g24p)))⟩
    omega
  ·have g14p := of_decide_eq_false g14
   refine wp_exit (then_exit (then_exit ?_))
   refine w_exit_here ?_
   refine then_normal (wp_seq (w_region ?_))
   refine H.v 4 (.bool true) fun a H => ?_
   refine wpList_nil (then_normal (wp_ret ?_))
   refine H.ret1 (fn := Tryz.f47) Tryz.results47 (RV.tmp_ (v := (.bool true)) (by kernel_rfl)) ?_
   exact ⟨by rw [decide_eq_true (take_all hrel (by omega) (by omega))], HP.bl⟩
set_option maxRecDepth 100000 in
set_option maxHeartbeats 4000000 in
theorem eqA_any (A B : Option Addr) (c d : Nat) (l m : List (Int × Int)) (w : World) (hr : IsAl w A l) (hs : IsAl w B m) (hl : l.length ≤ maxLen) (hm : m.length ≤ maxLen) : Calls Tryz.prog 80 #[.slice A l.length c, .slice B m.length d] w fun e w' => e = .returned (.bool (decide (l = m))) ∧ Below w.heap.size w w' := by
 unfold maxLen at hl hm
 have HP := Hp.start w
 refine w_enter 26 [(0, (.slice A l.length c)), (1, (.slice B m.length d))] Tryz.func80 rfl Tryz.ntmps80 (by kernel_rfl) (by kernel_rfl) fun a H => ?_
 refine wp_seq (w_region ?_)
 refine H.v 4 (.bool false) fun a H => ?_
 refine wpList_nil (then_normal (wp_seq (wp_seq (w_region ?_))))
 refine H.v 6 (.slice A l.length c) fun a H => ?_
 refine H.v 7 (ii l.length) fun a H => ?_
 refine H.v 8 (.slice B m.length d) fun a H => ?_
 refine H.v 9 (ii m.length) fun a H => ?_
 refine H.v 10 (.bool ((l.length : Int) != (m.length : Int))) fun a H => ?_
 refine wpList_nil (then_normal ?_)
 refine w_if H rfl (fun g10 => ?_) (fun g10 => ?_)
 ·have g10p := bne_iff_ne.1 g10
  refine wp_seq (w_region ?_)
  refine H.v 4 (.bool false) fun a H => ?_
  refine wpList_nil (then_normal (wp_ret (then_ret ?_)))
  refine H.ret1 (fn := Tryz.f80) Tryz.results80 (RV.tmp_ (v := (.bool false)) (by kernel_rfl)) ?_
  exact ⟨by rw [decide_eq_false (fun e => by subst e; omega)], HP.bl⟩
 ·have g10p := eq_of_bne_false g10
  refine wp_skip (then_normal (wp_seq (wp_seq (w_region ?_))))
  refine H.v 11 (.slice A l.length c) fun a H => ?_
  refine H.v 12 (ii l.length) fun a H => ?_
  refine H.v 13 (ii 0) fun a H => ?_
  refine wpList_nil (then_normal (wp_block ?_))
  refine w_loop (fun mm a wv => ∃ (i : Nat), l.length - i = mm ∧ Sl 26 [(13, (ii i)), (12, (ii l.length)), (11, (.slice A l.length c)), (10, (.bool ((l.length : Int) != (m.length : Int)))), (9, (ii m.length)), (8, (.slice B m.length d)), (7, (ii l.length)), (6, (.slice A l.length c)), (0, (.slice A l.length c)), (1, (.slice B m.length d))] a ∧ Hp w wv [] [] ∧ (i ≤ l.length) ∧ (l.take i = m.take i)) (l.length - 0) ?_ ?_
  ·exact ⟨0, (by omega), H.keep (by kernel_rfl), HP, (Nat.zero_le _), rfl⟩
  rintro mm a w_1 ⟨i, hmeas, H, HP, hib, hrel⟩
  refine wp_seq (w_region ?_)
  refine H.v 14 (.bool (decide ((i : Int) < (l.length : Int)))) fun a H => ?_
  refine wpList_nil (then_normal (wp_seq ?_))
  refine w_if H rfl (fun g14 => ?_) (fun g14 => ?_)
  ·have g14p := of_decide_eq_true g14
   refine wp_skip (then_normal (wp_seq (wp_block (wp_seq (w_region ?_)))))
   refine H.v 15 (ii i) fun a H => ?_
   refine H.v 5 (ii i) fun a H => ?_
   refine wpList_nil (then_normal (wp_seq ?_))
   obtain ⟨bu_3, ou_4, x_2, hA_5, _, hd_7, hx_6, hm_8, _⟩ := IsRow.get altC_size (hr.below HP.bl) (i := i) (by omega)
   obtain ⟨bu_10, ou_11, x_9, hA_12, _, hd_14, hx_13, hm_15, _⟩ := IsRow.get altC_size (hs.below HP.bl) (i := i) (by omega)
   refine An.start (fun v => Hp w v [] []) 9 9 HP wide_follows rfl fun w_16 HP => ?_
   refine An.p H (.inr HP) 0 16 (.slice A l.length c) fun a H => ?_
   refine An.p H (.inr HP) 1 17 (ii i) fun a H => ?_
   refine An.pure H (.inr (HP)) 2 18 (.pointer (some ⟨bu_3, ou_4 + i * 2, none⟩)) rfl (by kernel_rfl) (by kernel_rfl) (fun _ _ _ h => h) (fun _ => ex_indexA (b := bu_3) (off := ou_4) (len := l.length) (cap := c) (e := 62) (k := 2) (ik := .i64) (i := (i : Int)) (m := i) hA_5 (by kernel_rfl) (by kernel_rfl) (by omega) (by omega) (by kernel_rfl) (by kernel_rfl)) fun a H => ?_
   refine An.val H (HP) 3 19 (alV x_2) rfl (by kernel_rfl) (by kernel_rfl) (fun _ _ _ h => h) (fun _ hS => ex_loadN (b := bu_3) (off := ou_4 + i * 2) (vs := (alL x_2)) (by kernel_rfl) (by kernel_rfl) (by kernel_rfl) rfl (IsRow.cells altC_size (hr.below (hS.below (by kernel_rfl))) hA_5 hx_6)) fun a H => ?_
   refine An.p H (.inr HP) 4 20 (.slice B m.length d) fun a H => ?_
   refine An.p H (.inr HP) 5 21 (ii i) fun a H => ?_
   refine An.pure H (.inr (HP)) 6 22 (.pointer (some ⟨bu_10, ou_11 + i * 2, none⟩)) rfl (by kernel_rfl) (by kernel_rfl) (fun _ _ _ h => h) (fun _ => ex_indexA (b := bu_10) (off := ou_11) (len := m.length) (cap := d) (e := 62) (k := 2) (ik := .i64) (i := (i : Int)) (m := i) hA_12 (by kernel_rfl) (by kernel_rfl) (by omega) (by omega) (by kernel_rfl) (by kernel_rfl)) fun a H => ?_
   refine An.val H (HP) 7 23 (alV x_9) rfl (by kernel_rfl) (by kernel_rfl) (fun _ _ _ h => h) (fun _ hS => ex_loadN (b := bu_10) (off := ou_11 + i * 2) (vs := (alL x_9)) (by kernel_rfl) (by kernel_rfl) (by kernel_rfl) rfl (IsRow.cells altC_size (hs.below (hS.below (by kernel_rfl))) hA_12 hx_13)) fun a H => ?_
   refine An.pure H (.inr (HP)) 8 24 (.bool (!(([x_2.1, x_2.2] : List Int) == [x_9.1, x_9.2]))) rfl (by kernel_rfl) (by kernel_rfl) (fun _ _ _ h => h) (fun _ => ex_neL (a := [x_2.1, x_2.2]) (b := [x_9.1, x_9.2]) (by kernel_rfl) (by kernel_rfl) (by kernel_rfl) rfl) fun a H => ?_
   refine An.done (by kernel_rfl) ?_
   refine then_normal ?_
   refine w_if H rfl (fun g24 => ?_) (fun g24 => ?_)
   ·have g24p := not_is_true g24
    refine wp_seq (w_region ?_)
    refine H.v 4 (.bool false) fun a H => ?_
    refine wpList_nil (then_normal (wp_ret (inb_ret (then_ret (then_ret (inb_ret (then_ret ?_)))))))
    refine H.ret1 (fn := Tryz.f80) Tryz.results80 (RV.tmp_ (v := (.bool false)) (by kernel_rfl)) ?_
    exact ⟨by rw [decide_eq_false (ne_at hx_6 hx_13 (fun e => ne_of_beq_false g24p (alt_eq.2 e)))], HP.bl⟩
   ·have g24p := not_is_false g24
    refine wp_skip (inb_normal (then_normal (w_region ?_)))
    refine H.valE 25 (ii (IntKind.i64.wrap ((i : Int) + 1))) (ii ((i : Int) + 1)) (by kernel_rfl) (by kernel_rfl) ((by rw [wrap_ini64 _ (by omega)])) fun a H => ?_
    refine H.v 13 (ii ((i : Int) + 1)) fun a H => ?_
    refine wpList_nil (then_normal ?_)
    have H := H.as 13 (ii ((i + 1 : Nat) : Int)) rfl rfl
    refine ⟨_, ?_, i + 1, rfl, H.keep (by kernel_rfl), HP, (by omega), (take_eq_snoc hrel hx_6 hx_13 (alt_eq.1 (eq_of_beq g24p)))⟩
    omega
  ·have g14p := of_decide_eq_false g14
   refine wp_exit (then_exit (then_exit ?_))
   refine w_exit_here ?_
   refine then_normal (wp_seq (w_region ?_))
   refine H.v 4 (.bool true) fun a H => ?_
   refine wpList_nil (then_normal (wp_ret ?_))
   refine H.ret1 (fn := Tryz.f80) Tryz.results80 (RV.tmp_ (v := (.bool true)) (by kernel_rfl)) ?_
   exact ⟨by rw [decide_eq_true (take_all hrel (by omega) (by omega))], HP.bl⟩
set_option maxRecDepth 100000 in
set_option maxHeartbeats 4000000 in
theorem rsameA_any (A B : Option Addr) (c d : Nat) (l m : List (Int × Int)) (w : World) (hr : IsAl w A l) (hs : IsAl w B m) (hl : l.length ≤ maxLen) (hm : m.length ≤ maxLen) : Calls Tryz.prog 55 #[.slice A l.length c, .slice B m.length d] w fun e w' => e = .returned (.bool (decide (l = m))) ∧ Below w.heap.size w w' := by
 unfold maxLen at hl hm
 have HP := Hp.start w
 refine w_enter 26 [(0, (.slice A l.length c)), (1, (.slice B m.length d))] Tryz.func55 rfl Tryz.ntmps55 (by kernel_rfl) (by kernel_rfl) fun a H => ?_
 refine wp_seq (w_region ?_)
 refine H.v 4 (.bool false) fun a H => ?_
 refine wpList_nil (then_normal (wp_seq (wp_seq (w_region ?_))))
 refine H.v 6 (.slice A l.length c) fun a H => ?_
 refine H.v 7 (ii l.length) fun a H => ?_
 refine H.v 8 (.slice B m.length d) fun a H => ?_
 refine H.v 9 (ii m.length) fun a H => ?_
 refine H.v 10 (.bool ((l.length : Int) != (m.length : Int))) fun a H => ?_
 refine wpList_nil (then_normal ?_)
 refine w_if H rfl (fun g10 => ?_) (fun g10 => ?_)
 ·have g10p := bne_iff_ne.1 g10
  refine wp_seq (w_region ?_)
  refine H.v 4 (.bool false) fun a H => ?_
  refine wpList_nil (then_normal (wp_ret (then_ret ?_)))
  refine H.ret1 (fn := Tryz.f55) Tryz.results55 (RV.tmp_ (v := (.bool false)) (by kernel_rfl)) ?_
  exact ⟨by rw [decide_eq_false (fun e => by subst e; omega)], HP.bl⟩
 ·have g10p := eq_of_bne_false g10
  refine wp_skip (then_normal (wp_seq (wp_seq (w_region ?_))))
  refine H.v 5 (ii 0) fun a H => ?_
  refine wpList_nil (then_normal (wp_block ?_))
  refine w_loop (fun mm a wv => ∃ (i : Nat), l.length - i = mm ∧ Sl 26 [(5, (ii i)), (10, (.bool ((l.length : Int) != (m.length : Int)))), (9, (ii m.length)), (8, (.slice B m.length d)), (7, (ii l.length)), (6, (.slice A l.length c)), (0, (.slice A l.length c)), (1, (.slice B m.length d))] a ∧ Hp w wv [] [] ∧ (i ≤ l.length) ∧ (l.take i = m.take i)) (l.length - 0) ?_ ?_
  ·exact ⟨0, (by omega), H.keep (by kernel_rfl), HP, (Nat.zero_le _), rfl⟩
  rintro mm a w_1 ⟨i, hmeas, H, HP, hib, hrel⟩
  refine wp_seq (wp_seq (w_region ?_))
  refine H.v 11 (ii i) fun a H => ?_
  refine H.v 12 (.slice A l.length c) fun a H => ?_
  refine H.v 13 (ii l.length) fun a H => ?_
  refine H.v 14 (.bool (decide ((i : Int) < (l.length : Int)))) fun a H => ?_
  refine wpList_nil (then_normal ?_)
  refine w_if H rfl (fun g14 => ?_) (fun g14 => ?_)
  ·have g14p := of_decide_eq_true g14
   refine wp_skip (then_normal (wp_seq (wp_block (wp_seq ?_))))
   obtain ⟨bu_3, ou_4, x_2, hA_5, _, hd_7, hx_6, hm_8, _⟩ := IsRow.get altC_size (hr.below HP.bl) (i := i) (by omega)
   obtain ⟨bu_10, ou_11, x_9, hA_12, _, hd_14, hx_13, hm_15, _⟩ := IsRow.get altC_size (hs.below HP.bl) (i := i) (by omega)
   refine An.start (fun v => Hp w v [] []) 9 9 HP wide_follows rfl fun w_16 HP => ?_
   refine An.p H (.inr HP) 0 17 (.slice A l.length c) fun a H => ?_
   refine An.p H (.inr HP) 1 18 (ii i) fun a H => ?_
   refine An.pure H (.inr (HP)) 2 19 (.pointer (some ⟨bu_3, ou_4 + i * 2, none⟩)) rfl (by kernel_rfl) (by kernel_rfl) (fun _ _ _ h => h) (fun _ => ex_indexA (b := bu_3) (off := ou_4) (len := l.length) (cap := c) (e := 62) (k := 2) (ik := .i64) (i := (i : Int)) (m := i) hA_5 (by kernel_rfl) (by kernel_rfl) (by omega) (by omega) (by kernel_rfl) (by kernel_rfl)) fun a H => ?_
   refine An.val H (HP) 3 20 (alV x_2) rfl (by kernel_rfl) (by kernel_rfl) (fun _ _ _ h => h) (fun _ hS => ex_loadN (b := bu_3) (off := ou_4 + i * 2) (vs := (alL x_2)) (by kernel_rfl) (by kernel_rfl) (by kernel_rfl) rfl (IsRow.cells altC_size (hr.below (hS.below (by kernel_rfl))) hA_5 hx_6)) fun a H => ?_
   refine An.p H (.inr HP) 4 21 (.slice B m.length d) fun a H => ?_
   refine An.p H (.inr HP) 5 22 (ii i) fun a H => ?_
   refine An.pure H (.inr (HP)) 6 23 (.pointer (some ⟨bu_10, ou_11 + i * 2, none⟩)) rfl (by kernel_rfl) (by kernel_rfl) (fun _ _ _ h => h) (fun _ => ex_indexA (b := bu_10) (off := ou_11) (len := m.length) (cap := d) (e := 62) (k := 2) (ik := .i64) (i := (i : Int)) (m := i) hA_12 (by kernel_rfl) (by kernel_rfl) (by omega) (by omega) (by kernel_rfl) (by kernel_rfl)) fun a H => ?_
   refine An.val H (HP) 7 24 (alV x_9) rfl (by kernel_rfl) (by kernel_rfl) (fun _ _ _ h => h) (fun _ hS => ex_loadN (b := bu_10) (off := ou_11 + i * 2) (vs := (alL x_9)) (by kernel_rfl) (by kernel_rfl) (by kernel_rfl) rfl (IsRow.cells altC_size (hs.below (hS.below (by kernel_rfl))) hA_12 hx_13)) fun a H => ?_
   refine An.pure H (.inr (HP)) 8 25 (.bool (!(([x_2.1, x_2.2] : List Int) == [x_9.1, x_9.2]))) rfl (by kernel_rfl) (by kernel_rfl) (fun _ _ _ h => h) (fun _ => ex_neL (a := [x_2.1, x_2.2]) (b := [x_9.1, x_9.2]) (by kernel_rfl) (by kernel_rfl) (by kernel_rfl) rfl) fun a H => ?_
   refine An.done (by kernel_rfl) ?_
   refine then_normal ?_
   refine w_if H rfl (fun g25 => ?_) (fun g25 => ?_)
   ·have g25p := not_is_true g25
    refine wp_seq (w_region ?_)
    refine H.v 4 (.bool false) fun a H => ?_
    refine wpList_nil (then_normal (wp_ret (inb_ret (then_ret (then_ret (inb_ret (then_ret ?_)))))))
    refine H.ret1 (fn := Tryz.f55) Tryz.results55 (RV.tmp_ (v := (.bool false)) (by kernel_rfl)) ?_
    exact ⟨by rw [decide_eq_false (ne_at hx_6 hx_13 (fun e => ne_of_beq_false g25p (alt_eq.2 e)))], HP.bl⟩
   ·have g25p := not_is_false g25
    refine wp_skip (inb_normal (then_normal (w_region ?_)))
    refine H.v 15 (ii i) fun a H => ?_
    refine H.valE 16 (ii (IntKind.i64.wrap ((i : Int) + 1))) (ii ((i : Int) + 1)) (by kernel_rfl) (by kernel_rfl) ((by rw [wrap_ini64 _ (by omega)])) fun a H => ?_
    refine H.v 5 (ii ((i : Int) + 1)) fun a H => ?_
    refine wpList_nil (then_normal ?_)
    have H := H.as 5 (ii ((i + 1 : Nat) : Int)) rfl rfl
    refine ⟨_, ?_, i + 1, rfl, H.keep (by kernel_rfl), HP, (by omega), (take_eq_snoc hrel hx_6 hx_13 (alt_eq.1 (eq_of_beq g25p)))⟩
    omega
  ·have g14p := of_decide_eq_false g14
   refine wp_exit (then_exit (then_exit ?_))
   refine w_exit_here ?_
   refine then_normal (wp_seq (w_region ?_))
   refine H.v 4 (.bool true) fun a H => ?_
   refine wpList_nil (then_normal (wp_ret ?_))
   refine H.ret1 (fn := Tryz.f55) Tryz.results55 (RV.tmp_ (v := (.bool true)) (by kernel_rfl)) ?_
   exact ⟨by rw [decide_eq_true (take_all hrel (by omega) (by omega))], HP.bl⟩
set_option maxRecDepth 100000 in
set_option maxHeartbeats 4000000 in
theorem sameE_any (x y : Ent) (w : World) (hx : x.ok w) (hy : y.ok w) : Calls Tryz.prog 45 #[(enV x), (enV y)] w fun e w' => e = .returned (.bool (decide (x.nv = y.nv))) ∧ Below w.heap.size w w' := by
 have HP := Hp.start w
 refine w_enter 52 [(0, (enV x)), (1, (enV y))] Tryz.func45 rfl Tryz.ntmps45 (by kernel_rfl) (by kernel_rfl) fun a H => ?_
 refine wp_seq (w_region ?_)
 refine H.alloc HP 2 (fun b => (pt b 0)) 43 (enL x) (by kernel_rfl) (fun w => by kernel_rfl) fun b_1 w_2 a H HP => ?_
 refine H.alloc HP 3 (fun b => (pt b 0)) 43 (enL y) (by kernel_rfl) (fun w => by kernel_rfl) fun b_3 w_4 a H HP => ?_
 refine H.v 4 (.bool false) fun a H => ?_
 refine wpList_nil (then_normal (wp_seq (w_region ?_)))
 refine H.v 5 (pt b_1 0) fun a H => ?_
 refine H.u 6 (ii x.id) (ex_l1 (HP.cell 1 rfl 0 rfl)) fun a H => ?_
 refine H.v 7 (pt b_3 0) fun a H => ?_
 refine H.u 8 (ii y.id) (ex_l1 (HP.cell 0 rfl 0 rfl)) fun a H => ?_
 refine H.v 9 (.bool (x.id == y.id)) fun a H => ?_
 refine H.v 10 (.bool (x.id == y.id)) fun a H => ?_
 refine H.split 10 rfl (fun g10 H => ?_) (fun g10 H => ?_)
 ·have g10p := eq_of_beq g10
  refine H.v 11 (pt b_1 1) fun a H => ?_
  refine H.u 12 (ii x.item) (ex_l1 (HP.cell 1 rfl 1 rfl)) fun a H => ?_
  refine H.v 13 (pt b_3 1) fun a H => ?_
  refine H.u 14 (ii y.item) (ex_l1 (HP.cell 0 rfl 1 rfl)) fun a H => ?_
  refine H.v 15 (.bool (x.item == y.item)) fun a H => ?_
  refine H.v 16 (.bool (x.item == y.item)) fun a H => ?_
  refine H.v 17 (.bool (x.item == y.item)) fun a H => ?_
  refine H.split 17 rfl (fun g17 H => ?_) (fun g17 H => ?_)
  ·have g17p := eq_of_beq g17
   refine H.v 18 (pt b_1 2) fun a H => ?_
   refine H.u 19 (ii x.frames) (ex_l1 (HP.cell 1 rfl 2 rfl)) fun a H => ?_
   refine H.v 20 (pt b_3 2) fun a H => ?_
   refine H.u 21 (ii y.frames) (ex_l1 (HP.cell 0 rfl 2 rfl)) fun a H => ?_
   refine H.v 22 (.bool (x.frames == y.frames)) fun a H => ?_
   refine H.v 23 (.bool (x.frames == y.frames)) fun a H => ?_
   refine H.v 24 (.bool (x.frames == y.frames)) fun a H => ?_
   refine H.split 24 rfl (fun g24 H => ?_) (fun g24 H => ?_)
   ·have g24p := eq_of_beq g24
    refine H.v 25 (pt b_1 3) fun a H => ?_
    refine H.u 26 (ii x.earliest) (ex_l1 (HP.cell 1 rfl 3 rfl)) fun a H => ?_
    refine H.v 27 (pt b_3 3) fun a H => ?_
    refine H.u 28 (ii y.earliest) (ex_l1 (HP.cell 0 rfl 3 rfl)) fun a H => ?_
    refine H.v 29 (.bool (x.earliest == y.earliest)) fun a H => ?_
    refine H.v 30 (.bool (x.earliest == y.earliest)) fun a H => ?_
    refine H.v 31 (.bool (x.earliest == y.earliest)) fun a H => ?_
    refine H.split 31 rfl (fun g31 H => ?_) (fun g31 H => ?_)
    ·have g31p := eq_of_beq g31
     refine H.v 32 (pt b_1 4) fun a H => ?_
     refine H.u 33 (ii x.latest) (ex_l1 (HP.cell 1 rfl 4 rfl)) fun a H => ?_
     refine H.v 34 (pt b_3 4) fun a H => ?_
     refine H.u 35 (ii y.latest) (ex_l1 (HP.cell 0 rfl 4 rfl)) fun a H => ?_
     refine H.v 36 (.bool (x.latest == y.latest)) fun a H => ?_
     refine H.v 37 (.bool (x.latest == y.latest)) fun a H => ?_
     refine H.v 38 (.bool (x.latest == y.latest)) fun a H => ?_
     refine H.split 38 rfl (fun g38 H => ?_) (fun g38 H => ?_)
     ·have g38p := eq_of_beq g38
      refine H.v 39 (pt b_1 5) fun a H => ?_
      refine H.u 40 (ii x.booking) (ex_l1 (HP.cell 1 rfl 5 rfl)) fun a H => ?_
      refine H.v 41 (pt b_3 5) fun a H => ?_
      refine H.u 42 (ii y.booking) (ex_l1 (HP.cell 0 rfl 5 rfl)) fun a H => ?_
      refine H.v 43 (.bool (x.booking == y.booking)) fun a H => ?_
      refine H.v 44 (.bool (x.booking == y.booking)) fun a H => ?_
      refine H.v 45 (.bool (x.booking == y.booking)) fun a H => ?_
      refine H.split 45 rfl (fun g45 H => ?_) (fun g45 H => ?_)
      ·have g45p := eq_of_beq g45
       refine H.v 46 (pt b_1 6) fun a H => ?_
       refine H.u 47 (.slice x.A x.al.length x.c) (ex_l1 (HP.cell 1 rfl 6 rfl)) fun a H => ?_
       refine H.v 48 (pt b_3 6) fun a H => ?_
       refine H.u 49 (.slice y.A y.al.length y.c) (ex_l1 (HP.cell 0 rfl 6 rfl)) fun a H => ?_
       refine H.call 50 (by kernel_rfl) (Eq.trans (by kernel_rfl : _ = (callFunc 80 #[(.slice x.A x.al.length x.c), (.slice y.A y.al.length y.c)]).run Tryz.prog w_4) (Tryz.call80 _ _)) (eqA_any x.A y.A x.c y.c x.al y.al w_4 (hx.1.below HP.bl) (hy.1.below HP.bl) hx.2 hy.2) ?_
       rintro e w_5 ⟨rfl, hb⟩
       refine ⟨_, rfl, ?_⟩
       intro a H
       have HP := HP.next hb
       refine H.v 51 (.bool (decide (x.al = y.al))) fun a H => ?_
       refine H.v 4 (.bool (decide (x.al = y.al))) fun a H => ?_
       refine wpList_nil (then_normal (wp_ret ?_))
       refine H.ret1 (fn := Tryz.f45) Tryz.results45 (RV.tmp_ (v := (.bool (decide (x.al = y.al)))) (by kernel_rfl)) ?_
       exact ⟨by rw [show decide (x.nv = y.nv) = (decide (x.al = y.al)) from by rw [ent_eqb]; simp [g10, g17, g24, g31, g38, g45]], HP.bl⟩
      ·have g45p := ne_of_beq_false g45
       iterate 5 refine H.sx rfl fun a H => ?_
       refine H.v 51 (.bool false) fun a H => ?_
       refine H.v 4 (.bool false) fun a H => ?_
       refine wpList_nil (then_normal (wp_ret ?_))
       refine H.ret1 (fn := Tryz.f45) Tryz.results45 (RV.tmp_ (v := (.bool false)) (by kernel_rfl)) ?_
       exact ⟨by rw [show decide (x.nv = y.nv) = (false) from by rw [ent_eqb]; simp [g10, g17, g24, g31, g38, g45]], HP.bl⟩
     ·have g38p := ne_of_beq_false g38
      iterate 5 refine H.sx rfl fun a H => ?_
      refine H.v 44 (.bool false) fun a H => ?_
      refine H.v 45 (.bool false) fun a H => ?_
      iterate 5 refine H.sx rfl fun a H => ?_
      refine H.v 51 (.bool false) fun a H => ?_
      refine H.v 4 (.bool false) fun a H => ?_
      refine wpList_nil (then_normal (wp_ret ?_))
      refine H.ret1 (fn := Tryz.f45) Tryz.results45 (RV.tmp_ (v := (.bool false)) (by kernel_rfl)) ?_
      exact ⟨by rw [show decide (x.nv = y.nv) = (false) from by rw [ent_eqb]; simp [g10, g17, g24, g31, g38]], HP.bl⟩
    ·have g31p := ne_of_beq_false g31
     iterate 5 refine H.sx rfl fun a H => ?_
     refine H.v 37 (.bool false) fun a H => ?_
     refine H.v 38 (.bool false) fun a H => ?_
     iterate 5 refine H.sx rfl fun a H => ?_
     refine H.v 44 (.bool false) fun a H => ?_
     refine H.v 45 (.bool false) fun a H => ?_
     iterate 5 refine H.sx rfl fun a H => ?_
     refine H.v 51 (.bool false) fun a H => ?_
     refine H.v 4 (.bool false) fun a H => ?_
     refine wpList_nil (then_normal (wp_ret ?_))
     refine H.ret1 (fn := Tryz.f45) Tryz.results45 (RV.tmp_ (v := (.bool false)) (by kernel_rfl)) ?_
     exact ⟨by rw [show decide (x.nv = y.nv) = (false) from by rw [ent_eqb]; simp [g10, g17, g24, g31]], HP.bl⟩
   ·have g24p := ne_of_beq_false g24
    iterate 5 refine H.sx rfl fun a H => ?_
    refine H.v 30 (.bool false) fun a H => ?_
    refine H.v 31 (.bool false) fun a H => ?_
    iterate 5 refine H.sx rfl fun a H => ?_
    refine H.v 37 (.bool false) fun a H => ?_
    refine H.v 38 (.bool false) fun a H => ?_
    iterate 5 refine H.sx rfl fun a H => ?_
    refine H.v 44 (.bool false) fun a H => ?_
    refine H.v 45 (.bool false) fun a H => ?_
    iterate 5 refine H.sx rfl fun a H => ?_
    refine H.v 51 (.bool false) fun a H => ?_
    refine H.v 4 (.bool false) fun a H => ?_
    refine wpList_nil (then_normal (wp_ret ?_))
    refine H.ret1 (fn := Tryz.f45) Tryz.results45 (RV.tmp_ (v := (.bool false)) (by kernel_rfl)) ?_
    exact ⟨by rw [show decide (x.nv = y.nv) = (false) from by rw [ent_eqb]; simp [g10, g17, g24]], HP.bl⟩
  ·have g17p := ne_of_beq_false g17
   iterate 5 refine H.sx rfl fun a H => ?_
   refine H.v 23 (.bool false) fun a H => ?_
   refine H.v 24 (.bool false) fun a H => ?_
   iterate 5 refine H.sx rfl fun a H => ?_
   refine H.v 30 (.bool false) fun a H => ?_
   refine H.v 31 (.bool false) fun a H => ?_
   iterate 5 refine H.sx rfl fun a H => ?_
   refine H.v 37 (.bool false) fun a H => ?_
   refine H.v 38 (.bool false) fun a H => ?_
   iterate 5 refine H.sx rfl fun a H => ?_
   refine H.v 44 (.bool false) fun a H => ?_
   refine H.v 45 (.bool false) fun a H => ?_
   iterate 5 refine H.sx rfl fun a H => ?_
   refine H.v 51 (.bool false) fun a H => ?_
   refine H.v 4 (.bool false) fun a H => ?_
   refine wpList_nil (then_normal (wp_ret ?_))
   refine H.ret1 (fn := Tryz.f45) Tryz.results45 (RV.tmp_ (v := (.bool false)) (by kernel_rfl)) ?_
   exact ⟨by rw [show decide (x.nv = y.nv) = (false) from by rw [ent_eqb]; simp [g10, g17]], HP.bl⟩
 ·have g10p := ne_of_beq_false g10
  iterate 5 refine H.sx rfl fun a H => ?_
  refine H.v 16 (.bool false) fun a H => ?_
  refine H.v 17 (.bool false) fun a H => ?_
  iterate 5 refine H.sx rfl fun a H => ?_
  refine H.v 23 (.bool false) fun a H => ?_
  refine H.v 24 (.bool false) fun a H => ?_
  iterate 5 refine H.sx rfl fun a H => ?_
  refine H.v 30 (.bool false) fun a H => ?_
  refine H.v 31 (.bool false) fun a H => ?_
  iterate 5 refine H.sx rfl fun a H => ?_
  refine H.v 37 (.bool false) fun a H => ?_
  refine H.v 38 (.bool false) fun a H => ?_
  iterate 5 refine H.sx rfl fun a H => ?_
  refine H.v 44 (.bool false) fun a H => ?_
  refine H.v 45 (.bool false) fun a H => ?_
  iterate 5 refine H.sx rfl fun a H => ?_
  refine H.v 51 (.bool false) fun a H => ?_
  refine H.v 4 (.bool false) fun a H => ?_
  refine wpList_nil (then_normal (wp_ret ?_))
  refine H.ret1 (fn := Tryz.f45) Tryz.results45 (RV.tmp_ (v := (.bool false)) (by kernel_rfl)) ?_
  exact ⟨by rw [show decide (x.nv = y.nv) = (false) from by rw [ent_eqb]; simp [g10]], HP.bl⟩
set_option maxRecDepth 100000 in
set_option maxHeartbeats 4000000 in
theorem rsameE_any (x y : Ent) (w : World) (hx : x.ok w) (hy : y.ok w) : Calls Tryz.prog 24 #[(enV x), (enV y)] w fun e w' => e = .returned (.bool (decide (x.nv = y.nv))) ∧ Below w.heap.size w w' := by
 have HP := Hp.start w
 refine w_enter 54 [(0, (enV x)), (1, (enV y))] Tryz.func24 rfl Tryz.ntmps24 (by kernel_rfl) (by kernel_rfl) fun a H => ?_
 refine wp_seq (w_region ?_)
 refine H.alloc HP 2 (fun b => (pt b 0)) 43 (enL x) (by kernel_rfl) (fun w => by kernel_rfl) fun b_1 w_2 a H HP => ?_
 refine H.alloc HP 3 (fun b => (pt b 0)) 43 (enL y) (by kernel_rfl) (fun w => by kernel_rfl) fun b_3 w_4 a H HP => ?_
 refine H.v 4 (.bool false) fun a H => ?_
 refine wpList_nil (then_normal (wp_seq (w_region ?_)))
 refine H.v 6 (pt b_1 6) fun a H => ?_
 refine H.u 7 (.slice x.A x.al.length x.c) (ex_l1 (HP.cell 1 rfl 6 rfl)) fun a H => ?_
 refine H.v 8 (pt b_3 6) fun a H => ?_
 refine H.u 9 (.slice y.A y.al.length y.c) (ex_l1 (HP.cell 0 rfl 6 rfl)) fun a H => ?_
 refine H.call 10 (by kernel_rfl) (Eq.trans (by kernel_rfl : _ = (callFunc 55 #[(.slice x.A x.al.length x.c), (.slice y.A y.al.length y.c)]).run Tryz.prog w_4) (Tryz.call55 _ _)) (rsameA_any x.A y.A x.c y.c x.al y.al w_4 (hx.1.below HP.bl) (hy.1.below HP.bl) hx.2 hy.2) ?_
 rintro e w_5 ⟨rfl, hb⟩
 refine ⟨_, rfl, ?_⟩
 intro a H
 have HP := HP.next hb
 refine H.v 5 (.bool (decide (x.al = y.al))) fun a H => ?_
 refine wpList_nil (then_normal (wp_seq (w_region ?_)))
 refine H.v 11 (.bool (decide (x.al = y.al))) fun a H => ?_
 refine H.v 12 (.bool (decide (x.al = y.al))) fun a H => ?_
 refine H.split 12 rfl (fun g12 H => ?_) (fun g12 H => ?_)
 ·have g12p := g12
  refine H.v 13 (pt b_1 0) fun a H => ?_
  refine H.u 14 (ii x.id) (ex_l1 (HP.cell 1 rfl 0 rfl)) fun a H => ?_
  refine H.v 15 (pt b_3 0) fun a H => ?_
  refine H.u 16 (ii y.id) (ex_l1 (HP.cell 0 rfl 0 rfl)) fun a H => ?_
  refine H.v 17 (.bool (x.id == y.id)) fun a H => ?_
  refine H.v 18 (.bool (x.id == y.id)) fun a H => ?_
  refine H.v 19 (.bool (x.id == y.id)) fun a H => ?_
  refine H.split 19 rfl (fun g19 H => ?_) (fun g19 H => ?_)
  ·have g19p := eq_of_beq g19
   refine H.v 20 (pt b_1 1) fun a H => ?_
   refine H.u 21 (ii x.item) (ex_l1 (HP.cell 1 rfl 1 rfl)) fun a H => ?_
   refine H.v 22 (pt b_3 1) fun a H => ?_
   refine H.u 23 (ii y.item) (ex_l1 (HP.cell 0 rfl 1 rfl)) fun a H => ?_
   refine H.v 24 (.bool (x.item == y.item)) fun a H => ?_
   refine H.v 25 (.bool (x.item == y.item)) fun a H => ?_
   refine H.v 26 (.bool (x.item == y.item)) fun a H => ?_
   refine H.split 26 rfl (fun g26 H => ?_) (fun g26 H => ?_)
   ·have g26p := eq_of_beq g26
    refine H.v 27 (pt b_1 2) fun a H => ?_
    refine H.u 28 (ii x.frames) (ex_l1 (HP.cell 1 rfl 2 rfl)) fun a H => ?_
    refine H.v 29 (pt b_3 2) fun a H => ?_
    refine H.u 30 (ii y.frames) (ex_l1 (HP.cell 0 rfl 2 rfl)) fun a H => ?_
    refine H.v 31 (.bool (x.frames == y.frames)) fun a H => ?_
    refine H.v 32 (.bool (x.frames == y.frames)) fun a H => ?_
    refine H.v 33 (.bool (x.frames == y.frames)) fun a H => ?_
    refine H.split 33 rfl (fun g33 H => ?_) (fun g33 H => ?_)
    ·have g33p := eq_of_beq g33
     refine H.v 34 (pt b_1 3) fun a H => ?_
     refine H.u 35 (ii x.earliest) (ex_l1 (HP.cell 1 rfl 3 rfl)) fun a H => ?_
     refine H.v 36 (pt b_3 3) fun a H => ?_
     refine H.u 37 (ii y.earliest) (ex_l1 (HP.cell 0 rfl 3 rfl)) fun a H => ?_
     refine H.v 38 (.bool (x.earliest == y.earliest)) fun a H => ?_
     refine H.v 39 (.bool (x.earliest == y.earliest)) fun a H => ?_
     refine H.v 40 (.bool (x.earliest == y.earliest)) fun a H => ?_
     refine H.split 40 rfl (fun g40 H => ?_) (fun g40 H => ?_)
     ·have g40p := eq_of_beq g40
      refine H.v 41 (pt b_1 4) fun a H => ?_
      refine H.u 42 (ii x.latest) (ex_l1 (HP.cell 1 rfl 4 rfl)) fun a H => ?_
      refine H.v 43 (pt b_3 4) fun a H => ?_
      refine H.u 44 (ii y.latest) (ex_l1 (HP.cell 0 rfl 4 rfl)) fun a H => ?_
      refine H.v 45 (.bool (x.latest == y.latest)) fun a H => ?_
      refine H.v 46 (.bool (x.latest == y.latest)) fun a H => ?_
      refine H.v 47 (.bool (x.latest == y.latest)) fun a H => ?_
      refine H.split 47 rfl (fun g47 H => ?_) (fun g47 H => ?_)
      ·have g47p := eq_of_beq g47
       refine H.v 48 (pt b_1 5) fun a H => ?_
       refine H.u 49 (ii x.booking) (ex_l1 (HP.cell 1 rfl 5 rfl)) fun a H => ?_
       refine H.v 50 (pt b_3 5) fun a H => ?_
       refine H.u 51 (ii y.booking) (ex_l1 (HP.cell 0 rfl 5 rfl)) fun a H => ?_
       refine H.v 52 (.bool (x.booking == y.booking)) fun a H => ?_
       refine H.v 53 (.bool (x.booking == y.booking)) fun a H => ?_
       refine H.v 4 (.bool (x.booking == y.booking)) fun a H => ?_
       refine wpList_nil (then_normal (wp_ret ?_))
       refine H.ret1 (fn := Tryz.f24) Tryz.results24 (RV.tmp_ (v := (.bool (x.booking == y.booking))) (by kernel_rfl)) ?_
       exact ⟨by rw [show decide (x.nv = y.nv) = (x.booking == y.booking) from by rw [ent_eqb]; simp [g12, g19, g26, g33, g40, g47]], HP.bl⟩
      ·have g47p := ne_of_beq_false g47
       iterate 5 refine H.sx rfl fun a H => ?_
       refine H.v 53 (.bool false) fun a H => ?_
       refine H.v 4 (.bool false) fun a H => ?_
       refine wpList_nil (then_normal (wp_ret ?_))
       refine H.ret1 (fn := Tryz.f24) Tryz.results24 (RV.tmp_ (v := (.bool false)) (by kernel_rfl)) ?_
       exact ⟨by rw [show decide (x.nv = y.nv) = (false) from by rw [ent_eqb]; simp [g12, g19, g26, g33, g40, g47]], HP.bl⟩
     ·have g40p := ne_of_beq_false g40
      iterate 5 refine H.sx rfl fun a H => ?_
      refine H.v 46 (.bool false) fun a H => ?_
      refine H.v 47 (.bool false) fun a H => ?_
      iterate 5 refine H.sx rfl fun a H => ?_
      refine H.v 53 (.bool false) fun a H => ?_
      refine H.v 4 (.bool false) fun a H => ?_
      refine wpList_nil (then_normal (wp_ret ?_))
      refine H.ret1 (fn := Tryz.f24) Tryz.results24 (RV.tmp_ (v := (.bool false)) (by kernel_rfl)) ?_
      exact ⟨by rw [show decide (x.nv = y.nv) = (false) from by rw [ent_eqb]; simp [g12, g19, g26, g33, g40]], HP.bl⟩
    ·have g33p := ne_of_beq_false g33
     iterate 5 refine H.sx rfl fun a H => ?_
     refine H.v 39 (.bool false) fun a H => ?_
     refine H.v 40 (.bool false) fun a H => ?_
     iterate 5 refine H.sx rfl fun a H => ?_
     refine H.v 46 (.bool false) fun a H => ?_
     refine H.v 47 (.bool false) fun a H => ?_
     iterate 5 refine H.sx rfl fun a H => ?_
     refine H.v 53 (.bool false) fun a H => ?_
     refine H.v 4 (.bool false) fun a H => ?_
     refine wpList_nil (then_normal (wp_ret ?_))
     refine H.ret1 (fn := Tryz.f24) Tryz.results24 (RV.tmp_ (v := (.bool false)) (by kernel_rfl)) ?_
     exact ⟨by rw [show decide (x.nv = y.nv) = (false) from by rw [ent_eqb]; simp [g12, g19, g26, g33]], HP.bl⟩
   ·have g26p := ne_of_beq_false g26
    iterate 5 refine H.sx rfl fun a H => ?_
    refine H.v 32 (.bool false) fun a H => ?_
    refine H.v 33 (.bool false) fun a H => ?_
    iterate 5 refine H.sx rfl fun a H => ?_
    refine H.v 39 (.bool false) fun a H => ?_
    refine H.v 40 (.bool false) fun a H => ?_
    iterate 5 refine H.sx rfl fun a H => ?_
    refine H.v 46 (.bool false) fun a H => ?_
    refine H.v 47 (.bool false) fun a H => ?_
    iterate 5 refine H.sx rfl fun a H => ?_
    refine H.v 53 (.bool false) fun a H => ?_
    refine H.v 4 (.bool false) fun a H => ?_
    refine wpList_nil (then_normal (wp_ret ?_))
    refine H.ret1 (fn := Tryz.f24) Tryz.results24 (RV.tmp_ (v := (.bool false)) (by kernel_rfl)) ?_
    exact ⟨by rw [show decide (x.nv = y.nv) = (false) from by rw [ent_eqb]; simp [g12, g19, g26]], HP.bl⟩
  ·have g19p := ne_of_beq_false g19
   iterate 5 refine H.sx rfl fun a H => ?_
   refine H.v 25 (.bool false) fun a H => ?_
   refine H.v 26 (.bool false) fun a H => ?_
   iterate 5 refine H.sx rfl fun a H => ?_
   refine H.v 32 (.bool false) fun a H => ?_
   refine H.v 33 (.bool false) fun a H => ?_
   iterate 5 refine H.sx rfl fun a H => ?_
   refine H.v 39 (.bool false) fun a H => ?_
   refine H.v 40 (.bool false) fun a H => ?_
   iterate 5 refine H.sx rfl fun a H => ?_
   refine H.v 46 (.bool false) fun a H => ?_
   refine H.v 47 (.bool false) fun a H => ?_
   iterate 5 refine H.sx rfl fun a H => ?_
   refine H.v 53 (.bool false) fun a H => ?_
   refine H.v 4 (.bool false) fun a H => ?_
   refine wpList_nil (then_normal (wp_ret ?_))
   refine H.ret1 (fn := Tryz.f24) Tryz.results24 (RV.tmp_ (v := (.bool false)) (by kernel_rfl)) ?_
   exact ⟨by rw [show decide (x.nv = y.nv) = (false) from by rw [ent_eqb]; simp [g12, g19]], HP.bl⟩
 ·have g12p := g12
  iterate 5 refine H.sx rfl fun a H => ?_
  refine H.v 18 (.bool false) fun a H => ?_
  refine H.v 19 (.bool false) fun a H => ?_
  iterate 5 refine H.sx rfl fun a H => ?_
  refine H.v 25 (.bool false) fun a H => ?_
  refine H.v 26 (.bool false) fun a H => ?_
  iterate 5 refine H.sx rfl fun a H => ?_
  refine H.v 32 (.bool false) fun a H => ?_
  refine H.v 33 (.bool false) fun a H => ?_
  iterate 5 refine H.sx rfl fun a H => ?_
  refine H.v 39 (.bool false) fun a H => ?_
  refine H.v 40 (.bool false) fun a H => ?_
  iterate 5 refine H.sx rfl fun a H => ?_
  refine H.v 46 (.bool false) fun a H => ?_
  refine H.v 47 (.bool false) fun a H => ?_
  iterate 5 refine H.sx rfl fun a H => ?_
  refine H.v 53 (.bool false) fun a H => ?_
  refine H.v 4 (.bool false) fun a H => ?_
  refine wpList_nil (then_normal (wp_ret ?_))
  refine H.ret1 (fn := Tryz.f24) Tryz.results24 (RV.tmp_ (v := (.bool false)) (by kernel_rfl)) ?_
  exact ⟨by rw [show decide (x.nv = y.nv) = (false) from by rw [ent_eqb]; simp [g12]], HP.bl⟩
set_option maxRecDepth 100000 in
set_option maxHeartbeats 4000000 in
theorem eqF_any (A B : Option Addr) (c d : Nat) (l m : List Ent) (w : World) (hr : IsEn w A l) (hs : IsEn w B m) (hl : l.length ≤ maxLen) (hm : m.length ≤ maxLen) : Calls Tryz.prog 44 #[.slice A l.length c, .slice B m.length d, .func (.func 45) #[] #[]] w fun e w' => e = .returned (.bool (decide (l.map Ent.nv = m.map Ent.nv))) ∧ Below w.heap.size w w' := by
 unfold maxLen at hl hm
 have HP := Hp.start w
 refine w_enter 32 [(0, (.slice A l.length c)), (1, (.slice B m.length d)), (2, (.func (.func 45) #[] #[]))] Tryz.func44 rfl Tryz.ntmps44 (by kernel_rfl) (by kernel_rfl) fun a H => ?_
 refine wp_seq (w_region ?_)
 refine H.v 6 (.bool false) fun a H => ?_
 refine wpList_nil (then_normal (wp_seq (wp_seq (w_region ?_))))
 refine H.v 10 (.slice A l.length c) fun a H => ?_
 refine H.v 11 (ii l.length) fun a H => ?_
 refine H.v 12 (.slice B m.length d) fun a H => ?_
 refine H.v 13 (ii m.length) fun a H => ?_
 refine H.v 14 (.bool ((l.length : Int) != (m.length : Int))) fun a H => ?_
 refine wpList_nil (then_normal ?_)
 refine w_if H rfl (fun g14 => ?_) (fun g14 => ?_)
 ·have g14p := bne_iff_ne.1 g14
  refine wp_seq (w_region ?_)
  refine H.v 6 (.bool false) fun a H => ?_
  refine wpList_nil (then_normal (wp_ret (then_ret ?_)))
  refine H.ret1 (fn := Tryz.f44) Tryz.results44 (RV.tmp_ (v := (.bool false)) (by kernel_rfl)) ?_
  exact ⟨by rw [decide_eq_false (fun e => by have := congrArg List.length e; rw [List.length_map, List.length_map] at this; omega)], HP.bl⟩
 ·have g14p := eq_of_bne_false g14
  refine wp_skip (then_normal (wp_seq (wp_seq (w_region ?_))))
  refine H.v 15 (.slice A l.length c) fun a H => ?_
  refine H.v 16 (ii l.length) fun a H => ?_
  refine H.v 17 (ii 0) fun a H => ?_
  refine wpList_nil (then_normal (wp_block ?_))
  refine w_loop (fun mm a wv => ∃ (i : Nat), l.length - i = mm ∧ Sl 32 [(17, (ii i)), (16, (ii l.length)), (15, (.slice A l.length c)), (14, (.bool ((l.length : Int) != (m.length : Int)))), (13, (ii m.length)), (12, (.slice B m.length d)), (11, (ii l.length)), (10, (.slice A l.length c)), (0, (.slice A l.length c)), (1, (.slice B m.length d)), (2, (.func (.func 45) #[] #[]))] a ∧ Hp w wv [] [] ∧ (i ≤ l.length) ∧ ((l.map Ent.nv).take i = (m.map Ent.nv).take i)) (l.length - 0) ?_ ?_
  ·exact ⟨0, (by omega), H.keep (by kernel_rfl), HP, (Nat.zero_le _), rfl⟩
  rintro mm a w_1 ⟨i, hmeas, H, HP, hib, hrel⟩
  refine wp_seq (w_region ?_)
  refine H.v 18 (.bool (decide ((i : Int) < (l.length : Int)))) fun a H => ?_
  refine wpList_nil (then_normal (wp_seq ?_))
  refine w_if H rfl (fun g18 => ?_) (fun g18 => ?_)
  ·have g18p := of_decide_eq_true g18
   refine wp_skip (then_normal (wp_seq (wp_block (wp_seq ?_))))
   obtain ⟨bu_3, ou_4, x_2, hA_5, _, hd_7, hx_6, hm_8, _⟩ := IsRow.get enC_size (hr.below HP.bl).row (i := i) (by omega)
   refine w_region ?_
   refine H.v 19 (ii i) fun a H => ?_
   refine H.u 20 (.pointer (some ⟨bu_3, ou_4 + i * 7, none⟩)) (ex_indexA (b := bu_3) (off := ou_4) (len := l.length) (cap := c) (e := 43) (k := 7) (ik := .i64) (i := (i : Int)) (m := i) hA_5 (by kernel_rfl) (by kernel_rfl) (by omega) (by omega) (by kernel_rfl) (by kernel_rfl)) fun a H => ?_
   refine H.u 21 (enV x_2) (ex_loadN (b := bu_3) (off := ou_4 + i * 7) (vs := (enL x_2)) (by kernel_rfl) (by kernel_rfl) (by kernel_rfl) rfl (IsRow.cells enC_size (hr.below HP.bl).row hA_5 hx_6)) fun a H => ?_
   refine H.alloc HP 8 (fun b => (pt b 0)) 43 [(ii 0), (ii 0), (ii 0), (ii 0), (ii 0), (ii 0), (.slice none 0 0)] (by kernel_rfl) (fun w => by kernel_rfl) fun b_9 w_10 a H HP => ?_
   refine H.v 7 (ii i) fun a H => ?_
   refine H.store HP 0 b_9 0 7 43 _ true (enV x_2) [bx b_9 43 (enL x_2) true] (by kernel_rfl) (by kernel_rfl) (by kernel_rfl) rfl (by kernel_rfl) (by kernel_rfl) (by kernel_rfl) (by kernel_rfl) (by kernel_rfl) fun w_11 a H HP => ?_
   refine wpList_nil (then_normal (wp_seq ?_))
   obtain ⟨bu_13, ou_14, x_12, hA_15, _, hd_17, hx_16, hm_18, _⟩ := IsRow.get enC_size (hs.below HP.bl).row (i := i) (by omega)
   refine w_region ?_
   refine H.v 22 (.slice B m.length d) fun a H => ?_
   refine H.v 23 (ii i) fun a H => ?_
   refine H.u 24 (.pointer (some ⟨bu_13, ou_14 + i * 7, none⟩)) (ex_indexA (b := bu_13) (off := ou_14) (len := m.length) (cap := d) (e := 43) (k := 7) (ik := .i64) (i := (i : Int)) (m := i) hA_15 (by kernel_rfl) (by kernel_rfl) (by omega) (by omega) (by kernel_rfl) (by kernel_rfl)) fun a H => ?_
   refine H.u 25 (enV x_12) (ex_loadN (b := bu_13) (off := ou_14 + i * 7) (vs := (enL x_12)) (by kernel_rfl) (by kernel_rfl) (by kernel_rfl) rfl (IsRow.cells enC_size (hs.below HP.bl).row hA_15 hx_16)) fun a H => ?_
   refine H.alloc HP 9 (fun b => (pt b 0)) 43 [(ii 0), (ii 0), (ii 0), (ii 0), (ii 0), (ii 0), (.slice none 0 0)] (by kernel_rfl) (fun w => by kernel_rfl) fun b_19 w_20 a H HP => ?_
   refine H.store HP 0 b_19 0 7 43 _ true (enV x_12) [bx b_19 43 (enL x_12) true, bx b_9 43 (enL x_2) true] (by kernel_rfl) (by kernel_rfl) (by kernel_rfl) rfl (by kernel_rfl) (by kernel_rfl) (by kernel_rfl) (by kernel_rfl) (by kernel_rfl) fun w_21 a H HP => ?_
   refine wpList_nil (then_normal (wp_seq (w_region ?_)))
   refine H.v 26 (.func (.func 45) #[] #[]) fun a H => ?_
   refine H.u 27 (enV x_2) (ex_loadN (vs := (enL x_2)) (by kernel_rfl) (by kernel_rfl) (by kernel_rfl) rfl (HP.cells 1 rfl 0 7 (by kernel_rfl))) fun a H => ?_
   refine H.u 28 (enV x_12) (ex_loadN (vs := (enL x_12)) (by kernel_rfl) (by kernel_rfl) (by kernel_rfl) rfl (HP.cells 0 rfl 0 7 (by kernel_rfl))) fun a H => ?_
   refine H.call 29 (by kernel_rfl) (Eq.trans (by kernel_rfl : _ = (callFunc 45 #[(enV x_2), (enV x_12)]).run Tryz.prog w_21) (Tryz.call45 _ _)) (sameE_any x_2 x_12 w_21 ((hr.below HP.bl).ok _ hm_8) ((hs.below HP.bl).ok _ hm_18)) ?_
   rintro e w_22 ⟨rfl, hb⟩
   refine ⟨_, rfl, ?_⟩
   intro a H
   have HP := HP.next hb
   refine H.v 30 (.bool (!(decide (x_2.nv = x_12.nv)))) fun a H => ?_
   refine wpList_nil (then_normal ?_)
   refine w_if H rfl (fun g30 => ?_) (fun g30 => ?_)
   ·have g30p := not_is_true g30
    refine wp_seq (w_region ?_)
    refine H.v 6 (.bool false) fun a H => ?_
    refine wpList_nil (then_normal (wp_ret (inb_ret (then_ret (then_ret (inb_ret (then_ret ?_)))))))
    refine H.ret1 (fn := Tryz.f44) Tryz.results44 (RV.tmp_ (v := (.bool false)) (by kernel_rfl)) ?_
    exact ⟨by rw [decide_eq_false (ne_at (map_at hx_6) (map_at hx_16) (of_decide_eq_false g30p))], HP.bl⟩
   ·have g30p := not_is_false g30
    refine wp_skip (inb_normal (then_normal (w_region ?_)))
    refine H.valE 31 (ii (IntKind.i64.wrap ((i : Int) + 1))) (ii ((i : Int) + 1)) (by kernel_rfl) (by kernel_rfl) ((by rw [wrap_ini64 _ (by omega)])) fun a H => ?_
    refine H.v 17 (ii ((i : Int) + 1)) fun a H => ?_
    refine wpList_nil (then_normal ?_)
    have H := H.as 17 (ii ((i + 1 : Nat) : Int)) rfl rfl
    refine ⟨_, ?_, i + 1, rfl, H.keep (by kernel_rfl), ((HP.tail rfl).tail rfl), (by omega), (take_eq_snoc hrel (map_at hx_6) (map_at hx_16) (of_decide_eq_true g30p))⟩
    omega
  ·have g18p := of_decide_eq_false g18
   refine wp_exit (then_exit (then_exit ?_))
   refine w_exit_here ?_
   refine then_normal (wp_seq (w_region ?_))
   refine H.v 6 (.bool true) fun a H => ?_
   refine wpList_nil (then_normal (wp_ret ?_))
   refine H.ret1 (fn := Tryz.f44) Tryz.results44 (RV.tmp_ (v := (.bool true)) (by kernel_rfl)) ?_
   exact ⟨by rw [decide_eq_true (take_all hrel (by rw [List.length_map]; omega) (by rw [List.length_map, List.length_map]; omega))], HP.bl⟩
set_option maxRecDepth 100000 in
set_option maxHeartbeats 4000000 in
theorem same_any (p q : Pln) (w : World) (hp : IsPln w p) (hq : IsPln w q) : Calls Tryz.prog 16 #[(plV p), (plV q)] w fun e w' => e = .returned (.bool (decide (p.nv = q.nv))) ∧ Below w.heap.size w w' := by
 have HP := Hp.start w
 refine w_enter 91 [(0, (plV p)), (1, (plV q))] Tryz.func16 rfl Tryz.ntmps16 (by kernel_rfl) (by kernel_rfl) fun a H => ?_
 refine wp_seq (w_region ?_)
 refine H.alloc HP 2 (fun b => (pt b 0)) 32 (plL p) (by kernel_rfl) (fun w => by kernel_rfl) fun b_1 w_2 a H HP => ?_
 refine H.alloc HP 3 (fun b => (pt b 0)) 32 (plL q) (by kernel_rfl) (fun w => by kernel_rfl) fun b_3 w_4 a H HP => ?_
 refine H.v 4 (.bool false) fun a H => ?_
 refine wpList_nil (then_normal (wp_seq (w_region ?_)))
 refine H.v 5 (pt b_1 0) fun a H => ?_
 refine H.u 6 (ii p.channel) (ex_l1 (HP.cell 1 rfl 0 rfl)) fun a H => ?_
 refine H.v 7 (pt b_3 0) fun a H => ?_
 refine H.u 8 (ii q.channel) (ex_l1 (HP.cell 0 rfl 0 rfl)) fun a H => ?_
 refine H.v 9 (.bool (p.channel == q.channel)) fun a H => ?_
 refine H.v 10 (.bool (p.channel == q.channel)) fun a H => ?_
 refine H.split 10 rfl (fun g10 H => ?_) (fun g10 H => ?_)
 ·have g10p := eq_of_beq g10
  refine H.v 11 (pt b_1 1) fun a H => ?_
  refine H.u 12 (.agg #[(ii p.num), (ii p.den)]) (ex_loadN (vs := [(ii p.num), (ii p.den)]) (by kernel_rfl) (by kernel_rfl) (by kernel_rfl) rfl (HP.cells 1 rfl 1 2 (by kernel_rfl))) fun a H => ?_
  refine H.v 13 (pt b_3 1) fun a H => ?_
  refine H.u 14 (.agg #[(ii q.num), (ii q.den)]) (ex_loadN (vs := [(ii q.num), (ii q.den)]) (by kernel_rfl) (by kernel_rfl) (by kernel_rfl) rfl (HP.cells 0 rfl 1 2 (by kernel_rfl))) fun a H => ?_
  refine H.u 15 (.bool (([p.num, p.den] : List Int) == [q.num, q.den])) (ex_eqL (a := [p.num, p.den]) (b := [q.num, q.den]) (by kernel_rfl) (by kernel_rfl) (by kernel_rfl) rfl) fun a H => ?_
  refine H.v 16 (.bool (([p.num, p.den] : List Int) == [q.num, q.den])) fun a H => ?_
  refine H.v 17 (.bool (([p.num, p.den] : List Int) == [q.num, q.den])) fun a H => ?_
  refine H.split 17 rfl (fun g17 H => ?_) (fun g17 H => ?_)
  ·have g17p := eq_of_beq g17
   refine H.v 18 (pt b_1 3) fun a H => ?_
   refine H.v 19 (pt b_1 3) fun a H => ?_
   refine H.u 20 (ii p.offset) (ex_l1 (HP.cell 1 rfl 3 rfl)) fun a H => ?_
   refine H.v 21 (pt b_3 3) fun a H => ?_
   refine H.v 22 (pt b_3 3) fun a H => ?_
   refine H.u 23 (ii q.offset) (ex_l1 (HP.cell 0 rfl 3 rfl)) fun a H => ?_
   refine H.v 24 (.bool (p.offset == q.offset)) fun a H => ?_
   refine H.v 25 (.bool (p.offset == q.offset)) fun a H => ?_
   refine H.v 26 (.bool (p.offset == q.offset)) fun a H => ?_
   refine H.split 26 rfl (fun g26 H => ?_) (fun g26 H => ?_)
   ·have g26p := eq_of_beq g26
    refine H.v 27 (pt b_1 5) fun a H => ?_
    refine H.u 28 (ii p.epoch) (ex_l1 (HP.cell 1 rfl 5 rfl)) fun a H => ?_
    refine H.v 29 (pt b_3 5) fun a H => ?_
    refine H.u 30 (ii q.epoch) (ex_l1 (HP.cell 0 rfl 5 rfl)) fun a H => ?_
    refine H.v 31 (.bool (p.epoch == q.epoch)) fun a H => ?_
    refine H.v 32 (.bool (p.epoch == q.epoch)) fun a H => ?_
    refine H.v 33 (.bool (p.epoch == q.epoch)) fun a H => ?_
    refine H.split 33 rfl (fun g33 H => ?_) (fun g33 H => ?_)
    ·have g33p := eq_of_beq g33
     refine H.v 34 (pt b_1 6) fun a H => ?_
     refine H.u 35 (ii p.regions) (ex_l1 (HP.cell 1 rfl 6 rfl)) fun a H => ?_
     refine H.v 36 (pt b_3 6) fun a H => ?_
     refine H.u 37 (ii q.regions) (ex_l1 (HP.cell 0 rfl 6 rfl)) fun a H => ?_
     refine H.v 38 (.bool (p.regions == q.regions)) fun a H => ?_
     refine H.v 39 (.bool (p.regions == q.regions)) fun a H => ?_
     refine H.v 40 (.bool (p.regions == q.regions)) fun a H => ?_
     refine H.split 40 rfl (fun g40 H => ?_) (fun g40 H => ?_)
     ·have g40p := eq_of_beq g40
      refine H.v 41 (pt b_1 7) fun a H => ?_
      refine H.u 42 (ii p.length) (ex_l1 (HP.cell 1 rfl 7 rfl)) fun a H => ?_
      refine H.v 43 (pt b_3 7) fun a H => ?_
      refine H.u 44 (ii q.length) (ex_l1 (HP.cell 0 rfl 7 rfl)) fun a H => ?_
      refine H.v 45 (.bool (p.length == q.length)) fun a H => ?_
      refine H.v 46 (.bool (p.length == q.length)) fun a H => ?_
      refine H.v 47 (.bool (p.length == q.length)) fun a H => ?_
      refine H.split 47 rfl (fun g47 H => ?_) (fun g47 H => ?_)
      ·have g47p := eq_of_beq g47
       refine H.v 48 (pt b_1 8) fun a H => ?_
       refine H.u 49 (ii p.fill) (ex_l1 (HP.cell 1 rfl 8 rfl)) fun a H => ?_
       refine H.v 50 (pt b_3 8) fun a H => ?_
       refine H.u 51 (ii q.fill) (ex_l1 (HP.cell 0 rfl 8 rfl)) fun a H => ?_
       refine H.v 52 (.bool (p.fill == q.fill)) fun a H => ?_
       refine H.v 53 (.bool (p.fill == q.fill)) fun a H => ?_
       refine H.v 54 (.bool (p.fill == q.fill)) fun a H => ?_
       refine H.split 54 rfl (fun g54 H => ?_) (fun g54 H => ?_)
       ·have g54p := eq_of_beq g54
        refine H.v 55 (pt b_1 3) fun a H => ?_
        refine H.v 56 (pt b_1 4) fun a H => ?_
        refine H.u 57 (.slice p.SA p.sh.length p.sc) (ex_l1 (HP.cell 1 rfl 4 rfl)) fun a H => ?_
        refine H.v 58 (pt b_3 3) fun a H => ?_
        refine H.v 59 (pt b_3 4) fun a H => ?_
        refine H.u 60 (.slice q.SA q.sh.length q.sc) (ex_l1 (HP.cell 0 rfl 4 rfl)) fun a H => ?_
        refine H.call 61 (by kernel_rfl) (Eq.trans (by kernel_rfl : _ = (callFunc 42 #[(.slice p.SA p.sh.length p.sc), (.slice q.SA q.sh.length q.sc)]).run Tryz.prog w_4) (Tryz.call42 _ _)) (eqS_any p.SA q.SA p.sc q.sc p.sh q.sh w_4 (hp.sh.below HP.bl) (hq.sh.below HP.bl) hp.lsh hq.lsh) ?_
        rintro e w_5 ⟨rfl, hb⟩
        refine ⟨_, rfl, ?_⟩
        intro a H
        have HP := HP.next hb
        refine H.v 62 (.bool (decide (p.sh = q.sh))) fun a H => ?_
        refine H.v 63 (.bool (decide (p.sh = q.sh))) fun a H => ?_
        refine H.split 63 rfl (fun g63 H => ?_) (fun g63 H => ?_)
        ·have g63p := g63
         refine H.v 64 (pt b_1 9) fun a H => ?_
         refine H.u 65 (.slice p.IA p.its.length p.ic) (ex_l1 (HP.cell 1 rfl 9 rfl)) fun a H => ?_
         refine H.v 66 (pt b_3 9) fun a H => ?_
         refine H.u 67 (.slice q.IA q.its.length q.ic) (ex_l1 (HP.cell 0 rfl 9 rfl)) fun a H => ?_
         refine H.call 68 (by kernel_rfl) (Eq.trans (by kernel_rfl : _ = (callFunc 43 #[(.slice p.IA p.its.length p.ic), (.slice q.IA q.its.length q.ic)]).run Tryz.prog w_5) (Tryz.call43 _ _)) (eqI_any p.IA q.IA p.ic q.ic p.its q.its w_5 (hp.its.below HP.bl) (hq.its.below HP.bl) hp.lits hq.lits) ?_
         rintro e w_6 ⟨rfl, hb⟩
         refine ⟨_, rfl, ?_⟩
         intro a H
         have HP := HP.next hb
         refine H.v 69 (.bool (decide (p.its = q.its))) fun a H => ?_
         refine H.v 70 (.bool (decide (p.its = q.its))) fun a H => ?_
         refine H.split 70 rfl (fun g70 H => ?_) (fun g70 H => ?_)
         ·have g70p := g70
          refine H.v 71 (pt b_1 10) fun a H => ?_
          refine H.u 72 (.slice p.EA p.es.length p.ec) (ex_l1 (HP.cell 1 rfl 10 rfl)) fun a H => ?_
          refine H.v 73 (pt b_3 10) fun a H => ?_
          refine H.u 74 (.slice q.EA q.es.length q.ec) (ex_l1 (HP.cell 0 rfl 10 rfl)) fun a H => ?_
          refine H.call 75 (by kernel_rfl) (Eq.trans (by kernel_rfl : _ = (callFunc 44 #[(.slice p.EA p.es.length p.ec), (.slice q.EA q.es.length q.ec), (.func (.func 45) #[] #[])]).run Tryz.prog w_6) (Tryz.call44 _ _)) (eqF_any p.EA q.EA p.ec q.ec p.es q.es w_6 (hp.es.below HP.bl) (hq.es.below HP.bl) hp.les hq.les) ?_
          rintro e w_7 ⟨rfl, hb⟩
          refine ⟨_, rfl, ?_⟩
          intro a H
          have HP := HP.next hb
          refine H.v 76 (.bool (decide (p.es.map Ent.nv = q.es.map Ent.nv))) fun a H => ?_
          refine H.v 77 (.bool (decide (p.es.map Ent.nv = q.es.map Ent.nv))) fun a H => ?_
          refine H.split 77 rfl (fun g77 H => ?_) (fun g77 H => ?_)
          ·have g77p := g77
           refine H.v 78 (pt b_1 11) fun a H => ?_
           refine H.u 79 (.slice p.BA p.bs.length p.bc) (ex_l1 (HP.cell 1 rfl 11 rfl)) fun a H => ?_
           refine H.v 80 (pt b_3 11) fun a H => ?_
           refine H.u 81 (.slice q.BA q.bs.length q.bc) (ex_l1 (HP.cell 0 rfl 11 rfl)) fun a H => ?_
           refine H.call 82 (by kernel_rfl) (Eq.trans (by kernel_rfl : _ = (callFunc 46 #[(.slice p.BA p.bs.length p.bc), (.slice q.BA q.bs.length q.bc)]).run Tryz.prog w_7) (Tryz.call46 _ _)) (eqB_any p.BA q.BA p.bc q.bc p.bs q.bs w_7 (hp.bs.below HP.bl) (hq.bs.below HP.bl) hp.lbs hq.lbs) ?_
           rintro e w_8 ⟨rfl, hb⟩
           refine ⟨_, rfl, ?_⟩
           intro a H
           have HP := HP.next hb
           refine H.v 83 (.bool (decide (p.bs = q.bs))) fun a H => ?_
           refine H.v 84 (.bool (decide (p.bs = q.bs))) fun a H => ?_
           refine H.split 84 rfl (fun g84 H => ?_) (fun g84 H => ?_)
           ·have g84p := g84
            refine H.v 85 (pt b_1 12) fun a H => ?_
            refine H.u 86 (.slice p.CA p.cs.length p.cc) (ex_l1 (HP.cell 1 rfl 12 rfl)) fun a H => ?_
            refine H.v 87 (pt b_3 12) fun a H => ?_
            refine H.u 88 (.slice q.CA q.cs.length q.cc) (ex_l1 (HP.cell 0 rfl 12 rfl)) fun a H => ?_
            refine H.call 89 (by kernel_rfl) (Eq.trans (by kernel_rfl : _ = (callFunc 47 #[(.slice p.CA p.cs.length p.cc), (.slice q.CA q.cs.length q.cc)]).run Tryz.prog w_8) (Tryz.call47 _ _)) (eqC_any p.CA q.CA p.cc q.cc p.cs q.cs w_8 (hp.cs.below HP.bl) (hq.cs.below HP.bl) hp.lcs hq.lcs) ?_
            rintro e w_9 ⟨rfl, hb⟩
            refine ⟨_, rfl, ?_⟩
            intro a H
            have HP := HP.next hb
            refine H.v 90 (.bool (decide (p.cs = q.cs))) fun a H => ?_
            refine H.v 4 (.bool (decide (p.cs = q.cs))) fun a H => ?_
            refine wpList_nil (then_normal (wp_ret ?_))
            refine H.ret1 (fn := Tryz.f16) Tryz.results16 (RV.tmp_ (v := (.bool (decide (p.cs = q.cs)))) (by kernel_rfl)) ?_
            exact ⟨by rw [show decide (p.nv = q.nv) = (decide (p.cs = q.cs)) from by rw [pln_eqb]; simp only [g10, g17, g26, g33, g40, g47, g54, g63, g70, g77, g84, Bool.true_and, Bool.and_true, Bool.false_and, Bool.and_false]], HP.bl⟩
           ·have g84p := g84
            iterate 5 refine H.sx rfl fun a H => ?_
            refine H.v 90 (.bool false) fun a H => ?_
            refine H.v 4 (.bool false) fun a H => ?_
            refine wpList_nil (then_normal (wp_ret ?_))
            refine H.ret1 (fn := Tryz.f16) Tryz.results16 (RV.tmp_ (v := (.bool false)) (by kernel_rfl)) ?_
            exact ⟨by rw [show decide (p.nv = q.nv) = (false) from by rw [pln_eqb]; simp only [g10, g17, g26, g33, g40, g47, g54, g63, g70, g77, g84, Bool.true_and, Bool.and_true, Bool.false_and, Bool.and_false]], HP.bl⟩
          ·have g77p := g77
           iterate 5 refine H.sx rfl fun a H => ?_
           refine H.v 83 (.bool false) fun a H => ?_
           refine H.v 84 (.bool false) fun a H => ?_
           iterate 5 refine H.sx rfl fun a H => ?_
           refine H.v 90 (.bool false) fun a H => ?_
           refine H.v 4 (.bool false) fun a H => ?_
           refine wpList_nil (then_normal (wp_ret ?_))
           refine H.ret1 (fn := Tryz.f16) Tryz.results16 (RV.tmp_ (v := (.bool false)) (by kernel_rfl)) ?_
           exact ⟨by rw [show decide (p.nv = q.nv) = (false) from by rw [pln_eqb]; simp only [g10, g17, g26, g33, g40, g47, g54, g63, g70, g77, Bool.true_and, Bool.and_true, Bool.false_and, Bool.and_false]], HP.bl⟩
         ·have g70p := g70
          iterate 5 refine H.sx rfl fun a H => ?_
          refine H.v 76 (.bool false) fun a H => ?_
          refine H.v 77 (.bool false) fun a H => ?_
          iterate 5 refine H.sx rfl fun a H => ?_
          refine H.v 83 (.bool false) fun a H => ?_
          refine H.v 84 (.bool false) fun a H => ?_
          iterate 5 refine H.sx rfl fun a H => ?_
          refine H.v 90 (.bool false) fun a H => ?_
          refine H.v 4 (.bool false) fun a H => ?_
          refine wpList_nil (then_normal (wp_ret ?_))
          refine H.ret1 (fn := Tryz.f16) Tryz.results16 (RV.tmp_ (v := (.bool false)) (by kernel_rfl)) ?_
          exact ⟨by rw [show decide (p.nv = q.nv) = (false) from by rw [pln_eqb]; simp only [g10, g17, g26, g33, g40, g47, g54, g63, g70, Bool.true_and, Bool.and_true, Bool.false_and, Bool.and_false]], HP.bl⟩
        ·have g63p := g63
         iterate 5 refine H.sx rfl fun a H => ?_
         refine H.v 69 (.bool false) fun a H => ?_
         refine H.v 70 (.bool false) fun a H => ?_
         iterate 5 refine H.sx rfl fun a H => ?_
         refine H.v 76 (.bool false) fun a H => ?_
         refine H.v 77 (.bool false) fun a H => ?_
         iterate 5 refine H.sx rfl fun a H => ?_
         refine H.v 83 (.bool false) fun a H => ?_
         refine H.v 84 (.bool false) fun a H => ?_
         iterate 5 refine H.sx rfl fun a H => ?_
         refine H.v 90 (.bool false) fun a H => ?_
         refine H.v 4 (.bool false) fun a H => ?_
         refine wpList_nil (then_normal (wp_ret ?_))
         refine H.ret1 (fn := Tryz.f16) Tryz.results16 (RV.tmp_ (v := (.bool false)) (by kernel_rfl)) ?_
         exact ⟨by rw [show decide (p.nv = q.nv) = (false) from by rw [pln_eqb]; simp only [g10, g17, g26, g33, g40, g47, g54, g63, Bool.true_and, Bool.and_true, Bool.false_and, Bool.and_false]], HP.bl⟩
       ·have g54p := ne_of_beq_false g54
        iterate 7 refine H.sx rfl fun a H => ?_
        refine H.v 62 (.bool false) fun a H => ?_
        refine H.v 63 (.bool false) fun a H => ?_
        iterate 5 refine H.sx rfl fun a H => ?_
        refine H.v 69 (.bool false) fun a H => ?_
        refine H.v 70 (.bool false) fun a H => ?_
        iterate 5 refine H.sx rfl fun a H => ?_
        refine H.v 76 (.bool false) fun a H => ?_
        refine H.v 77 (.bool false) fun a H => ?_
        iterate 5 refine H.sx rfl fun a H => ?_
        refine H.v 83 (.bool false) fun a H => ?_
        refine H.v 84 (.bool false) fun a H => ?_
        iterate 5 refine H.sx rfl fun a H => ?_
        refine H.v 90 (.bool false) fun a H => ?_
        refine H.v 4 (.bool false) fun a H => ?_
        refine wpList_nil (then_normal (wp_ret ?_))
        refine H.ret1 (fn := Tryz.f16) Tryz.results16 (RV.tmp_ (v := (.bool false)) (by kernel_rfl)) ?_
        exact ⟨by rw [show decide (p.nv = q.nv) = (false) from by rw [pln_eqb]; simp only [g10, g17, g26, g33, g40, g47, g54, Bool.true_and, Bool.and_true, Bool.false_and, Bool.and_false]], HP.bl⟩
      ·have g47p := ne_of_beq_false g47
       iterate 5 refine H.sx rfl fun a H => ?_
       refine H.v 53 (.bool false) fun a H => ?_
       refine H.v 54 (.bool false) fun a H => ?_
       iterate 7 refine H.sx rfl fun a H => ?_
       refine H.v 62 (.bool false) fun a H => ?_
       refine H.v 63 (.bool false) fun a H => ?_
       iterate 5 refine H.sx rfl fun a H => ?_
       refine H.v 69 (.bool false) fun a H => ?_
       refine H.v 70 (.bool false) fun a H => ?_
       iterate 5 refine H.sx rfl fun a H => ?_
       refine H.v 76 (.bool false) fun a H => ?_
       refine H.v 77 (.bool false) fun a H => ?_
       iterate 5 refine H.sx rfl fun a H => ?_
       refine H.v 83 (.bool false) fun a H => ?_
       refine H.v 84 (.bool false) fun a H => ?_
       iterate 5 refine H.sx rfl fun a H => ?_
       refine H.v 90 (.bool false) fun a H => ?_
       refine H.v 4 (.bool false) fun a H => ?_
       refine wpList_nil (then_normal (wp_ret ?_))
       refine H.ret1 (fn := Tryz.f16) Tryz.results16 (RV.tmp_ (v := (.bool false)) (by kernel_rfl)) ?_
       exact ⟨by rw [show decide (p.nv = q.nv) = (false) from by rw [pln_eqb]; simp only [g10, g17, g26, g33, g40, g47, Bool.true_and, Bool.and_true, Bool.false_and, Bool.and_false]], HP.bl⟩
     ·have g40p := ne_of_beq_false g40
      iterate 5 refine H.sx rfl fun a H => ?_
      refine H.v 46 (.bool false) fun a H => ?_
      refine H.v 47 (.bool false) fun a H => ?_
      iterate 5 refine H.sx rfl fun a H => ?_
      refine H.v 53 (.bool false) fun a H => ?_
      refine H.v 54 (.bool false) fun a H => ?_
      iterate 7 refine H.sx rfl fun a H => ?_
      refine H.v 62 (.bool false) fun a H => ?_
      refine H.v 63 (.bool false) fun a H => ?_
      iterate 5 refine H.sx rfl fun a H => ?_
      refine H.v 69 (.bool false) fun a H => ?_
      refine H.v 70 (.bool false) fun a H => ?_
      iterate 5 refine H.sx rfl fun a H => ?_
      refine H.v 76 (.bool false) fun a H => ?_
      refine H.v 77 (.bool false) fun a H => ?_
      iterate 5 refine H.sx rfl fun a H => ?_
      refine H.v 83 (.bool false) fun a H => ?_
      refine H.v 84 (.bool false) fun a H => ?_
      iterate 5 refine H.sx rfl fun a H => ?_
      refine H.v 90 (.bool false) fun a H => ?_
      refine H.v 4 (.bool false) fun a H => ?_
      refine wpList_nil (then_normal (wp_ret ?_))
      refine H.ret1 (fn := Tryz.f16) Tryz.results16 (RV.tmp_ (v := (.bool false)) (by kernel_rfl)) ?_
      exact ⟨by rw [show decide (p.nv = q.nv) = (false) from by rw [pln_eqb]; simp only [g10, g17, g26, g33, g40, Bool.true_and, Bool.and_true, Bool.false_and, Bool.and_false]], HP.bl⟩
    ·have g33p := ne_of_beq_false g33
     iterate 5 refine H.sx rfl fun a H => ?_
     refine H.v 39 (.bool false) fun a H => ?_
     refine H.v 40 (.bool false) fun a H => ?_
     iterate 5 refine H.sx rfl fun a H => ?_
     refine H.v 46 (.bool false) fun a H => ?_
     refine H.v 47 (.bool false) fun a H => ?_
     iterate 5 refine H.sx rfl fun a H => ?_
     refine H.v 53 (.bool false) fun a H => ?_
     refine H.v 54 (.bool false) fun a H => ?_
     iterate 7 refine H.sx rfl fun a H => ?_
     refine H.v 62 (.bool false) fun a H => ?_
     refine H.v 63 (.bool false) fun a H => ?_
     iterate 5 refine H.sx rfl fun a H => ?_
     refine H.v 69 (.bool false) fun a H => ?_
     refine H.v 70 (.bool false) fun a H => ?_
     iterate 5 refine H.sx rfl fun a H => ?_
     refine H.v 76 (.bool false) fun a H => ?_
     refine H.v 77 (.bool false) fun a H => ?_
     iterate 5 refine H.sx rfl fun a H => ?_
     refine H.v 83 (.bool false) fun a H => ?_
     refine H.v 84 (.bool false) fun a H => ?_
     iterate 5 refine H.sx rfl fun a H => ?_
     refine H.v 90 (.bool false) fun a H => ?_
     refine H.v 4 (.bool false) fun a H => ?_
     refine wpList_nil (then_normal (wp_ret ?_))
     refine H.ret1 (fn := Tryz.f16) Tryz.results16 (RV.tmp_ (v := (.bool false)) (by kernel_rfl)) ?_
     exact ⟨by rw [show decide (p.nv = q.nv) = (false) from by rw [pln_eqb]; simp only [g10, g17, g26, g33, Bool.true_and, Bool.and_true, Bool.false_and, Bool.and_false]], HP.bl⟩
   ·have g26p := ne_of_beq_false g26
    iterate 5 refine H.sx rfl fun a H => ?_
    refine H.v 32 (.bool false) fun a H => ?_
    refine H.v 33 (.bool false) fun a H => ?_
    iterate 5 refine H.sx rfl fun a H => ?_
    refine H.v 39 (.bool false) fun a H => ?_
    refine H.v 40 (.bool false) fun a H => ?_
    iterate 5 refine H.sx rfl fun a H => ?_
    refine H.v 46 (.bool false) fun a H => ?_
    refine H.v 47 (.bool false) fun a H => ?_
    iterate 5 refine H.sx rfl fun a H => ?_
    refine H.v 53 (.bool false) fun a H => ?_
    refine H.v 54 (.bool false) fun a H => ?_
    iterate 7 refine H.sx rfl fun a H => ?_
    refine H.v 62 (.bool false) fun a H => ?_
    refine H.v 63 (.bool false) fun a H => ?_
    iterate 5 refine H.sx rfl fun a H => ?_
    refine H.v 69 (.bool false) fun a H => ?_
    refine H.v 70 (.bool false) fun a H => ?_
    iterate 5 refine H.sx rfl fun a H => ?_
    refine H.v 76 (.bool false) fun a H => ?_
    refine H.v 77 (.bool false) fun a H => ?_
    iterate 5 refine H.sx rfl fun a H => ?_
    refine H.v 83 (.bool false) fun a H => ?_
    refine H.v 84 (.bool false) fun a H => ?_
    iterate 5 refine H.sx rfl fun a H => ?_
    refine H.v 90 (.bool false) fun a H => ?_
    refine H.v 4 (.bool false) fun a H => ?_
    refine wpList_nil (then_normal (wp_ret ?_))
    refine H.ret1 (fn := Tryz.f16) Tryz.results16 (RV.tmp_ (v := (.bool false)) (by kernel_rfl)) ?_
    exact ⟨by rw [show decide (p.nv = q.nv) = (false) from by rw [pln_eqb]; simp only [g10, g17, g26, Bool.true_and, Bool.and_true, Bool.false_and, Bool.and_false]], HP.bl⟩
  ·have g17p := ne_of_beq_false g17
   iterate 7 refine H.sx rfl fun a H => ?_
   refine H.v 25 (.bool false) fun a H => ?_
   refine H.v 26 (.bool false) fun a H => ?_
   iterate 5 refine H.sx rfl fun a H => ?_
   refine H.v 32 (.bool false) fun a H => ?_
   refine H.v 33 (.bool false) fun a H => ?_
   iterate 5 refine H.sx rfl fun a H => ?_
   refine H.v 39 (.bool false) fun a H => ?_
   refine H.v 40 (.bool false) fun a H => ?_
   iterate 5 refine H.sx rfl fun a H => ?_
   refine H.v 46 (.bool false) fun a H => ?_
   refine H.v 47 (.bool false) fun a H => ?_
   iterate 5 refine H.sx rfl fun a H => ?_
   refine H.v 53 (.bool false) fun a H => ?_
   refine H.v 54 (.bool false) fun a H => ?_
   iterate 7 refine H.sx rfl fun a H => ?_
   refine H.v 62 (.bool false) fun a H => ?_
   refine H.v 63 (.bool false) fun a H => ?_
   iterate 5 refine H.sx rfl fun a H => ?_
   refine H.v 69 (.bool false) fun a H => ?_
   refine H.v 70 (.bool false) fun a H => ?_
   iterate 5 refine H.sx rfl fun a H => ?_
   refine H.v 76 (.bool false) fun a H => ?_
   refine H.v 77 (.bool false) fun a H => ?_
   iterate 5 refine H.sx rfl fun a H => ?_
   refine H.v 83 (.bool false) fun a H => ?_
   refine H.v 84 (.bool false) fun a H => ?_
   iterate 5 refine H.sx rfl fun a H => ?_
   refine H.v 90 (.bool false) fun a H => ?_
   refine H.v 4 (.bool false) fun a H => ?_
   refine wpList_nil (then_normal (wp_ret ?_))
   refine H.ret1 (fn := Tryz.f16) Tryz.results16 (RV.tmp_ (v := (.bool false)) (by kernel_rfl)) ?_
   exact ⟨by rw [show decide (p.nv = q.nv) = (false) from by rw [pln_eqb]; simp only [g10, g17, Bool.true_and, Bool.and_true, Bool.false_and, Bool.and_false]], HP.bl⟩
 ·have g10p := ne_of_beq_false g10
  iterate 5 refine H.sx rfl fun a H => ?_
  refine H.v 16 (.bool false) fun a H => ?_
  refine H.v 17 (.bool false) fun a H => ?_
  iterate 7 refine H.sx rfl fun a H => ?_
  refine H.v 25 (.bool false) fun a H => ?_
  refine H.v 26 (.bool false) fun a H => ?_
  iterate 5 refine H.sx rfl fun a H => ?_
  refine H.v 32 (.bool false) fun a H => ?_
  refine H.v 33 (.bool false) fun a H => ?_
  iterate 5 refine H.sx rfl fun a H => ?_
  refine H.v 39 (.bool false) fun a H => ?_
  refine H.v 40 (.bool false) fun a H => ?_
  iterate 5 refine H.sx rfl fun a H => ?_
  refine H.v 46 (.bool false) fun a H => ?_
  refine H.v 47 (.bool false) fun a H => ?_
  iterate 5 refine H.sx rfl fun a H => ?_
  refine H.v 53 (.bool false) fun a H => ?_
  refine H.v 54 (.bool false) fun a H => ?_
  iterate 7 refine H.sx rfl fun a H => ?_
  refine H.v 62 (.bool false) fun a H => ?_
  refine H.v 63 (.bool false) fun a H => ?_
  iterate 5 refine H.sx rfl fun a H => ?_
  refine H.v 69 (.bool false) fun a H => ?_
  refine H.v 70 (.bool false) fun a H => ?_
  iterate 5 refine H.sx rfl fun a H => ?_
  refine H.v 76 (.bool false) fun a H => ?_
  refine H.v 77 (.bool false) fun a H => ?_
  iterate 5 refine H.sx rfl fun a H => ?_
  refine H.v 83 (.bool false) fun a H => ?_
  refine H.v 84 (.bool false) fun a H => ?_
  iterate 5 refine H.sx rfl fun a H => ?_
  refine H.v 90 (.bool false) fun a H => ?_
  refine H.v 4 (.bool false) fun a H => ?_
  refine wpList_nil (then_normal (wp_ret ?_))
  refine H.ret1 (fn := Tryz.f16) Tryz.results16 (RV.tmp_ (v := (.bool false)) (by kernel_rfl)) ?_
  exact ⟨by rw [show decide (p.nv = q.nv) = (false) from by rw [pln_eqb]; simp only [g10, Bool.true_and, Bool.and_true, Bool.false_and, Bool.and_false]], HP.bl⟩
end Go.Proofs.YteeillphhiaopaaGreatDoor
namespace Go.Proofs.YteeillphhiaopaaGreatDoor
open Go.ChangeShapes Go.WideShapes Go.ChangeAt Go.RowKit
set_option linter.unusedVariables false
set_option linter.unusedSimpArgs false
theorem alt_ones (l : Alts) : ∀ u ∈ flat altC l, u.oneCell' = true := by
 intro u hu
 simp only [flat, List.mem_flatMap] at hu
 obtain ⟨a, _, ha⟩ := hu
 simp only [altC, List.mem_cons, List.not_mem_nil, or_false] at ha
 rcases ha with rfl | rfl <;> rfl
theorem gE_ok {w : World} {A : Option Addr} {l : List Ent} (h : IsEn w A l) (k : Int) : (gE l k).ok w := by
 unfold gE fE
 cases hf : l.find? fun x => x.id == k with
 | none => exact ⟨IsRow.nil _ _, Nat.zero_le _⟩
 | some x => exact h.ok x (List.mem_of_find?_eq_some hf)
def alK (B : Option Addr) (al : Alts) : FK := ⟨rowFp al.length B, fun w => IsAl w B al⟩
theorem alK_ok (B : Option Addr) (al : Alts) : (alK B al).ok := fun _ _ h hk hs => IsRow.keep h hk hs
set_option maxRecDepth 100000 in
set_option maxHeartbeats 4000000 in
theorem clone_nil (c : Nat) (al : Alts) (w : World) (hr : IsAl w none al) (hl : al.length ≤ maxLen) (hb8 : al.length ≤ 1000000000) : Calls Tryz.prog 52 #[.slice none al.length c] w fun e w' => ∃ B cc, e = .returned (.slice B al.length cc) ∧ IsAl w' B al ∧ (∀ k, rowFp al.length B k → w.heap.size ≤ k) ∧ Below w.heap.size w w' := by
 have hn : al.length = 0 := hr.2.elim id (fun ⟨_, _, h, _⟩ => by cases h)
 skip
 have HP := Hp.start w
 refine w_enter 8 [(0, (.slice none al.length c))] Tryz.func52 rfl Tryz.ntmps52 (by kernel_rfl) (by kernel_rfl) fun a H => ?_
 refine wp_seq (w_region ?_)
 refine H.v 2 (.slice none 0 0) fun a H => ?_
 refine wpList_nil (then_normal (wp_seq (wp_seq (w_region ?_))))
 refine H.v 3 (.slice none al.length c) fun a H => ?_
 refine H.v 4 (.bool true) fun a H => ?_
 refine wpList_nil (then_normal ?_)
 refine w_ift H rfl ?_
 refine wp_seq (w_region ?_)
 refine H.v 2 (.slice none 0 0) fun a H => ?_
 refine wpList_nil (then_normal (wp_ret (then_ret ?_)))
 refine H.ret1 (fn := Tryz.f52) Tryz.results52 (RV.tmp_ (v := (.slice none 0 0)) (by kernel_rfl)) ?_
 exact ⟨none, 0, by rw [hn], by rw [List.length_eq_zero_iff.1 hn]; exact IsRow.nil _ _, (fun k hk => by have := hk.1; omega), HP.bl⟩
set_option maxRecDepth 100000 in
set_option maxHeartbeats 4000000 in
theorem clone_some (q : Addr) (c : Nat) (al : Alts) (w : World) (hr : IsAl w (some q) al) (hl : al.length ≤ maxLen) (hb8 : al.length ≤ 1000000000) : Calls Tryz.prog 52 #[.slice (some q) al.length c] w fun e w' => ∃ B cc, e = .returned (.slice B al.length cc) ∧ IsAl w' B al ∧ (∀ k, rowFp al.length B k → w.heap.size ≤ k) ∧ Below w.heap.size w w' := by
 have HP := Hp.start w
 refine w_enter 8 [(0, (.slice (some q) al.length c))] Tryz.func52 rfl Tryz.ntmps52 (by kernel_rfl) (by kernel_rfl) fun a H => ?_
 refine wp_seq (w_region ?_)
 refine H.v 2 (.slice none 0 0) fun a H => ?_
 refine wpList_nil (then_normal (wp_seq (wp_seq (w_region ?_))))
 refine H.v 3 (.slice (some q) al.length c) fun a H => ?_
 refine H.v 4 (.bool false) fun a H => ?_
 refine wpList_nil (then_normal ?_)
 refine w_iff H rfl ?_
 refine wp_skip (then_normal (wp_seq (w_region ?_)))
 refine H.alloc HP 5 (fun b => (.slice (some ⟨b, 0, none⟩) 0 0)) 62 [] (by kernel_rfl) (fun w => by kernel_rfl) fun b_1 w_2 a H HP => ?_
 refine H.v 6 (.slice (some q) al.length c) fun a H => ?_
 have hrd : Rd w_2 2 (some q) al.length (flat altC al) := hr.below HP.bl
 refine H.pushAll HP 7 0 (bb := b_1) (z := .agg #[.int .i64 0, .int .i64 0]) (e := 62) (size := 2) (bytes := 16) (m := al.length) (c := c) (A := some q) (cs := altC) al (by kernel_rfl) (by kernel_rfl) (by kernel_rfl) rfl (by kernel_rfl) (by kernel_rfl) (by kernel_rfl) (fun h => by cases h) rfl rfl hrd (alt_ones _) hl (by omega) fun BB cc w_3 a H HP => ?_
 have HP : Hp w w_3 [(rowsR w.heap.size 62 2 altC (fun _ _ => True) (fun _ _ => False) (.slice BB al.length cc) al)] [] := HP
 refine H.v 2 (.slice BB al.length cc) fun a H => ?_
 refine wpList_nil (then_normal (wp_ret ?_))
 refine H.ret1 (fn := Tryz.f52) Tryz.results52 (RV.tmp_ (v := (.slice BB al.length cc)) (by kernel_rfl)) ?_
 exact ⟨_, _, rfl, Rd.of_own (HP.held 0 rfl).1, (fun k hk => by obtain ⟨_, off, rfl⟩ := hk; exact (own_lt (HP.held 0 rfl).1 k rfl).2), HP.bl⟩
theorem clone_any (A : Option Addr) (c : Nat) (al : Alts) (w : World) (hr : IsAl w A al) (hl : al.length ≤ maxLen) (hb8 : al.length ≤ 1000000000) : Calls Tryz.prog 52 #[.slice A al.length c] w fun e w' => ∃ B cc, e = .returned (.slice B al.length cc) ∧ IsAl w' B al ∧ (∀ k, rowFp al.length B k → w.heap.size ≤ k) ∧ Below w.heap.size w w' := by
 cases A with
 | none => exact clone_nil c al w hr hl hb8
 | some q => exact clone_some q c al w hr hl hb8
set_option maxRecDepth 100000 in
set_option maxHeartbeats 4000000 in
theorem entry_any (p : Pln) (k : Int) (w : World) (hpl : IsPln w p) (hal : (gE p.es k).al.length ≤ 1000000000) : Calls Tryz.prog 20 #[(plV p), .int .i64 k] w fun e w' => ∃ B cc, e = .returned (.tuple #[(.agg #[(ii ((gE p.es k).id)), (ii ((gE p.es k).item)), (ii ((gE p.es k).frames)), (ii ((gE p.es k).earliest)), (ii ((gE p.es k).latest)), (ii ((gE p.es k).booking)), (.slice B ((gE p.es k).al.length) cc)]), .bool (hE p.es k)]) ∧ (IsAl w' B (gE p.es k).al ∧ ∀ j, rowFp (gE p.es k).al.length B j → w.heap.size ≤ j) ∧ Below w.heap.size w w' := by
 have hok := gE_ok hpl.es k
 have HP := Hp.start w
 refine w_enter 21 [(0, (plV p)), (1, (ii k))] Tryz.func20 rfl Tryz.ntmps20 (by kernel_rfl) (by kernel_rfl) fun a H => ?_
 refine wp_seq (w_region ?_)
 refine H.alloc HP 2 (fun b => (pt b 0)) 32 (plL p) (by kernel_rfl) (fun w => by kernel_rfl) fun b_1 w_2 a H HP => ?_
 refine H.alloc HP 4 (fun b => (pt b 0)) 43 [(ii 0), (ii 0), (ii 0), (ii 0), (ii 0), (ii 0), (.slice none 0 0)] (by kernel_rfl) (fun w => by kernel_rfl) fun b_3 w_4 a H HP => ?_
 refine H.v 5 (.bool false) fun a H => ?_
 refine wpList_nil (then_normal (wp_seq (w_region ?_)))
 refine H.v 9 (pt b_1 10) fun a H => ?_
 refine H.u 10 (.slice p.EA p.es.length p.ec) (ex_l1 (HP.cell 1 rfl 10 rfl)) fun a H => ?_
 refine H.v 11 (ii k) fun a H => ?_
 refine H.call 12 (by kernel_rfl) (Eq.trans (by kernel_rfl : _ = (callFunc 50 #[(.slice p.EA p.es.length p.ec), (ii k), (.func (.func 51) #[] #[])]).run Tryz.prog w_4) (Tryz.call50 _ _)) (findE_any p.EA p.ec p.es k w_4 (hpl.es.row.below HP.bl) hpl.les) ?_
 rintro e w_5 ⟨rfl, hb⟩
 refine ⟨_, rfl, ?_⟩
 intro a H
 have HP := HP.next hb
 refine H.v 8 (.tuple #[(.agg #[(ii ((gE p.es k).id)), (ii ((gE p.es k).item)), (ii ((gE p.es k).frames)), (ii ((gE p.es k).earliest)), (ii ((gE p.es k).latest)), (ii ((gE p.es k).booking)), (.slice ((gE p.es k).A) ((gE p.es k).al.length) ((gE p.es k).c))]), (.bool (hE p.es k))]) fun a H => ?_
 refine H.v 13 (.agg #[(ii ((gE p.es k).id)), (ii ((gE p.es k).item)), (ii ((gE p.es k).frames)), (ii ((gE p.es k).earliest)), (ii ((gE p.es k).latest)), (ii ((gE p.es k).booking)), (.slice ((gE p.es k).A) ((gE p.es k).al.length) ((gE p.es k).c))]) fun a H => ?_
 refine H.v 14 (.bool (hE p.es k)) fun a H => ?_
 refine H.alloc HP 6 (fun b => (pt b 0)) 43 [(ii 0), (ii 0), (ii 0), (ii 0), (ii 0), (ii 0), (.slice none 0 0)] (by kernel_rfl) (fun w => by kernel_rfl) fun b_6 w_7 a H HP => ?_
 refine H.store HP 0 b_6 0 7 43 _ true (.agg #[(ii ((gE p.es k).id)), (ii ((gE p.es k).item)), (ii ((gE p.es k).frames)), (ii ((gE p.es k).earliest)), (ii ((gE p.es k).latest)), (ii ((gE p.es k).booking)), (.slice ((gE p.es k).A) ((gE p.es k).al.length) ((gE p.es k).c))]) [bx b_6 43 [(ii ((gE p.es k).id)), (ii ((gE p.es k).item)), (ii ((gE p.es k).frames)), (ii ((gE p.es k).earliest)), (ii ((gE p.es k).latest)), (ii ((gE p.es k).booking)), (.slice ((gE p.es k).A) ((gE p.es k).al.length) ((gE p.es k).c))] true, bx b_3 43 [(ii 0), (ii 0), (ii 0), (ii 0), (ii 0), (ii 0), (.slice none 0 0)] true, bx b_1 32 (plL p) true] (by kernel_rfl) (by kernel_rfl) (by kernel_rfl) rfl (by kernel_rfl) (by kernel_rfl) (by kernel_rfl) (by kernel_rfl) (by kernel_rfl) fun w_8 a H HP => ?_
 refine H.v 7 (.bool (hE p.es k)) fun a H => ?_
 refine wpList_nil (then_normal (wp_seq (w_region ?_)))
 refine H.v 15 (pt b_6 6) fun a H => ?_
 refine H.u 16 (.slice ((gE p.es k).A) ((gE p.es k).al.length) ((gE p.es k).c)) (ex_l1 (HP.cell 0 rfl 6 rfl)) fun a H => ?_
 have hlt0 := HP.lt
 have hsz := HP.size
 refine H.call 17 (by kernel_rfl) (Eq.trans (by kernel_rfl : _ = (callFunc 52 #[(.slice ((gE p.es k).A) ((gE p.es k).al.length) ((gE p.es k).c))]).run Tryz.prog w_8) (Tryz.call52 _ _)) (clone_any (gE p.es k).A (gE p.es k).c (gE p.es k).al w_8 (hok.1.below HP.bl) hok.2 hal) ?_
 rintro e w_9 ⟨B, cc, rfl, hBr, hnew, hb⟩
 refine ⟨_, rfl, ?_⟩
 intro a H
 have HP := HP.next hb
 have HP := HP.keepF (alK B (gE p.es k).al) hBr (alK_ok _ _) (fun k hk => ⟨hBr.lt k hk, fun x hx hxk => by have h1 := hlt0 x hx k hxk; have h2 := hnew k hk; omega⟩)
 refine H.v 18 (pt b_6 6) fun a H => ?_
 refine H.store HP 0 b_6 6 1 43 _ true (.slice B ((gE p.es k).al.length) cc) [bx b_6 43 [(ii ((gE p.es k).id)), (ii ((gE p.es k).item)), (ii ((gE p.es k).frames)), (ii ((gE p.es k).earliest)), (ii ((gE p.es k).latest)), (ii ((gE p.es k).booking)), (.slice B ((gE p.es k).al.length) cc)] true, bx b_3 43 [(ii 0), (ii 0), (ii 0), (ii 0), (ii 0), (ii 0), (.slice none 0 0)] true, bx b_1 32 (plL p) true] (by kernel_rfl) (by kernel_rfl) (by kernel_rfl) rfl (by kernel_rfl) (by kernel_rfl) (by kernel_rfl) (by kernel_rfl) (by kernel_rfl) fun w_10 a H HP => ?_
 refine wpList_nil (then_normal (wp_seq (w_region ?_)))
 refine H.u 19 (.agg #[(ii ((gE p.es k).id)), (ii ((gE p.es k).item)), (ii ((gE p.es k).frames)), (ii ((gE p.es k).earliest)), (ii ((gE p.es k).latest)), (ii ((gE p.es k).booking)), (.slice B ((gE p.es k).al.length) cc)]) (ex_loadN (vs := [(ii ((gE p.es k).id)), (ii ((gE p.es k).item)), (ii ((gE p.es k).frames)), (ii ((gE p.es k).earliest)), (ii ((gE p.es k).latest)), (ii ((gE p.es k).booking)), (.slice B ((gE p.es k).al.length) cc)]) (by kernel_rfl) (by kernel_rfl) (by kernel_rfl) rfl (HP.cells 0 rfl 0 7 (by kernel_rfl))) fun a H => ?_
 refine H.v 20 (.bool (hE p.es k)) fun a H => ?_
 refine H.store HP 1 b_3 0 7 43 _ true (.agg #[(ii ((gE p.es k).id)), (ii ((gE p.es k).item)), (ii ((gE p.es k).frames)), (ii ((gE p.es k).earliest)), (ii ((gE p.es k).latest)), (ii ((gE p.es k).booking)), (.slice B ((gE p.es k).al.length) cc)]) [bx b_6 43 [(ii ((gE p.es k).id)), (ii ((gE p.es k).item)), (ii ((gE p.es k).frames)), (ii ((gE p.es k).earliest)), (ii ((gE p.es k).latest)), (ii ((gE p.es k).booking)), (.slice B ((gE p.es k).al.length) cc)] true, bx b_3 43 [(ii ((gE p.es k).id)), (ii ((gE p.es k).item)), (ii ((gE p.es k).frames)), (ii ((gE p.es k).earliest)), (ii ((gE p.es k).latest)), (ii ((gE p.es k).booking)), (.slice B ((gE p.es k).al.length) cc)] true, bx b_1 32 (plL p) true] (by kernel_rfl) (by kernel_rfl) (by kernel_rfl) rfl (by kernel_rfl) (by kernel_rfl) (by kernel_rfl) (by kernel_rfl) (by kernel_rfl) fun w_11 a H HP => ?_
 refine H.v 5 (.bool (hE p.es k)) fun a H => ?_
 refine wpList_nil (then_normal (wp_ret ?_))
 refine H.ret2 (fn := Tryz.f20) Tryz.results20 (RV.cellN (vs := [(ii ((gE p.es k).id)), (ii ((gE p.es k).item)), (ii ((gE p.es k).frames)), (ii ((gE p.es k).earliest)), (ii ((gE p.es k).latest)), (ii ((gE p.es k).booking)), (.slice B ((gE p.es k).al.length) cc)]) (b := b_3) (off := 0) (k := 7) (by kernel_rfl) (by kernel_rfl) (by kernel_rfl) rfl (HP.cells 1 rfl 0 7 (by kernel_rfl))) (RV.tmp_ (v := (.bool (hE p.es k))) (by kernel_rfl)) ?_
 exact ⟨B, cc, rfl, ⟨HP.fact 0 rfl, fun k hk => Nat.le_trans hsz (hnew k hk)⟩, HP.bl⟩
end Go.Proofs.YteeillphhiaopaaGreatDoor
namespace Go.Proofs.YteeillphhiaopaaGreatDoor
open Go.ChangeShapes Go.WideShapes Go.ChangeAt Go.RowKit
set_option linter.unusedVariables false
set_option linter.unusedSimpArgs false
theorem wint_none (s : List UInt8) (k : Nat) (w : World) (hl : s.length ≤ 1000000) (hk : k ≤ s.length) (hR : rdInt s k = none) :
    Calls Tryz.prog 134 #[.string (bstr s), .int .i64 ((k : Nat) : Int)] w fun e w' => e = .returned (.tuple #[.int .i64 0, .int .i64 0, .int .i64 10]) ∧ Below w.heap.size w w' := by
  refine (wint_any (bstr s) k w (by rw [bstr_size]; omega) (by rw [bstr_size]; exact hk)).mono ?_
  rintro e w' ⟨rfl, rfl⟩
  refine ⟨?_, Below.refl _ _⟩
  rw [show (bstr s).data.toList = s by simp, hR]
  rfl
theorem wint_some (s : List UInt8) (k : Nat) (w : World) (hl : s.length ≤ 1000000) (hk : k ≤ s.length) (n : Int) (k1 : Nat) (hR : rdInt s k = some (n, k1)) :
    Calls Tryz.prog 134 #[.string (bstr s), .int .i64 ((k : Nat) : Int)] w fun e w' => e = .returned (.tuple #[.int .i64 n, .int .i64 ((k1 : Nat) : Int), .int .i64 0]) ∧ Below w.heap.size w w' := by
  refine (wint_any (bstr s) k w (by rw [bstr_size]; omega) (by rw [bstr_size]; exact hk)).mono ?_
  rintro e w' ⟨rfl, rfl⟩
  refine ⟨?_, Below.refl _ _⟩
  rw [show (bstr s).data.toList = s by simp, hR]
  rfl
def rC (s : List UInt8) (k : Nat) : List Value := [.string (bstr s), .int .i64 ((k : Nat) : Int)]
abbrev pan (a0 a1 : Addr) (E : Int) : List PanicEntry := panicOf (if E = 10 then a0 else a1)
theorem Hp.own2 {w : World} {b c t u : Nat} {vs us : List Value} (h : Box w b t vs.toArray) (h' : Box w c u us.toArray) (hne : b ≠ c) : Hp w w [bx b t vs false, bx c u us false] [] :=
  (Hp.own h').add (bx b t vs false) h (bx_ok _ _ _ _) (fun k hk => by cases hk; exact h.lt) (fun k hk => ⟨fun y hy hyk => by rcases List.mem_singleton.1 hy with rfl; cases hk; exact hne hyk, fun _ h => by cases h⟩) fun h => by cases h
theorem Hp.grow {w0 w : World} {L : List HB} {K : List FK} (H : Hp w0 w L K) (i : Nat) {x : HB} (hi : L[i]? = some x) (x' : HB) (L' : List HB) (hL : L.set i x' = L') (hF : x'.F w) (hok : x'.ok) (hall : ∀ k, x.fp k → x'.fp k)
    (hnew : ∀ k, x'.fp k → x.fp k ∨ (w0.heap.size ≤ k ∧ k < w.heap.size ∧ (∀ y ∈ L, ¬ y.fp k) ∧ ∀ q ∈ K, ¬ q.fp k)) (hfr : x'.fresh = x.fresh) : Hp w0 w L' K := by
  subst hL
  have hm := mem_set H.apart (x' := x') hi
  have hxm := List.mem_of_getElem? hi
  have hil := (List.getElem?_eq_some_iff.1 hi).1
  have hx'm : x' ∈ L.set i x' := List.mem_iff_getElem?.2 ⟨i, by rw [List.getElem?_set]; simp [hil]⟩
  have hback : ∀ y ∈ L, y = x ∨ y ∈ L.set i x' := by
    intro y hy
    obtain ⟨k, hk⟩ := List.mem_iff_getElem?.1 hy
    by_cases e : i = k
    · subst e; rw [hi] at hk; cases hk; exact .inl rfl
    · exact .inr (List.mem_iff_getElem?.2 ⟨k, by rw [List.getElem?_set_ne e]; exact hk⟩)
  have hnot : ∀ y ∈ L, ∀ k, x'.fp k → y.fp k → x.fp k := fun y hy k hk hy' => (hnew k hk).resolve_right fun h => h.2.2.1 y hy hy'
  refine ⟨H.os, H.tape, H.output, H.size, fun k hk hn => ?_, fun y hy => ?_, ?_, fun y hy hfy k hk => ?_, fun p hp => ?_⟩
  · have hx : ¬ x.fp k := fun h => hn x' hx'm (hall k h)
    refine H.old k hk fun y hy => ?_
    rcases hback y hy with rfl | hy
    · exact hx
    · exact hn y hy
  · rcases hm y hy with rfl | ⟨hy, hne⟩
    · exact ⟨hF, hok, fun k hk => by
        rcases hnew k hk with h | h
        · exact (H.res x hxm).2.2 k h
        · exact h.2.1⟩
    · exact H.res y hy
  · exact pairwise_set H.apart hi (fun z hz h k hk hk' => h k hk (hnot z hz k hk' hk)) (fun z hz h k hk hk' => h k (hnot z hz k hk hk') hk')
  · rcases hm y hy with rfl | ⟨hy, _⟩
    · rcases hnew k hk with h | h
      · exact H.fresh x hxm (hfr ▸ hfy) k h
      · exact h.1
    · exact H.fresh y hy hfy k hk
  · obtain ⟨k1, k2, k3⟩ := H.kept p hp
    refine ⟨k1, k2, fun k hk => ⟨(k3 k hk).1, fun y hy hy' => ?_⟩⟩
    rcases hm y hy with rfl | ⟨hy, _⟩
    · rcases hnew k hy' with h | h
      · exact (k3 k hk).2 x hxm h
      · exact h.2.2.2 p hp hk
    · exact (k3 k hk).2 y hy hy'
theorem box_ptr {w : World} {sb t i o tb : Nat} {os : List Nat} (h : Box w sb t (os.map (fun o => Value.pointer (some ⟨tb, o, none⟩))).toArray) (ho : os[i]? = some o) : w.cell? ⟨sb, 0 + i * 1, none⟩ = some (.pointer (some ⟨tb, o, none⟩)) := by
  refine h.cell ?_
  rw [Nat.zero_add, Nat.mul_one]
  simp [ho]
def NumPost (a0 a1 : Addr) (s : List UInt8) (k rb : Nat) (w : World) (e : Ending) (w' : World) : Prop :=
  Agree w w' (fun j => j = rb) ∧ ((rdInt s k = none ∧ e = .panicked (pan a0 a1 10) ∧ Box w' rb 103 (rC s k).toArray) ∨ (∃ n k1, rdInt s k = some (n, k1) ∧ k1 ≤ s.length ∧ e = .returned (.int .i64 n) ∧ Box w' rb 103 (rC s k1).toArray))
def NumsPost (a0 a1 : Addr) (s : List UInt8) (k rb tb ty : Nat) (us : List Value) (os : List Nat) (w : World) (e : Ending) (w' : World) : Prop :=
  Agree w w' (fun j => j = rb ∨ j = tb) ∧ ((∃ (k1 : Nat) (us1 : List Value), rdN s os.length k = .error 10 ∧ k1 ≤ s.length ∧ e = .panicked (pan a0 a1 10) ∧ Box w' rb 103 (rC s k1).toArray ∧ Box w' tb ty us1.toArray ∧ us1.length = us.length) ∨
    (∃ l k1, rdN s os.length k = .ok (l, k1) ∧ k1 ≤ s.length ∧ l.length = os.length ∧ e = .returned (.tuple #[]) ∧ Box w' rb 103 (rC s k1).toArray ∧ Box w' tb ty (putAt us os l).toArray))
theorem Agree.only {w w' : World} {b : Nat} (h : w.grownBy w' (some b)) : Agree w w' (fun j => j = b) := Agree.of_grown h fun k e => (Option.some.inj e).symm
theorem Hp.changed1 {w0 w w' : World} {L : List HB} {K : List FK} (H : Hp w0 w L K) (i : Nat) {b t : Nat} {vs : List Value} {f : Bool} (hi : L[i]? = some (bx b t vs f)) (vs' : List Value) (L' : List HB) (hL : L.set i (bx b t vs' f) = L') (hag : Agree w w' (fun k => k = b)) (h1 : Box w' b t vs'.toArray) : Hp w0 w' L' K :=
  H.mut i hi (bx b t vs' f) _ hL hag h1 (bx_ok _ _ _ _) (fun k hk => by cases hk; exact h1.lt) (fun k hk => .inl hk) (fun k _ hk => hk) rfl
end Go.Proofs.YteeillphhiaopaaGreatDoor
namespace Go.Proofs.YteeillphhiaopaaGreatDoor
open Go.ChangeShapes Go.WideShapes Go.ChangeAt Go.RowKit
set_option linter.unusedVariables false
set_option linter.unusedSimpArgs false
set_option maxRecDepth 100000 in
set_option maxHeartbeats 4000000 in
theorem number_none (a0 a1 : Addr) (s : List UInt8) (k rb : Nat) (w : World) (hL : LaidP a0 a1 w) (hsep : ∀ j, lpFp a0 a1 j → j ≠ rb) (h : Box w rb 103 (rC s k).toArray) (hl : s.length ≤ 1000000) (hk : k ≤ s.length) (hR : rdInt s k = none) : Calls Tryz.prog 128 #[.pointer (some ⟨rb, 0, none⟩)] w (NumPost a0 a1 s k rb w) := by
 have HP : Hp w w [bx rb 103 [.string (bstr s), .int .i64 ((k : Nat) : Int)] false] [laidK a0 a1] := (Hp.own h).keepF (laidK a0 a1) hL (laidK_ok _ _) (fun j hj => ⟨hL.lt j hj, by simpa [bx] using hsep j hj⟩)
 refine w_enter 27 [(0, (.pointer (some ⟨rb, 0, none⟩)))] Tryz.func128 rfl Tryz.ntmps128 (by kernel_rfl) (by kernel_rfl) fun a H => ?_
 refine wp_seq (w_region ?_)
 refine H.v 2 (.int .i64 0) fun a H => ?_
 refine wpList_nil (then_normal (wp_seq ?_))
 refine An.start (fun v => Hp w v [bx rb 103 [(.string (bstr s)), (.int .i64 ((k : Nat) : Int))] false] [laidK a0 a1]) 16 16 HP wide_follows rfl fun w_1 HP => ?_
 refine An.p H (.inr HP) 0 7 (.pointer (some ⟨rb, 0, none⟩)) fun a H => ?_
 refine An.p H (.inr HP) 1 8 (.pointer (some ⟨rb, 0, none⟩)) fun a H => ?_
 refine An.p H (.inr HP) 2 9 (.pointer (some ⟨rb, 0, none⟩)) fun a H => ?_
 refine An.val H (HP) 3 10 (.string (bstr s)) rfl (by kernel_rfl) (by kernel_rfl) (fun _ _ _ h => h) (fun _ hS => ex_load1 (by kernel_rfl) (by kernel_rfl) (hS.cell 0 rfl 0 rfl)) fun a H => ?_
 refine An.p H (.inr HP) 4 11 (.pointer (some ⟨rb, 0, none⟩)) fun a H => ?_
 refine An.p H (.inr HP) 5 12 (.pointer (some ⟨rb, 0, none⟩)) fun a H => ?_
 refine An.p H (.inr HP) 6 13 (.pointer (some ⟨rb, 1, none⟩)) fun a H => ?_
 refine An.val H (HP) 7 14 (.int .i64 ((k : Nat) : Int)) rfl (by kernel_rfl) (by kernel_rfl) (fun _ _ _ h => h) (fun _ hS => ex_load1 (by kernel_rfl) (by kernel_rfl) (hS.cell 0 rfl 1 rfl)) fun a H => ?_
 refine An.one 8 (by kernel_rfl) ?_
 refine Op.call H 15 rfl (by kernel_rfl) (Eq.trans (by kernel_rfl : _ = (callFunc 134 #[(.string (bstr s)), (.int .i64 ((k : Nat) : Int))]).run Tryz.prog w_1) (Tryz.call134 _ _)) (wint_none s k w_1 hl hk hR) ?_
 rintro e w_2 ⟨rfl, hb⟩
 refine ⟨_, rfl, ?_⟩
 intro a H
 have HP := HP.next hb
 refine ⟨.inr (HP), ?_⟩
 refine An.p H (.inr HP) 9 6 (.tuple #[(.int .i64 0), (.int .i64 0), (.int .i64 10)]) fun a H => ?_
 refine An.p H (.inr HP) 10 16 (.int .i64 0) fun a H => ?_
 refine An.p H (.inr HP) 11 17 (.int .i64 0) fun a H => ?_
 refine An.p H (.inr HP) 12 18 (.int .i64 10) fun a H => ?_
 refine An.p H (.inr HP) 13 3 (.int .i64 0) fun a H => ?_
 refine An.p H (.inr HP) 14 4 (.int .i64 0) fun a H => ?_
 refine An.p H (.inr HP) 15 5 (.int .i64 10) fun a H => ?_
 refine An.done (by kernel_rfl) ?_
 refine then_normal (wp_seq (wp_seq (w_region ?_)))
 refine H.v 19 (.int .i64 10) fun a H => ?_
 refine H.v 20 (.bool true) fun a H => ?_
 refine wpList_nil (then_normal ?_)
 refine w_ift H rfl ?_
 refine w_region ?_
 refine H.u 21 (.iface 212 (.pointer (some a0))) (ex_load1 (by kernel_rfl) (by kernel_rfl) ((HP.fact 0 rfl : LaidP a0 a1 _).c0)) fun a H => ?_
 refine H.panic0 (v := (.iface 212 (.pointer (some a0)))) (w' := w_2) (by kernel_rfl) (by kernel_rfl) ?_
 refine then_panic ?_
 refine H.endP ?_
 exact ⟨HP.agree _ (by simp [bx]), .inl ⟨hR, rfl, HP.at_ 0 rfl⟩⟩
set_option maxRecDepth 100000 in
set_option maxHeartbeats 4000000 in
theorem number_some (a0 a1 : Addr) (s : List UInt8) (k rb : Nat) (w : World) (hL : LaidP a0 a1 w) (hsep : ∀ j, lpFp a0 a1 j → j ≠ rb) (h : Box w rb 103 (rC s k).toArray) (hl : s.length ≤ 1000000) (hk : k ≤ s.length) (n : Int) (k1 : Nat) (hR : rdInt s k = some (n, k1)) : Calls Tryz.prog 128 #[.pointer (some ⟨rb, 0, none⟩)] w (NumPost a0 a1 s k rb w) := by
 have HP : Hp w w [bx rb 103 [.string (bstr s), .int .i64 ((k : Nat) : Int)] false] [laidK a0 a1] := (Hp.own h).keepF (laidK a0 a1) hL (laidK_ok _ _) (fun j hj => ⟨hL.lt j hj, by simpa [bx] using hsep j hj⟩)
 refine w_enter 27 [(0, (.pointer (some ⟨rb, 0, none⟩)))] Tryz.func128 rfl Tryz.ntmps128 (by kernel_rfl) (by kernel_rfl) fun a H => ?_
 refine wp_seq (w_region ?_)
 refine H.v 2 (.int .i64 0) fun a H => ?_
 refine wpList_nil (then_normal (wp_seq ?_))
 refine An.start (fun v => Hp w v [bx rb 103 [(.string (bstr s)), (.int .i64 ((k : Nat) : Int))] false] [laidK a0 a1]) 16 16 HP wide_follows rfl fun w_1 HP => ?_
 refine An.p H (.inr HP) 0 7 (.pointer (some ⟨rb, 0, none⟩)) fun a H => ?_
 refine An.p H (.inr HP) 1 8 (.pointer (some ⟨rb, 0, none⟩)) fun a H => ?_
 refine An.p H (.inr HP) 2 9 (.pointer (some ⟨rb, 0, none⟩)) fun a H => ?_
 refine An.val H (HP) 3 10 (.string (bstr s)) rfl (by kernel_rfl) (by kernel_rfl) (fun _ _ _ h => h) (fun _ hS => ex_load1 (by kernel_rfl) (by kernel_rfl) (hS.cell 0 rfl 0 rfl)) fun a H => ?_
 refine An.p H (.inr HP) 4 11 (.pointer (some ⟨rb, 0, none⟩)) fun a H => ?_
 refine An.p H (.inr HP) 5 12 (.pointer (some ⟨rb, 0, none⟩)) fun a H => ?_
 refine An.p H (.inr HP) 6 13 (.pointer (some ⟨rb, 1, none⟩)) fun a H => ?_
 refine An.val H (HP) 7 14 (.int .i64 ((k : Nat) : Int)) rfl (by kernel_rfl) (by kernel_rfl) (fun _ _ _ h => h) (fun _ hS => ex_load1 (by kernel_rfl) (by kernel_rfl) (hS.cell 0 rfl 1 rfl)) fun a H => ?_
 refine An.one 8 (by kernel_rfl) ?_
 refine Op.call H 15 rfl (by kernel_rfl) (Eq.trans (by kernel_rfl : _ = (callFunc 134 #[(.string (bstr s)), (.int .i64 ((k : Nat) : Int))]).run Tryz.prog w_1) (Tryz.call134 _ _)) (wint_some s k w_1 hl hk n k1 hR) ?_
 rintro e w_2 ⟨rfl, hb⟩
 refine ⟨_, rfl, ?_⟩
 intro a H
 have HP := HP.next hb
 refine ⟨.inr (HP), ?_⟩
 refine An.p H (.inr HP) 9 6 (.tuple #[(.int .i64 n), (.int .i64 ((k1 : Nat) : Int)), (.int .i64 0)]) fun a H => ?_
 refine An.p H (.inr HP) 10 16 (.int .i64 n) fun a H => ?_
 refine An.p H (.inr HP) 11 17 (.int .i64 ((k1 : Nat) : Int)) fun a H => ?_
 refine An.p H (.inr HP) 12 18 (.int .i64 0) fun a H => ?_
 refine An.p H (.inr HP) 13 3 (.int .i64 n) fun a H => ?_
 refine An.p H (.inr HP) 14 4 (.int .i64 ((k1 : Nat) : Int)) fun a H => ?_
 refine An.p H (.inr HP) 15 5 (.int .i64 0) fun a H => ?_
 refine An.done (by kernel_rfl) ?_
 refine then_normal (wp_seq (wp_seq (w_region ?_)))
 refine H.v 19 (.int .i64 0) fun a H => ?_
 refine H.v 20 (.bool false) fun a H => ?_
 refine wpList_nil (then_normal ?_)
 refine w_iff H rfl ?_
 refine wp_skip (then_normal (wp_seq (w_region ?_)))
 refine H.v 22 (.pointer (some ⟨rb, 0, none⟩)) fun a H => ?_
 refine H.v 23 (.int .i64 ((k1 : Nat) : Int)) fun a H => ?_
 refine H.v 24 (.pointer (some ⟨rb, 0, none⟩)) fun a H => ?_
 refine H.v 25 (.pointer (some ⟨rb, 1, none⟩)) fun a H => ?_
 refine H.store HP 0 rb 1 1 103 _ false (.int .i64 ((k1 : Nat) : Int)) [bx rb 103 [(.string (bstr s)), (.int .i64 ((k1 : Nat) : Int))] false] (by kernel_rfl) (by kernel_rfl) (by kernel_rfl) rfl (by kernel_rfl) (by kernel_rfl) (by kernel_rfl) (by kernel_rfl) (by kernel_rfl) fun w_3 a H HP => ?_
 refine wpList_nil (then_normal (wp_seq (w_region ?_)))
 refine H.v 26 (.int .i64 n) fun a H => ?_
 refine H.v 2 (.int .i64 n) fun a H => ?_
 refine wpList_nil (then_normal (wp_ret ?_))
 refine H.ret1 (fn := Tryz.f128) Tryz.results128 (RV.tmp_ (v := (.int .i64 n)) (by kernel_rfl)) ?_
 exact ⟨HP.agree _ (by simp [bx]), .inr ⟨n, k1, hR, (rdInt_lt hk hR).2, rfl, HP.at_ 0 rfl⟩⟩
theorem number_any (a0 a1 : Addr) (s : List UInt8) (k rb : Nat) (w : World) (hL : LaidP a0 a1 w) (hsep : ∀ j, lpFp a0 a1 j → j ≠ rb) (h : Box w rb 103 (rC s k).toArray) (hl : s.length ≤ 1000000) (hk : k ≤ s.length) : Calls Tryz.prog 128 #[.pointer (some ⟨rb, 0, none⟩)] w (NumPost a0 a1 s k rb w) := by
 cases hR : rdInt s k with
 | none => exact number_none a0 a1 s k rb w hL hsep h hl hk hR
 | some p => exact number_some a0 a1 s k rb w hL hsep h hl hk p.1 p.2 hR
set_option maxRecDepth 100000 in
set_option maxHeartbeats 4000000 in
theorem numbers_any (a0 a1 : Addr) (s : List UInt8) (k rb tb ty sb : Nat) (us : List Value) (os : List Nat) (w : World) (hL : LaidP a0 a1 w) (hsep : ∀ j, lpFp a0 a1 j → j ≠ rb ∧ j ≠ tb) (h : Box w rb 103 (rC s k).toArray) (ht : Box w tb ty us.toArray) (hsb : Box w sb 150 (os.map (fun o => Value.pointer (some ⟨tb, o, none⟩))).toArray) (hne : rb ≠ tb) (hs : sb ≠ rb ∧ sb ≠ tb) (hos : ∀ o ∈ os, o < us.length) (hom : os.length ≤ 100) (hl : s.length ≤ 1000000) (hk : k ≤ s.length) :
  Calls Tryz.prog 99 #[.pointer (some ⟨rb, 0, none⟩), .slice (some ⟨sb, 0, none⟩) os.length os.length] w (NumsPost a0 a1 s k rb tb ty us os w) := by
 have HP0 : Hp w w [bx rb 103 (rC s k) false, bx tb ty (putAt us os []) false] [] := by rw [show putAt us os [] = us by cases os <;> rfl]; exact Hp.own2 h ht hne
 have HP : Hp w w [bx rb 103 (rC s k) false, bx tb ty (putAt us os []) false] [boxK sb 150 (os.map (fun o => Value.pointer (some ⟨tb, o, none⟩))), laidK a0 a1] :=
  (HP0.keepF (laidK a0 a1) hL (laidK_ok _ _) (fun j hj => ⟨hL.lt j hj, by simpa [bx] using hsep j hj⟩)).keepF _ hsb (boxK_ok _ _ _) (fun j hj => ⟨by cases hj; exact hsb.lt, by cases hj; simpa [bx] using hs⟩)
 refine w_enter 17 [(0, (.pointer (some ⟨rb, 0, none⟩))), (1, (.slice (some ⟨sb, 0, none⟩) os.length os.length))] Tryz.func99 rfl Tryz.ntmps99 (by kernel_rfl) (by kernel_rfl) fun a H => ?_
 refine wp_seq (w_region ?_)
 refine H.v 6 (.slice (some ⟨sb, 0, none⟩) os.length os.length) fun a H => ?_
 refine H.v 7 (.int .i64 ((os.length : Nat) : Int)) fun a H => ?_
 refine H.v 8 (.int .i64 0) fun a H => ?_
 refine wpList_nil (then_normal (wp_block ?_))
 refine w_loop (fun mm a wv => ∃ (i : Nat), ∃ (kq : Nat), ∃ (l : List Int), os.length - i = mm ∧ Sl 17 [(8, (.int .i64 ((i : Nat) : Int))), (7, (.int .i64 ((os.length : Nat) : Int))), (6, (.slice (some ⟨sb, 0, none⟩) os.length os.length)), (0, (.pointer (some ⟨rb, 0, none⟩))), (1, (.slice (some ⟨sb, 0, none⟩) os.length os.length))] a ∧ Hp w wv [bx rb 103 (rC s kq) false, bx tb ty (putAt us os l) false] [boxK sb 150 (os.map (fun o => Value.pointer (some ⟨tb, o, none⟩))), laidK a0 a1] ∧ (i ≤ os.length) ∧ (kq ≤ s.length) ∧ (l.length = i) ∧ (rdN s os.length k = pre l (rdN s (os.length - i) kq))) (os.length - 0) ?_ ?_
 ·exact ⟨0, k, [], (by omega), H.keep (by kernel_rfl), HP, (Nat.zero_le _), hk, rfl, (pre_nil _).symm⟩
 rintro mm a w_1 ⟨i, kq, l, hmeas, H, HP, hib, hkq, hll, hrel⟩
 refine wp_seq (w_region ?_)
 refine H.v 9 (.bool (decide (((i : Nat) : Int) < ((os.length : Nat) : Int)))) fun a H => ?_
 refine wpList_nil (then_normal (wp_seq ?_))
 refine w_if H rfl (fun g9 => ?_) (fun g9 => ?_)
 ·have g9p := of_decide_eq_true g9
  refine wp_skip (then_normal (wp_seq (wp_block (wp_seq ?_))))
  obtain ⟨o, ho⟩ : ∃ o, os[i]? = some o := ⟨_, List.getElem?_eq_getElem (by omega)⟩
  have hou := hos o (List.mem_of_getElem? ho)
  refine w_region ?_
  refine H.u 10 (.pointer (some ⟨sb, 0 + i * 1, none⟩)) (ex_index (b := sb) (off := 0) (len := os.length) (cap := os.length) (e := 150) (k := 1) (ik := .i64) (i := ((i : Nat) : Int)) (m := i) (by kernel_rfl) (by kernel_rfl) (by omega) (by omega) (by kernel_rfl) (by kernel_rfl)) fun a H => ?_
  refine H.u 11 (.pointer (some ⟨tb, o, none⟩)) (ex_load1 (by kernel_rfl) (by kernel_rfl) (box_ptr (HP.fact 0 rfl) ho)) fun a H => ?_
  refine H.v 5 (.pointer (some ⟨tb, o, none⟩)) fun a H => ?_
  refine wpList_nil (then_normal (w_region ?_))
  refine H.v 12 (.pointer (some ⟨tb, o, none⟩)) fun a H => ?_
  refine H.v 13 (.pointer (some ⟨rb, 0, none⟩)) fun a H => ?_
  refine H.callP 14 (by kernel_rfl) (Eq.trans (by kernel_rfl : _ = (callFunc 128 #[(.pointer (some ⟨rb, 0, none⟩))]).run Tryz.prog w_1) (Tryz.call128 _ _)) (number_any a0 a1 s kq rb w_1 (HP.fact 1 rfl) (fun j hj => (hsep j hj).1) (HP.at_ 0 rfl) hl hkq) ?_
  rintro e w_2 ⟨hag, (⟨hR, rfl, hbx⟩ | ⟨z, k2, hR, hk2, rfl, hbx⟩)⟩
  ·refine .inr ⟨_, rfl, ?_⟩
   intro a H
   have HP := HP.changed1 0 rfl (rC s kq) [bx rb 103 (rC s kq) false, bx tb ty (putAt us os l) false] (by kernel_rfl) hag hbx
   refine inb_panic ?_
   refine then_panic ?_
   refine then_panic ?_
   refine inb_panic ?_
   refine H.endP ?_
   exact ⟨HP.agree _ (by simp [bx]), .inl ⟨kq, _, by rw [hrel, show os.length - i = (os.length - (i + 1)) + 1 by omega]; exact rdN_none hR, hkq, rfl, HP.at_ 0 rfl, HP.at_ 1 rfl, putAt_len _ _ _⟩⟩
  refine .inl ⟨_, rfl, ?_⟩
  intro a H
  have HP := HP.changed1 0 rfl (rC s k2) [bx rb 103 (rC s k2) false, bx tb ty (putAt us os l) false] (by kernel_rfl) hag hbx
  refine H.v 15 (.pointer (some ⟨tb, o, none⟩)) fun a H => ?_
  refine H.store HP 1 tb o 1 ty _ false (.int .i64 z) [bx rb 103 (rC s k2) false, bx tb ty (putAt us os (l ++ [z])) false] (by kernel_rfl) (by kernel_rfl) (by kernel_rfl) rfl (by kernel_rfl) (by kernel_rfl) (by kernel_rfl) (by show Nat.ble (o + 1) _ = true; rw [Nat.ble_eq, putAt_len]; omega) (by rw [putAt_snoc us os l (by rw [hll]; exact ho)]; rfl) fun w_3 a H HP => ?_
  refine wpList_nil (inb_normal (then_normal (w_region ?_)))
  refine H.valE 16 (.int .i64 (IntKind.i64.wrap (((i : Nat) : Int) + 1))) (.int .i64 (((i : Nat) : Int) + 1)) (by kernel_rfl) (by kernel_rfl) ((by rw [wrap_ini64 _ (by omega)])) fun a H => ?_
  refine H.v 8 (.int .i64 (((i : Nat) : Int) + 1)) fun a H => ?_
  refine wpList_nil (then_normal ?_)
  have H := H.as 8 (.int .i64 ((i + 1 : Nat) : Int)) rfl rfl
  refine ⟨_, ?_, i + 1, k2, l ++ [z], rfl, H.keep (by kernel_rfl), HP, (by omega), hk2, (by rw [List.length_append, hll]; rfl), (by rw [hrel, show os.length - i = (os.length - (i + 1)) + 1 by omega]; exact rdN_step hR)⟩
  omega
 ·have g9p := of_decide_eq_false g9
  refine wp_exit (then_exit (then_exit ?_))
  refine w_exit_here ?_
  refine H.end0 (fn := Tryz.f99) Tryz.results99  ?_
  exact ⟨HP.agree _ (by simp [bx]), .inr ⟨l, kq, by rw [hrel, show os.length - i = 0 by omega]; exact pre_ok _ _, hkq, by omega, rfl, HP.at_ 0 rfl, HP.at_ 1 rfl⟩⟩
end Go.Proofs.YteeillphhiaopaaGreatDoor
