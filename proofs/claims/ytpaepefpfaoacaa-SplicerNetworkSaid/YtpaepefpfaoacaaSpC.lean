/- Contracts of media's Find, Sizes, and of slices.Clone at pictures. -/
import Derived.Test.YtpaepefpfaoacaaSpB
import Derived.WalkLawsBesides
namespace Go.Proofs.Ytpaepefpfaoacaa
open Go.ChangeShapes Go.WideShapes Go.ChangeAt Go.RowKit
set_option linter.unusedVariables false

set_option maxRecDepth 100000 in
theorem find1_any (x it : Int) (A : Option Addr) (n c q : Nat) (w : World) (hq : w.cell? ⟨q, 0, none⟩ = some (.int .i64 it)) :
    Calls Try.prog 50 #[.agg #[.int .i64 x, .slice A n c], .pointer (some ⟨q, 0, none⟩)] w fun e w' => e = .returned (.bool (x == it)) ∧ Below w.heap.size w w' := by
  have b0 := Lib.hid (balloc w (.cells #[.int .i64 x, .slice A n c] 49))
  have hql := World.block_lt_of_cell? w _ hq
  simp only at hql
  go_enter Try.func50, Try.ntmps50
  go_wp2_with fail
  go_ret
  exact ⟨rfl, b0.out⟩
set_option maxRecDepth 100000 in
set_option maxHeartbeats 2000000 in
theorem idxA_any (A : Option Addr) (n c : Nat) (l : List AstA) (it : Int) (q : Nat) (w : World) (h : IsAsts w A n l) (hm : n ≤ maxLen) (hq : w.cell? ⟨q, 0, none⟩ = some (.int .i64 it)) :
    Calls Try.prog 49 #[.slice A n c, .func (.func 50) #[] #[.pointer (some ⟨q, 0, none⟩)]] w fun e w' =>
      ((e = .returned (.int .i64 (-1)) ∧ findA it l = none) ∨ ∃ k, k < n ∧ e = .returned (.int .i64 (k : Nat)) ∧ findA it l = some (l.getD k astZ)) ∧ Below w.heap.size w w' := by
  have H := Lib.hid h
  have HQ := Lib.hid hq
  have hql := World.block_lt_of_cell? w _ hq
  simp only at hql
  have hl := h.1.1
  have hm' : n ≤ 9223372036854775807 := hm
  clear h hq
  go_enter Try.func49, Try.ntmps49
  go_wp2_with fail
  go_loopw [8] (fun i wr => ∃ (k : Nat), k ≤ n ∧ i = .int .i64 k ∧ findA it l = findA it (l.drop k) ∧ Below w.heap.size w wr) (fun i _ => n - (intOf i).toNat)
  case atStart => exact ⟨0, Nat.zero_le _, rfl, rfl, Below.refl _ _⟩
  case round =>
    obtain ⟨k, hk, rfl, hst, hB⟩ := hrel
    have HST := Lib.hid hst
    clear hst
    by_cases hlt : k < n
    · obtain ⟨b, off, rfl, hbl, ca, cb, hok, hmem⟩ := (H.out.below hB).get hlt
      rw [drop_at (d := astZ) (by omega)] at HST
      have HE : Hid (∀ a, l.getD k astZ = a → l.getD k astZ = a) := Lib.hid (fun _ e => e)
      clear hok hmem
      generalize hga : l.getD k astZ = a at *
      have HGA := Lib.hid hga
      clear hga HE
      obtain ⟨x, AA, cc, pp⟩ := a
      simp only at ca cb
      have hcl := find1_any x it AA pp.length cc q wr ((hB.cell (p := ⟨q, 0, none⟩) hql).trans HQ.out)
      have HCL := Lib.hid hcl
      clear hcl
      by_cases j1 : x = it
      · subst j1
        go_wp2_with (go_at_call 50; refine HCL.out.mono ?_; rintro e w2 ⟨rfl, b2⟩; simp only [beq_self_eq_true])
        go_ret
        exact ⟨.inr ⟨k, hlt, rfl, by rw [HST.out, HGA.out]; simp [findA]⟩, bnext hB b2⟩
      · have j1' : (x == it) = false := by simpa using j1
        go_wp2_with (go_at_call 50; refine HCL.out.mono ?_; rintro e w2 ⟨rfl, b2⟩; rw [j1'])
        go_roundw
        case rel => exact ⟨k + 1, by omega, by go_num, by rw [HST.out]; simp [findA, j1], bnext hB b2⟩
        case measure => simp [intOf]; omega
    · go_wp2_with fail
      go_ret
      exact ⟨.inl ⟨rfl, by rw [HST.out, List.drop_of_length_le (by omega)]; rfl⟩, hB⟩
theorem infoPic : (Try.prog.info? 53).map (fun i => (i.zero, i.size, i.bytes)) = some (some (.agg #[.bool false, .string .empty, .int .i64 0]), 3, 32) := by kernel_rfl
theorem infoPic' : ∃ i, Try.prog.info? 53 = some i ∧ i.zero = some (.agg #[.bool false, .string .empty, .int .i64 0]) ∧ i.size = 3 ∧ i.bytes = 32 := by
  have hf := infoPic
  cases hh : Try.prog.info? 53 with
  | none => rw [hh] at hf; cases hf
  | some i =>
    rw [hh] at hf
    simp only [Option.map_some, Option.some.injEq, Prod.mk.injEq] at hf
    exact ⟨i, rfl, hf⟩
theorem pics_ones (l : List PicA) : ∀ u ∈ rowCells PicA.cells l, u.oneCell' = true := by
  intro u hu
  simp only [List.mem_flatMap] at hu
  obtain ⟨a, _, hu⟩ := hu
  simp only [List.mem_cons, List.not_mem_nil, or_false] at hu
  rcases hu with rfl | rfl | rfl <;> rfl
/-- What Find returns: an asset whose pictures are new. -/
def RetFind (r : Option AstA) (w : World) (e : Ending) (w' : World) : Prop :=
  ∃ B c, e = .returned (.tuple #[.agg #[.int .i64 (r.getD astZ).item, .slice B (r.getD astZ).pics.length c], .bool r.isSome]) ∧ IsPics w' B (r.getD astZ).pics.length (r.getD astZ).pics ∧ (r.getD astZ).pics.length ≤ c ∧ c ≤ maxLen ∧ (B = none → c = 0) ∧ Below w.heap.size w w' ∧ (∀ b off, B = some ⟨b, off, none⟩ → w.heap.size ≤ b)
set_option maxRecDepth 100000 in
set_option maxHeartbeats 2000000 in
theorem mfind_any (A : Option Addr) (n c : Nat) (l : List AstA) (it : Int) (w : World) (h : IsAsts w A n l) (hm : n ≤ maxLen) (hp : ∀ a ∈ l, a.pics.length ≤ 2000000) :
    Calls Try.prog 40 #[.slice A n c, .int .i64 it] w fun e w' => RetFind (findA it l) w e w' := by
  obtain ⟨i0, hi0, hz0, hz1, hz2⟩ := infoPic'
  have l0 := balloc w (.cells #[.int .i64 it] 3)
  have L1 := Lib.hid (l0.alloc l0.size (.cells #[.int .i64 0, .slice none 0 0] 49))
  have X0 := Lib.hid ((Box.new w 3 #[.int .i64 it]).next (balloc _ (.cells #[.int .i64 0, .slice none 0 0] 49)))
  have X1 := Lib.hid (Box.new (w.alloc (.cells #[.int .i64 it] 3)) 49 #[.int .i64 0, .slice none 0 0])
  rw [World.size_alloc] at X1
  have HI := Lib.hid (idxA_any A n c l it w.heap.size _ (h.below L1.out) hm (X0.out.cell (i := 0) rfl))
  have H := Lib.hid h
  have HP := Lib.hid hp
  have hl := h.1.1
  have hm' : n ≤ 9223372036854775807 := hm
  clear h l0 hp
  go_enter Try.func40, Try.ntmps40
  go_wp2_with fail
  refine HI.out.mono ?_
  rintro e w1 ⟨hr, bw⟩
  have hx0 := X0.out.next bw
  have hx1 := X1.out.next bw
  have B1 := Lib.hid (bnext L1.out bw)
  have e0 := hx0.cell (i := 0) rfl
  have r0 := hx1.cell (i := 0) rfl
  have r1 := hx1.cell (i := 1) rfl
  have q0 := hx1.frozen 0
  have q1 := hx1.frozen 1
  have hlt0 := hx0.lt
  have hlt1 := hx1.lt
  have Y0 := Lib.hid hx0
  have Y1 := Lib.hid hx1
  clear hx0 hx1 HI
  rcases hr with ⟨rfl, hf⟩ | ⟨k, hk, rfl, hf⟩
  · have HF := Lib.hid hf
    clear hf
    go_wp2_with fail
    refine ret_ast (b := w.heap.size + 1) rfl rfl rfl (by simpa using (Y1.out.set (i := 0) (.int .i64 0)).set (i := 1) (.slice none 0 0)) rfl ?_
    rw [HF.out]
    exact ⟨none, 0, rfl, IsRow.nil _ _, Nat.zero_le _, Nat.zero_le _, fun _ => rfl, (B1.out.setCell (by simp) _).setCell (by simp) _, fun _ _ e => by cases e⟩
  · obtain ⟨b, off, rfl, hbl, ca0, cb0, hok0, hmem⟩ := H.out.get hk
    have hok := hok0.below B1.out
    have ca := (B1.out.cell (p := ⟨b, off + k * 2, none⟩) hbl).trans ca0
    have cb := (B1.out.cell (p := ⟨b, off + k * 2 + 1, none⟩) hbl).trans cb0
    clear ca0 cb0 hok0
    have hfm := (findA_mem hf).2
    have hpl := HP.out _ hmem
    have HF := Lib.hid hf
    obtain ⟨ok1, ok2, ok3, ok4, _⟩ := hok
    have HR := Lib.hid ok1.2
    have HN := Lib.hid ok4
    clear hf hmem ok1 ok4
    generalize l.getD k astZ = a at *
    obtain ⟨x, AA, cc, pp⟩ := a
    simp only at ca cb hfm hpl ok2 ok3 HR HN
    subst hfm
    have hne1 : b ≠ w.heap.size + 1 := by omega
    have hne2 : w.heap.size ≠ w.heap.size + 1 := by omega
    have HNN : Hid (AA = none → pp.length = 0 ∧ cc = 0) := Lib.hid (fun e => by have := HN.out e; omega)
    go_wp2_with fail
    go_region_held3 (fun w' => w'.cell? ⟨w.heap.size, 0, none⟩ = some (.int .i64 x) ∧ w'.cell? ⟨b, off + k * 2 + 1, none⟩ = some (.slice AA pp.length cc))
      (first
        | (exact ⟨gx0, gx1⟩)
        | (exact ⟨by rw [World.cell?_setCell_other _ _ _ _ (by simp), World.cell?_setCell_other _ _ _ _ (by simp)]; exact gx0, by rw [World.cell?_setCell_other _ _ _ _ (by simp), World.cell?_setCell_other _ _ _ _ (by simp)]; exact gx1⟩)
        | (refine ⟨?_, ?_⟩ <;> go_keep))
      (first
        | (refine step_append_rd (w1.drew) rfl (.const (.slice none 0 0)) (.tmp 18) 47 rfl w1.heap.size 53 i0 (.agg #[.bool false, .string .empty, .int .i64 0]) 3 32 Try.underlying47 hi0 hz0 hz1 hz2 rfl (by decide) (.slice none 0 0) 0 [] rfl (World.ownsRow_nil _ _ _ _) AA pp.length cc (rowCells PicA.cells pp) rfl HNN.out (HR.out.below ((Below.refl _ _).drew)) (pics_ones _) (by unfold maxLen; omega) (by omega) (by simp) ?_; intro BB c1 w4 hown1 hgrow1 hat1; have gx0 : w4.cell? ⟨w.heap.size, 0, none⟩ = some (.int .i64 x) := grown_cell hgrow1 (by go_keep) (by simp [Value.ownBlock]); have gx1 : w4.cell? ⟨b, off + k * 2 + 1, none⟩ = some (.slice AA pp.length cc) := grown_cell hgrow1 (by go_keep) (by simp [Value.ownBlock]); have ga0 : w4.cell? ⟨w.heap.size + 1, 0, none⟩ = some (.int .i64 0) := grown_cell hgrow1 (by go_keep) (by simp [Value.ownBlock]); have gf0 : w4.frozen? ⟨w.heap.size + 1, 0, none⟩ = false := (grown_frozen (v := .int .i64 0) hgrow1 (by go_keep) (by simp [Value.ownBlock])).trans (by go_keep); have ga1 : w4.cell? ⟨w.heap.size + 1, 1, none⟩ = some (.slice none 0 0) := grown_cell hgrow1 (by go_keep) (by simp [Value.ownBlock]); have gf1 : w4.frozen? ⟨w.heap.size + 1, 1, none⟩ = false := (grown_frozen (v := .slice none 0 0) hgrow1 (by go_keep) (by simp [Value.ownBlock])).trans (by go_keep); have HG := Lib.hid hgrow1; have HO := Lib.hid hown1; clear hgrow1 hown1 hat1))
    go_wp2_with fail
    simp only [Nat.zero_add, List.nil_append] at HO
    have hb : Below w.heap.size w w4 := (B1.out.drew).grown HG.out B1.out.size (fun k e => by cases e)
    have hx : Box w4 (w.heap.size + 1) 49 #[.int .i64 0, .slice none 0 0] := Box.grown (w := w1.drew) Y1.out HG.out (by simp [Value.ownBlock])
    have h6 : ∀ b' o', BB = some ⟨b', o', none⟩ → w.heap.size + 1 < b' := fun b' o' e => Nat.lt_of_lt_of_le hlt1 (own_base HO.out b' o' e)
    refine ret_ast (b := w.heap.size + 1) rfl rfl rfl (by simpa using (hx.set (i := 0) (.int .i64 x)).set (i := 1) (.slice BB pp.length c1)) rfl ?_
    rw [HF.out]
    have f := own_facts HO.out
    exact ⟨BB, c1, rfl, ⟨rfl, ((Rd.of_own HO.out).set _ h6).set _ h6⟩, f.1, f.2.1, f.2.2, (hb.setCell (by simp) _).setCell (by simp) _, fun b' o' e => by have := h6 b' o' e; omega⟩
/-! ### Clone -/
theorem own_empty (w : World) (t : TypeId) (size : Nat) : (w.alloc (.cells #[] t)).ownsRow w.heap.size t size (.slice (some ⟨w.heap.size, 0, none⟩) 0 0) 0 [] :=
  ⟨by simp, .inr ⟨w.heap.size, 0, #[], rfl, Nat.le_refl _, heap_alloc_new w _, Nat.le_refl _, Nat.zero_le _, by simp, by simp⟩⟩
set_option maxRecDepth 100000 in
set_option maxHeartbeats 1000000 in
theorem clone_any (A : Option Addr) (n c : Nat) (l : List PicA) (w : World) (h : IsPics w A n l) (hA : A = none → c = 0) (hc : n ≤ c) (hm : n ≤ 2000000) :
    Calls Try.prog 25 #[.slice A n c] w fun e w' => ∃ B d, e = .returned (.slice B n d) ∧ IsPics w' B n l ∧ n ≤ d ∧ d ≤ maxLen ∧ (B = none → d = 0) ∧ Below w.heap.size w w' ∧ (∀ b off, B = some ⟨b, off, none⟩ → w.heap.size ≤ b) := by
  obtain ⟨i0, hi0, hz0, hz1, hz2⟩ := infoPic'
  have hl := h.1
  have H := Lib.hid (h.below (balloc w (.cells #[] 53))).2
  have HO := Lib.hid (own_empty w 53 3)
  have hB := Lib.hid (balloc w (.cells #[] 53))
  have qT : ∀ (w : World) (a : Option Addr) (n c : Nat), (binOp .eql 47 (.slice a n c) (.slice none 0 0)).run Try.prog w = .ok (.bool a.isNone) w := fun w a n c => Lib.run_eql_slice_nil w 47 53 a n c 0 0 Try.underlying47
  cases A with
  | none =>
    have := hA rfl
    subst this
    obtain rfl : n = 0 := by omega
    have hl0 : l = [] := List.eq_nil_of_length_eq_zero hl
    subst hl0
    clear h
    go_enter Try.func25, Try.ntmps25
    go_wp2_with fail
    go_ret
    exact ⟨none, 0, rfl, IsRow.nil _ _, Nat.zero_le _, fun _ => rfl, Below.refl _ _, fun _ _ e => by cases e⟩
  | some a =>
    clear h
    go_enter Try.func25, Try.ntmps25
    go_wp2_with (at_builtin; refine wpList_append_rd _ rfl (.tmp 5) (.tmp 6) 47 rfl w.heap.size 53 i0 (.agg #[.bool false, .string .empty, .int .i64 0]) 3 32 Try.underlying47 hi0 hz0 hz1 hz2 rfl (by decide) (.slice (some ⟨w.heap.size, 0, none⟩) 0 0) 0 [] rfl HO.out (some a) n c (rowCells PicA.cells l) rfl (fun e => by cases e) H.out (pics_ones _) (by unfold maxLen; omega) (by omega) (by simp) ?_; intro B1 c1 w4 hown1 hgrow1 hat1; have Hown1 := Lib.hid hown1; have Hg1 := Lib.hid hgrow1; clear hown1 hgrow1 hat1)
    go_ret
    simp only [Nat.zero_add, List.nil_append] at Hown1
    have f := own_facts Hown1.out
    exact ⟨B1, c1, by simp, ⟨hl, Rd.of_own Hown1.out⟩, f.1, f.2.1, f.2.2, hB.out.grown Hg1.out hB.out.size (own_ge HO.out), own_base Hown1.out⟩
end Go.Proofs.Ytpaepefpfaoacaa
