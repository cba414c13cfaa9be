/- Contract of Measure. -/
import Derived.Test.YteaffbipkmncmaaE
namespace Go.Proofs.Yteaffbipkmncmaa
open Go.ChangeShapes Go.WideShapes Go.ChangeAt Go.RowKit Go.Shelf

attribute [local go_sem] Oper.semAt_some

def selI (l : List Pw) (a : Int) : List Int := (l.map (·.1)).filter fun p => decide (a ≤ 10 * p)
theorem selI_snoc (l : List Pw) (x : Pw) (a : Int) : selI (l ++ [x]) a = selI l a ++ if a ≤ 10 * x.1 then [x.1] else [] := by
  unfold selI; rw [List.map_append, List.filter_append]; congr 1; by_cases h : a ≤ 10 * x.1 <;> simp [h]
theorem selI_aud (zs : List Int) (a : Int) : selI (audI zs) a = sel zs a := by
  unfold selI sel
  congr 1
  unfold audI
  induction zs with
  | nil => rfl
  | cons z zs ih =>
    rw [List.filterMap_cons, List.map_cons, List.filter_cons]
    by_cases h : 200 ≤ cl z
    · simp only [h, dif_pos, List.map_cons, decide_true, if_true]; exact congrArg _ ih
    · simp only [h, dif_neg, not_false_iff, decide_false]; exact ih
theorem selI_len (l : List Pw) (a : Int) : (selI l a).length ≤ l.length := by
  unfold selI; exact Nat.le_trans (List.length_filter_le _ _) (by simp)
theorem selI_sum (l : List Pw) (a : Int) : 200 * ((selI l a).length : Int) ≤ (selI l a).sum ∧ (selI l a).sum ≤ 1000000 * ((selI l a).length : Int) := by
  apply sum_bd
  intro p hp
  unfold selI at hp
  simp only [List.mem_filter, List.mem_map] at hp
  obtain ⟨⟨x, _, rfl⟩, _⟩ := hp
  exact x.2

theorem measure_zero (zs : List Int) (h : (sel zs 0).length = 0) : gmean (sel zs (gmean (sel zs 0))) = 0 := by
  have h0 : sel zs 0 = [] := by simpa using h
  rw [h0]
  show gmean (sel zs 0) = 0
  rw [h0]
  rfl

set_option maxRecDepth 100000 in
set_option maxHeartbeats 2000000 in
theorem Measure_any (a : Option Addr) (len cap : Nat) (zs : List Int) (w : World) (h : IsInts w a len zs) (hlen : len ≤ 1000) :
    Calls Try.prog 12 #[.slice a len cap] w fun e w' => e = .returned (.int .i64 (measure zs)) ∧ Below w.heap.size w w' := by
  have H := Lib.hid h
  clear h
  refine (callsIn_wide (n := 8)).1 ?_
  refine callsIn_of_wp_marks Try.func12 rfl trivial ?_ rfl
  simp only [Try.ntmps12, List.size_toArray, List.length_cons, List.length_nil, Nat.reduceAdd, Nat.reduceSub, Array.replicate_succ, Array.replicate_zero, List.push_toArray, List.append_toArray, List.nil_append, List.cons_append]
  gi_wp2_with (refine ⟨trivial, ?_⟩; gi_at_call 20; refine (audible_in _ _ _ _ _).mono ?_; rintro e w' ⟨rfl, rfl⟩)
  obtain ⟨W0, hW0⟩ : ∃ W0, ((w.alloc (Obj.cells #[Value.int IntKind.i64 0] 3)).alloc (Obj.cells #[Value.int IntKind.i64 0] 3)).alloc (Obj.cells #[Value.slice a len cap] 22) = W0 := ⟨_, rfl⟩
  have hB0 : Below w.heap.size w W0 := by rw [← hW0]; exact (((Below.refl _ w).alloc (Nat.le_refl _) _).alloc (by simp) _).alloc (by simp; omega) _
  have hs0 : W0.heap.size = w.heap.size + 1 + 1 + 1 := by rw [← hW0]; simp
  have c0 : W0.cell? ⟨w.heap.size, 0, none⟩ = some (.int .i64 0) ∧ W0.frozen? ⟨w.heap.size, 0, none⟩ = false := by
    rw [← hW0, World.cell?_alloc_lt _ _ _ (by simp; omega), World.frozen?_alloc_old _ _ _ (by simp; omega)]; simp
  have c1 : W0.cell? ⟨w.heap.size + 1, 0, none⟩ = some (.int .i64 0) ∧ W0.frozen? ⟨w.heap.size + 1, 0, none⟩ = false := by
    rw [← hW0, World.cell?_alloc_lt _ _ _ (by simp), World.frozen?_alloc_old _ _ _ (by simp)]; simp
  have c2 : W0.cell? ⟨w.heap.size + 1 + 1, 0, none⟩ = some (.slice a len cap) := by
    rw [← hW0, World.cell?_alloc_at _ _ _ _ (by simp)]; rfl
  rw [hW0]
  clear hW0
  have hIs := H.out.2
  have hI0 : len = 0 ∨ ∃ b off, a = some ⟨b, off, none⟩ ∧ b < w.heap.size ∧ ∀ i, i < len → W0.cell? ⟨b, off + i, none⟩ = some (.int .i64 (zs.getD i 0)) := by
    rcases hIs with h | ⟨b, off, rfl, hb, hc⟩
    · exact .inl h
    · exact .inr ⟨b, off, rfl, hb, fun i hi => (hB0.cell (p := ⟨b, off + i, none⟩) hb).trans (hc i hi)⟩
  have HI := Lib.hid hI0
  have HC0 := Lib.hid c0
  have HC1 := Lib.hid c1
  have HC2 := Lib.hid c2
  clear hIs hI0 c0 c1 c2
  refine wpIn_rangeFunc_ownF (F := Fence.wide) rfl (by omega) (gf := 25) (lb := #[.pointer (some ⟨w.heap.size + 1 + 1, 0, none⟩)]) rfl trivial (enters_of Try.func25 (by kernel_rfl) rfl)
    (audible_stops _ (by omega) (w.heap.size + 1 + 1) w.heap.size a len cap zs hlen W0 (by omega) (by omega) HC2.out H.out.1 HI.out) belowK_t (belowK_b (by omega)) (Below.refl _ _) (fun _ => rfl)
    (fun pre W => (W.cell? ⟨w.heap.size, 0, none⟩ = some (.int .i64 (selI pre 0).sum) ∧ W.frozen? ⟨w.heap.size, 0, none⟩ = false ∧ W.cell? ⟨w.heap.size + 1, 0, none⟩ = some (.int .i64 (selI pre 0).length) ∧ W.frozen? ⟨w.heap.size + 1, 0, none⟩ = false) ∧ Below w.heap.size w W)
    (fun _ _ _ => False)
    (OwnFrom.and (Own.from (fun s A B row hs hg hr => ⟨cell_kept hs.1 hg hr, (frozen_kept hs.1 hg hr).trans hs.2.1, cell_kept hs.2.2.1 hg hr, (frozen_kept hs.2.2.1 hg hr).trans hs.2.2.2⟩) _) (ownFrom_below (Nat.le_refl _) (by omega)))
    (fun _ _ _ _ _ hs _ _ => hs)
    ⟨⟨HC0.out.1, HC0.out.2, HC1.out.1, HC1.out.2⟩, hB0⟩
    (fun x => { tmps := #[.slice a len cap, undef, .int .i64 0, .pointer (some ⟨w.heap.size, 0, none⟩), .pointer (some ⟨w.heap.size + 1, 0, none⟩), .int .i64 x.1, undef, undef, .slice a len cap, .func (.func 25) #[] #[.pointer (some ⟨w.heap.size + 1 + 1, 0, none⟩)], .int .i64 x.1, undef, undef, undef, undef, undef, undef, undef, undef, undef, undef, undef, undef, undef, undef, undef, undef, undef, undef, undef, undef, undef, undef, undef, undef, undef], defers := [] }) ?assign ?body ?done ?stop
  case assign =>
    intro l x W K hK
    gi_wp2
    exact hK
  case body =>
    rintro l pre x W ⟨⟨hc0, hf0, hc1, hf1⟩, hB⟩ hpre
    obtain ⟨x, hx1, hx2⟩ := x
    have hsn := Lib.hid (selI_snoc pre ⟨x, hx1, hx2⟩ 0)
    have hs := selI_sum pre 0
    have hn := selI_len pre 0
    generalize hSS : (selI pre 0).sum = S at *
    generalize hNN : (selI pre 0).length = N at *
    have HSS := Lib.hid hSS
    have HNN := Lib.hid hNN
    clear hSS hNN
    dsimp only
    gi_wp2
    have hsn2 : selI (pre ++ [⟨x, hx1, hx2⟩]) 0 = selI pre 0 ++ [x] := by rw [hsn.out, if_pos (by omega)]
    refine ⟨(KeepsOthers.setCell _ _ _).trans (KeepsOthers.setCell _ _ _), ((Below.refl w.heap.size W).setCell (p := ⟨w.heap.size, 0, none⟩) (Nat.le_refl _) _).setCell (p := ⟨w.heap.size + 1, 0, none⟩) (by simp) _, ?_, (hB.setCell (p := ⟨w.heap.size, 0, none⟩) (Nat.le_refl _) _).setCell (p := ⟨w.heap.size + 1, 0, none⟩) (by simp) _⟩
    rw [hsn2, World.frozen?_setCell, World.frozen?_setCell, World.frozen?_setCell, World.frozen?_setCell]
    refine ⟨?_, hf0, ?_, hf1⟩
    · rw [World.cell?_setCell_other _ _ _ _ (by simp), World.cell?_setCell_same' _ _ _ (by rw [hc0]; rfl)]; simp [HSS.out]
    · rw [World.cell?_setCell_same' _ _ _ (by rw [World.cell?_setCell_other _ _ _ _ (by simp), hc1]; rfl)]; simp [HNN.out]
  case done =>
    rintro D ys W hD rfl ⟨⟨hc0, hf0, hc1, hf1⟩, hB⟩ hK
    rw [selI_aud] at hc0 hc1
    have hs := sel_sum zs 0
    have hn := sel_len zs 0
    have hzl : zs.length ≤ 1000 := by have := H.out.1; omega
    have hsome := Lib.hid (sel_some zs)
    have hM : measure zs = gmean (sel zs (gmean (sel zs 0))) := rfl
    have HM := Lib.hid hM
    clear hM
    have hG : gmean (sel zs 0) = if (sel zs 0).length = 0 then 0 else (sel zs 0).sum / ((sel zs 0).length : Int) := rfl
    have HG := Lib.hid hG
    clear hG
    generalize (sel zs 0).sum = S at *
    generalize hNN : (sel zs 0).length = N at *
    have H0 := Lib.hid hNN
    clear hNN
    have hl0 : w.heap.size < W.heap.size := World.block_lt_of_cell? W _ hc0
    have hl1 : w.heap.size + 1 < W.heap.size := World.block_lt_of_cell? W _ hc1
    by_cases h0 : N = 0
    · subst h0
      gi_wp2
      refine ⟨by simp, .inl ⟨_, _, rfl, run_takeDeferred hK, ?_⟩⟩
      refine ⟨_, results_tmp rfl _ _ _, ?_, hB.trans (belowK_b (w := w) (Nat.le_refl _) W D _ _ (by omega) hK rfl rfl)⟩
      exact ret_int (by rw [HM.out, measure_zero zs H0.out])
    · have hN : ((N : Int) == 0) = false := by simpa using h0
      have hN1 : 1 ≤ N := by omega
      gi_wp2_with (refine ⟨trivial, ?_⟩; gi_at_call 20; refine (audible_in _ _ _ _ _).mono ?_; rintro e w' ⟨rfl, rfl⟩)
      obtain ⟨W1, hW1⟩ : ∃ W1, (((W.setCell ⟨w.heap.size, 0, none⟩ (Value.int IntKind.i64 0)).setCell ⟨w.heap.size + 1, 0, none⟩ (Value.int IntKind.i64 0)).alloc (Obj.cells #[Value.int IntKind.i64 (S / ↑N)] 3)).alloc (Obj.cells #[Value.slice a len cap] 22) = W1 := ⟨_, rfl⟩
      have hB1 : Below w.heap.size w W1 := by
        rw [← hW1]
        exact (((hB.setCell (p := ⟨w.heap.size, 0, none⟩) (Nat.le_refl _) _).setCell (p := ⟨w.heap.size + 1, 0, none⟩) (by simp) _).alloc (by simp; omega) _).alloc (by simp; omega) _
      have hs1 : W1.heap.size = W.heap.size + 1 + 1 := by rw [← hW1]; simp
      have d0 : W1.cell? ⟨w.heap.size, 0, none⟩ = some (.int .i64 0) ∧ W1.frozen? ⟨w.heap.size, 0, none⟩ = false := by
        rw [← hW1, World.cell?_alloc_lt _ _ _ (by simp; omega), World.cell?_alloc_lt _ _ _ (by simp; omega), World.frozen?_alloc_old _ _ _ (by simp; omega), World.frozen?_alloc_old _ _ _ (by simp; omega), World.cell?_setCell_other _ _ _ _ (by simp), World.cell?_setCell_same' _ _ _ (by rw [hc0]; rfl), World.frozen?_setCell, World.frozen?_setCell]
        exact ⟨rfl, hf0⟩
      have d1 : W1.cell? ⟨w.heap.size + 1, 0, none⟩ = some (.int .i64 0) ∧ W1.frozen? ⟨w.heap.size + 1, 0, none⟩ = false := by
        rw [← hW1, World.cell?_alloc_lt _ _ _ (by simp; omega), World.cell?_alloc_lt _ _ _ (by simp; omega), World.frozen?_alloc_old _ _ _ (by simp; omega), World.frozen?_alloc_old _ _ _ (by simp; omega), World.cell?_setCell_same' _ _ _ (by rw [World.cell?_setCell_other _ _ _ _ (by simp), hc1]; rfl), World.frozen?_setCell, World.frozen?_setCell]
        exact ⟨rfl, hf1⟩
      have d2 : W1.cell? ⟨W.heap.size, 0, none⟩ = some (.int .i64 (S / ↑N)) := by
        rw [← hW1, World.cell?_alloc_lt _ _ _ (by simp), World.cell?_alloc_at _ _ _ _ (by simp)]; rfl
      have d3 : W1.cell? ⟨W.heap.size + 1, 0, none⟩ = some (.slice a len cap) := by
        rw [← hW1, World.cell?_alloc_at _ _ _ _ (by simp)]; rfl
      have hK1 : W1.heap[D]? = some (.deferred (some [])) := by
        rw [← hW1]
        exact ((((KeepsOthers.setCell _ _ _).trans (KeepsOthers.setCell _ _ _)).trans (KeepsOthers.alloc _ _)).trans (KeepsOthers.alloc _ _)).same D _ hK rfl
      have hDlt : D < W1.heap.size := (Array.getElem?_eq_some_iff.1 hK1).1
      rw [hW1]
      have hdiv : S / (N : Int) = gmean (sel zs 0) := by rw [HG.out, if_neg h0]
      have hm1 := gmean_bd zs 0
      rw [hdiv] at d2 ⊢
      generalize hmm : gmean (sel zs 0) = m at *
      have HM2 : Hid (measure zs = gmean (sel zs m)) := HM
      have hN2 := hsome.out h0
      clear hW1 HM hsome hmm hdiv HG
      have HD0 := Lib.hid d0
      have HD1 := Lib.hid d1
      have HD2 := Lib.hid d2
      have HD3 := Lib.hid d3
      have HK1 := Lib.hid hK1
      have hI1 : len = 0 ∨ ∃ b off, a = some ⟨b, off, none⟩ ∧ b < w.heap.size ∧ ∀ i, i < len → W1.cell? ⟨b, off + i, none⟩ = some (.int .i64 (zs.getD i 0)) := by
        rcases H.out.2 with h | ⟨b, off, rfl, hb, hc⟩
        · exact .inl h
        · exact .inr ⟨b, off, rfl, hb, fun i hi => (hB1.cell (p := ⟨b, off + i, none⟩) hb).trans (hc i hi)⟩
      have HI1 := Lib.hid hI1
      clear d0 d1 d2 d3 hK1 hI1 hc0 hc1 hf0 hf1 hK
      refine wpIn_rangeFunc_ownF (F := Fence.wide) rfl (by omega) (gf := 25) (lb := #[.pointer (some ⟨W.heap.size + 1, 0, none⟩)]) rfl trivial (enters_of Try.func25 (by kernel_rfl) rfl)
        (audible_stops _ (by omega) (W.heap.size + 1) w.heap.size a len cap zs hlen W1 (by omega) (by omega) HD3.out H.out.1 HI1.out) belowK_t (belowK_b (by omega)) (Below.refl _ _) (fun _ => rfl)
        (fun pre V => ((V.cell? ⟨w.heap.size, 0, none⟩ = some (.int .i64 (selI pre m).sum) ∧ V.frozen? ⟨w.heap.size, 0, none⟩ = false ∧ V.cell? ⟨w.heap.size + 1, 0, none⟩ = some (.int .i64 (selI pre m).length) ∧ V.frozen? ⟨w.heap.size + 1, 0, none⟩ = false ∧ V.cell? ⟨W.heap.size, 0, none⟩ = some (.int .i64 m)) ∧ Below w.heap.size w V) ∧ V.heap[D]? = some (.deferred (some [])))
        (fun _ _ _ => False)
        (OwnFrom.and (OwnFrom.and (Own.from (fun s A B row hs hg hr => ⟨cell_kept hs.1 hg hr, (frozen_kept hs.1 hg hr).trans hs.2.1, cell_kept hs.2.2.1 hg hr, (frozen_kept hs.2.2.1 hg hr).trans hs.2.2.2.1, cell_kept hs.2.2.2.2 hg hr⟩) _) (ownFrom_below (Nat.le_refl _) (by omega)))
          (fun s A B row hs hg hr => by rw [hg.block D (Array.getElem?_eq_some_iff.1 hs).1 (fun e => by have := (hr D e.symm).1; omega)]; exact hs))
        (fun _ _ _ _ _ hs _ _ => hs)
        ⟨⟨⟨HD0.out.1, HD0.out.2, HD1.out.1, HD1.out.2, HD2.out⟩, hB1⟩, HK1.out⟩
        (fun x => { tmps := #[.slice a len cap, undef, .int .i64 0, .pointer (some ⟨w.heap.size, 0, none⟩), .pointer (some ⟨w.heap.size + 1, 0, none⟩), undef, .pointer (some ⟨W.heap.size, 0, none⟩), .int .i64 x.1, .slice a len cap, .func (.func 25) #[] #[.pointer (some ⟨w.heap.size + 1 + 1, 0, none⟩)], undef, undef, undef, undef, undef, undef, .int .i64 N, .bool false, .int .i64 S, .int .i64 N, .int .i64 m, .slice a len cap, .func (.func 25) #[] #[.pointer (some ⟨W.heap.size + 1, 0, none⟩)], .int .i64 x.1, undef, undef, undef, undef, undef, undef, undef, undef, undef, undef, undef, undef], defers := [] }) ?assign2 ?body2 ?done2 ?stop2
      case assign2 =>
        intro l x V K hK
        gi_wp2
        exact hK
      case body2 =>
        rintro l pre x V ⟨⟨⟨hc0, hf0, hc1, hf1, hc2⟩, hBV⟩, hKV⟩ hpre
        obtain ⟨x, hx1, hx2⟩ := x
        have hsn := Lib.hid (selI_snoc pre ⟨x, hx1, hx2⟩ m)
        have hs := selI_sum pre m
        have hn := selI_len pre m
        generalize hSS : (selI pre m).sum = S2 at *
        generalize hNN : (selI pre m).length = N2 at *
        have HSS := Lib.hid hSS
        have HNN := Lib.hid hNN
        clear hSS hNN
        dsimp only
        have HKV := Lib.hid hKV
        clear hKV
        by_cases hx : m ≤ 10 * x
        · gi_wp2
          have hsn2 : selI (pre ++ [⟨x, hx1, hx2⟩]) m = selI pre m ++ [x] := by rw [hsn.out, if_pos hx]
          have hko := (KeepsOthers.setCell V ⟨w.heap.size, 0, none⟩ (Value.int IntKind.i64 (S2 + x))).trans (KeepsOthers.setCell _ ⟨w.heap.size + 1, 0, none⟩ (Value.int IntKind.i64 (N2 + 1)))
          refine ⟨hko, ((Below.refl w.heap.size V).setCell (p := ⟨w.heap.size, 0, none⟩) (Nat.le_refl _) _).setCell (p := ⟨w.heap.size + 1, 0, none⟩) (by simp) _, ⟨?_, (hBV.setCell (p := ⟨w.heap.size, 0, none⟩) (Nat.le_refl _) _).setCell (p := ⟨w.heap.size + 1, 0, none⟩) (by simp) _⟩, hko.same D _ HKV.out rfl⟩
          rw [hsn2, World.frozen?_setCell, World.frozen?_setCell, World.frozen?_setCell, World.frozen?_setCell]
          refine ⟨?_, hf0, ?_, hf1, ?_⟩
          · rw [World.cell?_setCell_other _ _ _ _ (by simp), World.cell?_setCell_same' _ _ _ (by rw [hc0]; rfl)]; simp [HSS.out]
          · rw [World.cell?_setCell_same' _ _ _ (by rw [World.cell?_setCell_other _ _ _ _ (by simp), hc1]; rfl)]; simp [HNN.out]
          · rw [World.cell?_setCell_other _ _ _ _ (by simp), World.cell?_setCell_other _ _ _ _ (by simp)]; exact hc2
        · have hx' : decide (m ≤ 10 * x) = false := by simpa using hx
          gi_wp2
          have hsn2 : selI (pre ++ [⟨x, hx1, hx2⟩]) m = selI pre m := by rw [hsn.out, if_neg (by omega), List.append_nil]
          refine ⟨KeepsOthers.refl _, Below.refl _ _, ⟨?_, hBV⟩, HKV.out⟩
          rw [hsn2, HSS.out, HNN.out]
          exact ⟨hc0, hf0, hc1, hf1, hc2⟩
      case done2 =>
        rintro D2 ys V hD2 rfl ⟨⟨⟨hc0, hf0, hc1, hf1, hc2⟩, hBV⟩, hKV⟩ hK2
        rw [selI_aud] at hc0 hc1
        have hs := sel_sum zs m
        have hn := sel_len zs m
        have hG : gmean (sel zs m) = if (sel zs m).length = 0 then 0 else (sel zs m).sum / ((sel zs m).length : Int) := rfl
        have HG := Lib.hid hG
        clear hG
        have HKV := Lib.hid hKV
        have HK2 := Lib.hid hK2
        clear hKV hK2
        generalize (sel zs m).sum = S2 at *
        generalize (sel zs m).length = N2 at *
        have hN3 : ((N2 : Int) == 0) = false := by simpa using hN2
        have hN4 : 1 ≤ N2 := by omega
        gi_wp2
        have hDne : D ≠ D2 := by omega
        have hKV2 : (V.putObj D2 (.deferred none)).heap[D]? = some (.deferred (some [])) := by rw [World.putObj_heap_other hDne]; exact HKV.out
        refine ⟨by simp, .inl ⟨_, _, rfl, run_takeDeferred HK2.out, ?_⟩⟩
        refine ⟨by simp, .inl ⟨_, _, rfl, run_takeDeferred hKV2, ?_⟩⟩
        refine ⟨_, results_tmp rfl _ _ _, ?_, (hBV.trans (belowK_b (w := w) (Nat.le_refl _) V D2 _ _ (by omega) HK2.out rfl rfl)).trans (belowK_b (w := w) (Nat.le_refl _) _ D _ _ (by omega) hKV2 rfl rfl)⟩
        exact ret_int (by rw [HM2.out, HG.out, if_neg hN2])
      case stop2 =>
        rintro D c pre W _ _ h _
        exact h.elim
  case stop =>
    rintro D c pre W _ _ h _
    exact h.elim
end Go.Proofs.Yteaffbipkmncmaa
