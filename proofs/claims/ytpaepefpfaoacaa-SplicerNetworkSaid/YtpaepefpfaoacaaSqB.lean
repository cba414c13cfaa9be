/- Contracts of file, library. -/
import Derived.Test.YtpaepefpfaoacaaSqA
import Derived.Test.YtpaepefpfaoacaaSpO
import Derived.Laws.BytesString
namespace Go.Proofs.Ytpaepefpfaoacaa
open Go.ChangeShapes Go.WideShapes Go.ChangeAt Go.RowKit
set_option linter.unusedVariables false
set_option linter.unusedSimpArgs false

/-- A string of zeros. -/
def zeroS (n : Nat) : ByteArray := (List.replicate n (0 : Int)).foldl (fun r n => r.push (UInt8.ofNat n.toNat)) ByteArray.empty
theorem zeroS_size (n : Nat) : (zeroS n).size = n := by
  have : ∀ (k : Nat) (b : ByteArray), ((List.replicate k (0 : Int)).foldl (fun r n => r.push (UInt8.ofNat n.toNat)) b).size = b.size + k := by
    intro k
    induction k with
    | zero => intro b; rfl
    | succ k ih => intro b; rw [List.replicate_succ, List.foldl_cons, ih, ByteArray.size_push]; omega
  rw [zeroS, this]
  simp
section
variable {P : Program} {ρ : Operand → Value} {w : World} {t e : TypeId} {x y : Operand} {dst : Option Tmp} {ty : TypeId} {pos : String} {af : Array Edge} {g : Option (Nat × Bool)} {n : Nat} {k : IntKind}
theorem ex_make (hx : ρ x = .int k n) (hy : ρ y = .int k n) (hu : P.underlying t = some (.slice e)) (hinf : infoB P e = some (some (.int .u8 0), 1, 1)) (hn : n ≤ 1000000) :
    (execOp ρ ⟨dst, .makeSlice t x y, ty, pos, af, g⟩).run P w = .ok (.value (.slice (some ⟨w.heap.size, 0, none⟩) n n)) (w.alloc (.cells (List.replicate n (.int .u8 0)).toArray e)) := by
  obtain ⟨i, h1, h2, h3, h4⟩ := infoB_spec hinf
  have := run_makeSlice (P := P) w t e i (.int .u8 0) hu h1 h2 k k (n : Int) (n : Int) (by omega) (by omega) (by rw [h3]; omega) (by rw [h4]; omega) (by omega)
  simp only [execOp, hx, hy, Sem.run_bind, this, Result.andThen_ok, Sem.run_pure]
  have hm : madeCells (Value.int IntKind.u8 0).cells ((n : Int).toNat * i.size) = (List.replicate n (Value.int .u8 0)).toArray := by
    rw [h3]
    apply Array.ext
    · simp [madeCells]
    · intro j h1 h2
      simp [madeCells, Value.cells, Nat.mod_one]
  rw [hm]
  simp
theorem ex_b2s {src td : TypeId} {b tb : Nat} (hx : ρ x = .slice (some ⟨b, 0, none⟩) n n) (hb : Box w b tb (List.replicate n (.int .u8 0)).toArray) (hs : P.underlying src = some (.slice e)) (he : P.underlying e = some (.int .u8)) (hd : P.underlying td = some .string) :
    (execOp ρ ⟨dst, .convert src td x, ty, pos, af, g⟩).run P w = .ok (.value (.string (zeroS n))) w := by
  have hl : (loadCells ⟨b, 0, none⟩ n).run P w = .ok ((List.replicate n (0 : Int)).map (Value.int .u8)).toArray w := by
    have := run_loadCellsFrom (P := P) (w := w) (b := b) (off := 0) (List.replicate n (Value.int .u8 0)) 0 #[] fun j v hj => by
      rw [Nat.zero_add, Nat.zero_add]
      exact hb.cell (by rw [List.getElem?_toArray]; exact hj)
    simp only [List.length_replicate] at this
    unfold loadCells
    rw [this]
    simp
  have := run_bytesToString (P := P) w ⟨b, 0, none⟩ n n (List.replicate n 0) hl
  simp [execOp, hx, convert, underlying, program, Sem.run_bind, Sem.run, hs, he, hd, this, zeroS]
end
/-- The pictures of a file. -/
def picAt (K Y R i : Nat) : PicA := ⟨((i % K : Nat) : Int) == 0, zeroS (if ((i % K : Nat) : Int) == 0 then Y else R), 20000⟩
def filePics (K Y R n : Nat) : List PicA := (List.range n).map (picAt K Y R)
theorem filePics_snoc {K Y R j q : Nat} {b : Bool} (h : (((j % K : Nat) : Int) == 0) = b) (hq : q = if b = true then Y else R := by first | rfl | simp) : filePics K Y R j ++ [⟨((j % K : Nat) : Int) == 0, zeroS q, 20000⟩] = filePics K Y R (j + 1) := by
  subst hq
  unfold filePics
  rw [List.range_succ, List.map_append]
  simp only [List.map_cons, List.map_nil, picAt, h]
theorem filePics_len (K Y R n : Nat) : (filePics K Y R n).length = n := by simp [filePics]
def RetFile (it : Int) (l : List PicA) (w : World) (e : Ending) (w' : World) : Prop :=
  ∃ B c, e = .returned (.agg #[.int .i64 it, .slice B l.length c]) ∧ IsPics w' B l.length l ∧ l.length ≤ c ∧ c ≤ maxLen ∧ (B = none → c = 0) ∧ Below w.heap.size w w' ∧ (∀ b off, B = some ⟨b, off, none⟩ → w.heap.size ≤ b)
theorem file_end {it : Int} {l : List PicA} {w w' : World} {B : Option Addr} {c n : Nat} (h : w'.ownsRow w.heap.size 53 3 (.slice B l.length c) l.length (flat PicA.cells l)) (hn : l.length = n) (hf : ∀ k, ((Value.slice B l.length c).ownBlock = some k ∨ ∃ a ∈ l, False) → w.heap.size ≤ k) (hb : Below w.heap.size w w') :
    RetFile it l w (.returned (.agg #[.int .i64 it, .slice B n c])) w' := by
  subst hn
  have f := own_facts h
  exact ⟨B, c, rfl, ⟨rfl, Rd.of_own h⟩, f.1, f.2.1, f.2.2, hb, fun b off e => hf b (.inl (by rw [e]; rfl))⟩
/-- pick, as a natural number. -/
def pickN (c n : Int) : Nat := (pickI c n).toNat
theorem pickN_eq (c n : Int) (hn : 0 < n) : ((pickN c n : Nat) : Int) = pickI c n := by
  have := pickI_lt c n hn
  unfold pickN
  omega
theorem pickN_lt (c n : Int) (hn : 0 < n) : ((pickN c n : Nat) : Int) < n := by
  have := pickI_lt c n hn
  unfold pickN
  omega
set_option maxRecDepth 100000 in
set_option maxHeartbeats 8000000 in
theorem file_any (it : Int) (N K Y R : Nat) (w : World) (hN : N ≤ 1000) (hK : 1 ≤ K) (hK' : K ≤ 1000) (hY : Y ≤ 1000) (hR : R ≤ 1000) :
    Calls Try.prog 23 #[.int .i64 it, .int .i64 ((N : Nat) : Int), .int .i64 ((K : Nat) : Int), .int .i64 ((Y : Nat) : Int), .int .i64 ((R : Nat) : Int)] w fun e w' => RetFile it (filePics K Y R N) w e w' := by
  have HP := Hp.start w
  refine w_enter 42 [(0, (.int .i64 it)), (1, (.int .i64 ((N : Nat) : Int))), (2, (.int .i64 ((K : Nat) : Int))), (3, (.int .i64 ((Y : Nat) : Int))), (4, (.int .i64 ((R : Nat) : Int)))] Try.func23 rfl Try.ntmps23 (by kernel_rfl) (by kernel_rfl) ?_
  intro a H
  refine wp_seq ?_
  refine w_region ?_
  refine H.alloc HP 10 (fun b => (.pointer (some ⟨b, 0, none⟩))) 49 [(.int .i64 0), (.slice none 0 0)] (by kernel_rfl) (fun w => by kernel_rfl) ?_
  intro b_1 w_2 a H HP
  refine wpList_nil ?_
  refine then_normal ?_
  refine wp_seq ?_
  refine w_region ?_
  refine H.val 14 (.int .i64 it) (by kernel_rfl) (by kernel_rfl) ?_
  intro a H
  refine H.val 15 (.agg #[(.int .i64 it), (.slice none 0 0)]) (by kernel_rfl) (by kernel_rfl) ?_
  intro a H
  refine H.alloc HP 11 (fun b => (.pointer (some ⟨b, 0, none⟩))) 49 [(.int .i64 0), (.slice none 0 0)] (by kernel_rfl) (fun w => by kernel_rfl) ?_
  intro b_3 w_4 a H HP
  refine H.store HP 0 b_3 0 2 49 [(.int .i64 0), (.slice none 0 0)] true (.agg #[(.int .i64 it), (.slice none 0 0)]) [bx b_3 49 [(.int .i64 it), (.slice none 0 0)] true, bx b_1 49 [(.int .i64 0), (.slice none 0 0)] true] (by kernel_rfl) (by kernel_rfl) (by kernel_rfl) rfl (by kernel_rfl) (by kernel_rfl) (by kernel_rfl) (by kernel_rfl) (by kernel_rfl) ?_
  intro w_5 a H HP
  refine wpList_nil ?_
  refine then_normal ?_
  refine wp_seq ?_
  refine wp_seq ?_
  refine w_region ?_
  refine H.val 12 (.int .i64 0) (by kernel_rfl) (by kernel_rfl) ?_
  intro a H
  refine wpList_nil ?_
  refine then_normal ?_
  refine wp_block ?_
  have HP := HP.nilRow w.heap.size 53 3 PicA.cells (fun _ _ => True) (fun _ _ => False) elOk_flat
  refine w_loop (fun mm a v => ∃ (j : Nat), ∃ (PA : Option Addr), ∃ (pc : Nat), ∃ (l' : List PicA), N - j = mm ∧ Sl 42 [(12, (.int .i64 ((j : Nat) : Int))), (11, (.pointer (some ⟨b_3, 0, none⟩))), (10, (.pointer (some ⟨b_1, 0, none⟩))), (0, (.int .i64 it)), (1, (.int .i64 ((N : Nat) : Int))), (2, (.int .i64 ((K : Nat) : Int))), (3, (.int .i64 ((Y : Nat) : Int))), (4, (.int .i64 ((R : Nat) : Int)))] a ∧ Hp w v [(rowsR w.heap.size 53 3 PicA.cells (fun _ _ => True) (fun _ _ => False) (.slice PA l'.length pc) l'), bx b_3 49 [(.int .i64 it), (.slice PA l'.length pc)] true, bx b_1 49 [(.int .i64 0), (.slice none 0 0)] true] [] ∧ (j ≤ N) ∧ (l' = filePics K Y R j)) (N - 0) ?_ ?_
  · exact ⟨0, none, 0, [], (by omega), H.keep (by kernel_rfl), HP, by omega, rfl⟩
  rintro mm a w_6 ⟨j, PA, pc, l', hmeas, H, HP, hj, hl⟩
  have hll : l'.length = j := by rw [hl]; simp [filePics]
  refine wp_seq ?_
  refine wp_seq ?_
  refine w_region ?_
  refine H.val 16 (.int .i64 ((j : Nat) : Int)) (by kernel_rfl) (by kernel_rfl) ?_
  intro a H
  refine H.val 17 (.int .i64 ((N : Nat) : Int)) (by kernel_rfl) (by kernel_rfl) ?_
  intro a H
  refine H.val 18 (.bool (decide (((j : Nat) : Int) < ((N : Nat) : Int)))) (by kernel_rfl) (by kernel_rfl) ?_
  intro a H
  refine wpList_nil ?_
  refine then_normal ?_
  refine w_if H rfl (fun g18 => ?_) (fun g18 => ?_)
  · have g18p := of_decide_eq_true g18
    refine wp_skip ?_
    refine then_normal ?_
    refine wp_seq ?_
    refine wp_block ?_
    refine w_cut (fun a v => ∃ (bP : Nat), Sl 42 [(13, (.pointer (some ⟨bP, 0, none⟩))), (10, (.pointer (some ⟨b_1, 0, none⟩))), (11, (.pointer (some ⟨b_3, 0, none⟩))), (12, (.int .i64 ((j : Nat) : Int))), (0, (.int .i64 it)), (1, (.int .i64 ((N : Nat) : Int))), (2, (.int .i64 ((K : Nat) : Int))), (3, (.int .i64 ((Y : Nat) : Int))), (4, (.int .i64 ((R : Nat) : Int)))] a ∧ Hp w v [bx bP 53 [(.bool (((j % K : Nat) : Int) == 0)), (.string (zeroS R)), (.int .i64 20000)] true, (rowsR w.heap.size 53 3 PicA.cells (fun _ _ => True) (fun _ _ => False) (.slice PA l'.length pc) l'), bx b_3 49 [(.int .i64 it), (.slice PA l'.length pc)] true, bx b_1 49 [(.int .i64 0), (.slice none 0 0)] true] []) ?_ ?_
    ·
      refine An.start (fun v => Hp w v [(rowsR w.heap.size 53 3 PicA.cells (fun _ _ => True) (fun _ _ => False) (.slice PA l'.length pc) l'), bx b_3 49 [(.int .i64 it), (.slice PA l'.length pc)] true, bx b_1 49 [(.int .i64 0), (.slice none 0 0)] true] []) 9 10 HP wide_follows rfl ?_
      intro w_7 HP
      refine An.pure H (.inr (HP)) 0 21 (.int .i64 ((j : Nat) : Int)) rfl (by kernel_rfl) (by kernel_rfl) (fun _ _ _ h => h) (fun _ => by kernel_rfl) ?_
      intro a H
      refine An.pure H (.inr (HP)) 1 22 (.int .i64 ((K : Nat) : Int)) rfl (by kernel_rfl) (by kernel_rfl) (fun _ _ _ h => h) (fun _ => by kernel_rfl) ?_
      intro a H
      refine An.pureE H (.inr (HP)) 2 23 (.int .i64 (((j : Nat) : Int).tmod ((K : Nat) : Int))) (.int .i64 ((j % K : Nat) : Int)) rfl (by kernel_rfl) (by kernel_rfl) (fun _ _ _ h => h) (fun _ => ex_rem (k := .i64) (by kernel_rfl) (by kernel_rfl) (by omega)) ((congrArg (Value.int .i64) (by rw [tmod_nn _ _ (by omega)]; exact (Int.natCast_emod j K).symm))) ?_
      intro a H
      refine An.pure H (.inr (HP)) 3 24 (.bool (((j % K : Nat) : Int) == 0)) rfl (by kernel_rfl) (by kernel_rfl) (fun _ _ _ h => h) (fun _ => by kernel_rfl) ?_
      intro a H
      refine An.pure H (.inr (HP)) 4 25 (.int .i64 ((R : Nat) : Int)) rfl (by kernel_rfl) (by kernel_rfl) (fun _ _ _ h => h) (fun _ => by kernel_rfl) ?_
      intro a H
      refine An.two 5 8 (by kernel_rfl) ?_ ?_
      · refine Op.alloc H HP 26 (fun b => (.slice (some ⟨b, 0, none⟩) R R)) 5 (List.replicate R (.int .u8 0)) rfl (by kernel_rfl) (fun w => ex_make (n := R) (e := 5) (k := .i64) (by kernel_rfl) (by kernel_rfl) (by kernel_rfl) (by kernel_rfl) (by omega)) ?_
        intro b_8 w_9 a H HP
        refine ⟨.inr ((HP.tail rfl)), ?_⟩
        refine An.two 6 8 (by kernel_rfl) ?_ ?_
        · refine Op.val H 27 (.string (zeroS R)) rfl (by kernel_rfl) (ex_b2s (n := R) (e := 5) (by kernel_rfl) (HP.at_ 0 rfl) (by kernel_rfl) (by kernel_rfl) (by kernel_rfl)) ?_
          intro a H
          refine ⟨.inr ((HP.tail rfl)), ?_⟩
          refine An.pure H (.inr ((HP.tail rfl))) 7 28 (.agg #[(.bool (((j % K : Nat) : Int) == 0)), (.string (zeroS R)), (.int .i64 20000)]) rfl (by kernel_rfl) (by kernel_rfl) (fun _ _ _ h => h) (fun _ => by kernel_rfl) ?_
          intro a H
          refine An.one 8 (by kernel_rfl) ?_
          refine Op.alloc H HP 13 (fun b => (.pointer (some ⟨b, 0, none⟩))) 53 [(.bool false), (.string (ByteArray.mk #[])), (.int .i64 0)] rfl (by kernel_rfl) (fun w => by kernel_rfl) ?_
          intro b_10 w_11 a H HP
          refine ⟨.inr (((HP.tail rfl).tail rfl)), ?_⟩
          refine An.one 9 (by kernel_rfl) ?_
          refine Op.store H HP 0 b_10 0 3 53 [(.bool false), (.string (ByteArray.mk #[])), (.int .i64 0)] true (.agg #[(.bool (((j % K : Nat) : Int) == 0)), (.string (zeroS R)), (.int .i64 20000)]) [bx b_10 53 [(.bool (((j % K : Nat) : Int) == 0)), (.string (zeroS R)), (.int .i64 20000)] true, bx b_8 5 (List.replicate R (.int .u8 0)) true, (rowsR w.heap.size 53 3 PicA.cells (fun _ _ => True) (fun _ _ => False) (.slice PA l'.length pc) l'), bx b_3 49 [(.int .i64 it), (.slice PA l'.length pc)] true, bx b_1 49 [(.int .i64 0), (.slice none 0 0)] true] rfl (by kernel_rfl) (by kernel_rfl) (by kernel_rfl) rfl (by kernel_rfl) (by kernel_rfl) (by kernel_rfl) (by kernel_rfl) (by kernel_rfl) ?_
          intro w_12 a H HP
          refine ⟨.inl (by kernel_rfl), ?_⟩
          refine An.done (by kernel_rfl) ?_
          have H := H.keep (L' := [(13, (.pointer (some ⟨b_10, 0, none⟩))), (18, (.bool (decide (((j : Nat) : Int) < ((N : Nat) : Int))))), (17, (.int .i64 ((N : Nat) : Int))), (16, (.int .i64 ((j : Nat) : Int))), (12, (.int .i64 ((j : Nat) : Int))), (11, (.pointer (some ⟨b_3, 0, none⟩))), (10, (.pointer (some ⟨b_1, 0, none⟩))), (0, (.int .i64 it)), (1, (.int .i64 ((N : Nat) : Int))), (2, (.int .i64 ((K : Nat) : Int))), (3, (.int .i64 ((Y : Nat) : Int))), (4, (.int .i64 ((R : Nat) : Int)))]) (by kernel_rfl)
          refine then_normal ?_
          exact ⟨b_10, H.keep (by kernel_rfl), HP.tail2 rfl⟩
        · refine Op.alloc H HP 13 (fun b => (.pointer (some ⟨b, 0, none⟩))) 53 [(.bool false), (.string (ByteArray.mk #[])), (.int .i64 0)] rfl (by kernel_rfl) (fun w => by kernel_rfl) ?_
          intro b_13 w_14 a H HP
          refine ⟨.inr (((HP.tail rfl).tail rfl)), ?_⟩
          refine An.one 6 (by kernel_rfl) ?_
          refine Op.val H 27 (.string (zeroS R)) rfl (by kernel_rfl) (ex_b2s (n := R) (e := 5) (by kernel_rfl) (HP.at_ 1 rfl) (by kernel_rfl) (by kernel_rfl) (by kernel_rfl)) ?_
          intro a H
          refine ⟨.inr (((HP.tail rfl).tail rfl)), ?_⟩
          refine An.pure H (.inr (((HP.tail rfl).tail rfl))) 7 28 (.agg #[(.bool (((j % K : Nat) : Int) == 0)), (.string (zeroS R)), (.int .i64 20000)]) rfl (by kernel_rfl) (by kernel_rfl) (fun _ _ _ h => h) (fun _ => by kernel_rfl) ?_
          intro a H
          refine An.one 9 (by kernel_rfl) ?_
          refine Op.store H HP 0 b_13 0 3 53 [(.bool false), (.string (ByteArray.mk #[])), (.int .i64 0)] true (.agg #[(.bool (((j % K : Nat) : Int) == 0)), (.string (zeroS R)), (.int .i64 20000)]) [bx b_13 53 [(.bool (((j % K : Nat) : Int) == 0)), (.string (zeroS R)), (.int .i64 20000)] true, bx b_8 5 (List.replicate R (.int .u8 0)) true, (rowsR w.heap.size 53 3 PicA.cells (fun _ _ => True) (fun _ _ => False) (.slice PA l'.length pc) l'), bx b_3 49 [(.int .i64 it), (.slice PA l'.length pc)] true, bx b_1 49 [(.int .i64 0), (.slice none 0 0)] true] rfl (by kernel_rfl) (by kernel_rfl) (by kernel_rfl) rfl (by kernel_rfl) (by kernel_rfl) (by kernel_rfl) (by kernel_rfl) (by kernel_rfl) ?_
          intro w_15 a H HP
          refine ⟨.inl (by kernel_rfl), ?_⟩
          refine An.done (by kernel_rfl) ?_
          have H := H.keep (L' := [(13, (.pointer (some ⟨b_13, 0, none⟩))), (18, (.bool (decide (((j : Nat) : Int) < ((N : Nat) : Int))))), (17, (.int .i64 ((N : Nat) : Int))), (16, (.int .i64 ((j : Nat) : Int))), (12, (.int .i64 ((j : Nat) : Int))), (11, (.pointer (some ⟨b_3, 0, none⟩))), (10, (.pointer (some ⟨b_1, 0, none⟩))), (0, (.int .i64 it)), (1, (.int .i64 ((N : Nat) : Int))), (2, (.int .i64 ((K : Nat) : Int))), (3, (.int .i64 ((Y : Nat) : Int))), (4, (.int .i64 ((R : Nat) : Int)))]) (by kernel_rfl)
          refine then_normal ?_
          exact ⟨b_13, H.keep (by kernel_rfl), HP.tail2 rfl⟩
      · refine Op.alloc H HP 13 (fun b => (.pointer (some ⟨b, 0, none⟩))) 53 [(.bool false), (.string (ByteArray.mk #[])), (.int .i64 0)] rfl (by kernel_rfl) (fun w => by kernel_rfl) ?_
        intro b_16 w_17 a H HP
        refine ⟨.inr ((HP.tail rfl)), ?_⟩
        refine An.one 5 (by kernel_rfl) ?_
        refine Op.alloc H HP 26 (fun b => (.slice (some ⟨b, 0, none⟩) R R)) 5 (List.replicate R (.int .u8 0)) rfl (by kernel_rfl) (fun w => ex_make (n := R) (e := 5) (k := .i64) (by kernel_rfl) (by kernel_rfl) (by kernel_rfl) (by kernel_rfl) (by omega)) ?_
        intro b_18 w_19 a H HP
        refine ⟨.inr (((HP.tail rfl).tail rfl)), ?_⟩
        refine An.one 6 (by kernel_rfl) ?_
        refine Op.val H 27 (.string (zeroS R)) rfl (by kernel_rfl) (ex_b2s (n := R) (e := 5) (by kernel_rfl) (HP.at_ 0 rfl) (by kernel_rfl) (by kernel_rfl) (by kernel_rfl)) ?_
        intro a H
        refine ⟨.inr (((HP.tail rfl).tail rfl)), ?_⟩
        refine An.pure H (.inr (((HP.tail rfl).tail rfl))) 7 28 (.agg #[(.bool (((j % K : Nat) : Int) == 0)), (.string (zeroS R)), (.int .i64 20000)]) rfl (by kernel_rfl) (by kernel_rfl) (fun _ _ _ h => h) (fun _ => by kernel_rfl) ?_
        intro a H
        refine An.one 9 (by kernel_rfl) ?_
        refine Op.store H HP 1 b_16 0 3 53 [(.bool false), (.string (ByteArray.mk #[])), (.int .i64 0)] true (.agg #[(.bool (((j % K : Nat) : Int) == 0)), (.string (zeroS R)), (.int .i64 20000)]) [bx b_18 5 (List.replicate R (.int .u8 0)) true, bx b_16 53 [(.bool (((j % K : Nat) : Int) == 0)), (.string (zeroS R)), (.int .i64 20000)] true, (rowsR w.heap.size 53 3 PicA.cells (fun _ _ => True) (fun _ _ => False) (.slice PA l'.length pc) l'), bx b_3 49 [(.int .i64 it), (.slice PA l'.length pc)] true, bx b_1 49 [(.int .i64 0), (.slice none 0 0)] true] rfl (by kernel_rfl) (by kernel_rfl) (by kernel_rfl) rfl (by kernel_rfl) (by kernel_rfl) (by kernel_rfl) (by kernel_rfl) (by kernel_rfl) ?_
        intro w_20 a H HP
        refine ⟨.inl (by kernel_rfl), ?_⟩
        refine An.done (by kernel_rfl) ?_
        have H := H.keep (L' := [(13, (.pointer (some ⟨b_16, 0, none⟩))), (18, (.bool (decide (((j : Nat) : Int) < ((N : Nat) : Int))))), (17, (.int .i64 ((N : Nat) : Int))), (16, (.int .i64 ((j : Nat) : Int))), (12, (.int .i64 ((j : Nat) : Int))), (11, (.pointer (some ⟨b_3, 0, none⟩))), (10, (.pointer (some ⟨b_1, 0, none⟩))), (0, (.int .i64 it)), (1, (.int .i64 ((N : Nat) : Int))), (2, (.int .i64 ((K : Nat) : Int))), (3, (.int .i64 ((Y : Nat) : Int))), (4, (.int .i64 ((R : Nat) : Int)))]) (by kernel_rfl)
        refine then_normal ?_
        exact ⟨b_16, H.keep (by kernel_rfl), HP.tail rfl⟩
    ·
      rintro a w_21 ⟨bP, H, HP⟩
      refine wp_seq ?_
      refine wp_seq ?_
      refine w_region ?_
      refine H.val 29 (.pointer (some ⟨bP, 0, none⟩)) (by kernel_rfl) (by kernel_rfl) ?_
      intro a H
      refine H.val 30 (.bool (((j % K : Nat) : Int) == 0)) (by kernel_rfl) (ex_load1 (by kernel_rfl) (by kernel_rfl) (HP.cell 0 rfl 0 rfl)) ?_
      intro a H
      refine wpList_nil ?_
      refine then_normal ?_
      refine w_if H rfl (fun g30 => ?_) (fun g30 => ?_)
      · have g30p := eq_of_beq g30
        refine w_region ?_
        refine H.val 31 (.int .i64 ((Y : Nat) : Int)) (by kernel_rfl) (by kernel_rfl) ?_
        intro a H
        refine H.alloc HP 32 (fun b => (.slice (some ⟨b, 0, none⟩) Y Y)) 5 (List.replicate Y (.int .u8 0)) (by kernel_rfl) (fun w => ex_make (n := Y) (e := 5) (k := .i64) (by kernel_rfl) (by kernel_rfl) (by kernel_rfl) (by kernel_rfl) (by omega)) ?_
        intro b_22 w_23 a H HP
        refine H.val 33 (.string (zeroS Y)) (by kernel_rfl) (ex_b2s (n := Y) (e := 5) (by kernel_rfl) (HP.at_ 0 rfl) (by kernel_rfl) (by kernel_rfl) (by kernel_rfl)) ?_
        intro a H
        refine H.val 34 (.pointer (some ⟨bP, 1, none⟩)) (by kernel_rfl) (by kernel_rfl) ?_
        intro a H
        refine H.store HP 1 bP 1 1 53 [(.bool (((j % K : Nat) : Int) == 0)), (.string (zeroS R)), (.int .i64 20000)] true (.string (zeroS Y)) [bx b_22 5 (List.replicate Y (.int .u8 0)) true, bx bP 53 [(.bool (((j % K : Nat) : Int) == 0)), (.string (zeroS Y)), (.int .i64 20000)] true, (rowsR w.heap.size 53 3 PicA.cells (fun _ _ => True) (fun _ _ => False) (.slice PA l'.length pc) l'), bx b_3 49 [(.int .i64 it), (.slice PA l'.length pc)] true, bx b_1 49 [(.int .i64 0), (.slice none 0 0)] true] (by kernel_rfl) (by kernel_rfl) (by kernel_rfl) rfl (by kernel_rfl) (by kernel_rfl) (by kernel_rfl) (by kernel_rfl) (by kernel_rfl) ?_
        intro w_24 a H HP
        refine wpList_nil ?_
        refine then_normal ?_
        refine w_region ?_
        refine H.val 35 (.pointer (some ⟨b_3, 1, none⟩)) (by kernel_rfl) (by kernel_rfl) ?_
        intro a H
        refine H.val 36 (.slice PA l'.length pc) (by kernel_rfl) (ex_load1 (by kernel_rfl) (by kernel_rfl) (HP.cell 3 rfl 1 rfl)) ?_
        intro a H
        refine H.val 37 (.agg #[(.bool (((j % K : Nat) : Int) == 0)), (.string (zeroS Y)), (.int .i64 20000)]) (by kernel_rfl) (ex_loadN (vs := [(.bool (((j % K : Nat) : Int) == 0)), (.string (zeroS Y)), (.int .i64 20000)]) (by kernel_rfl) (by kernel_rfl) (by kernel_rfl) rfl (HP.cells 1 rfl 0 3 (by kernel_rfl))) ?_
        intro a H
        refine H.alloc HP 38 (fun b => (.slice (some ⟨b, 0, none⟩) 1 1)) 53 [(.bool (((j % K : Nat) : Int) == 0)), (.string (zeroS Y)), (.int .i64 20000)] (by kernel_rfl) (fun w => by kernel_rfl) ?_
        intro b_25 w_26 a H HP
        have HP := HP.pend0 3 rfl elOk_flat (⟨((j % K : Nat) : Int) == 0, zeroS Y, 20000⟩) [bx b_25 53 [(.bool (((j % K : Nat) : Int) == 0)), (.string (zeroS Y)), (.int .i64 20000)] true, bx b_22 5 (List.replicate Y (.int .u8 0)) true, bx bP 53 [(.bool (((j % K : Nat) : Int) == 0)), (.string (zeroS Y)), (.int .i64 20000)] true, (rowsP w.heap.size 53 3 PicA.cells (fun _ _ => True) (fun _ _ => False) (.slice PA l'.length pc) l' (⟨((j % K : Nat) : Int) == 0, zeroS Y, 20000⟩)), bx b_3 49 [(.int .i64 it), (.slice PA l'.length pc)] true, bx b_1 49 [(.int .i64 0), (.slice none 0 0)] true] (by kernel_rfl) trivial (fun _ h => h)
        refine H.push HP 39 3 0 (v := (.slice PA l'.length pc)) (e := 53) (p := ⟨((j % K : Nat) : Int) == 0, zeroS Y, 20000⟩) (l := l') (cs := PicA.cells) (ok := (fun _ _ => True)) (fe := (fun _ _ => False)) (size := 3) (z := (.agg #[.bool false, .string (ByteArray.mk #[]), .int .i64 0])) (bytes := 32) (bb := b_25) (tb := 53) (fb := true) (by kernel_rfl) elOk_flat (by kernel_rfl) (by kernel_rfl) rfl (by kernel_rfl) (by kernel_rfl) (by kernel_rfl) (by kernel_rfl) (by kernel_rfl) rfl (by kernel_rfl) (by unfold maxLen; omega) (by omega) ?_
        intro B_27 c_28 w_29 a H HP
        have HP : Hp w w_29 [bx b_25 53 [(.bool (((j % K : Nat) : Int) == 0)), (.string (zeroS Y)), (.int .i64 20000)] true, bx b_22 5 (List.replicate Y (.int .u8 0)) true, bx bP 53 [(.bool (((j % K : Nat) : Int) == 0)), (.string (zeroS Y)), (.int .i64 20000)] true, (rowsR w.heap.size 53 3 PicA.cells (fun _ _ => True) (fun _ _ => False) (.slice B_27 (l'.length + 1) c_28) (l' ++ [⟨((j % K : Nat) : Int) == 0, zeroS Y, 20000⟩])), bx b_3 49 [(.int .i64 it), (.slice PA l'.length pc)] true, bx b_1 49 [(.int .i64 0), (.slice none 0 0)] true] [] := HP
        refine H.val 40 (.pointer (some ⟨b_3, 1, none⟩)) (by kernel_rfl) (by kernel_rfl) ?_
        intro a H
        refine H.store HP 4 b_3 1 1 49 [(.int .i64 it), (.slice PA l'.length pc)] true (.slice B_27 (l'.length + 1) c_28) [bx b_25 53 [(.bool (((j % K : Nat) : Int) == 0)), (.string (zeroS Y)), (.int .i64 20000)] true, bx b_22 5 (List.replicate Y (.int .u8 0)) true, bx bP 53 [(.bool (((j % K : Nat) : Int) == 0)), (.string (zeroS Y)), (.int .i64 20000)] true, (rowsR w.heap.size 53 3 PicA.cells (fun _ _ => True) (fun _ _ => False) (.slice B_27 (l'.length + 1) c_28) (l' ++ [⟨((j % K : Nat) : Int) == 0, zeroS Y, 20000⟩])), bx b_3 49 [(.int .i64 it), (.slice B_27 (l'.length + 1) c_28)] true, bx b_1 49 [(.int .i64 0), (.slice none 0 0)] true] (by kernel_rfl) (by kernel_rfl) (by kernel_rfl) rfl (by kernel_rfl) (by kernel_rfl) (by kernel_rfl) (by kernel_rfl) (by kernel_rfl) ?_
        intro w_30 a H HP
        refine wpList_nil ?_
        have H := H.keep (L' := [(34, (.pointer (some ⟨bP, 1, none⟩))), (33, (.string (zeroS Y))), (32, (.slice (some ⟨b_22, 0, none⟩) Y Y)), (31, (.int .i64 ((Y : Nat) : Int))), (30, (.bool (((j % K : Nat) : Int) == 0))), (29, (.pointer (some ⟨bP, 0, none⟩))), (13, (.pointer (some ⟨bP, 0, none⟩))), (10, (.pointer (some ⟨b_1, 0, none⟩))), (11, (.pointer (some ⟨b_3, 0, none⟩))), (12, (.int .i64 ((j : Nat) : Int))), (0, (.int .i64 it)), (1, (.int .i64 ((N : Nat) : Int))), (2, (.int .i64 ((K : Nat) : Int))), (3, (.int .i64 ((Y : Nat) : Int))), (4, (.int .i64 ((R : Nat) : Int)))]) (by kernel_rfl)
        refine inb_normal ?_
        refine then_normal ?_
        refine w_region ?_
        refine H.val 19 (.int .i64 ((j : Nat) : Int)) (by kernel_rfl) (by kernel_rfl) ?_
        intro a H
        refine H.valE 20 (.int .i64 (IntKind.i64.wrap (((j : Nat) : Int) + 1))) (.int .i64 (((j : Nat) : Int) + 1)) (by kernel_rfl) (by kernel_rfl) ((by rw [wrap_ini64 _ (by omega)])) ?_
        intro a H
        refine H.val 12 (.int .i64 (((j : Nat) : Int) + 1)) (by kernel_rfl) (by kernel_rfl) ?_
        intro a H
        refine wpList_nil ?_
        refine then_normal ?_
        have H := H.as 12 (.int .i64 ((j + 1 : Nat) : Int)) rfl rfl
        refine ⟨_, ?_, j + 1, B_27, c_28, l' ++ [⟨((j % K : Nat) : Int) == 0, zeroS Y, 20000⟩], rfl, H.keep (by kernel_rfl), (by simpa using (((HP.tail rfl).tail rfl).tail rfl)), by omega, by rw [hl]; exact filePics_snoc g30⟩
        omega
      · have g30p := ne_of_beq_false g30
        refine wp_skip ?_
        refine then_normal ?_
        refine w_region ?_
        refine H.val 35 (.pointer (some ⟨b_3, 1, none⟩)) (by kernel_rfl) (by kernel_rfl) ?_
        intro a H
        refine H.val 36 (.slice PA l'.length pc) (by kernel_rfl) (ex_load1 (by kernel_rfl) (by kernel_rfl) (HP.cell 2 rfl 1 rfl)) ?_
        intro a H
        refine H.val 37 (.agg #[(.bool (((j % K : Nat) : Int) == 0)), (.string (zeroS R)), (.int .i64 20000)]) (by kernel_rfl) (ex_loadN (vs := [(.bool (((j % K : Nat) : Int) == 0)), (.string (zeroS R)), (.int .i64 20000)]) (by kernel_rfl) (by kernel_rfl) (by kernel_rfl) rfl (HP.cells 0 rfl 0 3 (by kernel_rfl))) ?_
        intro a H
        refine H.alloc HP 38 (fun b => (.slice (some ⟨b, 0, none⟩) 1 1)) 53 [(.bool (((j % K : Nat) : Int) == 0)), (.string (zeroS R)), (.int .i64 20000)] (by kernel_rfl) (fun w => by kernel_rfl) ?_
        intro b_31 w_32 a H HP
        have HP := HP.pend0 2 rfl elOk_flat (⟨((j % K : Nat) : Int) == 0, zeroS R, 20000⟩) [bx b_31 53 [(.bool (((j % K : Nat) : Int) == 0)), (.string (zeroS R)), (.int .i64 20000)] true, bx bP 53 [(.bool (((j % K : Nat) : Int) == 0)), (.string (zeroS R)), (.int .i64 20000)] true, (rowsP w.heap.size 53 3 PicA.cells (fun _ _ => True) (fun _ _ => False) (.slice PA l'.length pc) l' (⟨((j % K : Nat) : Int) == 0, zeroS R, 20000⟩)), bx b_3 49 [(.int .i64 it), (.slice PA l'.length pc)] true, bx b_1 49 [(.int .i64 0), (.slice none 0 0)] true] (by kernel_rfl) trivial (fun _ h => h)
        refine H.push HP 39 2 0 (v := (.slice PA l'.length pc)) (e := 53) (p := ⟨((j % K : Nat) : Int) == 0, zeroS R, 20000⟩) (l := l') (cs := PicA.cells) (ok := (fun _ _ => True)) (fe := (fun _ _ => False)) (size := 3) (z := (.agg #[.bool false, .string (ByteArray.mk #[]), .int .i64 0])) (bytes := 32) (bb := b_31) (tb := 53) (fb := true) (by kernel_rfl) elOk_flat (by kernel_rfl) (by kernel_rfl) rfl (by kernel_rfl) (by kernel_rfl) (by kernel_rfl) (by kernel_rfl) (by kernel_rfl) rfl (by kernel_rfl) (by unfold maxLen; omega) (by omega) ?_
        intro B_33 c_34 w_35 a H HP
        have HP : Hp w w_35 [bx b_31 53 [(.bool (((j % K : Nat) : Int) == 0)), (.string (zeroS R)), (.int .i64 20000)] true, bx bP 53 [(.bool (((j % K : Nat) : Int) == 0)), (.string (zeroS R)), (.int .i64 20000)] true, (rowsR w.heap.size 53 3 PicA.cells (fun _ _ => True) (fun _ _ => False) (.slice B_33 (l'.length + 1) c_34) (l' ++ [⟨((j % K : Nat) : Int) == 0, zeroS R, 20000⟩])), bx b_3 49 [(.int .i64 it), (.slice PA l'.length pc)] true, bx b_1 49 [(.int .i64 0), (.slice none 0 0)] true] [] := HP
        refine H.val 40 (.pointer (some ⟨b_3, 1, none⟩)) (by kernel_rfl) (by kernel_rfl) ?_
        intro a H
        refine H.store HP 3 b_3 1 1 49 [(.int .i64 it), (.slice PA l'.length pc)] true (.slice B_33 (l'.length + 1) c_34) [bx b_31 53 [(.bool (((j % K : Nat) : Int) == 0)), (.string (zeroS R)), (.int .i64 20000)] true, bx bP 53 [(.bool (((j % K : Nat) : Int) == 0)), (.string (zeroS R)), (.int .i64 20000)] true, (rowsR w.heap.size 53 3 PicA.cells (fun _ _ => True) (fun _ _ => False) (.slice B_33 (l'.length + 1) c_34) (l' ++ [⟨((j % K : Nat) : Int) == 0, zeroS R, 20000⟩])), bx b_3 49 [(.int .i64 it), (.slice B_33 (l'.length + 1) c_34)] true, bx b_1 49 [(.int .i64 0), (.slice none 0 0)] true] (by kernel_rfl) (by kernel_rfl) (by kernel_rfl) rfl (by kernel_rfl) (by kernel_rfl) (by kernel_rfl) (by kernel_rfl) (by kernel_rfl) ?_
        intro w_36 a H HP
        refine wpList_nil ?_
        have H := H.keep (L' := [(30, (.bool (((j % K : Nat) : Int) == 0))), (29, (.pointer (some ⟨bP, 0, none⟩))), (13, (.pointer (some ⟨bP, 0, none⟩))), (10, (.pointer (some ⟨b_1, 0, none⟩))), (11, (.pointer (some ⟨b_3, 0, none⟩))), (12, (.int .i64 ((j : Nat) : Int))), (0, (.int .i64 it)), (1, (.int .i64 ((N : Nat) : Int))), (2, (.int .i64 ((K : Nat) : Int))), (3, (.int .i64 ((Y : Nat) : Int))), (4, (.int .i64 ((R : Nat) : Int)))]) (by kernel_rfl)
        refine inb_normal ?_
        refine then_normal ?_
        refine w_region ?_
        refine H.val 19 (.int .i64 ((j : Nat) : Int)) (by kernel_rfl) (by kernel_rfl) ?_
        intro a H
        refine H.valE 20 (.int .i64 (IntKind.i64.wrap (((j : Nat) : Int) + 1))) (.int .i64 (((j : Nat) : Int) + 1)) (by kernel_rfl) (by kernel_rfl) ((by rw [wrap_ini64 _ (by omega)])) ?_
        intro a H
        refine H.val 12 (.int .i64 (((j : Nat) : Int) + 1)) (by kernel_rfl) (by kernel_rfl) ?_
        intro a H
        refine wpList_nil ?_
        refine then_normal ?_
        have H := H.as 12 (.int .i64 ((j + 1 : Nat) : Int)) rfl rfl
        refine ⟨_, ?_, j + 1, B_33, c_34, l' ++ [⟨((j % K : Nat) : Int) == 0, zeroS R, 20000⟩], rfl, H.keep (by kernel_rfl), (by simpa using ((HP.tail rfl).tail rfl)), by omega, by rw [hl]; exact filePics_snoc g30⟩
        omega
  · have g18p := of_decide_eq_false g18
    refine wp_exit ?_
    refine then_exit ?_
    refine then_exit ?_
    refine w_exit_here ?_
    refine then_normal ?_
    refine wp_seq ?_
    refine w_region ?_
    refine H.val 41 (.agg #[(.int .i64 it), (.slice PA l'.length pc)]) (by kernel_rfl) (ex_loadN (vs := [(.int .i64 it), (.slice PA l'.length pc)]) (by kernel_rfl) (by kernel_rfl) (by kernel_rfl) rfl (HP.cells 1 rfl 0 2 (by kernel_rfl))) ?_
    intro a H
    refine H.store HP 2 b_1 0 2 49 [(.int .i64 0), (.slice none 0 0)] true (.agg #[(.int .i64 it), (.slice PA l'.length pc)]) [(rowsR w.heap.size 53 3 PicA.cells (fun _ _ => True) (fun _ _ => False) (.slice PA l'.length pc) l'), bx b_3 49 [(.int .i64 it), (.slice PA l'.length pc)] true, bx b_1 49 [(.int .i64 it), (.slice PA l'.length pc)] true] (by kernel_rfl) (by kernel_rfl) (by kernel_rfl) rfl (by kernel_rfl) (by kernel_rfl) (by kernel_rfl) (by kernel_rfl) (by kernel_rfl) ?_
    intro w_37 a H HP
    refine wpList_nil ?_
    refine then_normal ?_
    refine wp_ret ?_
    refine H.ret1 (fn := Try.f23) Try.results23 (RV.cellN (vs := [(.int .i64 it), (.slice PA l'.length pc)]) (b := b_1) (off := 0) (k := 2) (by kernel_rfl) (by kernel_rfl) (by kernel_rfl) rfl (HP.cells 2 rfl 0 2 (by kernel_rfl))) ?_
    subst hl
    have hNj : j = N := by omega
    subst hNj
    have hF := HP.held 0 rfl
    have hfr := HP.fresh _ (List.mem_of_getElem? (i := 0) rfl) rfl
    rw [hll]
    exact file_end hF.1 hll hfr (HP.below (by kernel_rfl))
theorem file_lib (it : Int) (x y z u : Int) (w : World) :
    Calls Try.prog 23 #[.int .i64 it, .int .i64 (1 + pickI x 40), .int .i64 (1 + pickI y 20), .int .i64 (pickI z 401), .int .i64 (pickI u 160)] w fun e w' => RetFile it (filePics (1 + pickN y 20) (pickN z 401) (pickN u 160) (1 + pickN x 40)) w e w' := by
  have h1 := pickN_lt x 40 (by omega)
  have h2 := pickN_lt y 20 (by omega)
  have h3 := pickN_lt z 401 (by omega)
  have h4 := pickN_lt u 160 (by omega)
  have := file_any it (1 + pickN x 40) (1 + pickN y 20) (pickN z 401) (pickN u 160) w (by omega) (by omega) (by omega) (by omega) (by omega)
  rw [← pickN_eq x 40 (by omega), ← pickN_eq y 20 (by omega), ← pickN_eq z 401 (by omega), ← pickN_eq u 160 (by omega)]
  simpa using this
/-- The library's files, item by item. -/
def libAt (X : Nat → Int) (i : Nat) : Int × List PicA := (((i + 1 : Nat) : Int), filePics (1 + pickN (X (4 * i + 1)) 20) (pickN (X (4 * i + 2)) 401) (pickN (X (4 * i + 3)) 160) (1 + pickN (X (4 * i)) 40))
def libTo (X : Nat → Int) (n : Nat) : List (Int × List PicA) := (List.range n).map (libAt X)
abbrev specA (l : List AstA) : List (Int × List PicA) := l.map fun a => (a.item, a.pics)
theorem specA_snoc {X : Nat → Int} {l : List AstA} {j : Nat} {B : Option Addr} {c : Nat} {it : Int} {ps : List PicA} (h : specA l = libTo X j) (h' : (it, ps) = libAt X j := by rfl) : specA (l ++ [⟨it, B, c, ps⟩]) = libTo X (j + 1) := by
  unfold libTo at *
  rw [List.range_succ, List.map_append, ← h]
  simp [specA, ← h']
def RetLib (X : Nat → Int) (w : World) (e : Ending) (w' : World) : Prop :=
  ∃ A c l, e = .returned (.slice A 5 c) ∧ IsAsts w' A 5 l ∧ specA l = libTo X 5 ∧ 5 ≤ c ∧ c ≤ maxLen ∧ Below w.heap.size w w' ∧ ∀ j, (rowFp 5 A j ∨ ∃ a ∈ l, rowFp a.pics.length a.A j) → w.heap.size ≤ j
theorem lib_end {X : Nat → Int} {w w' : World} {A : Option Addr} {c : Nat} {l : List AstA} (h : (rowsR w.heap.size 49 2 AstA.cells astOk astFp (.slice A l.length c) l).F w') (hf : ∀ k, (rowsR w.heap.size 49 2 AstA.cells astOk astFp (.slice A l.length c) l).fp k → w.heap.size ≤ k) (hsp : specA l = libTo X 5) (hl : l.length = 5) (hb : Below w.heap.size w w') :
    RetLib X w (.returned (.slice A l.length c)) w' := by
  have f := own_facts h.1
  have h1 := Rd.of_own h.1
  rw [hl] at f h1
  refine ⟨A, c, l, by rw [hl], ⟨⟨hl, h1⟩, fun a ha => (h.2 a ha).1⟩, hsp, f.1, f.2.1, hb, fun j hj => ?_⟩
  rcases hj with ⟨_, off, e⟩ | hj
  · exact hf j (.inl (by rw [e]; rfl))
  · exact hf j (.inr hj)
set_option maxRecDepth 100000 in
set_option maxHeartbeats 8000000 in
theorem library_any (X : Nat → Int) (w : World) (hX : ∀ i, -9223372036854775808 ≤ X i ∧ X i ≤ 9223372036854775807) :
    Calls Try.prog 9 #[.agg #[.int .i64 (X 0), .int .i64 (X 1), .int .i64 (X 2), .int .i64 (X 3), .int .i64 (X 4), .int .i64 (X 5), .int .i64 (X 6), .int .i64 (X 7), .int .i64 (X 8), .int .i64 (X 9), .int .i64 (X 10), .int .i64 (X 11), .int .i64 (X 12), .int .i64 (X 13), .int .i64 (X 14), .int .i64 (X 15), .int .i64 (X 16), .int .i64 (X 17), .int .i64 (X 18), .int .i64 (X 19)]] w fun e w' => RetLib X w e w' := by
  have HP := Hp.start w
  refine w_enter 38 [(0, (.agg #[(.int .i64 (X 0)), (.int .i64 (X 1)), (.int .i64 (X 2)), (.int .i64 (X 3)), (.int .i64 (X 4)), (.int .i64 (X 5)), (.int .i64 (X 6)), (.int .i64 (X 7)), (.int .i64 (X 8)), (.int .i64 (X 9)), (.int .i64 (X 10)), (.int .i64 (X 11)), (.int .i64 (X 12)), (.int .i64 (X 13)), (.int .i64 (X 14)), (.int .i64 (X 15)), (.int .i64 (X 16)), (.int .i64 (X 17)), (.int .i64 (X 18)), (.int .i64 (X 19))]))] Try.func9 rfl Try.ntmps9 (by kernel_rfl) (by kernel_rfl) ?_
  intro a H
  refine wp_seq ?_
  refine w_region ?_
  refine H.alloc HP 1 (fun b => (.pointer (some ⟨b, 0, none⟩))) 24 [(.int .i64 (X 0)), (.int .i64 (X 1)), (.int .i64 (X 2)), (.int .i64 (X 3)), (.int .i64 (X 4)), (.int .i64 (X 5)), (.int .i64 (X 6)), (.int .i64 (X 7)), (.int .i64 (X 8)), (.int .i64 (X 9)), (.int .i64 (X 10)), (.int .i64 (X 11)), (.int .i64 (X 12)), (.int .i64 (X 13)), (.int .i64 (X 14)), (.int .i64 (X 15)), (.int .i64 (X 16)), (.int .i64 (X 17)), (.int .i64 (X 18)), (.int .i64 (X 19))] (by kernel_rfl) (fun w => by kernel_rfl) ?_
  intro b_1 w_2 a H HP
  refine H.val 2 (.slice none 0 0) (by kernel_rfl) (by kernel_rfl) ?_
  intro a H
  refine wpList_nil ?_
  refine then_normal ?_
  refine wp_seq ?_
  refine w_region ?_
  refine H.val 3 (.slice none 0 0) (by kernel_rfl) (by kernel_rfl) ?_
  intro a H
  refine wpList_nil ?_
  refine then_normal ?_
  refine wp_seq ?_
  refine wp_seq ?_
  refine w_region ?_
  refine H.val 4 (.int .i64 0) (by kernel_rfl) (by kernel_rfl) ?_
  intro a H
  refine wpList_nil ?_
  refine then_normal ?_
  refine wp_block ?_
  have HP := HP.nilRow w.heap.size 49 2 AstA.cells astOk astFp elOk_ast
  refine w_loop (fun m a v => (m = 5 ∧ Sl 38 [(4, (.int .i64 0)), (3, (.slice none 0 0)), (1, (.pointer (some ⟨b_1, 0, none⟩))), (2, (.slice none 0 0))] a ∧ Hp w v [(rowsR w.heap.size 49 2 AstA.cells astOk astFp (.slice none 0 0) ([] : List AstA)), bx b_1 24 [(.int .i64 (X 0)), (.int .i64 (X 1)), (.int .i64 (X 2)), (.int .i64 (X 3)), (.int .i64 (X 4)), (.int .i64 (X 5)), (.int .i64 (X 6)), (.int .i64 (X 7)), (.int .i64 (X 8)), (.int .i64 (X 9)), (.int .i64 (X 10)), (.int .i64 (X 11)), (.int .i64 (X 12)), (.int .i64 (X 13)), (.int .i64 (X 14)), (.int .i64 (X 15)), (.int .i64 (X 16)), (.int .i64 (X 17)), (.int .i64 (X 18)), (.int .i64 (X 19))] true] []) ∨ (m = 4 ∧ ∃ (LA : Option Addr) (lc : Nat) (l' : List AstA), Sl 38 [(4, (.int .i64 1)), (3, (.slice LA l'.length lc)), (1, (.pointer (some ⟨b_1, 0, none⟩))), (2, (.slice none 0 0))] a ∧ Hp w v [(rowsR w.heap.size 49 2 AstA.cells astOk astFp (.slice LA l'.length lc) l'), bx b_1 24 [(.int .i64 (X 0)), (.int .i64 (X 1)), (.int .i64 (X 2)), (.int .i64 (X 3)), (.int .i64 (X 4)), (.int .i64 (X 5)), (.int .i64 (X 6)), (.int .i64 (X 7)), (.int .i64 (X 8)), (.int .i64 (X 9)), (.int .i64 (X 10)), (.int .i64 (X 11)), (.int .i64 (X 12)), (.int .i64 (X 13)), (.int .i64 (X 14)), (.int .i64 (X 15)), (.int .i64 (X 16)), (.int .i64 (X 17)), (.int .i64 (X 18)), (.int .i64 (X 19))] true] [] ∧ specA l' = libTo X 1) ∨ (m = 3 ∧ ∃ (LA : Option Addr) (lc : Nat) (l' : List AstA), Sl 38 [(4, (.int .i64 2)), (3, (.slice LA l'.length lc)), (1, (.pointer (some ⟨b_1, 0, none⟩))), (2, (.slice none 0 0))] a ∧ Hp w v [(rowsR w.heap.size 49 2 AstA.cells astOk astFp (.slice LA l'.length lc) l'), bx b_1 24 [(.int .i64 (X 0)), (.int .i64 (X 1)), (.int .i64 (X 2)), (.int .i64 (X 3)), (.int .i64 (X 4)), (.int .i64 (X 5)), (.int .i64 (X 6)), (.int .i64 (X 7)), (.int .i64 (X 8)), (.int .i64 (X 9)), (.int .i64 (X 10)), (.int .i64 (X 11)), (.int .i64 (X 12)), (.int .i64 (X 13)), (.int .i64 (X 14)), (.int .i64 (X 15)), (.int .i64 (X 16)), (.int .i64 (X 17)), (.int .i64 (X 18)), (.int .i64 (X 19))] true] [] ∧ specA l' = libTo X 2) ∨ (m = 2 ∧ ∃ (LA : Option Addr) (lc : Nat) (l' : List AstA), Sl 38 [(4, (.int .i64 3)), (3, (.slice LA l'.length lc)), (1, (.pointer (some ⟨b_1, 0, none⟩))), (2, (.slice none 0 0))] a ∧ Hp w v [(rowsR w.heap.size 49 2 AstA.cells astOk astFp (.slice LA l'.length lc) l'), bx b_1 24 [(.int .i64 (X 0)), (.int .i64 (X 1)), (.int .i64 (X 2)), (.int .i64 (X 3)), (.int .i64 (X 4)), (.int .i64 (X 5)), (.int .i64 (X 6)), (.int .i64 (X 7)), (.int .i64 (X 8)), (.int .i64 (X 9)), (.int .i64 (X 10)), (.int .i64 (X 11)), (.int .i64 (X 12)), (.int .i64 (X 13)), (.int .i64 (X 14)), (.int .i64 (X 15)), (.int .i64 (X 16)), (.int .i64 (X 17)), (.int .i64 (X 18)), (.int .i64 (X 19))] true] [] ∧ specA l' = libTo X 3) ∨ (m = 1 ∧ ∃ (LA : Option Addr) (lc : Nat) (l' : List AstA), Sl 38 [(4, (.int .i64 4)), (3, (.slice LA l'.length lc)), (1, (.pointer (some ⟨b_1, 0, none⟩))), (2, (.slice none 0 0))] a ∧ Hp w v [(rowsR w.heap.size 49 2 AstA.cells astOk astFp (.slice LA l'.length lc) l'), bx b_1 24 [(.int .i64 (X 0)), (.int .i64 (X 1)), (.int .i64 (X 2)), (.int .i64 (X 3)), (.int .i64 (X 4)), (.int .i64 (X 5)), (.int .i64 (X 6)), (.int .i64 (X 7)), (.int .i64 (X 8)), (.int .i64 (X 9)), (.int .i64 (X 10)), (.int .i64 (X 11)), (.int .i64 (X 12)), (.int .i64 (X 13)), (.int .i64 (X 14)), (.int .i64 (X 15)), (.int .i64 (X 16)), (.int .i64 (X 17)), (.int .i64 (X 18)), (.int .i64 (X 19))] true] [] ∧ specA l' = libTo X 4) ∨ (m = 0 ∧ ∃ (LA : Option Addr) (lc : Nat) (l' : List AstA), Sl 38 [(4, (.int .i64 5)), (3, (.slice LA l'.length lc)), (1, (.pointer (some ⟨b_1, 0, none⟩))), (2, (.slice none 0 0))] a ∧ Hp w v [(rowsR w.heap.size 49 2 AstA.cells astOk astFp (.slice LA l'.length lc) l'), bx b_1 24 [(.int .i64 (X 0)), (.int .i64 (X 1)), (.int .i64 (X 2)), (.int .i64 (X 3)), (.int .i64 (X 4)), (.int .i64 (X 5)), (.int .i64 (X 6)), (.int .i64 (X 7)), (.int .i64 (X 8)), (.int .i64 (X 9)), (.int .i64 (X 10)), (.int .i64 (X 11)), (.int .i64 (X 12)), (.int .i64 (X 13)), (.int .i64 (X 14)), (.int .i64 (X 15)), (.int .i64 (X 16)), (.int .i64 (X 17)), (.int .i64 (X 18)), (.int .i64 (X 19))] true] [] ∧ specA l' = libTo X 5)) 5 (.inl ⟨rfl, H.keep (by kernel_rfl), HP⟩) ?_
  rintro m a w_3 (⟨rfl, H, HP⟩ | ⟨rfl, LA, lc, l', H, HP, hsp⟩ | ⟨rfl, LA, lc, l', H, HP, hsp⟩ | ⟨rfl, LA, lc, l', H, HP, hsp⟩ | ⟨rfl, LA, lc, l', H, HP, hsp⟩ | ⟨rfl, LA, lc, l', H, HP, hsp⟩)
  · have hll := trivial
    refine wp_seq ?_
    refine wp_seq ?_
    refine w_region ?_
    refine H.val 5 (.int .i64 0) (by kernel_rfl) (by kernel_rfl) ?_
    intro a H
    refine H.val 6 (.bool true) (by kernel_rfl) (by kernel_rfl) ?_
    intro a H
    refine wpList_nil ?_
    refine then_normal ?_
    refine w_ift H rfl ?_
    refine wp_skip ?_
    refine then_normal ?_
    refine wp_seq ?_
    refine wp_block ?_
    have HP := HP.front 0 rfl [(rowsR w.heap.size 49 2 AstA.cells astOk astFp (.slice none 0 0) ([] : List AstA)), bx b_1 24 [(.int .i64 (X 0)), (.int .i64 (X 1)), (.int .i64 (X 2)), (.int .i64 (X 3)), (.int .i64 (X 4)), (.int .i64 (X 5)), (.int .i64 (X 6)), (.int .i64 (X 7)), (.int .i64 (X 8)), (.int .i64 (X 9)), (.int .i64 (X 10)), (.int .i64 (X 11)), (.int .i64 (X 12)), (.int .i64 (X 13)), (.int .i64 (X 14)), (.int .i64 (X 15)), (.int .i64 (X 16)), (.int .i64 (X 17)), (.int .i64 (X 18)), (.int .i64 (X 19))] true] (by kernel_rfl)
    refine An.start (fun v => Hp w v [bx b_1 24 [(.int .i64 (X 0)), (.int .i64 (X 1)), (.int .i64 (X 2)), (.int .i64 (X 3)), (.int .i64 (X 4)), (.int .i64 (X 5)), (.int .i64 (X 6)), (.int .i64 (X 7)), (.int .i64 (X 8)), (.int .i64 (X 9)), (.int .i64 (X 10)), (.int .i64 (X 11)), (.int .i64 (X 12)), (.int .i64 (X 13)), (.int .i64 (X 14)), (.int .i64 (X 15)), (.int .i64 (X 16)), (.int .i64 (X 17)), (.int .i64 (X 18)), (.int .i64 (X 19))] true] []) 29 29 HP wide_follows rfl ?_
    intro w_4 HP
    refine An.pure H (.inr ((HP.tail rfl))) 0 9 (.slice none 0 0) rfl (by kernel_rfl) (by kernel_rfl) (fun _ _ _ h => h) (fun _ => by kernel_rfl) ?_
    intro a H
    refine An.pure H (.inr ((HP.tail rfl))) 1 10 (.int .i64 0) rfl (by kernel_rfl) (by kernel_rfl) (fun _ _ _ h => h) (fun _ => by kernel_rfl) ?_
    intro a H
    refine An.pureE H (.inr ((HP.tail rfl))) 2 11 (.int .i64 (IntKind.i64.wrap (0 + 1))) (.int .i64 1) rfl (by kernel_rfl) (by kernel_rfl) (fun _ _ _ h => h) (fun _ => by kernel_rfl) (by kernel_rfl) ?_
    intro a H
    refine An.pure H (.inr ((HP.tail rfl))) 3 12 (.int .i64 0) rfl (by kernel_rfl) (by kernel_rfl) (fun _ _ _ h => h) (fun _ => by kernel_rfl) ?_
    intro a H
    refine An.pure H (.inr ((HP.tail rfl))) 4 13 (.pointer (some ⟨b_1, 0, none⟩)) rfl (by kernel_rfl) (by kernel_rfl) (fun _ _ _ h => h) (fun _ => by kernel_rfl) ?_
    intro a H
    refine An.pure H (.inr ((HP.tail rfl))) 5 14 (.pointer (some ⟨b_1, 0, none⟩)) rfl (by kernel_rfl) (by kernel_rfl) (fun _ _ _ h => h) (fun _ => by kernel_rfl) ?_
    intro a H
    refine An.val H ((HP.tail rfl)) 6 15 (.int .i64 (X 0)) rfl (by kernel_rfl) (by kernel_rfl) (fun _ _ _ h => h) (fun _ hS => ex_load1 (by kernel_rfl) (by kernel_rfl) (hS.cell 0 rfl 0 rfl)) ?_
    intro a H
    refine An.pure H (.inr ((HP.tail rfl))) 9 18 (.int .i64 0) rfl (by kernel_rfl) (by kernel_rfl) (fun _ _ _ h => h) (fun _ => by kernel_rfl) ?_
    intro a H
    refine An.pure H (.inr ((HP.tail rfl))) 10 19 (.pointer (some ⟨b_1, 0, none⟩)) rfl (by kernel_rfl) (by kernel_rfl) (fun _ _ _ h => h) (fun _ => by kernel_rfl) ?_
    intro a H
    refine An.pure H (.inr ((HP.tail rfl))) 11 20 (.pointer (some ⟨b_1, 1, none⟩)) rfl (by kernel_rfl) (by kernel_rfl) (fun _ _ _ h => h) (fun _ => by kernel_rfl) ?_
    intro a H
    refine An.val H ((HP.tail rfl)) 12 21 (.int .i64 (X 1)) rfl (by kernel_rfl) (by kernel_rfl) (fun _ _ _ h => h) (fun _ hS => ex_load1 (by kernel_rfl) (by kernel_rfl) (hS.cell 0 rfl 1 rfl)) ?_
    intro a H
    refine An.pure H (.inr ((HP.tail rfl))) 15 24 (.int .i64 0) rfl (by kernel_rfl) (by kernel_rfl) (fun _ _ _ h => h) (fun _ => by kernel_rfl) ?_
    intro a H
    refine An.pure H (.inr ((HP.tail rfl))) 16 25 (.pointer (some ⟨b_1, 0, none⟩)) rfl (by kernel_rfl) (by kernel_rfl) (fun _ _ _ h => h) (fun _ => by kernel_rfl) ?_
    intro a H
    refine An.pure H (.inr ((HP.tail rfl))) 17 26 (.pointer (some ⟨b_1, 2, none⟩)) rfl (by kernel_rfl) (by kernel_rfl) (fun _ _ _ h => h) (fun _ => by kernel_rfl) ?_
    intro a H
    refine An.val H ((HP.tail rfl)) 18 27 (.int .i64 (X 2)) rfl (by kernel_rfl) (by kernel_rfl) (fun _ _ _ h => h) (fun _ hS => ex_load1 (by kernel_rfl) (by kernel_rfl) (hS.cell 0 rfl 2 rfl)) ?_
    intro a H
    refine An.pure H (.inr ((HP.tail rfl))) 20 29 (.int .i64 0) rfl (by kernel_rfl) (by kernel_rfl) (fun _ _ _ h => h) (fun _ => by kernel_rfl) ?_
    intro a H
    refine An.pure H (.inr ((HP.tail rfl))) 21 30 (.pointer (some ⟨b_1, 0, none⟩)) rfl (by kernel_rfl) (by kernel_rfl) (fun _ _ _ h => h) (fun _ => by kernel_rfl) ?_
    intro a H
    refine An.pure H (.inr ((HP.tail rfl))) 22 31 (.pointer (some ⟨b_1, 3, none⟩)) rfl (by kernel_rfl) (by kernel_rfl) (fun _ _ _ h => h) (fun _ => by kernel_rfl) ?_
    intro a H
    refine An.val H ((HP.tail rfl)) 23 32 (.int .i64 (X 3)) rfl (by kernel_rfl) (by kernel_rfl) (fun _ _ _ h => h) (fun _ hS => ex_load1 (by kernel_rfl) (by kernel_rfl) (hS.cell 0 rfl 3 rfl)) ?_
    intro a H
    refine An.one 7 (by kernel_rfl) ?_
    refine Op.call H 16 rfl (by kernel_rfl) (Eq.trans (by kernel_rfl : _ = (callFunc 11 #[(.int .i64 (X 0)), (.int .i64 40)]).run Try.prog w_4) (Try.call11 _ _)) (pick_any (X 0) 40 w_4 (hX _) (by omega)) ?_
    rintro e w_6 ⟨rfl, hw⟩
    refine ⟨_, rfl, ?_⟩
    intro a H
    have HP := hw ▸ HP
    have hpk_5 := pickI_lt (X 0) 40 (by omega)
    refine ⟨.inr ((HP.tail rfl)), ?_⟩
    refine An.pureE H (.inr ((HP.tail rfl))) 8 17 (.int .i64 (IntKind.i64.wrap (1 + (pickI (X 0) 40)))) (.int .i64 (1 + (pickI (X 0) 40))) rfl (by kernel_rfl) (by kernel_rfl) (fun _ _ _ h => h) (fun _ => by kernel_rfl) ((by rw [wrap_ini64 _ (by omega)])) ?_
    intro a H
    refine An.one 13 (by kernel_rfl) ?_
    refine Op.call H 22 rfl (by kernel_rfl) (Eq.trans (by kernel_rfl : _ = (callFunc 11 #[(.int .i64 (X 1)), (.int .i64 20)]).run Try.prog w_6) (Try.call11 _ _)) (pick_any (X 1) 20 w_6 (hX _) (by omega)) ?_
    rintro e w_8 ⟨rfl, hw⟩
    refine ⟨_, rfl, ?_⟩
    intro a H
    have HP := hw ▸ HP
    have hpk_7 := pickI_lt (X 1) 20 (by omega)
    refine ⟨.inr ((HP.tail rfl)), ?_⟩
    refine An.pureE H (.inr ((HP.tail rfl))) 14 23 (.int .i64 (IntKind.i64.wrap (1 + (pickI (X 1) 20)))) (.int .i64 (1 + (pickI (X 1) 20))) rfl (by kernel_rfl) (by kernel_rfl) (fun _ _ _ h => h) (fun _ => by kernel_rfl) ((by rw [wrap_ini64 _ (by omega)])) ?_
    intro a H
    refine An.one 19 (by kernel_rfl) ?_
    refine Op.call H 28 rfl (by kernel_rfl) (Eq.trans (by kernel_rfl : _ = (callFunc 11 #[(.int .i64 (X 2)), (.int .i64 401)]).run Try.prog w_8) (Try.call11 _ _)) (pick_any (X 2) 401 w_8 (hX _) (by omega)) ?_
    rintro e w_10 ⟨rfl, hw⟩
    refine ⟨_, rfl, ?_⟩
    intro a H
    have HP := hw ▸ HP
    have hpk_9 := pickI_lt (X 2) 401 (by omega)
    refine ⟨.inr ((HP.tail rfl)), ?_⟩
    refine An.one 24 (by kernel_rfl) ?_
    refine Op.call H 33 rfl (by kernel_rfl) (Eq.trans (by kernel_rfl : _ = (callFunc 11 #[(.int .i64 (X 3)), (.int .i64 160)]).run Try.prog w_10) (Try.call11 _ _)) (pick_any (X 3) 160 w_10 (hX _) (by omega)) ?_
    rintro e w_12 ⟨rfl, hw⟩
    refine ⟨_, rfl, ?_⟩
    intro a H
    have HP := hw ▸ HP
    have hpk_11 := pickI_lt (X 3) 160 (by omega)
    refine ⟨.inr ((HP.tail rfl)), ?_⟩
    refine An.one 25 (by kernel_rfl) ?_
    refine Op.call H 34 rfl (by kernel_rfl) (Eq.trans (by kernel_rfl : _ = (callFunc 23 #[(.int .i64 1), (.int .i64 (1 + (pickI (X 0) 40))), (.int .i64 (1 + (pickI (X 1) 20))), (.int .i64 (pickI (X 2) 401)), (.int .i64 (pickI (X 3) 160))]).run Try.prog w_12) (Try.call23 _ _)) (file_lib 1 (X 0) (X 1) (X 2) (X 3) w_12) ?_
    rintro e w_13 ⟨Bf0, cf0, rfl, q1, q2, q3, q4, hb, q5⟩
    refine ⟨_, rfl, ?_⟩
    intro a H
    have HP := HP.pend 0 rfl elOk_ast (⟨1, Bf0, cf0, filePics (1 + pickN (X 1) 20) (pickN (X 2) 401) (pickN (X 3) 160) (1 + pickN (X 0) 40)⟩ : AstA) [(rowsP w.heap.size 49 2 AstA.cells astOk astFp (.slice none 0 0) ([] : List AstA) (⟨1, Bf0, cf0, filePics (1 + pickN (X 1) 20) (pickN (X 2) 401) (pickN (X 3) 160) (1 + pickN (X 0) 40)⟩ : AstA)), bx b_1 24 [(.int .i64 (X 0)), (.int .i64 (X 1)), (.int .i64 (X 2)), (.int .i64 (X 3)), (.int .i64 (X 4)), (.int .i64 (X 5)), (.int .i64 (X 6)), (.int .i64 (X 7)), (.int .i64 (X 8)), (.int .i64 (X 9)), (.int .i64 (X 10)), (.int .i64 (X 11)), (.int .i64 (X 12)), (.int .i64 (X 13)), (.int .i64 (X 14)), (.int .i64 (X 15)), (.int .i64 (X 16)), (.int .i64 (X 17)), (.int .i64 (X 18)), (.int .i64 (X 19))] true] (by kernel_rfl) hb ⟨q1, q2, q3, q4, trivial⟩ (fun k hk => ⟨hk.2.elim fun off e => q5 k off e, row_lt q1.2 hk⟩)
    refine ⟨.inr ((HP.tail rfl)), ?_⟩
    refine An.one 26 (by kernel_rfl) ?_
    refine Op.alloc H HP 35 (fun b => (.slice (some ⟨b, 0, none⟩) 1 1)) 49 [(.int .i64 1), (.slice Bf0 ((filePics (1 + pickN (X 1) 20) (pickN (X 2) 401) (pickN (X 3) 160) (1 + pickN (X 0) 40)).length) cf0)] rfl (by kernel_rfl) (fun w => by kernel_rfl) ?_
    intro b_14 w_15 a H HP
    refine ⟨.inr (((HP.tail rfl).tail rfl)), ?_⟩
    refine An.one 27 (by kernel_rfl) ?_
    refine Op.push H HP 36 1 0 (v := (.slice none 0 0)) (e := 49) (p := (⟨1, Bf0, cf0, filePics (1 + pickN (X 1) 20) (pickN (X 2) 401) (pickN (X 3) 160) (1 + pickN (X 0) 40)⟩ : AstA)) (l := ([] : List AstA)) (cs := AstA.cells) (ok := astOk) (fe := astFp) (size := 2) (z := (.agg #[.int .i64 0, .slice none 0 0])) (bytes := 32) (bb := b_14) (tb := 49) (fb := true) rfl (by kernel_rfl) elOk_ast (by kernel_rfl) (by kernel_rfl) rfl (by kernel_rfl) (by kernel_rfl) (by kernel_rfl) (by kernel_rfl) (by kernel_rfl) rfl (by kernel_rfl) (by simp [maxLen]) (by simp) ?_
    intro B_16 c_17 w_18 a H HP
    have HP : Hp w w_18 [bx b_14 49 [(.int .i64 1), (.slice Bf0 ((filePics (1 + pickN (X 1) 20) (pickN (X 2) 401) (pickN (X 3) 160) (1 + pickN (X 0) 40)).length) cf0)] true, (rowsR w.heap.size 49 2 AstA.cells astOk astFp (.slice B_16 (([] : List AstA).length + 1) c_17) (([] : List AstA) ++ [(⟨1, Bf0, cf0, filePics (1 + pickN (X 1) 20) (pickN (X 2) 401) (pickN (X 3) 160) (1 + pickN (X 0) 40)⟩ : AstA)])), bx b_1 24 [(.int .i64 (X 0)), (.int .i64 (X 1)), (.int .i64 (X 2)), (.int .i64 (X 3)), (.int .i64 (X 4)), (.int .i64 (X 5)), (.int .i64 (X 6)), (.int .i64 (X 7)), (.int .i64 (X 8)), (.int .i64 (X 9)), (.int .i64 (X 10)), (.int .i64 (X 11)), (.int .i64 (X 12)), (.int .i64 (X 13)), (.int .i64 (X 14)), (.int .i64 (X 15)), (.int .i64 (X 16)), (.int .i64 (X 17)), (.int .i64 (X 18)), (.int .i64 (X 19))] true] [] := HP
    refine ⟨.inr (((HP.tail rfl).tail rfl)), ?_⟩
    refine An.pure H (.inr (((HP.tail rfl).tail rfl))) 28 3 (.slice B_16 (([] : List AstA).length + 1) c_17) rfl (by kernel_rfl) (by kernel_rfl) (fun _ _ _ h => h) (fun _ => by kernel_rfl) ?_
    intro a H
    refine An.done (by kernel_rfl) ?_
    have H := H.keep (L' := [(3, (.slice B_16 (([] : List AstA).length + 1) c_17)), (6, (.bool true)), (5, (.int .i64 0)), (4, (.int .i64 0)), (1, (.pointer (some ⟨b_1, 0, none⟩))), (2, (.slice none 0 0))]) (by kernel_rfl)
    refine inb_normal ?_
    refine then_normal ?_
    refine w_region ?_
    refine H.val 7 (.int .i64 0) (by kernel_rfl) (by kernel_rfl) ?_
    intro a H
    refine H.valE 8 (.int .i64 (IntKind.i64.wrap (0 + 1))) (.int .i64 1) (by kernel_rfl) (by kernel_rfl) (by kernel_rfl) ?_
    intro a H
    refine H.val 4 (.int .i64 1) (by kernel_rfl) (by kernel_rfl) ?_
    intro a H
    refine wpList_nil ?_
    refine then_normal ?_
    have HP : Hp w w_18 [(rowsR w.heap.size 49 2 AstA.cells astOk astFp (.slice B_16 ((([] : List AstA) ++ [(⟨1, Bf0, cf0, filePics (1 + pickN (X 1) 20) (pickN (X 2) 401) (pickN (X 3) 160) (1 + pickN (X 0) 40)⟩ : AstA)]).length) c_17) (([] : List AstA) ++ [(⟨1, Bf0, cf0, filePics (1 + pickN (X 1) 20) (pickN (X 2) 401) (pickN (X 3) 160) (1 + pickN (X 0) 40)⟩ : AstA)])), bx b_1 24 [(.int .i64 (X 0)), (.int .i64 (X 1)), (.int .i64 (X 2)), (.int .i64 (X 3)), (.int .i64 (X 4)), (.int .i64 (X 5)), (.int .i64 (X 6)), (.int .i64 (X 7)), (.int .i64 (X 8)), (.int .i64 (X 9)), (.int .i64 (X 10)), (.int .i64 (X 11)), (.int .i64 (X 12)), (.int .i64 (X 13)), (.int .i64 (X 14)), (.int .i64 (X 15)), (.int .i64 (X 16)), (.int .i64 (X 17)), (.int .i64 (X 18)), (.int .i64 (X 19))] true] [] := by simpa using (HP.tail rfl)
    have H := H.as 3 (.slice B_16 (([] : List AstA) ++ [(⟨1, Bf0, cf0, filePics (1 + pickN (X 1) 20) (pickN (X 2) 401) (pickN (X 3) 160) (1 + pickN (X 0) 40)⟩ : AstA)]).length c_17) rfl (by simp)
    exact ⟨4, by omega, .inr (.inl ⟨rfl, B_16, c_17, ([] : List AstA) ++ [(⟨1, Bf0, cf0, filePics (1 + pickN (X 1) 20) (pickN (X 2) 401) (pickN (X 3) 160) (1 + pickN (X 0) 40)⟩ : AstA)], H.keep (by kernel_rfl), HP, rfl⟩)⟩
  · have hll : l'.length = 1 := by have := congrArg List.length hsp; simpa [specA, libTo] using this
    refine wp_seq ?_
    refine wp_seq ?_
    refine w_region ?_
    refine H.val 5 (.int .i64 1) (by kernel_rfl) (by kernel_rfl) ?_
    intro a H
    refine H.val 6 (.bool true) (by kernel_rfl) (by kernel_rfl) ?_
    intro a H
    refine wpList_nil ?_
    refine then_normal ?_
    refine w_ift H rfl ?_
    refine wp_skip ?_
    refine then_normal ?_
    refine wp_seq ?_
    refine wp_block ?_
    have HP := HP.front 0 rfl [(rowsR w.heap.size 49 2 AstA.cells astOk astFp (.slice LA l'.length lc) l'), bx b_1 24 [(.int .i64 (X 0)), (.int .i64 (X 1)), (.int .i64 (X 2)), (.int .i64 (X 3)), (.int .i64 (X 4)), (.int .i64 (X 5)), (.int .i64 (X 6)), (.int .i64 (X 7)), (.int .i64 (X 8)), (.int .i64 (X 9)), (.int .i64 (X 10)), (.int .i64 (X 11)), (.int .i64 (X 12)), (.int .i64 (X 13)), (.int .i64 (X 14)), (.int .i64 (X 15)), (.int .i64 (X 16)), (.int .i64 (X 17)), (.int .i64 (X 18)), (.int .i64 (X 19))] true] (by kernel_rfl)
    refine An.start (fun v => Hp w v [bx b_1 24 [(.int .i64 (X 0)), (.int .i64 (X 1)), (.int .i64 (X 2)), (.int .i64 (X 3)), (.int .i64 (X 4)), (.int .i64 (X 5)), (.int .i64 (X 6)), (.int .i64 (X 7)), (.int .i64 (X 8)), (.int .i64 (X 9)), (.int .i64 (X 10)), (.int .i64 (X 11)), (.int .i64 (X 12)), (.int .i64 (X 13)), (.int .i64 (X 14)), (.int .i64 (X 15)), (.int .i64 (X 16)), (.int .i64 (X 17)), (.int .i64 (X 18)), (.int .i64 (X 19))] true] []) 29 29 HP wide_follows rfl ?_
    intro w_19 HP
    refine An.pure H (.inr ((HP.tail rfl))) 0 9 (.slice LA l'.length lc) rfl (by kernel_rfl) (by kernel_rfl) (fun _ _ _ h => h) (fun _ => by kernel_rfl) ?_
    intro a H
    refine An.pure H (.inr ((HP.tail rfl))) 1 10 (.int .i64 1) rfl (by kernel_rfl) (by kernel_rfl) (fun _ _ _ h => h) (fun _ => by kernel_rfl) ?_
    intro a H
    refine An.pureE H (.inr ((HP.tail rfl))) 2 11 (.int .i64 (IntKind.i64.wrap (1 + 1))) (.int .i64 2) rfl (by kernel_rfl) (by kernel_rfl) (fun _ _ _ h => h) (fun _ => by kernel_rfl) (by kernel_rfl) ?_
    intro a H
    refine An.pure H (.inr ((HP.tail rfl))) 3 12 (.int .i64 1) rfl (by kernel_rfl) (by kernel_rfl) (fun _ _ _ h => h) (fun _ => by kernel_rfl) ?_
    intro a H
    refine An.pure H (.inr ((HP.tail rfl))) 4 13 (.pointer (some ⟨b_1, 4, none⟩)) rfl (by kernel_rfl) (by kernel_rfl) (fun _ _ _ h => h) (fun _ => by kernel_rfl) ?_
    intro a H
    refine An.pure H (.inr ((HP.tail rfl))) 5 14 (.pointer (some ⟨b_1, 4, none⟩)) rfl (by kernel_rfl) (by kernel_rfl) (fun _ _ _ h => h) (fun _ => by kernel_rfl) ?_
    intro a H
    refine An.val H ((HP.tail rfl)) 6 15 (.int .i64 (X 4)) rfl (by kernel_rfl) (by kernel_rfl) (fun _ _ _ h => h) (fun _ hS => ex_load1 (by kernel_rfl) (by kernel_rfl) (hS.cell 0 rfl 4 rfl)) ?_
    intro a H
    refine An.pure H (.inr ((HP.tail rfl))) 9 18 (.int .i64 1) rfl (by kernel_rfl) (by kernel_rfl) (fun _ _ _ h => h) (fun _ => by kernel_rfl) ?_
    intro a H
    refine An.pure H (.inr ((HP.tail rfl))) 10 19 (.pointer (some ⟨b_1, 4, none⟩)) rfl (by kernel_rfl) (by kernel_rfl) (fun _ _ _ h => h) (fun _ => by kernel_rfl) ?_
    intro a H
    refine An.pure H (.inr ((HP.tail rfl))) 11 20 (.pointer (some ⟨b_1, 5, none⟩)) rfl (by kernel_rfl) (by kernel_rfl) (fun _ _ _ h => h) (fun _ => by kernel_rfl) ?_
    intro a H
    refine An.val H ((HP.tail rfl)) 12 21 (.int .i64 (X 5)) rfl (by kernel_rfl) (by kernel_rfl) (fun _ _ _ h => h) (fun _ hS => ex_load1 (by kernel_rfl) (by kernel_rfl) (hS.cell 0 rfl 5 rfl)) ?_
    intro a H
    refine An.pure H (.inr ((HP.tail rfl))) 15 24 (.int .i64 1) rfl (by kernel_rfl) (by kernel_rfl) (fun _ _ _ h => h) (fun _ => by kernel_rfl) ?_
    intro a H
    refine An.pure H (.inr ((HP.tail rfl))) 16 25 (.pointer (some ⟨b_1, 4, none⟩)) rfl (by kernel_rfl) (by kernel_rfl) (fun _ _ _ h => h) (fun _ => by kernel_rfl) ?_
    intro a H
    refine An.pure H (.inr ((HP.tail rfl))) 17 26 (.pointer (some ⟨b_1, 6, none⟩)) rfl (by kernel_rfl) (by kernel_rfl) (fun _ _ _ h => h) (fun _ => by kernel_rfl) ?_
    intro a H
    refine An.val H ((HP.tail rfl)) 18 27 (.int .i64 (X 6)) rfl (by kernel_rfl) (by kernel_rfl) (fun _ _ _ h => h) (fun _ hS => ex_load1 (by kernel_rfl) (by kernel_rfl) (hS.cell 0 rfl 6 rfl)) ?_
    intro a H
    refine An.pure H (.inr ((HP.tail rfl))) 20 29 (.int .i64 1) rfl (by kernel_rfl) (by kernel_rfl) (fun _ _ _ h => h) (fun _ => by kernel_rfl) ?_
    intro a H
    refine An.pure H (.inr ((HP.tail rfl))) 21 30 (.pointer (some ⟨b_1, 4, none⟩)) rfl (by kernel_rfl) (by kernel_rfl) (fun _ _ _ h => h) (fun _ => by kernel_rfl) ?_
    intro a H
    refine An.pure H (.inr ((HP.tail rfl))) 22 31 (.pointer (some ⟨b_1, 7, none⟩)) rfl (by kernel_rfl) (by kernel_rfl) (fun _ _ _ h => h) (fun _ => by kernel_rfl) ?_
    intro a H
    refine An.val H ((HP.tail rfl)) 23 32 (.int .i64 (X 7)) rfl (by kernel_rfl) (by kernel_rfl) (fun _ _ _ h => h) (fun _ hS => ex_load1 (by kernel_rfl) (by kernel_rfl) (hS.cell 0 rfl 7 rfl)) ?_
    intro a H
    refine An.one 7 (by kernel_rfl) ?_
    refine Op.call H 16 rfl (by kernel_rfl) (Eq.trans (by kernel_rfl : _ = (callFunc 11 #[(.int .i64 (X 4)), (.int .i64 40)]).run Try.prog w_19) (Try.call11 _ _)) (pick_any (X 4) 40 w_19 (hX _) (by omega)) ?_
    rintro e w_21 ⟨rfl, hw⟩
    refine ⟨_, rfl, ?_⟩
    intro a H
    have HP := hw ▸ HP
    have hpk_20 := pickI_lt (X 4) 40 (by omega)
    refine ⟨.inr ((HP.tail rfl)), ?_⟩
    refine An.pureE H (.inr ((HP.tail rfl))) 8 17 (.int .i64 (IntKind.i64.wrap (1 + (pickI (X 4) 40)))) (.int .i64 (1 + (pickI (X 4) 40))) rfl (by kernel_rfl) (by kernel_rfl) (fun _ _ _ h => h) (fun _ => by kernel_rfl) ((by rw [wrap_ini64 _ (by omega)])) ?_
    intro a H
    refine An.one 13 (by kernel_rfl) ?_
    refine Op.call H 22 rfl (by kernel_rfl) (Eq.trans (by kernel_rfl : _ = (callFunc 11 #[(.int .i64 (X 5)), (.int .i64 20)]).run Try.prog w_21) (Try.call11 _ _)) (pick_any (X 5) 20 w_21 (hX _) (by omega)) ?_
    rintro e w_23 ⟨rfl, hw⟩
    refine ⟨_, rfl, ?_⟩
    intro a H
    have HP := hw ▸ HP
    have hpk_22 := pickI_lt (X 5) 20 (by omega)
    refine ⟨.inr ((HP.tail rfl)), ?_⟩
    refine An.pureE H (.inr ((HP.tail rfl))) 14 23 (.int .i64 (IntKind.i64.wrap (1 + (pickI (X 5) 20)))) (.int .i64 (1 + (pickI (X 5) 20))) rfl (by kernel_rfl) (by kernel_rfl) (fun _ _ _ h => h) (fun _ => by kernel_rfl) ((by rw [wrap_ini64 _ (by omega)])) ?_
    intro a H
    refine An.one 19 (by kernel_rfl) ?_
    refine Op.call H 28 rfl (by kernel_rfl) (Eq.trans (by kernel_rfl : _ = (callFunc 11 #[(.int .i64 (X 6)), (.int .i64 401)]).run Try.prog w_23) (Try.call11 _ _)) (pick_any (X 6) 401 w_23 (hX _) (by omega)) ?_
    rintro e w_25 ⟨rfl, hw⟩
    refine ⟨_, rfl, ?_⟩
    intro a H
    have HP := hw ▸ HP
    have hpk_24 := pickI_lt (X 6) 401 (by omega)
    refine ⟨.inr ((HP.tail rfl)), ?_⟩
    refine An.one 24 (by kernel_rfl) ?_
    refine Op.call H 33 rfl (by kernel_rfl) (Eq.trans (by kernel_rfl : _ = (callFunc 11 #[(.int .i64 (X 7)), (.int .i64 160)]).run Try.prog w_25) (Try.call11 _ _)) (pick_any (X 7) 160 w_25 (hX _) (by omega)) ?_
    rintro e w_27 ⟨rfl, hw⟩
    refine ⟨_, rfl, ?_⟩
    intro a H
    have HP := hw ▸ HP
    have hpk_26 := pickI_lt (X 7) 160 (by omega)
    refine ⟨.inr ((HP.tail rfl)), ?_⟩
    refine An.one 25 (by kernel_rfl) ?_
    refine Op.call H 34 rfl (by kernel_rfl) (Eq.trans (by kernel_rfl : _ = (callFunc 23 #[(.int .i64 2), (.int .i64 (1 + (pickI (X 4) 40))), (.int .i64 (1 + (pickI (X 5) 20))), (.int .i64 (pickI (X 6) 401)), (.int .i64 (pickI (X 7) 160))]).run Try.prog w_27) (Try.call23 _ _)) (file_lib 2 (X 4) (X 5) (X 6) (X 7) w_27) ?_
    rintro e w_28 ⟨Bf1, cf1, rfl, q1, q2, q3, q4, hb, q5⟩
    refine ⟨_, rfl, ?_⟩
    intro a H
    have HP := HP.pend 0 rfl elOk_ast (⟨2, Bf1, cf1, filePics (1 + pickN (X 5) 20) (pickN (X 6) 401) (pickN (X 7) 160) (1 + pickN (X 4) 40)⟩ : AstA) [(rowsP w.heap.size 49 2 AstA.cells astOk astFp (.slice LA l'.length lc) l' (⟨2, Bf1, cf1, filePics (1 + pickN (X 5) 20) (pickN (X 6) 401) (pickN (X 7) 160) (1 + pickN (X 4) 40)⟩ : AstA)), bx b_1 24 [(.int .i64 (X 0)), (.int .i64 (X 1)), (.int .i64 (X 2)), (.int .i64 (X 3)), (.int .i64 (X 4)), (.int .i64 (X 5)), (.int .i64 (X 6)), (.int .i64 (X 7)), (.int .i64 (X 8)), (.int .i64 (X 9)), (.int .i64 (X 10)), (.int .i64 (X 11)), (.int .i64 (X 12)), (.int .i64 (X 13)), (.int .i64 (X 14)), (.int .i64 (X 15)), (.int .i64 (X 16)), (.int .i64 (X 17)), (.int .i64 (X 18)), (.int .i64 (X 19))] true] (by kernel_rfl) hb ⟨q1, q2, q3, q4, trivial⟩ (fun k hk => ⟨hk.2.elim fun off e => q5 k off e, row_lt q1.2 hk⟩)
    refine ⟨.inr ((HP.tail rfl)), ?_⟩
    refine An.one 26 (by kernel_rfl) ?_
    refine Op.alloc H HP 35 (fun b => (.slice (some ⟨b, 0, none⟩) 1 1)) 49 [(.int .i64 2), (.slice Bf1 ((filePics (1 + pickN (X 5) 20) (pickN (X 6) 401) (pickN (X 7) 160) (1 + pickN (X 4) 40)).length) cf1)] rfl (by kernel_rfl) (fun w => by kernel_rfl) ?_
    intro b_29 w_30 a H HP
    refine ⟨.inr (((HP.tail rfl).tail rfl)), ?_⟩
    refine An.one 27 (by kernel_rfl) ?_
    refine Op.push H HP 36 1 0 (v := (.slice LA l'.length lc)) (e := 49) (p := (⟨2, Bf1, cf1, filePics (1 + pickN (X 5) 20) (pickN (X 6) 401) (pickN (X 7) 160) (1 + pickN (X 4) 40)⟩ : AstA)) (l := l') (cs := AstA.cells) (ok := astOk) (fe := astFp) (size := 2) (z := (.agg #[.int .i64 0, .slice none 0 0])) (bytes := 32) (bb := b_29) (tb := 49) (fb := true) rfl (by kernel_rfl) elOk_ast (by kernel_rfl) (by kernel_rfl) rfl (by kernel_rfl) (by kernel_rfl) (by kernel_rfl) (by kernel_rfl) (by kernel_rfl) rfl (by kernel_rfl) (by unfold maxLen; omega) (by omega) ?_
    intro B_31 c_32 w_33 a H HP
    have HP : Hp w w_33 [bx b_29 49 [(.int .i64 2), (.slice Bf1 ((filePics (1 + pickN (X 5) 20) (pickN (X 6) 401) (pickN (X 7) 160) (1 + pickN (X 4) 40)).length) cf1)] true, (rowsR w.heap.size 49 2 AstA.cells astOk astFp (.slice B_31 (l'.length + 1) c_32) (l' ++ [(⟨2, Bf1, cf1, filePics (1 + pickN (X 5) 20) (pickN (X 6) 401) (pickN (X 7) 160) (1 + pickN (X 4) 40)⟩ : AstA)])), bx b_1 24 [(.int .i64 (X 0)), (.int .i64 (X 1)), (.int .i64 (X 2)), (.int .i64 (X 3)), (.int .i64 (X 4)), (.int .i64 (X 5)), (.int .i64 (X 6)), (.int .i64 (X 7)), (.int .i64 (X 8)), (.int .i64 (X 9)), (.int .i64 (X 10)), (.int .i64 (X 11)), (.int .i64 (X 12)), (.int .i64 (X 13)), (.int .i64 (X 14)), (.int .i64 (X 15)), (.int .i64 (X 16)), (.int .i64 (X 17)), (.int .i64 (X 18)), (.int .i64 (X 19))] true] [] := HP
    refine ⟨.inr (((HP.tail rfl).tail rfl)), ?_⟩
    refine An.pure H (.inr (((HP.tail rfl).tail rfl))) 28 3 (.slice B_31 (l'.length + 1) c_32) rfl (by kernel_rfl) (by kernel_rfl) (fun _ _ _ h => h) (fun _ => by kernel_rfl) ?_
    intro a H
    refine An.done (by kernel_rfl) ?_
    have H := H.keep (L' := [(3, (.slice B_31 (l'.length + 1) c_32)), (6, (.bool true)), (5, (.int .i64 1)), (4, (.int .i64 1)), (1, (.pointer (some ⟨b_1, 0, none⟩))), (2, (.slice none 0 0))]) (by kernel_rfl)
    refine inb_normal ?_
    refine then_normal ?_
    refine w_region ?_
    refine H.val 7 (.int .i64 1) (by kernel_rfl) (by kernel_rfl) ?_
    intro a H
    refine H.valE 8 (.int .i64 (IntKind.i64.wrap (1 + 1))) (.int .i64 2) (by kernel_rfl) (by kernel_rfl) (by kernel_rfl) ?_
    intro a H
    refine H.val 4 (.int .i64 2) (by kernel_rfl) (by kernel_rfl) ?_
    intro a H
    refine wpList_nil ?_
    refine then_normal ?_
    have HP : Hp w w_33 [(rowsR w.heap.size 49 2 AstA.cells astOk astFp (.slice B_31 ((l' ++ [(⟨2, Bf1, cf1, filePics (1 + pickN (X 5) 20) (pickN (X 6) 401) (pickN (X 7) 160) (1 + pickN (X 4) 40)⟩ : AstA)]).length) c_32) (l' ++ [(⟨2, Bf1, cf1, filePics (1 + pickN (X 5) 20) (pickN (X 6) 401) (pickN (X 7) 160) (1 + pickN (X 4) 40)⟩ : AstA)])), bx b_1 24 [(.int .i64 (X 0)), (.int .i64 (X 1)), (.int .i64 (X 2)), (.int .i64 (X 3)), (.int .i64 (X 4)), (.int .i64 (X 5)), (.int .i64 (X 6)), (.int .i64 (X 7)), (.int .i64 (X 8)), (.int .i64 (X 9)), (.int .i64 (X 10)), (.int .i64 (X 11)), (.int .i64 (X 12)), (.int .i64 (X 13)), (.int .i64 (X 14)), (.int .i64 (X 15)), (.int .i64 (X 16)), (.int .i64 (X 17)), (.int .i64 (X 18)), (.int .i64 (X 19))] true] [] := by simpa using (HP.tail rfl)
    have H := H.as 3 (.slice B_31 (l' ++ [(⟨2, Bf1, cf1, filePics (1 + pickN (X 5) 20) (pickN (X 6) 401) (pickN (X 7) 160) (1 + pickN (X 4) 40)⟩ : AstA)]).length c_32) rfl (by simp)
    exact ⟨3, by omega, .inr (.inr (.inl ⟨rfl, B_31, c_32, l' ++ [(⟨2, Bf1, cf1, filePics (1 + pickN (X 5) 20) (pickN (X 6) 401) (pickN (X 7) 160) (1 + pickN (X 4) 40)⟩ : AstA)], H.keep (by kernel_rfl), HP, specA_snoc hsp⟩))⟩
  · have hll : l'.length = 2 := by have := congrArg List.length hsp; simpa [specA, libTo] using this
    refine wp_seq ?_
    refine wp_seq ?_
    refine w_region ?_
    refine H.val 5 (.int .i64 2) (by kernel_rfl) (by kernel_rfl) ?_
    intro a H
    refine H.val 6 (.bool true) (by kernel_rfl) (by kernel_rfl) ?_
    intro a H
    refine wpList_nil ?_
    refine then_normal ?_
    refine w_ift H rfl ?_
    refine wp_skip ?_
    refine then_normal ?_
    refine wp_seq ?_
    refine wp_block ?_
    have HP := HP.front 0 rfl [(rowsR w.heap.size 49 2 AstA.cells astOk astFp (.slice LA l'.length lc) l'), bx b_1 24 [(.int .i64 (X 0)), (.int .i64 (X 1)), (.int .i64 (X 2)), (.int .i64 (X 3)), (.int .i64 (X 4)), (.int .i64 (X 5)), (.int .i64 (X 6)), (.int .i64 (X 7)), (.int .i64 (X 8)), (.int .i64 (X 9)), (.int .i64 (X 10)), (.int .i64 (X 11)), (.int .i64 (X 12)), (.int .i64 (X 13)), (.int .i64 (X 14)), (.int .i64 (X 15)), (.int .i64 (X 16)), (.int .i64 (X 17)), (.int .i64 (X 18)), (.int .i64 (X 19))] true] (by kernel_rfl)
    refine An.start (fun v => Hp w v [bx b_1 24 [(.int .i64 (X 0)), (.int .i64 (X 1)), (.int .i64 (X 2)), (.int .i64 (X 3)), (.int .i64 (X 4)), (.int .i64 (X 5)), (.int .i64 (X 6)), (.int .i64 (X 7)), (.int .i64 (X 8)), (.int .i64 (X 9)), (.int .i64 (X 10)), (.int .i64 (X 11)), (.int .i64 (X 12)), (.int .i64 (X 13)), (.int .i64 (X 14)), (.int .i64 (X 15)), (.int .i64 (X 16)), (.int .i64 (X 17)), (.int .i64 (X 18)), (.int .i64 (X 19))] true] []) 29 29 HP wide_follows rfl ?_
    intro w_34 HP
    refine An.pure H (.inr ((HP.tail rfl))) 0 9 (.slice LA l'.length lc) rfl (by kernel_rfl) (by kernel_rfl) (fun _ _ _ h => h) (fun _ => by kernel_rfl) ?_
    intro a H
    refine An.pure H (.inr ((HP.tail rfl))) 1 10 (.int .i64 2) rfl (by kernel_rfl) (by kernel_rfl) (fun _ _ _ h => h) (fun _ => by kernel_rfl) ?_
    intro a H
    refine An.pureE H (.inr ((HP.tail rfl))) 2 11 (.int .i64 (IntKind.i64.wrap (2 + 1))) (.int .i64 3) rfl (by kernel_rfl) (by kernel_rfl) (fun _ _ _ h => h) (fun _ => by kernel_rfl) (by kernel_rfl) ?_
    intro a H
    refine An.pure H (.inr ((HP.tail rfl))) 3 12 (.int .i64 2) rfl (by kernel_rfl) (by kernel_rfl) (fun _ _ _ h => h) (fun _ => by kernel_rfl) ?_
    intro a H
    refine An.pure H (.inr ((HP.tail rfl))) 4 13 (.pointer (some ⟨b_1, 8, none⟩)) rfl (by kernel_rfl) (by kernel_rfl) (fun _ _ _ h => h) (fun _ => by kernel_rfl) ?_
    intro a H
    refine An.pure H (.inr ((HP.tail rfl))) 5 14 (.pointer (some ⟨b_1, 8, none⟩)) rfl (by kernel_rfl) (by kernel_rfl) (fun _ _ _ h => h) (fun _ => by kernel_rfl) ?_
    intro a H
    refine An.val H ((HP.tail rfl)) 6 15 (.int .i64 (X 8)) rfl (by kernel_rfl) (by kernel_rfl) (fun _ _ _ h => h) (fun _ hS => ex_load1 (by kernel_rfl) (by kernel_rfl) (hS.cell 0 rfl 8 rfl)) ?_
    intro a H
    refine An.pure H (.inr ((HP.tail rfl))) 9 18 (.int .i64 2) rfl (by kernel_rfl) (by kernel_rfl) (fun _ _ _ h => h) (fun _ => by kernel_rfl) ?_
    intro a H
    refine An.pure H (.inr ((HP.tail rfl))) 10 19 (.pointer (some ⟨b_1, 8, none⟩)) rfl (by kernel_rfl) (by kernel_rfl) (fun _ _ _ h => h) (fun _ => by kernel_rfl) ?_
    intro a H
    refine An.pure H (.inr ((HP.tail rfl))) 11 20 (.pointer (some ⟨b_1, 9, none⟩)) rfl (by kernel_rfl) (by kernel_rfl) (fun _ _ _ h => h) (fun _ => by kernel_rfl) ?_
    intro a H
    refine An.val H ((HP.tail rfl)) 12 21 (.int .i64 (X 9)) rfl (by kernel_rfl) (by kernel_rfl) (fun _ _ _ h => h) (fun _ hS => ex_load1 (by kernel_rfl) (by kernel_rfl) (hS.cell 0 rfl 9 rfl)) ?_
    intro a H
    refine An.pure H (.inr ((HP.tail rfl))) 15 24 (.int .i64 2) rfl (by kernel_rfl) (by kernel_rfl) (fun _ _ _ h => h) (fun _ => by kernel_rfl) ?_
    intro a H
    refine An.pure H (.inr ((HP.tail rfl))) 16 25 (.pointer (some ⟨b_1, 8, none⟩)) rfl (by kernel_rfl) (by kernel_rfl) (fun _ _ _ h => h) (fun _ => by kernel_rfl) ?_
    intro a H
    refine An.pure H (.inr ((HP.tail rfl))) 17 26 (.pointer (some ⟨b_1, 10, none⟩)) rfl (by kernel_rfl) (by kernel_rfl) (fun _ _ _ h => h) (fun _ => by kernel_rfl) ?_
    intro a H
    refine An.val H ((HP.tail rfl)) 18 27 (.int .i64 (X 10)) rfl (by kernel_rfl) (by kernel_rfl) (fun _ _ _ h => h) (fun _ hS => ex_load1 (by kernel_rfl) (by kernel_rfl) (hS.cell 0 rfl 10 rfl)) ?_
    intro a H
    refine An.pure H (.inr ((HP.tail rfl))) 20 29 (.int .i64 2) rfl (by kernel_rfl) (by kernel_rfl) (fun _ _ _ h => h) (fun _ => by kernel_rfl) ?_
    intro a H
    refine An.pure H (.inr ((HP.tail rfl))) 21 30 (.pointer (some ⟨b_1, 8, none⟩)) rfl (by kernel_rfl) (by kernel_rfl) (fun _ _ _ h => h) (fun _ => by kernel_rfl) ?_
    intro a H
    refine An.pure H (.inr ((HP.tail rfl))) 22 31 (.pointer (some ⟨b_1, 11, none⟩)) rfl (by kernel_rfl) (by kernel_rfl) (fun _ _ _ h => h) (fun _ => by kernel_rfl) ?_
    intro a H
    refine An.val H ((HP.tail rfl)) 23 32 (.int .i64 (X 11)) rfl (by kernel_rfl) (by kernel_rfl) (fun _ _ _ h => h) (fun _ hS => ex_load1 (by kernel_rfl) (by kernel_rfl) (hS.cell 0 rfl 11 rfl)) ?_
    intro a H
    refine An.one 7 (by kernel_rfl) ?_
    refine Op.call H 16 rfl (by kernel_rfl) (Eq.trans (by kernel_rfl : _ = (callFunc 11 #[(.int .i64 (X 8)), (.int .i64 40)]).run Try.prog w_34) (Try.call11 _ _)) (pick_any (X 8) 40 w_34 (hX _) (by omega)) ?_
    rintro e w_36 ⟨rfl, hw⟩
    refine ⟨_, rfl, ?_⟩
    intro a H
    have HP := hw ▸ HP
    have hpk_35 := pickI_lt (X 8) 40 (by omega)
    refine ⟨.inr ((HP.tail rfl)), ?_⟩
    refine An.pureE H (.inr ((HP.tail rfl))) 8 17 (.int .i64 (IntKind.i64.wrap (1 + (pickI (X 8) 40)))) (.int .i64 (1 + (pickI (X 8) 40))) rfl (by kernel_rfl) (by kernel_rfl) (fun _ _ _ h => h) (fun _ => by kernel_rfl) ((by rw [wrap_ini64 _ (by omega)])) ?_
    intro a H
    refine An.one 13 (by kernel_rfl) ?_
    refine Op.call H 22 rfl (by kernel_rfl) (Eq.trans (by kernel_rfl : _ = (callFunc 11 #[(.int .i64 (X 9)), (.int .i64 20)]).run Try.prog w_36) (Try.call11 _ _)) (pick_any (X 9) 20 w_36 (hX _) (by omega)) ?_
    rintro e w_38 ⟨rfl, hw⟩
    refine ⟨_, rfl, ?_⟩
    intro a H
    have HP := hw ▸ HP
    have hpk_37 := pickI_lt (X 9) 20 (by omega)
    refine ⟨.inr ((HP.tail rfl)), ?_⟩
    refine An.pureE H (.inr ((HP.tail rfl))) 14 23 (.int .i64 (IntKind.i64.wrap (1 + (pickI (X 9) 20)))) (.int .i64 (1 + (pickI (X 9) 20))) rfl (by kernel_rfl) (by kernel_rfl) (fun _ _ _ h => h) (fun _ => by kernel_rfl) ((by rw [wrap_ini64 _ (by omega)])) ?_
    intro a H
    refine An.one 19 (by kernel_rfl) ?_
    refine Op.call H 28 rfl (by kernel_rfl) (Eq.trans (by kernel_rfl : _ = (callFunc 11 #[(.int .i64 (X 10)), (.int .i64 401)]).run Try.prog w_38) (Try.call11 _ _)) (pick_any (X 10) 401 w_38 (hX _) (by omega)) ?_
    rintro e w_40 ⟨rfl, hw⟩
    refine ⟨_, rfl, ?_⟩
    intro a H
    have HP := hw ▸ HP
    have hpk_39 := pickI_lt (X 10) 401 (by omega)
    refine ⟨.inr ((HP.tail rfl)), ?_⟩
    refine An.one 24 (by kernel_rfl) ?_
    refine Op.call H 33 rfl (by kernel_rfl) (Eq.trans (by kernel_rfl : _ = (callFunc 11 #[(.int .i64 (X 11)), (.int .i64 160)]).run Try.prog w_40) (Try.call11 _ _)) (pick_any (X 11) 160 w_40 (hX _) (by omega)) ?_
    rintro e w_42 ⟨rfl, hw⟩
    refine ⟨_, rfl, ?_⟩
    intro a H
    have HP := hw ▸ HP
    have hpk_41 := pickI_lt (X 11) 160 (by omega)
    refine ⟨.inr ((HP.tail rfl)), ?_⟩
    refine An.one 25 (by kernel_rfl) ?_
    refine Op.call H 34 rfl (by kernel_rfl) (Eq.trans (by kernel_rfl : _ = (callFunc 23 #[(.int .i64 3), (.int .i64 (1 + (pickI (X 8) 40))), (.int .i64 (1 + (pickI (X 9) 20))), (.int .i64 (pickI (X 10) 401)), (.int .i64 (pickI (X 11) 160))]).run Try.prog w_42) (Try.call23 _ _)) (file_lib 3 (X 8) (X 9) (X 10) (X 11) w_42) ?_
    rintro e w_43 ⟨Bf2, cf2, rfl, q1, q2, q3, q4, hb, q5⟩
    refine ⟨_, rfl, ?_⟩
    intro a H
    have HP := HP.pend 0 rfl elOk_ast (⟨3, Bf2, cf2, filePics (1 + pickN (X 9) 20) (pickN (X 10) 401) (pickN (X 11) 160) (1 + pickN (X 8) 40)⟩ : AstA) [(rowsP w.heap.size 49 2 AstA.cells astOk astFp (.slice LA l'.length lc) l' (⟨3, Bf2, cf2, filePics (1 + pickN (X 9) 20) (pickN (X 10) 401) (pickN (X 11) 160) (1 + pickN (X 8) 40)⟩ : AstA)), bx b_1 24 [(.int .i64 (X 0)), (.int .i64 (X 1)), (.int .i64 (X 2)), (.int .i64 (X 3)), (.int .i64 (X 4)), (.int .i64 (X 5)), (.int .i64 (X 6)), (.int .i64 (X 7)), (.int .i64 (X 8)), (.int .i64 (X 9)), (.int .i64 (X 10)), (.int .i64 (X 11)), (.int .i64 (X 12)), (.int .i64 (X 13)), (.int .i64 (X 14)), (.int .i64 (X 15)), (.int .i64 (X 16)), (.int .i64 (X 17)), (.int .i64 (X 18)), (.int .i64 (X 19))] true] (by kernel_rfl) hb ⟨q1, q2, q3, q4, trivial⟩ (fun k hk => ⟨hk.2.elim fun off e => q5 k off e, row_lt q1.2 hk⟩)
    refine ⟨.inr ((HP.tail rfl)), ?_⟩
    refine An.one 26 (by kernel_rfl) ?_
    refine Op.alloc H HP 35 (fun b => (.slice (some ⟨b, 0, none⟩) 1 1)) 49 [(.int .i64 3), (.slice Bf2 ((filePics (1 + pickN (X 9) 20) (pickN (X 10) 401) (pickN (X 11) 160) (1 + pickN (X 8) 40)).length) cf2)] rfl (by kernel_rfl) (fun w => by kernel_rfl) ?_
    intro b_44 w_45 a H HP
    refine ⟨.inr (((HP.tail rfl).tail rfl)), ?_⟩
    refine An.one 27 (by kernel_rfl) ?_
    refine Op.push H HP 36 1 0 (v := (.slice LA l'.length lc)) (e := 49) (p := (⟨3, Bf2, cf2, filePics (1 + pickN (X 9) 20) (pickN (X 10) 401) (pickN (X 11) 160) (1 + pickN (X 8) 40)⟩ : AstA)) (l := l') (cs := AstA.cells) (ok := astOk) (fe := astFp) (size := 2) (z := (.agg #[.int .i64 0, .slice none 0 0])) (bytes := 32) (bb := b_44) (tb := 49) (fb := true) rfl (by kernel_rfl) elOk_ast (by kernel_rfl) (by kernel_rfl) rfl (by kernel_rfl) (by kernel_rfl) (by kernel_rfl) (by kernel_rfl) (by kernel_rfl) rfl (by kernel_rfl) (by unfold maxLen; omega) (by omega) ?_
    intro B_46 c_47 w_48 a H HP
    have HP : Hp w w_48 [bx b_44 49 [(.int .i64 3), (.slice Bf2 ((filePics (1 + pickN (X 9) 20) (pickN (X 10) 401) (pickN (X 11) 160) (1 + pickN (X 8) 40)).length) cf2)] true, (rowsR w.heap.size 49 2 AstA.cells astOk astFp (.slice B_46 (l'.length + 1) c_47) (l' ++ [(⟨3, Bf2, cf2, filePics (1 + pickN (X 9) 20) (pickN (X 10) 401) (pickN (X 11) 160) (1 + pickN (X 8) 40)⟩ : AstA)])), bx b_1 24 [(.int .i64 (X 0)), (.int .i64 (X 1)), (.int .i64 (X 2)), (.int .i64 (X 3)), (.int .i64 (X 4)), (.int .i64 (X 5)), (.int .i64 (X 6)), (.int .i64 (X 7)), (.int .i64 (X 8)), (.int .i64 (X 9)), (.int .i64 (X 10)), (.int .i64 (X 11)), (.int .i64 (X 12)), (.int .i64 (X 13)), (.int .i64 (X 14)), (.int .i64 (X 15)), (.int .i64 (X 16)), (.int .i64 (X 17)), (.int .i64 (X 18)), (.int .i64 (X 19))] true] [] := HP
    refine ⟨.inr (((HP.tail rfl).tail rfl)), ?_⟩
    refine An.pure H (.inr (((HP.tail rfl).tail rfl))) 28 3 (.slice B_46 (l'.length + 1) c_47) rfl (by kernel_rfl) (by kernel_rfl) (fun _ _ _ h => h) (fun _ => by kernel_rfl) ?_
    intro a H
    refine An.done (by kernel_rfl) ?_
    have H := H.keep (L' := [(3, (.slice B_46 (l'.length + 1) c_47)), (6, (.bool true)), (5, (.int .i64 2)), (4, (.int .i64 2)), (1, (.pointer (some ⟨b_1, 0, none⟩))), (2, (.slice none 0 0))]) (by kernel_rfl)
    refine inb_normal ?_
    refine then_normal ?_
    refine w_region ?_
    refine H.val 7 (.int .i64 2) (by kernel_rfl) (by kernel_rfl) ?_
    intro a H
    refine H.valE 8 (.int .i64 (IntKind.i64.wrap (2 + 1))) (.int .i64 3) (by kernel_rfl) (by kernel_rfl) (by kernel_rfl) ?_
    intro a H
    refine H.val 4 (.int .i64 3) (by kernel_rfl) (by kernel_rfl) ?_
    intro a H
    refine wpList_nil ?_
    refine then_normal ?_
    have HP : Hp w w_48 [(rowsR w.heap.size 49 2 AstA.cells astOk astFp (.slice B_46 ((l' ++ [(⟨3, Bf2, cf2, filePics (1 + pickN (X 9) 20) (pickN (X 10) 401) (pickN (X 11) 160) (1 + pickN (X 8) 40)⟩ : AstA)]).length) c_47) (l' ++ [(⟨3, Bf2, cf2, filePics (1 + pickN (X 9) 20) (pickN (X 10) 401) (pickN (X 11) 160) (1 + pickN (X 8) 40)⟩ : AstA)])), bx b_1 24 [(.int .i64 (X 0)), (.int .i64 (X 1)), (.int .i64 (X 2)), (.int .i64 (X 3)), (.int .i64 (X 4)), (.int .i64 (X 5)), (.int .i64 (X 6)), (.int .i64 (X 7)), (.int .i64 (X 8)), (.int .i64 (X 9)), (.int .i64 (X 10)), (.int .i64 (X 11)), (.int .i64 (X 12)), (.int .i64 (X 13)), (.int .i64 (X 14)), (.int .i64 (X 15)), (.int .i64 (X 16)), (.int .i64 (X 17)), (.int .i64 (X 18)), (.int .i64 (X 19))] true] [] := by simpa using (HP.tail rfl)
    have H := H.as 3 (.slice B_46 (l' ++ [(⟨3, Bf2, cf2, filePics (1 + pickN (X 9) 20) (pickN (X 10) 401) (pickN (X 11) 160) (1 + pickN (X 8) 40)⟩ : AstA)]).length c_47) rfl (by simp)
    exact ⟨2, by omega, .inr (.inr (.inr (.inl ⟨rfl, B_46, c_47, l' ++ [(⟨3, Bf2, cf2, filePics (1 + pickN (X 9) 20) (pickN (X 10) 401) (pickN (X 11) 160) (1 + pickN (X 8) 40)⟩ : AstA)], H.keep (by kernel_rfl), HP, specA_snoc hsp⟩)))⟩
  · have hll : l'.length = 3 := by have := congrArg List.length hsp; simpa [specA, libTo] using this
    refine wp_seq ?_
    refine wp_seq ?_
    refine w_region ?_
    refine H.val 5 (.int .i64 3) (by kernel_rfl) (by kernel_rfl) ?_
    intro a H
    refine H.val 6 (.bool true) (by kernel_rfl) (by kernel_rfl) ?_
    intro a H
    refine wpList_nil ?_
    refine then_normal ?_
    refine w_ift H rfl ?_
    refine wp_skip ?_
    refine then_normal ?_
    refine wp_seq ?_
    refine wp_block ?_
    have HP := HP.front 0 rfl [(rowsR w.heap.size 49 2 AstA.cells astOk astFp (.slice LA l'.length lc) l'), bx b_1 24 [(.int .i64 (X 0)), (.int .i64 (X 1)), (.int .i64 (X 2)), (.int .i64 (X 3)), (.int .i64 (X 4)), (.int .i64 (X 5)), (.int .i64 (X 6)), (.int .i64 (X 7)), (.int .i64 (X 8)), (.int .i64 (X 9)), (.int .i64 (X 10)), (.int .i64 (X 11)), (.int .i64 (X 12)), (.int .i64 (X 13)), (.int .i64 (X 14)), (.int .i64 (X 15)), (.int .i64 (X 16)), (.int .i64 (X 17)), (.int .i64 (X 18)), (.int .i64 (X 19))] true] (by kernel_rfl)
    refine An.start (fun v => Hp w v [bx b_1 24 [(.int .i64 (X 0)), (.int .i64 (X 1)), (.int .i64 (X 2)), (.int .i64 (X 3)), (.int .i64 (X 4)), (.int .i64 (X 5)), (.int .i64 (X 6)), (.int .i64 (X 7)), (.int .i64 (X 8)), (.int .i64 (X 9)), (.int .i64 (X 10)), (.int .i64 (X 11)), (.int .i64 (X 12)), (.int .i64 (X 13)), (.int .i64 (X 14)), (.int .i64 (X 15)), (.int .i64 (X 16)), (.int .i64 (X 17)), (.int .i64 (X 18)), (.int .i64 (X 19))] true] []) 29 29 HP wide_follows rfl ?_
    intro w_49 HP
    refine An.pure H (.inr ((HP.tail rfl))) 0 9 (.slice LA l'.length lc) rfl (by kernel_rfl) (by kernel_rfl) (fun _ _ _ h => h) (fun _ => by kernel_rfl) ?_
    intro a H
    refine An.pure H (.inr ((HP.tail rfl))) 1 10 (.int .i64 3) rfl (by kernel_rfl) (by kernel_rfl) (fun _ _ _ h => h) (fun _ => by kernel_rfl) ?_
    intro a H
    refine An.pureE H (.inr ((HP.tail rfl))) 2 11 (.int .i64 (IntKind.i64.wrap (3 + 1))) (.int .i64 4) rfl (by kernel_rfl) (by kernel_rfl) (fun _ _ _ h => h) (fun _ => by kernel_rfl) (by kernel_rfl) ?_
    intro a H
    refine An.pure H (.inr ((HP.tail rfl))) 3 12 (.int .i64 3) rfl (by kernel_rfl) (by kernel_rfl) (fun _ _ _ h => h) (fun _ => by kernel_rfl) ?_
    intro a H
    refine An.pure H (.inr ((HP.tail rfl))) 4 13 (.pointer (some ⟨b_1, 12, none⟩)) rfl (by kernel_rfl) (by kernel_rfl) (fun _ _ _ h => h) (fun _ => by kernel_rfl) ?_
    intro a H
    refine An.pure H (.inr ((HP.tail rfl))) 5 14 (.pointer (some ⟨b_1, 12, none⟩)) rfl (by kernel_rfl) (by kernel_rfl) (fun _ _ _ h => h) (fun _ => by kernel_rfl) ?_
    intro a H
    refine An.val H ((HP.tail rfl)) 6 15 (.int .i64 (X 12)) rfl (by kernel_rfl) (by kernel_rfl) (fun _ _ _ h => h) (fun _ hS => ex_load1 (by kernel_rfl) (by kernel_rfl) (hS.cell 0 rfl 12 rfl)) ?_
    intro a H
    refine An.pure H (.inr ((HP.tail rfl))) 9 18 (.int .i64 3) rfl (by kernel_rfl) (by kernel_rfl) (fun _ _ _ h => h) (fun _ => by kernel_rfl) ?_
    intro a H
    refine An.pure H (.inr ((HP.tail rfl))) 10 19 (.pointer (some ⟨b_1, 12, none⟩)) rfl (by kernel_rfl) (by kernel_rfl) (fun _ _ _ h => h) (fun _ => by kernel_rfl) ?_
    intro a H
    refine An.pure H (.inr ((HP.tail rfl))) 11 20 (.pointer (some ⟨b_1, 13, none⟩)) rfl (by kernel_rfl) (by kernel_rfl) (fun _ _ _ h => h) (fun _ => by kernel_rfl) ?_
    intro a H
    refine An.val H ((HP.tail rfl)) 12 21 (.int .i64 (X 13)) rfl (by kernel_rfl) (by kernel_rfl) (fun _ _ _ h => h) (fun _ hS => ex_load1 (by kernel_rfl) (by kernel_rfl) (hS.cell 0 rfl 13 rfl)) ?_
    intro a H
    refine An.pure H (.inr ((HP.tail rfl))) 15 24 (.int .i64 3) rfl (by kernel_rfl) (by kernel_rfl) (fun _ _ _ h => h) (fun _ => by kernel_rfl) ?_
    intro a H
    refine An.pure H (.inr ((HP.tail rfl))) 16 25 (.pointer (some ⟨b_1, 12, none⟩)) rfl (by kernel_rfl) (by kernel_rfl) (fun _ _ _ h => h) (fun _ => by kernel_rfl) ?_
    intro a H
    refine An.pure H (.inr ((HP.tail rfl))) 17 26 (.pointer (some ⟨b_1, 14, none⟩)) rfl (by kernel_rfl) (by kernel_rfl) (fun _ _ _ h => h) (fun _ => by kernel_rfl) ?_
    intro a H
    refine An.val H ((HP.tail rfl)) 18 27 (.int .i64 (X 14)) rfl (by kernel_rfl) (by kernel_rfl) (fun _ _ _ h => h) (fun _ hS => ex_load1 (by kernel_rfl) (by kernel_rfl) (hS.cell 0 rfl 14 rfl)) ?_
    intro a H
    refine An.pure H (.inr ((HP.tail rfl))) 20 29 (.int .i64 3) rfl (by kernel_rfl) (by kernel_rfl) (fun _ _ _ h => h) (fun _ => by kernel_rfl) ?_
    intro a H
    refine An.pure H (.inr ((HP.tail rfl))) 21 30 (.pointer (some ⟨b_1, 12, none⟩)) rfl (by kernel_rfl) (by kernel_rfl) (fun _ _ _ h => h) (fun _ => by kernel_rfl) ?_
    intro a H
    refine An.pure H (.inr ((HP.tail rfl))) 22 31 (.pointer (some ⟨b_1, 15, none⟩)) rfl (by kernel_rfl) (by kernel_rfl) (fun _ _ _ h => h) (fun _ => by kernel_rfl) ?_
    intro a H
    refine An.val H ((HP.tail rfl)) 23 32 (.int .i64 (X 15)) rfl (by kernel_rfl) (by kernel_rfl) (fun _ _ _ h => h) (fun _ hS => ex_load1 (by kernel_rfl) (by kernel_rfl) (hS.cell 0 rfl 15 rfl)) ?_
    intro a H
    refine An.one 7 (by kernel_rfl) ?_
    refine Op.call H 16 rfl (by kernel_rfl) (Eq.trans (by kernel_rfl : _ = (callFunc 11 #[(.int .i64 (X 12)), (.int .i64 40)]).run Try.prog w_49) (Try.call11 _ _)) (pick_any (X 12) 40 w_49 (hX _) (by omega)) ?_
    rintro e w_51 ⟨rfl, hw⟩
    refine ⟨_, rfl, ?_⟩
    intro a H
    have HP := hw ▸ HP
    have hpk_50 := pickI_lt (X 12) 40 (by omega)
    refine ⟨.inr ((HP.tail rfl)), ?_⟩
    refine An.pureE H (.inr ((HP.tail rfl))) 8 17 (.int .i64 (IntKind.i64.wrap (1 + (pickI (X 12) 40)))) (.int .i64 (1 + (pickI (X 12) 40))) rfl (by kernel_rfl) (by kernel_rfl) (fun _ _ _ h => h) (fun _ => by kernel_rfl) ((by rw [wrap_ini64 _ (by omega)])) ?_
    intro a H
    refine An.one 13 (by kernel_rfl) ?_
    refine Op.call H 22 rfl (by kernel_rfl) (Eq.trans (by kernel_rfl : _ = (callFunc 11 #[(.int .i64 (X 13)), (.int .i64 20)]).run Try.prog w_51) (Try.call11 _ _)) (pick_any (X 13) 20 w_51 (hX _) (by omega)) ?_
    rintro e w_53 ⟨rfl, hw⟩
    refine ⟨_, rfl, ?_⟩
    intro a H
    have HP := hw ▸ HP
    have hpk_52 := pickI_lt (X 13) 20 (by omega)
    refine ⟨.inr ((HP.tail rfl)), ?_⟩
    refine An.pureE H (.inr ((HP.tail rfl))) 14 23 (.int .i64 (IntKind.i64.wrap (1 + (pickI (X 13) 20)))) (.int .i64 (1 + (pickI (X 13) 20))) rfl (by kernel_rfl) (by kernel_rfl) (fun _ _ _ h => h) (fun _ => by kernel_rfl) ((by rw [wrap_ini64 _ (by omega)])) ?_
    intro a H
    refine An.one 19 (by kernel_rfl) ?_
    refine Op.call H 28 rfl (by kernel_rfl) (Eq.trans (by kernel_rfl : _ = (callFunc 11 #[(.int .i64 (X 14)), (.int .i64 401)]).run Try.prog w_53) (Try.call11 _ _)) (pick_any (X 14) 401 w_53 (hX _) (by omega)) ?_
    rintro e w_55 ⟨rfl, hw⟩
    refine ⟨_, rfl, ?_⟩
    intro a H
    have HP := hw ▸ HP
    have hpk_54 := pickI_lt (X 14) 401 (by omega)
    refine ⟨.inr ((HP.tail rfl)), ?_⟩
    refine An.one 24 (by kernel_rfl) ?_
    refine Op.call H 33 rfl (by kernel_rfl) (Eq.trans (by kernel_rfl : _ = (callFunc 11 #[(.int .i64 (X 15)), (.int .i64 160)]).run Try.prog w_55) (Try.call11 _ _)) (pick_any (X 15) 160 w_55 (hX _) (by omega)) ?_
    rintro e w_57 ⟨rfl, hw⟩
    refine ⟨_, rfl, ?_⟩
    intro a H
    have HP := hw ▸ HP
    have hpk_56 := pickI_lt (X 15) 160 (by omega)
    refine ⟨.inr ((HP.tail rfl)), ?_⟩
    refine An.one 25 (by kernel_rfl) ?_
    refine Op.call H 34 rfl (by kernel_rfl) (Eq.trans (by kernel_rfl : _ = (callFunc 23 #[(.int .i64 4), (.int .i64 (1 + (pickI (X 12) 40))), (.int .i64 (1 + (pickI (X 13) 20))), (.int .i64 (pickI (X 14) 401)), (.int .i64 (pickI (X 15) 160))]).run Try.prog w_57) (Try.call23 _ _)) (file_lib 4 (X 12) (X 13) (X 14) (X 15) w_57) ?_
    rintro e w_58 ⟨Bf3, cf3, rfl, q1, q2, q3, q4, hb, q5⟩
    refine ⟨_, rfl, ?_⟩
    intro a H
    have HP := HP.pend 0 rfl elOk_ast (⟨4, Bf3, cf3, filePics (1 + pickN (X 13) 20) (pickN (X 14) 401) (pickN (X 15) 160) (1 + pickN (X 12) 40)⟩ : AstA) [(rowsP w.heap.size 49 2 AstA.cells astOk astFp (.slice LA l'.length lc) l' (⟨4, Bf3, cf3, filePics (1 + pickN (X 13) 20) (pickN (X 14) 401) (pickN (X 15) 160) (1 + pickN (X 12) 40)⟩ : AstA)), bx b_1 24 [(.int .i64 (X 0)), (.int .i64 (X 1)), (.int .i64 (X 2)), (.int .i64 (X 3)), (.int .i64 (X 4)), (.int .i64 (X 5)), (.int .i64 (X 6)), (.int .i64 (X 7)), (.int .i64 (X 8)), (.int .i64 (X 9)), (.int .i64 (X 10)), (.int .i64 (X 11)), (.int .i64 (X 12)), (.int .i64 (X 13)), (.int .i64 (X 14)), (.int .i64 (X 15)), (.int .i64 (X 16)), (.int .i64 (X 17)), (.int .i64 (X 18)), (.int .i64 (X 19))] true] (by kernel_rfl) hb ⟨q1, q2, q3, q4, trivial⟩ (fun k hk => ⟨hk.2.elim fun off e => q5 k off e, row_lt q1.2 hk⟩)
    refine ⟨.inr ((HP.tail rfl)), ?_⟩
    refine An.one 26 (by kernel_rfl) ?_
    refine Op.alloc H HP 35 (fun b => (.slice (some ⟨b, 0, none⟩) 1 1)) 49 [(.int .i64 4), (.slice Bf3 ((filePics (1 + pickN (X 13) 20) (pickN (X 14) 401) (pickN (X 15) 160) (1 + pickN (X 12) 40)).length) cf3)] rfl (by kernel_rfl) (fun w => by kernel_rfl) ?_
    intro b_59 w_60 a H HP
    refine ⟨.inr (((HP.tail rfl).tail rfl)), ?_⟩
    refine An.one 27 (by kernel_rfl) ?_
    refine Op.push H HP 36 1 0 (v := (.slice LA l'.length lc)) (e := 49) (p := (⟨4, Bf3, cf3, filePics (1 + pickN (X 13) 20) (pickN (X 14) 401) (pickN (X 15) 160) (1 + pickN (X 12) 40)⟩ : AstA)) (l := l') (cs := AstA.cells) (ok := astOk) (fe := astFp) (size := 2) (z := (.agg #[.int .i64 0, .slice none 0 0])) (bytes := 32) (bb := b_59) (tb := 49) (fb := true) rfl (by kernel_rfl) elOk_ast (by kernel_rfl) (by kernel_rfl) rfl (by kernel_rfl) (by kernel_rfl) (by kernel_rfl) (by kernel_rfl) (by kernel_rfl) rfl (by kernel_rfl) (by unfold maxLen; omega) (by omega) ?_
    intro B_61 c_62 w_63 a H HP
    have HP : Hp w w_63 [bx b_59 49 [(.int .i64 4), (.slice Bf3 ((filePics (1 + pickN (X 13) 20) (pickN (X 14) 401) (pickN (X 15) 160) (1 + pickN (X 12) 40)).length) cf3)] true, (rowsR w.heap.size 49 2 AstA.cells astOk astFp (.slice B_61 (l'.length + 1) c_62) (l' ++ [(⟨4, Bf3, cf3, filePics (1 + pickN (X 13) 20) (pickN (X 14) 401) (pickN (X 15) 160) (1 + pickN (X 12) 40)⟩ : AstA)])), bx b_1 24 [(.int .i64 (X 0)), (.int .i64 (X 1)), (.int .i64 (X 2)), (.int .i64 (X 3)), (.int .i64 (X 4)), (.int .i64 (X 5)), (.int .i64 (X 6)), (.int .i64 (X 7)), (.int .i64 (X 8)), (.int .i64 (X 9)), (.int .i64 (X 10)), (.int .i64 (X 11)), (.int .i64 (X 12)), (.int .i64 (X 13)), (.int .i64 (X 14)), (.int .i64 (X 15)), (.int .i64 (X 16)), (.int .i64 (X 17)), (.int .i64 (X 18)), (.int .i64 (X 19))] true] [] := HP
    refine ⟨.inr (((HP.tail rfl).tail rfl)), ?_⟩
    refine An.pure H (.inr (((HP.tail rfl).tail rfl))) 28 3 (.slice B_61 (l'.length + 1) c_62) rfl (by kernel_rfl) (by kernel_rfl) (fun _ _ _ h => h) (fun _ => by kernel_rfl) ?_
    intro a H
    refine An.done (by kernel_rfl) ?_
    have H := H.keep (L' := [(3, (.slice B_61 (l'.length + 1) c_62)), (6, (.bool true)), (5, (.int .i64 3)), (4, (.int .i64 3)), (1, (.pointer (some ⟨b_1, 0, none⟩))), (2, (.slice none 0 0))]) (by kernel_rfl)
    refine inb_normal ?_
    refine then_normal ?_
    refine w_region ?_
    refine H.val 7 (.int .i64 3) (by kernel_rfl) (by kernel_rfl) ?_
    intro a H
    refine H.valE 8 (.int .i64 (IntKind.i64.wrap (3 + 1))) (.int .i64 4) (by kernel_rfl) (by kernel_rfl) (by kernel_rfl) ?_
    intro a H
    refine H.val 4 (.int .i64 4) (by kernel_rfl) (by kernel_rfl) ?_
    intro a H
    refine wpList_nil ?_
    refine then_normal ?_
    have HP : Hp w w_63 [(rowsR w.heap.size 49 2 AstA.cells astOk astFp (.slice B_61 ((l' ++ [(⟨4, Bf3, cf3, filePics (1 + pickN (X 13) 20) (pickN (X 14) 401) (pickN (X 15) 160) (1 + pickN (X 12) 40)⟩ : AstA)]).length) c_62) (l' ++ [(⟨4, Bf3, cf3, filePics (1 + pickN (X 13) 20) (pickN (X 14) 401) (pickN (X 15) 160) (1 + pickN (X 12) 40)⟩ : AstA)])), bx b_1 24 [(.int .i64 (X 0)), (.int .i64 (X 1)), (.int .i64 (X 2)), (.int .i64 (X 3)), (.int .i64 (X 4)), (.int .i64 (X 5)), (.int .i64 (X 6)), (.int .i64 (X 7)), (.int .i64 (X 8)), (.int .i64 (X 9)), (.int .i64 (X 10)), (.int .i64 (X 11)), (.int .i64 (X 12)), (.int .i64 (X 13)), (.int .i64 (X 14)), (.int .i64 (X 15)), (.int .i64 (X 16)), (.int .i64 (X 17)), (.int .i64 (X 18)), (.int .i64 (X 19))] true] [] := by simpa using (HP.tail rfl)
    have H := H.as 3 (.slice B_61 (l' ++ [(⟨4, Bf3, cf3, filePics (1 + pickN (X 13) 20) (pickN (X 14) 401) (pickN (X 15) 160) (1 + pickN (X 12) 40)⟩ : AstA)]).length c_62) rfl (by simp)
    exact ⟨1, by omega, .inr (.inr (.inr (.inr (.inl ⟨rfl, B_61, c_62, l' ++ [(⟨4, Bf3, cf3, filePics (1 + pickN (X 13) 20) (pickN (X 14) 401) (pickN (X 15) 160) (1 + pickN (X 12) 40)⟩ : AstA)], H.keep (by kernel_rfl), HP, specA_snoc hsp⟩))))⟩
  · have hll : l'.length = 4 := by have := congrArg List.length hsp; simpa [specA, libTo] using this
    refine wp_seq ?_
    refine wp_seq ?_
    refine w_region ?_
    refine H.val 5 (.int .i64 4) (by kernel_rfl) (by kernel_rfl) ?_
    intro a H
    refine H.val 6 (.bool true) (by kernel_rfl) (by kernel_rfl) ?_
    intro a H
    refine wpList_nil ?_
    refine then_normal ?_
    refine w_ift H rfl ?_
    refine wp_skip ?_
    refine then_normal ?_
    refine wp_seq ?_
    refine wp_block ?_
    have HP := HP.front 0 rfl [(rowsR w.heap.size 49 2 AstA.cells astOk astFp (.slice LA l'.length lc) l'), bx b_1 24 [(.int .i64 (X 0)), (.int .i64 (X 1)), (.int .i64 (X 2)), (.int .i64 (X 3)), (.int .i64 (X 4)), (.int .i64 (X 5)), (.int .i64 (X 6)), (.int .i64 (X 7)), (.int .i64 (X 8)), (.int .i64 (X 9)), (.int .i64 (X 10)), (.int .i64 (X 11)), (.int .i64 (X 12)), (.int .i64 (X 13)), (.int .i64 (X 14)), (.int .i64 (X 15)), (.int .i64 (X 16)), (.int .i64 (X 17)), (.int .i64 (X 18)), (.int .i64 (X 19))] true] (by kernel_rfl)
    refine An.start (fun v => Hp w v [bx b_1 24 [(.int .i64 (X 0)), (.int .i64 (X 1)), (.int .i64 (X 2)), (.int .i64 (X 3)), (.int .i64 (X 4)), (.int .i64 (X 5)), (.int .i64 (X 6)), (.int .i64 (X 7)), (.int .i64 (X 8)), (.int .i64 (X 9)), (.int .i64 (X 10)), (.int .i64 (X 11)), (.int .i64 (X 12)), (.int .i64 (X 13)), (.int .i64 (X 14)), (.int .i64 (X 15)), (.int .i64 (X 16)), (.int .i64 (X 17)), (.int .i64 (X 18)), (.int .i64 (X 19))] true] []) 29 29 HP wide_follows rfl ?_
    intro w_64 HP
    refine An.pure H (.inr ((HP.tail rfl))) 0 9 (.slice LA l'.length lc) rfl (by kernel_rfl) (by kernel_rfl) (fun _ _ _ h => h) (fun _ => by kernel_rfl) ?_
    intro a H
    refine An.pure H (.inr ((HP.tail rfl))) 1 10 (.int .i64 4) rfl (by kernel_rfl) (by kernel_rfl) (fun _ _ _ h => h) (fun _ => by kernel_rfl) ?_
    intro a H
    refine An.pureE H (.inr ((HP.tail rfl))) 2 11 (.int .i64 (IntKind.i64.wrap (4 + 1))) (.int .i64 5) rfl (by kernel_rfl) (by kernel_rfl) (fun _ _ _ h => h) (fun _ => by kernel_rfl) (by kernel_rfl) ?_
    intro a H
    refine An.pure H (.inr ((HP.tail rfl))) 3 12 (.int .i64 4) rfl (by kernel_rfl) (by kernel_rfl) (fun _ _ _ h => h) (fun _ => by kernel_rfl) ?_
    intro a H
    refine An.pure H (.inr ((HP.tail rfl))) 4 13 (.pointer (some ⟨b_1, 16, none⟩)) rfl (by kernel_rfl) (by kernel_rfl) (fun _ _ _ h => h) (fun _ => by kernel_rfl) ?_
    intro a H
    refine An.pure H (.inr ((HP.tail rfl))) 5 14 (.pointer (some ⟨b_1, 16, none⟩)) rfl (by kernel_rfl) (by kernel_rfl) (fun _ _ _ h => h) (fun _ => by kernel_rfl) ?_
    intro a H
    refine An.val H ((HP.tail rfl)) 6 15 (.int .i64 (X 16)) rfl (by kernel_rfl) (by kernel_rfl) (fun _ _ _ h => h) (fun _ hS => ex_load1 (by kernel_rfl) (by kernel_rfl) (hS.cell 0 rfl 16 rfl)) ?_
    intro a H
    refine An.pure H (.inr ((HP.tail rfl))) 9 18 (.int .i64 4) rfl (by kernel_rfl) (by kernel_rfl) (fun _ _ _ h => h) (fun _ => by kernel_rfl) ?_
    intro a H
    refine An.pure H (.inr ((HP.tail rfl))) 10 19 (.pointer (some ⟨b_1, 16, none⟩)) rfl (by kernel_rfl) (by kernel_rfl) (fun _ _ _ h => h) (fun _ => by kernel_rfl) ?_
    intro a H
    refine An.pure H (.inr ((HP.tail rfl))) 11 20 (.pointer (some ⟨b_1, 17, none⟩)) rfl (by kernel_rfl) (by kernel_rfl) (fun _ _ _ h => h) (fun _ => by kernel_rfl) ?_
    intro a H
    refine An.val H ((HP.tail rfl)) 12 21 (.int .i64 (X 17)) rfl (by kernel_rfl) (by kernel_rfl) (fun _ _ _ h => h) (fun _ hS => ex_load1 (by kernel_rfl) (by kernel_rfl) (hS.cell 0 rfl 17 rfl)) ?_
    intro a H
    refine An.pure H (.inr ((HP.tail rfl))) 15 24 (.int .i64 4) rfl (by kernel_rfl) (by kernel_rfl) (fun _ _ _ h => h) (fun _ => by kernel_rfl) ?_
    intro a H
    refine An.pure H (.inr ((HP.tail rfl))) 16 25 (.pointer (some ⟨b_1, 16, none⟩)) rfl (by kernel_rfl) (by kernel_rfl) (fun _ _ _ h => h) (fun _ => by kernel_rfl) ?_
    intro a H
    refine An.pure H (.inr ((HP.tail rfl))) 17 26 (.pointer (some ⟨b_1, 18, none⟩)) rfl (by kernel_rfl) (by kernel_rfl) (fun _ _ _ h => h) (fun _ => by kernel_rfl) ?_
    intro a H
    refine An.val H ((HP.tail rfl)) 18 27 (.int .i64 (X 18)) rfl (by kernel_rfl) (by kernel_rfl) (fun _ _ _ h => h) (fun _ hS => ex_load1 (by kernel_rfl) (by kernel_rfl) (hS.cell 0 rfl 18 rfl)) ?_
    intro a H
    refine An.pure H (.inr ((HP.tail rfl))) 20 29 (.int .i64 4) rfl (by kernel_rfl) (by kernel_rfl) (fun _ _ _ h => h) (fun _ => by kernel_rfl) ?_
    intro a H
    refine An.pure H (.inr ((HP.tail rfl))) 21 30 (.pointer (some ⟨b_1, 16, none⟩)) rfl (by kernel_rfl) (by kernel_rfl) (fun _ _ _ h => h) (fun _ => by kernel_rfl) ?_
    intro a H
    refine An.pure H (.inr ((HP.tail rfl))) 22 31 (.pointer (some ⟨b_1, 19, none⟩)) rfl (by kernel_rfl) (by kernel_rfl) (fun _ _ _ h => h) (fun _ => by kernel_rfl) ?_
    intro a H
    refine An.val H ((HP.tail rfl)) 23 32 (.int .i64 (X 19)) rfl (by kernel_rfl) (by kernel_rfl) (fun _ _ _ h => h) (fun _ hS => ex_load1 (by kernel_rfl) (by kernel_rfl) (hS.cell 0 rfl 19 rfl)) ?_
    intro a H
    refine An.one 7 (by kernel_rfl) ?_
    refine Op.call H 16 rfl (by kernel_rfl) (Eq.trans (by kernel_rfl : _ = (callFunc 11 #[(.int .i64 (X 16)), (.int .i64 40)]).run Try.prog w_64) (Try.call11 _ _)) (pick_any (X 16) 40 w_64 (hX _) (by omega)) ?_
    rintro e w_66 ⟨rfl, hw⟩
    refine ⟨_, rfl, ?_⟩
    intro a H
    have HP := hw ▸ HP
    have hpk_65 := pickI_lt (X 16) 40 (by omega)
    refine ⟨.inr ((HP.tail rfl)), ?_⟩
    refine An.pureE H (.inr ((HP.tail rfl))) 8 17 (.int .i64 (IntKind.i64.wrap (1 + (pickI (X 16) 40)))) (.int .i64 (1 + (pickI (X 16) 40))) rfl (by kernel_rfl) (by kernel_rfl) (fun _ _ _ h => h) (fun _ => by kernel_rfl) ((by rw [wrap_ini64 _ (by omega)])) ?_
    intro a H
    refine An.one 13 (by kernel_rfl) ?_
    refine Op.call H 22 rfl (by kernel_rfl) (Eq.trans (by kernel_rfl : _ = (callFunc 11 #[(.int .i64 (X 17)), (.int .i64 20)]).run Try.prog w_66) (Try.call11 _ _)) (pick_any (X 17) 20 w_66 (hX _) (by omega)) ?_
    rintro e w_68 ⟨rfl, hw⟩
    refine ⟨_, rfl, ?_⟩
    intro a H
    have HP := hw ▸ HP
    have hpk_67 := pickI_lt (X 17) 20 (by omega)
    refine ⟨.inr ((HP.tail rfl)), ?_⟩
    refine An.pureE H (.inr ((HP.tail rfl))) 14 23 (.int .i64 (IntKind.i64.wrap (1 + (pickI (X 17) 20)))) (.int .i64 (1 + (pickI (X 17) 20))) rfl (by kernel_rfl) (by kernel_rfl) (fun _ _ _ h => h) (fun _ => by kernel_rfl) ((by rw [wrap_ini64 _ (by omega)])) ?_
    intro a H
    refine An.one 19 (by kernel_rfl) ?_
    refine Op.call H 28 rfl (by kernel_rfl) (Eq.trans (by kernel_rfl : _ = (callFunc 11 #[(.int .i64 (X 18)), (.int .i64 401)]).run Try.prog w_68) (Try.call11 _ _)) (pick_any (X 18) 401 w_68 (hX _) (by omega)) ?_
    rintro e w_70 ⟨rfl, hw⟩
    refine ⟨_, rfl, ?_⟩
    intro a H
    have HP := hw ▸ HP
    have hpk_69 := pickI_lt (X 18) 401 (by omega)
    refine ⟨.inr ((HP.tail rfl)), ?_⟩
    refine An.one 24 (by kernel_rfl) ?_
    refine Op.call H 33 rfl (by kernel_rfl) (Eq.trans (by kernel_rfl : _ = (callFunc 11 #[(.int .i64 (X 19)), (.int .i64 160)]).run Try.prog w_70) (Try.call11 _ _)) (pick_any (X 19) 160 w_70 (hX _) (by omega)) ?_
    rintro e w_72 ⟨rfl, hw⟩
    refine ⟨_, rfl, ?_⟩
    intro a H
    have HP := hw ▸ HP
    have hpk_71 := pickI_lt (X 19) 160 (by omega)
    refine ⟨.inr ((HP.tail rfl)), ?_⟩
    refine An.one 25 (by kernel_rfl) ?_
    refine Op.call H 34 rfl (by kernel_rfl) (Eq.trans (by kernel_rfl : _ = (callFunc 23 #[(.int .i64 5), (.int .i64 (1 + (pickI (X 16) 40))), (.int .i64 (1 + (pickI (X 17) 20))), (.int .i64 (pickI (X 18) 401)), (.int .i64 (pickI (X 19) 160))]).run Try.prog w_72) (Try.call23 _ _)) (file_lib 5 (X 16) (X 17) (X 18) (X 19) w_72) ?_
    rintro e w_73 ⟨Bf4, cf4, rfl, q1, q2, q3, q4, hb, q5⟩
    refine ⟨_, rfl, ?_⟩
    intro a H
    have HP := HP.pend 0 rfl elOk_ast (⟨5, Bf4, cf4, filePics (1 + pickN (X 17) 20) (pickN (X 18) 401) (pickN (X 19) 160) (1 + pickN (X 16) 40)⟩ : AstA) [(rowsP w.heap.size 49 2 AstA.cells astOk astFp (.slice LA l'.length lc) l' (⟨5, Bf4, cf4, filePics (1 + pickN (X 17) 20) (pickN (X 18) 401) (pickN (X 19) 160) (1 + pickN (X 16) 40)⟩ : AstA)), bx b_1 24 [(.int .i64 (X 0)), (.int .i64 (X 1)), (.int .i64 (X 2)), (.int .i64 (X 3)), (.int .i64 (X 4)), (.int .i64 (X 5)), (.int .i64 (X 6)), (.int .i64 (X 7)), (.int .i64 (X 8)), (.int .i64 (X 9)), (.int .i64 (X 10)), (.int .i64 (X 11)), (.int .i64 (X 12)), (.int .i64 (X 13)), (.int .i64 (X 14)), (.int .i64 (X 15)), (.int .i64 (X 16)), (.int .i64 (X 17)), (.int .i64 (X 18)), (.int .i64 (X 19))] true] (by kernel_rfl) hb ⟨q1, q2, q3, q4, trivial⟩ (fun k hk => ⟨hk.2.elim fun off e => q5 k off e, row_lt q1.2 hk⟩)
    refine ⟨.inr ((HP.tail rfl)), ?_⟩
    refine An.one 26 (by kernel_rfl) ?_
    refine Op.alloc H HP 35 (fun b => (.slice (some ⟨b, 0, none⟩) 1 1)) 49 [(.int .i64 5), (.slice Bf4 ((filePics (1 + pickN (X 17) 20) (pickN (X 18) 401) (pickN (X 19) 160) (1 + pickN (X 16) 40)).length) cf4)] rfl (by kernel_rfl) (fun w => by kernel_rfl) ?_
    intro b_74 w_75 a H HP
    refine ⟨.inr (((HP.tail rfl).tail rfl)), ?_⟩
    refine An.one 27 (by kernel_rfl) ?_
    refine Op.push H HP 36 1 0 (v := (.slice LA l'.length lc)) (e := 49) (p := (⟨5, Bf4, cf4, filePics (1 + pickN (X 17) 20) (pickN (X 18) 401) (pickN (X 19) 160) (1 + pickN (X 16) 40)⟩ : AstA)) (l := l') (cs := AstA.cells) (ok := astOk) (fe := astFp) (size := 2) (z := (.agg #[.int .i64 0, .slice none 0 0])) (bytes := 32) (bb := b_74) (tb := 49) (fb := true) rfl (by kernel_rfl) elOk_ast (by kernel_rfl) (by kernel_rfl) rfl (by kernel_rfl) (by kernel_rfl) (by kernel_rfl) (by kernel_rfl) (by kernel_rfl) rfl (by kernel_rfl) (by unfold maxLen; omega) (by omega) ?_
    intro B_76 c_77 w_78 a H HP
    have HP : Hp w w_78 [bx b_74 49 [(.int .i64 5), (.slice Bf4 ((filePics (1 + pickN (X 17) 20) (pickN (X 18) 401) (pickN (X 19) 160) (1 + pickN (X 16) 40)).length) cf4)] true, (rowsR w.heap.size 49 2 AstA.cells astOk astFp (.slice B_76 (l'.length + 1) c_77) (l' ++ [(⟨5, Bf4, cf4, filePics (1 + pickN (X 17) 20) (pickN (X 18) 401) (pickN (X 19) 160) (1 + pickN (X 16) 40)⟩ : AstA)])), bx b_1 24 [(.int .i64 (X 0)), (.int .i64 (X 1)), (.int .i64 (X 2)), (.int .i64 (X 3)), (.int .i64 (X 4)), (.int .i64 (X 5)), (.int .i64 (X 6)), (.int .i64 (X 7)), (.int .i64 (X 8)), (.int .i64 (X 9)), (.int .i64 (X 10)), (.int .i64 (X 11)), (.int .i64 (X 12)), (.int .i64 (X 13)), (.int .i64 (X 14)), (.int .i64 (X 15)), (.int .i64 (X 16)), (.int .i64 (X 17)), (.int .i64 (X 18)), (.int .i64 (X 19))] true] [] := HP
    refine ⟨.inr (((HP.tail rfl).tail rfl)), ?_⟩
    refine An.pure H (.inr (((HP.tail rfl).tail rfl))) 28 3 (.slice B_76 (l'.length + 1) c_77) rfl (by kernel_rfl) (by kernel_rfl) (fun _ _ _ h => h) (fun _ => by kernel_rfl) ?_
    intro a H
    refine An.done (by kernel_rfl) ?_
    have H := H.keep (L' := [(3, (.slice B_76 (l'.length + 1) c_77)), (6, (.bool true)), (5, (.int .i64 4)), (4, (.int .i64 4)), (1, (.pointer (some ⟨b_1, 0, none⟩))), (2, (.slice none 0 0))]) (by kernel_rfl)
    refine inb_normal ?_
    refine then_normal ?_
    refine w_region ?_
    refine H.val 7 (.int .i64 4) (by kernel_rfl) (by kernel_rfl) ?_
    intro a H
    refine H.valE 8 (.int .i64 (IntKind.i64.wrap (4 + 1))) (.int .i64 5) (by kernel_rfl) (by kernel_rfl) (by kernel_rfl) ?_
    intro a H
    refine H.val 4 (.int .i64 5) (by kernel_rfl) (by kernel_rfl) ?_
    intro a H
    refine wpList_nil ?_
    refine then_normal ?_
    have HP : Hp w w_78 [(rowsR w.heap.size 49 2 AstA.cells astOk astFp (.slice B_76 ((l' ++ [(⟨5, Bf4, cf4, filePics (1 + pickN (X 17) 20) (pickN (X 18) 401) (pickN (X 19) 160) (1 + pickN (X 16) 40)⟩ : AstA)]).length) c_77) (l' ++ [(⟨5, Bf4, cf4, filePics (1 + pickN (X 17) 20) (pickN (X 18) 401) (pickN (X 19) 160) (1 + pickN (X 16) 40)⟩ : AstA)])), bx b_1 24 [(.int .i64 (X 0)), (.int .i64 (X 1)), (.int .i64 (X 2)), (.int .i64 (X 3)), (.int .i64 (X 4)), (.int .i64 (X 5)), (.int .i64 (X 6)), (.int .i64 (X 7)), (.int .i64 (X 8)), (.int .i64 (X 9)), (.int .i64 (X 10)), (.int .i64 (X 11)), (.int .i64 (X 12)), (.int .i64 (X 13)), (.int .i64 (X 14)), (.int .i64 (X 15)), (.int .i64 (X 16)), (.int .i64 (X 17)), (.int .i64 (X 18)), (.int .i64 (X 19))] true] [] := by simpa using (HP.tail rfl)
    have H := H.as 3 (.slice B_76 (l' ++ [(⟨5, Bf4, cf4, filePics (1 + pickN (X 17) 20) (pickN (X 18) 401) (pickN (X 19) 160) (1 + pickN (X 16) 40)⟩ : AstA)]).length c_77) rfl (by simp)
    exact ⟨0, by omega, .inr (.inr (.inr (.inr (.inr (⟨rfl, B_76, c_77, l' ++ [(⟨5, Bf4, cf4, filePics (1 + pickN (X 17) 20) (pickN (X 18) 401) (pickN (X 19) 160) (1 + pickN (X 16) 40)⟩ : AstA)], H.keep (by kernel_rfl), HP, specA_snoc hsp⟩)))))⟩
  · have hll : l'.length = 5 := by have := congrArg List.length hsp; simpa [specA, libTo] using this
    refine wp_seq ?_
    refine wp_seq ?_
    refine w_region ?_
    refine H.val 5 (.int .i64 5) (by kernel_rfl) (by kernel_rfl) ?_
    intro a H
    refine H.val 6 (.bool false) (by kernel_rfl) (by kernel_rfl) ?_
    intro a H
    refine wpList_nil ?_
    refine then_normal ?_
    refine w_iff H rfl ?_
    refine wp_exit ?_
    refine then_exit ?_
    refine then_exit ?_
    refine w_exit_here ?_
    refine then_normal ?_
    refine wp_seq ?_
    refine w_region ?_
    refine H.val 37 (.slice LA l'.length lc) (by kernel_rfl) (by kernel_rfl) ?_
    intro a H
    refine H.val 2 (.slice LA l'.length lc) (by kernel_rfl) (by kernel_rfl) ?_
    intro a H
    refine wpList_nil ?_
    refine then_normal ?_
    refine wp_ret ?_
    refine H.ret1 (fn := Try.f9) Try.results9 (RV.tmp_ (v := (.slice LA l'.length lc)) (by kernel_rfl)) ?_
    exact lib_end (HP.held 0 rfl) (HP.fresh _ (List.mem_of_getElem? (i := 0) rfl) rfl) hsp hll (HP.below (by kernel_rfl))
end Go.Proofs.Ytpaepefpfaoacaa
