/- Contracts of media's Sizes. -/
import Derived.Test.YtpaepefpfaoacaaSpC
import Derived.Laws.MakeOwn
namespace Go.Proofs.Ytpaepefpfaoacaa
open Go.ChangeShapes Go.WideShapes Go.ChangeAt Go.RowKit
set_option linter.unusedVariables false

set_option maxRecDepth 100000 in
theorem sizes1_any (p : PicA) (w : World) :
    Calls Try.prog 56 #[p.val] w fun e w' => e = .returned (.int .i64 (p.data.size : Int)) ∧ Below w.heap.size w w' := by
  obtain ⟨k, S, pw⟩ := p
  have b0 := Lib.hid (balloc w (.cells #[.bool k, .string S, .int .i64 pw] 53))
  go_enter Try.func56, Try.ntmps56
  go_wp2_with fail
  go_ret
  exact ⟨rfl, b0.out⟩
set_option maxRecDepth 100000 in
set_option maxHeartbeats 2000000 in
theorem column_any (A : Option Addr) (n c : Nat) (l : List PicA) (w : World) (h : IsPics w A n l) (hm : n ≤ 2000000) :
    Calls Try.prog 55 #[.slice A n c, .func (.func 56) #[] #[]] w fun e w' => RetInts (sizesP l) w e w' := by
  have H := Lib.hid h
  have hl := h.1
  clear h
  obtain ⟨i0, hi0, hz0, hz1, hz2⟩ := infoInt'
  obtain ⟨w0, hr0, ho0, hg0⟩ := run_make_own (P := Try.prog) w w.heap.size 26 3 i0 (.int .i64 0) 1 Try.underlying26 hi0 hz0 hz1 .i64 .i64 n (by rw [hz2]; omega) (by unfold maxLen; omega) (Nat.le_refl _)
  have b0 := Lib.hid ((Below.refl w.heap.size w).grown hg0 (Nat.le_refl _) (fun k e => by cases e))
  have o0 := Lib.hid ho0
  clear ho0 hg0
  go_enter Try.func55, Try.ntmps55
  go_wp2_with fail
  go_loopw [5, 13] (fun s i wr => ∃ (k : Nat) (B : Option Addr) (d : Nat), k ≤ n ∧ i = .int .i64 k ∧ s = .slice B k d ∧ wr.ownsRow w.heap.size 3 1 (.slice B k d) k (ints (sizesP (l.take k))) ∧ Below w.heap.size w wr) (fun _ i _ => n - (intOf i).toNat)
  case atStart => exact ⟨0, _, n, Nat.zero_le _, rfl, rfl, o0.out, b0.out⟩
  case round =>
    obtain ⟨k, B, d, hk, rfl, rfl, hown, hB⟩ := hrel
    have HO := Lib.hid hown
    clear hown
    by_cases hlt : k < n
    · obtain ⟨b, off, rfl, hbl, p0, p1, p2⟩ := IsPics.get (IsRow.below H.out hB) hlt
      have HT : Hid (ints (sizesP (l.take (k + 1))) = ints (sizesP (l.take k)) ++ ints [((l.getD k picZ).data.size : Int)]) := Lib.hid (by rw [take_at (d := picZ) (by omega)]; simp)
      generalize l.getD k picZ = p at *
      obtain ⟨ky, S, pw⟩ := p
      simp only at p0 p1 p2 HT
      obtain ⟨wa, hwa⟩ : ∃ wa, wr.alloc (.cells #[.bool ky, .string S, .int .i64 pw] 53) = wa := ⟨_, rfl⟩
      have hxa : Box wa wr.heap.size 53 #[.bool ky, .string S, .int .i64 pw] := by rw [← hwa]; exact Box.new _ _ _
      have hba : Below wr.heap.size wr wa := by rw [← hwa]; exact balloc _ _
      have a0 := hxa.cell (i := 0) rfl
      have a1 := hxa.cell (i := 1) rfl
      have a2 := hxa.cell (i := 2) rfl
      have HBA := Lib.hid hba
      clear hxa hba
      go_wp2_with (first
        | (go_at_call 56; refine (sizes1_any ⟨ky, S, pw⟩ _).mono ?_; rintro e w2 ⟨rfl, b2⟩; have HB2 := Lib.hid (bnext hB (bnext HBA.out b2)); have HO2 := Lib.hid (own_below HO.out (bnext HBA.out b2)); have HN : Hid (Rd (w2.alloc (Obj.cells #[.int .i64 (S.size : Int)] 3)) 1 (some ⟨w2.heap.size, 0, none⟩) 1 (ints [(S.size : Int)])) := Lib.hid (ofInts (isInts_new w2 3 [(S.size : Int)] (by simp [maxLen]))); have HOa := Lib.hid (HO2.out.alloc (Obj.cells #[.int .i64 (S.size : Int)] 3)); have HBa := Lib.hid (HB2.out.alloc HB2.out.size (Obj.cells #[.int .i64 (S.size : Int)] 3)); clear b2)
        | (at_builtin; refine wpList_append_rd (w2.alloc (Obj.cells #[.int .i64 (S.size : Int)] 3)) rfl (.tmp 17) (.tmp 21) 26 rfl w.heap.size 3 i0 (.int .i64 0) 1 8 Try.underlying26 hi0 hz0 hz1 hz2 rfl (by decide) (.slice B k d) k (ints (sizesP (l.take k))) rfl HOa.out _ 1 _ (ints [(S.size : Int)]) rfl (fun e => by cases e) HN.out (ints_ones _) (by unfold maxLen; omega) (by omega) HBa.out.size ?_; intro B1 c1 w4 hown1 hgrow1 hat1; have Hb1 := Lib.hid (HBa.out.grown hgrow1 HBa.out.size (own_ge HOa.out)); have Hown1 := Lib.hid hown1; clear hown1 hgrow1 hat1))
      go_roundw
      case rel => exact ⟨k + 1, B1, c1, by omega, by go_num, rfl, by rw [HT.out]; exact Hown1.out, Hb1.out⟩
      case measure => simp [intOf]; omega
    · obtain rfl : k = n := by omega
      go_wp2_with fail
      go_ret
      have ht : l.take k = l := List.take_of_length_le (by omega)
      have ho := HO.out
      rw [ht] at ho
      have f := own_facts ho
      have hll : (sizesP l).length = k := by simp [hl]
      unfold RetInts
      rw [hll]
      exact ⟨B, d, rfl, toInts (Rd.of_own ho), f.1, f.2.1, f.2.2, hB⟩
set_option maxRecDepth 100000 in
theorem msizes_any (it : Int) (A : Option Addr) (n c : Nat) (l : List PicA) (w : World) (h : IsPics w A n l) (hm : n ≤ 2000000) :
    Calls Try.prog 52 #[.agg #[.int .i64 it, .slice A n c]] w fun e w' => RetInts (sizesP l) w e w' := by
  have b0 := Lib.hid (balloc w (.cells #[.int .i64 it, .slice A n c] 49))
  have H := Lib.hid (IsRow.below h b0.out)
  clear h
  go_enter Try.func52, Try.ntmps52
  go_wp2_with fail
  refine (column_any A n c l _ H.out hm).mono ?_
  rintro e w1 ⟨B, d, rfl, h1, h2, h3, h4, b2⟩
  go_wp2_with fail
  go_ret
  exact ⟨B, d, by simp, h1, h2, h3, h4, bnext b0.out b2⟩
end Go.Proofs.Ytpaepefpfaoacaa
