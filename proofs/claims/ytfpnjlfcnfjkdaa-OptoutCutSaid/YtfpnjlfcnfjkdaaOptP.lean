/- Contracts of the laws' helpers of chapter 17: example, few, pick, sane. -/
import Derived.Test.YtfpnjlfcnfjkdaaOptO
import Derived.Test.YtfpnjlfcnfjkdaaOpen
namespace Go.Proofs.Ytfpnjlfcnfjkdaa
open Go.ChangeShapes Go.WideShapes Go.ChangeAt Go.RowKit
set_option linter.unusedVariables false

def exL (B : Option Addr) : List EvA := [⟨⟨0, 0, 0, 50, 0, 0⟩, none, 0, []⟩, ⟨⟨0, 0, 50, 30, 0, 0⟩, B, 1, [(1, 7)]⟩]
theorem evs_new (w : World) (t : TypeId) (l : List EvA) (hl : l.length * 7 ≤ maxLen) : Rd (w.alloc (.cells (evsCells l).toArray t)) 7 (some ⟨w.heap.size, 0, none⟩) l.length (evsCells l) := by
  refine ⟨evsCells_len l, .inr ⟨w.heap.size, 0, rfl, by simp, fun i hi => ?_⟩⟩
  have hb : Box (w.alloc (.cells (evsCells l).toArray t)) w.heap.size t (evsCells l).toArray := Box.new _ _ _
  have hv : (evsCells l).toArray[i]? = some ((evsCells l)[i]'(by rw [evsCells_len]; exact hi)) := by
    rw [List.getElem?_toArray, List.getElem?_eq_getElem]
  rw [Nat.zero_add, hb.cell hv, List.getElem?_eq_getElem]
theorem example_any (w : World) : Calls Try.prog 24 #[] w fun e w' => ∃ A B, e = .returned (.slice A 2 2) ∧ IsEvs w' A 2 (exL B) ∧ Below w.heap.size w w' := by
  have h1 := alt_new w 50 1 7
  have h2 := evs_new (w.alloc (.cells #[.int .i64 1, .int .i64 7] 50)) 45 (exL (some ⟨w.heap.size, 0, none⟩)) (by simp [exL, maxLen])
  have HA : Hid (IsAlts (w.alloc (.cells #[.int .i64 1, .int .i64 7] 50)) (some ⟨w.heap.size, 0, none⟩) 1 [(1, 7)]) := Lib.hid ⟨rfl, h1⟩
  have H2 := Lib.hid h2
  clear h1 h2
  go_enter Try.func24, Try.ntmps24
  go_wp2_with fail
  go_ret
  refine ⟨_, some ⟨w.heap.size, 0, none⟩, rfl, ⟨rfl, ?_, ?_⟩, ?_⟩
  · simpa [exL, evsCells] using H2.out
  · intro e he
    simp only [exL, List.mem_cons, List.not_mem_nil, or_false] at he
    rcases he with rfl | rfl
    · exact ⟨IsAlts.nil _ _, Nat.le_refl _, Nat.zero_le _, fun _ => rfl, by simp⟩
    · exact ⟨HA.out.below (balloc _ _), Nat.le_refl _, by simp [maxLen], (fun h => by cases h), by simp [reachBytes]⟩
  · exact ((Below.refl _ _).alloc (Nat.le_refl _) _).alloc (by simp) _
theorem ret_slice {A : Option Addr} {n m c : Nat} (h : n = m) : Ending.returned (.slice A n c) = .returned (.slice A m c) := by rw [h]
theorem few_any (A : Option Addr) (n c : Nat) (w : World) (h : n ≤ c) (hc : c ≤ maxLen) (hA : A = none → c = 0) :
    Calls Try.prog 17 #[.slice A n c] w fun e w' => e = .returned (.slice A (min n 30) c) ∧ w = w' := by
  unfold maxLen at hc
  by_cases h0 : n ≤ 30
  · go_enter Try.func17, Try.ntmps17
    go_wp2_with fail
    go_ret
    exact ⟨ret_slice (by omega), rfl⟩
  · go_enter Try.func17, Try.ntmps17
    go_wp2_with fail
    go_ret
    exact ⟨ret_slice (by omega), rfl⟩
def pickOf (c n : Int) : Int := if c < 0 then (-(c + 1)) % n else c % n
theorem pickOf_bd (c n : Int) (hn : 0 < n) : 0 ≤ pickOf c n ∧ pickOf c n < n := by
  unfold pickOf
  split
  · exact ⟨Int.emod_nonneg _ (by omega), Int.emod_lt_of_pos _ hn⟩
  · exact ⟨Int.emod_nonneg _ (by omega), Int.emod_lt_of_pos _ hn⟩
theorem pick_any (c n : Int) (w : World) (h0 : -9223372036854775808 ≤ c) (h1 : c ≤ 9223372036854775807) (hn : 0 < n) (hn2 : n ≤ 1000000) :
    Calls Try.prog 22 #[.int .i64 c, .int .i64 n] w fun e w' => e = .returned (.int .i64 (pickOf c n)) ∧ w = w' := by
  by_cases h : c < 0
  · have e : pickOf c n = (-(c + 1)) % n := by unfold pickOf; rw [if_pos h]
    have r1 : 0 ≤ (-(c + 1)) % n := Int.emod_nonneg _ (by omega)
    have r2 : (-(c + 1)) % n < n := Int.emod_lt_of_pos _ hn
    rw [e]
    clear e
    have hn1 : (n == 0) = false := by simp; omega
    go_enter Try.func22, Try.ntmps22
    go_wp2
    go_ret
    exact ⟨ret_int (by rw [← Int.neg_tmod, Int.tmod_eq_emod_of_nonneg (by omega)]), rfl⟩
  · have e : pickOf c n = c % n := by unfold pickOf; rw [if_neg h]
    have r1 : 0 ≤ c % n := Int.emod_nonneg _ (by omega)
    have r2 : c % n < n := Int.emod_lt_of_pos _ hn
    rw [e]
    clear e
    have hn1 : (n == 0) = false := by simp; omega
    go_enter Try.func22, Try.ntmps22
    go_wp2
    go_ret
    exact ⟨rfl, rfl⟩

set_option maxRecDepth 100000 in
set_option maxHeartbeats 16000000 in
theorem sane_any (w : World) : Calls Try.prog 10 #[] w fun e w' => e = .returned (.bool true) ∧ Below w.heap.size w w' := by
  have M1 : ∀ B, Hid (nextP 29 (exL B) = ⟨0, 0, []⟩) := fun B => Lib.hid rfl
  have M2 : ∀ B, Hid (nextP 30 (exL B) = ⟨50, 30, [(1, 7)]⟩) := fun B => Lib.hid rfl
  have M3 : ∀ B, Hid (nextP 79 (exL B) = ⟨50, 30, [(1, 7)]⟩) := fun B => Lib.hid rfl
  have M4 : ∀ B, Hid (nextP 80 (exL B) = ⟨0, 0, []⟩) := fun B => Lib.hid rfl
  have N1 : Hid (encV 50 30 [(1, 7)] = .tuple #[.string ⟨(encOpt 50 30 [(1, 7)]).toArray⟩, .int .i64 0]) := Lib.hid rfl
  have N2 : Hid (decP (⟨(encOpt 50 30 [(1, 7)]).toArray⟩ : ByteArray).data.toList = (⟨50, 30, [(1, 7)]⟩, 0)) := Lib.hid rfl
  have N3 : Hid (decP (⟨#[]⟩ : ByteArray).data.toList = (⟨0, 0, []⟩, 10)) := Lib.hid rfl
  have N4 : Hid (encV 1 0 [] = .tuple #[.string ⟨#[]⟩, .int .i64 170]) := Lib.hid rfl
  have hsz : (⟨(encOpt 50 30 [(1, 7)]).toArray⟩ : ByteArray).size ≤ 9000000000000000000 := by decide
  go_enter Try.func10, Try.ntmps10
  go_wp2_with fail
  refine (example_any w).mono ?_
  rintro e w1 ⟨A1, B1, rfl, hE, b1⟩
  have N29 := M1 B1
  have N30 := M2 B1
  have N79 := M3 B1
  have N80 := M4 B1
  obtain ⟨W2, hW2⟩ : ∃ W2, ((w1.alloc (.cells (optC 0 0 none 0 0) 24)).alloc (.cells #[.int .i64 1, .int .i64 7] 50)).alloc (.cells (optC 50 30 (some ⟨w1.heap.size + 1, 0, none⟩) 1 1) 24) = W2 := ⟨_, rfl⟩
  have bb : Below w1.heap.size w1 W2 := by rw [← hW2]; exact (((Below.refl _ _).alloc (Nat.le_refl _) _).alloc (by simp) _).alloc (by simp; omega) _
  have X2 : Hid (Box W2 w1.heap.size 24 (optC 0 0 none 0 0)) := Lib.hid (by rw [← hW2]; exact ((Box.new w1 _ _).next (balloc _ _)).next (balloc _ _))
  have Y2 : Hid (IsAlts W2 none 0 []) := Lib.hid (IsAlts.nil _ _)
  have X3 : Hid (Box W2 (w1.heap.size + 1 + 1) 24 (optC 50 30 (some ⟨w1.heap.size + 1, 0, none⟩) 1 1)) := Lib.hid (by
    rw [← hW2]
    have := Box.new ((w1.alloc (.cells (optC 0 0 none 0 0) 24)).alloc (.cells #[.int .i64 1, .int .i64 7] 50)) 24 (optC 50 30 (some ⟨w1.heap.size + 1, 0, none⟩) 1 1)
    simpa using this)
  have Y3 : Hid (IsAlts W2 (some ⟨w1.heap.size + 1, 0, none⟩) 1 [(1, 7)]) := Lib.hid (by
    have h1 := alt_new (w1.alloc (.cells (optC 0 0 none 0 0) 24)) 50 1 7
    rw [World.size_alloc] at h1
    rw [← hW2]
    exact IsAlts.below ⟨rfl, h1⟩ (balloc _ _))
  have E1 := Lib.hid (hE.below bb)
  have BW := Lib.hid (bnext b1 bb)
  go_upto_region 4 with (fail)
  clear M1 M2 M3 M4 hW2 bb b1 hE
  go_wp2_with fail
  refine (next_any A1 2 2 29 (exL B1) _ E1.out (by decide)).mono ?_
  rw [N29.out]
  rintro e w3 ⟨D4, d4, rfl, y4, _, _, _, bb, _⟩
  have X2 := Lib.hid (X2.out.next bb)
  have Y2 := Lib.hid (Y2.out.below bb)
  have X3 := Lib.hid (X3.out.next bb)
  have Y3 := Lib.hid (Y3.out.below bb)
  have E1 := Lib.hid (E1.out.below bb)
  have BW := Lib.hid (bnext BW.out bb)
  clear bb
  have bv := balloc w3 (.cells (optC 0 0 D4 0 d4) 24)
  have xv := Box.new w3 24 (optC 0 0 D4 0 d4)
  have X2 := Lib.hid (X2.out.next bv)
  have Y2 := Lib.hid (Y2.out.below bv)
  have X3 := Lib.hid (X3.out.next bv)
  have Y3 := Lib.hid (Y3.out.below bv)
  have E1 := Lib.hid (E1.out.below bv)
  have BW := Lib.hid (bnext BW.out bv)
  have X4 := Lib.hid xv
  have Y4 := Lib.hid ((show IsAlts w3 D4 0 [] from y4).below bv)
  clear bv xv y4
  go_wp2_with fail
  refine (next_any A1 2 2 30 (exL B1) _ E1.out (by decide)).mono ?_
  rw [N30.out]
  rintro e w4 ⟨D5, d5, rfl, y5, _, _, _, bb, _⟩
  have X2 := Lib.hid (X2.out.next bb)
  have Y2 := Lib.hid (Y2.out.below bb)
  have X3 := Lib.hid (X3.out.next bb)
  have Y3 := Lib.hid (Y3.out.below bb)
  have X4 := Lib.hid (X4.out.next bb)
  have Y4 := Lib.hid (Y4.out.below bb)
  have E1 := Lib.hid (E1.out.below bb)
  have BW := Lib.hid (bnext BW.out bb)
  clear bb
  have bv := balloc w4 (.cells (optC 50 30 D5 1 d5) 24)
  have xv := Box.new w4 24 (optC 50 30 D5 1 d5)
  have X2 := Lib.hid (X2.out.next bv)
  have Y2 := Lib.hid (Y2.out.below bv)
  have X3 := Lib.hid (X3.out.next bv)
  have Y3 := Lib.hid (Y3.out.below bv)
  have X4 := Lib.hid (X4.out.next bv)
  have Y4 := Lib.hid (Y4.out.below bv)
  have E1 := Lib.hid (E1.out.below bv)
  have BW := Lib.hid (bnext BW.out bv)
  have X5 := Lib.hid xv
  have Y5 := Lib.hid ((show IsAlts w4 D5 1 [(1, 7)] from y5).below bv)
  clear bv xv y5
  go_wp2_with fail
  refine (next_any A1 2 2 79 (exL B1) _ E1.out (by decide)).mono ?_
  rw [N79.out]
  rintro e w5 ⟨D6, d6, rfl, y6, _, _, _, bb, _⟩
  have X2 := Lib.hid (X2.out.next bb)
  have Y2 := Lib.hid (Y2.out.below bb)
  have X3 := Lib.hid (X3.out.next bb)
  have Y3 := Lib.hid (Y3.out.below bb)
  have X4 := Lib.hid (X4.out.next bb)
  have Y4 := Lib.hid (Y4.out.below bb)
  have X5 := Lib.hid (X5.out.next bb)
  have Y5 := Lib.hid (Y5.out.below bb)
  have E1 := Lib.hid (E1.out.below bb)
  have BW := Lib.hid (bnext BW.out bb)
  clear bb
  have bv := balloc w5 (.cells (optC 50 30 D6 1 d6) 24)
  have xv := Box.new w5 24 (optC 50 30 D6 1 d6)
  have X2 := Lib.hid (X2.out.next bv)
  have Y2 := Lib.hid (Y2.out.below bv)
  have X3 := Lib.hid (X3.out.next bv)
  have Y3 := Lib.hid (Y3.out.below bv)
  have X4 := Lib.hid (X4.out.next bv)
  have Y4 := Lib.hid (Y4.out.below bv)
  have X5 := Lib.hid (X5.out.next bv)
  have Y5 := Lib.hid (Y5.out.below bv)
  have E1 := Lib.hid (E1.out.below bv)
  have BW := Lib.hid (bnext BW.out bv)
  have X6 := Lib.hid xv
  have Y6 := Lib.hid ((show IsAlts w5 D6 1 [(1, 7)] from y6).below bv)
  clear bv xv y6
  go_wp2_with fail
  refine (next_any A1 2 2 80 (exL B1) _ E1.out (by decide)).mono ?_
  rw [N80.out]
  rintro e w6 ⟨D7, d7, rfl, y7, _, _, _, bb, _⟩
  have X2 := Lib.hid (X2.out.next bb)
  have Y2 := Lib.hid (Y2.out.below bb)
  have X3 := Lib.hid (X3.out.next bb)
  have Y3 := Lib.hid (Y3.out.below bb)
  have X4 := Lib.hid (X4.out.next bb)
  have Y4 := Lib.hid (Y4.out.below bb)
  have X5 := Lib.hid (X5.out.next bb)
  have Y5 := Lib.hid (Y5.out.below bb)
  have X6 := Lib.hid (X6.out.next bb)
  have Y6 := Lib.hid (Y6.out.below bb)
  have E1 := Lib.hid (E1.out.below bb)
  have BW := Lib.hid (bnext BW.out bb)
  clear bb
  have bv := balloc w6 (.cells (optC 0 0 D7 0 d7) 24)
  have xv := Box.new w6 24 (optC 0 0 D7 0 d7)
  have X2 := Lib.hid (X2.out.next bv)
  have Y2 := Lib.hid (Y2.out.below bv)
  have X3 := Lib.hid (X3.out.next bv)
  have Y3 := Lib.hid (Y3.out.below bv)
  have X4 := Lib.hid (X4.out.next bv)
  have Y4 := Lib.hid (Y4.out.below bv)
  have X5 := Lib.hid (X5.out.next bv)
  have Y5 := Lib.hid (Y5.out.below bv)
  have X6 := Lib.hid (X6.out.next bv)
  have Y6 := Lib.hid (Y6.out.below bv)
  have E1 := Lib.hid (E1.out.below bv)
  have BW := Lib.hid (bnext BW.out bv)
  have X7 := Lib.hid xv
  have Y7 := Lib.hid ((show IsAlts w6 D7 0 [] from y7).below bv)
  clear bv xv y7
  have k30 := X3.out.cell (i := 0) rfl
  have k31 := X3.out.cell (i := 1) rfl
  have k32 := X3.out.cell (i := 2) rfl
  go_wp2_with fail
  refine (item_any 50 30 (some ⟨w1.heap.size + 1, 0, none⟩) 1 1 [(1, 7)] 1 _ Y3.out (by decide)).mono ?_
  rintro e w7 ⟨rfl, bb⟩
  clear k30 k31 k32
  have X2 := Lib.hid (X2.out.next bb)
  have Y2 := Lib.hid (Y2.out.below bb)
  have X3 := Lib.hid (X3.out.next bb)
  have Y3 := Lib.hid (Y3.out.below bb)
  have X4 := Lib.hid (X4.out.next bb)
  have Y4 := Lib.hid (Y4.out.below bb)
  have X5 := Lib.hid (X5.out.next bb)
  have Y5 := Lib.hid (Y5.out.below bb)
  have X6 := Lib.hid (X6.out.next bb)
  have Y6 := Lib.hid (Y6.out.below bb)
  have X7 := Lib.hid (X7.out.next bb)
  have Y7 := Lib.hid (Y7.out.below bb)
  have E1 := Lib.hid (E1.out.below bb)
  have BW := Lib.hid (bnext BW.out bb)
  clear bb
  rw [show itemP 1 [(1, 7)] = some 7 from rfl]; dsimp only [Option.getD_some, Option.isSome_some]
  have k30 := X3.out.cell (i := 0) rfl
  have k31 := X3.out.cell (i := 1) rfl
  have k32 := X3.out.cell (i := 2) rfl
  go_wp2_with fail
  refine (item_any 50 30 (some ⟨w1.heap.size + 1, 0, none⟩) 1 1 [(1, 7)] 2 _ Y3.out (by decide)).mono ?_
  rintro e w8 ⟨rfl, bb⟩
  clear k30 k31 k32
  have X2 := Lib.hid (X2.out.next bb)
  have Y2 := Lib.hid (Y2.out.below bb)
  have X3 := Lib.hid (X3.out.next bb)
  have Y3 := Lib.hid (Y3.out.below bb)
  have X4 := Lib.hid (X4.out.next bb)
  have Y4 := Lib.hid (Y4.out.below bb)
  have X5 := Lib.hid (X5.out.next bb)
  have Y5 := Lib.hid (Y5.out.below bb)
  have X6 := Lib.hid (X6.out.next bb)
  have Y6 := Lib.hid (Y6.out.below bb)
  have X7 := Lib.hid (X7.out.next bb)
  have Y7 := Lib.hid (Y7.out.below bb)
  have E1 := Lib.hid (E1.out.below bb)
  have BW := Lib.hid (bnext BW.out bb)
  clear bb
  rw [show itemP 2 [(1, 7)] = none from rfl]; dsimp only [Option.getD_none, Option.isSome_none]
  have k30 := X3.out.cell (i := 0) rfl
  have k31 := X3.out.cell (i := 1) rfl
  have k32 := X3.out.cell (i := 2) rfl
  go_wp2_with fail
  refine (encode_any 50 30 (some ⟨w1.heap.size + 1, 0, none⟩) 1 1 [(1, 7)] _ Y3.out).mono ?_
  rintro e w9 ⟨rfl, bb⟩
  clear k30 k31 k32
  have X2 := Lib.hid (X2.out.next bb)
  have Y2 := Lib.hid (Y2.out.below bb)
  have X3 := Lib.hid (X3.out.next bb)
  have Y3 := Lib.hid (Y3.out.below bb)
  have X4 := Lib.hid (X4.out.next bb)
  have Y4 := Lib.hid (Y4.out.below bb)
  have X5 := Lib.hid (X5.out.next bb)
  have Y5 := Lib.hid (Y5.out.below bb)
  have X6 := Lib.hid (X6.out.next bb)
  have Y6 := Lib.hid (Y6.out.below bb)
  have X7 := Lib.hid (X7.out.next bb)
  have Y7 := Lib.hid (Y7.out.below bb)
  have E1 := Lib.hid (E1.out.below bb)
  have BW := Lib.hid (bnext BW.out bb)
  clear bb
  rw [N1.out]
  go_wp2_with fail
  refine (decode_any ⟨(encOpt 50 30 [(1, 7)]).toArray⟩ _ hsz).mono ?_
  rw [N2.out]
  rintro e w10 ⟨D8, d8, rfl, y8, _, _, _, bb⟩
  have X2 := Lib.hid (X2.out.next bb)
  have Y2 := Lib.hid (Y2.out.below bb)
  have X3 := Lib.hid (X3.out.next bb)
  have Y3 := Lib.hid (Y3.out.below bb)
  have X4 := Lib.hid (X4.out.next bb)
  have Y4 := Lib.hid (Y4.out.below bb)
  have X5 := Lib.hid (X5.out.next bb)
  have Y5 := Lib.hid (Y5.out.below bb)
  have X6 := Lib.hid (X6.out.next bb)
  have Y6 := Lib.hid (Y6.out.below bb)
  have X7 := Lib.hid (X7.out.next bb)
  have Y7 := Lib.hid (Y7.out.below bb)
  have E1 := Lib.hid (E1.out.below bb)
  have BW := Lib.hid (bnext BW.out bb)
  clear bb
  have bv := balloc w10 (.cells (optC 50 30 D8 1 d8) 24)
  have xv := Box.new w10 24 (optC 50 30 D8 1 d8)
  have X2 := Lib.hid (X2.out.next bv)
  have Y2 := Lib.hid (Y2.out.below bv)
  have X3 := Lib.hid (X3.out.next bv)
  have Y3 := Lib.hid (Y3.out.below bv)
  have X4 := Lib.hid (X4.out.next bv)
  have Y4 := Lib.hid (Y4.out.below bv)
  have X5 := Lib.hid (X5.out.next bv)
  have Y5 := Lib.hid (Y5.out.below bv)
  have X6 := Lib.hid (X6.out.next bv)
  have Y6 := Lib.hid (Y6.out.below bv)
  have X7 := Lib.hid (X7.out.next bv)
  have Y7 := Lib.hid (Y7.out.below bv)
  have E1 := Lib.hid (E1.out.below bv)
  have BW := Lib.hid (bnext BW.out bv)
  have X8 := Lib.hid xv
  have Y8 := Lib.hid ((show IsAlts w10 D8 1 [(1, 7)] from y8).below bv)
  clear bv xv y8
  go_wp2_with fail
  refine (decode_any ⟨#[]⟩ _ (by decide)).mono ?_
  rw [N3.out]
  rintro e w11 ⟨D9, d9, rfl, y9, _, _, _, bb⟩
  have X2 := Lib.hid (X2.out.next bb)
  have Y2 := Lib.hid (Y2.out.below bb)
  have X3 := Lib.hid (X3.out.next bb)
  have Y3 := Lib.hid (Y3.out.below bb)
  have X4 := Lib.hid (X4.out.next bb)
  have Y4 := Lib.hid (Y4.out.below bb)
  have X5 := Lib.hid (X5.out.next bb)
  have Y5 := Lib.hid (Y5.out.below bb)
  have X6 := Lib.hid (X6.out.next bb)
  have Y6 := Lib.hid (Y6.out.below bb)
  have X7 := Lib.hid (X7.out.next bb)
  have Y7 := Lib.hid (Y7.out.below bb)
  have X8 := Lib.hid (X8.out.next bb)
  have Y8 := Lib.hid (Y8.out.below bb)
  have E1 := Lib.hid (E1.out.below bb)
  have BW := Lib.hid (bnext BW.out bb)
  clear bb
  have bv := balloc w11 (.cells (optC 0 0 D9 0 d9) 24)
  have xv := Box.new w11 24 (optC 0 0 D9 0 d9)
  have X2 := Lib.hid (X2.out.next bv)
  have Y2 := Lib.hid (Y2.out.below bv)
  have X3 := Lib.hid (X3.out.next bv)
  have Y3 := Lib.hid (Y3.out.below bv)
  have X4 := Lib.hid (X4.out.next bv)
  have Y4 := Lib.hid (Y4.out.below bv)
  have X5 := Lib.hid (X5.out.next bv)
  have Y5 := Lib.hid (Y5.out.below bv)
  have X6 := Lib.hid (X6.out.next bv)
  have Y6 := Lib.hid (Y6.out.below bv)
  have X7 := Lib.hid (X7.out.next bv)
  have Y7 := Lib.hid (Y7.out.below bv)
  have X8 := Lib.hid (X8.out.next bv)
  have Y8 := Lib.hid (Y8.out.below bv)
  have E1 := Lib.hid (E1.out.below bv)
  have BW := Lib.hid (bnext BW.out bv)
  have X9 := Lib.hid xv
  have Y9 := Lib.hid ((show IsAlts w11 D9 0 [] from y9).below bv)
  clear bv xv y9
  go_wp2_with fail
  refine (encode_any 1 0 none 0 0 [] _ (IsAlts.nil _ _)).mono ?_
  rintro e w12 ⟨rfl, bb⟩
  have X2 := Lib.hid (X2.out.next bb)
  have Y2 := Lib.hid (Y2.out.below bb)
  have X3 := Lib.hid (X3.out.next bb)
  have Y3 := Lib.hid (Y3.out.below bb)
  have X4 := Lib.hid (X4.out.next bb)
  have Y4 := Lib.hid (Y4.out.below bb)
  have X5 := Lib.hid (X5.out.next bb)
  have Y5 := Lib.hid (Y5.out.below bb)
  have X6 := Lib.hid (X6.out.next bb)
  have Y6 := Lib.hid (Y6.out.below bb)
  have X7 := Lib.hid (X7.out.next bb)
  have Y7 := Lib.hid (Y7.out.below bb)
  have X8 := Lib.hid (X8.out.next bb)
  have Y8 := Lib.hid (Y8.out.below bb)
  have X9 := Lib.hid (X9.out.next bb)
  have Y9 := Lib.hid (Y9.out.below bb)
  have E1 := Lib.hid (E1.out.below bb)
  have BW := Lib.hid (bnext BW.out bb)
  clear bb
  rw [N4.out]
  have k20 := X2.out.cell (i := 0) rfl
  have k21 := X2.out.cell (i := 1) rfl
  have k22 := X2.out.cell (i := 2) rfl
  have k40 := X4.out.cell (i := 0) rfl
  have k41 := X4.out.cell (i := 1) rfl
  have k42 := X4.out.cell (i := 2) rfl
  go_wp2_with fail
  refine (rsame_any 0 0 D4 0 d4 [] 0 0 none 0 0 [] _ Y4.out Y2.out (by decide)).mono ?_
  rintro e w13 ⟨rfl, bb⟩
  clear k20 k21 k22 k40 k41 k42
  have X2 := Lib.hid (X2.out.next bb)
  have Y2 := Lib.hid (Y2.out.below bb)
  have X3 := Lib.hid (X3.out.next bb)
  have Y3 := Lib.hid (Y3.out.below bb)
  have X4 := Lib.hid (X4.out.next bb)
  have Y4 := Lib.hid (Y4.out.below bb)
  have X5 := Lib.hid (X5.out.next bb)
  have Y5 := Lib.hid (Y5.out.below bb)
  have X6 := Lib.hid (X6.out.next bb)
  have Y6 := Lib.hid (Y6.out.below bb)
  have X7 := Lib.hid (X7.out.next bb)
  have Y7 := Lib.hid (Y7.out.below bb)
  have X8 := Lib.hid (X8.out.next bb)
  have Y8 := Lib.hid (Y8.out.below bb)
  have X9 := Lib.hid (X9.out.next bb)
  have Y9 := Lib.hid (Y9.out.below bb)
  have E1 := Lib.hid (E1.out.below bb)
  have BW := Lib.hid (bnext BW.out bb)
  clear bb
  rw [show sameP 0 0 [] 0 0 [] = true from rfl]
  have k30 := X3.out.cell (i := 0) rfl
  have k31 := X3.out.cell (i := 1) rfl
  have k32 := X3.out.cell (i := 2) rfl
  have k50 := X5.out.cell (i := 0) rfl
  have k51 := X5.out.cell (i := 1) rfl
  have k52 := X5.out.cell (i := 2) rfl
  go_wp2_with fail
  refine (rsame_any 50 30 D5 1 d5 [(1, 7)] 50 30 (some ⟨w1.heap.size + 1, 0, none⟩) 1 1 [(1, 7)] _ Y5.out Y3.out (by decide)).mono ?_
  rintro e w14 ⟨rfl, bb⟩
  clear k30 k31 k32 k50 k51 k52
  have X2 := Lib.hid (X2.out.next bb)
  have Y2 := Lib.hid (Y2.out.below bb)
  have X3 := Lib.hid (X3.out.next bb)
  have Y3 := Lib.hid (Y3.out.below bb)
  have X4 := Lib.hid (X4.out.next bb)
  have Y4 := Lib.hid (Y4.out.below bb)
  have X5 := Lib.hid (X5.out.next bb)
  have Y5 := Lib.hid (Y5.out.below bb)
  have X6 := Lib.hid (X6.out.next bb)
  have Y6 := Lib.hid (Y6.out.below bb)
  have X7 := Lib.hid (X7.out.next bb)
  have Y7 := Lib.hid (Y7.out.below bb)
  have X8 := Lib.hid (X8.out.next bb)
  have Y8 := Lib.hid (Y8.out.below bb)
  have X9 := Lib.hid (X9.out.next bb)
  have Y9 := Lib.hid (Y9.out.below bb)
  have E1 := Lib.hid (E1.out.below bb)
  have BW := Lib.hid (bnext BW.out bb)
  clear bb
  rw [show sameP 50 30 [(1, 7)] 50 30 [(1, 7)] = true from rfl]
  have k30 := X3.out.cell (i := 0) rfl
  have k31 := X3.out.cell (i := 1) rfl
  have k32 := X3.out.cell (i := 2) rfl
  have k60 := X6.out.cell (i := 0) rfl
  have k61 := X6.out.cell (i := 1) rfl
  have k62 := X6.out.cell (i := 2) rfl
  go_wp2_with fail
  refine (rsame_any 50 30 D6 1 d6 [(1, 7)] 50 30 (some ⟨w1.heap.size + 1, 0, none⟩) 1 1 [(1, 7)] _ Y6.out Y3.out (by decide)).mono ?_
  rintro e w15 ⟨rfl, bb⟩
  clear k30 k31 k32 k60 k61 k62
  have X2 := Lib.hid (X2.out.next bb)
  have Y2 := Lib.hid (Y2.out.below bb)
  have X3 := Lib.hid (X3.out.next bb)
  have Y3 := Lib.hid (Y3.out.below bb)
  have X4 := Lib.hid (X4.out.next bb)
  have Y4 := Lib.hid (Y4.out.below bb)
  have X5 := Lib.hid (X5.out.next bb)
  have Y5 := Lib.hid (Y5.out.below bb)
  have X6 := Lib.hid (X6.out.next bb)
  have Y6 := Lib.hid (Y6.out.below bb)
  have X7 := Lib.hid (X7.out.next bb)
  have Y7 := Lib.hid (Y7.out.below bb)
  have X8 := Lib.hid (X8.out.next bb)
  have Y8 := Lib.hid (Y8.out.below bb)
  have X9 := Lib.hid (X9.out.next bb)
  have Y9 := Lib.hid (Y9.out.below bb)
  have E1 := Lib.hid (E1.out.below bb)
  have BW := Lib.hid (bnext BW.out bb)
  clear bb
  rw [show sameP 50 30 [(1, 7)] 50 30 [(1, 7)] = true from rfl]
  have k20 := X2.out.cell (i := 0) rfl
  have k21 := X2.out.cell (i := 1) rfl
  have k22 := X2.out.cell (i := 2) rfl
  have k70 := X7.out.cell (i := 0) rfl
  have k71 := X7.out.cell (i := 1) rfl
  have k72 := X7.out.cell (i := 2) rfl
  go_wp2_with fail
  refine (rsame_any 0 0 D7 0 d7 [] 0 0 none 0 0 [] _ Y7.out Y2.out (by decide)).mono ?_
  rintro e w16 ⟨rfl, bb⟩
  clear k20 k21 k22 k70 k71 k72
  have X2 := Lib.hid (X2.out.next bb)
  have Y2 := Lib.hid (Y2.out.below bb)
  have X3 := Lib.hid (X3.out.next bb)
  have Y3 := Lib.hid (Y3.out.below bb)
  have X4 := Lib.hid (X4.out.next bb)
  have Y4 := Lib.hid (Y4.out.below bb)
  have X5 := Lib.hid (X5.out.next bb)
  have Y5 := Lib.hid (Y5.out.below bb)
  have X6 := Lib.hid (X6.out.next bb)
  have Y6 := Lib.hid (Y6.out.below bb)
  have X7 := Lib.hid (X7.out.next bb)
  have Y7 := Lib.hid (Y7.out.below bb)
  have X8 := Lib.hid (X8.out.next bb)
  have Y8 := Lib.hid (Y8.out.below bb)
  have X9 := Lib.hid (X9.out.next bb)
  have Y9 := Lib.hid (Y9.out.below bb)
  have E1 := Lib.hid (E1.out.below bb)
  have BW := Lib.hid (bnext BW.out bb)
  clear bb
  rw [show sameP 0 0 [] 0 0 [] = true from rfl]
  have k30 := X3.out.cell (i := 0) rfl
  have k31 := X3.out.cell (i := 1) rfl
  have k32 := X3.out.cell (i := 2) rfl
  have k80 := X8.out.cell (i := 0) rfl
  have k81 := X8.out.cell (i := 1) rfl
  have k82 := X8.out.cell (i := 2) rfl
  go_wp2_with fail
  refine (rsame_any 50 30 D8 1 d8 [(1, 7)] 50 30 (some ⟨w1.heap.size + 1, 0, none⟩) 1 1 [(1, 7)] _ Y8.out Y3.out (by decide)).mono ?_
  rintro e w17 ⟨rfl, bb⟩
  clear k30 k31 k32 k80 k81 k82
  have X2 := Lib.hid (X2.out.next bb)
  have Y2 := Lib.hid (Y2.out.below bb)
  have X3 := Lib.hid (X3.out.next bb)
  have Y3 := Lib.hid (Y3.out.below bb)
  have X4 := Lib.hid (X4.out.next bb)
  have Y4 := Lib.hid (Y4.out.below bb)
  have X5 := Lib.hid (X5.out.next bb)
  have Y5 := Lib.hid (Y5.out.below bb)
  have X6 := Lib.hid (X6.out.next bb)
  have Y6 := Lib.hid (Y6.out.below bb)
  have X7 := Lib.hid (X7.out.next bb)
  have Y7 := Lib.hid (Y7.out.below bb)
  have X8 := Lib.hid (X8.out.next bb)
  have Y8 := Lib.hid (Y8.out.below bb)
  have X9 := Lib.hid (X9.out.next bb)
  have Y9 := Lib.hid (Y9.out.below bb)
  have E1 := Lib.hid (E1.out.below bb)
  have BW := Lib.hid (bnext BW.out bb)
  clear bb
  rw [show sameP 50 30 [(1, 7)] 50 30 [(1, 7)] = true from rfl]
  have k30 := X3.out.cell (i := 0) rfl
  have k31 := X3.out.cell (i := 1) rfl
  have k32 := X3.out.cell (i := 2) rfl
  go_wp2_with fail
  refine (valid_any 50 30 (some ⟨w1.heap.size + 1, 0, none⟩) 1 1 [(1, 7)] _ Y3.out).mono ?_
  rintro e w18 ⟨rfl, bb⟩
  clear k30 k31 k32
  have X2 := Lib.hid (X2.out.next bb)
  have Y2 := Lib.hid (Y2.out.below bb)
  have X3 := Lib.hid (X3.out.next bb)
  have Y3 := Lib.hid (Y3.out.below bb)
  have X4 := Lib.hid (X4.out.next bb)
  have Y4 := Lib.hid (Y4.out.below bb)
  have X5 := Lib.hid (X5.out.next bb)
  have Y5 := Lib.hid (Y5.out.below bb)
  have X6 := Lib.hid (X6.out.next bb)
  have Y6 := Lib.hid (Y6.out.below bb)
  have X7 := Lib.hid (X7.out.next bb)
  have Y7 := Lib.hid (Y7.out.below bb)
  have X8 := Lib.hid (X8.out.next bb)
  have Y8 := Lib.hid (Y8.out.below bb)
  have X9 := Lib.hid (X9.out.next bb)
  have Y9 := Lib.hid (Y9.out.below bb)
  have E1 := Lib.hid (E1.out.below bb)
  have BW := Lib.hid (bnext BW.out bb)
  clear bb
  rw [show validP 50 30 [(1, 7)] = true from rfl]
  have k20 := X2.out.cell (i := 0) rfl
  have k21 := X2.out.cell (i := 1) rfl
  have k22 := X2.out.cell (i := 2) rfl
  go_wp2_with fail
  refine (valid_any 0 0 none 0 0 [] _ Y2.out).mono ?_
  rintro e w19 ⟨rfl, bb⟩
  clear k20 k21 k22
  have X2 := Lib.hid (X2.out.next bb)
  have Y2 := Lib.hid (Y2.out.below bb)
  have X3 := Lib.hid (X3.out.next bb)
  have Y3 := Lib.hid (Y3.out.below bb)
  have X4 := Lib.hid (X4.out.next bb)
  have Y4 := Lib.hid (Y4.out.below bb)
  have X5 := Lib.hid (X5.out.next bb)
  have Y5 := Lib.hid (Y5.out.below bb)
  have X6 := Lib.hid (X6.out.next bb)
  have Y6 := Lib.hid (Y6.out.below bb)
  have X7 := Lib.hid (X7.out.next bb)
  have Y7 := Lib.hid (Y7.out.below bb)
  have X8 := Lib.hid (X8.out.next bb)
  have Y8 := Lib.hid (Y8.out.below bb)
  have X9 := Lib.hid (X9.out.next bb)
  have Y9 := Lib.hid (Y9.out.below bb)
  have E1 := Lib.hid (E1.out.below bb)
  have BW := Lib.hid (bnext BW.out bb)
  clear bb
  rw [show validP 0 0 [] = true from rfl]
  have k30 := X3.out.cell (i := 0) rfl
  have k31 := X3.out.cell (i := 1) rfl
  have k32 := X3.out.cell (i := 2) rfl
  have k80 := X8.out.cell (i := 0) rfl
  have k81 := X8.out.cell (i := 1) rfl
  have k82 := X8.out.cell (i := 2) rfl
  go_wp2_with fail
  refine (same_any 50 30 (some ⟨w1.heap.size + 1, 0, none⟩) 1 1 [(1, 7)] 50 30 D8 1 d8 [(1, 7)] _ Y3.out Y8.out (by decide)).mono ?_
  rintro e w20 ⟨rfl, bb⟩
  clear k30 k31 k32 k80 k81 k82
  have X2 := Lib.hid (X2.out.next bb)
  have Y2 := Lib.hid (Y2.out.below bb)
  have X3 := Lib.hid (X3.out.next bb)
  have Y3 := Lib.hid (Y3.out.below bb)
  have X4 := Lib.hid (X4.out.next bb)
  have Y4 := Lib.hid (Y4.out.below bb)
  have X5 := Lib.hid (X5.out.next bb)
  have Y5 := Lib.hid (Y5.out.below bb)
  have X6 := Lib.hid (X6.out.next bb)
  have Y6 := Lib.hid (Y6.out.below bb)
  have X7 := Lib.hid (X7.out.next bb)
  have Y7 := Lib.hid (Y7.out.below bb)
  have X8 := Lib.hid (X8.out.next bb)
  have Y8 := Lib.hid (Y8.out.below bb)
  have X9 := Lib.hid (X9.out.next bb)
  have Y9 := Lib.hid (Y9.out.below bb)
  have E1 := Lib.hid (E1.out.below bb)
  have BW := Lib.hid (bnext BW.out bb)
  clear bb
  rw [show sameP 50 30 [(1, 7)] 50 30 [(1, 7)] = true from rfl]
  have k20 := X2.out.cell (i := 0) rfl
  have k21 := X2.out.cell (i := 1) rfl
  have k22 := X2.out.cell (i := 2) rfl
  have k30 := X3.out.cell (i := 0) rfl
  have k31 := X3.out.cell (i := 1) rfl
  have k32 := X3.out.cell (i := 2) rfl
  go_wp2_with fail
  refine (same_any 50 30 (some ⟨w1.heap.size + 1, 0, none⟩) 1 1 [(1, 7)] 0 0 none 0 0 [] _ Y3.out Y2.out (by decide)).mono ?_
  rintro e w21 ⟨rfl, bb⟩
  clear k20 k21 k22 k30 k31 k32
  have X2 := Lib.hid (X2.out.next bb)
  have Y2 := Lib.hid (Y2.out.below bb)
  have X3 := Lib.hid (X3.out.next bb)
  have Y3 := Lib.hid (Y3.out.below bb)
  have X4 := Lib.hid (X4.out.next bb)
  have Y4 := Lib.hid (Y4.out.below bb)
  have X5 := Lib.hid (X5.out.next bb)
  have Y5 := Lib.hid (Y5.out.below bb)
  have X6 := Lib.hid (X6.out.next bb)
  have Y6 := Lib.hid (Y6.out.below bb)
  have X7 := Lib.hid (X7.out.next bb)
  have Y7 := Lib.hid (Y7.out.below bb)
  have X8 := Lib.hid (X8.out.next bb)
  have Y8 := Lib.hid (Y8.out.below bb)
  have X9 := Lib.hid (X9.out.next bb)
  have Y9 := Lib.hid (Y9.out.below bb)
  have E1 := Lib.hid (E1.out.below bb)
  have BW := Lib.hid (bnext BW.out bb)
  clear bb
  rw [show sameP 50 30 [(1, 7)] 0 0 [] = false from rfl]
  go_wp2_with fail
  go_ret
  exact ⟨rfl, BW.out⟩
end Go.Proofs.Ytfpnjlfcnfjkdaa
