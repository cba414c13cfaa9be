/- The walks of OptoutNextMatchesReference, OptoutNear, OptoutDecodedAgain. -/
import Derived.Test.YtfpnjlfcnfjkdaaOptPl
namespace Go.Proofs.Ytfpnjlfcnfjkdaa
open Go.ChangeShapes Go.WideShapes Go.ChangeAt Go.RowKit
set_option linter.unusedVariables false
theorem below_cell {w w' : World} (hb : Below w.heap.size w w') {b o : Nat} {v : Value} (h : w.cell? ⟨b, o, none⟩ = some v) : w'.cell? ⟨b, o, none⟩ = some v :=
  (hb.cell (p := ⟨b, o, none⟩) (World.block_lt_of_cell? w _ h)).trans h
theorem sameP_refl (s f : Int) (al : Alts) : sameP s f al s f al = true := by simp [sameP]
theorem IsEvs.take {w : World} {A : Option Addr} {n : Nat} {l : List EvA} (h : IsEvs w A n l) (k : Nat) : IsEvs w A (min n k) (l.take k) := by
  obtain ⟨h1, h2, h3⟩ := h
  have hr := h2.take (k := min n k) (Nat.min_le_left _ _)
  refine ⟨by rw [List.length_take, h1, Nat.min_comm], ?_, fun e he => h3 e (List.mem_of_mem_take he)⟩
  have e1 : evsCells (l.take k) = (evsCells l).take (min n k * 7) := by
    have : ∀ (l : List EvA) (j : Nat), evsCells (l.take j) = (evsCells l).take (j * 7) := by
      intro l
      induction l with
      | nil => intro j; simp
      | cons a l ih =>
        intro j
        cases j with
        | zero => simp
        | succ j =>
          simp only [List.take_succ_cons, evsCells, List.flatMap_cons]
          rw [show (j + 1) * 7 = (a.cells.toList).length + j * 7 by simp; omega, List.take_length_add_append, ← ih j]
    rw [← this, ← h1]
    congr 1
    by_cases hk : k ≤ l.length
    · rw [Nat.min_eq_right hk]
    · rw [Nat.min_eq_left (by omega), List.take_of_length_le (by omega), List.take_of_length_le (Nat.le_refl _)]
  rw [e1]
  exact hr

namespace optoutNextMatchesReference
set_option maxRecDepth 100000 in
set_option maxHeartbeats 8000000 in
theorem walk (l : Sl EvA) (fr : Int) (w : World) (h0 : opEvs.ok w l) (h1 : (Lit.int .i64 fr).wf = true) :
    Calls Try.prog 4 #[(opEvs.cells l).headD undef, .int .i64 fr] w fun e w' => e = .returned (.bool true) ∧ Below w.heap.size w w' := by
  obtain ⟨A, c, es⟩ := l
  obtain ⟨i0, l0, m0, z0⟩ := opEvs_is h0
  simp only at i0 l0 m0 z0
  show Calls Try.prog 4 #[.slice A es.length c, .int .i64 fr] w _
  have I0 := Lib.hid (i0.take 30)
  have Z0 := Lib.hid z0
  have hm : min es.length 30 ≤ 9223372036854775807 := by omega
  clear h0 h1 i0 z0
  go_enter Try.func4, Try.ntmps4
  go_wp2_with fail
  refine (sane_any _).mono ?_
  rintro e w1 ⟨rfl, bb⟩
  have BW := Lib.hid bb
  clear bb
  go_wp2_with fail
  refine (few_any A es.length c _ l0 m0 Z0.out).mono ?_
  rintro e w2 ⟨rfl, rfl⟩
  go_wp2_with fail
  refine (next_any A (min es.length 30) c fr (es.take 30) _ (I0.out.below BW.out) hm).mono ?_
  rintro e w2 ⟨B1, c1, rfl, y1, y2, y3, _, bb, _⟩
  have BW := Lib.hid (bnext BW.out bb)
  have Y1 := Lib.hid y1
  have hl1 := Nat.le_trans y2 y3
  clear bb y1 y2 y3
  go_wp2_with fail
  refine (rnext_any A (min es.length 30) c fr (es.take 30) _ (I0.out.below BW.out) hm).mono ?_
  rintro e w3 ⟨B2, c2, rfl, y4, _, _, _, bb, _⟩
  have BW := Lib.hid (bnext BW.out bb)
  have Y1 := Lib.hid (Y1.out.below bb)
  have Y2 := Lib.hid y4
  clear bb y4
  generalize nextP fr (es.take 30) = o at *
  obtain ⟨s, f, al⟩ := o
  simp only at *
  go_wp2_with fail
  refine (rsame_any s f B1 al.length c1 al s f B2 al.length c2 al _ Y1.out Y2.out hl1).mono ?_
  rintro e w4 ⟨rfl, bb⟩
  rw [sameP_refl]
  have BW := Lib.hid (bnext BW.out bb)
  clear bb
  go_wp2_with fail
  go_ret
  exact ⟨rfl, BW.out⟩
end optoutNextMatchesReference

namespace optoutNear
set_option maxRecDepth 100000 in
set_option maxHeartbeats 8000000 in
theorem walk (l : Sl EvA) (fr : Int) (w : World) (h0 : opEvs.ok w l) (h1 : (Lit.int .i64 fr).wf = true) :
    Calls Try.prog 7 #[(opEvs.cells l).headD undef, .int .i64 fr] w fun e w' => e = .returned (.bool true) ∧ Below w.heap.size w w' := by
  obtain ⟨A, c, es⟩ := l
  obtain ⟨i0, l0, m0, z0⟩ := opEvs_is h0
  simp only at i0 l0 m0 z0
  show Calls Try.prog 7 #[.slice A es.length c, .int .i64 fr] w _
  have I0 := Lib.hid (i0.take 30)
  have Z0 := Lib.hid z0
  have hm : min es.length 30 ≤ 9223372036854775807 := by omega
  clear h0 h1 i0 z0
  go_enter Try.func7, Try.ntmps7
  go_wp2_with fail
  refine (sane_any _).mono ?_
  rintro e w1 ⟨rfl, bb⟩
  have BW := Lib.hid bb
  clear bb
  go_wp2_with fail
  refine (few_any A es.length c _ l0 m0 Z0.out).mono ?_
  rintro e w2 ⟨rfl, rfl⟩
  go_wp2_with fail
  refine (next_any A (min es.length 30) c fr (es.take 30) _ (I0.out.below BW.out) hm).mono ?_
  rintro e w2 ⟨B1, c1, rfl, y1, y2, y3, _, bb, _⟩
  have BW := Lib.hid (bnext BW.out bb)
  have hv := next_valid fr (es.take 30)
  have hn := next_near fr (es.take 30)
  obtain ⟨v1, v2, _, _⟩ := valid_facts hv
  clear bb y2 y3
  generalize nextP fr (es.take 30) = o at *
  obtain ⟨s, f, al⟩ := o
  simp only at *
  have HV := Lib.hid hv
  have HN := Lib.hid hn
  have Y1 := Lib.hid (y1.below (balloc w2 (.cells (optC s f B1 al.length c1) 24)))
  have X1 := Lib.hid (Box.new w2 24 (optC s f B1 al.length c1))
  have BW := Lib.hid (BW.out.alloc BW.out.size (.cells (optC s f B1 al.length c1) 24))
  clear hv hn y1
  go_wp2_with fail
  refine (valid_any s f B1 al.length c1 al _ Y1.out).mono ?_
  rintro e w3 ⟨rfl, bb⟩
  rw [HV.out]
  have BW3 := Lib.hid (bnext BW.out bb)
  have X1 := Lib.hid (X1.out.next bb)
  have k0 := X1.out.cell (i := 0) rfl
  have k1 := X1.out.cell (i := 1) rfl
  clear bb
  by_cases hf : f = 0
  · subst hf
    go_wp2_with fail
    go_ret
    exact ⟨rfl, BW3.out⟩
  · have hf' : (f == 0) = false := by simpa using hf
    obtain ⟨q1, q2⟩ := HN.out hf
    go_wp2_with fail
    go_ret
    exact ⟨rfl, BW3.out⟩
end optoutNear

namespace optoutDecodedAgain
set_option maxRecDepth 100000 in
set_option maxHeartbeats 8000000 in
theorem walk (s : ByteArray) (w : World) (h0 : s.size ≤ reachBytes) :
    Calls Try.prog 6 #[.string s] w fun e w' => e = .returned (.bool true) ∧ Below w.heap.size w w' := by
  unfold reachBytes at h0
  have hus : (s.extract 0 (min (s.size : Int) 200).toNat).size ≤ 9000000000000000000 := by
    rw [ByteArray.size_extract]
    omega
  go_enter Try.func6, Try.ntmps6
  go_wp2_with fail
  refine (sane_any _).mono ?_
  rintro e w1 ⟨rfl, bb⟩
  have BW := Lib.hid bb
  clear bb
  go_wp2_with fail
  generalize s.extract 0 (min (s.size : Int) 200).toNat = u at *
  refine (decode_any u _ hus).mono ?_
  rintro e w2 ⟨B, c, rfl, y1, y2, y3, _, bb⟩
  have BW2 := Lib.hid (bnext BW.out bb)
  have hl := Nat.le_trans y2 y3
  rcases dec_codes u.data.toList with hc | ⟨hc, hz⟩
  · -- it was decoded
    generalize hd : decP u.data.toList = d at *
    obtain ⟨⟨s', f, al⟩, k⟩ := d
    simp only at hc
    subst hc
    obtain ⟨hv, he⟩ := dec_canon hd
    simp only at *
    have HV := Lib.hid hv
    have hE : encV s' f al = .tuple #[.string u, .int .i64 0] := by
      unfold encV
      rw [if_pos hv, he]
    have HE := Lib.hid hE
    have Y1 := Lib.hid (y1.below (balloc w2 (.cells (optC s' f B al.length c) 24)))
    have X1 := Lib.hid (Box.new w2 24 (optC s' f B al.length c))
    have BW3 := Lib.hid (BW2.out.alloc BW2.out.size (.cells (optC s' f B al.length c) 24))
    clear hd hv he hE y1 y2 y3 bb
    go_wp2_with fail
    refine (encode_any s' f B al.length c al _ Y1.out).mono ?_
    rintro e w3 ⟨rfl, bb⟩
    rw [HE.out]
    have BW4 := Lib.hid (bnext BW3.out bb)
    have X2 := X1.out.next bb
    have Y2 := Lib.hid (Y1.out.below bb)
    have k0 := X2.cell (i := 0) rfl
    have k1 := X2.cell (i := 1) rfl
    have k2 := X2.cell (i := 2) rfl
    clear bb X2
    go_wp2_with fail
    refine (valid_any s' f B al.length c al _ Y2.out).mono ?_
    rintro e w4 ⟨rfl, bb⟩
    rw [HV.out]
    have BW5 := Lib.hid (bnext BW4.out bb)
    clear bb
    go_wp2_with fail
    go_ret
    exact ⟨rfl, BW5.out⟩
  · generalize decP u.data.toList = d at *
    obtain ⟨o, k⟩ := d
    simp only at hz hc
    subst hz
    simp only [POpt.zero, List.length_nil] at *
    have Y1 := Lib.hid (y1.below (balloc w2 (.cells (optC 0 0 B 0 c) 24)))
    have BW3 := Lib.hid (BW2.out.alloc BW2.out.size (.cells (optC 0 0 B 0 c) 24))
    clear y1 y2 y3 bb
    rcases hc with rfl | rfl
    all_goals
      go_wp2_with fail
      refine (same_any 0 0 B 0 c [] 0 0 none 0 0 [] _ Y1.out (IsAlts.nil _ _) (by decide)).mono ?_
      rintro e w3 ⟨rfl, bb⟩
      rw [sameP_refl]
      have BW4 := Lib.hid (bnext BW3.out bb)
      clear bb
      go_wp2_with fail
      go_ret
      exact ⟨rfl, BW4.out⟩
end optoutDecodedAgain
end Go.Proofs.Ytfpnjlfcnfjkdaa
