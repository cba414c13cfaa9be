/- The walk of OptoutRoundTrip. -/
import Derived.Test.YtfpnjlfcnfjkdaaOptS
namespace Go.Proofs.Ytfpnjlfcnfjkdaa.optoutRoundTrip
open Go.ChangeShapes Go.WideShapes Go.ChangeAt Go.RowKit
set_option linter.unusedVariables false
theorem take_bytes (L : List UInt8) (m : Nat) : ((⟨L.toArray⟩ : ByteArray).extract 0 m).data.toList = L.take m := by
  rw [ByteArray.data_extract]
  simp
theorem enc_ne (s f : Int) (al : Alts) : 3 ≤ (encOpt s f al).length ∧ (encOpt s f al).length ≤ 9 * (3 + 2 * al.length) := by
  unfold encOpt
  have h1 := encInts_len ([s, f, (al.length : Int)] ++ flatA al)
  have h2 : (flatA al).length = 2 * al.length := by
    clear h1
    induction al with
    | nil => rfl
    | cons a l ih => simp only [flatA, List.flatMap_cons, List.length_append, List.length_cons, List.length_nil] at *; omega
  rw [List.length_append, h2] at h1
  simp only [List.length_cons, List.length_nil] at h1
  have h3 : 3 ≤ (encInts ([s, f, (al.length : Int)] ++ flatA al)).length := by
    have l1 := (encInt_len s).1
    have l2 := (encInt_len f).1
    have l3 := (encInt_len (al.length : Int)).1
    have e : encInts ([s, f, (al.length : Int)] ++ flatA al) = encInt s ++ (encInt f ++ (encInt (al.length : Int) ++ encInts (flatA al))) := by simp [encInts]
    rw [e]
    simp only [List.length_append]
    omega
  omega
set_option maxRecDepth 100000 in
set_option maxHeartbeats 16000000 in
theorem walk (a0 a1 : OptA) (n : Int) (w : World) (h0 : opOpt.ok w a0) (h1 : opOpt.ok w a1) (h2 : (Lit.int .i64 n).wf = true) :
    Calls Try.prog 5 #[.agg (opOpt.cells a0).toArray, .agg (opOpt.cells a1).toArray, .int .i64 n] w fun e w' => e = .returned (.bool true) ∧ Below w.heap.size w w' := by
  obtain ⟨s, f, A, c, al⟩ := a0
  obtain ⟨t, g, B, d, bl⟩ := a1
  obtain ⟨i0, l0, m0, _⟩ := h0
  obtain ⟨i1, l1, m1, _⟩ := h1
  simp only at i0 l0 m0 i1 l1 m1
  have n0 : al.length ≤ maxLen := Nat.le_trans l0 m0
  have n1 : bl.length ≤ maxLen := Nat.le_trans l1 m1
  show Calls Try.prog 5 #[optV s f A al.length c, optV t g B bl.length d, .int .i64 n] w _
  have hn := wf_bd h2
  have b0 := balloc w (.cells (optC s f A al.length c) 24)
  have b1 := b0.alloc b0.size (.cells (optC t g B bl.length d) 24)
  have x0 := (Box.new w 24 (optC s f A al.length c)).next (balloc _ (.cells (optC t g B bl.length d) 24))
  have x1 := Box.new (w.alloc (.cells (optC s f A al.length c) 24)) 24 (optC t g B bl.length d)
  rw [World.size_alloc] at x1
  have I0 := Lib.hid i0
  have I1 := Lib.hid i1
  have BW := Lib.hid b1
  have X0 := Lib.hid x0
  have X1 := Lib.hid x1
  clear i0 i1 b0 b1 x0 x1 h2
  go_enter Try.func5, Try.ntmps5
  go_wp2_with fail
  refine (sane_any _).mono ?_
  rintro e w1 ⟨rfl, bb⟩
  have X0 := Lib.hid (X0.out.next bb)
  have X1 := Lib.hid (X1.out.next bb)
  have BW := Lib.hid (bnext BW.out bb)
  have k0 := X0.out.cell (i := 0) rfl
  have k1 := X0.out.cell (i := 1) rfl
  have k2 := X0.out.cell (i := 2) rfl
  clear bb
  go_wp2_with fail
  refine (encode_any s f A al.length c al _ (I0.out.below BW.out)).mono ?_
  rintro e w2 ⟨rfl, bb⟩
  clear k0 k1 k2
  have X0 := Lib.hid (X0.out.next bb)
  have X1 := Lib.hid (X1.out.next bb)
  have BW := Lib.hid (bnext BW.out bb)
  have j0 := X1.out.cell (i := 0) rfl
  have j1 := X1.out.cell (i := 1) rfl
  have j2 := X1.out.cell (i := 2) rfl
  clear bb
  by_cases hv : validP s f al = true
  · have HE : Hid (encV s f al = .tuple #[.string ⟨(encOpt s f al).toArray⟩, .int .i64 0]) := Lib.hid (by simp [encV, hv])
    have HV := Lib.hid hv
    rw [HE.out]
    have hb3 := (valid_facts hv).2.2.1
    have HEN := Lib.hid (dec_enc hv)
    have HPR := Lib.hid (dec_pre hv)
    have hl := enc_ne s f al
    have HIN : Hid (validP t g bl = true → (encOpt s f al = encOpt t g bl ↔ sameP s f al t g bl = true)) := Lib.hid (enc_inj hv)
    clear hv
    generalize hL : encOpt s f al = L at *
    have hLs : (⟨L.toArray⟩ : ByteArray).size = L.length := by simp [ByteArray.size]
    obtain ⟨S, hS⟩ : ∃ S : ByteArray, S = ⟨L.toArray⟩ := ⟨_, rfl⟩
    rw [← hS] at hLs ⊢
    have hne : S.data.toList = L := by rw [hS]
    have HNE := Lib.hid hne
    have HS := Lib.hid hS
    have HLs := Lib.hid hLs
    have hSz : 3 ≤ S.size ∧ S.size ≤ 153 := by omega
    have hse : S.toList.isEmpty = false := by
      rw [← decide_eq_emptyBytes]
      simp only [decide_eq_false_iff_not]
      intro h
      rw [h] at hSz
      simp at hSz
    clear hL hS hLs hne
    go_wp2_with fail
    refine (encode_any t g B bl.length d bl _ (I1.out.below BW.out)).mono ?_
    rintro e w3 ⟨rfl, bb⟩
    clear j0 j1 j2
    have X0 := Lib.hid (X0.out.next bb)
    have X1 := Lib.hid (X1.out.next bb)
    have BW := Lib.hid (bnext BW.out bb)
    have k0 := X0.out.cell (i := 0) rfl
    have k1 := X0.out.cell (i := 1) rfl
    have k2 := X0.out.cell (i := 2) rfl
    clear bb
    obtain ⟨T, code, hT, hTv⟩ : ∃ (T : ByteArray) (code : Int), encV t g bl = .tuple #[.string T, .int .i64 code] ∧ (code = 0 ∧ validP t g bl = true ∧ T = ⟨(encOpt t g bl).toArray⟩ ∨ code = 170) := by
      unfold encV
      by_cases h : validP t g bl = true
      · rw [if_pos h]; exact ⟨_, 0, rfl, .inl ⟨rfl, h, rfl⟩⟩
      · rw [if_neg h]; exact ⟨_, 170, rfl, .inr rfl⟩
    rw [hT]
    have HTV := Lib.hid hTv
    clear hT hTv
    go_wp2_with fail
    refine (valid_any s f A al.length c al _ (I0.out.below BW.out)).mono ?_
    rintro e w4 ⟨rfl, bb⟩
    rw [HV.out]
    clear k0 k1 k2
    have X0 := Lib.hid (X0.out.next bb)
    have X1 := Lib.hid (X1.out.next bb)
    have BW := Lib.hid (bnext BW.out bb)
    clear bb
    go_wp2_with fail
    refine (decode_any S _ (by omega)).mono ?_
    rw [HNE.out, HEN.out]
    rintro e w5 ⟨B5, c5, rfl, y5, _, _, _, bb⟩
    have X0 := Lib.hid (X0.out.next bb)
    have X1 := Lib.hid (X1.out.next bb)
    have BW := Lib.hid (bnext BW.out bb)
    have y5' : IsAlts w5 B5 al.length al := y5
    have Y5 := Lib.hid (y5'.below (balloc w5 (.cells (optC s f B5 al.length c5) 24)))
    have X5 := Lib.hid (Box.new w5 24 (optC s f B5 al.length c5))
    have bb := balloc w5 (.cells (optC s f B5 al.length c5) 24)
    have X0 := Lib.hid (X0.out.next bb)
    have X1 := Lib.hid (X1.out.next bb)
    have BW := Lib.hid (bnext BW.out bb)
    clear bb y5 y5'
    dsimp only
    have hsz1 : (0 : Int) < (S.size : Int) := by omega
    have hsz2 : (S.size : Int) ≤ 1000000 := by omega
    have hpk := pickOf_bd n S.size hsz1
    go_wp2_with fail
    refine (pick_any n S.size _ hn.1 hn.2 hsz1 hsz2).mono ?_
    rintro e w6 ⟨rfl, rfl⟩
    obtain ⟨m, hm⟩ : ∃ m : Nat, pickOf n S.size = m := ⟨(pickOf n S.size).toNat, by omega⟩
    have hmS : m < S.size := by omega
    rw [hm]
    clear hpk hm
    have HPM : Hid ((decP (S.extract 0 m).data.toList).2 = 10) := Lib.hid (by
      rw [HS.out, take_bytes]
      exact HPR.out m (by have := HLs.out; omega))
    have hmi : (m : Int) ≤ (S.size : Int) := by omega
    have hxs : (S.extract 0 m).size ≤ 9000000000000000000 := by rw [ByteArray.size_extract]; omega
    go_wp2_with fail
    refine (decode_any (S.extract 0 m) _ hxs).mono ?_
    generalize decP (S.extract 0 m).data.toList = q at *
    obtain ⟨⟨s7, f7, al7⟩, k7⟩ := q
    have hk7 : k7 = 10 := HPM.out
    subst hk7
    rintro e w7 ⟨B7, c7, rfl, _, _, _, _, bb⟩
    have X5 := Lib.hid (X5.out.next bb)
    have Y5 := Lib.hid (Y5.out.below bb)
    have X0 := Lib.hid (X0.out.next bb)
    have X1 := Lib.hid (X1.out.next bb)
    have BW := Lib.hid (bnext BW.out bb)
    have bb := balloc w7 (.cells (optC s7 f7 B7 al7.length c7) 24)
    have X5 := Lib.hid (X5.out.next bb)
    have Y5 := Lib.hid (Y5.out.below bb)
    have X0 := Lib.hid (X0.out.next bb)
    have X1 := Lib.hid (X1.out.next bb)
    have BW := Lib.hid (bnext BW.out bb)
    clear bb
    have p0 := X5.out.cell (i := 0) rfl
    have p1 := X5.out.cell (i := 1) rfl
    have p2 := X5.out.cell (i := 2) rfl
    have k0 := X0.out.cell (i := 0) rfl
    have k1 := X0.out.cell (i := 1) rfl
    have k2 := X0.out.cell (i := 2) rfl
    dsimp only
    go_wp2_with fail
    refine (same_any s f B5 al.length c5 al s f A al.length c al _ Y5.out (I0.out.below BW.out) n0).mono ?_
    rintro e w8 ⟨rfl, bb⟩
    rw [sameP_refl]
    clear p0 p1 p2 k0 k1 k2
    have X0 := Lib.hid (X0.out.next bb)
    have X1 := Lib.hid (X1.out.next bb)
    have BW := Lib.hid (bnext BW.out bb)
    clear bb
    rcases HTV.out with ⟨rfl, hv2, hT⟩ | rfl
    · have HIN2 := HIN.out hv2
      have hEq : (S.toList == T.toList) = sameP s f al t g bl := by
        rw [ByteArray.toList_eq, ByteArray.toList_eq, hT, HNE.out]
        by_cases h : L = encOpt t g bl
        · rw [HIN2.1 h, h]
          simp
        · have h2 : sameP s f al t g bl = false := by
            cases hq : sameP s f al t g bl with
            | true => exact absurd (HIN2.2 hq) h
            | false => rfl
          rw [h2]
          simpa using h
      have HEQ := Lib.hid hEq
      clear hEq HIN2 hT
      have k0 := X0.out.cell (i := 0) rfl
      have k1 := X0.out.cell (i := 1) rfl
      have k2 := X0.out.cell (i := 2) rfl
      have j0 := X1.out.cell (i := 0) rfl
      have j1 := X1.out.cell (i := 1) rfl
      have j2 := X1.out.cell (i := 2) rfl
      go_wp2_with fail
      refine (same_any s f A al.length c al t g B bl.length d bl _ (I0.out.below BW.out) (I1.out.below BW.out) n0).mono ?_
      rintro e w9 ⟨rfl, bb⟩
      clear k0 k1 k2 j0 j1 j2
      have X0 := Lib.hid (X0.out.next bb)
      have X1 := Lib.hid (X1.out.next bb)
      have BW := Lib.hid (bnext BW.out bb)
      clear bb
      rw [← HEQ.out]
      go_wp2_with fail
      go_ret
      exact ⟨by simp, BW.out⟩
    · go_wp2_with fail
      go_ret
      exact ⟨rfl, BW.out⟩
  · have hv' : validP s f al = false := by simpa using hv
    have HE : Hid (encV s f al = .tuple #[.string ⟨#[]⟩, .int .i64 170]) := Lib.hid (by simp [encV, hv'])
    have HV := Lib.hid hv'
    rw [HE.out]
    clear hv hv'
    go_wp2_with fail
    refine (encode_any t g B bl.length d bl _ (I1.out.below BW.out)).mono ?_
    rintro e w3 ⟨rfl, bb⟩
    clear j0 j1 j2
    have X0 := Lib.hid (X0.out.next bb)
    have X1 := Lib.hid (X1.out.next bb)
    have BW := Lib.hid (bnext BW.out bb)
    have k0 := X0.out.cell (i := 0) rfl
    have k1 := X0.out.cell (i := 1) rfl
    have k2 := X0.out.cell (i := 2) rfl
    clear bb
    obtain ⟨T, code, hT⟩ : ∃ (T : ByteArray) (code : Int), encV t g bl = .tuple #[.string T, .int .i64 code] := by
      unfold encV
      by_cases h : validP t g bl = true
      · rw [if_pos h]; exact ⟨_, 0, rfl⟩
      · rw [if_neg h]; exact ⟨_, 170, rfl⟩
    rw [hT]
    clear hT
    go_wp2_with fail
    refine (valid_any s f A al.length c al _ (I0.out.below BW.out)).mono ?_
    rintro e w4 ⟨rfl, bb⟩
    rw [HV.out]
    clear k0 k1 k2
    have X0 := Lib.hid (X0.out.next bb)
    have X1 := Lib.hid (X1.out.next bb)
    have BW := Lib.hid (bnext BW.out bb)
    clear bb
    go_wp2_with fail
    go_ret
    exact ⟨rfl, BW.out⟩
end Go.Proofs.Ytfpnjlfcnfjkdaa.optoutRoundTrip
