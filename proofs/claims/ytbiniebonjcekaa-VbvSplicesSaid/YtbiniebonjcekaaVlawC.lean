/- The walk of VbvSplices. -/
import Derived.Test.YtbiniebonjcekaaVpad
namespace Go.Proofs.Ytbiniebonjcekaa.vbvSplices
open Go.ChangeShapes Go.WideShapes Go.ChangeAt Go.RowKit
set_option linter.unusedVariables false

theorem exits_mem (P : List Int) (x : Int) (h : x ∈ exitsOf P) : ∃ n : Nat, x = n ∧ n ≤ P.length ∧ confOf (P.take n) = true := by
  unfold exitsOf exitsTo at h
  simp only [List.mem_map, List.mem_filter, List.mem_range] at h
  obtain ⟨n, ⟨h1, h2⟩, rfl⟩ := h
  exact ⟨n, rfl, by omega, h2⟩
theorem exits_ne (P : List Int) : (exitsOf P).length ≠ 0 := by
  have : (0 : Int) ∈ exitsOf P := by
    unfold exitsOf exitsTo
    simp only [List.mem_map, List.mem_filter, List.mem_range]
    exact ⟨0, ⟨by omega, rfl⟩, rfl⟩
  intro h
  have e : exitsOf P = [] := by simpa using h
  rw [e] at this
  cases this
/-- A slice value that holds sizes that conform. -/
def ConfV (w : World) (v : Value) : Prop := ∃ (A : Option Addr) (d : Nat) (P : List Int), v = .slice A P.length d ∧ IsInts w A P.length P ∧ confOf P = true ∧ P.length ≤ 65 ∧ P.length ≤ d ∧ d ≤ maxLen ∧ (A = none → d = 0)
theorem ConfV.below {w w' : World} {v : Value} (h : ConfV w v) (hb : Below w.heap.size w w') : ConfV w' v := by
  obtain ⟨A, d, P, h1, h2, h3⟩ := h
  exact ⟨A, d, P, h1, h2.below hb, h3⟩
def AllConf (w : World) (n : Nat) (xs : List Value) : Prop := xs.length = n ∧ ∀ (i : Nat) (v : Value), xs[i]? = some v → ConfV w v
theorem AllConf.nil (w : World) : AllConf w 0 [] := ⟨rfl, fun i v hv => by cases hv⟩
theorem AllConf.below {w w' : World} {n : Nat} {xs : List Value} (h : AllConf w n xs) (hb : Below w.heap.size w w') : AllConf w' n xs := ⟨h.1, fun i v hv => (h.2 i v hv).below hb⟩
theorem AllConf.snoc {w : World} {n : Nat} {xs : List Value} {v : Value} (h : AllConf w n xs) (hv : ConfV w v) : AllConf w (n + 1) (xs ++ [v]) := by
  refine ⟨by simp [h.1], fun i u hu => ?_⟩
  by_cases hi : i < xs.length
  · rw [List.getElem?_append_left hi] at hu; exact h.2 i u hu
  · rw [List.getElem?_append_right (by omega)] at hu
    have : i - xs.length = 0 := by
      by_cases h0 : i - xs.length = 0
      · exact h0
      · have : ([v] : List Value)[i - xs.length]? = none := by simp; omega
        rw [this] at hu; cases hu
    rw [this] at hu
    simp at hu
    subst hu
    exact hv
theorem wrap64_bd (x : Int) : -9223372036854775808 ≤ wrap64 x ∧ wrap64 x ≤ 9223372036854775807 := wf_bd (wrap64_wf x)
theorem ints_app3 (P Q R : List Int) : ints (P ++ Q ++ R) = ints P ++ ints Q ++ ints R := by simp only [List.map_append]
theorem len_app3 (P Q R : List Int) : (P ++ Q ++ R).length = P.length + Q.length + R.length := by simp only [List.length_append]
theorem infoInts : (Try.prog.info? 22).map (fun i => (i.zero, i.size, i.bytes)) = some (some (.slice none 0 0), 1, 24) := by kernel_rfl

set_option maxRecDepth 100000 in
set_option maxHeartbeats 4000000 in
theorem walk (a0 : Option Addr) (len0 cap0 : Nat) (z0 : List Int) (a1 : Option Addr) (len1 cap1 : Nat) (z1 : List Int) (a2 : Option Addr) (len2 cap2 : Nat) (z2 : List Int) (a3 : Int) (w : World)
    (w0 : IsInts w a0 len0 z0 ∧ len0 ≤ cap0 ∧ cap0 ≤ maxLen ∧ ∀ n ∈ z0, (Lit.int .i64 n).wf = true)
    (w1 : IsInts w a1 len1 z1 ∧ len1 ≤ cap1 ∧ cap1 ≤ maxLen ∧ ∀ n ∈ z1, (Lit.int .i64 n).wf = true)
    (w2 : IsInts w a2 len2 z2 ∧ len2 ≤ cap2 ∧ cap2 ≤ maxLen ∧ ∀ n ∈ z2, (Lit.int .i64 n).wf = true) (w3 : (Lit.int .i64 a3).wf = true) :
    Calls Try.prog 7 #[.slice a0 len0 cap0, .slice a1 len1 cap1, .slice a2 len2 cap2, .int .i64 a3] w fun e w' => e = .returned (.bool true) ∧ Below w.heap.size w w' := by
  obtain ⟨hi0, hl0, hc0, hwf0⟩ := w0
  obtain ⟨hi1, hl1, hc1, hwf1⟩ := w1
  obtain ⟨hi2, hl2, hc2, hwf2⟩ := w2
  unfold maxLen at hc0 hc1 hc2
  have b3 := wf_bd w3
  have HI0 := Lib.hid hi0
  have HI1 := Lib.hid hi1
  have HI2 := Lib.hid hi2
  have HW0 := Lib.hid hwf0
  have HW1 := Lib.hid hwf1
  have HW2 := Lib.hid hwf2
  clear hi0 hi1 hi2 hwf0 hwf1 hwf2 w3
  go_enter Try.func7, Try.ntmps7
  go_wp2_with fail
  refine (vsane_any _).mono ?_
  rintro e w1 ⟨rfl, c1⟩
  have HJ0 := Lib.hid (HI0.out.below c1)
  go_wp2_with fail
  refine (padded_any _ _ _ _ _ HJ0.out (by omega) HW0.out).mono ?_
  rintro e w2 ⟨P0, p1, p2, B0, d0, rfl, hP0, p3, p4, p5, c2⟩
  have HJ1 := Lib.hid (HI1.out.below (bnext c1 c2))
  have HV0 : Hid (ConfV w2 (.slice B0 P0.length d0)) := Lib.hid ⟨B0, d0, P0, rfl, hP0, p1, p2, p3, p4, p5⟩
  clear p1 p3 p4 p5 hP0
  go_wp2_with fail
  refine (padded_any _ _ _ _ _ HJ1.out (by omega) HW1.out).mono ?_
  rintro e w3 ⟨P1, p1, p2', B1, d1, rfl, hP1, p3, p4, p5, c3⟩
  have HJ2 := Lib.hid (HI2.out.below (bnext (bnext c1 c2) c3))
  have HV1 : Hid (ConfV w3 (.slice B1 P1.length d1)) := Lib.hid ⟨B1, d1, P1, rfl, hP1, p1, p2', p3, p4, p5⟩
  have HV0' := Lib.hid (HV0.out.below c3)
  clear p1 p3 p4 p5 hP1 HV0
  go_wp2_with fail
  refine (padded_any _ _ _ _ _ HJ2.out (by omega) HW2.out).mono ?_
  rintro e w4 ⟨P2, p1, p2'', B2, d2, rfl, hP2, p3, p4, p5, c4⟩
  have HV2 : Hid (ConfV w4 (.slice B2 P2.length d2)) := Lib.hid ⟨B2, d2, P2, rfl, hP2, p1, p2'', p3, p4, p5⟩
  have HV1' := Lib.hid (HV1.out.below c4)
  have HV0'' := Lib.hid (HV0'.out.below c4)
  have C4 := Lib.hid (bnext (bnext (bnext c1 c2) c3) c4)
  clear p1 p3 p4 p5 hP2 HV1 HV0' c1 c2 c3 c4 HI0 HI1 HI2 HJ0 HJ1 HJ2 HW0 HW1 HW2
  generalize P0.length = n0 at *
  generalize P1.length = n1 at *
  generalize P2.length = n2 at *
  have HA0 : Hid (AllConf w4 3 [.slice B0 n0 d0, .slice B1 n1 d1, .slice B2 n2 d2]) := Lib.hid ((((AllConf.nil w4).snoc HV0''.out).snoc HV1'.out).snoc HV2.out)
  have HO0 : Hid ((w4.alloc (.cells #[.slice B0 n0 d0, .slice B1 n1 d1, .slice B2 n2 d2] 22)).ownsRow w4.heap.size 22 1 (.slice (some ⟨w4.heap.size, 0, none⟩) 3 3) 3 [.slice B0 n0 d0, .slice B1 n1 d1, .slice B2 n2 d2]) := Lib.hid (own_at w4 22 [.slice B0 n0 d0, .slice B1 n1 d1, .slice B2 n2 d2] (by simp [maxLen]) w4.heap.size (Nat.le_refl _))
  have HB0 := Lib.hid (balloc w4 (.cells #[.slice B0 n0 d0, .slice B1 n1 d1, .slice B2 n2 d2] 22))
  obtain ⟨i1, hi1, hy0, hy1, hy2⟩ := info_parts infoInts
  obtain ⟨i0, hi0, hz0, hz1, hz2⟩ := info_parts infoInt
  clear HV0'' HV1' HV2 p2 p2' p2''
  go_wp2_with fail
  go_loopw [10, 11] (fun v i wr => ∃ (k : Nat) (B : Option Addr) (c : Nat) (xs : List Value), k ≤ 3 ∧ i = .int .i64 k ∧ v = .slice B (3 + k) c ∧ wr.ownsRow w4.heap.size 22 1 (.slice B (3 + k) c) (3 + k) xs ∧ AllConf w4 (3 + k) xs ∧ Below w4.heap.size w4 wr) (fun _ i _ => 3 - (intOf i).toNat)
  case atStart => exact ⟨0, _, _, _, by omega, rfl, rfl, HO0.out, HA0.out, HB0.out⟩
  case round =>
    obtain ⟨k, B, c, xs, hk, rfl, rfl, hown, hA, hB⟩ := hrel
    have HO := Lib.hid hown
    have HA := Lib.hid hA
    have HB := Lib.hid hB
    clear hown hA hB
    by_cases hlt : k < 3
    · obtain ⟨gb, cap', hform, hgb, hgl⟩ := HO.out.form (by omega)
      obtain rfl : B = some ⟨gb, 0, none⟩ := by injection hform
      have hkx : k < xs.length := by have := HA.out.1; omega
      obtain ⟨A, d, P, hv, hP, hPc, hP65, hPd, hdm, hAn⟩ := HA.out.2 k _ (List.getElem?_eq_getElem hkx)
      have hcl : wr.cell? ⟨gb, k, none⟩ = some (.slice A P.length d) := by
        rw [HO.out.cellAt k (by omega), List.getElem?_eq_getElem hkx, hv]
      have HP := Lib.hid (hP.below HB.out)
      have HPc := Lib.hid hPc
      have HAn := Lib.hid hAn
      have HP4 := Lib.hid hP
      have hex := exits_ne P
      have HEx := Lib.hid (exits_mem P)
      have hexl : (exitsOf P).length ≤ P.length + 1 := exitsTo_len P _
      clear hform hv hP hPc hAn
      unfold maxLen at hdm
      go_wp2_with fail
      refine (vbvExits_any _ _ _ _ _ HP.out (by omega)).mono ?_
      rintro e w5 ⟨E, ec, rfl, hE, e1, e2, e3, c5⟩
      generalize exitsOf P = X at *
      have HE := Lib.hid hE
      have C5 := Lib.hid c5
      have hcl5 : w5.cell? ⟨gb, k, none⟩ = some (.slice A P.length d) := (c5.cell (p := ⟨gb, k, none⟩) hgl).trans hcl
      have HO5 := Lib.hid (own_below HO.out c5)
      have HB5 := Lib.hid (HB.out.trans (c5.mono HB.out.size))
      have hx0 : ((X.length : Int) == 0) = false := by simpa using hex
      have hxp : 0 < X.length := by omega
      have bw := wrap64_bd (a3 + k)
      clear hE e1 e2 e3 c5 hcl
      go_wp2_with fail
      refine (pick_any _ _ _ bw.1 bw.2 (by omega) (by omega)).mono ?_
      rintro e w6 ⟨rfl, rfl⟩
      have p1 := pick_bd (wrap64 (a3 + k)) (X.length : Int) (by omega)
      obtain ⟨j, hj⟩ : ∃ j : Nat, pickOf (wrap64 (a3 + k)) (X.length : Int) = j := ⟨_, (Int.toNat_of_nonneg p1.1).symm⟩
      rw [hj] at p1 ⊢
      have hjX : j < X.length := by omega
      obtain ⟨be, oe, rfl, hbe, hce⟩ := HE.out.2.resolve_left (by omega)
      have hcx := hce j hjX
      obtain ⟨n, hn1, hn2, hn3⟩ := HEx.out (X.getD j 0) (by simp [List.getD, List.getElem?_eq_getElem hjX])
      rw [hn1] at hcx
      have HTk := Lib.hid (toInts (take1 (ofInts HP4.out) hn2))
      have HCt := Lib.hid hn3
      have hnd : n ≤ d := by omega
      clear hj hce hn1 hn3 bw HEx
      generalize wrap64 (a3 + k) = a3k at *
      have HVn : Hid (ConfV w4 (.slice A n d)) := Lib.hid ⟨A, d, P.take n, by rw [List.length_take, Nat.min_eq_left hn2], by rw [List.length_take, Nat.min_eq_left hn2]; exact HTk.out, HCt.out, by rw [List.length_take]; omega, by rw [List.length_take]; omega, by unfold maxLen; omega, HAn.out⟩
      have HN : Hid (Rd (w5.alloc (Obj.cells #[.slice A n d] 22)) 1 (some ⟨w5.heap.size, 0, none⟩) 1 [.slice A n d]) := Lib.hid (Rd.of_own (own_new w5 22 [.slice A n d] (by simp [maxLen])))
      have HOa := Lib.hid (HO5.out.alloc (Obj.cells #[.slice A n d] 22))
      have HBa := Lib.hid (HB5.out.alloc HB5.out.size (Obj.cells #[.slice A n d] 22))
      go_wp2_with (at_builtin; refine wpList_append_rd _ rfl (.tmp 57) (.tmp 64) 25 rfl w4.heap.size 22 i1 (.slice none 0 0) 1 24 Try.underlying25 hi1 hy0 hy1 hy2 rfl (by decide) (.slice (some ⟨gb, 0, none⟩) (3 + k) c) (3 + k) xs rfl HOa.out _ 1 _ [.slice A n d] rfl (fun e => by cases e) HN.out (by simp [Value.oneCell']) (by unfold maxLen; omega) (by omega) HBa.out.size ?_; intro B1 c1 w7 hown1 hgrow1 hat1; have Hb1 := Lib.hid (HBa.out.grown hgrow1 HBa.out.size (own_ge HOa.out)); have Hown1 := Lib.hid hown1; clear hown1 hgrow1 hat1)
      rw [Nat.add_assoc]
      go_roundw
      case rel => exact ⟨k + 1, B1, c1, xs ++ [.slice A n d], by omega, by go_num, rfl, Hown1.out, HA.out.snoc HVn.out, Hb1.out⟩
      case measure => simp [intOf]; omega
    · obtain rfl : k = 3 := by omega
      obtain ⟨gb, cap', hform, hgb, hgl⟩ := HO.out.form (by omega)
      obtain rfl : B = some ⟨gb, 0, none⟩ := by injection hform
      obtain ⟨wo, rfl⟩ : ∃ wo : World, wo = wr := ⟨_, rfl⟩
      have key : ∀ j : Nat, j < 6 → ∃ (A : Option Addr) (d : Nat) (P : List Int), wo.cell? ⟨gb, j, none⟩ = some (.slice A P.length d) ∧ IsInts wo A P.length P ∧ confOf P = true ∧ P.length ≤ 65 ∧ P.length ≤ d ∧ (A = none → d = 0) := by
        intro j hj
        have hjx : j < xs.length := by have := HA.out.1; omega
        obtain ⟨A, d, P, hv, hP, hPc, hP65, hPd, hdm, hAn⟩ := HA.out.2 j _ (List.getElem?_eq_getElem hjx)
        exact ⟨A, d, P, by rw [HO.out.cellAt j (by omega), List.getElem?_eq_getElem hjx, hv], hP.below HB.out, hPc, hP65, hPd, hAn⟩
      have KEY := Lib.hid key
      have HC := Lib.hid (bnext C4.out HB.out)
      clear key hform HO HA HB C4
      rw [show (3 + 3 : Nat) = 6 from rfl, show ((3 : Nat) : Int) = 3 from rfl]
      go_wp2_with fail
      go_loopw [14] (fun i wr => ∃ k : Nat, k ≤ 6 ∧ i = .int .i64 k ∧ Below wo.heap.size wo wr) (fun i _ => 6 - (intOf i).toNat)
      case atStart => exact ⟨0, by omega, rfl, Below.refl _ _⟩
      case round =>
        obtain ⟨i, hi, rfl, hB⟩ := hrel
        have HB := Lib.hid hB
        clear hB
        by_cases hlt : i < 6
        · have hdi : decide ((i : Int) < 6) = true := by simp; omega
          go_wp2_with fail
          go_loopw [15] (fun x wr => ∃ k : Nat, k ≤ 6 ∧ x = .int .i64 k ∧ Below wo.heap.size wo wr) (fun x _ => 6 - (intOf x).toNat)
          case atStart => exact ⟨0, by omega, rfl, HB.out⟩
          case round =>
            obtain ⟨k, hk, rfl, hB2⟩ := hrel
            have HB2 := Lib.hid hB2
            clear hB2
            by_cases hlt2 : k < 6
            · obtain ⟨A, d, P, g1, g2, g3, g4, g5, g6⟩ := KEY.out i hlt
              obtain ⟨A', d', P', g1', g2', g3', g4', g5', g6'⟩ := KEY.out k hlt2
              obtain ⟨A'', d'', P'', g1'', g2'', g3'', g4'', g5'', g6''⟩ := KEY.out ((i + k) % 6) (by omega)
              have q1 := (HB2.out.cell (p := ⟨gb, i, none⟩) hgl).trans g1
              have q2 := (HB2.out.cell (p := ⟨gb, k, none⟩) hgl).trans g1'
              have q3 := (HB2.out.cell (p := ⟨gb, (i + k) % 6, none⟩) hgl).trans g1''
              have HR := Lib.hid (ofInts (g2.below HB2.out))
              have HR' := Lib.hid (ofInts (g2'.below HB2.out))
              have HR'' := Lib.hid (ofInts (g2''.below HB2.out))
              have HG := Lib.hid (conf_append (conf_append g3 g3') g3'')
              have HN : Hid (A = none → P.length = 0 ∧ d = 0) := Lib.hid (fun e => by have := g6 e; omega)
              have HN' : Hid (A' = none → P'.length = 0 ∧ d' = 0) := Lib.hid (fun e => by have := g6' e; omega)
              have HN'' : Hid (A'' = none → P''.length = 0 ∧ d'' = 0) := Lib.hid (fun e => by have := g6'' e; omega)
              have hbl2 : gb < wr.heap.size := Nat.lt_of_lt_of_le hgl HB2.out.size
              clear g1 g2 g3 g5 g6 g1' g2' g3' g5' g6' g1'' g2'' g3'' g5'' g6''
              go_upto_region 19 with (fail)
              go_cut [16] from 72 to 101 (fun v wx => ∃ (D : Option Addr) (f : Nat), v = .slice D (P ++ P' ++ P'').length f ∧ IsInts wx D (P ++ P' ++ P'').length (P ++ P' ++ P'') ∧ Below wr.heap.size wr wx)
              case first =>
                have e1 : IntKind.i64.wrap ((i : Int) + k) = (i : Int) + k := IntWalk.i64_in _ (by omega)
                have e2 : ((i : Int) + k).tmod 6 = ((i : Int) + k) % 6 := Int.tmod_eq_emod_of_nonneg (by omega)
                have m1 : (0 : Int) ≤ ((i : Int) + k) % 6 := by omega
                have m2 : ((i : Int) + k) % 6 < 6 := by omega
                have m3 : (((i : Int) + k) % 6).toNat = (i + k) % 6 := by omega
                have hm : (i + k) % 6 < 6 := by omega
                have hi6 : (i : Int) < 6 := by omega
                have hk6 : (k : Int) < 6 := by omega
                have hmi : (((i + k) % 6 : Nat) : Int) < 6 := by omega
                go_region_law (first
                  | (refine step_append_rd _ rfl (.tmp 78) (.tmp 82) 22 rfl wr.heap.size 3 i0 (.int .i64 0) 1 8 Try.underlying22 hi0 hz0 hz1 hz2 rfl (by decide) (.slice (some ⟨wr.heap.size, 0, none⟩) 0 0) 0 [] rfl (own_at wr 3 [] (by simp) _ (Nat.le_refl _)) A P.length d (ints P) rfl HN.out (HR.out.below ((balloc _ _).drew)) (ints_ones _) (by unfold maxLen; omega) (by omega) (by simp) ?_; intro F1 f1 w5 hown1 hgrow1 hat1; have HBx : Hid (Below wr.heap.size wr w5) := Lib.hid (((balloc wr _).drew).grown hgrow1 (by simp) (fun k e => by cases e; simp)); simp only [Nat.zero_add, List.nil_append] at hown1; have Hown1 := Lib.hid hown1; have x2 := (HBx.out.cell (p := ⟨gb, k, none⟩) hbl2).trans q2; have x3 := (HBx.out.cell (p := ⟨gb, (i + k) % 6, none⟩) hbl2).trans q3; clear hown1 hgrow1 hat1)
                  | (refine step_append_rd w5 rfl (.tmp 83) (.tmp 87) 22 rfl wr.heap.size 3 i0 (.int .i64 0) 1 8 Try.underlying22 hi0 hz0 hz1 hz2 rfl (by decide) (.slice F1 P.length f1) P.length (ints P) rfl Hown1.out A' P'.length d' (ints P') rfl HN'.out (HR'.out.below HBx.out) (ints_ones _) (by unfold maxLen; omega) (by omega) HBx.out.size ?_; intro F2 f2 w6 hown2 hgrow2 hat2; have HBy : Hid (Below wr.heap.size wr w6) := Lib.hid (HBx.out.grown hgrow2 HBx.out.size (own_ge Hown1.out)); have Hown2 := Lib.hid hown2; have y3 := (HBy.out.cell (p := ⟨gb, (i + k) % 6, none⟩) hbl2).trans q3; clear hown2 hgrow2 hat2)
                  | (refine step_append_rd w6 rfl (.tmp 88) (.tmp 97) 22 rfl wr.heap.size 3 i0 (.int .i64 0) 1 8 Try.underlying22 hi0 hz0 hz1 hz2 rfl (by decide) (.slice F2 (P.length + P'.length) f2) (P.length + P'.length) (ints P ++ ints P') rfl Hown2.out A'' P''.length d'' (ints P'') rfl HN''.out (HR''.out.below HBy.out) (ints_ones _) (by unfold maxLen; omega) (by omega) HBy.out.size ?_; intro F3 f3 w7 hown3 hgrow3 hat3; have HBz : Hid (Below wr.heap.size wr w7) := Lib.hid (HBy.out.grown hgrow3 HBy.out.size (own_ge Hown2.out)); have Hown3 := Lib.hid hown3; clear hown3 hgrow3 hat3))
                all_goals
                  go_wp2_with fail
                  go_meet
                  have e : ints (P ++ P' ++ P'') = ints P ++ ints P' ++ ints P'' := ints_app3 P P' P''
                  have hl3 : (P ++ P' ++ P'').length = P.length + P'.length + P''.length := len_app3 P P' P''
                  have o := Hown3.out
                  rw [← e, ← hl3] at o
                  exact ⟨F3, f3, by rw [hl3], toInts (Rd.of_own o), HBz.out⟩
              case rest =>
                obtain ⟨D, f, rfl, hD, hbD⟩ := hcut
                have HD := Lib.hid hD
                have HBD := Lib.hid (bnext HB2.out hbD)
                have hl : (P ++ P' ++ P'').length ≤ 200 := by simp; omega
                generalize P ++ P' ++ P'' = Q at *
                clear hD hbD q1 q2 q3
                go_wp2_with (go_at_call 20; refine (vbvConf_any _ _ _ _ _ HD.out (by omega)).mono ?_; rintro e w9 ⟨rfl, c9⟩; rw [HG.out])
                go_roundw
                case rel => exact ⟨k + 1, by omega, by go_num, bnext HBD.out c9⟩
                case measure => simp [intOf]; omega
            · go_wp2_with fail
              go_roundw
              case rel => exact ⟨i + 1, by omega, by go_num, HB2.out⟩
              case measure => simp [intOf]; omega
        · go_wp2_with fail
          go_ret
          exact ⟨rfl, bnext HC.out HB.out⟩
end Go.Proofs.Ytbiniebonjcekaa.vbvSplices
