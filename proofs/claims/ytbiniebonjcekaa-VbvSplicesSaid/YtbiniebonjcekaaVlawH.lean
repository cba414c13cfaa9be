/- Contracts of the statements' helpers and of the reference, chapter 13. -/
import Derived.Test.YtbiniebonjcekaaVbvE
import Derived.Test.YtbiniebonjcekaaVbvN
namespace Go.Proofs.Ytbiniebonjcekaa
open Go.ChangeShapes Go.WideShapes Go.ChangeAt Go.RowKit
set_option linter.unusedVariables false

def pickOf (c n : Int) : Int := if c < 0 then (-(c + 1)) % n else c % n
theorem pick_bd (c n : Int) (hn : 0 < n) : 0 ≤ pickOf c n ∧ pickOf c n < n := by
  unfold pickOf
  split
  · exact ⟨Int.emod_nonneg _ (by omega), Int.emod_lt_of_pos _ hn⟩
  · exact ⟨Int.emod_nonneg _ (by omega), Int.emod_lt_of_pos _ hn⟩
theorem pick_any (c n : Int) (w : World) (h0 : -9223372036854775808 ≤ c) (h1 : c ≤ 9223372036854775807) (hn : 0 < n) (hn2 : n ≤ 1000000) :
    Calls Try.prog 11 #[.int .i64 c, .int .i64 n] w fun e w' => e = .returned (.int .i64 (pickOf c n)) ∧ w = w' := by
  by_cases h : c < 0
  · have e : pickOf c n = (-(c + 1)) % n := by unfold pickOf; rw [if_pos h]
    have r1 : 0 ≤ (-(c + 1)) % n := Int.emod_nonneg _ (by omega)
    have r2 : (-(c + 1)) % n < n := Int.emod_lt_of_pos _ hn
    rw [e]
    clear e
    have hn1 : (n == 0) = false := by simp; omega
    go_enter Try.func11, Try.ntmps11
    go_wp2
    go_ret
    exact ⟨ret_int (by rw [← Int.neg_tmod, Int.tmod_eq_emod_of_nonneg (by omega)]), rfl⟩
  · have e : pickOf c n = c % n := by unfold pickOf; rw [if_neg h]
    have r1 : 0 ≤ c % n := Int.emod_nonneg _ (by omega)
    have r2 : c % n < n := Int.emod_lt_of_pos _ hn
    rw [e]
    clear e
    have hn1 : (n == 0) = false := by simp; omega
    go_enter Try.func11, Try.ntmps11
    go_wp2
    go_ret
    exact ⟨rfl, rfl⟩

def rawF (raw : Bool) (n : Int) : Int := if raw then n else pickOf n 260
def someOf (zs : List Int) (raw : Bool) : List Int := (zs.take 60).map (rawF raw)
theorem someOf_len (zs : List Int) (raw : Bool) : (someOf zs raw).length ≤ 60 := by unfold someOf; rw [List.length_map]; exact List.length_take_le _ _

set_option maxHeartbeats 1000000 in
theorem some_any (a : Option Addr) (len cap : Nat) (zs : List Int) (raw : Bool) (w : World) (h : IsInts w a len zs) (hlen : len ≤ 9223372036854775807) (hwf : ∀ n ∈ zs, (Lit.int .i64 n).wf = true) :
    Calls Try.prog 10 #[.slice a len cap, .bool raw] w (RetInts (someOf zs raw) w) := by
  have H := Lib.hid h
  have HWF := Lib.hid hwf
  clear h hwf
  obtain ⟨i0, hi0, hz0, hz1, hz2⟩ := info_parts infoInt
  go_enter Try.func10, Try.ntmps10
  go_wp2_with fail
  go_loopw [5, 6] (fun v i wr => ∃ (k : Nat) (B : Option Addr) (c : Nat), k ≤ len ∧ k ≤ 60 ∧ i = .int .i64 k ∧ v = .slice B k c ∧ wr.ownsRow w.heap.size 3 1 (.slice B k c) k (ints ((zs.take k).map (rawF raw))) ∧ Below w.heap.size w wr) (fun _ i _ => 60 - (intOf i).toNat)
  case atStart => exact ⟨0, none, 0, Nat.zero_le _, Nat.zero_le _, rfl, rfl, World.ownsRow_nil _ _ _ _, Below.refl _ _⟩
  case round =>
    obtain ⟨k, B, c, hk, hk6, rfl, rfl, hown, hB⟩ := hrel
    have HO := Lib.hid hown
    clear hown
    have fin : ¬ (k < len ∧ k < 60) → (zs.take k).map (rawF raw) = someOf zs raw ∧ k = (someOf zs raw).length := by
      intro hn
      have hl := H.out.1
      unfold someOf
      rw [List.length_map, List.length_take]
      by_cases h6 : k = 60
      · subst h6; exact ⟨rfl, by omega⟩
      · have : k = zs.length := by omega
        rw [List.take_of_length_le (by omega), List.take_of_length_le (by omega)]
        exact ⟨rfl, by omega⟩
    have FIN := Lib.hid fin
    clear fin
    by_cases hlt : k < len
    · by_cases h6 : k < 60
      · obtain ⟨b, off, rfl, hbl, hcell⟩ := H.out.2.resolve_left (by omega)
        have hc : wr.cell? ⟨b, off + k, none⟩ = some (.int .i64 (zs.getD k 0)) := (hB.cell (p := ⟨b, off + k, none⟩) hbl).trans (hcell k hlt)
        have hkl : k < zs.length := by have := H.out.1; omega
        have hwk := wf_bd (HWF.out (zs.getD k 0) (by simp [List.getD, List.getElem?_eq_getElem hkl]))
        have hst : (zs.take (k + 1)).map (rawF raw) = (zs.take k).map (rawF raw) ++ [rawF raw (zs.getD k 0)] := by
          rw [take_getD hkl, List.map_append]; rfl
        have HS := Lib.hid hst
        clear hst hcell FIN
        generalize zs.getD k 0 = z at *
        generalize hL : (zs.take k).map (rawF raw) = L at *
        have hLl : L.length = k := by rw [← hL, List.length_map, List.length_take]; omega
        have HLl := Lib.hid hLl
        clear hL hLl
        have HN : ∀ x : Int, Hid (Rd (wr.alloc (Obj.cells #[.int .i64 x] 3)) 1 (some ⟨wr.heap.size, 0, none⟩) 1 (ints [x])) := fun x => Lib.hid (ofInts (isInts_new wr 3 [x] (by simp [maxLen])))
        have HOa : ∀ x : Int, Hid ((wr.alloc (Obj.cells #[.int .i64 x] 3)).ownsRow w.heap.size 3 1 (.slice B k c) k (ints L)) := fun x => Lib.hid (HO.out.alloc _)
        have HBa : ∀ x : Int, Hid (Below w.heap.size w (wr.alloc (Obj.cells #[.int .i64 x] 3))) := fun x => Lib.hid (hB.alloc hB.size _)
        cases raw with
        | true =>
          go_wp2_with (first
            | (at_builtin; refine wpList_append_rd _ rfl (.tmp 26) (.tmp 28) 22 rfl w.heap.size 3 i0 (.int .i64 0) 1 8 Try.underlying22 hi0 hz0 hz1 hz2 rfl (by decide) _ k (ints L) rfl (HOa _).out _ 1 _ (ints [z]) rfl (fun e => by cases e) (HN _).out (ints_ones _) (by unfold maxLen; omega) (by omega) (HBa z).out.size ?_; intro B1 c1 w4 hown1 hgrow1 hat1; have Hb1 := Lib.hid ((HBa z).out.grown hgrow1 (HBa z).out.size (own_ge HO.out)); have Hown1 := Lib.hid hown1; clear hown1 hgrow1 hat1))
          go_roundw
          case rel =>
            refine ⟨k + 1, B1, c1, by omega, by omega, by go_num, rfl, ?_, Hb1.out⟩
            have e : ints (L ++ [rawF true z]) = ints L ++ ints [z] := List.map_append
            rw [HS.out, e]
            exact Hown1.out
          case measure => simp [intOf]; omega
        | false =>
          go_wp2_with (first
            | (go_at_call 11; refine (pick_any _ _ _ hwk.1 hwk.2 (by omega) (by omega)).mono ?_; rintro e w' ⟨rfl, rfl⟩)
            | (at_builtin; refine wpList_append_rd _ rfl (.tmp 26) (.tmp 28) 22 rfl w.heap.size 3 i0 (.int .i64 0) 1 8 Try.underlying22 hi0 hz0 hz1 hz2 rfl (by decide) _ k (ints L) rfl (HOa _).out _ 1 _ (ints [pickOf z 260]) rfl (fun e => by cases e) (HN _).out (ints_ones _) (by unfold maxLen; omega) (by omega) (HBa (pickOf z 260)).out.size ?_; intro B1 c1 w4 hown1 hgrow1 hat1; have Hb1 := Lib.hid ((HBa (pickOf z 260)).out.grown hgrow1 (HBa (pickOf z 260)).out.size (own_ge HO.out)); have Hown1 := Lib.hid hown1; clear hown1 hgrow1 hat1))
          go_roundw
          case rel =>
            refine ⟨k + 1, B1, c1, by omega, by omega, by go_num, rfl, ?_, Hb1.out⟩
            have e : ints (L ++ [rawF false z]) = ints L ++ ints [pickOf z 260] := List.map_append
            rw [HS.out, e]
            exact Hown1.out
          case measure => simp [intOf]; omega
      · go_wp2_with fail
        go_ret
        obtain ⟨f1, f2⟩ := FIN.out (by omega)
        rw [f1] at HO
        have o := HO.out
        rw [f2] at o
        have f := own_facts o
        exact ⟨B, c, by rw [← f2]; rfl, toInts (Rd.of_own o), f.1, f.2.1, f.2.2, hB⟩
    · have hd : decide (k < len) = false := by simpa using hlt
      go_wp2_with fail
      go_ret
      obtain ⟨f1, f2⟩ := FIN.out (by omega)
      rw [f1] at HO
      have o := HO.out
      rw [f2] at o
      have f := own_facts o
      exact ⟨B, c, by rw [← f2]; rfl, toInts (Rd.of_own o), f.1, f.2.1, f.2.2, hB⟩

/-! ### The reference -/
set_option maxHeartbeats 400000 in
theorem refStep_any (f s : Int) (w : World) :
    Calls Try.prog 15 #[.int .i64 f, .int .i64 s] w fun e w' => e = .returned (pairV (vstep f s)) ∧ w = w' := by
  have key := vstep_cases f s
  generalize vstep f s = r at key ⊢
  rcases key with ⟨rfl, k1⟩ | ⟨rfl, k0, k1⟩ | ⟨rfl, k0, k1, k2⟩ | ⟨rfl, k0, k1, k2, k3⟩ | ⟨rfl, k0, k1, k2, k3⟩ | ⟨rfl, k1, k2, k3, k4⟩ | ⟨rfl, k1, k2, k3, k4⟩
  all_goals
    go_enter Try.func15, Try.ntmps15
    go_wp2
    go_ret2
    exact ⟨rfl, rfl⟩

set_option maxHeartbeats 1000000 in
theorem refRun_any (f : Int) (a : Option Addr) (len cap : Nat) (zs : List Int) (w : World) (h : IsInts w a len zs) (hlen : len ≤ 9223372036854775807) :
    Calls Try.prog 13 #[.int .i64 f, .slice a len cap] w fun e w' => e = .returned (pairV (runOf f zs)) ∧ w = w' := by
  have H := Lib.hid h
  clear h
  by_cases hf0 : f < 0
  · have : runOf f zs = none := by unfold runOf; rw [if_pos (.inl hf0)]
    rw [this]
    clear this
    go_enter Try.func13, Try.ntmps13
    go_wp2_with fail
    go_ret2
    exact ⟨rfl, rfl⟩
  · by_cases hf1 : 1000 < f
    · have : runOf f zs = none := by unfold runOf; rw [if_pos (.inr hf1)]
      rw [this]
      clear this
      go_enter Try.func13, Try.ntmps13
      go_wp2_with fail
      go_ret2
      exact ⟨rfl, rfl⟩
    · have e0 : runOf f zs = vrun f zs := by unfold runOf; rw [if_neg (by omega)]
      rw [e0]
      clear e0
      have hb0 : 0 ≤ f ∧ f ≤ 1000 := by omega
      have d0 : decide (f < 0) = false := by simpa using hf0
      have d1 : decide (1000 < f) = false := by simpa using hf1
      go_enter Try.func13, Try.ntmps13
      go_wp2_with fail
      go_loop [0, 6] (fun x i => ∃ (k : Nat) (g : Int), k ≤ len ∧ i = .int .i64 k ∧ x = .int .i64 g ∧ (0 ≤ g ∧ g ≤ 1000) ∧ vrun f (zs.take k) = some g) (fun _ i => len - (intOf i).toNat)
      case atStart => exact ⟨0, f, Nat.zero_le _, rfl, rfl, hb0, rfl⟩
      case round =>
        obtain ⟨k, g, hk, rfl, rfl, hg, hrun⟩ := hrel
        have HR := Lib.hid hrun
        clear hrun
        by_cases hlt : k < len
        · obtain ⟨b, off, rfl, hbl, hcell⟩ := H.out.2.resolve_left (by omega)
          have hc := hcell k hlt
          have hkl : k < zs.length := by have := H.out.1; omega
          have hsn : vrun f (zs.take (k + 1)) = vstep g (zs.getD k 0) := by
            rw [take_getD hkl, vrun_snoc, HR.out]; rfl
          have HS := Lib.hid hsn
          clear hsn hcell
          generalize zs.getD k 0 = s at *
          cases hv : vstep g s with
          | none =>
            have hfin : vrun f zs = none := by
              have e1 := HS.out
              rw [hv] at e1
              have := vrun_none_append (zs.drop (k + 1)) e1
              rwa [List.take_append_drop] at this
            have HF := Lib.hid hfin
            have HV := Lib.hid hv
            clear hfin hv HS
            go_wp2_with (go_at_call 15; refine (refStep_any _ _ _).mono ?_; rintro e w' ⟨rfl, rfl⟩; rw [HV.out]; unfold pairV)
            go_ret2
            exact ⟨by rw [HF.out]; rfl, rfl⟩
          | some y =>
            have hy := vstep_bd hv
            have HV := Lib.hid hv
            rw [hv] at HS
            clear hv
            have hy2 : 0 ≤ y ∧ y ≤ 1000 := ⟨by omega, by omega⟩
            clear hy
            go_wp2_with (go_at_call 15; refine (refStep_any _ _ _).mono ?_; rintro e w' ⟨rfl, rfl⟩; rw [HV.out]; unfold pairV)
            go_round
            case rel => exact ⟨k + 1, y, by omega, by go_num, rfl, hy2, HS.out⟩
            case measure => simp [intOf]; omega
        · have hz : zs.take k = zs := List.take_of_length_le (by have := H.out.1; omega)
          rw [hz] at HR
          clear hz
          go_wp2_with fail
          go_ret2
          exact ⟨by rw [HR.out]; rfl, rfl⟩

theorem refConf_any (a : Option Addr) (len cap : Nat) (zs : List Int) (w : World) (h : IsInts w a len zs) (hlen : len ≤ 9223372036854775807) :
    Calls Try.prog 21 #[.slice a len cap] w fun e w' => e = .returned (.bool (confOf zs)) ∧ w = w' := by
  have H := Lib.hid h
  clear h
  cases hv : vrun 500 zs with
  | none =>
    have HV := Lib.hid ((runOf_500 zs).trans hv)
    have HC : Hid (confOf zs = false) := Lib.hid (by unfold confOf; rw [hv])
    clear hv
    go_enter Try.func21, Try.ntmps21
    go_wp2_with (go_at_call 13; refine (refRun_any _ _ _ _ zs _ H.out hlen).mono ?_; rintro e w' ⟨rfl, rfl⟩; rw [HV.out]; unfold pairV)
    go_ret
    exact ⟨by rw [HC.out]; rfl, rfl⟩
  | some g =>
    have HV := Lib.hid ((runOf_500 zs).trans hv)
    have HC : Hid (confOf zs = decide (500 ≤ g)) := Lib.hid (by unfold confOf; rw [hv])
    clear hv
    go_enter Try.func21, Try.ntmps21
    go_wp2_with (go_at_call 13; refine (refRun_any _ _ _ _ zs _ H.out hlen).mono ?_; rintro e w' ⟨rfl, rfl⟩; rw [HV.out]; unfold pairV)
    go_ret
    exact ⟨by rw [HC.out]; rfl, rfl⟩

/-- What the reference's search finds. -/
theorem need_found (zs : List Int) (k : Nat) (hk : k ≤ 1000) (hno : ∀ j : Nat, j < k → (vrun j zs).isSome = false) :
    ((vrun k zs).isSome = true → needOf zs = some (k : Int)) := by
  intro h
  obtain ⟨n, hn, hle⟩ := (need_law zs k (by omega) (by omega)).1 h
  have hb := needOf_bd hn
  rw [hn]
  congr 1
  by_cases he : n = k
  · exact he
  · have h2 := hno n.toNat (by omega)
    have h3 := (need_law zs n (by omega) (by omega)).2 ⟨n, hn, Int.le_refl _⟩
    rw [show (n.toNat : Int) = n by omega] at h2
    rw [h2] at h3
    cases h3
theorem need_not_found (zs : List Int) (hno : ∀ j : Nat, j < 1001 → (vrun j zs).isSome = false) : needOf zs = none := by
  cases hn : needOf zs with
  | none => rfl
  | some n =>
    have hb := needOf_bd hn
    have h2 := hno n.toNat (by omega)
    have h3 := (need_law zs n (by omega) (by omega)).2 ⟨n, hn, Int.le_refl _⟩
    rw [show (n.toNat : Int) = n by omega] at h2
    rw [h2] at h3
    cases h3

set_option maxHeartbeats 1000000 in
theorem refNeed_any (a : Option Addr) (len cap : Nat) (zs : List Int) (w : World) (h : IsInts w a len zs) (hlen : len ≤ 9223372036854775807) :
    Calls Try.prog 17 #[.slice a len cap] w fun e w' => e = .returned (pairV (needOf zs)) ∧ w = w' := by
  have H := Lib.hid h
  clear h
  go_enter Try.func17, Try.ntmps17
  go_wp2_with fail
  go_loop [4] (fun i => ∃ k : Nat, k ≤ 1001 ∧ i = .int .i64 k ∧ ∀ j : Nat, j < k → (vrun j zs).isSome = false) (fun i => 1001 - (intOf i).toNat)
  case atStart => exact ⟨0, by omega, rfl, fun j hj => by omega⟩
  case round =>
    obtain ⟨k, hk, rfl, hno⟩ := hrel
    have HNo := Lib.hid hno
    clear hno
    by_cases hlt : k ≤ 1000
    · have hro : runOf k zs = vrun k zs := by unfold runOf; rw [if_neg (by omega)]
      cases hv : vrun k zs with
      | none =>
        have HV := Lib.hid (hro.trans hv)
        have HNo2 : Hid (∀ j : Nat, j < k + 1 → (vrun j zs).isSome = false) := Lib.hid (fun j hj => by
          by_cases e : j = k
          · rw [e, hv]; rfl
          · exact HNo.out j (by omega))
        clear hv hro
        go_wp2_with (go_at_call 13; refine (refRun_any _ _ _ _ zs _ H.out hlen).mono ?_; rintro e w' ⟨rfl, rfl⟩; rw [HV.out]; unfold pairV)
        go_round
        case rel => exact ⟨k + 1, by omega, by go_num, HNo2.out⟩
        case measure => simp [intOf]; omega
      | some g =>
        have HV := Lib.hid (hro.trans hv)
        have HF := Lib.hid (need_found zs k hlt HNo.out (by rw [hv]; rfl))
        clear hv hro
        go_wp2_with (go_at_call 13; refine (refRun_any _ _ _ _ zs _ H.out hlen).mono ?_; rintro e w' ⟨rfl, rfl⟩; rw [HV.out]; unfold pairV)
        go_ret2
        exact ⟨by rw [HF.out]; rfl, rfl⟩
    · have hk1 : k = 1001 := by omega
      have HF := Lib.hid (need_not_found zs (fun j hj => HNo.out j (by omega)))
      clear hk1
      go_wp2_with fail
      go_ret2
      exact ⟨by rw [HF.out]; rfl, rfl⟩

set_option maxHeartbeats 1000000 in
theorem refExits_any (a : Option Addr) (len cap : Nat) (zs : List Int) (w : World) (h : IsInts w a len zs) (hlen : len ≤ 1000000) (hcap : len ≤ cap) :
    Calls Try.prog 19 #[.slice a len cap] w (RetInts (exitsOf zs) w) := by
  have H := Lib.hid h
  clear h
  obtain ⟨i0, hi0, hz0, hz1, hz2⟩ := info_parts infoInt
  go_enter Try.func19, Try.ntmps19
  go_wp2_with fail
  go_loopw [3, 4] (fun v i wr => ∃ (k : Nat) (B : Option Addr) (c : Nat), k ≤ len + 1 ∧ i = .int .i64 k ∧ v = .slice B (exitsTo zs k).length c ∧ wr.ownsRow w.heap.size 3 1 (.slice B (exitsTo zs k).length c) (exitsTo zs k).length (ints (exitsTo zs k)) ∧ Below w.heap.size w wr) (fun _ i _ => len + 1 - (intOf i).toNat)
  case atStart => exact ⟨0, none, 0, Nat.zero_le _, rfl, rfl, World.ownsRow_nil _ _ _ _, Below.refl _ _⟩
  case round =>
    obtain ⟨k, B, c, hk, rfl, rfl, hown, hB⟩ := hrel
    have HO := Lib.hid hown
    clear hown
    have hlen2 := exitsTo_len zs k
    have HE := Lib.hid (exitsTo_succ zs k)
    by_cases hlt : k ≤ len
    · have HI := Lib.hid (toInts (take1 (ofInts (H.out.below hB)) hlt))
      have hkc : k ≤ cap := by omega
      have hkl : k ≤ 9223372036854775807 := by omega
      generalize hL : exitsTo zs k = L at *
      have HL := Lib.hid hL
      clear hL
      cases hcf : confOf (zs.take k) with
      | true =>
        have HCF := Lib.hid hcf
        have HE2 : Hid (exitsTo zs (k + 1) = L ++ [(k : Int)]) := Lib.hid (by rw [HE.out, hcf]; rfl)
        clear hcf HE
        have HN : Hid (Rd (wr.alloc (Obj.cells #[.int .i64 (k : Int)] 3)) 1 (some ⟨wr.heap.size, 0, none⟩) 1 (ints [(k : Int)])) := Lib.hid (ofInts (isInts_new wr 3 [(k : Int)] (by simp [maxLen])))
        have HOa := Lib.hid (HO.out.alloc (Obj.cells #[.int .i64 (k : Int)] 3))
        have HBa := Lib.hid (hB.alloc hB.size (Obj.cells #[.int .i64 (k : Int)] 3))
        go_wp2_with (first
          | (go_at_call 21; refine (refConf_any _ _ _ _ _ HI.out hkl).mono ?_; rintro e w' ⟨rfl, rfl⟩; rw [HCF.out])
          | (at_builtin; refine wpList_append_rd (wr.alloc (Obj.cells #[.int .i64 (k : Int)] 3)) rfl (.tmp 17) (.tmp 19) 22 rfl w.heap.size 3 i0 (.int .i64 0) 1 8 Try.underlying22 hi0 hz0 hz1 hz2 rfl (by decide) _ L.length (ints L) rfl HOa.out _ 1 _ (ints [(k : Int)]) rfl (fun e => by cases e) HN.out (ints_ones _) (by unfold maxLen; omega) (by omega) HBa.out.size ?_; intro B1 c1 w4 hown1 hgrow1 hat1; have Hb1 := Lib.hid (HBa.out.grown hgrow1 HBa.out.size (own_ge HOa.out)); have Hown1 := Lib.hid hown1; clear hown1 hgrow1 hat1))
        have hLn : L.length + 1 = (exitsTo zs (k + 1)).length := by rw [HE2.out]; simp
        rw [hLn]
        go_roundw
        case rel =>
          refine ⟨k + 1, B1, c1, by omega, by go_num, rfl, ?_, Hb1.out⟩
          have := Hown1.out
          rw [hLn] at this
          rw [HE2.out] at this ⊢
          have e : ints (L ++ [(k : Int)]) = ints L ++ ints [(k : Int)] := List.map_append
          rw [e]
          exact this
        case measure => simp [intOf]; omega
      | false =>
        have HCF := Lib.hid hcf
        have HE2 : Hid (exitsTo zs (k + 1) = L) := Lib.hid (by rw [HE.out, hcf]; simp)
        clear hcf HE
        go_wp2_with (go_at_call 21; refine (refConf_any _ _ _ _ _ HI.out hkl).mono ?_; rintro e w' ⟨rfl, rfl⟩; rw [HCF.out])
        rw [← HE2.out]
        go_roundw
        case rel => exact ⟨k + 1, B, c, by omega, by go_num, rfl, by rw [HE2.out]; exact HO.out, hB⟩
        case measure => simp [intOf]; omega
    · have hf : exitsTo zs k = exitsOf zs := by
        unfold exitsOf; rw [show k = zs.length + 1 by have := H.out.1; omega]
      have HF := Lib.hid hf
      clear hf HE
      go_wp2_with fail
      go_ret
      rw [HF.out] at HO ⊢
      have f := own_facts HO.out
      exact ⟨B, c, rfl, toInts (Rd.of_own HO.out), f.1, f.2.1, f.2.2, hB⟩
end Go.Proofs.Ytbiniebonjcekaa
