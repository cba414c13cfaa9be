/- Contract of mayFollow. -/
import Derived.Test.YtpaepefpfaoacaaSpF
namespace Go.Proofs.Ytpaepefpfaoacaa
open Go.ChangeShapes Go.WideShapes Go.ChangeAt Go.RowKit
set_option linter.unusedVariables false

inductive Way where
  | cont
  | ent
def Way.val (b : Nat) : Way → Value
  | .cont => .func (.func 42) #[.pointer (some ⟨b, 0, none⟩)] #[]
  | .ent => .func (.func 43) #[.pointer (some ⟨b, 0, none⟩)] #[]
def Way.ok (st : List AstA) (s : Sp) (p : P5) : Way → Bool
  | .cont => contP s.last p
  | .ent => entersP st s.full p
def mayP (st : List AstA) (s : Sp) (p : P5) (ways : List Way) : Bool := (vstep s.full p.size).isSome && ways.any (Way.ok st s p)
theorem Box.drewN {w : World} {b : Nat} {t : TypeId} {vs : Array Value} (h : Box w b t vs) (n : Nat) : Box (w.drewN n) b t vs := h.next (below_drewN (Below.refl _ _) n)
theorem vbvStep_t (f s : Int) (w : World) :
    Calls Try.prog 45 #[.int .i64 f, .int .i64 s] w fun e w' => e = .returned (.tuple #[.int .i64 ((vstep f s).getD 0), .bool (vstep f s).isSome]) ∧ w' = w := (vbvStep_any f s w).mono fun _ _ ⟨a, b⟩ => ⟨a, b.symm⟩
set_option maxRecDepth 100000 in
set_option maxHeartbeats 2000000 in
theorem may_any (b : Nat) (k : SpK) (s : Sp) (p : P5) (ways : List Way) (A : Option Addr) (n c : Nat) (w : World) (h : SpOk w b k s) (hw : Rd w 1 A n (ways.map (Way.val b))) (hm : n ≤ 9223372036854775807) (h1 : -9223372036854775808 ≤ s.last.index) (h2 : p.index ≤ 9223372036854775807) :
    Calls Try.prog 41 #[.pointer (some ⟨b, 0, none⟩), p.val, .slice A n c] w fun e w' => e = .returned (.bool (mayP k.store s p ways)) ∧ Below w.heap.size w w' := by
  have HS := Lib.hid h
  obtain ⟨⟨NA, nc, hx, _, _⟩, _⟩ := h
  have c0 : w.cell? ⟨b, 0, none⟩ = some (.int .i64 s.full) := hx.cell (i := 0) rfl
  have hlt := hx.lt
  clear hx
  have hl : ways.length = n := by simpa using hw.1
  have HW := Lib.hid hw
  clear hw
  obtain ⟨it, ix, sz, ky, al⟩ := p
  simp only at h2
  have b0 := Lib.hid (balloc w (.cells #[.int .i64 it, .int .i64 ix, .int .i64 sz, .bool ky, .bool al] 71))
  have X0 := Lib.hid (Box.new w 71 #[.int .i64 it, .int .i64 ix, .int .i64 sz, .bool ky, .bool al])
  have hne : b ≠ w.heap.size := by omega
  have HL := Lib.hid hl
  clear hl
  go_enter Try.func41, Try.ntmps41
  go_upto_region 1 with (fail)
  go_quiet ((go_at_call 45; exact Calls.quiet_of_same (vbvStep_t _ _ _)))
  cases hv : vstep s.full sz with
  | none =>
    have HV := Lib.hid hv
    clear hv
    go_wp2_with fail
    go_ret
    exact ⟨by simp [mayP, HV.out], below_drewN b0.out _⟩
  | some g =>
    have HV : Hid (mayP k.store s ⟨it, ix, sz, ky, al⟩ ways = ways.any (Way.ok k.store s ⟨it, ix, sz, ky, al⟩)) := Lib.hid (by simp [mayP, hv])
    clear hv
    simp only [Option.getD_some, Option.isSome_some]
    go_wp2_with fail
    go_loopw [26] (fun i wr => ∃ (j : Nat), j ≤ n ∧ i = .int .i64 j ∧ ways.any (Way.ok k.store s ⟨it, ix, sz, ky, al⟩) = (ways.drop j).any (Way.ok k.store s ⟨it, ix, sz, ky, al⟩) ∧ Below w.heap.size w wr ∧ Box wr w.heap.size 71 #[.int .i64 it, .int .i64 ix, .int .i64 sz, .bool ky, .bool al]) (fun i _ => n - (intOf i).toNat)
    case atStart => exact ⟨0, Nat.zero_le _, rfl, rfl, below_drewN b0.out _, X0.out.drewN _⟩
    case round =>
      obtain ⟨j, hj, rfl, hst, hB, hX⟩ := hrel
      have HST := Lib.hid hst
      have HX := Lib.hid hX
      have q0 := hX.cell (i := 0) rfl
      have q1 := hX.cell (i := 1) rfl
      have q2 := hX.cell (i := 2) rfl
      have q3 := hX.cell (i := 3) rfl
      have q4 := hX.cell (i := 4) rfl
      have hlx := hX.lt
      clear hst hX
      by_cases hlt : j < n
      · obtain ⟨b', off, v, rfl, hbl, hv, ca⟩ := (HW.out.below hB).cell hlt
        rw [drop_at (d := .cont) (by have := HL.out; omega)] at HST
        have hv' : v = (ways.getD j .cont).val b := by
          rw [List.getElem?_map, List.getElem?_eq_getElem (by have := HL.out; omega)] at hv
          simp only [Option.map_some, Option.some.injEq] at hv
          rw [← hv]; simp [List.getD, List.getElem?_eq_getElem (show j < ways.length by have := HL.out; omega)]
        subst hv'
        clear hv
        have HS' := Lib.hid (HS.out.below hB)
        generalize ways.getD j .cont = y at *
        cases y with
        | cont =>
          have HC := Lib.hid (cont_any b k s ⟨it, ix, sz, ky, al⟩ wr HS'.out h1 h2)
          simp only [Way.val] at ca
          cases hr : contP s.last ⟨it, ix, sz, ky, al⟩ with
          | true =>
            rw [hr] at HC
            have HR := Lib.hid hr
            clear hr
            go_wp2_with (go_at_call 42; refine HC.out.mono ?_; rintro e w2 ⟨rfl, b2⟩)
            go_ret
            exact ⟨by rw [HV.out, HST.out]; simp [Way.ok, HR.out], bnext hB b2⟩
          | false =>
            rw [hr] at HC
            have HR := Lib.hid hr
            clear hr
            go_wp2_with (go_at_call 42; refine HC.out.mono ?_; rintro e w2 ⟨rfl, b2⟩)
            go_roundw
            case rel => exact ⟨j + 1, by omega, by go_num, by rw [HST.out]; simp [Way.ok, HR.out], bnext hB b2, HX.out.next b2⟩
            case measure => simp [intOf]; omega
        | ent =>
          have HC := Lib.hid (enters_any b k s ⟨it, ix, sz, ky, al⟩ wr HS'.out)
          simp only [Way.val] at ca
          cases hr : entersP k.store s.full ⟨it, ix, sz, ky, al⟩ with
          | true =>
            rw [hr] at HC
            have HR := Lib.hid hr
            clear hr
            go_wp2_with (go_at_call 43; refine HC.out.mono ?_; rintro e w2 ⟨rfl, b2⟩)
            go_ret
            exact ⟨by rw [HV.out, HST.out]; simp [Way.ok, HR.out], bnext hB b2⟩
          | false =>
            rw [hr] at HC
            have HR := Lib.hid hr
            clear hr
            go_wp2_with (go_at_call 43; refine HC.out.mono ?_; rintro e w2 ⟨rfl, b2⟩)
            go_roundw
            case rel => exact ⟨j + 1, by omega, by go_num, by rw [HST.out]; simp [Way.ok, HR.out], bnext hB b2, HX.out.next b2⟩
            case measure => simp [intOf]; omega
      · go_wp2_with fail
        go_ret
        exact ⟨by rw [HV.out, HST.out, List.drop_of_length_le (by have := HL.out; omega)]; rfl, hB⟩
end Go.Proofs.Ytpaepefpfaoacaa
