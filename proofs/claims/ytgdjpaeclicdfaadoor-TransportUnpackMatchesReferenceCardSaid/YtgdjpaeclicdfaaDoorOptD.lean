/- Contracts of optout's own and Encode. -/
import Derived.Test.YtgdjpaeclicdfaaDoorOptA
import Derived.Test.YtgdjpaeclicdfaaDoorOptB
import Derived.Handy
namespace Go.Proofs.YtgdjpaeclicdfaaDoor
open Go.ChangeShapes Go.WideShapes Go.ChangeAt Go.RowKit
set_option linter.unusedVariables false

theorem pairs_ones (al : Alts) : ∀ u ∈ pairs al, u.oneCell' = true := by
  intro u hu
  simp only [List.mem_flatMap] at hu
  obtain ⟨a, _, hu⟩ := hu
  simp only [List.mem_cons, List.not_mem_nil, or_false] at hu
  rcases hu with rfl | rfl <;> rfl
theorem ret_opt {fn : Func} {R : Ending → World → Prop} {a : Act} {w : World} {p : Tmp} {b : Nat} {t : TypeId} {v0 v1 v2 : Value} (hr : fn.results = #[.cell p 26]) (hp : a.tmps.getD p undef = .pointer (some ⟨b, 0, none⟩))
    (hb : Box w b t #[v0, v1, v2]) (hd : a.defers = []) (h : R (.returned (.agg #[v0, v1, v2])) w) : bodyPost Tryd.prog fn R .ret a w := by
  have c0 := hb.cell (i := 0) rfl
  have c1 := hb.cell (i := 1) rfl
  have c2 := hb.cell (i := 2) rfl
  refine bodyPost_ret (v := .agg #[v0, v1, v2]) ?_ hd h
  rw [Array.getD_eq_getD_getElem?] at hp
  simp [results, hr, hp, go_sem, c0, c1, c2]
theorem infoAlt : (Tryd.prog.info? 103).map (fun i => (i.zero, i.size, i.bytes)) = some (some (.agg #[.int .i64 0, .int .i64 0]), 2, 16) := by kernel_rfl

/-- A call that returns an opt-out whose alternatives are new, and changes nothing that was there. -/
def RetOpt (s f : Int) (al : Alts) (w : World) (e : Ending) (w' : World) : Prop :=
  ∃ B c, e = .returned (optV s f B al.length c) ∧ IsAlts w' B al.length al ∧ al.length ≤ c ∧ c ≤ maxLen ∧ (B = none → c = 0) ∧ Below w.heap.size w w' ∧ (∀ b off, B = some ⟨b, off, none⟩ → w.heap.size ≤ b)
theorem own_base {w : World} {base : Nat} {t : TypeId} {size n c : Nat} {B : Option Addr} {xs : List Value} (h : w.ownsRow base t size (.slice B n c) n xs) : ∀ b off, B = some ⟨b, off, none⟩ → base ≤ b := by
  intro b off hb
  rcases h.2 with ⟨h2, _⟩ | ⟨g, cap, cur, hv, hg, _⟩
  · cases h2; cases hb
  · cases hv; cases hb; exact hg

theorem bytes_append (a b : List UInt8) : (⟨(a ++ b).toArray⟩ : ByteArray) = ⟨a.toArray⟩ ++ ⟨b.toArray⟩ := by
  apply ByteArray.ext
  simp [ByteArray.data_append]
def flatA (al : Alts) : List Int := al.flatMap fun a => [a.1, a.2]
def encOpt (s f : Int) (al : Alts) : List UInt8 := encInts ([s, f, (al.length : Int)] ++ flatA al)
def encV (s f : Int) (al : Alts) : Value :=
  if validP s f al = true then .tuple #[.string ⟨(encOpt s f al).toArray⟩, .int .i64 0] else .tuple #[.string ⟨#[]⟩, .int .i64 170]
theorem flatA_take {al : Alts} {k : Nat} (hk : k < al.length) : flatA (al.take (k + 1)) = flatA (al.take k) ++ [(al.getD k (0, 0)).1, (al.getD k (0, 0)).2] := by
  rw [List.take_succ_eq_append_getElem hk]
  simp only [flatA, List.flatMap_append, List.flatMap_cons, List.flatMap_nil, List.append_nil, List.getD, List.getElem?_eq_getElem hk, Option.getD_some]
theorem encInts_append (a b : List Int) : encInts (a ++ b) = encInts a ++ encInts b := by simp [encInts]
theorem altsOk_mem {al : Alts} : ∀ {last : Int}, 0 ≤ last → altsOk last al = true → ∀ a ∈ al, (0 ≤ a.1 ∧ a.1 ≤ 7) ∧ 1 ≤ a.2 ∧ a.2 ≤ 1000000 := by
  induction al with
  | nil => simp
  | cons a al ih =>
    intro last hl h b hb
    simp only [altsOk, altBad, Bool.and_eq_true, Bool.not_eq_true', Bool.or_eq_false_iff, decide_eq_false_iff_not] at h
    obtain ⟨⟨h1, h2, h3, h4⟩, h5⟩ := h
    simp only [List.mem_cons] at hb
    rcases hb with rfl | hb
    · omega
    · exact ih (by omega) h5 b hb
theorem valid_facts {s f : Int} {al : Alts} (h : validP s f al = true) : (0 ≤ s ∧ s ≤ 100000000) ∧ (0 ≤ f ∧ f ≤ 100000000) ∧ al.length ≤ 7 ∧ ∀ a ∈ al, (0 ≤ a.1 ∧ a.1 ≤ 7) ∧ 1 ≤ a.2 ∧ a.2 ≤ 1000000 := by
  unfold validP at h
  by_cases hn : noneP s f al = true
  · simp [noneP] at hn
    obtain ⟨rfl, rfl, rfl⟩ := hn
    simp
  · have hn' : noneP s f al = false := by simpa using hn
    simp only [hn', Bool.false_or, Bool.and_eq_true, Bool.not_eq_true', spanBad, Bool.or_eq_false_iff, decide_eq_false_iff_not] at h
    obtain ⟨⟨h1, h2, h3, h4⟩, ⟨h5, h6⟩, h7⟩ := h
    exact ⟨by omega, by omega, by omega, altsOk_mem (Int.le_refl _) h7⟩

set_option maxRecDepth 100000 in
set_option maxHeartbeats 2000000 in
theorem encode_any (s f : Int) (A : Option Addr) (n c : Nat) (al : Alts) (w : World) (h : IsAlts w A n al) :
    Calls Tryd.prog 76 #[optV s f A n c] w fun e w' => e = .returned (encV s f al) ∧ Below w.heap.size w w' := by
  have b0 := balloc w (.cells #[.int .i64 s, .int .i64 f, .slice A n c] 26)
  have hB := Lib.hid b0
  have H := Lib.hid h
  have hl := h.1
  have Hx1 := Lib.hid (Box.new w 26 #[.int .i64 s, .int .i64 f, .slice A n c])
  clear h b0
  go_enter Tryd.func76, Tryd.ntmps76
  go_wp2_with fail
  refine (valid_any s f A n c al _ (H.out.below hB.out)).mono ?_
  rintro e w1 ⟨rfl, b1⟩
  have B1 := Lib.hid (bnext hB.out b1)
  by_cases hv : validP s f al = true
  · obtain ⟨hs, hf, hn, hal⟩ := valid_facts hv
    have HAL := Lib.hid hal
    have HV : Hid (encV s f al = .tuple #[.string ⟨(encOpt s f al).toArray⟩, .int .i64 0]) := Lib.hid (by simp [encV, hv])
    have hb1 := Hx1.out.next b1
    have c0 := hb1.cell (i := 0) rfl
    have c1 := hb1.cell (i := 1) rfl
    have c2 := hb1.cell (i := 2) rfl
    have HNW := Lib.hid (isInts_new w1 3 [s, f, (n : Int)] (by unfold maxLen; simp))
    clear hal hb1
    go_wp2_with fail
    refine (put_any _ 3 3 [s, f, (n : Int)] _ HNW.out (by omega) (by unfold wmax; simp; omega)).mono ?_
    rintro e w2 ⟨rfl, b2⟩
    have B2 := Lib.hid (bnew B1.out b2)
    have hb2 := (Hx1.out.next b1).below ((balloc w1 _).trans (b2.mono (by simp))) (Hx1.out.next b1).lt
    have c0 := hb2.cell (i := 0) rfl
    have c1 := hb2.cell (i := 1) rfl
    have c2 := hb2.cell (i := 2) rfl
    clear hb2
    go_wp2_with fail
    go_loopw [4, 22] (fun o i wr => ∃ (k : Nat), k ≤ n ∧ i = .int .i64 k ∧ o = .string ⟨(encInts ([s, f, (n : Int)] ++ flatA (al.take k))).toArray⟩ ∧ Below w.heap.size w wr) (fun _ i _ => n - (intOf i).toNat)
    case atStart => exact ⟨0, Nat.zero_le _, rfl, by simp [flatA], B2.out⟩
    case round =>
      obtain ⟨k, hk, rfl, rfl, hBr⟩ := hrel
      by_cases hlt : k < n
      · obtain ⟨b, off, rfl, hbl, ca, cb⟩ := (H.out.below hBr).at_ hlt
        have hm : al.getD k (0, 0) ∈ al := by simp [List.getD, List.getElem?_eq_getElem (show k < al.length by omega)]
        obtain ⟨q1, q2⟩ := HAL.out _ hm
        have HST := Lib.hid (flatA_take (show k < al.length by omega))
        have hle := encInts_len ([s, f, (n : Int)] ++ flatA (al.take k))
        clear hm
        generalize al.getD k (0, 0) = a at *
        obtain ⟨r, i⟩ := a
        simp only at ca cb q1 q2 HST
        have HNW : Hid (IsInts ((wr.alloc (.cells #[.int .i64 r, .int .i64 i] 103)).alloc (.cells #[.int .i64 r, .int .i64 i] 3)) (some ⟨wr.heap.size + 1, 0, none⟩) 2 [r, i]) := by
          have := isInts_new (wr.alloc (.cells #[.int .i64 r, .int .i64 i] 103)) 3 [r, i] (by unfold maxLen; simp)
          exact Lib.hid (by simpa using this)
        have HW : Hid (∀ z ∈ [r, i], -wmax ≤ z ∧ z ≤ wmax) := Lib.hid (by unfold wmax; simp; omega)
        have HST2 : Hid (encInts ([s, f, (n : Int)] ++ flatA (al.take (k + 1))) = encInts ([s, f, (n : Int)] ++ flatA (al.take k)) ++ encInts [r, i]) := Lib.hid (by rw [HST.out, ← List.append_assoc, encInts_append _ [r, i]])
        have hl4 : (flatA (al.take k)).length ≤ 14 := by
          have h1 : ∀ l : Alts, (flatA l).length = 2 * l.length := by
            intro l
            induction l with
            | nil => rfl
            | cons a l ih => simp only [flatA, List.flatMap_cons, List.length_append, List.length_cons, List.length_nil] at *; omega
          have := h1 (al.take k)
          have := List.length_take_le k al
          omega
        simp only [List.length_append, List.length_cons, List.length_nil] at hle
        clear HST
        generalize encInts ([s, f, (n : Int)] ++ flatA (al.take k)) = E at *
        have hl5 := encInts_len [r, i]
        simp only [List.length_cons, List.length_nil] at hl5
        go_wp2_with fail
        refine (put_any (some ⟨wr.heap.size + 1, 0, none⟩) 2 2 [r, i] _ HNW.out (by decide) HW.out).mono ?_
        rintro e w3 ⟨rfl, b3⟩
        have B3 := Lib.hid (bnew (hBr.alloc hBr.size _) b3)
        generalize encInts [r, i] = F at *
        go_wp2_with fail
        go_roundw
        case rel =>
          refine ⟨k + 1, by omega, by go_num, ?_, B3.out⟩
          rw [HST2.out, bytes_append]
        case measure => simp [intOf]; omega
      · have ht : al.take k = al := List.take_of_length_le (by omega)
        rw [ht]
        go_wp2_with fail
        go_ret2
        exact ⟨by rw [HV.out]; simp [encOpt, hl], hBr⟩
  · have hv' : validP s f al = false := by simpa using hv
    rw [hv']
    go_wp2_with fail
    go_ret2
    exact ⟨by simp [encV, hv'], B1.out⟩
end Go.Proofs.YtgdjpaeclicdfaaDoor
