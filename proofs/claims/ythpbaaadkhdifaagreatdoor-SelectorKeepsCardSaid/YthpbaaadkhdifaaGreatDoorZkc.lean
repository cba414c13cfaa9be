/- Part 3 of the proofs: OptD, OptF, OptG, TrB, BldF, OptC, OptRefT, TrD, TrE, TrF, TrG, TrH. -/
import Derived.Handy
import Derived.Lib.FrozenHead
import Derived.Shelf.Strings.BuilderK
import Derived.Deep.QuietTactic
import Derived.BigQuiet
import Derived.Laws.StructEq
import Derived.Test.YthpbaaadkhdifaaGreatDoorZkb
namespace Go.Proofs.YthpbaaadkhdifaaGreatDoor
set_option maxRecDepth 100000
set_option maxHeartbeats 4000000
open Go.ChangeShapes Go.WideShapes Go.ChangeAt Go.RowKit
set_option linter.unusedVariables false
theorem pairs_ones (al : Alts) : ∀ u ∈ pairs al, u.oneCell' = true := by
  intro u hu
  simp only [List.mem_flatMap] at hu
  obtain ⟨a, _, hu⟩ := hu
  simp only [List.mem_cons, List.not_mem_nil, or_false] at hu
  rcases hu with rfl | rfl <;> rfl
theorem ret_opt {fn : Func} {R : Ending → World → Prop} {a : Act} {w : World} {p : Tmp} {b : Nat} {t : TypeId} {v0 v1 v2 : Value} (hr : fn.results = #[.cell p 74]) (hp : a.tmps.getD p undef = .pointer (some ⟨b, 0, none⟩))
    (hb : Box w b t #[v0, v1, v2]) (hd : a.defers = []) (h : R (.returned (.agg #[v0, v1, v2])) w) : bodyPost Tryz.prog fn R .ret a w := by
  have c0 := hb.cell (i := 0) rfl
  have c1 := hb.cell (i := 1) rfl
  have c2 := hb.cell (i := 2) rfl
  refine bodyPost_ret (v := .agg #[v0, v1, v2]) ?_ hd h
  rw [Array.getD_eq_getD_getElem?] at hp
  simp [results, hr, hp, go_sem, c0, c1, c2]
theorem infoAlt : (Tryz.prog.info? 189).map (fun i => (i.zero, i.size, i.bytes)) = some (some (.agg #[.int .i64 0, .int .i64 0]), 2, 16) := by kernel_rfl
def RetOpt (s f : Int) (al : Alts) (w : World) (e : Ending) (w' : World) : Prop :=
  ∃ B c, e = .returned (optV s f B al.length c) ∧ IsAlts w' B al.length al ∧ al.length ≤ c ∧ c ≤ maxLen ∧ (B = none → c = 0) ∧ Below w.heap.size w w' ∧ (∀ b off, B = some ⟨b, off, none⟩ → w.heap.size ≤ b)
theorem own_base {w : World} {base : Nat} {t : TypeId} {size n c : Nat} {B : Option Addr} {xs : List Value} (h : w.ownsRow base t size (.slice B n c) n xs) : ∀ b off, B = some ⟨b, off, none⟩ → base ≤ b := by
  intro b off hb
  rcases h.2 with ⟨h2, _⟩ | ⟨g, cap, cur, hv, hg, _⟩
  · cases h2; cases hb
  · cases hv; cases hb; exact hg
set_option maxRecDepth 100000 in
set_option maxHeartbeats 2000000 in
theorem own_any (s f : Int) (A : Option Addr) (n c : Nat) (al : Alts) (w : World) (h : IsAlts w A n al) (hn : n ≤ 7) (hA : A = none → n = 0 ∧ c = 0) :
    Calls Tryz.prog 102 #[optV s f A n c] w (RetOpt s f al w) := by
  obtain ⟨i0, hi0, hz0, hz1, hz2⟩ : ∃ i, Tryz.prog.info? 189 = some i ∧ i.zero = some (.agg #[.int .i64 0, .int .i64 0]) ∧ i.size = 2 ∧ i.bytes = 16 := by
    have := infoAlt
    cases hi : Tryz.prog.info? 189 with
    | none => rw [hi] at this; cases this
    | some i => rw [hi] at this; simp at this; exact ⟨i, rfl, this.1, this.2.1, this.2.2⟩
  have b0 := balloc w (.cells #[.int .i64 s, .int .i64 f, .slice A n c] 74)
  have hB := Lib.hid (b0.alloc b0.size (.cells #[.int .i64 0, .int .i64 0, .slice none 0 0] 74))
  have H := Lib.hid h
  have HA := Lib.hid hA
  have hl := h.1
  have hx1 := ((Box.new w 74 #[.int .i64 s, .int .i64 f, .slice A n c]).next (balloc _ (.cells #[.int .i64 0, .int .i64 0, .slice none 0 0] 74)))
  have hx2 := Box.new (w.alloc (.cells #[.int .i64 s, .int .i64 f, .slice A n c] 74)) 74 #[.int .i64 0, .int .i64 0, .slice none 0 0]
  have Hx1 := Lib.hid hx1
  have Hx2 := Lib.hid hx2
  have hz : ∀ u ∈ [1], u = 1 := by simp
  clear h hA hx1 hx2 b0 hz
  go_enter Tryz.func102, Tryz.ntmps102
  go_wp2_with (at_builtin; refine wpList_append_rd _ rfl (.const (.slice none 0 0)) (.tmp 4) 37 rfl (w.heap.size + 2) 189 i0 (.agg #[.int .i64 0, .int .i64 0]) 2 16 Tryz.underlying37 hi0 hz0 hz1 hz2 rfl (by decide) (.slice none 0 0) 0 [] rfl (World.ownsRow_nil _ _ _ _) A n c (pairs al) rfl HA.out (H.out.below hB.out).2 (pairs_ones _) (by unfold maxLen; omega) (by omega) (by simp) ?_; intro B1 c1 w4 hown1 hgrow1 hat1; have Hb1 := Lib.hid (hB.out.grown hgrow1 hB.out.size (fun k e => by cases e)); have Hown1 := Lib.hid hown1; have y1 := Hx1.out.grown hgrow1 (by simp [Value.ownBlock]); have y2 := Hx2.out.grown hgrow1 (by simp [Value.ownBlock]); have y10 := y1.cell (i := 0) rfl; have y11 := y1.cell (i := 1) rfl; have y12 := y1.cell (i := 2) rfl; have y1f := y1.frozen 2; have y20 := y2.cell (i := 0) rfl; have y21 := y2.cell (i := 1) rfl; have y22 := y2.cell (i := 2) rfl; have y2f0 := y2.frozen 0; have y2f1 := y2.frozen 1; have y2f2 := y2.frozen 2; have Y1 := Lib.hid y1; have Y2 := Lib.hid y2; simp at y20 y21 y22 y2f0 y2f1 y2f2; clear hown1 hgrow1 hat1 y1 y2)
  simp only [Nat.zero_add, List.nil_append] at Hown1
  have Hn := own_facts Hown1.out
  have hE := ((((Y2.out.set_ne (b' := w.heap.size) (i := 2) (.slice B1 n c1) (by simp)).set (i := 0) (.int .i64 s)).set (i := 1) (.int .i64 f)).set (i := 2) (.slice B1 n c1))
  simp at hE
  refine ret_opt Tryz.results102 rfl hE rfl ?_
  rw [← hl] at *
  refine ⟨B1, c1, rfl, ⟨rfl, ?_⟩, Hn.1, Hn.2.1, Hn.2.2, ?_, fun b off hb => Nat.le_trans (Nat.le_add_right _ _) (own_base Hown1.out b off hb)⟩
  · have hw := Hown1.out
    repeat (first | exact Rd.of_own hw | (refine Rd.of_own (base := w.heap.size + 2) (c := c1) (e := 189) ?_) | (refine ownsRow_setCell_below ?_ (by simp) _) | exact hw)
  · have hw := Hb1.out
    repeat (first | exact hw | (refine Below.setCell ?_ (by simp) _))
theorem bytes_append (a b : List UInt8) : (⟨(a ++ b).toArray⟩ : ByteArray) = ⟨a.toArray⟩ ++ ⟨b.toArray⟩ := by
  apply ByteArray.ext
  simp [ByteArray.data_append]
def flatA (al : Alts) : List Int := al.flatMap fun a => [a.1, a.2]
def encOpt (s f : Int) (al : Alts) : List UInt8 := encInts ([s, f, (al.length : Int)] ++ flatA al)
def encV (s f : Int) (al : Alts) : Value :=
  if validP s f al = true then .tuple #[.string ⟨(encOpt s f al).toArray⟩, .int .i64 0] else .tuple #[.string ⟨#[]⟩, .int .i64 170]
theorem flatA_take {al : Alts} {k : Nat} (hk : k < al.length) : flatA (al.take (k + 1)) = flatA (al.take k) ++ [(al.getD k (0, 0)).1, (al.getD k (0, 0)).2] := by
  rw [List.take_succ_eq_append_getElem hk]
  simp only [flatA, List.flatMap_append, List.flatMap_cons, List.flatMap_nil, List.append_nil, List.getD, List.getElem?_eq_getElem hk, Option.getD_some]
theorem encInts_append (a b : List Int) : encInts (a ++ b) = encInts a ++ encInts b := by simp [encInts]
theorem altsOk_mem {al : Alts} : ∀ {last : Int}, 0 ≤ last → altsOk last al = true → ∀ a ∈ al, (0 ≤ a.1 ∧ a.1 ≤ 7) ∧ 1 ≤ a.2 ∧ a.2 ≤ 1000000 := by
  induction al with
  | nil => simp
  | cons a al ih =>
    intro last hl h b hb
    simp only [altsOk, altBad, Bool.and_eq_true, Bool.not_eq_true', Bool.or_eq_false_iff, decide_eq_false_iff_not] at h
    obtain ⟨⟨h1, h2, h3, h4⟩, h5⟩ := h
    simp only [List.mem_cons] at hb
    rcases hb with rfl | hb
    · omega
    · exact ih (by omega) h5 b hb
theorem valid_facts {s f : Int} {al : Alts} (h : validP s f al = true) : (0 ≤ s ∧ s ≤ 100000000) ∧ (0 ≤ f ∧ f ≤ 100000000) ∧ al.length ≤ 7 ∧ ∀ a ∈ al, (0 ≤ a.1 ∧ a.1 ≤ 7) ∧ 1 ≤ a.2 ∧ a.2 ≤ 1000000 := by
  unfold validP at h
  by_cases hn : noneP s f al = true
  · simp [noneP] at hn
    obtain ⟨rfl, rfl, rfl⟩ := hn
    simp
  · have hn' : noneP s f al = false := by simpa using hn
    simp only [hn', Bool.false_or, Bool.and_eq_true, Bool.not_eq_true', spanBad, Bool.or_eq_false_iff, decide_eq_false_iff_not] at h
    obtain ⟨⟨h1, h2, h3, h4⟩, ⟨h5, h6⟩, h7⟩ := h
    exact ⟨by omega, by omega, by omega, altsOk_mem (Int.le_refl _) h7⟩
set_option maxRecDepth 100000 in
set_option maxHeartbeats 2000000 in
theorem encode_any (s f : Int) (A : Option Addr) (n c : Nat) (al : Alts) (w : World) (h : IsAlts w A n al) :
    Calls Tryz.prog 142 #[optV s f A n c] w fun e w' => e = .returned (encV s f al) ∧ Below w.heap.size w w' := by
  have b0 := balloc w (.cells #[.int .i64 s, .int .i64 f, .slice A n c] 74)
  have hB := Lib.hid b0
  have H := Lib.hid h
  have hl := h.1
  have Hx1 := Lib.hid (Box.new w 74 #[.int .i64 s, .int .i64 f, .slice A n c])
  clear h b0
  go_enter Tryz.func142, Tryz.ntmps142
  go_wp2_with fail
  refine (valid_any s f A n c al _ (H.out.below hB.out)).mono ?_
  rintro e w1 ⟨rfl, b1⟩
  have B1 := Lib.hid (bnext hB.out b1)
  by_cases hv : validP s f al = true
  · obtain ⟨hs, hf, hn, hal⟩ := valid_facts hv
    have HAL := Lib.hid hal
    have HV : Hid (encV s f al = .tuple #[.string ⟨(encOpt s f al).toArray⟩, .int .i64 0]) := Lib.hid (by simp [encV, hv])
    have hb1 := Hx1.out.next b1
    have c0 := hb1.cell (i := 0) rfl
    have c1 := hb1.cell (i := 1) rfl
    have c2 := hb1.cell (i := 2) rfl
    have HNW := Lib.hid (isInts_new w1 3 [s, f, (n : Int)] (by unfold maxLen; simp))
    clear hal hb1
    go_wp2_with fail
    refine (put_any _ 3 3 [s, f, (n : Int)] _ HNW.out (by omega) (by unfold wmax; simp; omega)).mono ?_
    rintro e w2 ⟨rfl, b2⟩
    have B2 := Lib.hid (bnew B1.out b2)
    have hb2 := (Hx1.out.next b1).below ((balloc w1 _).trans (b2.mono (by simp))) (Hx1.out.next b1).lt
    have c0 := hb2.cell (i := 0) rfl
    have c1 := hb2.cell (i := 1) rfl
    have c2 := hb2.cell (i := 2) rfl
    clear hb2
    go_wp2_with fail
    go_loopw [4, 22] (fun o i wr => ∃ (k : Nat), k ≤ n ∧ i = .int .i64 k ∧ o = .string ⟨(encInts ([s, f, (n : Int)] ++ flatA (al.take k))).toArray⟩ ∧ Below w.heap.size w wr) (fun _ i _ => n - (intOf i).toNat)
    case atStart => exact ⟨0, Nat.zero_le _, rfl, by simp [flatA], B2.out⟩
    case round =>
      obtain ⟨k, hk, rfl, rfl, hBr⟩ := hrel
      by_cases hlt : k < n
      · obtain ⟨b, off, rfl, hbl, ca, cb⟩ := (H.out.below hBr).at_ hlt
        have hm : al.getD k (0, 0) ∈ al := by simp [List.getD, List.getElem?_eq_getElem (show k < al.length by omega)]
        obtain ⟨q1, q2⟩ := HAL.out _ hm
        have HST := Lib.hid (flatA_take (show k < al.length by omega))
        have hle := encInts_len ([s, f, (n : Int)] ++ flatA (al.take k))
        clear hm
        generalize al.getD k (0, 0) = a at *
        obtain ⟨r, i⟩ := a
        simp only at ca cb q1 q2 HST
        have HNW : Hid (IsInts ((wr.alloc (.cells #[.int .i64 r, .int .i64 i] 189)).alloc (.cells #[.int .i64 r, .int .i64 i] 3)) (some ⟨wr.heap.size + 1, 0, none⟩) 2 [r, i]) := by
          have := isInts_new (wr.alloc (.cells #[.int .i64 r, .int .i64 i] 189)) 3 [r, i] (by unfold maxLen; simp)
          exact Lib.hid (by simpa using this)
        have HW : Hid (∀ z ∈ [r, i], -wmax ≤ z ∧ z ≤ wmax) := Lib.hid (by unfold wmax; simp; omega)
        have HST2 : Hid (encInts ([s, f, (n : Int)] ++ flatA (al.take (k + 1))) = encInts ([s, f, (n : Int)] ++ flatA (al.take k)) ++ encInts [r, i]) := Lib.hid (by rw [HST.out, ← List.append_assoc, encInts_append _ [r, i]])
        have hl4 : (flatA (al.take k)).length ≤ 14 := by
          have h1 : ∀ l : Alts, (flatA l).length = 2 * l.length := by
            intro l
            induction l with
            | nil => rfl
            | cons a l ih => simp only [flatA, List.flatMap_cons, List.length_append, List.length_cons, List.length_nil] at *; omega
          have := h1 (al.take k)
          have := List.length_take_le k al
          omega
        simp only [List.length_append, List.length_cons, List.length_nil] at hle
        clear HST
        generalize encInts ([s, f, (n : Int)] ++ flatA (al.take k)) = E at *
        have hl5 := encInts_len [r, i]
        simp only [List.length_cons, List.length_nil] at hl5
        go_wp2_with fail
        refine (put_any (some ⟨wr.heap.size + 1, 0, none⟩) 2 2 [r, i] _ HNW.out (by decide) HW.out).mono ?_
        rintro e w3 ⟨rfl, b3⟩
        have B3 := Lib.hid (bnew (hBr.alloc hBr.size _) b3)
        generalize encInts [r, i] = F at *
        go_wp2_with fail
        go_roundw
        case rel =>
          refine ⟨k + 1, by omega, by go_num, ?_, B3.out⟩
          rw [HST2.out, bytes_append]
        case measure => simp [intOf]; omega
      · have ht : al.take k = al := List.take_of_length_le (by omega)
        rw [ht]
        go_wp2_with fail
        go_ret2
        exact ⟨by rw [HV.out]; simp [encOpt, hl], hBr⟩
  · have hv' : validP s f al = false := by simpa using hv
    rw [hv']
    go_wp2_with fail
    go_ret2
    exact ⟨by simp [encV, hv'], B1.out⟩
def rdAlts (l : List UInt8) : Nat → Nat → Option (Alts × Nat)
  | 0, k => some ([], k)
  | n + 1, k => match rdN l 2 k with
    | ([r, i], some e) => (rdAlts l n e).map fun p => ((r, i) :: p.1, p.2)
    | _ => none
structure POpt where
  s : Int
  f : Int
  al : Alts
def POpt.zero : POpt := ⟨0, 0, []⟩
def finP (l : List UInt8) (s f : Int) : Option (Alts × Nat) → POpt × Int
  | none => (.zero, 10)
  | some (al, e) => if e ≠ l.length then (.zero, 10) else if validP s f al = true then (⟨s, f, al⟩, 0) else (.zero, 170)
def decP (l : List UInt8) : POpt × Int :=
  match rdN l 3 0 with
  | ([s, f, n], some k) => if n < 0 ∨ 7 < n then (.zero, 170) else finP l s f (rdAlts l n.toNat k)
  | _ => (.zero, 10)
def RetDec (r : POpt × Int) (w : World) (e : Ending) (w' : World) : Prop :=
  ∃ B c, e = .returned (.tuple #[optV r.1.s r.1.f B r.1.al.length c, .int .i64 r.2]) ∧ IsAlts w' B r.1.al.length r.1.al ∧ r.1.al.length ≤ c ∧ c ≤ maxLen ∧ (B = none → c = 0) ∧ Below w.heap.size w w' ∧ (∀ b off, B = some ⟨b, off, none⟩ → w.heap.size ≤ b)
theorem rdN_len (l : List UInt8) : ∀ (m k e : Nat), (rdN l m k).2 = some e → (rdN l m k).1.length = m := by
  intro m
  induction m with
  | zero => intro k e _; rfl
  | succ m ih =>
    intro k e h
    unfold rdN at h ⊢
    cases hr : rdInt l k with
    | none => rw [hr] at h; cases h
    | some p => rw [hr] at h; simp only at h ⊢; simp [ih _ _ h]
theorem ret_dec {fn : Func} {R : Ending → World → Prop} {a : Act} {w : World} {p q : Tmp} {b : Nat} {t : TypeId} {v0 v1 v2 v : Value} (hr : fn.results = #[.cell p 74, .tmp q]) (hp : a.tmps.getD p undef = .pointer (some ⟨b, 0, none⟩)) (hq : a.tmps.getD q undef = v)
    (hb : Box w b t #[v0, v1, v2]) (hd : a.defers = []) (h : R (.returned (.tuple #[.agg #[v0, v1, v2], v])) w) : bodyPost Tryz.prog fn R .ret a w := by
  have c0 := hb.cell (i := 0) rfl
  have c1 := hb.cell (i := 1) rfl
  have c2 := hb.cell (i := 2) rfl
  refine bodyPost_ret (v := .tuple #[.agg #[v0, v1, v2], v]) ?_ hd h
  rw [Array.getD_eq_getD_getElem?] at hp hq
  simp [results, hr, hp, hq, go_sem, c0, c1, c2]
theorem rd_ptrs (w : World) (t : TypeId) (ps : List (Nat × Nat)) (hl : ps.length ≤ maxLen) : Rd (w.alloc (.cells (ptrs ps).toArray t)) 1 (some ⟨w.heap.size, 0, none⟩) ps.length (ptrs ps) := by
  have := own_new w t (ptrs ps) (by simpa using hl)
  rw [List.length_map] at this
  exact Rd.of_own this
abbrev zero3 : Array Value := #[.int .i64 0, .int .i64 0, .slice none 0 0]
abbrev ptrAt (b o : Nat) : Value := .pointer (some ⟨b, o, none⟩)
theorem take3 (s : ByteArray) (w : World) (hs : s.size ≤ 9000000000000000000) :
    Calls Tryz.prog 192 #[.string s, .int .i64 0, .slice (some ⟨w.heap.size + 1 + 1 + 1, 0, none⟩) 3 3]
      ((((w.alloc (.cells zero3 74)).alloc (.cells zero3 74)).alloc (.cells #[.int .i64 0] 3)).alloc (.cells #[ptrAt (w.heap.size + 1) 0, ptrAt (w.heap.size + 1) 1, ptrAt (w.heap.size + 1 + 1) 0] 302))
      fun e w' => e = .returned (takeV (rdN s.data.toList 3 0).2) ∧ Box w' w.heap.size 74 zero3 ∧ Below w.heap.size w w' ∧ w.heap.size + 4 ≤ w'.heap.size ∧
        ∀ e2, (rdN s.data.toList 3 0).2 = some e2 → ∃ a b n, rdN s.data.toList 3 0 = ([a, b, n], some e2) ∧ Box w' (w.heap.size + 1) 74 #[.int .i64 a, .int .i64 b, .slice none 0 0] ∧ Box w' (w.heap.size + 1 + 1) 3 #[.int .i64 n] := by
  generalize hW1 : w.alloc (.cells zero3 74) = W1
  generalize hW2 : W1.alloc (.cells zero3 74) = W2
  generalize hW3 : W2.alloc (.cells #[.int .i64 0] 3) = W3
  have s1 : W1.heap.size = w.heap.size + 1 := by rw [← hW1]; simp
  have s2 : W2.heap.size = w.heap.size + 1 + 1 := by rw [← hW2]; simp [s1]
  have s3 : W3.heap.size = w.heap.size + 1 + 1 + 1 := by rw [← hW3]; simp [s2]
  have x1 : Box W1 w.heap.size 74 zero3 := by rw [← hW1]; exact Box.new _ _ _
  have x2 : Box W2 (w.heap.size + 1) 74 zero3 := by rw [← hW2, ← s1]; exact Box.new _ _ _
  have x3 : Box W3 (w.heap.size + 1 + 1) 3 #[.int .i64 0] := by rw [← hW3, ← s2]; exact Box.new _ _ _
  have l1 : Below w.heap.size w W1 := by rw [← hW1]; exact balloc _ _
  have l2 : Below W1.heap.size W1 W2 := by rw [← hW2]; exact balloc _ _
  have l3 : Below W2.heap.size W2 W3 := by rw [← hW3]; exact balloc _ _
  generalize hps : [(w.heap.size + 1, 0), (w.heap.size + 1, 1), (w.heap.size + 1 + 1, 0)] = ps
  have hpl : ps.length = 3 := by rw [← hps]; rfl
  have hp := rd_ptrs W3 302 ps (by rw [hpl]; decide)
  generalize hW4 : W3.alloc (.cells (ptrs ps).toArray 302) = W4 at hp
  have l4 : Below W3.heap.size W3 W4 := by rw [← hW4]; exact balloc _ _
  have s4 : W4.heap.size = w.heap.size + 1 + 1 + 1 + 1 := by rw [← hW4]; simp [s3]
  rw [hpl, s3] at hp
  have e4 : W3.alloc (.cells #[ptrAt (w.heap.size + 1) 0, ptrAt (w.heap.size + 1) 1, ptrAt (w.heap.size + 1 + 1) 0] 302) = W4 := by rw [← hW4, ← hps]; rfl
  rw [e4]
  have x1' := ((x1.next l2).next l3).next l4
  have x2' := (x2.next l3).next l4
  have x3' := x3.next l4
  have hmem : ∀ p ∈ ps, p.1 = w.heap.size + 1 ∨ p.1 = w.heap.size + 1 + 1 := by rw [← hps]; simp
  refine (take_any s 0 _ 3 3 ps W4 hs (Nat.zero_le _) (by decide) hp ?_ ?_).mono ?_
  · rw [← hps]
    intro p hpm
    simp only [List.mem_cons, List.not_mem_nil, or_false] at hpm
    rcases hpm with rfl | rfl | rfl
    · exact ⟨_, _, x2', by simp⟩
    · exact ⟨_, _, x2', by simp⟩
    · exact ⟨_, _, x3', by simp⟩
  · intro b off hb p hpm
    cases hb
    have := hmem p hpm
    omega
  · rintro e w' ⟨rfl, rfl⟩
    have hzip : ∀ x ∈ ps.zip (rdN s.data.toList 3 0).1, x.1.1 = w.heap.size + 1 ∨ x.1.1 = w.heap.size + 1 + 1 := fun x hx => hmem _ (List.of_mem_zip (a := x.1) (b := x.2) hx).1
    refine ⟨rfl, ?_, ?_, ?_, ?_⟩
    · exact (wrs_block _ _ (fun x hx => by have := hzip x hx; omega) _).trans x1'
    · exact wrs_below _ _ (fun x hx => by have := hzip x hx; omega) _ _ (bnext (bnext (bnext l1 l2) l3) l4)
    · have := (wrs_below (ps.zip (rdN s.data.toList 3 0).1) 0 (fun x hx => by omega) W4 W4 (Below.refl _ _)).size
      omega
    · intro e2 he
      have hlen := rdN_len _ _ _ _ he
      clear hzip
      generalize rdN s.data.toList 3 0 = q at *
      obtain ⟨vs, o⟩ := q
      simp only at he hlen ⊢
      subst he
      match vs, hlen with
      | [a, b, n], _ =>
        refine ⟨a, b, n, rfl, ?_, ?_⟩
        · have := ((x2'.set (i := 0) (.int .i64 a)).set (i := 1) (.int .i64 b)).set_ne (b' := w.heap.size + 1 + 1) (i := 0) (.int .i64 n) (by omega)
          rw [← hps]
          simpa [wrs] using this
        · have := ((x3'.set_ne (b' := w.heap.size + 1) (i := 0) (.int .i64 a) (by omega)).set_ne (b' := w.heap.size + 1) (i := 1) (.int .i64 b) (by omega)).set (i := 0) (.int .i64 n)
          rw [← hps]
          simpa [wrs] using this
theorem take2 (s : ByteArray) (k : Nat) (w : World) (hs : s.size ≤ 9000000000000000000) (hk : k ≤ s.size) :
    Calls Tryz.prog 192 #[.string s, .int .i64 k, .slice (some ⟨w.heap.size + 1, 0, none⟩) 2 2]
      ((w.alloc (.cells #[.int .i64 0, .int .i64 0] 189)).alloc (.cells #[ptrAt w.heap.size 0, ptrAt w.heap.size 1] 302))
      fun e w' => e = .returned (takeV (rdN s.data.toList 2 k).2) ∧ Below w.heap.size w w' ∧
        ∀ e2, (rdN s.data.toList 2 k).2 = some e2 → ∃ a b, rdN s.data.toList 2 k = ([a, b], some e2) ∧ Box w' w.heap.size 189 #[.int .i64 a, .int .i64 b] := by
  generalize hW3 : w.alloc (.cells #[.int .i64 0, .int .i64 0] 189) = W3
  have s3 : W3.heap.size = w.heap.size + 1 := by rw [← hW3]; simp
  have x1 : Box W3 w.heap.size 189 #[.int .i64 0, .int .i64 0] := by rw [← hW3]; exact Box.new _ _ _
  have l1 : Below w.heap.size w W3 := by rw [← hW3]; exact balloc _ _
  generalize hps : [(w.heap.size, 0), (w.heap.size, 1)] = ps
  have hpl : ps.length = 2 := by rw [← hps]; rfl
  have hp := rd_ptrs W3 302 ps (by rw [hpl]; decide)
  generalize hW4 : W3.alloc (.cells (ptrs ps).toArray 302) = W4 at hp
  have l4 : Below W3.heap.size W3 W4 := by rw [← hW4]; exact balloc _ _
  rw [hpl, s3] at hp
  have e4 : W3.alloc (.cells #[ptrAt w.heap.size 0, ptrAt w.heap.size 1] 302) = W4 := by rw [← hW4, ← hps]; rfl
  rw [e4]
  have x1' := x1.next l4
  have hmem : ∀ p ∈ ps, p.1 = w.heap.size := by rw [← hps]; simp
  refine (take_any s k _ 2 2 ps W4 hs hk (by decide) hp ?_ ?_).mono ?_
  · rw [← hps]
    intro p hpm
    simp only [List.mem_cons, List.not_mem_nil, or_false] at hpm
    rcases hpm with rfl | rfl
    · exact ⟨_, _, x1', by simp⟩
    · exact ⟨_, _, x1', by simp⟩
  · intro b off hb p hpm
    cases hb
    have := hmem p hpm
    omega
  · rintro e w' ⟨rfl, rfl⟩
    have hzip : ∀ x ∈ ps.zip (rdN s.data.toList 2 k).1, x.1.1 = w.heap.size := fun x hx => hmem _ (List.of_mem_zip (a := x.1) (b := x.2) hx).1
    refine ⟨rfl, ?_, ?_⟩
    · exact wrs_below _ _ (fun x hx => by have := hzip x hx; omega) _ _ (bnext l1 l4)
    · intro e2 he
      have hlen := rdN_len _ _ _ _ he
      clear hzip
      generalize rdN s.data.toList 2 k = q at *
      obtain ⟨vs, o⟩ := q
      simp only at he hlen ⊢
      subst he
      match vs, hlen with
      | [a, b], _ =>
        refine ⟨a, b, rfl, ?_⟩
        have := (x1'.set (i := 0) (.int .i64 a)).set (i := 1) (.int .i64 b)
        rw [← hps]
        simpa [wrs] using this
theorem rdN_le (l : List UInt8) : ∀ (m k e : Nat), k ≤ l.length → (rdN l m k).2 = some e → e ≤ l.length := by
  intro m
  induction m with
  | zero => intro k e hk h; simp [rdN] at h; omega
  | succ m ih =>
    intro k e hk h
    unfold rdN at h
    cases hr : rdInt l k with
    | none => rw [hr] at h; cases h
    | some p => rw [hr] at h; simp only at h; exact ih _ _ (rdInt_le hk hr).2 h
theorem retDec_zero {l : List UInt8} {code : Int} {w w' : World} (h : decP l = (.zero, code)) (hb : Below w.heap.size w w') :
    RetDec (decP l) w (.returned (.tuple #[.agg #[.int .i64 0, .int .i64 0, .slice none 0 0], .int .i64 code])) w' := by
  rw [h]
  exact ⟨none, 0, rfl, IsAlts.nil _ _, Nat.le_refl _, Nat.zero_le _, fun _ => rfl, hb, fun _ _ h => by cases h⟩
theorem rdAlts_none {l : List UInt8} {n k : Nat} (h : (rdN l 2 k).2 = none) : rdAlts l (n + 1) k = none := by
  unfold rdAlts
  split
  · next hq => rw [hq] at h; cases h
  · rfl
theorem rdAlts_some {l : List UInt8} {n k e : Nat} {r x : Int} (h : rdN l 2 k = ([r, x], some e)) : rdAlts l (n + 1) k = (rdAlts l n e).map fun p => ((r, x) :: p.1, p.2) := by
  rw [rdAlts, h]
theorem alt_new (w : World) (t : TypeId) (r x : Int) : Rd (w.alloc (.cells #[.int .i64 r, .int .i64 x] t)) 2 (some ⟨w.heap.size, 0, none⟩) 1 (pairs [(r, x)]) := by
  have hb := Box.new w t #[.int .i64 r, .int .i64 x]
  refine ⟨rfl, .inr ⟨w.heap.size, 0, rfl, hb.lt, fun i hi => ?_⟩⟩
  rw [Nat.zero_add]
  match i, hi with
  | 0, _ => exact hb.cell rfl
  | 1, _ => exact hb.cell rfl
set_option maxRecDepth 100000 in
set_option maxHeartbeats 4000000 in
theorem decode_any (s : ByteArray) (w : World) (hs : s.size ≤ 9000000000000000000) :
    Calls Tryz.prog 170 #[.string s] w (RetDec (decP s.data.toList) w) := by
  obtain ⟨i0, hi0, hz0, hz1, hz2⟩ : ∃ i, Tryz.prog.info? 189 = some i ∧ i.zero = some (.agg #[.int .i64 0, .int .i64 0]) ∧ i.size = 2 ∧ i.bytes = 16 := by
    have := infoAlt
    cases hi : Tryz.prog.info? 189 with
    | none => rw [hi] at this; cases this
    | some i => rw [hi] at this; simp at this; exact ⟨i, rfl, this.1, this.2.1, this.2.2⟩
  go_enter Tryz.func170, Tryz.ntmps170
  go_wp2_with fail
  refine (take3 s w hs).mono ?_
  rintro e w1 ⟨rfl, hx0, b1, hsz, hrest⟩
  have d0 := hx0.cell (i := 0) rfl
  have d1 := hx0.cell (i := 1) rfl
  have d2 := hx0.cell (i := 2) rfl
  have f0 := hx0.frozen 0
  have f1 := hx0.frozen 1
  have f2 := hx0.frozen 2
  have HX0 := Lib.hid hx0
  have B1 := Lib.hid b1
  clear hx0
  cases hr : (rdN s.data.toList 3 0).2 with
  | none =>
    have HD : Hid (decP s.data.toList = (.zero, 10)) := Lib.hid (by
      unfold decP
      generalize rdN s.data.toList 3 0 = q at *
      obtain ⟨vs, o⟩ := q
      simp only at hr
      subst hr
      split
      · next h => cases h
      · rfl)
    clear hrest hr
    unfold takeV
    go_wp2_with fail
    refine ret_dec Tryz.results170 rfl rfl (((HX0.out.set (i := 0) (.int .i64 0)).set (i := 1) (.int .i64 0)).set (i := 2) (.slice none 0 0)) rfl ?_
    refine retDec_zero HD.out ?_
    exact ((B1.out.setCell (by simp) _).setCell (by simp) _).setCell (by simp) _
  | some e1 =>
    obtain ⟨a, b, n, hq, hx1, hx2⟩ := hrest e1 hr
    have he1 : e1 ≤ s.size := by have := rdN_le s.data.toList 3 0 e1 (Nat.zero_le _) hr; simpa using this
    have HQ := Lib.hid hq
    have HX1 := Lib.hid hx1
    have k0 := hx1.cell (i := 0) rfl
    have k1 := hx1.cell (i := 1) rfl
    have k2 := hx1.cell (i := 2) rfl
    have k3 := hx2.cell (i := 0) rfl
    have HX2 := Lib.hid hx2
    clear hrest hr hq hx1 hx2
    unfold takeV
    by_cases n0 : n < 0
    · have HD : Hid (decP s.data.toList = (.zero, 170)) := Lib.hid (by unfold decP; rw [HQ.out]; simp [n0])
      go_wp2_with fail
      refine ret_dec Tryz.results170 rfl rfl (((HX0.out.set (i := 0) (.int .i64 0)).set (i := 1) (.int .i64 0)).set (i := 2) (.slice none 0 0)) rfl ?_
      refine retDec_zero HD.out ?_
      exact ((B1.out.setCell (by simp) _).setCell (by simp) _).setCell (by simp) _
    by_cases n7 : 7 < n
    · have HD : Hid (decP s.data.toList = (.zero, 170)) := Lib.hid (by unfold decP; rw [HQ.out]; simp [n7])
      go_wp2_with fail
      refine ret_dec Tryz.results170 rfl rfl (((HX0.out.set (i := 0) (.int .i64 0)).set (i := 1) (.int .i64 0)).set (i := 2) (.slice none 0 0)) rfl ?_
      refine retDec_zero HD.out ?_
      exact ((B1.out.setCell (by simp) _).setCell (by simp) _).setCell (by simp) _
    obtain ⟨m, rfl⟩ : ∃ m : Nat, n = m := ⟨n.toNat, by omega⟩
    have HD : Hid (decP s.data.toList = finP s.data.toList a b (rdAlts s.data.toList m e1)) := Lib.hid (by
        unfold decP; rw [HQ.out]; simp only [if_neg (show ¬ ((m : Int) < 0 ∨ 7 < (m : Int)) by omega), Int.toNat_natCast])
    clear d0 d1 d2 f0 f1 f2
    go_wp2_with fail
    go_loopw [6, 28] (fun q i wr => ∃ (k kq : Nat) (al : Alts) (B : Option Addr) (c : Nat), k ≤ m ∧ kq ≤ s.size ∧ i = .int .i64 k ∧ q = .int .i64 kq ∧ al.length = k ∧
        rdAlts s.data.toList m e1 = (rdAlts s.data.toList (m - k) kq).map (fun p => (al ++ p.1, p.2)) ∧
        Box wr w.heap.size 74 zero3 ∧ Box wr (w.heap.size + 1) 74 #[.int .i64 a, .int .i64 b, .slice B k c] ∧ wr.ownsRow (w.heap.size + 4) 189 2 (.slice B k c) k (pairs al) ∧ w.heap.size + 4 ≤ wr.heap.size ∧ Below w.heap.size w wr) (fun _ i _ => m - (intOf i).toNat)
    case atStart =>
      refine ⟨0, e1, [], none, 0, Nat.zero_le _, he1, rfl, rfl, rfl, ?_, HX0.out, HX1.out, World.ownsRow_nil _ _ _ _, hsz, B1.out⟩
      cases rdAlts s.data.toList m e1 <;> simp
    case round =>
      obtain ⟨k, kq, al, B, c, hk, hkq, rfl, rfl, hal, hst, hy0, hy1, hown, hsz', hBr⟩ := hrel
      have HST := Lib.hid hst
      have HOW := Lib.hid hown
      clear hst hown k0 k1 k2 k3
      by_cases hlt : k < m
      · have e1' : m - k = (m - (k + 1)) + 1 := by omega
        rw [e1'] at HST
        have HY0 := Lib.hid hy0
        have HY1 := Lib.hid hy1
        clear hy0 hy1 e1'
        go_wp2_with fail
        refine (take2 s kq wr hs hkq).mono ?_
        rintro e w2 ⟨rfl, b2, hrest⟩
        have HZ0 := Lib.hid (HY0.out.next b2)
        have HZ1 := Lib.hid (HY1.out.next b2)
        have B2 := Lib.hid (bnext hBr b2)
        have HO2 := Lib.hid (own_below HOW.out b2)
        have hs2 : w.heap.size + 4 ≤ w2.heap.size := Nat.le_trans hsz' b2.size
        cases hr : (rdN s.data.toList 2 kq).2 with
        | none =>
          have HE : Hid (decP s.data.toList = (.zero, 10)) := Lib.hid (by
            rw [HD.out, HST.out, rdAlts_none hr]
            rfl)
          have d0 := HZ0.out.cell (i := 0) rfl
          have d1 := HZ0.out.cell (i := 1) rfl
          have d2 := HZ0.out.cell (i := 2) rfl
          have f0 := HZ0.out.frozen 0
          have f1 := HZ0.out.frozen 1
          have f2 := HZ0.out.frozen 2
          clear hrest hr
          unfold takeV
          go_wp2_with fail
          refine ret_dec Tryz.results170 rfl rfl (((HZ0.out.set (i := 0) (.int .i64 0)).set (i := 1) (.int .i64 0)).set (i := 2) (.slice none 0 0)) rfl ?_
          refine retDec_zero HE.out ?_
          exact ((B2.out.setCell (by simp) _).setCell (by simp) _).setCell (by simp) _
        | some e2 =>
          obtain ⟨r, x, hq, hx⟩ := hrest e2 hr
          have he2 : e2 ≤ s.size := by have := rdN_le s.data.toList 2 kq e2 (by simpa using hkq) hr; simpa using this
          have HSU : Hid (rdAlts s.data.toList m e1 = (rdAlts s.data.toList (m - (k + 1)) e2).map (fun p => ((al ++ [(r, x)]) ++ p.1, p.2))) := Lib.hid (by
            rw [HST.out, rdAlts_some hq, Option.map_map]
            congr 1
            funext p
            simp)
          have x0 := hx.cell (i := 0) rfl
          have x1 := hx.cell (i := 1) rfl
          have k2 := HZ1.out.cell (i := 2) rfl
          have HN := Lib.hid (alt_new w2 189 r x)
          have HOa := Lib.hid (own_below HO2.out (balloc w2 (.cells #[.int .i64 r, .int .i64 x] 189)))
          have HBa := Lib.hid (B2.out.alloc B2.out.size (.cells #[.int .i64 r, .int .i64 x] 189))
          have HZ1a := Lib.hid (HZ1.out.next (balloc w2 (.cells #[.int .i64 r, .int .i64 x] 189)))
          have HZ0a := Lib.hid (HZ0.out.next (balloc w2 (.cells #[.int .i64 r, .int .i64 x] 189)))
          clear hrest hr hq hx
          unfold takeV
          go_wp2_with (at_builtin; refine wpList_append_rd (w2.alloc (.cells #[.int .i64 r, .int .i64 x] 189)) rfl (.tmp 43) (.tmp 45) 37 rfl (w.heap.size + 4) 189 i0 (.agg #[.int .i64 0, .int .i64 0]) 2 16 Tryz.underlying37 hi0 hz0 hz1 hz2 rfl (by decide) (.slice B k c) k (pairs al) rfl HOa.out (some ⟨w2.heap.size, 0, none⟩) 1 1 (pairs [(r, x)]) rfl (fun e => by cases e) HN.out (pairs_ones _) (by unfold maxLen; omega) (by omega) (Nat.le_trans hs2 (by simp)) ?_; intro B1 c1 w3 hown1 hgrow1 hat1; have Hb1 := Lib.hid (HBa.out.grown hgrow1 HBa.out.size (fun k e => Nat.le_trans (Nat.le_add_right _ _) (own_ge HOa.out k e))); have y1 := HZ1a.out.grown hgrow1 (fun e => by have := own_ge HOa.out _ e; omega); have y0 := HZ0a.out.grown hgrow1 (fun e => by have := own_ge HOa.out _ e; omega); have hs3 : w.heap.size + 4 ≤ w3.heap.size := Nat.le_trans hs2 (Nat.le_trans (by simp) hgrow1.size); have y12 := y1.cell (i := 2) rfl; have y1f := y1.frozen 2; have Hown1 := Lib.hid hown1; have Y1 := Lib.hid y1; have Y0 := Lib.hid y0; clear hown1 hgrow1 hat1 y1 y0)
          go_roundw
          case rel =>
            refine ⟨k + 1, e2, al ++ [(r, x)], B1, c1, by omega, he2, by go_num, rfl, by simp [hal], HSU.out, Y0.out.set_ne _ (by simp), ?_, ?_, ?_, Hb1.out.setCell (by simp) _⟩
            · have := Y1.out.set (i := 2) (.slice B1 (k + 1) c1)
              simpa using this
            · refine ownsRow_setCell_below ?_ (by simp) _
              have := Hown1.out
              simpa [pairs] using this
            · simpa [World.setCell] using hs3
          case measure => simp [intOf]; omega
      · obtain rfl : k = m := by omega
        have HF : Hid (decP s.data.toList = if kq ≠ s.data.toList.length then (.zero, 10) else if validP a b al = true then (⟨a, b, al⟩, 0) else (.zero, 170)) := Lib.hid (by
          rw [HD.out, HST.out, Nat.sub_self]
          simp [rdAlts, finP])
        have hA : IsAlts wr B k al := ⟨hal, Rd.of_own HOW.out⟩
        have HA := Lib.hid hA
        have hfc := own_facts HOW.out
        have d0 := hy0.cell (i := 0) rfl
        have d1 := hy0.cell (i := 1) rfl
        have d2 := hy0.cell (i := 2) rfl
        have f0 := hy0.frozen 0
        have f1 := hy0.frozen 1
        have f2 := hy0.frozen 2
        have k0 := hy1.cell (i := 0) rfl
        have k1 := hy1.cell (i := 1) rfl
        have k2 := hy1.cell (i := 2) rfl
        have HY0 := Lib.hid hy0
        have HY1 := Lib.hid hy1
        clear hy0 hy1 hA
        by_cases hend : kq = s.size
        · subst hend
          have HG : Hid (decP s.data.toList = if validP a b al = true then (⟨a, b, al⟩, 0) else (.zero, 170)) := Lib.hid (by rw [HF.out]; simp)
          go_wp2_with fail
          refine (valid_any a b B k c al wr HA.out).mono ?_
          rintro e w2 ⟨rfl, b2⟩
          have HZ0 := Lib.hid (HY0.out.next b2)
          have HZ1 := Lib.hid (HY1.out.next b2)
          have B2 := Lib.hid (bnext hBr b2)
          have HO2 := Lib.hid (own_below HOW.out b2)
          have d0 := HZ0.out.cell (i := 0) rfl
          have d1 := HZ0.out.cell (i := 1) rfl
          have d2 := HZ0.out.cell (i := 2) rfl
          have f0 := HZ0.out.frozen 0
          have f1 := HZ0.out.frozen 1
          have f2 := HZ0.out.frozen 2
          have k0 := HZ1.out.cell (i := 0) rfl
          have k1 := HZ1.out.cell (i := 1) rfl
          have k2 := HZ1.out.cell (i := 2) rfl
          by_cases hv : validP a b al = true
          · have HE : Hid (decP s.data.toList = (⟨a, b, al⟩, 0)) := Lib.hid (by rw [HG.out, if_pos hv])
            rw [hv]
            go_wp2_with fail
            refine ret_dec Tryz.results170 rfl rfl (((HZ0.out.set (i := 0) (.int .i64 a)).set (i := 1) (.int .i64 b)).set (i := 2) (.slice B k c)) rfl ?_
            rw [HE.out]
            subst hal
            refine ⟨B, c, rfl, ⟨rfl, ?_⟩, hfc.1, hfc.2.1, hfc.2.2, ((B2.out.setCell (by simp) _).setCell (by simp) _).setCell (by simp) _, fun b' off h => by have := own_base HO2.out b' off h; omega⟩
            refine Rd.of_own (base := w.heap.size + 4) (c := c) (e := 189) ?_
            exact ownsRow_setCell_below (ownsRow_setCell_below (ownsRow_setCell_below HO2.out (by simp) _) (by simp) _) (by simp) _
          · have hv' : validP a b al = false := by simpa using hv
            have HE : Hid (decP s.data.toList = (.zero, 170)) := Lib.hid (by rw [HG.out, if_neg hv])
            rw [hv']
            go_wp2_with fail
            refine ret_dec Tryz.results170 rfl rfl (((HZ0.out.set (i := 0) (.int .i64 0)).set (i := 1) (.int .i64 0)).set (i := 2) (.slice none 0 0)) rfl ?_
            refine retDec_zero HE.out ?_
            exact ((B2.out.setCell (by simp) _).setCell (by simp) _).setCell (by simp) _
        · have HE : Hid (decP s.data.toList = (.zero, 10)) := Lib.hid (by rw [HF.out, if_pos (by simpa using hend)])
          have hend' : ((kq : Int) == (s.size : Int)) = false := by simp; omega
          go_wp2_with fail
          refine ret_dec Tryz.results170 rfl rfl (((HY0.out.set (i := 0) (.int .i64 0)).set (i := 1) (.int .i64 0)).set (i := 2) (.slice none 0 0)) rfl ?_
          refine retDec_zero HE.out ?_
          exact ((hBr.setCell (by simp) _).setCell (by simp) _).setCell (by simp) _
set_option linter.unusedSimpArgs false
section
variable {P : Program} {ρ : Operand → Value} {w : World} {t t' : TypeId} {x y : Operand} {dst : Option Tmp} {ty : TypeId} {pos : String} {af : Array Edge} {g : Option (Nat × Bool)} {a b : Int} {k : IntKind}
theorem ex_rem (hx : ρ x = .int k a) (hy : ρ y = .int k b) (hb : b ≠ 0) : (execOp ρ ⟨dst, .binOp .rem t x y t', ty, pos, af, g⟩).run P w = .ok (.value (.int k (a.tmod b))) w := by
 simp [execOp, hx, hy, eqGuard, binOp, Op.intDiv, hb, Sem.run_bind]
theorem ex_quo (hx : ρ x = .int k a) (hy : ρ y = .int k b) (hb : b ≠ 0) : (execOp ρ ⟨dst, .binOp .quo t x y t', ty, pos, af, g⟩).run P w = .ok (.value (.int k (k.wrap (a.tdiv b)))) w := by
 simp [execOp, hx, hy, eqGuard, binOp, Op.intDiv, hb, Sem.run_bind]
end
theorem ex_eq2 {ρ : Operand → Value} {w : World} {x y : Operand} {dst : Option Tmp} {ty : TypeId} {pos : String} {af : Array Edge} {g : Option (Nat × Bool)} {a0 a1 b0 b1 : Int}
  (hx : ρ x = .agg #[.int .i64 a0, .int .i64 a1]) (hy : ρ y = .agg #[.int .i64 b0, .int .i64 b1]) : (execOp ρ ⟨dst, .binOp .eql 58 x y 58, ty, pos, af, g⟩).run Tryz.prog w = .ok (.value (.bool ((a0 == b0) && (a1 == b1)))) w := by
 by_cases h0 : a0 = b0 <;> by_cases h1 : a1 = b1 <;> simp [execOp, hx, hy, go_sem, h0, h1]
def pickI (c n : Int) : Int := (if c < 0 then -(c + 1) else c) % n
theorem pickI_lt (c n : Int) (hn : 0 < n) : 0 ≤ pickI c n ∧ pickI c n < n := ⟨Int.emod_nonneg _ (by omega), Int.emod_lt_of_pos _ hn⟩
def rateTab : List (Int × Int) := [(24000, 1001), (24, 1), (25, 1), (30000, 1001), (30, 1), (50, 1), (60000, 1001), (60, 1)]
def rateBase : List (Int × Int) := [(24, 0), (24, 0), (25, 0), (30, 2), (30, 0), (50, 0), (60, 4), (60, 0)]
def rateOk (n d : Int) : Bool := rateTab.any fun p => p.1 == n && p.2 == d
def frameOk (fr : Int) : Bool := decide (0 ≤ fr) && decide (fr ≤ 100000000)
theorem frameOk_of {fr : Int} (h : 0 ≤ fr ∧ fr ≤ 100000000) : frameOk fr = true := by simp [frameOk, h]
def ticksP (n d fr : Int) : Int := fr * 90000 * d / n % 8589934592
theorem rateOk_bd {n d : Int} (h : rateOk n d = true) : 24 ≤ n ∧ n ≤ 60000 ∧ 1 ≤ d ∧ d ≤ 1001 := by
 simp [rateOk, rateTab] at h
 omega
theorem take_tab : ∀ j, j < 8 → rateTab.take (j + 1) = rateTab.take j ++ [rateTab.getD j (0, 0)] := by decide
theorem any_snoc {n d : Int} {j : Nat} (hj : j < 8) (h : (rateTab.take j).any (fun p => p.1 == n && p.2 == d) = false) (hx : (((rateTab.getD j (0, 0)).1 == n) && ((rateTab.getD j (0, 0)).2 == d)) = false) : (rateTab.take (j + 1)).any (fun p => p.1 == n && p.2 == d) = false := by
 rw [take_tab j hj, List.any_append, h]
 simpa using hx
theorem rateOk_hit {n d : Int} {j : Nat} (hj : j < 8) (hx : (((rateTab.getD j (0, 0)).1 == n) && ((rateTab.getD j (0, 0)).2 == d)) = true) : rateOk n d = true := by
 unfold rateOk
 rw [List.any_eq_true]
 have : ∀ j, j < 8 → rateTab.getD j (0, 0) ∈ rateTab := by decide
 exact ⟨_, this j hj, hx⟩
theorem rateOk_no {n d : Int} {j : Nat} (hj : 8 ≤ j) (h : (rateTab.take j).any (fun p => p.1 == n && p.2 == d) = false) : rateOk n d = false := by
 rw [List.take_of_length_le (show rateTab.length ≤ j from hj)] at h
 exact h
theorem laid_rates {w : World} (h : Laid w) : cellsAt w 0 0 [(.int .i64 24000), (.int .i64 1001), (.int .i64 24), (.int .i64 0), (.int .i64 24), (.int .i64 1), (.int .i64 24), (.int .i64 0), (.int .i64 25), (.int .i64 1), (.int .i64 25), (.int .i64 0), (.int .i64 30000), (.int .i64 1001), (.int .i64 30), (.int .i64 2), (.int .i64 30), (.int .i64 1), (.int .i64 30), (.int .i64 0), (.int .i64 50), (.int .i64 1), (.int .i64 50), (.int .i64 0), (.int .i64 60000), (.int .i64 1001), (.int .i64 60), (.int .i64 4), (.int .i64 60), (.int .i64 1), (.int .i64 60), (.int .i64 0)] := fun i x hx => by
 match i, hx with
 | 0, hx => cases hx; exact h.rates 0 (by omega)
 | 1, hx => cases hx; exact h.rates 1 (by omega)
 | 2, hx => cases hx; exact h.rates 2 (by omega)
 | 3, hx => cases hx; exact h.rates 3 (by omega)
 | 4, hx => cases hx; exact h.rates 4 (by omega)
 | 5, hx => cases hx; exact h.rates 5 (by omega)
 | 6, hx => cases hx; exact h.rates 6 (by omega)
 | 7, hx => cases hx; exact h.rates 7 (by omega)
 | 8, hx => cases hx; exact h.rates 8 (by omega)
 | 9, hx => cases hx; exact h.rates 9 (by omega)
 | 10, hx => cases hx; exact h.rates 10 (by omega)
 | 11, hx => cases hx; exact h.rates 11 (by omega)
 | 12, hx => cases hx; exact h.rates 12 (by omega)
 | 13, hx => cases hx; exact h.rates 13 (by omega)
 | 14, hx => cases hx; exact h.rates 14 (by omega)
 | 15, hx => cases hx; exact h.rates 15 (by omega)
 | 16, hx => cases hx; exact h.rates 16 (by omega)
 | 17, hx => cases hx; exact h.rates 17 (by omega)
 | 18, hx => cases hx; exact h.rates 18 (by omega)
 | 19, hx => cases hx; exact h.rates 19 (by omega)
 | 20, hx => cases hx; exact h.rates 20 (by omega)
 | 21, hx => cases hx; exact h.rates 21 (by omega)
 | 22, hx => cases hx; exact h.rates 22 (by omega)
 | 23, hx => cases hx; exact h.rates 23 (by omega)
 | 24, hx => cases hx; exact h.rates 24 (by omega)
 | 25, hx => cases hx; exact h.rates 25 (by omega)
 | 26, hx => cases hx; exact h.rates 26 (by omega)
 | 27, hx => cases hx; exact h.rates 27 (by omega)
 | 28, hx => cases hx; exact h.rates 28 (by omega)
 | 29, hx => cases hx; exact h.rates 29 (by omega)
 | 30, hx => cases hx; exact h.rates 30 (by omega)
 | 31, hx => cases hx; exact h.rates 31 (by omega)
 | i + 32, hx => simp at hx
def encStr (l : List UInt8) : List UInt8 := encInt ((l.length : Nat) : Int) ++ l
def rdStr (l : List UInt8) (k : Nat) : Option (List UInt8 × Nat) :=
 match rdInt l k with
 | none => none
 | some (n, e) => if n < 0 ∨ 65536 < n ∨ ((l.length : Nat) : Int) - ((e : Nat) : Int) < n then none else some ((l.drop e).take n.toNat, e + n.toNat)
def str3 : Option (List UInt8 × Nat) → Value
 | none => .tuple #[.string (bstr []), .int .i64 0, .int .i64 10]
 | some (t, e) => .tuple #[.string (bstr t), .int .i64 ((e : Nat) : Int), .int .i64 0]
set_option maxRecDepth 100000 in
set_option maxHeartbeats 4000000 in
theorem pick_any (c n : Int) (w : World) (hc : -9223372036854775808 ≤ c ∧ c ≤ 9223372036854775807) (hn : 0 < n) :
  Calls Tryz.prog 18 #[.int .i64 c, .int .i64 n] w fun e w' => e = .returned (ii (pickI c n)) ∧ w = w' := by
 have HP := Hp.start w
 refine w_enter 13 [(0, (ii c)), (1, (ii n))] Tryz.func18 rfl Tryz.ntmps18 (by kernel_rfl) (by kernel_rfl) fun a H => ?_
 refine wp_seq (w_region ?_)
 refine H.ge HP [(4, (ii 0))] [] fun a H => ?_
 refine then_normal (wp_seq (wp_seq (w_region ?_)))
 refine H.ge HP [(5, (ii c)), (6, (.bool (decide (c < 0))))] [] fun a H => ?_
 refine then_normal ?_
 refine w_if H rfl (fun g6 => ?_) (fun g6 => ?_)
 ·have g6p := of_decide_eq_true g6
  refine w_region ?_
  refine H.go HP 1 [(7, (ii c))] [] fun a H => H.wi 8 (c + 1) fun a H => H.valE 9 (ii (IntKind.i64.wrap (0 - (c + 1)))) (ii (-(c + 1))) (by kernel_rfl) (by kernel_rfl) ((by rw [Int.zero_sub, wrap_ini64 _ (by omega)])) fun a H => ?_
  refine H.ge HP [(0, (ii (-(c + 1))))] [] fun a H => ?_
  refine then_normal (wp_seq (w_region ?_))
  refine H.go HP 2 [(10, (ii (-(c + 1)))), (11, (ii n))] [] fun a H => H.valE 12 (ii ((-(c + 1)).tmod n)) (ii ((-(c + 1)) % n)) (by kernel_rfl) (ex_rem (k := .i64) (by kernel_rfl) (by kernel_rfl) (by omega)) ((by rw [tmod_nn _ _ (by omega)])) fun a H => ?_
  refine H.ge HP [(4, (ii ((-(c + 1)) % n)))] [] fun a H => ?_
  refine then_normal (wp_ret ?_)
  refine H.ret1 (fn := Tryz.f18) Tryz.results18 (RV.tmp_ (v := (ii ((-(c + 1)) % n))) (by kernel_rfl)) ?_
  exact ⟨by unfold pickI; rw [if_pos (by omega)], rfl⟩
 have g6p := of_decide_eq_false g6
 refine wp_skip (then_normal (wp_seq (w_region ?_)))
 refine H.go HP 2 [(10, (ii c)), (11, (ii n))] [] fun a H => H.valE 12 (ii (c.tmod n)) (ii (c % n)) (by kernel_rfl) (ex_rem (k := .i64) (by kernel_rfl) (by kernel_rfl) (by omega)) ((by rw [tmod_nn _ _ (by omega)])) fun a H => ?_
 refine H.ge HP [(4, (ii (c % n)))] [] fun a H => ?_
 refine then_normal (wp_ret ?_)
 refine H.ret1 (fn := Tryz.f18) Tryz.results18 (RV.tmp_ (v := (ii (c % n))) (by kernel_rfl)) ?_
 exact ⟨by unfold pickI; rw [if_neg (by omega)], rfl⟩
set_option maxRecDepth 100000 in
set_option maxHeartbeats 4000000 in
theorem isFrame_any (fr : Int) (w : World) :
  Calls Tryz.prog 136 #[.int .i64 fr] w fun e w' => e = .returned (.bool (frameOk fr)) ∧ w = w' := by
 have HP := Hp.start w
 refine w_enter 9 [(0, (ii fr))] Tryz.func136 rfl Tryz.ntmps136 (by kernel_rfl) (by kernel_rfl) fun a H => ?_
 refine wp_seq (w_region ?_)
 refine H.ge HP [(2, (.bool false))] [] fun a H => ?_
 refine then_normal (wp_seq (w_region ?_))
 refine H.go HP 3 [(3, (ii fr)), (4, (.bool (decide (fr ≥ 0)))), (5, (.bool (decide (fr ≥ 0))))] [] fun a H => ?_
 refine H.split 5 rfl (fun g5 H => ?_) (fun g5 H => ?_)
 ·have g5p := of_decide_eq_true g5
  refine H.ge HP [(2, (.bool (decide (fr ≤ 100000000))))] [] fun a H => ?_
  refine then_normal (wp_ret ?_)
  refine H.ret1 (fn := Tryz.f136) Tryz.results136 (RV.tmp_ (v := (.bool (decide (fr ≤ 100000000)))) (by kernel_rfl)) ?_
  exact ⟨by unfold frameOk; simp; omega, rfl⟩
 have g5p := of_decide_eq_false g5
 refine H.ge HP [(2, (.bool false))] [] fun a H => ?_
 refine then_normal (wp_ret ?_)
 refine H.ret1 (fn := Tryz.f136) Tryz.results136 (RV.tmp_ (v := (.bool false)) (by kernel_rfl)) ?_
 exact ⟨by unfold frameOk; simp; omega, rfl⟩
set_option maxRecDepth 100000 in
set_option maxHeartbeats 4000000 in
theorem find_any (n d : Int) (w : World) (hL : Laid w) :
  Calls Tryz.prog 83 #[.agg #[.int .i64 n, .int .i64 d]] w fun e w' => ∃ i0 i1 i2 i3, e = .returned (.tuple #[.agg #[.int .i64 i0, .int .i64 i1, .int .i64 i2, .int .i64 i3], .bool (rateOk n d)]) ∧ Below w.heap.size w w' := by
 have HP := Hp.start w
 refine w_enter 17 [(0, (.agg #[(ii n), (ii d)]))] Tryz.func83 rfl Tryz.ntmps83 (by kernel_rfl) (by kernel_rfl) fun a H => ?_
 refine wp_seq (w_region ?_)
 refine H.alloc HP 1 (fun b => (pt b 0)) 58 [(ii n), (ii d)] (by kernel_rfl) (fun w => by kernel_rfl) fun b_1 w_2 a H HP => H.alloc HP 2 (fun b => (pt b 0)) 175 [(ii 0), (ii 0), (ii 0), (ii 0)] (by kernel_rfl) (fun w => by kernel_rfl) fun b_3 w_4 a H HP => ?_
 refine H.ge HP [(3, (.bool false))] [] fun a H => ?_
 refine then_normal (wp_seq (wp_seq (w_region ?_)))
 refine H.u 6 (.agg #[(ii 24000), (ii 1001), (ii 24), (ii 0), (ii 24), (ii 1), (ii 24), (ii 0), (ii 25), (ii 1), (ii 25), (ii 0), (ii 30000), (ii 1001), (ii 30), (ii 2), (ii 30), (ii 1), (ii 30), (ii 0), (ii 50), (ii 1), (ii 50), (ii 0), (ii 60000), (ii 1001), (ii 60), (ii 4), (ii 60), (ii 1), (ii 60), (ii 0)]) (ex_loadN (vs := [(ii 24000), (ii 1001), (ii 24), (ii 0), (ii 24), (ii 1), (ii 24), (ii 0), (ii 25), (ii 1), (ii 25), (ii 0), (ii 30000), (ii 1001), (ii 30), (ii 2), (ii 30), (ii 1), (ii 30), (ii 0), (ii 50), (ii 1), (ii 50), (ii 0), (ii 60000), (ii 1001), (ii 60), (ii 4), (ii 60), (ii 1), (ii 60), (ii 0)]) (by kernel_rfl) (by kernel_rfl) (by kernel_rfl) rfl (laid_rates (hL.below HP.bl))) fun a H => ?_
 refine H.ge HP [(7, (ii 0))] [] fun a H => ?_
 refine then_normal (wp_block ?_)
 refine w_loop (fun mm a wv => ∃ (j : Nat), 8 - j = mm ∧ Sl 17 [(7, (ii j)), (6, (.agg #[(ii 24000), (ii 1001), (ii 24), (ii 0), (ii 24), (ii 1), (ii 24), (ii 0), (ii 25), (ii 1), (ii 25), (ii 0), (ii 30000), (ii 1001), (ii 30), (ii 2), (ii 30), (ii 1), (ii 30), (ii 0), (ii 50), (ii 1), (ii 50), (ii 0), (ii 60000), (ii 1001), (ii 60), (ii 4), (ii 60), (ii 1), (ii 60), (ii 0)])), (1, (pt b_1 0)), (2, (pt b_3 0)), (3, (.bool false))] a ∧ Hp w wv [bx b_3 175 [(ii 0), (ii 0), (ii 0), (ii 0)] true, bx b_1 58 [(ii n), (ii d)] true] [] ∧ (j ≤ 8) ∧ ((rateTab.take j).any (fun p => p.1 == n && p.2 == d) = false)) (8 - 0) ?_ ?_
 ·exact ⟨0, (by omega), H.keep (by kernel_rfl), HP, by omega, rfl⟩
 rintro mm a w_5 ⟨j, hmeas, H, HP, hj, hno⟩
 refine wp_seq (w_region ?_)
 refine H.ge HP [(8, (.bool (decide ((j : Int) < 8))))] [] fun a H => ?_
 refine then_normal (wp_seq ?_)
 refine w_if H rfl (fun g8 => ?_) (fun g8 => ?_)
 ·have g8p := of_decide_eq_true g8
  refine wp_skip (then_normal (wp_seq (wp_block (wp_seq ?_))))
  have hj8 : j = 0 ∨ j = 1 ∨ j = 2 ∨ j = 3 ∨ j = 4 ∨ j = 5 ∨ j = 6 ∨ j = 7 := by omega
  refine w_region ?_
  refine H.u 9 (.agg #[(ii ((rateTab.getD j (0, 0)).1)), (ii ((rateTab.getD j (0, 0)).2)), (ii ((rateBase.getD j (0, 0)).1)), (ii ((rateBase.getD j (0, 0)).2))]) ((by rcases hj8 with rfl | rfl | rfl | rfl | rfl | rfl | rfl | rfl <;> kernel_rfl)) fun a H => H.alloc HP 5 (fun b => (pt b 0)) 175 [(ii 0), (ii 0), (ii 0), (ii 0)] (by kernel_rfl) (fun w => by kernel_rfl) fun b_6 w_7 a H HP => H.sh HP 0 0 (.agg #[(ii ((rateTab.getD j (0, 0)).1)), (ii ((rateTab.getD j (0, 0)).2)), (ii ((rateBase.getD j (0, 0)).1)), (ii ((rateBase.getD j (0, 0)).2))]) rfl fun w_8 a H HP => ?_
  refine wpList_nil (then_normal (wp_seq (w_region ?_)))
  refine H.go HP 3 [(11, (.agg #[(ii ((rateTab.getD j (0, 0)).1)), (ii ((rateTab.getD j (0, 0)).2))])), (12, (.agg #[(ii n), (ii d)]))] [0, 2] fun a H => H.u 13 (.bool ((((rateTab.getD j (0, 0)).1) == n) && (((rateTab.getD j (0, 0)).2) == d))) (ex_eq2 (a0 := ((rateTab.getD j (0, 0)).1)) (a1 := ((rateTab.getD j (0, 0)).2)) (b0 := n) (b1 := d) (by kernel_rfl) (by kernel_rfl)) fun a H => ?_
  refine wpList_nil (then_normal ?_)
  refine w_if H rfl (fun g13 => ?_) (fun g13 => ?_)
  ·have g13p := g13
   refine wp_seq (w_region ?_)
   refine H.go HP 1 [(14, (.agg #[(ii ((rateTab.getD j (0, 0)).1)), (ii ((rateTab.getD j (0, 0)).2)), (ii ((rateBase.getD j (0, 0)).1)), (ii ((rateBase.getD j (0, 0)).2))]))] [0] fun a H => H.sh HP 1 0 (.agg #[(ii ((rateTab.getD j (0, 0)).1)), (ii ((rateTab.getD j (0, 0)).2)), (ii ((rateBase.getD j (0, 0)).1)), (ii ((rateBase.getD j (0, 0)).2))]) rfl fun w_9 a H HP => ?_
   refine H.ge HP [(3, (.bool true))] [] fun a H => ?_
   refine then_normal (wp_ret (inb_ret (then_ret (then_ret (inb_ret (then_ret ?_))))))
   refine H.ret2 (fn := Tryz.f83) Tryz.results83 (RV.cellN (vs := [(ii ((rateTab.getD j (0, 0)).1)), (ii ((rateTab.getD j (0, 0)).2)), (ii ((rateBase.getD j (0, 0)).1)), (ii ((rateBase.getD j (0, 0)).2))]) (b := b_3) (off := 0) (k := 4) (by kernel_rfl) (by kernel_rfl) (by kernel_rfl) rfl (HP.cells 1 rfl 0 4 (by kernel_rfl))) (RV.tmp_ (v := (.bool true)) (by kernel_rfl)) ?_
   exact ⟨_, _, _, _, by rw [rateOk_hit (j := j) (by omega) g13], HP.bl⟩
  have g13p := g13
  refine wp_skip (inb_normal (then_normal (w_region ?_)))
  refine H.wi 15 ((j : Int) + 1) fun a H => ?_
  refine H.ge HP [(7, (ii ((j : Int) + 1)))] [] fun a H => ?_
  refine then_normal ?_
  have H := H.as 7 (ii ((j + 1 : Nat) : Int)) rfl rfl
  refine ⟨_, ?_, j + 1, rfl, H.keep (by kernel_rfl), (HP.tail rfl), by omega, any_snoc (by omega) hno g13⟩
  omega
 have g8p := of_decide_eq_false g8
 refine wp_exit (then_exit (then_exit ?_))
 refine w_exit_here ?_
 refine then_normal (wp_seq (w_region ?_))
 refine H.go HP 1 [(16, (.agg #[(ii 0), (ii 0), (ii 0), (ii 0)]))] [] fun a H => H.sh HP 0 0 (.agg #[(ii 0), (ii 0), (ii 0), (ii 0)]) rfl fun w_10 a H HP => ?_
 refine H.ge HP [(3, (.bool false))] [] fun a H => ?_
 refine then_normal (wp_ret ?_)
 refine H.ret2 (fn := Tryz.f83) Tryz.results83 (RV.cellN (vs := [(ii 0), (ii 0), (ii 0), (ii 0)]) (b := b_3) (off := 0) (k := 4) (by kernel_rfl) (by kernel_rfl) (by kernel_rfl) rfl (HP.cells 0 rfl 0 4 (by kernel_rfl))) (RV.tmp_ (v := (.bool false)) (by kernel_rfl)) ?_
 exact ⟨_, _, _, _, by rw [rateOk_no (j := j) (by omega) hno], HP.bl⟩
set_option maxRecDepth 100000 in
set_option maxHeartbeats 4000000 in
theorem tvalid_any (n d : Int) (w : World) (hL : Laid w) :
  Calls Tryz.prog 49 #[.agg #[.int .i64 n, .int .i64 d]] w fun e w' => e = .returned (.bool (rateOk n d)) ∧ Below w.heap.size w w' := by
 have HP := Hp.start w
 refine w_enter 11 [(0, (.agg #[(ii n), (ii d)]))] Tryz.func49 rfl Tryz.ntmps49 (by kernel_rfl) (by kernel_rfl) fun a H => ?_
 refine wp_seq (w_region ?_)
 refine H.alloc HP 1 (fun b => (pt b 0)) 58 [(ii n), (ii d)] (by kernel_rfl) (fun w => by kernel_rfl) fun b_1 w_2 a H HP => ?_
 refine H.ge HP [(2, (.bool false))] [] fun a H => ?_
 refine then_normal (wp_seq (w_region ?_))
 refine H.go HP 1 [(6, (.agg #[(ii n), (ii d)]))] [0] fun a H => ?_
 refine H.call 7 (by kernel_rfl) (Eq.trans (by kernel_rfl : _ = (callFunc 83 #[(.agg #[(ii n), (ii d)])]).run Tryz.prog w_2) (Tryz.call83 _ _)) (find_any n d w_2 (hL.below HP.bl)) ?_
 rintro e w_3 ⟨i0, i1, i2, i3, rfl, hb⟩
 refine ⟨_, rfl, ?_⟩
 intro a H
 have HP := HP.next hb
 refine H.go HP 3 [(5, (.tuple #[(.agg #[(ii i0), (ii i1), (ii i2), (ii i3)]), (.bool (rateOk n d))])), (8, (.agg #[(ii i0), (ii i1), (ii i2), (ii i3)])), (9, (.bool (rateOk n d)))] [] fun a H => H.alloc HP 3 (fun b => (pt b 0)) 175 [(ii 0), (ii 0), (ii 0), (ii 0)] (by kernel_rfl) (fun w => by kernel_rfl) fun b_4 w_5 a H HP => H.sh HP 0 0 (.agg #[(ii i0), (ii i1), (ii i2), (ii i3)]) rfl fun w_6 a H HP => ?_
 refine H.ge HP [(4, (.bool (rateOk n d)))] [] fun a H => ?_
 refine then_normal (wp_seq (w_region ?_))
 refine H.ge HP [(2, (.bool (rateOk n d)))] [] fun a H => ?_
 refine then_normal (wp_ret ?_)
 refine H.ret1 (fn := Tryz.f49) Tryz.results49 (RV.tmp_ (v := (.bool (rateOk n d))) (by kernel_rfl)) ?_
 exact ⟨rfl, HP.bl⟩
set_option maxRecDepth 100000 in
set_option maxHeartbeats 4000000 in
theorem ticks_any (n d fr : Int) (w : World) (hL : Laid w) (hv : rateOk n d = true) (hf : 0 ≤ fr ∧ fr ≤ 100000000) :
  Calls Tryz.prog 87 #[.agg #[.int .i64 n, .int .i64 d], .int .i64 fr] w fun e w' => e = .returned (ii (ticksP n d fr)) ∧ Below w.heap.size w w' := by
 have HP := Hp.start w
 refine w_enter 22 [(0, (.agg #[(ii n), (ii d)])), (1, (ii fr))] Tryz.func87 rfl Tryz.ntmps87 (by kernel_rfl) (by kernel_rfl) fun a H => ?_
 refine wp_seq (w_region ?_)
 refine H.alloc HP 2 (fun b => (pt b 0)) 58 [(ii n), (ii d)] (by kernel_rfl) (fun w => by kernel_rfl) fun b_1 w_2 a H HP => ?_
 refine H.ge HP [(4, (ii 0))] [] fun a H => ?_
 refine then_normal (wp_seq (wp_seq (w_region ?_)))
 refine H.go HP 1 [(5, (.agg #[(ii n), (ii d)]))] [0] fun a H => ?_
 refine H.call 6 (by kernel_rfl) (Eq.trans (by kernel_rfl : _ = (callFunc 49 #[(.agg #[(ii n), (ii d)])]).run Tryz.prog w_2) (Tryz.call49 _ _)) ((by have hh := tvalid_any n d w_2 (hL.below HP.bl); rw [hv] at hh; exact hh)) ?_
 rintro e w_3 ⟨rfl, hb⟩
 refine ⟨_, rfl, ?_⟩
 intro a H
 have HP := HP.next hb
 refine H.go HP 3 [(8, (.bool false)), (9, (ii fr))] [] fun a H => ?_
 refine H.call 10 (by kernel_rfl) (Eq.trans (by kernel_rfl : _ = (callFunc 136 #[(ii fr)]).run Tryz.prog w_3) (Tryz.call136 _ _)) ((by have hh := isFrame_any fr w_3; rw [frameOk_of hf] at hh; exact hh)) ?_
 rintro e w_4 ⟨rfl, hw⟩
 refine ⟨_, rfl, ?_⟩
 intro a H
 have HP := hw ▸ HP
 refine H.ge HP [(12, (.bool false))] [] fun a H => ?_
 refine then_normal ?_
 refine w_iff H rfl ?_
 refine wp_skip (then_normal (wp_seq ?_))
 obtain ⟨rn1, rn2, rd1, rd2⟩ := rateOk_bd hv
 have hm1 : 0 ≤ fr * 90000 * d := Int.mul_nonneg (by omega) (by omega)
 have hm2 : fr * 90000 * d ≤ 9000000000000 * 1001 := Int.mul_le_mul (by omega) (by omega) (by omega) (by omega)
 have hm3 : 0 ≤ fr * 90000 * d / n := Int.ediv_nonneg hm1 (by omega)
 have hm4 : fr * 90000 * d / n ≤ fr * 90000 * d := Int.ediv_le_self _ hm1
 refine w_region ?_
 refine H.go HP 1 [(13, (ii fr))] [] fun a H => H.wi 14 (fr * 90000) fun a H => H.go HP 2 [(16, (ii d))] [0] fun a H => H.valE 17 (ii (IntKind.i64.wrap ((fr * 90000) * d))) (ii (fr * 90000 * d)) (by kernel_rfl) (by kernel_rfl) ((by rw [wrap_ini64 _ (by omega)])) fun a H => H.go HP 2 [(19, (ii n))] [0] fun a H => H.valE 20 (ii (IntKind.i64.wrap ((fr * 90000 * d).tdiv n))) (ii (fr * 90000 * d / n)) (by kernel_rfl) (ex_quo (k := .i64) (by kernel_rfl) (by kernel_rfl) (by omega)) ((congrArg (Value.int .i64) (by rw [tdiv_nn _ _ (by omega), wrap_ini64 _ (by omega)]))) fun a H => H.valE 21 (ii ((fr * 90000 * d / n).tmod 8589934592)) (ii ((fr * 90000 * d / n) % 8589934592)) (by kernel_rfl) (by kernel_rfl) ((by rw [tmod_nn _ _ (by omega)])) fun a H => ?_
 refine H.ge HP [(4, (ii ((fr * 90000 * d / n) % 8589934592)))] [] fun a H => ?_
 refine then_normal (wp_ret ?_)
 refine H.ret1 (fn := Tryz.f87) Tryz.results87 (RV.tmp_ (v := (ii ((fr * 90000 * d / n) % 8589934592))) (by kernel_rfl)) ?_
 exact ⟨rfl, HP.bl⟩
set_option maxRecDepth 100000 in
set_option maxHeartbeats 4000000 in
theorem putString_any (l : List UInt8) (w : World) (hl : l.length ≤ 65536) :
  Calls Tryz.prog 141 #[.string (bstr l)] w fun e w' => e = .returned (.tuple #[.string (bstr (encStr l)), .int .i64 0]) ∧ Below w.heap.size w w' := by
 have HP := Hp.start w
 refine w_enter 21 [(0, (.string (bstr l)))] Tryz.func141 rfl Tryz.ntmps141 (by kernel_rfl) (by kernel_rfl) fun a H => ?_
 refine wp_seq (w_region ?_)
 refine H.ge HP [(2, (.string (bstr ([])))), (3, (ii 0))] [] fun a H => ?_
 refine then_normal (wp_seq (wp_seq (w_region ?_)))
 refine H.ge HP [(8, (.bool (decide ((l.length : Int) > 65536))))] [] fun a H => ?_
 refine then_normal ?_
 refine w_if H rfl (fun g8 => ?_) (fun g8 => ?_)
 ·have g8p := of_decide_eq_true g8
  exfalso; omega
 have g8p := of_decide_eq_false g8
 refine wp_skip (then_normal (wp_seq (w_region ?_)))
 refine H.go HP 2 [(11, (ii l.length))] [] fun a H => ?_
 refine H.call 12 (by kernel_rfl) (Eq.trans (by kernel_rfl : _ = (callFunc 138 #[(ii l.length)]).run Tryz.prog w) (Tryz.call138 _ _)) (putInt_any (l.length : Int) w (by unfold wmax; omega) (by unfold wmax; omega)) ?_
 rintro e w_1 ⟨rfl, hb⟩
 refine ⟨_, rfl, ?_⟩
 intro a H
 have HP := HP.next hb
 refine H.ge HP [(4, (.string (bstr (encInt (l.length : Int))))), (5, (ii 0))] [] fun a H => ?_
 refine then_normal (wp_seq (wp_seq (w_region ?_)))
 refine H.ge HP [(16, (.bool false))] [] fun a H => ?_
 refine then_normal ?_
 refine w_iff H rfl ?_
 refine wp_skip (then_normal (wp_seq (w_region ?_)))
 refine H.go HP 2 [(18, (.string (bstr (encInt (l.length : Int))))), (19, (.string (bstr l)))] [] fun a H => H.u 20 (.string (bstr ((encInt (l.length : Int)) ++ l))) (ex_sadd (by kernel_rfl) (by kernel_rfl) (by have := (encInt_len (l.length : Int)).2; omega)) fun a H => ?_
 refine H.ge HP [(2, (.string (bstr ((encInt (l.length : Int)) ++ l)))), (3, (ii 0))] [] fun a H => ?_
 refine then_normal (wp_ret ?_)
 refine H.ret2 (fn := Tryz.f141) Tryz.results141 (RV.tmp_ (v := (.string (bstr ((encInt (l.length : Int)) ++ l)))) (by kernel_rfl)) (RV.tmp_ (v := (ii 0)) (by kernel_rfl)) ?_
 exact ⟨rfl, HP.bl⟩
set_option maxRecDepth 100000 in
set_option maxHeartbeats 4000000 in
theorem string_none (l : List UInt8) (k : Nat) (w : World) (hl : l.length ≤ 9000000000000000000) (hk : k ≤ l.length) (hR : rdInt l k = none) :
  Calls Tryz.prog 191 #[.string (bstr l), .int .i64 k] w fun e w' => e = .returned (str3 none) ∧ w = w' := by
 have HP := Hp.start w
 refine w_enter 43 [(0, (.string (bstr l))), (1, (ii k))] Tryz.func191 rfl Tryz.ntmps191 (by kernel_rfl) (by kernel_rfl) fun a H => ?_
 refine wp_seq (w_region ?_)
 refine H.ge HP [(4, (.string (bstr ([])))), (5, (ii 0)), (6, (ii 0))] [] fun a H => ?_
 refine then_normal (wp_seq (w_region ?_))
 refine H.go HP 2 [(11, (.string (bstr l))), (12, (ii k))] [] fun a H => ?_
 refine H.call 13 (by kernel_rfl) (Eq.trans (by kernel_rfl : _ = (callFunc 190 #[(.string (bstr l)), (ii k)]).run Tryz.prog w) (Tryz.call190 _ _)) ((by have hh := wint_any (bstr l) k w hl hk; rw [show (bstr l).data.toList = l from rfl, hR] at hh; exact hh)) ?_
 rintro e w_1 ⟨rfl, hw⟩
 refine ⟨_, rfl, ?_⟩
 intro a H
 have HP := hw ▸ HP
 refine H.ge HP [(7, (ii 0)), (8, (ii 0)), (9, (ii 10))] [] fun a H => ?_
 refine then_normal (wp_seq (wp_seq (w_region ?_)))
 refine H.ge HP [(18, (.bool true))] [] fun a H => ?_
 refine then_normal ?_
 refine w_ift H rfl ?_
 refine wp_seq (w_region ?_)
 refine H.ge HP [(4, (.string (bstr ([])))), (5, (ii 0)), (6, (ii 10))] [] fun a H => ?_
 refine then_normal (wp_ret (then_ret ?_))
 refine H.ret3 (fn := Tryz.f191) Tryz.results191 (RV.tmp_ (v := (.string (bstr ([])))) (by kernel_rfl)) (RV.tmp_ (v := (ii 0)) (by kernel_rfl)) (RV.tmp_ (v := (ii 10)) (by kernel_rfl)) ?_
 exact ⟨rfl, hw⟩
set_option maxRecDepth 100000 in
set_option maxHeartbeats 4000000 in
theorem string_some (l : List UInt8) (k : Nat) (w : World) (hl : l.length ≤ 9000000000000000000) (hk : k ≤ l.length) (n : Int) (e : Nat) (hR : rdInt l k = some (n, e)) :
  Calls Tryz.prog 191 #[.string (bstr l), .int .i64 k] w fun e w' => e = .returned (str3 (rdStr l k)) ∧ w = w' := by
 obtain ⟨hc1, hc2, hc3, hc4, _⟩ := rdInt_canon hk hR
 unfold wmax at hc1 hc2
 have HP := Hp.start w
 refine w_enter 43 [(0, (.string (bstr l))), (1, (ii k))] Tryz.func191 rfl Tryz.ntmps191 (by kernel_rfl) (by kernel_rfl) fun a H => ?_
 refine wp_seq (w_region ?_)
 refine H.ge HP [(4, (.string (bstr ([])))), (5, (ii 0)), (6, (ii 0))] [] fun a H => ?_
 refine then_normal (wp_seq (w_region ?_))
 refine H.go HP 2 [(11, (.string (bstr l))), (12, (ii k))] [] fun a H => ?_
 refine H.call 13 (by kernel_rfl) (Eq.trans (by kernel_rfl : _ = (callFunc 190 #[(.string (bstr l)), (ii k)]).run Tryz.prog w) (Tryz.call190 _ _)) ((by have hh := wint_any (bstr l) k w hl hk; rw [show (bstr l).data.toList = l from rfl, hR] at hh; exact hh)) ?_
 rintro e w_1 ⟨rfl, hw⟩
 refine ⟨_, rfl, ?_⟩
 intro a H
 have HP := hw ▸ HP
 refine H.ge HP [(7, (ii n)), (8, (ii e)), (9, (ii 0))] [] fun a H => ?_
 refine then_normal (wp_seq (wp_seq (w_region ?_)))
 refine H.ge HP [(18, (.bool false))] [] fun a H => ?_
 refine then_normal ?_
 refine w_iff H rfl ?_
 refine wp_skip (then_normal (wp_seq (wp_seq (w_region ?_))))
 refine H.go HP 3 [(22, (.bool (decide (n < 0))))] [] fun a H => ?_
 refine H.split 22 rfl (fun g22 H => ?_) (fun g22 H => ?_)
 ·have g22p := of_decide_eq_true g22
  refine H.ge HP [(33, (.bool true))] [] fun a H => ?_
  refine then_normal ?_
  refine w_ift H rfl ?_
  refine wp_seq (w_region ?_)
  refine H.ge HP [(4, (.string (bstr ([])))), (5, (ii 0)), (6, (ii 10))] [] fun a H => ?_
  refine then_normal (wp_ret (then_ret ?_))
  refine H.ret3 (fn := Tryz.f191) Tryz.results191 (RV.tmp_ (v := (.string (bstr ([])))) (by kernel_rfl)) (RV.tmp_ (v := (ii 0)) (by kernel_rfl)) (RV.tmp_ (v := (ii 10)) (by kernel_rfl)) ?_
  exact ⟨by unfold rdStr; rw [hR]; simp only; rw [if_pos (by omega)]; rfl, hw⟩
 have g22p := of_decide_eq_false g22
 refine H.go HP 4 [(26, (.bool (decide (n > 65536))))] [] fun a H => ?_
 refine H.split 26 rfl (fun g26 H => ?_) (fun g26 H => ?_)
 ·have g26p := of_decide_eq_true g26
  refine H.ge HP [(33, (.bool true))] [] fun a H => ?_
  refine then_normal ?_
  refine w_ift H rfl ?_
  refine wp_seq (w_region ?_)
  refine H.ge HP [(4, (.string (bstr ([])))), (5, (ii 0)), (6, (ii 10))] [] fun a H => ?_
  refine then_normal (wp_ret (then_ret ?_))
  refine H.ret3 (fn := Tryz.f191) Tryz.results191 (RV.tmp_ (v := (.string (bstr ([])))) (by kernel_rfl)) (RV.tmp_ (v := (ii 0)) (by kernel_rfl)) (RV.tmp_ (v := (ii 10)) (by kernel_rfl)) ?_
  exact ⟨by unfold rdStr; rw [hR]; simp only; rw [if_pos (by omega)]; rfl, hw⟩
 have g26p := of_decide_eq_false g26
 refine H.go HP 4 [(27, (ii n)), (29, (ii l.length)), (30, (ii e))] [] fun a H => H.wi 31 ((l.length : Int) - (e : Int)) fun a H => ?_
 refine H.ge HP [(33, (.bool (decide (n > ((l.length : Int) - (e : Int))))))] [] fun a H => ?_
 refine then_normal ?_
 refine w_if H rfl (fun g33 => ?_) (fun g33 => ?_)
 ·have g33p := of_decide_eq_true g33
  refine wp_seq (w_region ?_)
  refine H.ge HP [(4, (.string (bstr ([])))), (5, (ii 0)), (6, (ii 10))] [] fun a H => ?_
  refine then_normal (wp_ret (then_ret ?_))
  refine H.ret3 (fn := Tryz.f191) Tryz.results191 (RV.tmp_ (v := (.string (bstr ([])))) (by kernel_rfl)) (RV.tmp_ (v := (ii 0)) (by kernel_rfl)) (RV.tmp_ (v := (ii 10)) (by kernel_rfl)) ?_
  exact ⟨by unfold rdStr; rw [hR]; simp only; rw [if_pos (by omega)]; rfl, hw⟩
 have g33p := of_decide_eq_false g33
 refine wp_skip (then_normal (wp_seq ?_))
 obtain ⟨m, rfl⟩ : ∃ m : Nat, n = m := ⟨n.toNat, by omega⟩
 refine w_region ?_
 refine H.go HP 4 [(34, (.string (bstr l))), (35, (ii e)), (36, (ii e)), (37, (ii m))] [] fun a H => H.valE 38 (ii (IntKind.i64.wrap ((e : Int) + (m : Int)))) (ii ((e + m : Nat) : Int)) (by kernel_rfl) (by kernel_rfl) ((congrArg (Value.int .i64) (by rw [wrap_ini64 _ (by omega)]; omega))) fun a H => H.u 39 (.string (bstr ((l.drop e).take ((e + m) - e)))) (ex_sslice (k := .i64) (kk := .i64) (l := l) (i := (e : Int)) (j := ((e + m : Nat) : Int)) (a := e) (b := (e + m)) (by kernel_rfl) (by kernel_rfl) (by kernel_rfl) (by kernel_rfl) (by omega) (by omega) (by omega) (by omega)) fun a H => H.go HP 2 [(40, (ii e)), (41, (ii m))] [] fun a H => H.valE 42 (ii (IntKind.i64.wrap ((e : Int) + (m : Int)))) (ii ((e + m : Nat) : Int)) (by kernel_rfl) (by kernel_rfl) ((congrArg (Value.int .i64) (by rw [wrap_ini64 _ (by omega)]; omega))) fun a H => ?_
 refine H.ge HP [(4, (.string (bstr ((l.drop e).take ((e + m) - e))))), (5, (ii ((e + m : Nat) : Int))), (6, (ii 0))] [] fun a H => ?_
 refine then_normal (wp_ret ?_)
 refine H.ret3 (fn := Tryz.f191) Tryz.results191 (RV.tmp_ (v := (.string (bstr ((l.drop e).take ((e + m) - e))))) (by kernel_rfl)) (RV.tmp_ (v := (ii ((e + m : Nat) : Int))) (by kernel_rfl)) (RV.tmp_ (v := (ii 0)) (by kernel_rfl)) ?_
 exact ⟨by unfold rdStr; rw [hR]; simp only; rw [if_neg (by omega)]; simp only [Int.toNat_natCast, Nat.add_sub_cancel_left, str3], hw⟩
theorem string_any (l : List UInt8) (k : Nat) (w : World) (hl : l.length ≤ 9000000000000000000) (hk : k ≤ l.length) :
  Calls Tryz.prog 191 #[.string (bstr l), .int .i64 k] w fun e w' => e = .returned (str3 (rdStr l k)) ∧ w = w' := by
 cases hR : rdInt l k with
 | none =>
  have e : rdStr l k = none := by unfold rdStr; rw [hR]
  rw [e]
  exact string_none l k w hl hk hR
 | some p => exact string_some l k w hl hk p.1 p.2 hR
open Go.Shelf
def bldG (T e : TypeId) (base b : Nat) (v : Value) (bs : List UInt8) : HB :=
  ⟨fun k => k = b ∨ v.ownBlock = some k, fun w => base ≤ b ∧ (∃ p, (p = .pointer none ∨ p = .pointer (some ⟨b, 0, none⟩)) ∧ w.heap[b]? = some (.cells #[p, v] T (0, 0))) ∧ w.ownsRowF base e 1 v bs.length (Lib.byteCells bs) ∧ v.ownBlock ≠ some b, true, none, fun _ _ h => by cases h⟩
abbrev bldR (base b : Nat) (v : Value) (bs : List UInt8) : HB := bldG 138 5 base b v bs
theorem ownF_keep {w1 w2 : World} {base : Nat} {e : TypeId} {size n : Nat} {v : Value} {xs : List Value} (h : w1.ownsRowF base e size v n xs) (hk : ∀ k, v.ownBlock = some k → w2.heap[k]? = w1.heap[k]?) : w2.ownsRowF base e size v n xs := by
  refine ⟨h.1, ?_⟩
  rcases h.2 with h2 | ⟨g, cap, cur, fz, hv, hb, hg, r⟩
  · exact .inl h2
  · exact .inr ⟨g, cap, cur, fz, hv, hb, (hk g (by rw [hv]; rfl)).trans hg, r⟩
theorem bldG_ok (T e : TypeId) (base b : Nat) (v : Value) (bs : List UInt8) : (bldG T e base b v bs).ok := fun w1 w2 h hk _ => by
  obtain ⟨h1, ⟨p, hp, hb⟩, h3, h4⟩ := h
  exact ⟨h1, ⟨p, hp, (hk b (.inl rfl)).trans hb⟩, ownF_keep h3 fun k hv => hk k (.inr hv), h4⟩
theorem bldG_lt {T e : TypeId} {base b : Nat} {v : Value} {bs : List UInt8} {w : World} (h : (bldG T e base b v bs).F w) : ∀ k, (bldG T e base b v bs).fp k → k < w.heap.size := by
  obtain ⟨h1, ⟨p, hp, hb⟩, h3, h4⟩ := h
  intro k hk
  rcases hk with rfl | hk
  · exact (Array.getElem?_eq_some_iff.1 hb).1
  · exact (h3.lt k hk).2
theorem Hp.toBld {w0 w : World} {L : List HB} {K : List FK} (H : Hp w0 w L K) (i : Nat) {b : Nat} {T : TypeId} (e : TypeId) (hi : L[i]? = some (bx b T [.pointer none, .slice none 0 0] true)) (L' : List HB) (hL : L.set i (bldG T e w0.heap.size b (.slice none 0 0) []) = L') : Hp w0 w L' K := by
  have hb := H.at_ i hi
  have hf := H.fresh _ (List.mem_of_getElem? hi) rfl b rfl
  refine H.mut i hi _ L' hL ⟨rfl, rfl, rfl, Nat.le_refl _, fun _ _ _ => rfl⟩ ⟨hf, ⟨_, .inl rfl, hb⟩, World.ownsRowF_nil _ _ _ _, by simp [Value.ownBlock]⟩ (bldG_ok _ _ _ _ _ _) (fun k hk => ?_) (fun k hk => ?_) (fun k hk _ => .inl (by
    rename_i hx; exact hx)) rfl
  · rcases hk with rfl | hk
    · exact hb.lt
    · cases hk
  · rcases hk with rfl | hk
    · exact .inl rfl
    · cases hk
theorem Hp.wrote {w0 w w' : World} {L : List HB} {K : List FK} (H : Hp w0 w L K) (i : Nat) {T e : TypeId} {b : Nat} {v v' : Value} {bs bs' : List UInt8} (hi : L[i]? = some (bldG T e w0.heap.size b v bs)) (L' : List HB) (hL : L.set i (bldG T e w0.heap.size b v' bs') = L') (hF : (bldG T e w0.heap.size b v' bs').F w') (hag : Agree w w' (bldG T e w0.heap.size b v bs).fp) (hv : ∀ k, v'.ownBlock = some k → v.ownBlock = some k ∨ w.heap.size ≤ k) : Hp w0 w' L' K := by
  refine H.mut i hi _ L' hL hag hF (bldG_ok _ _ _ _ _ _) (bldG_lt hF) (fun k hk => ?_) (fun k hk hx => ?_) rfl
  · rcases hk with rfl | hk
    · exact .inl (.inl rfl)
    · rcases hv k hk with h | h
      · exact .inl (.inr h)
      · exact .inr h
  · have := H.fresh _ (List.mem_of_getElem? hi) rfl k hx
    omega
section
variable {P : Program} (w : World)
theorem run_append_strF (base : Nat) (t u ty e : TypeId) (i : TypeInfo) (ht : P.underlying t = some (.slice e)) (hu : P.underlying u = some .string) (hi : P.info? e = some i) (hz : i.zero = some (.int .u8 0))
    (hsize : i.size = 1) (hby : i.bytes = 1)
    (v : Value) (n : Nat) (xs : List Value) (hown : w.ownsRowF base e 1 v n xs) (s : ByteArray)
    (h63 : n + s.size ≤ maxLen) (hbytes : n + s.size ≤ 140737488355328) (hbase : base ≤ w.heap.size) :
    ∃ v' w', (Builtin.append_ #[t, u] ty #[v, .string s]).run P w = .ok v' w' ∧ w'.ownsRowF base e 1 v' (n + s.size) (xs ++ Lib.strCells s) ∧ w.grownBy w' v.ownBlock ∧ ∀ k, v'.ownBlock = some k → v.ownBlock = some k ∨ w.heap.size ≤ k := by
  rcases hown.2 with ⟨rfl, rfl⟩ | ⟨g, cap, cur, fz, rfl, hbg, hg, hfz, hnc, hcm, hcs, htake⟩
  · obtain ⟨v', w', h1, h2, h3, h4⟩ := Lib.run_append_own_stringF (P := P) w w.heap.size t u ty e i ht hu hi hz hsize hby (.slice none 0 0) 0 xs ⟨hown.1, .inl ⟨rfl, rfl⟩⟩ s h63 hbytes (Nat.le_refl _)
    refine ⟨v', w', h1, ⟨h2.1, ?_⟩, h3, fun k hk => .inr (h2.lt k hk).1⟩
    rcases h2.2 with h2 | ⟨g, cap, cur, fz, hv, hb, r⟩
    · exact .inl h2
    · exact .inr ⟨g, cap, cur, fz, hv, Nat.le_trans hbase hb, r⟩
  · have hsmall : n + s.size ≤ 9223372036854775807 := by simp only [maxLen] at h63; omega
    have hxl : xs.length = n := by simpa using hown.1
    have hlen : (xs ++ Lib.strCells s).length = (n + s.size) * 1 := by rw [List.length_append, hxl, Lib.strCells_length, Nat.mul_one]
    by_cases hroom : n + s.size ≤ cap
    · have hcs' : cur.size = cap := by simpa using hcs
      have hr := Lib.run_append_room_stringF (P := P) w t u ty e i ht hu hi hsize g n cap cur fz hg (by simpa using hfz) s hroom (by omega)
      refine ⟨_, _, hr, ⟨hlen, .inr ⟨g, cap, _, fz, rfl, hbg, setRow_heap w g cur _ e _ hg, by omega, hroom, hcm, ?_, ?_⟩⟩, ⟨rfl, rfl, rfl, by simp, fun k _ hk => setRow_other w g k _ (fun e => hk (by simp [Value.ownBlock, e]))⟩, fun k hk => .inl hk⟩
      · simp only [List.size_toArray, List.length_append, List.length_take, List.length_drop, Array.length_toList, Lib.strCells_length]
        omega
      · have ht' : cur.toList.take n = xs := by simpa using htake
        rw [ht', ← hlen]
        exact List.take_left
    · have holds : ∀ j u, xs[j]? = some u → w.cell? ((⟨g, 0, none⟩ : Addr).add j) = some u := hown.cells (g := g) rfl
      have hr := Lib.run_append_grow_string (P := P) w t u ty e i (.int .u8 0) ht hu hi hz ⟨g, 0, none⟩ n cap xs (by rw [hsize]; simpa using hxl) holds s (by omega) (by omega) (by rw [hby]; exact growslice_fits (by omega) (by omega))
      have hge := grownCap_ge w (n + s.size) cap e
      have hcm2 : grownCap w (n + s.size) cap e ≤ maxLen := grownCap_le_maxLen w (n + s.size) cap e h63
      refine ⟨_, _, hr, ⟨hlen, .inr ⟨w.heap.size, _, _, (0, 0), rfl, hbase, heap_alloc_new w.drew _, Nat.zero_le _, hge, hcm2, ?_, ?_⟩⟩, ⟨rfl, rfl, rfl, by simp, fun k hk _ => heap_alloc_old w.drew _ hk⟩, fun k hk => .inr (by cases hk; exact Nat.le_refl _)⟩
      · have hz1 : (Value.int IntKind.u8 0).cells.size = 1 := rfl
        simp only [Array.size_append, List.size_toArray, size_zeroCells, hz1, hxl, Lib.strCells_length]
        omega
      · simp only [Array.toList_append, List.append_assoc]
        rw [← List.append_assoc, ← hlen]
        exact List.take_left
theorem wpList_append_strF {ops : Array Oper} {rest : List Oper} {o : Oper} {a : Act} {Q : Exit → Act → World → Prop} (hgd : o.guard = none) (sl x : Operand) (t u : TypeId)
    (ho : o.op = .call { callee := .builtin .append, args := #[sl, x], argTypes := #[t, u] })
    (base : Nat) (e : TypeId) (i : TypeInfo) (ht : P.underlying t = some (.slice e)) (hu : P.underlying u = some .string) (hi : P.info? e = some i) (hz : i.zero = some (.int .u8 0))
    (hsize : i.size = 1) (hby : i.bytes = 1)
    (v : Value) (n : Nat) (xs : List Value) (hs : a.eval sl = v) (hown : w.ownsRowF base e 1 v n xs) (s : ByteArray) (hx : a.eval x = .string s)
    (h63 : n + s.size ≤ maxLen) (hbytes : n + s.size ≤ 140737488355328) (hbase : base ≤ w.heap.size)
    (h : ∀ v' w', w'.ownsRowF base e 1 v' (n + s.size) (xs ++ Lib.strCells s) → w.grownBy w' v.ownBlock → (∀ k, v'.ownBlock = some k → v.ownBlock = some k ∨ w.heap.size ≤ k) → wpList P ops Q rest (a.put o.dst v') w') : wpList P ops Q (o :: rest) a w := by
  refine wpList_plain hgd fun K hK => ?_
  obtain ⟨v', w', hr, h2, h3, h4⟩ := run_append_strF (P := P) w base t u o.type e i ht hu hi hz hsize hby v n xs hown s h63 hbytes hbase
  unfold Oper.wp execOp
  simp only [ho, resolve, invoke, builtin, Sem.run_bind, Sem.run_pure, Result.andThen_ok, List.map_toArray, List.map_cons, List.map_nil, hs, hx, hr]
  exact hK _ _ (h v' w' h2 h3 h4)
end
theorem byteCells_append (a b : List UInt8) : Lib.byteCells (a ++ b) = Lib.byteCells a ++ Lib.byteCells b := by simp [Lib.byteCells]
theorem strCells_bstr (s : List UInt8) : Lib.strCells (bstr s) = Lib.byteCells s := by
  simp [Lib.strCells, Lib.byteCells]
set_option maxHeartbeats 2000000 in
set_option maxRecDepth 100000 in
theorem copyCheckF (b : Nat) (p v : Value) (w : World) (hp : p = .pointer none ∨ p = .pointer (some ⟨b, 0, none⟩)) (hbk : w.heap[b]? = some (.cells #[p, v] 138 (0, 0))) :
    Calls Tryz.prog 89 #[.pointer (some ⟨b, 0, none⟩)] w fun e w' => e = .returned (.tuple #[]) ∧ w'.heap[b]? = some (.cells #[.pointer (some ⟨b, 0, none⟩), v] 138 (0, 0)) ∧ Agree w w' (fun k => k = b) ∧ w'.heap.size = w.heap.size := by
  have hx : Box w b 138 #[p, v] := hbk
  rcases hp with rfl | rfl
  · refine (copyCheck_fresh b w (hx.cell rfl) (by simp [World.shape?, hbk]) (hx.frozen 0)).mono ?_
    rintro e w' ⟨rfl, rfl⟩
    exact ⟨rfl, by have := hx.set (i := 0) (.pointer (some ⟨b, 0, none⟩)); simp at this; exact this, ⟨rfl, rfl, rfl, by simp [World.setCell], fun k _ hk => Below.heap_setCell _ _ _ _ hk⟩, by simp [World.setCell]⟩
  · refine (copyCheck_used b w (hx.cell rfl)).mono ?_
    rintro e w' ⟨rfl, rfl⟩
    exact ⟨rfl, hbk, ⟨rfl, rfl, rfl, Nat.le_refl _, fun _ _ _ => rfl⟩, rfl⟩
set_option maxHeartbeats 2000000 in
set_option maxRecDepth 100000 in
theorem writeStr_any (base b : Nat) (v : Value) (bs s : List UInt8) (w : World) (h : (bldR base b v bs).F w) (hlen : bs.length + s.length ≤ 140737488355328) (hbase : base ≤ w.heap.size) :
    Calls Tryz.prog 139 #[.pointer (some ⟨b, 0, none⟩), .string (bstr s)] w fun e w' => e = .returned (.tuple #[.int .i64 s.length, .nilIface]) ∧ ∃ v', (bldR base b v' (bs ++ s)).F w' ∧ Agree w w' (bldR base b v bs).fp ∧ ∀ k, v'.ownBlock = some k → v.ownBlock = some k ∨ w.heap.size ≤ k := by
  obtain ⟨hB, ⟨p, hp, hbk⟩, hown, hne⟩ := h
  obtain ⟨i0, hi, hz0, hz1, hz2⟩ := info_parts infoByte
  have hlt : b < w.heap.size := (Array.getElem?_eq_some_iff.1 hbk).1
  go_enter Tryz.func139, Tryz.ntmps139
  go_wp2_with fail
  refine (copyCheckF b p v _ hp hbk).mono ?_
  rintro e w1 ⟨rfl, hb1, ha1, hs1⟩
  have hown1 : w1.ownsRowF base 5 1 v bs.length (Lib.byteCells bs) := ownF_keep hown fun k hk => ha1.block k (hown.lt k hk).2 (fun e => hne (by rw [hk, e]))
  have c0 : w1.cell? ⟨b, 0, none⟩ = some (.pointer (some ⟨b, 0, none⟩)) := by rw [Lib.cell_of_heap hb1]; rfl
  have c1 : w1.cell? ⟨b, 1, none⟩ = some v := by rw [Lib.cell_of_heap hb1]; rfl
  go_wp2_with (at_builtin; refine wpList_append_strF _ rfl _ _ 106 9 rfl base 5 i0 Tryz.underlying106 Tryz.underlying9 hi hz0 hz1 hz2 _ _ _ rfl hown1 (bstr s) rfl ?c3 ?c4 ?c5 ?_)
  case c3 => rw [bstr_size]; unfold maxLen; omega
  case c4 => rw [bstr_size]; exact hlen
  case c5 => omega
  intro v' w2 hown' hgrow hat
  have hlt1 : b < w1.heap.size := by omega
  have hb2 : w2.heap[b]? = some (.cells #[.pointer (some ⟨b, 0, none⟩), v] 138 (0, 0)) := by
    rw [hgrow.block b hlt1 (fun e => hne e.symm)]
    exact hb1
  have d0 : w2.cell? ⟨b, 0, none⟩ = some (.pointer (some ⟨b, 0, none⟩)) := by rw [Lib.cell_of_heap hb2]; rfl
  have d1 : w2.cell? ⟨b, 1, none⟩ = some v := by rw [Lib.cell_of_heap hb2]; rfl
  have f1 : w2.frozen? ⟨b, 1, none⟩ = false := Lib.frozen_of_heap hb2 1
  have hvb : v'.ownBlock ≠ some b := fun e => by
    rcases hat b e with h | h
    · exact hne h
    · omega
  obtain ⟨ao, n', cap, rfl⟩ : ∃ ao n' cap, v' = .slice ao n' cap := by
    rcases hown'.2 with ⟨hv, _⟩ | ⟨g, cap, cur, fz, hv, _⟩
    · exact ⟨_, _, _, hv⟩
    · exact ⟨_, _, _, hv⟩
  go_wp2
  go_ret2
  have hx2 : Box w2 b 138 #[.pointer (some ⟨b, 0, none⟩), v] := hb2
  refine ⟨rfl, _, ⟨hB, ⟨_, .inr rfl, by have := hx2.set (i := 1) (.slice ao n' cap); simp at this; exact this⟩, ownF_keep (w1 := w2) ?_ fun k hk => Below.heap_setCell _ _ _ _ (fun e => hvb (by rw [hk, e])), hvb⟩, ⟨?_, ?_, ?_, ?_, fun k hk hf => ?_⟩, fun k hk => ?_⟩
  · rw [byteCells_append, List.length_append]
    rw [strCells_bstr] at hown'
    exact hown'
  · exact hgrow.os.trans ha1.os
  · exact hgrow.tape.trans ha1.tape
  · exact hgrow.output.trans ha1.output
  · have := hgrow.size; simp [World.setCell]; omega
  · rw [Below.heap_setCell _ _ _ _ (fun e => hf (.inl e)), hgrow.block k (by omega) (fun e => hf (.inr e.symm)), ha1.block k hk (fun e => hf (.inl e))]
  · rcases hat k hk with h | h
    · exact .inl h
    · exact .inr (by omega)
def bldU (base b : Nat) (v : Value) (bs : List UInt8) : HB :=
  ⟨fun k => k = b ∨ v.ownBlock = some k, fun w => base ≤ b ∧ (∃ p, (p = .pointer none ∨ p = .pointer (some ⟨b, 0, none⟩)) ∧ w.heap[b]? = some (.cells #[p, v] 138 (0, 0))) ∧ w.ownsRow base 5 1 v bs.length (Lib.byteCells bs) ∧ v.ownBlock ≠ some b, true, none, fun _ _ h => by cases h⟩
theorem bldU_ok (base b : Nat) (v : Value) (bs : List UInt8) : (bldU base b v bs).ok := fun w1 w2 h hk _ => by
  obtain ⟨h1, ⟨p, hp, hb⟩, h3, h4⟩ := h
  exact ⟨h1, ⟨p, hp, (hk b (.inl rfl)).trans hb⟩, own_keep h3 fun k hv => hk k (.inr hv), h4⟩
theorem bldU_R {base b : Nat} {v : Value} {bs : List UInt8} {w : World} (h : (bldU base b v bs).F w) : (bldR base b v bs).F w := ⟨h.1, h.2.1, World.ownsRowF_of h.2.2.1, h.2.2.2⟩
theorem byte_ones (s : List UInt8) : ∀ u ∈ Lib.byteCells s, u.oneCell' = true := by
  intro u hu
  simp [Lib.byteCells] at hu
  obtain ⟨a, _, rfl⟩ := hu
  rfl
theorem row_lt0 {w : World} {size n j : Nat} {A : Option Addr} {xs : List Value} (h : Rd w size A n xs) (hj : rowFp n A j) : j < w.heap.size := by
  obtain ⟨h1, h2⟩ := h
  obtain ⟨hn, off, rfl⟩ := hj
  rcases h2 with h2 | ⟨b, o, he, hlt, _⟩
  · omega
  · cases he; exact hlt
theorem rd_agree {w w1 : World} {size n b : Nat} {A : Option Addr} {xs : List Value} (h : Rd w size A n xs) (ha : Agree w w1 (fun k => k = b)) (hA : ∀ g o, A = some ⟨g, o, none⟩ → g ≠ b) : Rd w1 size A n xs :=
  h.keep (fun k hk => by obtain ⟨_, off, e⟩ := hk; exact ha.block k (row_lt0 h ⟨by assumption, off, e⟩) (hA k off e)) ha.size
set_option maxHeartbeats 2000000 in
set_option maxRecDepth 100000 in
theorem write_any (base b : Nat) (v : Value) (bs s : List UInt8) (A : Option Addr) (c : Nat) (w : World) (h : (bldU base b v bs).F w) (hA : A = none → s.length = 0 ∧ c = 0) (hr : Rd w 1 A s.length (Lib.byteCells s)) (hAb : ∀ g o, A = some ⟨g, o, none⟩ → g ≠ b) (hlen : bs.length + s.length ≤ 140737488355328) (hbase : base ≤ w.heap.size) :
    Calls Tryz.prog 52 #[.pointer (some ⟨b, 0, none⟩), .slice A s.length c] w fun e w' => e = .returned (.tuple #[.int .i64 s.length, .nilIface]) ∧ ∃ v', (bldU base b v' (bs ++ s)).F w' ∧ Agree w w' (bldU base b v bs).fp ∧ ∀ k, v'.ownBlock = some k → v.ownBlock = some k ∨ w.heap.size ≤ k := by
  obtain ⟨hB, ⟨p, hp, hbk⟩, hown, hne⟩ := h
  obtain ⟨i0, hi, hz0, hz1, hz2⟩ := info_parts infoByte
  have hlt : b < w.heap.size := (Array.getElem?_eq_some_iff.1 hbk).1
  go_enter Tryz.func52, Tryz.ntmps52
  go_wp2_with fail
  refine (copyCheckF b p v _ hp hbk).mono ?_
  rintro e w1 ⟨rfl, hb1, ha1, hs1⟩
  have hr1 : Rd w1 1 A s.length (Lib.byteCells s) := rd_agree hr ha1 hAb
  have hown1 : w1.ownsRow base 5 1 v bs.length (Lib.byteCells bs) := own_keep hown fun k hk => ha1.block k (own_lt hown k hk).1 (fun e => hne (by rw [hk, e]))
  have c0 : w1.cell? ⟨b, 0, none⟩ = some (.pointer (some ⟨b, 0, none⟩)) := by rw [Lib.cell_of_heap hb1]; rfl
  have c1 : w1.cell? ⟨b, 1, none⟩ = some v := by rw [Lib.cell_of_heap hb1]; rfl
  go_wp2_with (at_builtin; refine wpList_append_rd _ rfl _ _ 106 rfl base 5 i0 (.int .u8 0) 1 1 Tryz.underlying106 hi hz0 hz1 hz2 rfl (by decide) v bs.length (Lib.byteCells bs) rfl hown1 A s.length c (Lib.byteCells s) rfl hA hr1 (byte_ones s) ?c3 ?c4 ?c5 ?_)
  case c3 => unfold maxLen; omega
  case c4 => omega
  case c5 => omega
  intro ao n' w2 hown' hgrow hat
  have hlt1 : b < w1.heap.size := by omega
  have hb2 : w2.heap[b]? = some (.cells #[.pointer (some ⟨b, 0, none⟩), v] 138 (0, 0)) := by
    rw [hgrow.block b hlt1 (fun e => hne e.symm)]
    exact hb1
  have d0 : w2.cell? ⟨b, 0, none⟩ = some (.pointer (some ⟨b, 0, none⟩)) := by rw [Lib.cell_of_heap hb2]; rfl
  have d1 : w2.cell? ⟨b, 1, none⟩ = some v := by rw [Lib.cell_of_heap hb2]; rfl
  have f1 : w2.frozen? ⟨b, 1, none⟩ = false := Lib.frozen_of_heap hb2 1
  have hvb : (Value.slice ao (bs.length + s.length) n').ownBlock ≠ some b := fun e => by
    rcases hat with h | h
    · rw [h] at e; exact hne e
    · rw [h] at e; cases e; omega
  go_wp2
  go_ret2
  have hx2 : Box w2 b 138 #[.pointer (some ⟨b, 0, none⟩), v] := hb2
  refine ⟨rfl, _, ⟨hB, ⟨_, .inr rfl, by have := hx2.set (i := 1) (.slice ao (bs.length + s.length) n'); simp at this; exact this⟩, own_keep (w1 := w2) ?_ fun k hk => Below.heap_setCell _ _ _ _ (fun e => hvb (by rw [hk, e])), hvb⟩, ⟨?_, ?_, ?_, ?_, fun k hk hf => ?_⟩, fun k hk => ?_⟩
  · rw [byteCells_append, List.length_append]
    exact hown'
  · exact hgrow.os.trans ha1.os
  · exact hgrow.tape.trans ha1.tape
  · exact hgrow.output.trans ha1.output
  · have := hgrow.size; simp [World.setCell]; omega
  · rw [Below.heap_setCell _ _ _ _ (fun e => hf (.inl e)), hgrow.block k (by omega) (fun e => hf (.inr e.symm)), ha1.block k hk (fun e => hf (.inl e))]
  · rcases hat with h | h
    · rw [h] at hk; exact .inl hk
    · rw [h] at hk; cases hk; exact .inr (by omega)
set_option maxHeartbeats 2000000 in
set_option maxRecDepth 100000 in
theorem strG_any {P : Program} {ρ : Ren} (L : Lays.n169 P ρ) (X : Builder.Extra P ρ) (base b : Nat) (v : Value) (l : List UInt8) (w : World) (h : (bldG (ρ.t 72) (ρ.t 5) base b v l).F w) (h0 : l ≠ []) :
    Calls P (ρ.f 169) #[.pointer (some ⟨b, 0, none⟩)] w fun e w' => e = .returned (.string (bstr l)) ∧ (bldG (ρ.t 72) (ρ.t 5) base b v l).F w' ∧ Agree w w' (bldG (ρ.t 72) (ρ.t 5) base b v l).fp := by
  obtain ⟨hB, ⟨p, hp, hbk⟩, hown, hne⟩ := h
  have hl0 : l.length ≠ 0 := by simpa using h0
  obtain ⟨g, cap, cur, fz, rfl, hbg, hg, hfz, hnc, hcm, hcs, htake⟩ : ∃ g cap cur fz, v = .slice (some ⟨g, 0, none⟩) l.length cap ∧ base ≤ g ∧ w.heap[g]? = some (.cells cur (ρ.t 5) fz) ∧ fz.2 ≤ l.length * 1 ∧ l.length ≤ cap ∧ cap ≤ maxLen ∧ cur.size = cap * 1 ∧ cur.toList.take (l.length * 1) = Lib.byteCells l := by
    rcases hown.2 with ⟨_, hz⟩ | ⟨g, cap, cur, fz, hv, r⟩
    · exact absurd hz hl0
    · exact ⟨g, cap, cur, fz, hv, r⟩
  have c1 : w.drew.cell? ⟨b, 1, none⟩ = some (.slice (some ⟨g, 0, none⟩) l.length cap) := by
    have : w.drew.heap[b]? = some (.cells #[p, .slice (some ⟨g, 0, none⟩) l.length cap] (ρ.t 72) (0, 0)) := hbk
    rw [Lib.cell_of_heap this]; rfl
  have hSD : (Builtin.unsafeSliceData_ #[(ρ.t 37)] (ρ.t 127) #[.slice (some ⟨g, 0, none⟩) l.length cap]).run P w.drew = .ok (.pointer (some ⟨g, 0, none⟩)) w.drew :=
    Lib.run_unsafeSliceData_row _ _ _ _ _ _ (by omega)
  have hUS : (Builtin.unsafeString_ #[(ρ.t 127), (ρ.t 3)] (ρ.t 9) #[.pointer (some ⟨g, 0, none⟩), .int .i64 l.length]).run P w.drew = .ok (.string ⟨l.toArray⟩) (w.drew.freeze ⟨g, 0, none⟩ l.length) := by
    refine Lib.run_unsafeString_row w.drew (ρ.t 127) (ρ.t 3) (ρ.t 9) (ρ.t 5) L.t127 X.cellsByte g cur.size (by have hg' : w.drew.heap[g]? = some (.cells cur (ρ.t 5) fz) := hg; simp [World.shape?, hg']) l h0 (by omega) (by unfold maxLen at hcm; omega) ?_
    intro j x hx
    have := hown.cells (g := g) rfl j (.int .u8 x.toNat) (by simp [Lib.byteCells, hx])
    exact this
  have hA : Lib.BuilderAtF (ρ.t 72) (ρ.t 5) base b p (Lib.byteCells l) w.drew := ⟨hB, _, hbk, by rw [Lib.byteCells_length]; exact hown, hne⟩
  have hF := hA.froze (g := g) (cap := cap) (by rw [Lib.byteCells_length]; exact c1)
  rw [Lib.byteCells_length] at hF
  have hgb : b ≠ g := fun e => hne (by rw [e]; rfl)
  have hother : ∀ k, k ≠ g → (w.drew.freeze ⟨g, 0, none⟩ l.length).heap[k]? = w.heap[k]? := by
    intro k hk
    unfold World.freeze
    rw [if_neg hl0]
    simp only [Array.getElem?_modify]
    rw [if_neg (fun e => hk e.symm)]
    rfl
  have hkeep : (bldG (ρ.t 72) (ρ.t 5) base b (.slice (some ⟨g, 0, none⟩) l.length cap) l).F (w.drew.freeze ⟨g, 0, none⟩ l.length) := by
    obtain ⟨_, v2, hb2, hown2, hne2⟩ := hF
    have e : v2 = .slice (some ⟨g, 0, none⟩) l.length cap := by
      rw [hother b hgb, hbk] at hb2
      simp at hb2
      exact hb2.symm
    subst e
    rw [Lib.byteCells_length] at hown2
    exact ⟨hB, ⟨p, hp, hb2⟩, hown2, hne2⟩
  have hag : Agree w (w.drew.freeze ⟨g, 0, none⟩ l.length) (bldG (ρ.t 72) (ρ.t 5) base b (.slice (some ⟨g, 0, none⟩) l.length cap) l).fp := by
    have hb := Lib.below_freeze (Below.drew (Below.refl 0 w)) (p := ⟨g, 0, none⟩) (Nat.zero_le _) l.length
    exact ⟨hb.os, hb.tape, hb.output, hb.size, fun k hk hf => hother k fun e => hf (.inr (by rw [e]; rfl))⟩
  have mixed := L.mixed
  have t72 := L.t72; have a72 := L.a72; have z72 := L.z72; have v72 := L.v72; have u72 := run_underlying L.t72
  have t70 := L.t70; have a70 := L.a70; have z70 := L.z70; have v70 := L.v70; have u70 := run_underlying L.t70
  have t37 := L.t37; have a37 := L.a37; have z37 := L.z37; have v37 := L.v37; have u37 := run_underlying L.t37
  have t127 := L.t127; have a127 := L.a127; have z127 := L.z127; have v127 := L.v127; have u127 := run_underlying L.t127
  have t3 := L.t3; have a3 := L.a3; have z3 := L.z3; have v3 := L.v3; have u3 := run_underlying L.t3
  have t9 := L.t9; have a9 := L.a9; have z9 := L.z9; have v9 := L.v9; have u9 := run_underlying L.t9
  have t5 := X.t5; have a5 := X.a5; have z5 := X.z5; have v5 := X.v5; have u5 := run_underlying X.t5
  go_enter L.f169, Body.n169_ntmps ρ
  go_wp2
  go_region_o
  all_goals (go_wp2; go_ret; exact ⟨rfl, hkeep, hag⟩)
theorem str_any (base b : Nat) (v : Value) (l : List UInt8) (w : World) (h : (bldR base b v l).F w) (h0 : l ≠ []) :
    Calls Tryz.prog 53 #[.pointer (some ⟨b, 0, none⟩)] w fun e w' => e = .returned (.string (bstr l)) ∧ (bldR base b v l).F w' ∧ Agree w w' (bldR base b v l).fp :=
  strG_any Tryz.lays169 Tryz.Builder_Extra_169 base b v l w h h0
theorem below_drewN {B : Nat} {a w : World} (h : Below B a w) (n : Nat) : Below B a (w.drewN n) := ⟨h.os, h.tape, h.output, h.size, h.block⟩
theorem dropEq_cons {al bl : Alts} {k : Nat} (h1 : k < al.length) (h2 : k < bl.length) :
    decide (al.drop k = bl.drop k) = (decide (al.getD k (0, 0) = bl.getD k (0, 0)) && decide (al.drop (k + 1) = bl.drop (k + 1))) := by
  rw [drop_pair h1, drop_pair h2]
  simp
def sameP (s f : Int) (al : Alts) (t g : Int) (bl : Alts) : Bool := s == t && (f == g && decide (al = bl))
set_option maxRecDepth 100000 in
set_option maxHeartbeats 2000000 in
theorem rsameAlts_any (A B : Option Addr) (n m c d : Nat) (al bl : Alts) (w : World) (ha : IsAlts w A n al) (hb : IsAlts w B m bl) (hm : n ≤ maxLen) :
    Calls Tryz.prog 82 #[.slice A n c, .slice B m d] w fun e w' => e = .returned (.bool (decide (al = bl))) ∧ Below w.heap.size w w' := by
  have HA := Lib.hid ha
  have HB := Lib.hid hb
  have hl := ha.1
  have hl' := hb.1
  have hm' : n ≤ 9223372036854775807 := hm
  clear ha hb
  go_enter Tryz.func82, Tryz.ntmps82
  by_cases hnm : n = m
  · subst hnm
    go_wp2_with fail
    go_loopw [5] (fun i wr => ∃ (k : Nat), k ≤ n ∧ i = .int .i64 k ∧ decide (al = bl) = decide (al.drop k = bl.drop k) ∧ Below w.heap.size w wr) (fun i _ => n - (intOf i).toNat)
    case atStart => exact ⟨0, Nat.zero_le _, rfl, rfl, Below.refl _ _⟩
    case round =>
      obtain ⟨k, hk, rfl, hst, hB⟩ := hrel
      have HST := Lib.hid hst
      clear hst
      by_cases hlt : k < n
      · obtain ⟨b, off, rfl, hbl, ca, cb⟩ := (HA.out.below hB).at_ hlt
        obtain ⟨b', off', rfl, hbl', ca', cb'⟩ := (HB.out.below hB).at_ hlt
        rw [dropEq_cons (by omega) (by omega)] at HST
        generalize al.getD k (0, 0) = x at *
        generalize bl.getD k (0, 0) = y at *
        obtain ⟨x1, x2⟩ := x
        obtain ⟨y1, y2⟩ := y
        simp only at ca cb ca' cb'
        by_cases h1 : x1 = y1
        · subst h1
          by_cases h2 : x2 = y2
          · subst h2
            go_upto_region 6 with (fail)
            go_quiet (fail)
            go_wp2_with fail
            go_roundw
            case rel => exact ⟨k + 1, by omega, by go_num, by rw [HST.out]; simp, below_drewN hB _⟩
            case measure => simp [intOf]; omega
          · have h2' : (x2 == y2) = false := by simpa using h2
            go_upto_region 6 with (fail)
            go_quiet (fail)
            go_wp2_with fail
            go_ret
            exact ⟨by rw [HST.out]; simp [h2], below_drewN hB _⟩
        · have h1' : (x1 == y1) = false := by simpa using h1
          go_upto_region 6 with (fail)
          go_quiet (fail)
          go_wp2_with fail
          go_ret
          exact ⟨by rw [HST.out]; simp [h1], below_drewN hB _⟩
      · go_wp2_with fail
        go_ret
        exact ⟨by rw [HST.out, List.drop_of_length_le (by omega), List.drop_of_length_le (by omega)]; rfl, hB⟩
  · have h' : ((n : Int) == (m : Int)) = false := by simp; omega
    have h'' : ((n : Int) != (m : Int)) = true := by simp; omega
    go_wp2_with fail
    go_ret
    refine ⟨?_, Below.refl _ _⟩
    have : al ≠ bl := fun e => hnm (by rw [← hl, ← hl', e])
    simp [this]
set_option maxRecDepth 100000 in
set_option maxHeartbeats 2000000 in
theorem rsame_any (s f : Int) (A : Option Addr) (n c : Nat) (al : Alts) (t g : Int) (B : Option Addr) (m d : Nat) (bl : Alts) (w : World) (ha : IsAlts w A n al) (hb : IsAlts w B m bl) (hm : n ≤ maxLen) :
    Calls Tryz.prog 48 #[optV s f A n c, optV t g B m d] w fun e w' => e = .returned (.bool (sameP s f al t g bl)) ∧ Below w.heap.size w w' := by
  have HA := Lib.hid ha
  have HB := Lib.hid hb
  have b0 := balloc w (.cells #[.int .i64 s, .int .i64 f, .slice A n c] 74)
  have b1 := Lib.hid (b0.alloc b0.size (.cells #[.int .i64 t, .int .i64 g, .slice B m d] 74))
  have x1 := Lib.hid ((Box.new w 74 #[.int .i64 s, .int .i64 f, .slice A n c]).next (balloc _ (.cells #[.int .i64 t, .int .i64 g, .slice B m d] 74)))
  have x2 := Lib.hid (Box.new (w.alloc (.cells #[.int .i64 s, .int .i64 f, .slice A n c] 74)) 74 #[.int .i64 t, .int .i64 g, .slice B m d])
  rw [World.size_alloc] at x2
  clear ha hb b0
  go_enter Tryz.func48, Tryz.ntmps48
  go_wp2_with fail
  refine (rsameAlts_any A B n m c d al bl _ (HA.out.below b1.out) (HB.out.below b1.out) hm).mono ?_
  rintro e w1 ⟨rfl, b2⟩
  have u1 := x1.out.next b2
  have u2 := x2.out.next b2
  have c0 := u1.cell (i := 0) rfl
  have c1 := u1.cell (i := 1) rfl
  have d0 := u2.cell (i := 0) rfl
  have d1 := u2.cell (i := 1) rfl
  have B2 := Lib.hid (bnext b1.out b2)
  clear u1 u2
  by_cases h0 : al = bl
  · have e0 : decide (al = bl) = true := by simp [h0]
    rw [e0]
    by_cases h1 : s = t
    · subst h1
      by_cases h2 : f = g
      · subst h2
        go_wp2_with fail
        go_ret
        exact ⟨by simp [sameP, h0], B2.out⟩
      · have h2' : (f == g) = false := by simpa using h2
        go_wp2_with fail
        go_ret
        exact ⟨by simp [sameP, h2], B2.out⟩
    · have h1' : (s == t) = false := by simpa using h1
      go_wp2_with fail
      go_ret
      exact ⟨by simp [sameP, h1], B2.out⟩
  · have e0 : decide (al = bl) = false := by simp [h0]
    rw [e0]
    go_wp2_with fail
    go_ret
    exact ⟨by simp [sameP, h0], B2.out⟩
structure Un where
 channel : Int
 frame : Int
 version : Int
 item : Int
 index : Int
 key : Bool
 data : List UInt8
 regions : Int
 gain : Int
 caption : List UInt8
 os : Int
 of : Int
 A : Option Addr
 c : Nat
 al : Alts
abbrev Un.cells (u : Un) : Array Value := #[.int .i64 u.channel, .int .i64 u.frame, .int .i64 u.version, .int .i64 u.item, .int .i64 u.index, .bool u.key, .string (bstr u.data), .int .i64 u.regions, .int .i64 u.gain, .string (bstr u.caption), .int .i64 u.os, .int .i64 u.of, .slice u.A u.al.length u.c]
abbrev Un.val (u : Un) : Value := .agg u.cells
abbrev ua (u : Un) (B : Option Addr) (c : Nat) : Array Value := #[.int .i64 u.channel, .int .i64 u.frame, .int .i64 u.version, .int .i64 u.item, .int .i64 u.index, .bool u.key, .string (bstr u.data), .int .i64 u.regions, .int .i64 u.gain, .string (bstr u.caption), .int .i64 u.os, .int .i64 u.of, .slice B u.al.length c]
abbrev ul (u : Un) (B : Option Addr) (c : Nat) : List Value := [.int .i64 u.channel, .int .i64 u.frame, .int .i64 u.version, .int .i64 u.item, .int .i64 u.index, .bool u.key, .string (bstr u.data), .int .i64 u.regions, .int .i64 u.gain, .string (bstr u.caption), .int .i64 u.os, .int .i64 u.of, .slice B u.al.length c]
def fieldsP (u : Un) : Prop := 0 ≤ u.channel ∧ u.channel < 40 ∧ 0 ≤ u.frame ∧ u.frame ≤ 100000000 ∧ 0 ≤ u.index ∧ u.index ≤ 100000000 ∧ 0 ≤ u.version ∧ u.version ≤ 4611686018427387903 ∧ 0 ≤ u.item ∧ u.item ≤ 4611686018427387903 ∧ u.data.length ≤ 400 ∧ u.caption.length = 3 ∧ 0 ≤ u.regions ∧ u.regions ≤ 255 ∧ 250 ≤ u.gain ∧ u.gain ≤ 4000
instance (u : Un) : Decidable (fieldsP u) := by unfold fieldsP; infer_instance
def fieldsOk (u : Un) : Bool := decide (0 ≤ u.channel ∧ u.channel < 40 ∧ 0 ≤ u.frame ∧ u.frame ≤ 100000000 ∧ 0 ≤ u.index ∧ u.index ≤ 100000000 ∧ 0 ≤ u.version ∧ u.version ≤ 4611686018427387903 ∧ 0 ≤ u.item ∧ u.item ≤ 4611686018427387903 ∧ u.data.length ≤ 400 ∧ u.caption.length = 3 ∧ 0 ≤ u.regions ∧ u.regions ≤ 255 ∧ 250 ≤ u.gain ∧ u.gain ≤ 4000)
def validU (u : Un) : Bool := fieldsOk u && validP u.os u.of u.al
theorem validU_facts {u : Un} (h : validU u = true) : (0 ≤ u.channel ∧ u.channel < 40 ∧ 0 ≤ u.frame ∧ u.frame ≤ 100000000 ∧ 0 ≤ u.index ∧ u.index ≤ 100000000 ∧ 0 ≤ u.version ∧ u.version ≤ 4611686018427387903 ∧ 0 ≤ u.item ∧ u.item ≤ 4611686018427387903 ∧ u.data.length ≤ 400 ∧ u.caption.length = 3 ∧ 0 ≤ u.regions ∧ u.regions ≤ 255 ∧ 250 ≤ u.gain ∧ u.gain ≤ 4000) ∧ validP u.os u.of u.al = true := by
 unfold validU fieldsOk at h
 rw [Bool.and_eq_true, decide_eq_true_eq] at h
 exact h
theorem encOpt_len {s f : Int} {al : Alts} (h : validP s f al = true) : (encOpt s f al).length ≤ 200 := by
 have h1 := encInts_len ([s, f, (al.length : Int)] ++ flatA al)
 have h2 : (flatA al).length = 2 * al.length := by
  clear h h1
  induction al with
  | nil => rfl
  | cons a al ih => simp only [flatA, List.flatMap_cons, List.length_append, List.length_cons, List.length_nil] at *; omega
 have h3 : al.length ≤ 7 := by
  unfold validP noneP at h
  simp only [Bool.or_eq_true, Bool.and_eq_true, Bool.not_eq_true', Bool.or_eq_false_iff, decide_eq_false_iff_not, beq_iff_eq] at h
  omega
 unfold encOpt
 simp only [List.length_append, List.length_cons, List.length_nil] at *
 omega
def contentP (u : Un) : List UInt8 := encInts [u.channel, u.frame, u.version, u.item, u.index, if u.key = true then 1 else 0] ++ encStr u.data ++ encInts [u.regions, u.gain] ++ encStr u.caption ++ encStr (encOpt u.os u.of u.al)
def bodyP (u : Un) : List UInt8 := contentP u ++ encInt ((sumP (contentP u) : Nat) : Int)
theorem bodyP_eq {u : Un} {kz : Int} (h : kz = if u.key = true then 1 else 0) :
  (Ending.returned (.string (bstr ([] ++ encInts [u.channel, u.frame, u.version, u.item, u.index, kz] ++ encStr u.data ++ encInts [u.regions, u.gain] ++ encStr u.caption ++ encStr (encOpt u.os u.of u.al) ++ encInts [((sumP ([] ++ encInts [u.channel, u.frame, u.version, u.item, u.index, kz] ++ encStr u.data ++ encInts [u.regions, u.gain] ++ encStr u.caption ++ encStr (encOpt u.os u.of u.al)) : Nat) : Int)])))) = .returned (.string (bstr (bodyP u))) := by
 subst h
 unfold bodyP contentP
 simp only [List.nil_append, encInts, List.flatMap_cons, List.flatMap_nil, List.append_nil]
def clockP (t : Nat) : List UInt8 := [UInt8.ofNat (t / 2 ^ 32 % 256), UInt8.ofNat (t / 2 ^ 24 % 256), UInt8.ofNat (t / 2 ^ 16 % 256), UInt8.ofNat (t / 2 ^ 8 % 256), UInt8.ofNat (t / 2 ^ 0 % 256)]
theorem clock_rd {w : World} {b t : Nat} {tt : TypeId} (h : Box w b tt [Value.int .u8 ((t / 2 ^ 32 % 256 : Nat) : Int), .int .u8 ((t / 2 ^ 24 % 256 : Nat) : Int), .int .u8 ((t / 2 ^ 16 % 256 : Nat) : Int), .int .u8 ((t / 2 ^ 8 % 256 : Nat) : Int), .int .u8 ((t / 2 ^ 0 % 256 : Nat) : Int)].toArray) : Rd w 1 (some ⟨b, 0, none⟩) 5 (Lib.byteCells (clockP t)) := by
 have h1 : ∀ n : Nat, (UInt8.ofNat (n % 256)).toNat = n % 256 := fun n => ofNat_toNat (Nat.mod_lt _ (by omega))
 have := Rd.of_box (n := 5) h rfl
 simpa only [Lib.byteCells, clockP, List.map_cons, List.map_nil, h1] using this
theorem wrap_u8_nat (n : Nat) : IntKind.u8.wrap ((n : Nat) : Int) = ((n % 256 : Nat) : Int) := by
 simp only [IntKind.wrap, IntKind.bits, IntKind.signed, Bool.false_and, Bool.false_eq_true, if_false]
 omega
section
variable {P : Program} {ρ : Operand → Value} {w : World} {t e : TypeId} {x y : Operand} {dst : Option Tmp} {ty : TypeId} {pos : String} {af : Array Edge} {g : Option (Nat × Bool)} {n : Nat}
theorem ex_b2sR {src td : TypeId} {b off c m : Nat} {l : List UInt8} (hx : ρ x = .slice (some ⟨b, off, none⟩) m c) (hr : Rd w 1 (some ⟨b, off, none⟩) m (Lib.byteCells l)) (hs : P.underlying src = some (.slice e)) (he : P.underlying e = some (.int .u8)) (hd : P.underlying td = some .string) :
  (execOp ρ ⟨dst, .convert src td x, ty, pos, af, g⟩).run P w = .ok (.value (.string (bstr l))) w := by
 have hl : l.length = m := by have := hr.1; simpa [Lib.byteCells] using this
 subst hl
 have hc : ∀ j (hj : j < l.length), w.cell? ((⟨b, off, none⟩ : Addr).add j) = some (.int .u8 (l[j].toNat : Int)) := by
  intro j hj
  rcases hr.2 with h0 | ⟨b', o', h1, _, h3⟩
  ·omega
  ·cases h1
   rw [add_plain, h3 j (by omega)]
   simp [Lib.byteCells, hj]
 have := run_convert_bytes_back (P := P) w src td e ⟨b, off, none⟩ c l hs he hd hc
 simp only [execOp, hx, this, Sem.run_bind, Result.andThen_ok, Sem.run_pure]
theorem ex_arrslice {b off : Nat} (hx : ρ x = .pointer (some ⟨b, off, none⟩)) (hu : P.underlying t = some (.array n e)) (hn : 0 < n) {sz : Nat} (hs : sizeB P e = some sz) :
  (execOp ρ ⟨dst, .slice t x none none none, ty, pos, af, g⟩).run P w = .ok (.value (.slice (some ⟨b, off, none⟩) n n)) w := by
 have h2 : P.arrayLen t = n := by simp [Program.arrayLen, hu]
 have h3 : P.elem t = e := by simp [Program.elem, hu]
 have hu' : P.underlying t = some (.array (P.arrayLen t) (P.elem t)) := by rw [h2, h3]; exact hu
 have := run_sliceAt_array_all (P := P) w t ⟨b, off, none⟩ hu'
 rw [h2, h3, run_sizeOf hs] at this
 simp only [execOp, hx, Option.map_none, this, Sem.run_bind, Result.andThen_ok, Sem.run_pure, slicedAt]
 rw [if_neg (by omega)]
 simp [add_plain]
end
theorem take_int {zs : List Int} {j : Nat} (h : j < zs.length) : zs.take (j + 1) = zs.take j ++ [zs.getD j 0] := by
 rw [List.take_add_one, List.getElem?_eq_getElem h]
 simp [List.getD, List.getElem?_eq_getElem h]
theorem int_mem {zs : List Int} {j : Nat} (h : j < zs.length) : zs.getD j 0 ∈ zs := by simp [List.getD, List.getElem?_eq_getElem h]
theorem ints_getD {zs : List Int} {j : Nat} (h : j < zs.length) : (ints zs)[j]? = some (.int .i64 (zs.getD j 0)) := by simp [ints, List.getD, List.getElem?_eq_getElem h]
def bldV (v0 : Value) (base b : Nat) (v : Value) (bs : List UInt8) : HB := ⟨fun k => (k = b ∨ v.ownBlock = some k) ∨ v0.ownBlock = some k, (bldR base b v bs).F, false, none, fun _ _ h => by cases h⟩
theorem bldV_ok (v0 : Value) (base b : Nat) (v : Value) (bs : List UInt8) : (bldV v0 base b v bs).ok := fun w1 w2 h hk hs => bldG_ok _ _ _ _ _ _ w1 w2 h (fun k hf => hk k (.inl hf)) hs
theorem Hp.takeBld {w : World} {base b : Nat} {v : Value} {bs : List UInt8} (h : (bldR base b v bs).F w) : Hp w w [bldV v base b v bs] [] :=
 (Hp.start w).add (bldV v base b v bs) h (bldV_ok _ _ _ _ _) (fun k hk => bldG_lt h k (hk.elim id fun h => .inr h)) (fun _ _ => ⟨(fun _ h => by cases h), (fun _ h => by cases h)⟩) fun h => by cases h
theorem Hp.wroteV {w0 w w' : World} {L : List HB} {K : List FK} (H : Hp w0 w L K) (i : Nat) {base b : Nat} {v0 v v' : Value} {bs bs' : List UInt8} (hi : L[i]? = some (bldV v0 base b v bs)) (L' : List HB) (hL : L.set i (bldV v0 base b v' bs') = L') (hF : (bldR base b v' bs').F w') (hag : Agree w w' (bldR base b v bs).fp) (hv : ∀ k, v'.ownBlock = some k → v.ownBlock = some k ∨ w.heap.size ≤ k) (hvv : ∀ k, v.ownBlock = some k → v0.ownBlock = some k ∨ w0.heap.size ≤ k) : Hp w0 w' L' K := by
 have hr := (H.res _ (List.mem_of_getElem? hi)).2.2
 refine H.mut i hi _ L' hL ⟨hag.os, hag.tape, hag.output, hag.size, fun k hk hf => hag.block k hk fun h => hf (.inl h)⟩ hF (bldV_ok _ _ _ _ _) (fun k hk => ?_) (fun k hk => ?_) (fun k hk hx => ?_) rfl
 ·rcases hk with hk | hk
  ·exact bldG_lt hF k hk
  ·exact Nat.lt_of_lt_of_le (hr k (.inr hk)) hag.size
 ·rcases hk with (hk | hk) | hk
  ·exact .inl (.inl (.inl hk))
  ·rcases hv k hk with h | h
   ·exact .inl (.inl (.inr h))
   ·exact .inr h
  ·exact .inl (.inr hk)
 ·rcases hx with (hx | hx) | hx
  ·exact .inl (.inl hx)
  ·rcases hvv k hx with h | h
   ·exact .inr h
   ·omega
  ·exact .inr hx
theorem Hp.endBld {w w' : World} {K : List FK} {base b : Nat} {v0 v : Value} {bs bs' : List UInt8} (H : Hp w w' [bldV v0 base b v bs'] K) (hvv : ∀ k, v.ownBlock = some k → v0.ownBlock = some k ∨ w.heap.size ≤ k) : Agree w w' (bldR base b v0 bs).fp :=
 ⟨H.os, H.tape, H.output, H.size, fun k hk hf => H.old k hk fun x hx => by
  simp only [List.mem_singleton] at hx
  subst hx
  rintro ((h | h) | h)
  ·exact hf (.inl h)
  ·rcases hvv k h with h' | h'
   ·exact hf (.inr h')
   ·omega
  ·exact hf (.inr h)⟩
set_option maxRecDepth 100000 in
set_option maxHeartbeats 4000000 in
theorem uvalid_any (u : Un) (w : World) (hu : IsAlts w u.A u.al.length u.al) (hm : u.al.length ≤ maxLen) :
  Calls Tryz.prog 50 #[u.val] w fun e w' => e = .returned (.bool (validU u)) ∧ Below w.heap.size w w' := by
 have HP := Hp.start w
 refine w_enter 82 [(0, (.agg (ua u u.A u.c)))] Tryz.func50 rfl Tryz.ntmps50 (by kernel_rfl) (by kernel_rfl) fun a H => ?_
 refine wp_seq (w_region ?_)
 refine H.alloc HP 1 (fun b => (pt b 0)) 76 (ul u u.A u.c) (by kernel_rfl) (fun w => by kernel_rfl) fun b_1 w_2 a H HP => ?_
 refine H.ge HP [(2, (.bool false))] [] fun a H => ?_
 refine then_normal (wp_seq (wp_block (wp_seq (w_region ?_))))
 refine H.go HP 4 [(4, (pt b_1 0)), (5, (ii u.channel)), (7, (.bool (decide (u.channel < 0))))] [0] fun a H => ?_
 refine H.split 7 rfl (fun g7 H => ?_) (fun g7 H => ?_)
 ·have g7p := of_decide_eq_true g7
  refine H.ge HP [(3, (.bool true))] [] fun a H => ?_
  refine then_normal ?_
  refine w_ift H rfl ?_
  refine wp_seq (w_region ?_)
  refine H.ge HP [(2, (.bool false))] [] fun a H => ?_
  refine then_normal (wp_ret (inb_ret (then_ret ?_)))
  refine H.ret1 (fn := Tryz.f50) Tryz.results50 (RV.tmp_ (v := (.bool false)) (by kernel_rfl)) ?_
  exact ⟨by unfold validU; rw [show fieldsOk u = false from decide_eq_false (by omega)]; rfl, HP.bl⟩
 have g7p := of_decide_eq_false g7
 refine H.ge HP [(3, (.bool (decide (u.channel ≥ 40))))] [0] fun a H => ?_
 refine then_normal ?_
 refine w_if H rfl (fun g3 => ?_) (fun g3 => ?_)
 ·have g3p := of_decide_eq_true g3
  refine wp_seq (w_region ?_)
  refine H.ge HP [(2, (.bool false))] [] fun a H => ?_
  refine then_normal (wp_ret (inb_ret (then_ret ?_)))
  refine H.ret1 (fn := Tryz.f50) Tryz.results50 (RV.tmp_ (v := (.bool false)) (by kernel_rfl)) ?_
  exact ⟨by unfold validU; rw [show fieldsOk u = false from decide_eq_false (by omega)]; rfl, HP.bl⟩
 have g3p := of_decide_eq_false g3
 refine wp_seq (w_region ?_)
 refine H.go HP 4 [(16, (.bool (decide (u.frame < 0))))] [0] fun a H => ?_
 refine H.split 16 rfl (fun g16 H => ?_) (fun g16 H => ?_)
 ·have g16p := of_decide_eq_true g16
  refine H.ge HP [(12, (.bool true))] [] fun a H => ?_
  refine then_normal ?_
  refine w_ift H rfl ?_
  refine wp_seq (w_region ?_)
  refine H.ge HP [(2, (.bool false))] [] fun a H => ?_
  refine then_normal (wp_ret (inb_ret (then_ret ?_)))
  refine H.ret1 (fn := Tryz.f50) Tryz.results50 (RV.tmp_ (v := (.bool false)) (by kernel_rfl)) ?_
  exact ⟨by unfold validU; rw [show fieldsOk u = false from decide_eq_false (by omega)]; rfl, HP.bl⟩
 have g16p := of_decide_eq_false g16
 refine H.go HP 5 [(21, (.bool (decide (u.frame > 100000000))))] [0] fun a H => ?_
 refine H.split 21 rfl (fun g21 H => ?_) (fun g21 H => ?_)
 ·have g21p := of_decide_eq_true g21
  refine H.ge HP [(12, (.bool true))] [] fun a H => ?_
  refine then_normal ?_
  refine w_ift H rfl ?_
  refine wp_seq (w_region ?_)
  refine H.ge HP [(2, (.bool false))] [] fun a H => ?_
  refine then_normal (wp_ret (inb_ret (then_ret ?_)))
  refine H.ret1 (fn := Tryz.f50) Tryz.results50 (RV.tmp_ (v := (.bool false)) (by kernel_rfl)) ?_
  exact ⟨by unfold validU; rw [show fieldsOk u = false from decide_eq_false (by omega)]; rfl, HP.bl⟩
 have g21p := of_decide_eq_false g21
 refine H.go HP 5 [(26, (.bool (decide (u.index < 0))))] [0] fun a H => ?_
 refine H.split 26 rfl (fun g26 H => ?_) (fun g26 H => ?_)
 ·have g26p := of_decide_eq_true g26
  refine H.ge HP [(12, (.bool true))] [] fun a H => ?_
  refine then_normal ?_
  refine w_ift H rfl ?_
  refine wp_seq (w_region ?_)
  refine H.ge HP [(2, (.bool false))] [] fun a H => ?_
  refine then_normal (wp_ret (inb_ret (then_ret ?_)))
  refine H.ret1 (fn := Tryz.f50) Tryz.results50 (RV.tmp_ (v := (.bool false)) (by kernel_rfl)) ?_
  exact ⟨by unfold validU; rw [show fieldsOk u = false from decide_eq_false (by omega)]; rfl, HP.bl⟩
 have g26p := of_decide_eq_false g26
 refine H.ge HP [(12, (.bool (decide (u.index > 100000000))))] [0] fun a H => ?_
 refine then_normal ?_
 refine w_if H rfl (fun g12 => ?_) (fun g12 => ?_)
 ·have g12p := of_decide_eq_true g12
  refine wp_seq (w_region ?_)
  refine H.ge HP [(2, (.bool false))] [] fun a H => ?_
  refine then_normal (wp_ret (inb_ret (then_ret ?_)))
  refine H.ret1 (fn := Tryz.f50) Tryz.results50 (RV.tmp_ (v := (.bool false)) (by kernel_rfl)) ?_
  exact ⟨by unfold validU; rw [show fieldsOk u = false from decide_eq_false (by omega)]; rfl, HP.bl⟩
 have g12p := of_decide_eq_false g12
 refine wp_seq (w_region ?_)
 refine H.go HP 4 [(35, (.bool (decide (u.version < 0))))] [0] fun a H => ?_
 refine H.split 35 rfl (fun g35 H => ?_) (fun g35 H => ?_)
 ·have g35p := of_decide_eq_true g35
  refine H.ge HP [(31, (.bool true))] [] fun a H => ?_
  refine then_normal ?_
  refine w_ift H rfl ?_
  refine wp_seq (w_region ?_)
  refine H.ge HP [(2, (.bool false))] [] fun a H => ?_
  refine then_normal (wp_ret (inb_ret (then_ret ?_)))
  refine H.ret1 (fn := Tryz.f50) Tryz.results50 (RV.tmp_ (v := (.bool false)) (by kernel_rfl)) ?_
  exact ⟨by unfold validU; rw [show fieldsOk u = false from decide_eq_false (by omega)]; rfl, HP.bl⟩
 have g35p := of_decide_eq_false g35
 refine H.go HP 5 [(40, (.bool (decide (u.version > 4611686018427387903))))] [0] fun a H => ?_
 refine H.split 40 rfl (fun g40 H => ?_) (fun g40 H => ?_)
 ·have g40p := of_decide_eq_true g40
  refine H.ge HP [(31, (.bool true))] [] fun a H => ?_
  refine then_normal ?_
  refine w_ift H rfl ?_
  refine wp_seq (w_region ?_)
  refine H.ge HP [(2, (.bool false))] [] fun a H => ?_
  refine then_normal (wp_ret (inb_ret (then_ret ?_)))
  refine H.ret1 (fn := Tryz.f50) Tryz.results50 (RV.tmp_ (v := (.bool false)) (by kernel_rfl)) ?_
  exact ⟨by unfold validU; rw [show fieldsOk u = false from decide_eq_false (by omega)]; rfl, HP.bl⟩
 have g40p := of_decide_eq_false g40
 refine H.go HP 5 [(45, (.bool (decide (u.item < 0))))] [0] fun a H => ?_
 refine H.split 45 rfl (fun g45 H => ?_) (fun g45 H => ?_)
 ·have g45p := of_decide_eq_true g45
  refine H.ge HP [(31, (.bool true))] [] fun a H => ?_
  refine then_normal ?_
  refine w_ift H rfl ?_
  refine wp_seq (w_region ?_)
  refine H.ge HP [(2, (.bool false))] [] fun a H => ?_
  refine then_normal (wp_ret (inb_ret (then_ret ?_)))
  refine H.ret1 (fn := Tryz.f50) Tryz.results50 (RV.tmp_ (v := (.bool false)) (by kernel_rfl)) ?_
  exact ⟨by unfold validU; rw [show fieldsOk u = false from decide_eq_false (by omega)]; rfl, HP.bl⟩
 have g45p := of_decide_eq_false g45
 refine H.ge HP [(31, (.bool (decide (u.item > 4611686018427387903))))] [0] fun a H => ?_
 refine then_normal ?_
 refine w_if H rfl (fun g31 => ?_) (fun g31 => ?_)
 ·have g31p := of_decide_eq_true g31
  refine wp_seq (w_region ?_)
  refine H.ge HP [(2, (.bool false))] [] fun a H => ?_
  refine then_normal (wp_ret (inb_ret (then_ret ?_)))
  refine H.ret1 (fn := Tryz.f50) Tryz.results50 (RV.tmp_ (v := (.bool false)) (by kernel_rfl)) ?_
  exact ⟨by unfold validU; rw [show fieldsOk u = false from decide_eq_false (by omega)]; rfl, HP.bl⟩
 have g31p := of_decide_eq_false g31
 refine wp_seq (w_region ?_)
 refine H.go HP 5 [(55, (.bool (decide ((u.data.length : Int) > 400))))] [0] fun a H => ?_
 refine H.split 55 rfl (fun g55 H => ?_) (fun g55 H => ?_)
 ·have g55p := of_decide_eq_true g55
  refine H.ge HP [(50, (.bool true))] [] fun a H => ?_
  refine then_normal ?_
  refine w_ift H rfl ?_
  refine wp_seq (w_region ?_)
  refine H.ge HP [(2, (.bool false))] [] fun a H => ?_
  refine then_normal (wp_ret (inb_ret (then_ret ?_)))
  refine H.ret1 (fn := Tryz.f50) Tryz.results50 (RV.tmp_ (v := (.bool false)) (by kernel_rfl)) ?_
  exact ⟨by unfold validU; rw [show fieldsOk u = false from decide_eq_false (by omega)]; rfl, HP.bl⟩
 have g55p := of_decide_eq_false g55
 refine H.ge HP [(50, (.bool ((u.caption.length : Int) != 3)))] [0] fun a H => ?_
 refine then_normal ?_
 refine w_if H rfl (fun g50 => ?_) (fun g50 => ?_)
 ·have g50p := bne_iff_ne.1 g50
  refine wp_seq (w_region ?_)
  refine H.ge HP [(2, (.bool false))] [] fun a H => ?_
  refine then_normal (wp_ret (inb_ret (then_ret ?_)))
  refine H.ret1 (fn := Tryz.f50) Tryz.results50 (RV.tmp_ (v := (.bool false)) (by kernel_rfl)) ?_
  exact ⟨by unfold validU; rw [show fieldsOk u = false from decide_eq_false (by omega)]; rfl, HP.bl⟩
 have g50p := eq_of_bne_false g50
 refine wp_seq (w_region ?_)
 refine H.go HP 4 [(65, (.bool (decide (u.regions < 0))))] [0] fun a H => ?_
 refine H.split 65 rfl (fun g65 H => ?_) (fun g65 H => ?_)
 ·have g65p := of_decide_eq_true g65
  refine H.ge HP [(61, (.bool true))] [] fun a H => ?_
  refine then_normal ?_
  refine w_ift H rfl ?_
  refine wp_seq (w_region ?_)
  refine H.ge HP [(2, (.bool false))] [] fun a H => ?_
  refine then_normal (wp_ret (inb_ret (then_ret ?_)))
  refine H.ret1 (fn := Tryz.f50) Tryz.results50 (RV.tmp_ (v := (.bool false)) (by kernel_rfl)) ?_
  exact ⟨by unfold validU; rw [show fieldsOk u = false from decide_eq_false (by omega)]; rfl, HP.bl⟩
 have g65p := of_decide_eq_false g65
 refine H.ge HP [(61, (.bool (decide (u.regions > 255))))] [0] fun a H => ?_
 refine then_normal ?_
 refine w_if H rfl (fun g61 => ?_) (fun g61 => ?_)
 ·have g61p := of_decide_eq_true g61
  refine wp_seq (w_region ?_)
  refine H.ge HP [(2, (.bool false))] [] fun a H => ?_
  refine then_normal (wp_ret (inb_ret (then_ret ?_)))
  refine H.ret1 (fn := Tryz.f50) Tryz.results50 (RV.tmp_ (v := (.bool false)) (by kernel_rfl)) ?_
  exact ⟨by unfold validU; rw [show fieldsOk u = false from decide_eq_false (by omega)]; rfl, HP.bl⟩
 have g61p := of_decide_eq_false g61
 refine wp_seq (w_region ?_)
 refine H.go HP 4 [(74, (.bool (decide (u.gain < 250))))] [0] fun a H => ?_
 refine H.split 74 rfl (fun g74 H => ?_) (fun g74 H => ?_)
 ·have g74p := of_decide_eq_true g74
  refine H.ge HP [(70, (.bool true))] [] fun a H => ?_
  refine then_normal ?_
  refine w_ift H rfl ?_
  refine wp_seq (w_region ?_)
  refine H.ge HP [(2, (.bool false))] [] fun a H => ?_
  refine then_normal (wp_ret (inb_ret (then_ret ?_)))
  refine H.ret1 (fn := Tryz.f50) Tryz.results50 (RV.tmp_ (v := (.bool false)) (by kernel_rfl)) ?_
  exact ⟨by unfold validU; rw [show fieldsOk u = false from decide_eq_false (by omega)]; rfl, HP.bl⟩
 have g74p := of_decide_eq_false g74
 refine H.ge HP [(70, (.bool (decide (u.gain > 4000))))] [0] fun a H => ?_
 refine then_normal ?_
 refine w_if H rfl (fun g70 => ?_) (fun g70 => ?_)
 ·have g70p := of_decide_eq_true g70
  refine wp_seq (w_region ?_)
  refine H.ge HP [(2, (.bool false))] [] fun a H => ?_
  refine then_normal (wp_ret (inb_ret (then_ret ?_)))
  refine H.ret1 (fn := Tryz.f50) Tryz.results50 (RV.tmp_ (v := (.bool false)) (by kernel_rfl)) ?_
  exact ⟨by unfold validU; rw [show fieldsOk u = false from decide_eq_false (by omega)]; rfl, HP.bl⟩
 have g70p := of_decide_eq_false g70
 refine wp_skip (inb_normal (then_normal (wp_seq (w_region ?_))))
 refine H.go HP 2 [(80, (.agg #[(ii u.os), (ii u.of), (.slice u.A u.al.length u.c)]))] [0] fun a H => ?_
 refine H.call 81 (by kernel_rfl) (Eq.trans (by kernel_rfl : _ = (callFunc 84 #[(.agg #[(ii u.os), (ii u.of), (.slice u.A u.al.length u.c)])]).run Tryz.prog w_2) (Tryz.call84 _ _)) (valid_any u.os u.of u.A u.al.length u.c u.al w_2 (hu.below HP.bl)) ?_
 rintro e w_3 ⟨rfl, hb⟩
 refine ⟨_, rfl, ?_⟩
 intro a H
 have HP := HP.next hb
 refine H.ge HP [(2, (.bool (validP u.os u.of u.al)))] [] fun a H => ?_
 refine then_normal (wp_ret ?_)
 refine H.ret1 (fn := Tryz.f50) Tryz.results50 (RV.tmp_ (v := (.bool (validP u.os u.of u.al))) (by kernel_rfl)) ?_
 exact ⟨by unfold validU; rw [show fieldsOk u = true from decide_eq_true (by omega)]; rfl, HP.bl⟩
set_option maxRecDepth 100000 in
set_option maxHeartbeats 4000000 in
theorem clock_any (t : Nat) (w : World) (ht : t < 9223372036854775808) :
  Calls Tryz.prog 86 #[.int .i64 (t : Int)] w fun e w' => e = .returned (.string (bstr (clockP t))) ∧ Below w.heap.size w w' := by
 have HP := Hp.start w
 refine w_enter 19 [(0, (ii t))] Tryz.func86 rfl Tryz.ntmps86 (by kernel_rfl) (by kernel_rfl) fun a H => ?_
 refine wp_seq (w_region ?_)
 refine H.ge HP [(2, (.string (bstr ([]))))] [] fun a H => ?_
 refine then_normal (wp_seq (w_region ?_))
 refine H.alloc HP 3 (fun b => (pt b 0)) 245 [(.int .u8 0), (.int .u8 0), (.int .u8 0), (.int .u8 0), (.int .u8 0)] (by kernel_rfl) (fun w => by kernel_rfl) fun b_1 w_2 a H HP => ?_
 refine wpList_nil (then_normal (wp_seq (wp_seq (w_region ?_))))
 refine H.ge HP [(5, (ii 0))] [] fun a H => ?_
 refine then_normal (wp_block ?_)
 refine w_loop (fun mm a wv => (mm = 5 ∧ Sl 19 [(5, (ii 0)), (3, (pt b_1 0)), (0, (ii t)), (2, (.string (bstr ([]))))] a ∧ Hp w wv [bx b_1 245 [(.int .u8 0), (.int .u8 0), (.int .u8 0), (.int .u8 0), (.int .u8 0)] true] []) ∨ (mm = 4 ∧ Sl 19 [(5, (ii 1)), (3, (pt b_1 0)), (0, (ii t)), (2, (.string (bstr ([]))))] a ∧ Hp w wv [bx b_1 245 [(.int .u8 0), (.int .u8 0), (.int .u8 0), (.int .u8 0), (.int .u8 ((t / 2 ^ 0 % 256 : Nat) : Int))] true] []) ∨ (mm = 3 ∧ Sl 19 [(5, (ii 2)), (3, (pt b_1 0)), (0, (ii t)), (2, (.string (bstr ([]))))] a ∧ Hp w wv [bx b_1 245 [(.int .u8 0), (.int .u8 0), (.int .u8 0), (.int .u8 ((t / 2 ^ 8 % 256 : Nat) : Int)), (.int .u8 ((t / 2 ^ 0 % 256 : Nat) : Int))] true] []) ∨ (mm = 2 ∧ Sl 19 [(5, (ii 3)), (3, (pt b_1 0)), (0, (ii t)), (2, (.string (bstr ([]))))] a ∧ Hp w wv [bx b_1 245 [(.int .u8 0), (.int .u8 0), (.int .u8 ((t / 2 ^ 16 % 256 : Nat) : Int)), (.int .u8 ((t / 2 ^ 8 % 256 : Nat) : Int)), (.int .u8 ((t / 2 ^ 0 % 256 : Nat) : Int))] true] []) ∨ (mm = 1 ∧ Sl 19 [(5, (ii 4)), (3, (pt b_1 0)), (0, (ii t)), (2, (.string (bstr ([]))))] a ∧ Hp w wv [bx b_1 245 [(.int .u8 0), (.int .u8 ((t / 2 ^ 24 % 256 : Nat) : Int)), (.int .u8 ((t / 2 ^ 16 % 256 : Nat) : Int)), (.int .u8 ((t / 2 ^ 8 % 256 : Nat) : Int)), (.int .u8 ((t / 2 ^ 0 % 256 : Nat) : Int))] true] []) ∨ (mm = 0 ∧ Sl 19 [(5, (ii 5)), (3, (pt b_1 0)), (0, (ii t)), (2, (.string (bstr ([]))))] a ∧ Hp w wv [bx b_1 245 [(.int .u8 ((t / 2 ^ 32 % 256 : Nat) : Int)), (.int .u8 ((t / 2 ^ 24 % 256 : Nat) : Int)), (.int .u8 ((t / 2 ^ 16 % 256 : Nat) : Int)), (.int .u8 ((t / 2 ^ 8 % 256 : Nat) : Int)), (.int .u8 ((t / 2 ^ 0 % 256 : Nat) : Int))] true] [])) 5 (.inl ⟨rfl, H.keep (by kernel_rfl), HP⟩) ?_
 rintro mm a w_3 (⟨rfl, H, HP⟩ | ⟨rfl, H, HP⟩ | ⟨rfl, H, HP⟩ | ⟨rfl, H, HP⟩ | ⟨rfl, H, HP⟩ | ⟨rfl, H, HP⟩)
 ·refine wp_seq (w_region ?_)
  refine H.ge HP [(6, (.bool true))] [] fun a H => ?_
  refine then_normal (wp_seq ?_)
  refine w_ift H rfl ?_
  refine wp_skip (then_normal (wp_seq (wp_block (wp_seq (w_region ?_)))))
  refine H.ge HP [(4, (ii 0))] [] fun a H => ?_
  refine then_normal (w_region ?_)
  refine H.go HP 1 [(8, (ii 0))] [] fun a H => H.valE 9 (ii (IntKind.i64.wrap (4 - 0))) (ii 4) (by kernel_rfl) (by kernel_rfl) (by kernel_rfl) fun a H => H.go HP 2 [(10, (ii t)), (11, (ii 0))] [] fun a H => H.valE 12 (ii (IntKind.i64.wrap (8 * 0))) (ii 0) (by kernel_rfl) (by kernel_rfl) (by kernel_rfl) fun a H => H.valE 13 (ii ((t : Int).fdiv (2 ^ 0))) (ii ((t / 2 ^ 0 : Nat) : Int)) (by kernel_rfl) (by kernel_rfl) ((congrArg (Value.int .i64) (shr_nat (a := t) (c := 0)))) fun a H => H.valE 14 (.int .u8 (IntKind.u8.wrap ((t / 2 ^ 0 : Nat) : Int))) (.int .u8 ((t / 2 ^ 0 % 256 : Nat) : Int)) (by kernel_rfl) (by kernel_rfl) ((congrArg (Value.int .u8) (wrap_u8_nat _))) fun a H => H.v 15 (pt b_1 4) fun a H => H.sh HP 0 4 (.int .u8 ((t / 2 ^ 0 % 256 : Nat) : Int)) rfl fun w_4 a H HP => ?_
  refine wpList_nil (inb_normal (then_normal (w_region ?_)))
  refine H.valE 16 (ii (IntKind.i64.wrap (0 + 1))) (ii 1) (by kernel_rfl) (by kernel_rfl) (by kernel_rfl) fun a H => ?_
  refine H.ge HP [(5, (ii 1))] [] fun a H => ?_
  refine then_normal ?_
  exact ⟨4, by omega, .inr (.inl ⟨rfl, H.keep (by kernel_rfl), HP⟩)⟩
 ·refine wp_seq (w_region ?_)
  refine H.ge HP [(6, (.bool true))] [] fun a H => ?_
  refine then_normal (wp_seq ?_)
  refine w_ift H rfl ?_
  refine wp_skip (then_normal (wp_seq (wp_block (wp_seq (w_region ?_)))))
  refine H.ge HP [(4, (ii 1))] [] fun a H => ?_
  refine then_normal (w_region ?_)
  refine H.go HP 1 [(8, (ii 1))] [] fun a H => H.valE 9 (ii (IntKind.i64.wrap (4 - 1))) (ii 3) (by kernel_rfl) (by kernel_rfl) (by kernel_rfl) fun a H => H.go HP 2 [(10, (ii t)), (11, (ii 1))] [] fun a H => H.valE 12 (ii (IntKind.i64.wrap (8 * 1))) (ii 8) (by kernel_rfl) (by kernel_rfl) (by kernel_rfl) fun a H => H.valE 13 (ii ((t : Int).fdiv (2 ^ 8))) (ii ((t / 2 ^ 8 : Nat) : Int)) (by kernel_rfl) (by kernel_rfl) ((congrArg (Value.int .i64) (shr_nat (a := t) (c := 8)))) fun a H => H.valE 14 (.int .u8 (IntKind.u8.wrap ((t / 2 ^ 8 : Nat) : Int))) (.int .u8 ((t / 2 ^ 8 % 256 : Nat) : Int)) (by kernel_rfl) (by kernel_rfl) ((congrArg (Value.int .u8) (wrap_u8_nat _))) fun a H => H.v 15 (pt b_1 3) fun a H => H.sh HP 0 3 (.int .u8 ((t / 2 ^ 8 % 256 : Nat) : Int)) rfl fun w_5 a H HP => ?_
  refine wpList_nil (inb_normal (then_normal (w_region ?_)))
  refine H.valE 16 (ii (IntKind.i64.wrap (1 + 1))) (ii 2) (by kernel_rfl) (by kernel_rfl) (by kernel_rfl) fun a H => ?_
  refine H.ge HP [(5, (ii 2))] [] fun a H => ?_
  refine then_normal ?_
  exact ⟨3, by omega, .inr (.inr (.inl ⟨rfl, H.keep (by kernel_rfl), HP⟩))⟩
 ·refine wp_seq (w_region ?_)
  refine H.ge HP [(6, (.bool true))] [] fun a H => ?_
  refine then_normal (wp_seq ?_)
  refine w_ift H rfl ?_
  refine wp_skip (then_normal (wp_seq (wp_block (wp_seq (w_region ?_)))))
  refine H.ge HP [(4, (ii 2))] [] fun a H => ?_
  refine then_normal (w_region ?_)
  refine H.go HP 1 [(8, (ii 2))] [] fun a H => H.valE 9 (ii (IntKind.i64.wrap (4 - 2))) (ii 2) (by kernel_rfl) (by kernel_rfl) (by kernel_rfl) fun a H => H.go HP 2 [(10, (ii t)), (11, (ii 2))] [] fun a H => H.valE 12 (ii (IntKind.i64.wrap (8 * 2))) (ii 16) (by kernel_rfl) (by kernel_rfl) (by kernel_rfl) fun a H => H.valE 13 (ii ((t : Int).fdiv (2 ^ 16))) (ii ((t / 2 ^ 16 : Nat) : Int)) (by kernel_rfl) (by kernel_rfl) ((congrArg (Value.int .i64) (shr_nat (a := t) (c := 16)))) fun a H => H.valE 14 (.int .u8 (IntKind.u8.wrap ((t / 2 ^ 16 : Nat) : Int))) (.int .u8 ((t / 2 ^ 16 % 256 : Nat) : Int)) (by kernel_rfl) (by kernel_rfl) ((congrArg (Value.int .u8) (wrap_u8_nat _))) fun a H => H.v 15 (pt b_1 2) fun a H => H.sh HP 0 2 (.int .u8 ((t / 2 ^ 16 % 256 : Nat) : Int)) rfl fun w_6 a H HP => ?_
  refine wpList_nil (inb_normal (then_normal (w_region ?_)))
  refine H.valE 16 (ii (IntKind.i64.wrap (2 + 1))) (ii 3) (by kernel_rfl) (by kernel_rfl) (by kernel_rfl) fun a H => ?_
  refine H.ge HP [(5, (ii 3))] [] fun a H => ?_
  refine then_normal ?_
  exact ⟨2, by omega, .inr (.inr (.inr (.inl ⟨rfl, H.keep (by kernel_rfl), HP⟩)))⟩
 ·refine wp_seq (w_region ?_)
  refine H.ge HP [(6, (.bool true))] [] fun a H => ?_
  refine then_normal (wp_seq ?_)
  refine w_ift H rfl ?_
  refine wp_skip (then_normal (wp_seq (wp_block (wp_seq (w_region ?_)))))
  refine H.ge HP [(4, (ii 3))] [] fun a H => ?_
  refine then_normal (w_region ?_)
  refine H.go HP 1 [(8, (ii 3))] [] fun a H => H.valE 9 (ii (IntKind.i64.wrap (4 - 3))) (ii 1) (by kernel_rfl) (by kernel_rfl) (by kernel_rfl) fun a H => H.go HP 2 [(10, (ii t)), (11, (ii 3))] [] fun a H => H.valE 12 (ii (IntKind.i64.wrap (8 * 3))) (ii 24) (by kernel_rfl) (by kernel_rfl) (by kernel_rfl) fun a H => H.valE 13 (ii ((t : Int).fdiv (2 ^ 24))) (ii ((t / 2 ^ 24 : Nat) : Int)) (by kernel_rfl) (by kernel_rfl) ((congrArg (Value.int .i64) (shr_nat (a := t) (c := 24)))) fun a H => H.valE 14 (.int .u8 (IntKind.u8.wrap ((t / 2 ^ 24 : Nat) : Int))) (.int .u8 ((t / 2 ^ 24 % 256 : Nat) : Int)) (by kernel_rfl) (by kernel_rfl) ((congrArg (Value.int .u8) (wrap_u8_nat _))) fun a H => H.v 15 (pt b_1 1) fun a H => H.sh HP 0 1 (.int .u8 ((t / 2 ^ 24 % 256 : Nat) : Int)) rfl fun w_7 a H HP => ?_
  refine wpList_nil (inb_normal (then_normal (w_region ?_)))
  refine H.valE 16 (ii (IntKind.i64.wrap (3 + 1))) (ii 4) (by kernel_rfl) (by kernel_rfl) (by kernel_rfl) fun a H => ?_
  refine H.ge HP [(5, (ii 4))] [] fun a H => ?_
  refine then_normal ?_
  exact ⟨1, by omega, .inr (.inr (.inr (.inr (.inl ⟨rfl, H.keep (by kernel_rfl), HP⟩))))⟩
 ·refine wp_seq (w_region ?_)
  refine H.ge HP [(6, (.bool true))] [] fun a H => ?_
  refine then_normal (wp_seq ?_)
  refine w_ift H rfl ?_
  refine wp_skip (then_normal (wp_seq (wp_block (wp_seq (w_region ?_)))))
  refine H.ge HP [(4, (ii 4))] [] fun a H => ?_
  refine then_normal (w_region ?_)
  refine H.go HP 1 [(8, (ii 4))] [] fun a H => H.valE 9 (ii (IntKind.i64.wrap (4 - 4))) (ii 0) (by kernel_rfl) (by kernel_rfl) (by kernel_rfl) fun a H => H.go HP 2 [(10, (ii t)), (11, (ii 4))] [] fun a H => H.valE 12 (ii (IntKind.i64.wrap (8 * 4))) (ii 32) (by kernel_rfl) (by kernel_rfl) (by kernel_rfl) fun a H => H.valE 13 (ii ((t : Int).fdiv (2 ^ 32))) (ii ((t / 2 ^ 32 : Nat) : Int)) (by kernel_rfl) (by kernel_rfl) ((congrArg (Value.int .i64) (shr_nat (a := t) (c := 32)))) fun a H => H.valE 14 (.int .u8 (IntKind.u8.wrap ((t / 2 ^ 32 : Nat) : Int))) (.int .u8 ((t / 2 ^ 32 % 256 : Nat) : Int)) (by kernel_rfl) (by kernel_rfl) ((congrArg (Value.int .u8) (wrap_u8_nat _))) fun a H => H.v 15 (pt b_1 0) fun a H => H.sh HP 0 0 (.int .u8 ((t / 2 ^ 32 % 256 : Nat) : Int)) rfl fun w_8 a H HP => ?_
  refine wpList_nil (inb_normal (then_normal (w_region ?_)))
  refine H.valE 16 (ii (IntKind.i64.wrap (4 + 1))) (ii 5) (by kernel_rfl) (by kernel_rfl) (by kernel_rfl) fun a H => ?_
  refine H.ge HP [(5, (ii 5))] [] fun a H => ?_
  refine then_normal ?_
  exact ⟨0, by omega, .inr (.inr (.inr (.inr (.inr (⟨rfl, H.keep (by kernel_rfl), HP⟩)))))⟩
 refine wp_seq (w_region ?_)
 refine H.ge HP [(6, (.bool false))] [] fun a H => ?_
 refine then_normal (wp_seq ?_)
 refine w_iff H rfl ?_
 refine wp_exit (then_exit (then_exit ?_))
 refine w_exit_here ?_
 refine then_normal (wp_seq (w_region ?_))
 refine H.u 17 (.slice (some ⟨b_1, 0, none⟩) 5 5) (ex_arrslice (n := 5) (e := 5) (sz := 1) (by kernel_rfl) (by kernel_rfl) (by omega) (by kernel_rfl)) fun a H => H.u 18 (.string (bstr (clockP t))) (ex_b2sR (l := (clockP t)) (e := 5) (m := 5) (c := 5) (by kernel_rfl) (clock_rd (HP.at_ 0 rfl)) (by kernel_rfl) (by kernel_rfl) (by kernel_rfl)) fun a H => ?_
 refine H.ge HP [(2, (.string (bstr (clockP t))))] [] fun a H => ?_
 refine then_normal (wp_ret ?_)
 refine H.ret1 (fn := Tryz.f86) Tryz.results86 (RV.tmp_ (v := (.string (bstr (clockP t)))) (by kernel_rfl)) ?_
 exact ⟨rfl, HP.bl⟩
set_option maxRecDepth 100000 in
set_option maxHeartbeats 4000000 in
theorem number_any (base b : Nat) (v : Value) (bs : List UInt8) (A : Option Addr) (n c : Nat) (zs : List Int) (w : World) (hB : (bldR base b v bs).F w) (hz : Rd w 1 A n (ints zs)) (hd : ∀ k, rowFp n A k → k ≠ b ∧ v.ownBlock ≠ some k) (hzb : ∀ z ∈ zs, -wmax ≤ z ∧ z ≤ wmax) (hn : n ≤ 1000) (hlen : bs.length ≤ 1000000) (hbase : base ≤ w.heap.size) :
  Calls Tryz.prog 137 #[.slice A n c, .pointer (some ⟨b, 0, none⟩)] w fun e w' => e = .returned (.tuple #[]) ∧ ∃ v', (bldR base b v' (bs ++ encInts zs)).F w' ∧ Agree w w' (bldR base b v bs).fp ∧ ∀ k, v'.ownBlock = some k → v.ownBlock = some k ∨ w.heap.size ≤ k := by
 have hzl : zs.length = n := by have := hz.1; simp [ints] at this; exact this
 have HP := (Hp.takeBld hB).keepF ⟨rowFp n A, fun w => Rd w 1 A n (ints zs)⟩ hz (fun _ _ h hk hs => h.keep hk hs) (fun k hk => ⟨row_lt0 hz hk, by
  intro x hx; simp only [List.mem_singleton] at hx; subst hx; rintro ((h | h) | h)
  ·exact (hd k hk).1 h
  ·exact (hd k hk).2 h
  ·exact (hd k hk).2 h⟩)
 refine w_enter 21 [(0, (.slice A n c)), (1, (pt b 0))] Tryz.func137 rfl Tryz.ntmps137 (by kernel_rfl) (by kernel_rfl) fun a H => ?_
 refine wp_seq (w_region ?_)
 refine H.ge HP [(7, (.slice A n c)), (8, (ii n)), (9, (ii 0))] [] fun a H => ?_
 refine then_normal (wp_block ?_)
 refine w_loop (fun mm a wv => ∃ (j : Nat), ∃ (v1 : Value), n - j = mm ∧ Sl 21 [(9, (ii j)), (8, (ii n)), (7, (.slice A n c)), (1, (pt b 0))] a ∧ Hp w wv [(bldV v base b v1 (bs ++ encInts (zs.take j)))] [⟨rowFp n A, fun w => Rd w 1 A n (ints zs)⟩] ∧ (j ≤ n) ∧ (∀ k, v1.ownBlock = some k → v.ownBlock = some k ∨ w.heap.size ≤ k)) (n - 0) ?_ ?_
 ·exact ⟨0, v, (by omega), H.keep (by kernel_rfl), (by rw [List.take_zero, show encInts [] = [] from rfl, List.append_nil]; exact HP), by omega, (fun k hk => .inl hk)⟩
 rintro mm a w_1 ⟨j, v1, hmeas, H, HP, hj, hvv⟩
 refine wp_seq (w_region ?_)
 refine H.ge HP [(10, (.bool (decide ((j : Int) < (n : Int)))))] [] fun a H => ?_
 refine then_normal (wp_seq ?_)
 refine w_if H rfl (fun g10 => ?_) (fun g10 => ?_)
 ·have g10p := of_decide_eq_true g10
  refine wp_skip (then_normal (wp_seq (wp_block (wp_seq ?_))))
  have hRD := HP.fact 0 rfl
  obtain ⟨b0, off, hA, hbl, hcell⟩ := hRD.2.resolve_left (by omega)
  subst hA
  have pa : w_1.cell? ⟨b0, off + j * 1, none⟩ = some (ii (zs.getD j 0)) := by rw [Nat.mul_one, hcell j (by omega)]; exact ints_getD (by omega)
  have hzj := hzb (zs.getD j 0) (int_mem (by omega))
  refine w_region ?_
  refine H.u 11 (.pointer (some ⟨b0, off + j * 1, none⟩)) (ex_index (b := b0) (off := off) (len := n) (cap := c) (e := 3) (k := 1) (ik := .i64) (i := (j : Int)) (m := j) (by kernel_rfl) (by kernel_rfl) (by omega) (by omega) (by kernel_rfl) (by kernel_rfl)) fun a H => H.u 12 (ii (zs.getD j 0)) (ex_l1 (pa)) fun a H => ?_
  refine H.ge HP [(4, (ii (zs.getD j 0)))] [] fun a H => ?_
  refine then_normal (wp_seq (w_region ?_))
  refine H.go HP 1 [(14, (ii (zs.getD j 0)))] [] fun a H => ?_
  refine H.call 15 (by kernel_rfl) (Eq.trans (by kernel_rfl : _ = (callFunc 138 #[(ii (zs.getD j 0))]).run Tryz.prog w_1) (Tryz.call138 _ _)) (putInt_any (zs.getD j 0) w_1 hzj.1 hzj.2) ?_
  rintro e w_2 ⟨rfl, hb⟩
  refine ⟨_, rfl, ?_⟩
  intro a H
  have HP := HP.next hb
  have HP0 := HP
  refine H.ge HP [(5, (.string (bstr (encInt (zs.getD j 0)))))] [] fun a H => ?_
  refine then_normal (w_region ?_)
  refine H.go HP 1 [(18, (.string (bstr (encInt (zs.getD j 0)))))] [] fun a H => ?_
  refine H.call 19 (by kernel_rfl) (Eq.trans (by kernel_rfl : _ = (callFunc 139 #[(pt b 0), (.string (bstr (encInt (zs.getD j 0))))]).run Tryz.prog w_2) (Tryz.call139 _ _)) (writeStr_any base b v1 (bs ++ encInts (zs.take j)) (encInt (zs.getD j 0)) w_2 (HP.held (x := bldV v base b v1 (bs ++ encInts (zs.take j))) 0 rfl) (by have h1 := encInts_len (zs.take j); have h2 := (encInt_len (zs.getD j 0)).2; rw [List.length_append]; rw [List.length_take] at h1; omega) (Nat.le_trans hbase HP.size)) ?_
  rintro e w_4 ⟨rfl, v_3, hF, hag, hvn⟩
  refine ⟨_, rfl, ?_⟩
  intro a H
  have HP := HP.wroteV 0 rfl [(bldV v base b v_3 ((bs ++ encInts (zs.take j)) ++ (encInt (zs.getD j 0))))] (by kernel_rfl) hF hag hvn hvv
  have hvv_v_3 : ∀ k, (v_3).ownBlock = some k → v.ownBlock = some k ∨ w.heap.size ≤ k := fun k hk => (hvn k hk).elim (fun h => hvv k h) (fun h => .inr (Nat.le_trans HP0.size h))
  refine wpList_nil (inb_normal (then_normal (w_region ?_)))
  refine H.wi 20 ((j : Int) + 1) fun a H => ?_
  refine H.ge HP [(9, (ii ((j : Int) + 1)))] [] fun a H => ?_
  refine then_normal ?_
  have H := H.as 9 (ii ((j + 1 : Nat) : Int)) rfl rfl
  refine ⟨_, ?_, j + 1, v_3, rfl, H.keep (by kernel_rfl), (by rw [take_int (by omega), encInts_snoc, ← List.append_assoc]; exact HP), by omega, hvv_v_3⟩
  omega
 have g10p := of_decide_eq_false g10
 refine wp_exit (then_exit (then_exit ?_))
 refine w_exit_here ?_
 refine H.end0 (fn := Tryz.f137) Tryz.results137  ?_
 exact ⟨rfl, v1, by rw [List.take_of_length_le (by omega)] at HP; exact HP.held (x := bldV v base b v1 (bs ++ encInts zs)) 0 rfl, HP.endBld hvv, hvv⟩
set_option maxRecDepth 100000 in
set_option maxHeartbeats 4000000 in
theorem text_any (base b : Nat) (v : Value) (bs l : List UInt8) (w : World) (hB : (bldR base b v bs).F w) (hl : l.length ≤ 65536) (hlen : bs.length ≤ 1000000) (hbase : base ≤ w.heap.size) :
  Calls Tryz.prog 140 #[.string (bstr l), .pointer (some ⟨b, 0, none⟩)] w fun e w' => e = .returned (.tuple #[]) ∧ ∃ v', (bldR base b v' (bs ++ encStr l)).F w' ∧ Agree w w' (bldR base b v bs).fp ∧ ∀ k, v'.ownBlock = some k → v.ownBlock = some k ∨ w.heap.size ≤ k := by
 have hvv : ∀ k, v.ownBlock = some k → v.ownBlock = some k ∨ w.heap.size ≤ k := fun k h => .inl h
 have HP := Hp.takeBld hB
 refine w_enter 12 [(0, (.string (bstr l))), (1, (pt b 0))] Tryz.func140 rfl Tryz.ntmps140 (by kernel_rfl) (by kernel_rfl) fun a H => ?_
 refine wp_seq (w_region ?_)
 refine H.go HP 1 [(6, (.string (bstr l)))] [] fun a H => ?_
 refine H.call 7 (by kernel_rfl) (Eq.trans (by kernel_rfl : _ = (callFunc 141 #[(.string (bstr l))]).run Tryz.prog w) (Tryz.call141 _ _)) (putString_any l w hl) ?_
 rintro e w_1 ⟨rfl, hb⟩
 refine ⟨_, rfl, ?_⟩
 intro a H
 have HP := HP.next hb
 have HP0 := HP
 refine H.ge HP [(5, (.tuple #[(.string (bstr (encStr l))), (ii 0)])), (3, (.string (bstr (encStr l)))), (4, (ii 0))] [] fun a H => ?_
 refine then_normal (w_region ?_)
 refine H.go HP 1 [(10, (.string (bstr (encStr l))))] [] fun a H => ?_
 refine H.call 11 (by kernel_rfl) (Eq.trans (by kernel_rfl : _ = (callFunc 139 #[(pt b 0), (.string (bstr (encStr l)))]).run Tryz.prog w_1) (Tryz.call139 _ _)) (writeStr_any base b v bs (encStr l) w_1 (HP.held (x := bldV v base b v bs) 0 rfl) (by unfold encStr; have h2 := (encInt_len (l.length : Int)).2; rw [List.length_append]; omega) (Nat.le_trans hbase HP.size)) ?_
 rintro e w_3 ⟨rfl, v_2, hF, hag, hvn⟩
 refine ⟨_, rfl, ?_⟩
 intro a H
 have HP := HP.wroteV 0 rfl [(bldV v base b v_2 (bs ++ (encStr l)))] (by kernel_rfl) hF hag hvn hvv
 have hvv_v_2 : ∀ k, (v_2).ownBlock = some k → v.ownBlock = some k ∨ w.heap.size ≤ k := fun k hk => (hvn k hk).elim (fun h => hvv k h) (fun h => .inr (Nat.le_trans HP0.size h))
 refine wpList_nil ?_
 refine H.end0 (fn := Tryz.f140) Tryz.results140  ?_
 exact ⟨rfl, v_2, HP.held (x := bldV v base b v_2 (bs ++ encStr l)) 0 rfl, HP.endBld hvv_v_2, hvv_v_2⟩
set_option maxRecDepth 100000 in
set_option maxHeartbeats 4000000 in
theorem body_any (u : Un) (w : World) (hL : Laid w) (hu : IsAlts w u.A u.al.length u.al) (hv : validU u = true) :
  Calls Tryz.prog 88 #[u.val] w fun e w' => e = .returned (.string (bstr (bodyP u))) ∧ Below w.heap.size w w' := by
 obtain ⟨hvf, hvo⟩ := validU_facts hv
 obtain ⟨f1, f2, f3, f4, f5, f6, f7, f8, f9, f10, f11, f12, f13, f14, f15, f16⟩ := hvf
 have hol := encOpt_len hvo
 have HP := Hp.start w
 refine w_enter 57 [(0, (.agg (ua u u.A u.c)))] Tryz.func88 rfl Tryz.ntmps88 (by kernel_rfl) (by kernel_rfl) fun a H => ?_
 refine wp_seq (w_region ?_)
 refine H.alloc HP 1 (fun b => (pt b 0)) 76 (ul u u.A u.c) (by kernel_rfl) (fun w => by kernel_rfl) fun b_1 w_2 a H HP => ?_
 refine H.ge HP [(2, (.string (bstr ([]))))] [] fun a H => ?_
 refine then_normal (wp_seq (w_region ?_))
 refine H.alloc HP 3 (fun b => (pt b 0)) 138 [(.pointer none), (.slice none 0 0)] (by kernel_rfl) (fun w => by kernel_rfl) fun b_3 w_4 a H HP => ?_
 refine wpList_nil ?_
 have HP := HP.toBld 0 5 rfl [(bldR w.heap.size b_3 (.slice none 0 0) []), bx b_1 76 (ul u u.A u.c) true] (by kernel_rfl)
 refine then_normal (wp_seq (w_region ?_))
 refine H.ge HP [(4, (.func (.func 137) #[] #[(pt b_3 0)]))] [] fun a H => ?_
 refine then_normal (wp_seq (w_region ?_))
 refine H.ge HP [(5, (.func (.func 140) #[] #[(pt b_3 0)]))] [] fun a H => ?_
 refine then_normal (wp_seq (w_region ?_))
 refine H.ge HP [(6, (ii 0))] [] fun a H => ?_
 refine then_normal ?_
 refine w_cut (fun a wv => ∃ (kz : Int), Sl 57 [(6, (ii kz)), (1, (pt b_1 0)), (2, (.string (bstr ([])))), (3, (pt b_3 0)), (4, (.func (.func 137) #[] #[(pt b_3 0)])), (5, (.func (.func 140) #[] #[(pt b_3 0)]))] a ∧ Hp w wv [(bldR w.heap.size b_3 (.slice none 0 0) []), bx b_1 76 (ul u u.A u.c) true] [] ∧ (kz = if u.key = true then 1 else 0)) ?_ ?_
 ·
  refine wp_seq (w_region ?_)
  refine H.ge HP [(12, (.bool u.key))] [1] fun a H => ?_
  refine then_normal ?_
  refine w_if H rfl (fun g12 => ?_) (fun g12 => ?_)
  ·have g12p := g12
   refine w_region ?_
   refine H.ge HP [(6, (ii 1))] [] fun a H => ?_
   refine then_normal ?_
   exact ⟨1, H.keep (by kernel_rfl), HP, (by rw [g12]; rfl)⟩
  have g12p := g12
  refine wp_skip (then_normal ?_)
  exact ⟨0, H.keep (by kernel_rfl), HP, (by rw [g12]; rfl)⟩
 
 rintro a w_5 ⟨kz, H, HP, hkz⟩
 refine wp_seq ?_
 have hkz1 : 0 ≤ kz ∧ kz ≤ 1 := by rw [hkz]; split <;> omega
 refine w_region ?_
 refine H.go HP 12 [(13, (.func (.func 137) #[] #[(pt b_3 0)])), (15, (ii u.channel)), (17, (ii u.frame)), (19, (ii u.version)), (21, (ii u.item)), (23, (ii u.index)), (24, (ii kz))] [1, 1, 1, 1, 1] fun a H => H.alloc HP 25 (fun b => (.slice (some ⟨b, 0, none⟩) 6 6)) 3 [(ii u.channel), (ii u.frame), (ii u.version), (ii u.item), (ii u.index), (ii kz)] (by kernel_rfl) (fun w => by kernel_rfl) fun b_6 w_7 a H HP => ?_
 refine H.call 26 (by kernel_rfl) (Eq.trans (by kernel_rfl : _ = (callFunc 137 #[(.slice (some ⟨b_6, 0, none⟩) 6 6), (pt b_3 0)]).run Tryz.prog w_7) (Tryz.call137 _ _)) (number_any w.heap.size b_3 (.slice none 0 0) ([]) (some ⟨b_6, 0, none⟩) 6 6 [u.channel, u.frame, u.version, u.item, u.index, kz] w_7 (HP.held 1 rfl) (Rd.of_box (HP.at_ 0 rfl) rfl) (fun q hq => by obtain ⟨_, o, e⟩ := hq; cases e; exact ⟨fun e => pairwise_at HP.apart (i := 0) (j := 1) rfl rfl (by omega) _ rfl (.inl e), fun e => pairwise_at HP.apart (i := 0) (j := 1) rfl rfl (by omega) _ rfl (.inr e)⟩) (by intro z hz; simp only [List.mem_cons, List.not_mem_nil, or_false] at hz; unfold wmax; rcases hz with rfl | rfl | rfl | rfl | rfl | rfl <;> omega) (by omega) (by have e1 := encInts_len [u.channel, u.frame, u.version, u.item, u.index, kz]; have e2 := encInts_len [u.regions, u.gain]; have := (encInt_len (u.data.length : Int)).2; have := (encInt_len (u.caption.length : Int)).2; have := (encInt_len (((encOpt u.os u.of u.al).length : Nat) : Int)).2; simp only [List.length_cons, List.length_nil] at e1 e2; first | (simp only [List.length_append, encStr, List.length_nil]; omega) | simp) HP.size) ?_
 rintro e w_9 ⟨rfl, v_8, hF, hag, hvn⟩
 refine ⟨_, rfl, ?_⟩
 intro a H
 have HP := HP.wrote 1 rfl [bx b_6 3 [(ii u.channel), (ii u.frame), (ii u.version), (ii u.item), (ii u.index), (ii kz)] true, (bldR w.heap.size b_3 v_8 ([] ++ encInts [u.channel, u.frame, u.version, u.item, u.index, kz])), bx b_1 76 (ul u u.A u.c) true] (by kernel_rfl) hF hag hvn
 refine wpList_nil (then_normal (wp_seq (w_region ?_)))
 refine H.go HP 3 [(27, (.func (.func 140) #[] #[(pt b_3 0)])), (29, (.string (bstr u.data)))] [2] fun a H => ?_
 refine H.call 30 (by kernel_rfl) (Eq.trans (by kernel_rfl : _ = (callFunc 140 #[(.string (bstr u.data)), (pt b_3 0)]).run Tryz.prog w_9) (Tryz.call140 _ _)) (text_any w.heap.size b_3 v_8 ([] ++ encInts [u.channel, u.frame, u.version, u.item, u.index, kz]) u.data w_9 (HP.held 1 rfl) (by omega) (by have e1 := encInts_len [u.channel, u.frame, u.version, u.item, u.index, kz]; have e2 := encInts_len [u.regions, u.gain]; have := (encInt_len (u.data.length : Int)).2; have := (encInt_len (u.caption.length : Int)).2; have := (encInt_len (((encOpt u.os u.of u.al).length : Nat) : Int)).2; simp only [List.length_cons, List.length_nil] at e1 e2; first | (simp only [List.length_append, encStr, List.length_nil]; omega) | simp) HP.size) ?_
 rintro e w_11 ⟨rfl, v_10, hF, hag, hvn⟩
 refine ⟨_, rfl, ?_⟩
 intro a H
 have HP := HP.wrote 1 rfl [bx b_6 3 [(ii u.channel), (ii u.frame), (ii u.version), (ii u.item), (ii u.index), (ii kz)] true, (bldR w.heap.size b_3 v_10 (([] ++ encInts [u.channel, u.frame, u.version, u.item, u.index, kz]) ++ encStr u.data)), bx b_1 76 (ul u u.A u.c) true] (by kernel_rfl) hF hag hvn
 refine wpList_nil (then_normal (wp_seq (w_region ?_)))
 refine H.go HP 5 [(31, (.func (.func 137) #[] #[(pt b_3 0)])), (33, (ii u.regions)), (35, (ii u.gain))] [2, 2] fun a H => H.alloc HP 36 (fun b => (.slice (some ⟨b, 0, none⟩) 2 2)) 3 [(ii u.regions), (ii u.gain)] (by kernel_rfl) (fun w => by kernel_rfl) fun b_12 w_13 a H HP => ?_
 refine H.call 37 (by kernel_rfl) (Eq.trans (by kernel_rfl : _ = (callFunc 137 #[(.slice (some ⟨b_12, 0, none⟩) 2 2), (pt b_3 0)]).run Tryz.prog w_13) (Tryz.call137 _ _)) (number_any w.heap.size b_3 v_10 (([] ++ encInts [u.channel, u.frame, u.version, u.item, u.index, kz]) ++ encStr u.data) (some ⟨b_12, 0, none⟩) 2 2 [u.regions, u.gain] w_13 (HP.held 2 rfl) (Rd.of_box (HP.at_ 0 rfl) rfl) (fun q hq => by obtain ⟨_, o, e⟩ := hq; cases e; exact ⟨fun e => pairwise_at HP.apart (i := 0) (j := 2) rfl rfl (by omega) _ rfl (.inl e), fun e => pairwise_at HP.apart (i := 0) (j := 2) rfl rfl (by omega) _ rfl (.inr e)⟩) (by intro z hz; simp only [List.mem_cons, List.not_mem_nil, or_false] at hz; unfold wmax; rcases hz with rfl | rfl <;> omega) (by omega) (by have e1 := encInts_len [u.channel, u.frame, u.version, u.item, u.index, kz]; have e2 := encInts_len [u.regions, u.gain]; have := (encInt_len (u.data.length : Int)).2; have := (encInt_len (u.caption.length : Int)).2; have := (encInt_len (((encOpt u.os u.of u.al).length : Nat) : Int)).2; simp only [List.length_cons, List.length_nil] at e1 e2; first | (simp only [List.length_append, encStr, List.length_nil]; omega) | simp) HP.size) ?_
 rintro e w_15 ⟨rfl, v_14, hF, hag, hvn⟩
 refine ⟨_, rfl, ?_⟩
 intro a H
 have HP := HP.wrote 2 rfl [bx b_12 3 [(ii u.regions), (ii u.gain)] true, bx b_6 3 [(ii u.channel), (ii u.frame), (ii u.version), (ii u.item), (ii u.index), (ii kz)] true, (bldR w.heap.size b_3 v_14 ((([] ++ encInts [u.channel, u.frame, u.version, u.item, u.index, kz]) ++ encStr u.data) ++ encInts [u.regions, u.gain])), bx b_1 76 (ul u u.A u.c) true] (by kernel_rfl) hF hag hvn
 refine wpList_nil (then_normal (wp_seq (w_region ?_)))
 refine H.go HP 3 [(38, (.func (.func 140) #[] #[(pt b_3 0)])), (40, (.string (bstr u.caption)))] [3] fun a H => ?_
 refine H.call 41 (by kernel_rfl) (Eq.trans (by kernel_rfl : _ = (callFunc 140 #[(.string (bstr u.caption)), (pt b_3 0)]).run Tryz.prog w_15) (Tryz.call140 _ _)) (text_any w.heap.size b_3 v_14 ((([] ++ encInts [u.channel, u.frame, u.version, u.item, u.index, kz]) ++ encStr u.data) ++ encInts [u.regions, u.gain]) u.caption w_15 (HP.held 2 rfl) (by omega) (by have e1 := encInts_len [u.channel, u.frame, u.version, u.item, u.index, kz]; have e2 := encInts_len [u.regions, u.gain]; have := (encInt_len (u.data.length : Int)).2; have := (encInt_len (u.caption.length : Int)).2; have := (encInt_len (((encOpt u.os u.of u.al).length : Nat) : Int)).2; simp only [List.length_cons, List.length_nil] at e1 e2; first | (simp only [List.length_append, encStr, List.length_nil]; omega) | simp) HP.size) ?_
 rintro e w_17 ⟨rfl, v_16, hF, hag, hvn⟩
 refine ⟨_, rfl, ?_⟩
 intro a H
 have HP := HP.wrote 2 rfl [bx b_12 3 [(ii u.regions), (ii u.gain)] true, bx b_6 3 [(ii u.channel), (ii u.frame), (ii u.version), (ii u.item), (ii u.index), (ii kz)] true, (bldR w.heap.size b_3 v_16 (((([] ++ encInts [u.channel, u.frame, u.version, u.item, u.index, kz]) ++ encStr u.data) ++ encInts [u.regions, u.gain]) ++ encStr u.caption)), bx b_1 76 (ul u u.A u.c) true] (by kernel_rfl) hF hag hvn
 refine wpList_nil (then_normal (wp_seq (w_region ?_)))
 refine H.go HP 2 [(44, (.agg #[(ii u.os), (ii u.of), (.slice u.A u.al.length u.c)]))] [3] fun a H => ?_
 refine H.call 45 (by kernel_rfl) (Eq.trans (by kernel_rfl : _ = (callFunc 142 #[(.agg #[(ii u.os), (ii u.of), (.slice u.A u.al.length u.c)])]).run Tryz.prog w_17) (Tryz.call142 _ _)) ((by have hh := encode_any u.os u.of u.A u.al.length u.c u.al w_17 (hu.below HP.bl); unfold encV at hh; rw [if_pos hvo] at hh; exact hh)) ?_
 rintro e w_18 ⟨rfl, hb⟩
 refine ⟨_, rfl, ?_⟩
 intro a H
 have HP := HP.next hb
 refine H.ge HP [(7, (.string (bstr (encOpt u.os u.of u.al))))] [] fun a H => ?_
 refine then_normal (wp_seq (w_region ?_))
 refine H.go HP 2 [(48, (.func (.func 140) #[] #[(pt b_3 0)])), (49, (.string (bstr (encOpt u.os u.of u.al))))] [] fun a H => ?_
 refine H.call 50 (by kernel_rfl) (Eq.trans (by kernel_rfl : _ = (callFunc 140 #[(.string (bstr (encOpt u.os u.of u.al))), (pt b_3 0)]).run Tryz.prog w_18) (Tryz.call140 _ _)) (text_any w.heap.size b_3 v_16 (((([] ++ encInts [u.channel, u.frame, u.version, u.item, u.index, kz]) ++ encStr u.data) ++ encInts [u.regions, u.gain]) ++ encStr u.caption) (encOpt u.os u.of u.al) w_18 (HP.held 2 rfl) (by omega) (by have e1 := encInts_len [u.channel, u.frame, u.version, u.item, u.index, kz]; have e2 := encInts_len [u.regions, u.gain]; have := (encInt_len (u.data.length : Int)).2; have := (encInt_len (u.caption.length : Int)).2; have := (encInt_len (((encOpt u.os u.of u.al).length : Nat) : Int)).2; simp only [List.length_cons, List.length_nil] at e1 e2; first | (simp only [List.length_append, encStr, List.length_nil]; omega) | simp) HP.size) ?_
 rintro e w_20 ⟨rfl, v_19, hF, hag, hvn⟩
 refine ⟨_, rfl, ?_⟩
 intro a H
 have HP := HP.wrote 2 rfl [bx b_12 3 [(ii u.regions), (ii u.gain)] true, bx b_6 3 [(ii u.channel), (ii u.frame), (ii u.version), (ii u.item), (ii u.index), (ii kz)] true, (bldR w.heap.size b_3 v_19 ((((([] ++ encInts [u.channel, u.frame, u.version, u.item, u.index, kz]) ++ encStr u.data) ++ encInts [u.regions, u.gain]) ++ encStr u.caption) ++ encStr (encOpt u.os u.of u.al))), bx b_1 76 (ul u u.A u.c) true] (by kernel_rfl) hF hag hvn
 refine wpList_nil (then_normal (wp_seq (w_region ?_)))
 refine H.go HP 1 [(51, (.func (.func 137) #[] #[(pt b_3 0)]))] [] fun a H => ?_
 refine H.call 52 (by kernel_rfl) (Eq.trans (by kernel_rfl : _ = (callFunc 53 #[(pt b_3 0)]).run Tryz.prog w_20) (Tryz.call53 _ _)) (str_any w.heap.size b_3 v_19 ((((([] ++ encInts [u.channel, u.frame, u.version, u.item, u.index, kz]) ++ encStr u.data) ++ encInts [u.regions, u.gain]) ++ encStr u.caption) ++ encStr (encOpt u.os u.of u.al)) w_20 (HP.held 2 rfl) (by intro h; have e1 := congrArg List.length h; have e2 := (encInt_len (u.data.length : Int)).1; simp only [List.length_append, List.length_nil, encStr] at e1; omega)) ?_
 rintro e w_21 ⟨rfl, hF, hag⟩
 refine ⟨_, rfl, ?_⟩
 intro a H
 have HP := HP.wrote 2 rfl [bx b_12 3 [(ii u.regions), (ii u.gain)] true, bx b_6 3 [(ii u.channel), (ii u.frame), (ii u.version), (ii u.item), (ii u.index), (ii kz)] true, (bldR w.heap.size b_3 v_19 ((((([] ++ encInts [u.channel, u.frame, u.version, u.item, u.index, kz]) ++ encStr u.data) ++ encInts [u.regions, u.gain]) ++ encStr u.caption) ++ encStr (encOpt u.os u.of u.al))), bx b_1 76 (ul u u.A u.c) true] (by kernel_rfl) hF hag (fun k hk => .inl hk)
 refine H.call 53 (by kernel_rfl) (Eq.trans (by kernel_rfl : _ = (callFunc 143 #[(.string (bstr ((((([] ++ encInts [u.channel, u.frame, u.version, u.item, u.index, kz]) ++ encStr u.data) ++ encInts [u.regions, u.gain]) ++ encStr u.caption) ++ encStr (encOpt u.os u.of u.al))))]).run Tryz.prog w_21) (Tryz.call143 _ _)) (sum_any ((((([] ++ encInts [u.channel, u.frame, u.version, u.item, u.index, kz]) ++ encStr u.data) ++ encInts [u.regions, u.gain]) ++ encStr u.caption) ++ encStr (encOpt u.os u.of u.al)) w_21 (hL.below HP.bl) (by have : ((((([] ++ encInts [u.channel, u.frame, u.version, u.item, u.index, kz]) ++ encStr u.data) ++ encInts [u.regions, u.gain]) ++ encStr u.caption) ++ encStr (encOpt u.os u.of u.al)).length ≤ 1000000 := (by have e1 := encInts_len [u.channel, u.frame, u.version, u.item, u.index, kz]; have e2 := encInts_len [u.regions, u.gain]; have := (encInt_len (u.data.length : Int)).2; have := (encInt_len (u.caption.length : Int)).2; have := (encInt_len (((encOpt u.os u.of u.al).length : Nat) : Int)).2; simp only [List.length_cons, List.length_nil] at e1 e2; first | (simp only [List.length_append, encStr, List.length_nil]; omega) | simp); omega)) ?_
 rintro e w_22 ⟨rfl, hb⟩
 refine ⟨_, rfl, ?_⟩
 intro a H
 have HP := HP.next hb
 have hsl := sumP_lt ((((([] ++ encInts [u.channel, u.frame, u.version, u.item, u.index, kz]) ++ encStr u.data) ++ encInts [u.regions, u.gain]) ++ encStr u.caption) ++ encStr (encOpt u.os u.of u.al))
 refine H.alloc HP 54 (fun b => (.slice (some ⟨b, 0, none⟩) 1 1)) 3 [(ii ((sumP ((((([] ++ encInts [u.channel, u.frame, u.version, u.item, u.index, kz]) ++ encStr u.data) ++ encInts [u.regions, u.gain]) ++ encStr u.caption) ++ encStr (encOpt u.os u.of u.al)) : Nat) : Int))] (by kernel_rfl) (fun w => by kernel_rfl) fun b_23 w_24 a H HP => ?_
 refine H.call 55 (by kernel_rfl) (Eq.trans (by kernel_rfl : _ = (callFunc 137 #[(.slice (some ⟨b_23, 0, none⟩) 1 1), (pt b_3 0)]).run Tryz.prog w_24) (Tryz.call137 _ _)) (number_any w.heap.size b_3 v_19 ((((([] ++ encInts [u.channel, u.frame, u.version, u.item, u.index, kz]) ++ encStr u.data) ++ encInts [u.regions, u.gain]) ++ encStr u.caption) ++ encStr (encOpt u.os u.of u.al)) (some ⟨b_23, 0, none⟩) 1 1 [((sumP ((((([] ++ encInts [u.channel, u.frame, u.version, u.item, u.index, kz]) ++ encStr u.data) ++ encInts [u.regions, u.gain]) ++ encStr u.caption) ++ encStr (encOpt u.os u.of u.al)) : Nat) : Int)] w_24 (HP.held 3 rfl) (Rd.of_box (HP.at_ 0 rfl) rfl) (fun q hq => by obtain ⟨_, o, e⟩ := hq; cases e; exact ⟨fun e => pairwise_at HP.apart (i := 0) (j := 3) rfl rfl (by omega) _ rfl (.inl e), fun e => pairwise_at HP.apart (i := 0) (j := 3) rfl rfl (by omega) _ rfl (.inr e)⟩) (by intro z hz; simp only [List.mem_cons, List.not_mem_nil, or_false] at hz; unfold wmax; rcases hz with rfl <;> omega) (by omega) (by have e1 := encInts_len [u.channel, u.frame, u.version, u.item, u.index, kz]; have e2 := encInts_len [u.regions, u.gain]; have := (encInt_len (u.data.length : Int)).2; have := (encInt_len (u.caption.length : Int)).2; have := (encInt_len (((encOpt u.os u.of u.al).length : Nat) : Int)).2; simp only [List.length_cons, List.length_nil] at e1 e2; first | (simp only [List.length_append, encStr, List.length_nil]; omega) | simp) HP.size) ?_
 rintro e w_26 ⟨rfl, v_25, hF, hag, hvn⟩
 refine ⟨_, rfl, ?_⟩
 intro a H
 have HP := HP.wrote 3 rfl [bx b_23 3 [(ii ((sumP ((((([] ++ encInts [u.channel, u.frame, u.version, u.item, u.index, kz]) ++ encStr u.data) ++ encInts [u.regions, u.gain]) ++ encStr u.caption) ++ encStr (encOpt u.os u.of u.al)) : Nat) : Int))] true, bx b_12 3 [(ii u.regions), (ii u.gain)] true, bx b_6 3 [(ii u.channel), (ii u.frame), (ii u.version), (ii u.item), (ii u.index), (ii kz)] true, (bldR w.heap.size b_3 v_25 (((((([] ++ encInts [u.channel, u.frame, u.version, u.item, u.index, kz]) ++ encStr u.data) ++ encInts [u.regions, u.gain]) ++ encStr u.caption) ++ encStr (encOpt u.os u.of u.al)) ++ encInts [((sumP ((((([] ++ encInts [u.channel, u.frame, u.version, u.item, u.index, kz]) ++ encStr u.data) ++ encInts [u.regions, u.gain]) ++ encStr u.caption) ++ encStr (encOpt u.os u.of u.al)) : Nat) : Int)])), bx b_1 76 (ul u u.A u.c) true] (by kernel_rfl) hF hag hvn
 refine wpList_nil (then_normal (wp_seq (w_region ?_)))
 refine H.call 56 (by kernel_rfl) (Eq.trans (by kernel_rfl : _ = (callFunc 53 #[(pt b_3 0)]).run Tryz.prog w_26) (Tryz.call53 _ _)) (str_any w.heap.size b_3 v_25 (((((([] ++ encInts [u.channel, u.frame, u.version, u.item, u.index, kz]) ++ encStr u.data) ++ encInts [u.regions, u.gain]) ++ encStr u.caption) ++ encStr (encOpt u.os u.of u.al)) ++ encInts [((sumP ((((([] ++ encInts [u.channel, u.frame, u.version, u.item, u.index, kz]) ++ encStr u.data) ++ encInts [u.regions, u.gain]) ++ encStr u.caption) ++ encStr (encOpt u.os u.of u.al)) : Nat) : Int)]) w_26 (HP.held 3 rfl) (by intro h; have e1 := congrArg List.length h; have e2 := (encInt_len (u.data.length : Int)).1; simp only [List.length_append, List.length_nil, encStr] at e1; omega)) ?_
 rintro e w_27 ⟨rfl, hF, hag⟩
 refine ⟨_, rfl, ?_⟩
 intro a H
 have HP := HP.wrote 3 rfl [bx b_23 3 [(ii ((sumP ((((([] ++ encInts [u.channel, u.frame, u.version, u.item, u.index, kz]) ++ encStr u.data) ++ encInts [u.regions, u.gain]) ++ encStr u.caption) ++ encStr (encOpt u.os u.of u.al)) : Nat) : Int))] true, bx b_12 3 [(ii u.regions), (ii u.gain)] true, bx b_6 3 [(ii u.channel), (ii u.frame), (ii u.version), (ii u.item), (ii u.index), (ii kz)] true, (bldR w.heap.size b_3 v_25 (((((([] ++ encInts [u.channel, u.frame, u.version, u.item, u.index, kz]) ++ encStr u.data) ++ encInts [u.regions, u.gain]) ++ encStr u.caption) ++ encStr (encOpt u.os u.of u.al)) ++ encInts [((sumP ((((([] ++ encInts [u.channel, u.frame, u.version, u.item, u.index, kz]) ++ encStr u.data) ++ encInts [u.regions, u.gain]) ++ encStr u.caption) ++ encStr (encOpt u.os u.of u.al)) : Nat) : Int)])), bx b_1 76 (ul u u.A u.c) true] (by kernel_rfl) hF hag (fun k hk => .inl hk)
 refine H.ge HP [(2, (.string (bstr (((((([] ++ encInts [u.channel, u.frame, u.version, u.item, u.index, kz]) ++ encStr u.data) ++ encInts [u.regions, u.gain]) ++ encStr u.caption) ++ encStr (encOpt u.os u.of u.al)) ++ encInts [((sumP ((((([] ++ encInts [u.channel, u.frame, u.version, u.item, u.index, kz]) ++ encStr u.data) ++ encInts [u.regions, u.gain]) ++ encStr u.caption) ++ encStr (encOpt u.os u.of u.al)) : Nat) : Int)]))))] [] fun a H => ?_
 refine then_normal (wp_ret ?_)
 refine H.ret1 (fn := Tryz.f88) Tryz.results88 (RV.tmp_ (v := (.string (bstr (((((([] ++ encInts [u.channel, u.frame, u.version, u.item, u.index, kz]) ++ encStr u.data) ++ encInts [u.regions, u.gain]) ++ encStr u.caption) ++ encStr (encOpt u.os u.of u.al)) ++ encInts [((sumP ((((([] ++ encInts [u.channel, u.frame, u.version, u.item, u.index, kz]) ++ encStr u.data) ++ encInts [u.regions, u.gain]) ++ encStr u.caption) ++ encStr (encOpt u.os u.of u.al)) : Nat) : Int)])))) (by kernel_rfl)) ?_
 exact ⟨by rw [bodyP_eq hkz], HP.bl⟩
def sameU (u v : Un) : Bool := (u.channel == v.channel) && ((u.frame == v.frame) && ((u.version == v.version) && ((u.item == v.item) && ((u.index == v.index) && ((u.key == v.key) && ((u.data == v.data) && ((u.regions == v.regions) && ((u.gain == v.gain) && ((u.caption == v.caption) && sameP u.os u.of u.al v.os v.of v.al)))))))))
def payN (l : List UInt8) (i : Nat) : Nat := (l.getD (64 * i + 4) 0).toNat
def payAt (l : List UInt8) (i : Nat) : List UInt8 := (l.drop (64 * i + 5)).take (payN l i)
def payOk (l : List UInt8) (j : Nat) : Bool := (List.range j).all fun i => decide (1 ≤ payN l i) && decide (payN l i ≤ 59)
def payTo (l : List UInt8) (j : Nat) : List UInt8 := (List.range j).flatMap (payAt l)
def streamP (l : List UInt8) : Option (List UInt8) := if l.length = 0 ∨ l.length % 64 ≠ 0 ∨ payOk l (l.length / 64) = false then none else some (payTo l (l.length / 64))
def strmV : Option (List UInt8) → Value
 | none => .tuple #[.string (bstr []), .bool false]
 | some x => .tuple #[.string (bstr x), .bool true]
theorem payTo_succ (l : List UInt8) (j : Nat) : payTo l (j + 1) = payTo l j ++ payAt l j := by simp [payTo, List.range_succ]
theorem payOk_succ {l : List UInt8} {j : Nat} (h : payOk l j = true) (hn : 1 ≤ payN l j ∧ payN l j ≤ 59) : payOk l (j + 1) = true := by
 unfold payOk at *
 rw [List.range_succ, List.all_append, h]
 simp [hn]
theorem payOk_bad {l : List UInt8} {j N : Nat} (hj : j < N) (hn : payN l j < 1 ∨ 59 < payN l j) : payOk l N = false := by
 unfold payOk
 rw [List.all_eq_false]
 refine ⟨j, List.mem_range.2 hj, ?_⟩
 simp
 omega
theorem payOk_at {l : List UInt8} {N j : Nat} (h : payOk l N = true) (hj : j < N) : 1 ≤ payN l j ∧ payN l j ≤ 59 := by
 unfold payOk at h
 rw [List.all_eq_true] at h
 have := h j (List.mem_range.2 hj)
 simpa using this
theorem payTo_len {l : List UInt8} : ∀ {j : Nat}, payOk l j = true → (payTo l j).length ≤ 59 * j
 | 0, _ => by simp [payTo]
 | j + 1, h => by
  have h0 : payOk l j = true := by
   unfold payOk at *
   rw [List.range_succ, List.all_append] at h
   simp only [Bool.and_eq_true] at h
   exact h.1
  have h1 := payOk_at h (Nat.lt_succ_self j)
  have := payTo_len h0
  rw [payTo_succ, List.length_append]
  unfold payAt
  rw [List.length_take]
  omega
theorem cut_getD {l : List UInt8} {a k m : Nat} (hk : k < m) (hl : a + k < l.length) {d : UInt8} : (((l.drop a).take (a + m - a)).getD k d) = l.getD (a + k) d := by
 rw [show a + m - a = m by omega]
 simp only [List.getD, List.getElem?_take, hk, if_true, List.getElem?_drop]
theorem cut_pay {l : List UInt8} {a n : Nat} (hn : n ≤ 59) (hl : a + 64 ≤ l.length) : (l.drop (a + 5)).take n = ((((l.drop a).take (a + 64 - a)).drop 5).take (5 + n - 5)) := by
 rw [show a + 64 - a = 64 by omega, show 5 + n - 5 = n by omega, List.drop_take, List.drop_drop, List.take_take, show min n (64 - 5) = n by omega]
theorem payTo_ge {l : List UInt8} : ∀ {j : Nat}, payOk l j = true → 64 * j ≤ l.length → j ≤ (payTo l j).length
 | 0, _, _ => by simp
 | j + 1, h, hl => by
  have h0 : payOk l j = true := by
   unfold payOk at *
   rw [List.range_succ, List.all_append] at h
   simp only [Bool.and_eq_true] at h
   exact h.1
  have h1 := payOk_at h (Nat.lt_succ_self j)
  have := payTo_ge h0 (by omega)
  rw [payTo_succ, List.length_append]
  unfold payAt
  rw [List.length_take, List.length_drop]
  omega
def rdCells (s : List UInt8) (q : Nat × Bool) : List Value := [.string (bstr s), .int .i64 ((q.1 : Nat) : Int), .bool q.2]
def rnum (s : List UInt8) (q : Nat × Bool) : Int × (Nat × Bool) := if q.2 = true then (0, q) else match rdInt s q.1 with
 | none => (0, q.1, true)
 | some (n, e) => (n, e, false)
def rtxt (s : List UInt8) (q : Nat × Bool) : List UInt8 × (Nat × Bool) := if q.2 = true then ([], q) else match rdStr s q.1 with
 | none => ([], q.1, true)
 | some (t, e) => (t, e, false)
set_option maxRecDepth 100000 in
set_option maxHeartbeats 4000000 in
theorem rusame_any (u v : Un) (w : World) (hu : IsAlts w u.A u.al.length u.al) (hv : IsAlts w v.A v.al.length v.al) (hm : u.al.length ≤ maxLen) :
  Calls Tryz.prog 24 #[u.val, v.val] w fun e w' => e = .returned (.bool (sameU u v)) ∧ Below w.heap.size w w' := by
 have HP := Hp.start w
 refine w_enter 80 [(0, (.agg (ua u u.A u.c))), (1, (.agg (ua v v.A v.c)))] Tryz.func24 rfl Tryz.ntmps24 (by kernel_rfl) (by kernel_rfl) fun a H => ?_
 refine wp_seq (w_region ?_)
 refine H.alloc HP 2 (fun b => (pt b 0)) 76 (ul u u.A u.c) (by kernel_rfl) (fun w => by kernel_rfl) fun b_1 w_2 a H HP => H.alloc HP 3 (fun b => (pt b 0)) 76 (ul v v.A v.c) (by kernel_rfl) (fun w => by kernel_rfl) fun b_3 w_4 a H HP => ?_
 refine H.ge HP [(4, (.bool false))] [] fun a H => ?_
 refine then_normal (wp_seq (w_region ?_))
 refine H.go HP 6 [(5, (pt b_1 0)), (6, (ii u.channel)), (10, (.bool (u.channel == v.channel)))] [1, 0] fun a H => ?_
 refine H.split 10 rfl (fun g10 H => ?_) (fun g10 H => ?_)
 ·have g10p := eq_of_beq g10
  refine H.go HP 7 [(17, (.bool (u.frame == v.frame)))] [1, 0] fun a H => ?_
  refine H.split 17 rfl (fun g17 H => ?_) (fun g17 H => ?_)
  ·have g17p := eq_of_beq g17
   refine H.go HP 7 [(24, (.bool (u.version == v.version)))] [1, 0] fun a H => ?_
   refine H.split 24 rfl (fun g24 H => ?_) (fun g24 H => ?_)
   ·have g24p := eq_of_beq g24
    refine H.go HP 7 [(31, (.bool (u.item == v.item)))] [1, 0] fun a H => ?_
    refine H.split 31 rfl (fun g31 H => ?_) (fun g31 H => ?_)
    ·have g31p := eq_of_beq g31
     refine H.go HP 7 [(38, (.bool (u.index == v.index)))] [1, 0] fun a H => ?_
     refine H.split 38 rfl (fun g38 H => ?_) (fun g38 H => ?_)
     ·have g38p := eq_of_beq g38
      refine H.go HP 7 [(45, (.bool (u.key == v.key)))] [1, 0] fun a H => ?_
      refine H.split 45 rfl (fun g45 H => ?_) (fun g45 H => ?_)
      ·have g45p := eq_of_beq g45
       refine H.go HP 4 [(47, (.string (bstr u.data))), (49, (.string (bstr v.data)))] [1, 0] fun a H => H.valE 50 (.bool ((bstr u.data).toList == (bstr v.data).toList)) (.bool (u.data == v.data)) (by kernel_rfl) (by kernel_rfl) ((congrArg Value.bool (bstr_eq _ _))) fun a H => H.go HP 2 [(52, (.bool (u.data == v.data)))] [] fun a H => ?_
       refine H.split 52 rfl (fun g52 H => ?_) (fun g52 H => ?_)
       ·have g52p := eq_of_beq g52
        refine H.go HP 7 [(59, (.bool (u.regions == v.regions)))] [1, 0] fun a H => ?_
        refine H.split 59 rfl (fun g59 H => ?_) (fun g59 H => ?_)
        ·have g59p := eq_of_beq g59
         refine H.go HP 7 [(66, (.bool (u.gain == v.gain)))] [1, 0] fun a H => ?_
         refine H.split 66 rfl (fun g66 H => ?_) (fun g66 H => ?_)
         ·have g66p := eq_of_beq g66
          refine H.go HP 4 [(68, (.string (bstr u.caption))), (70, (.string (bstr v.caption)))] [1, 0] fun a H => H.valE 71 (.bool ((bstr u.caption).toList == (bstr v.caption).toList)) (.bool (u.caption == v.caption)) (by kernel_rfl) (by kernel_rfl) ((congrArg Value.bool (bstr_eq _ _))) fun a H => H.go HP 2 [(73, (.bool (u.caption == v.caption)))] [] fun a H => ?_
          refine H.split 73 rfl (fun g73 H => ?_) (fun g73 H => ?_)
          ·have g73p := eq_of_beq g73
           refine H.go HP 4 [(75, (.agg #[(ii u.os), (ii u.of), (.slice u.A u.al.length u.c)])), (77, (.agg #[(ii v.os), (ii v.of), (.slice v.A v.al.length v.c)]))] [1, 0] fun a H => ?_
           refine H.call 78 (by kernel_rfl) (Eq.trans (by kernel_rfl : _ = (callFunc 48 #[(.agg #[(ii u.os), (ii u.of), (.slice u.A u.al.length u.c)]), (.agg #[(ii v.os), (ii v.of), (.slice v.A v.al.length v.c)])]).run Tryz.prog w_4) (Tryz.call48 _ _)) (rsame_any u.os u.of u.A u.al.length u.c u.al v.os v.of v.A v.al.length v.c v.al w_4 (hu.below HP.bl) (hv.below HP.bl) hm) ?_
           rintro e w_5 ⟨rfl, hb⟩
           refine ⟨_, rfl, ?_⟩
           intro a H
           have HP := HP.next hb
           refine H.ge HP [(4, (.bool (sameP u.os u.of u.al v.os v.of v.al)))] [] fun a H => ?_
           refine then_normal (wp_ret ?_)
           refine H.ret1 (fn := Tryz.f24) Tryz.results24 (RV.tmp_ (v := (.bool (sameP u.os u.of u.al v.os v.of v.al))) (by kernel_rfl)) ?_
           exact ⟨by unfold sameU; simp only [g10, g17, g24, g31, g38, g45, g52, g59, g66, g73, Bool.true_and, Bool.false_and, Bool.and_true], HP.bl⟩
          have g73p := ne_of_beq_false g73
          refine H.ge HP [(4, (.bool false))] [] fun a H => ?_
          refine then_normal (wp_ret ?_)
          refine H.ret1 (fn := Tryz.f24) Tryz.results24 (RV.tmp_ (v := (.bool false)) (by kernel_rfl)) ?_
          exact ⟨by unfold sameU; simp only [g10, g17, g24, g31, g38, g45, g52, g59, g66, g73, Bool.true_and, Bool.false_and, Bool.and_true], HP.bl⟩
         have g66p := ne_of_beq_false g66
         refine H.ge HP [(4, (.bool false))] [] fun a H => ?_
         refine then_normal (wp_ret ?_)
         refine H.ret1 (fn := Tryz.f24) Tryz.results24 (RV.tmp_ (v := (.bool false)) (by kernel_rfl)) ?_
         exact ⟨by unfold sameU; simp only [g10, g17, g24, g31, g38, g45, g52, g59, g66, Bool.true_and, Bool.false_and, Bool.and_true], HP.bl⟩
        have g59p := ne_of_beq_false g59
        refine H.ge HP [(4, (.bool false))] [] fun a H => ?_
        refine then_normal (wp_ret ?_)
        refine H.ret1 (fn := Tryz.f24) Tryz.results24 (RV.tmp_ (v := (.bool false)) (by kernel_rfl)) ?_
        exact ⟨by unfold sameU; simp only [g10, g17, g24, g31, g38, g45, g52, g59, Bool.true_and, Bool.false_and, Bool.and_true], HP.bl⟩
       have g52p := ne_of_beq_false g52
       refine H.ge HP [(4, (.bool false))] [] fun a H => ?_
       refine then_normal (wp_ret ?_)
       refine H.ret1 (fn := Tryz.f24) Tryz.results24 (RV.tmp_ (v := (.bool false)) (by kernel_rfl)) ?_
       exact ⟨by unfold sameU; simp only [g10, g17, g24, g31, g38, g45, g52, Bool.true_and, Bool.false_and, Bool.and_true], HP.bl⟩
      have g45p := ne_of_beq_false g45
      refine H.ge HP [(4, (.bool false))] [] fun a H => ?_
      refine then_normal (wp_ret ?_)
      refine H.ret1 (fn := Tryz.f24) Tryz.results24 (RV.tmp_ (v := (.bool false)) (by kernel_rfl)) ?_
      exact ⟨by unfold sameU; simp only [g10, g17, g24, g31, g38, g45, Bool.true_and, Bool.false_and, Bool.and_true], HP.bl⟩
     have g38p := ne_of_beq_false g38
     refine H.ge HP [(4, (.bool false))] [] fun a H => ?_
     refine then_normal (wp_ret ?_)
     refine H.ret1 (fn := Tryz.f24) Tryz.results24 (RV.tmp_ (v := (.bool false)) (by kernel_rfl)) ?_
     exact ⟨by unfold sameU; simp only [g10, g17, g24, g31, g38, Bool.true_and, Bool.false_and, Bool.and_true], HP.bl⟩
    have g31p := ne_of_beq_false g31
    refine H.ge HP [(4, (.bool false))] [] fun a H => ?_
    refine then_normal (wp_ret ?_)
    refine H.ret1 (fn := Tryz.f24) Tryz.results24 (RV.tmp_ (v := (.bool false)) (by kernel_rfl)) ?_
    exact ⟨by unfold sameU; simp only [g10, g17, g24, g31, Bool.true_and, Bool.false_and, Bool.and_true], HP.bl⟩
   have g24p := ne_of_beq_false g24
   refine H.ge HP [(4, (.bool false))] [] fun a H => ?_
   refine then_normal (wp_ret ?_)
   refine H.ret1 (fn := Tryz.f24) Tryz.results24 (RV.tmp_ (v := (.bool false)) (by kernel_rfl)) ?_
   exact ⟨by unfold sameU; simp only [g10, g17, g24, Bool.true_and, Bool.false_and, Bool.and_true], HP.bl⟩
  have g17p := ne_of_beq_false g17
  refine H.ge HP [(4, (.bool false))] [] fun a H => ?_
  refine then_normal (wp_ret ?_)
  refine H.ret1 (fn := Tryz.f24) Tryz.results24 (RV.tmp_ (v := (.bool false)) (by kernel_rfl)) ?_
  exact ⟨by unfold sameU; simp only [g10, g17, Bool.true_and, Bool.false_and, Bool.and_true], HP.bl⟩
 have g10p := ne_of_beq_false g10
 refine H.ge HP [(4, (.bool false))] [] fun a H => ?_
 refine then_normal (wp_ret ?_)
 refine H.ret1 (fn := Tryz.f24) Tryz.results24 (RV.tmp_ (v := (.bool false)) (by kernel_rfl)) ?_
 exact ⟨by unfold sameU; simp only [g10, Bool.true_and, Bool.false_and, Bool.and_true], HP.bl⟩
set_option maxRecDepth 100000 in
set_option maxHeartbeats 4000000 in
theorem stream_any (l : List UInt8) (w : World) (hl : l.length ≤ 1000000) :
  Calls Tryz.prog 167 #[.string (bstr l)] w fun e w' => e = .returned (strmV (streamP l)) ∧ Below w.heap.size w w' := by
 have HP := Hp.start w
 refine w_enter 46 [(0, (.string (bstr l)))] Tryz.func167 rfl Tryz.ntmps167 (by kernel_rfl) (by kernel_rfl) fun a H => ?_
 refine wp_seq (w_region ?_)
 refine H.ge HP [(2, (.string (bstr ([])))), (3, (.bool false))] [] fun a H => ?_
 refine then_normal (wp_seq (wp_seq (w_region ?_)))
 refine H.go HP 4 [(11, (.bool ((l.length : Int) == 0)))] [] fun a H => ?_
 refine H.split 11 rfl (fun g11 H => ?_) (fun g11 H => ?_)
 ·have g11p := eq_of_beq g11
  refine H.ge HP [(16, (.bool true))] [] fun a H => ?_
  refine then_normal ?_
  refine w_ift H rfl ?_
  refine wp_seq (w_region ?_)
  refine H.ge HP [(2, (.string (bstr ([])))), (3, (.bool false))] [] fun a H => ?_
  refine then_normal (wp_ret (then_ret ?_))
  refine H.ret2 (fn := Tryz.f167) Tryz.results167 (RV.tmp_ (v := (.string (bstr ([])))) (by kernel_rfl)) (RV.tmp_ (v := (.bool false)) (by kernel_rfl)) ?_
  exact ⟨by unfold streamP; rw [if_pos (by omega)]; rfl, HP.bl⟩
 have g11p := ne_of_beq_false g11
 refine H.go HP 2 [(13, (ii l.length))] [] fun a H => H.valE 14 (ii ((l.length : Int).tmod 64)) (ii ((l.length : Int) % 64)) (by kernel_rfl) (by kernel_rfl) ((by rw [tmod_nn _ _ (by omega)])) fun a H => ?_
 refine H.ge HP [(16, (.bool (((l.length : Int) % 64) != 0)))] [] fun a H => ?_
 refine then_normal ?_
 refine w_if H rfl (fun g16 => ?_) (fun g16 => ?_)
 ·have g16p := bne_iff_ne.1 g16
  refine wp_seq (w_region ?_)
  refine H.ge HP [(2, (.string (bstr ([])))), (3, (.bool false))] [] fun a H => ?_
  refine then_normal (wp_ret (then_ret ?_))
  refine H.ret2 (fn := Tryz.f167) Tryz.results167 (RV.tmp_ (v := (.string (bstr ([])))) (by kernel_rfl)) (RV.tmp_ (v := (.bool false)) (by kernel_rfl)) ?_
  exact ⟨by unfold streamP; rw [if_pos (by omega)]; rfl, HP.bl⟩
 have g16p := eq_of_bne_false g16
 refine wp_skip (then_normal (wp_seq (w_region ?_)))
 refine H.alloc HP 4 (fun b => (pt b 0)) 138 [(.pointer none), (.slice none 0 0)] (by kernel_rfl) (fun w => by kernel_rfl) fun b_1 w_2 a H HP => ?_
 refine wpList_nil ?_
 have HP := HP.toBld 0 5 rfl [(bldR w.heap.size b_1 (.slice none 0 0) [])] (by kernel_rfl)
 obtain ⟨N, hN⟩ : ∃ N, l.length / 64 = N := ⟨_, rfl⟩
 have hlN : l.length = 64 * N := by omega
 refine then_normal (wp_seq (wp_seq (w_region ?_)))
 refine H.go HP 2 [(18, (ii l.length))] [] fun a H => H.valE 19 (ii (IntKind.i64.wrap ((l.length : Int).tdiv 64))) (ii N) (by kernel_rfl) (by kernel_rfl) ((by rw [tdiv_nn _ _ (by omega), wrap_ini64 _ (by omega)]; exact congrArg (Value.int .i64) (by omega))) fun a H => ?_
 refine H.ge HP [(20, (ii 0))] [] fun a H => ?_
 refine then_normal (wp_block ?_)
 refine w_loop (fun mm a wv => ∃ (j : Nat), ∃ (v1 : Value), N - j = mm ∧ Sl 46 [(20, (ii j)), (19, (ii N)), (4, (pt b_1 0)), (0, (.string (bstr l))), (2, (.string (bstr ([])))), (3, (.bool false))] a ∧ Hp w wv [(bldR w.heap.size b_1 v1 (payTo l j))] [] ∧ (j ≤ N) ∧ (payOk l j = true)) (N - 0) ?_ ?_
 ·exact ⟨0, (.slice none 0 0), (by omega), H.keep (by kernel_rfl), HP, by omega, rfl⟩
 rintro mm a w_3 ⟨j, v1, hmeas, H, HP, hj, hok⟩
 refine wp_seq (w_region ?_)
 refine H.ge HP [(21, (.bool (decide ((j : Int) < (N : Int)))))] [] fun a H => ?_
 refine then_normal (wp_seq ?_)
 refine w_if H rfl (fun g21 => ?_) (fun g21 => ?_)
 ·have g21p := of_decide_eq_true g21
  refine wp_skip (then_normal (wp_seq (wp_block (wp_seq (w_region ?_)))))
  refine H.ge HP [(5, (ii j))] [] fun a H => ?_
  refine then_normal (wp_seq (w_region ?_))
  refine H.go HP 2 [(23, (.string (bstr l))), (24, (ii j))] [] fun a H => H.valE 25 (ii (IntKind.i64.wrap ((j : Int) * 64))) (ii ((64 * j : Nat) : Int)) (by kernel_rfl) (by kernel_rfl) ((by rw [wrap_ini64 _ (by omega)]; exact congrArg (Value.int .i64) (by omega))) fun a H => H.go HP 1 [(26, (ii j))] [] fun a H => H.wi 27 ((j : Int) + 1) fun a H => H.valE 28 (ii (IntKind.i64.wrap (((j : Int) + 1) * 64))) (ii ((64 * j + 64 : Nat) : Int)) (by kernel_rfl) (by kernel_rfl) ((by rw [wrap_ini64 _ (by omega)]; exact congrArg (Value.int .i64) (by omega))) fun a H => H.u 29 (.string (bstr ((l.drop (64 * j)).take ((64 * j + 64) - (64 * j))))) (ex_sslice (k := .i64) (kk := .i64) (l := l) (i := ((64 * j : Nat) : Int)) (j := ((64 * j + 64 : Nat) : Int)) (a := (64 * j)) (b := (64 * j + 64)) (by kernel_rfl) (by kernel_rfl) (by kernel_rfl) (by kernel_rfl) (by omega) (by omega) (by omega) (by omega)) fun a H => ?_
  refine H.ge HP [(6, (.string (bstr ((l.drop (64 * j)).take ((64 * j + 64) - (64 * j))))))] [] fun a H => ?_
  obtain ⟨p, hp⟩ : ∃ p, (l.drop (64 * j)).take (64 * j + 64 - (64 * j)) = p := ⟨_, rfl⟩
  have hpl : p.length = 64 := by rw [← hp, List.length_take, List.length_drop]; omega
  have hp4 : p.getD 4 0 = l.getD (64 * j + 4) 0 := by rw [← hp]; exact cut_getD (by omega) (by omega)
  rw [hp] at H
  have H := H.keep (L' := [(6, (.string (bstr p))), (5, (ii j)), (20, (ii j)), (19, (ii N)), (4, (pt b_1 0)), (0, (.string (bstr l))), (2, (.string (bstr ([])))), (3, (.bool false))]) (by kernel_rfl)
  refine then_normal (wp_seq ?_)
  have hp4b := byte_lt (p.getD 4 0)
  refine w_region ?_
  refine H.go HP 1 [(30, (.string (bstr p)))] [] fun a H => H.u 31 (.int .u8 (((p.getD 4 0).toNat : Nat) : Int)) (ex_sindex (k := .i64) (l := p) (i := 4) (m := 4) (by kernel_rfl) (by kernel_rfl) (by kernel_rfl) (by omega) (by omega)) fun a H => H.valE 32 (ii (IntKind.i64.wrap (((p.getD 4 0).toNat : Nat) : Int))) (ii (((p.getD 4 0).toNat : Nat) : Int)) (by kernel_rfl) (by kernel_rfl) ((by rw [wrap_ini64 _ (by omega)])) fun a H => ?_
  refine H.ge HP [(7, (ii (((p.getD 4 0).toNat : Nat) : Int)))] [] fun a H => ?_
  obtain ⟨n, hn⟩ : ∃ n, (p.getD 4 0).toNat = n := ⟨_, rfl⟩
  have hnb : n < 256 := by rw [← hn]; exact byte_lt _
  have hpn : payN l j = n := by unfold payN; rw [← hp4]; exact hn
  rw [hn] at H
  have H := H.keep (L' := [(7, (ii n)), (6, (.string (bstr p))), (5, (ii j)), (20, (ii j)), (19, (ii N)), (4, (pt b_1 0)), (0, (.string (bstr l))), (2, (.string (bstr ([])))), (3, (.bool false))]) (by kernel_rfl)
  refine then_normal (wp_seq (wp_seq (w_region ?_)))
  refine H.go HP 3 [(35, (.bool (decide ((n : Int) < 1))))] [] fun a H => ?_
  refine H.split 35 rfl (fun g35 H => ?_) (fun g35 H => ?_)
  ·have g35p := of_decide_eq_true g35
   refine H.ge HP [(38, (.bool true))] [] fun a H => ?_
   refine then_normal ?_
   refine w_ift H rfl ?_
   refine wp_seq (w_region ?_)
   refine H.ge HP [(2, (.string (bstr ([])))), (3, (.bool false))] [] fun a H => ?_
   refine then_normal (wp_ret (then_ret (inb_ret (then_ret (then_ret (inb_ret (then_ret ?_)))))))
   refine H.ret2 (fn := Tryz.f167) Tryz.results167 (RV.tmp_ (v := (.string (bstr ([])))) (by kernel_rfl)) (RV.tmp_ (v := (.bool false)) (by kernel_rfl)) ?_
   exact ⟨by unfold streamP; rw [hN, if_pos (.inr (.inr (payOk_bad (j := j) (by omega) (by omega))))]; rfl, HP.bl⟩
  have g35p := of_decide_eq_false g35
  refine H.ge HP [(38, (.bool (decide ((n : Int) > 59))))] [] fun a H => ?_
  refine then_normal ?_
  refine w_if H rfl (fun g38 => ?_) (fun g38 => ?_)
  ·have g38p := of_decide_eq_true g38
   refine wp_seq (w_region ?_)
   refine H.ge HP [(2, (.string (bstr ([])))), (3, (.bool false))] [] fun a H => ?_
   refine then_normal (wp_ret (then_ret (inb_ret (then_ret (then_ret (inb_ret (then_ret ?_)))))))
   refine H.ret2 (fn := Tryz.f167) Tryz.results167 (RV.tmp_ (v := (.string (bstr ([])))) (by kernel_rfl)) (RV.tmp_ (v := (.bool false)) (by kernel_rfl)) ?_
   exact ⟨by unfold streamP; rw [hN, if_pos (.inr (.inr (payOk_bad (j := j) (by omega) (by omega))))]; rfl, HP.bl⟩
  have g38p := of_decide_eq_false g38
  refine wp_skip (then_normal (w_region ?_))
  refine H.go HP 2 [(39, (.string (bstr p))), (40, (ii n))] [] fun a H => H.valE 41 (ii (IntKind.i64.wrap (5 + (n : Int)))) (ii ((5 + n : Nat) : Int)) (by kernel_rfl) (by kernel_rfl) ((by rw [wrap_ini64 _ (by omega)]; exact congrArg (Value.int .i64) (by omega))) fun a H => H.u 42 (.string (bstr ((p.drop 5).take ((5 + n) - 5)))) (ex_sslice (k := .i64) (kk := .i64) (l := p) (i := 5) (j := ((5 + n : Nat) : Int)) (a := 5) (b := (5 + n)) (by kernel_rfl) (by kernel_rfl) (by kernel_rfl) (by kernel_rfl) (by omega) (by omega) (by omega) (by omega)) fun a H => ?_
  have hpay : payAt l j = (p.drop 5).take ((5 + n) - 5) := by unfold payAt; rw [hpn, ← hp]; exact cut_pay (by omega) (by omega)
  refine H.call 43 (by kernel_rfl) (Eq.trans (by kernel_rfl : _ = (callFunc 139 #[(pt b_1 0), (.string (bstr ((p.drop 5).take ((5 + n) - 5))))]).run Tryz.prog w_3) (Tryz.call139 _ _)) (writeStr_any w.heap.size b_1 v1 (payTo l j) ((p.drop 5).take ((5 + n) - 5)) w_3 (HP.held 0 rfl) (by have h1 := payTo_len hok; rw [List.length_take, List.length_drop]; omega) HP.size) ?_
  rintro e w_5 ⟨rfl, v_4, hF, hag, hvn⟩
  refine ⟨_, rfl, ?_⟩
  intro a H
  have HP := HP.wrote 0 rfl [(bldR w.heap.size b_1 v_4 ((payTo l j) ++ ((p.drop 5).take ((5 + n) - 5))))] (by kernel_rfl) hF hag hvn
  refine wpList_nil (inb_normal (then_normal (w_region ?_)))
  refine H.wi 44 ((j : Int) + 1) fun a H => ?_
  refine H.ge HP [(20, (ii ((j : Int) + 1)))] [] fun a H => ?_
  refine then_normal ?_
  have H := H.as 20 (ii ((j + 1 : Nat) : Int)) rfl rfl
  refine ⟨_, ?_, j + 1, v_4, rfl, H.keep (by kernel_rfl), (by rw [payTo_succ, hpay]; exact HP), by omega, payOk_succ hok (by omega)⟩
  omega
 have g21p := of_decide_eq_false g21
 refine wp_exit (then_exit (then_exit ?_))
 refine w_exit_here ?_
 refine then_normal (wp_seq (w_region ?_))
 refine H.call 45 (by kernel_rfl) (Eq.trans (by kernel_rfl : _ = (callFunc 53 #[(pt b_1 0)]).run Tryz.prog w_3) (Tryz.call53 _ _)) (str_any w.heap.size b_1 v1 (payTo l j) w_3 (HP.held 0 rfl) (by intro h; have h1 := payTo_ge hok (by omega); rw [h] at h1; simp at h1; omega)) ?_
 rintro e w_6 ⟨rfl, hF, hag⟩
 refine ⟨_, rfl, ?_⟩
 intro a H
 have HP := HP.wrote 0 rfl [(bldR w.heap.size b_1 v1 (payTo l j))] (by kernel_rfl) hF hag (fun k hk => .inl hk)
 refine H.ge HP [(2, (.string (bstr (payTo l j)))), (3, (.bool true))] [] fun a H => ?_
 refine then_normal (wp_ret ?_)
 refine H.ret2 (fn := Tryz.f167) Tryz.results167 (RV.tmp_ (v := (.string (bstr (payTo l j)))) (by kernel_rfl)) (RV.tmp_ (v := (.bool true)) (by kernel_rfl)) ?_
 exact ⟨by unfold streamP; have hjN : j = N := (by omega); subst hjN; rw [hN, if_neg (by rintro (h | h | h); omega; omega; rw [hok] at h; cases h)]; rfl, HP.bl⟩
set_option maxRecDepth 100000 in
set_option maxHeartbeats 4000000 in
theorem num_bad (b : Nat) (s : List UInt8) (k : Nat) (w : World) (h : Box w b 277 [Value.string (bstr s), .int .i64 (k : Int), .bool true].toArray) (hl : s.length ≤ 9000000000000000000) (hk : k ≤ s.length)  :
  Calls Tryz.prog 168 #[.pointer (some ⟨b, 0, none⟩)] w fun e w' => e = .returned (ii (rnum s (k, true)).1) ∧ Box w' b 277 (rdCells s (rnum s (k, true)).2).toArray ∧ w.grownBy w' (some b) := by
 have HP := Hp.own (vs := [.string (bstr s), .int .i64 (k : Int), .bool true]) h
 refine w_enter 33 [(0, (pt b 0))] Tryz.func168 rfl Tryz.ntmps168 (by kernel_rfl) (by kernel_rfl) fun a H => ?_
 refine wp_seq (w_region ?_)
 refine H.ge HP [(2, (ii 0))] [] fun a H => ?_
 refine then_normal (wp_seq (wp_seq (w_region ?_)))
 refine H.ge HP [(9, (.bool true))] [0] fun a H => ?_
 refine then_normal ?_
 refine w_ift H rfl ?_
 refine wp_seq (w_region ?_)
 refine H.ge HP [(2, (ii 0))] [] fun a H => ?_
 refine then_normal (wp_ret (then_ret ?_))
 refine H.ret1 (fn := Tryz.f168) Tryz.results168 (RV.tmp_ (v := (ii 0)) (by kernel_rfl)) ?_
 have HP : Hp w w [bx b 277 [(.string (bstr s)), (ii k), (.bool true)] false] [] := HP
 exact ⟨by unfold rnum; rw [if_pos rfl] <;> rfl, by unfold rnum; rw [if_pos rfl]; exact HP.at_ 0 rfl, HP.only b (by intro x hx; simp only [List.mem_cons, List.not_mem_nil, or_false] at hx; rcases hx with rfl <;> simp [bx])⟩
set_option maxRecDepth 100000 in
set_option maxHeartbeats 4000000 in
theorem num_none (b : Nat) (s : List UInt8) (k : Nat) (w : World) (h : Box w b 277 [Value.string (bstr s), .int .i64 (k : Int), .bool false].toArray) (hl : s.length ≤ 9000000000000000000) (hk : k ≤ s.length) (hR : rdInt s k = none) :
  Calls Tryz.prog 168 #[.pointer (some ⟨b, 0, none⟩)] w fun e w' => e = .returned (ii (rnum s (k, false)).1) ∧ Box w' b 277 (rdCells s (rnum s (k, false)).2).toArray ∧ w.grownBy w' (some b) := by
 have HP := Hp.own (vs := [.string (bstr s), .int .i64 (k : Int), .bool false]) h
 refine w_enter 33 [(0, (pt b 0))] Tryz.func168 rfl Tryz.ntmps168 (by kernel_rfl) (by kernel_rfl) fun a H => ?_
 refine wp_seq (w_region ?_)
 refine H.ge HP [(2, (ii 0))] [] fun a H => ?_
 refine then_normal (wp_seq (wp_seq (w_region ?_)))
 refine H.ge HP [(9, (.bool false))] [0] fun a H => ?_
 refine then_normal ?_
 refine w_iff H rfl ?_
 refine wp_skip (then_normal (wp_seq ?_))
 refine An.start (fun v => Hp w v [bx b 277 [(.string (bstr s)), (ii k), (.bool false)] false] []) 16 16 HP wide_follows rfl fun w_1 HP => ?_
 refine An.go H (.inr (HP)) 8 [0, 1, 2, 3, 4, 5, 6, 7] [(14, (.string (bstr s))), (18, (ii k))] [0, 0] fun a H => ?_
 refine An.one 8 (by kernel_rfl) ?_
 refine Op.call H 19 rfl (by kernel_rfl) (Eq.trans (by kernel_rfl : _ = (callFunc 190 #[(.string (bstr s)), (ii k)]).run Tryz.prog w_1) (Tryz.call190 _ _)) ((by have hh := wint_any (bstr s) k w_1 hl hk; rw [show (bstr s).data.toList = s from rfl, hR] at hh; exact hh)) ?_
 rintro e w_2 ⟨rfl, hw⟩
 refine ⟨_, rfl, ?_⟩
 intro a H
 have HP := hw ▸ HP
 refine ⟨.inr (HP), ?_⟩
 refine An.go H (.inr (HP)) 0 [9, 10, 11, 12, 13, 14, 15] [(3, (ii 0)), (4, (ii 0)), (5, (ii 10))] [] fun a H => ?_
 refine An.done (by kernel_rfl) ?_
 refine then_normal (wp_seq (wp_seq (w_region ?_)))
 refine H.ge HP [(24, (.bool true))] [] fun a H => ?_
 refine then_normal ?_
 refine w_ift H rfl ?_
 refine wp_seq (w_region ?_)
 refine H.go HP 3 [(27, (pt b 2))] [] fun a H => H.sh HP 0 2 (.bool true) rfl fun w_3 a H HP => ?_
 refine wpList_nil (then_normal (wp_seq (w_region ?_)))
 refine H.ge HP [(2, (ii 0))] [] fun a H => ?_
 refine then_normal (wp_ret (then_ret ?_))
 refine H.ret1 (fn := Tryz.f168) Tryz.results168 (RV.tmp_ (v := (ii 0)) (by kernel_rfl)) ?_
 have HP : Hp w w_3 [bx b 277 [(.string (bstr s)), (ii k), (.bool true)] false] [] := HP
 exact ⟨by unfold rnum; simp only [Bool.false_eq_true, if_false]; rw [hR] <;> rfl, by unfold rnum; simp only [Bool.false_eq_true, if_false]; rw [hR]; exact HP.at_ 0 rfl, HP.only b (by intro x hx; simp only [List.mem_cons, List.not_mem_nil, or_false] at hx; rcases hx with rfl <;> simp [bx])⟩
set_option maxRecDepth 100000 in
set_option maxHeartbeats 4000000 in
theorem num_some (b : Nat) (s : List UInt8) (k : Nat) (w : World) (h : Box w b 277 [Value.string (bstr s), .int .i64 (k : Int), .bool false].toArray) (hl : s.length ≤ 9000000000000000000) (hk : k ≤ s.length) (n : Int) (e : Nat) (hR : rdInt s k = some (n, e)) :
  Calls Tryz.prog 168 #[.pointer (some ⟨b, 0, none⟩)] w fun e w' => e = .returned (ii (rnum s (k, false)).1) ∧ Box w' b 277 (rdCells s (rnum s (k, false)).2).toArray ∧ w.grownBy w' (some b) := by
 have HP := Hp.own (vs := [.string (bstr s), .int .i64 (k : Int), .bool false]) h
 refine w_enter 33 [(0, (pt b 0))] Tryz.func168 rfl Tryz.ntmps168 (by kernel_rfl) (by kernel_rfl) fun a H => ?_
 refine wp_seq (w_region ?_)
 refine H.ge HP [(2, (ii 0))] [] fun a H => ?_
 refine then_normal (wp_seq (wp_seq (w_region ?_)))
 refine H.ge HP [(9, (.bool false))] [0] fun a H => ?_
 refine then_normal ?_
 refine w_iff H rfl ?_
 refine wp_skip (then_normal (wp_seq ?_))
 refine An.start (fun v => Hp w v [bx b 277 [(.string (bstr s)), (ii k), (.bool false)] false] []) 16 16 HP wide_follows rfl fun w_1 HP => ?_
 refine An.go H (.inr (HP)) 8 [0, 1, 2, 3, 4, 5, 6, 7] [(14, (.string (bstr s))), (18, (ii k))] [0, 0] fun a H => ?_
 refine An.one 8 (by kernel_rfl) ?_
 refine Op.call H 19 rfl (by kernel_rfl) (Eq.trans (by kernel_rfl : _ = (callFunc 190 #[(.string (bstr s)), (ii k)]).run Tryz.prog w_1) (Tryz.call190 _ _)) ((by have hh := wint_any (bstr s) k w_1 hl hk; rw [show (bstr s).data.toList = s from rfl, hR] at hh; exact hh)) ?_
 rintro e w_2 ⟨rfl, hw⟩
 refine ⟨_, rfl, ?_⟩
 intro a H
 have HP := hw ▸ HP
 refine ⟨.inr (HP), ?_⟩
 refine An.go H (.inr (HP)) 0 [9, 10, 11, 12, 13, 14, 15] [(3, (ii n)), (4, (ii e)), (5, (ii 0))] [] fun a H => ?_
 refine An.done (by kernel_rfl) ?_
 refine then_normal (wp_seq (wp_seq (w_region ?_)))
 refine H.ge HP [(24, (.bool false))] [] fun a H => ?_
 refine then_normal ?_
 refine w_iff H rfl ?_
 refine wp_skip (then_normal (wp_seq (w_region ?_)))
 refine H.go HP 4 [(29, (ii e)), (31, (pt b 1))] [] fun a H => H.sh HP 0 1 (ii e) rfl fun w_3 a H HP => ?_
 refine wpList_nil (then_normal (wp_seq (w_region ?_)))
 refine H.ge HP [(2, (ii n))] [] fun a H => ?_
 refine then_normal (wp_ret ?_)
 refine H.ret1 (fn := Tryz.f168) Tryz.results168 (RV.tmp_ (v := (ii n)) (by kernel_rfl)) ?_
 have HP : Hp w w_3 [bx b 277 [(.string (bstr s)), (ii e), (.bool false)] false] [] := HP
 exact ⟨by unfold rnum; simp only [Bool.false_eq_true, if_false]; rw [hR] <;> rfl, by unfold rnum; simp only [Bool.false_eq_true, if_false]; rw [hR]; exact HP.at_ 0 rfl, HP.only b (by intro x hx; simp only [List.mem_cons, List.not_mem_nil, or_false] at hx; rcases hx with rfl <;> simp [bx])⟩
theorem num_any (b : Nat) (s : List UInt8) (q : Nat × Bool) (w : World) (h : Box w b 277 (rdCells s q).toArray) (hl : s.length ≤ 9000000000000000000) (hk : q.1 ≤ s.length) :
  Calls Tryz.prog 168 #[.pointer (some ⟨b, 0, none⟩)] w fun e w' => e = .returned (ii (rnum s q).1) ∧ Box w' b 277 (rdCells s (rnum s q).2).toArray ∧ w.grownBy w' (some b) := by
 obtain ⟨k, fl⟩ := q
 cases fl with
 | true => exact num_bad b s k w h hl hk
 | false =>
  cases hR : rdInt s k with
  | none => exact num_none b s k w h hl hk hR
  | some p => exact num_some b s k w h hl hk p.1 p.2 hR
set_option maxRecDepth 100000 in
set_option maxHeartbeats 4000000 in
theorem txt_bad (b : Nat) (s : List UInt8) (k : Nat) (w : World) (h : Box w b 277 [Value.string (bstr s), .int .i64 (k : Int), .bool true].toArray) (hl : s.length ≤ 9000000000000000000) (hk : k ≤ s.length)  :
  Calls Tryz.prog 169 #[.pointer (some ⟨b, 0, none⟩)] w fun e w' => e = .returned (.string (bstr (rtxt s (k, true)).1)) ∧ Box w' b 277 (rdCells s (rtxt s (k, true)).2).toArray ∧ w.grownBy w' (some b) := by
 have HP := Hp.own (vs := [.string (bstr s), .int .i64 (k : Int), .bool true]) h
 refine w_enter 33 [(0, (pt b 0))] Tryz.func169 rfl Tryz.ntmps169 (by kernel_rfl) (by kernel_rfl) fun a H => ?_
 refine wp_seq (w_region ?_)
 refine H.ge HP [(2, (.string (bstr ([]))))] [] fun a H => ?_
 refine then_normal (wp_seq (wp_seq (w_region ?_)))
 refine H.ge HP [(9, (.bool true))] [0] fun a H => ?_
 refine then_normal ?_
 refine w_ift H rfl ?_
 refine wp_seq (w_region ?_)
 refine H.ge HP [(2, (.string (bstr ([]))))] [] fun a H => ?_
 refine then_normal (wp_ret (then_ret ?_))
 refine H.ret1 (fn := Tryz.f169) Tryz.results169 (RV.tmp_ (v := (.string (bstr ([])))) (by kernel_rfl)) ?_
 have HP : Hp w w [bx b 277 [(.string (bstr s)), (ii k), (.bool true)] false] [] := HP
 exact ⟨by unfold rtxt; rw [if_pos rfl] <;> rfl, by unfold rtxt; rw [if_pos rfl]; exact HP.at_ 0 rfl, HP.only b (by intro x hx; simp only [List.mem_cons, List.not_mem_nil, or_false] at hx; rcases hx with rfl <;> simp [bx])⟩
set_option maxRecDepth 100000 in
set_option maxHeartbeats 4000000 in
theorem txt_none (b : Nat) (s : List UInt8) (k : Nat) (w : World) (h : Box w b 277 [Value.string (bstr s), .int .i64 (k : Int), .bool false].toArray) (hl : s.length ≤ 9000000000000000000) (hk : k ≤ s.length) (hR : rdStr s k = none) :
  Calls Tryz.prog 169 #[.pointer (some ⟨b, 0, none⟩)] w fun e w' => e = .returned (.string (bstr (rtxt s (k, false)).1)) ∧ Box w' b 277 (rdCells s (rtxt s (k, false)).2).toArray ∧ w.grownBy w' (some b) := by
 have HP := Hp.own (vs := [.string (bstr s), .int .i64 (k : Int), .bool false]) h
 refine w_enter 33 [(0, (pt b 0))] Tryz.func169 rfl Tryz.ntmps169 (by kernel_rfl) (by kernel_rfl) fun a H => ?_
 refine wp_seq (w_region ?_)
 refine H.ge HP [(2, (.string (bstr ([]))))] [] fun a H => ?_
 refine then_normal (wp_seq (wp_seq (w_region ?_)))
 refine H.ge HP [(9, (.bool false))] [0] fun a H => ?_
 refine then_normal ?_
 refine w_iff H rfl ?_
 refine wp_skip (then_normal (wp_seq ?_))
 refine An.start (fun v => Hp w v [bx b 277 [(.string (bstr s)), (ii k), (.bool false)] false] []) 16 16 HP wide_follows rfl fun w_1 HP => ?_
 refine An.go H (.inr (HP)) 8 [0, 1, 2, 3, 4, 5, 6, 7] [(14, (.string (bstr s))), (18, (ii k))] [0, 0] fun a H => ?_
 refine An.one 8 (by kernel_rfl) ?_
 refine Op.call H 19 rfl (by kernel_rfl) (Eq.trans (by kernel_rfl : _ = (callFunc 191 #[(.string (bstr s)), (ii k)]).run Tryz.prog w_1) (Tryz.call191 _ _)) ((by have hh := string_any s k w_1 hl hk; rw [hR] at hh; exact hh)) ?_
 rintro e w_2 ⟨rfl, hw⟩
 refine ⟨_, rfl, ?_⟩
 intro a H
 have HP := hw ▸ HP
 refine ⟨.inr (HP), ?_⟩
 refine An.go H (.inr (HP)) 0 [9, 10, 11, 12, 13, 14, 15] [(3, (.string (bstr ([])))), (4, (ii 0)), (5, (ii 10))] [] fun a H => ?_
 refine An.done (by kernel_rfl) ?_
 refine then_normal (wp_seq (wp_seq (w_region ?_)))
 refine H.ge HP [(24, (.bool true))] [] fun a H => ?_
 refine then_normal ?_
 refine w_ift H rfl ?_
 refine wp_seq (w_region ?_)
 refine H.go HP 3 [(27, (pt b 2))] [] fun a H => H.sh HP 0 2 (.bool true) rfl fun w_3 a H HP => ?_
 refine wpList_nil (then_normal (wp_seq (w_region ?_)))
 refine H.ge HP [(2, (.string (bstr ([]))))] [] fun a H => ?_
 refine then_normal (wp_ret (then_ret ?_))
 refine H.ret1 (fn := Tryz.f169) Tryz.results169 (RV.tmp_ (v := (.string (bstr ([])))) (by kernel_rfl)) ?_
 have HP : Hp w w_3 [bx b 277 [(.string (bstr s)), (ii k), (.bool true)] false] [] := HP
 exact ⟨by unfold rtxt; simp only [Bool.false_eq_true, if_false]; rw [hR] <;> rfl, by unfold rtxt; simp only [Bool.false_eq_true, if_false]; rw [hR]; exact HP.at_ 0 rfl, HP.only b (by intro x hx; simp only [List.mem_cons, List.not_mem_nil, or_false] at hx; rcases hx with rfl <;> simp [bx])⟩
set_option maxRecDepth 100000 in
set_option maxHeartbeats 4000000 in
theorem txt_some (b : Nat) (s : List UInt8) (k : Nat) (w : World) (h : Box w b 277 [Value.string (bstr s), .int .i64 (k : Int), .bool false].toArray) (hl : s.length ≤ 9000000000000000000) (hk : k ≤ s.length) (n : List UInt8) (e : Nat) (hR : rdStr s k = some (n, e)) :
  Calls Tryz.prog 169 #[.pointer (some ⟨b, 0, none⟩)] w fun e w' => e = .returned (.string (bstr (rtxt s (k, false)).1)) ∧ Box w' b 277 (rdCells s (rtxt s (k, false)).2).toArray ∧ w.grownBy w' (some b) := by
 have HP := Hp.own (vs := [.string (bstr s), .int .i64 (k : Int), .bool false]) h
 refine w_enter 33 [(0, (pt b 0))] Tryz.func169 rfl Tryz.ntmps169 (by kernel_rfl) (by kernel_rfl) fun a H => ?_
 refine wp_seq (w_region ?_)
 refine H.ge HP [(2, (.string (bstr ([]))))] [] fun a H => ?_
 refine then_normal (wp_seq (wp_seq (w_region ?_)))
 refine H.ge HP [(9, (.bool false))] [0] fun a H => ?_
 refine then_normal ?_
 refine w_iff H rfl ?_
 refine wp_skip (then_normal (wp_seq ?_))
 refine An.start (fun v => Hp w v [bx b 277 [(.string (bstr s)), (ii k), (.bool false)] false] []) 16 16 HP wide_follows rfl fun w_1 HP => ?_
 refine An.go H (.inr (HP)) 8 [0, 1, 2, 3, 4, 5, 6, 7] [(14, (.string (bstr s))), (18, (ii k))] [0, 0] fun a H => ?_
 refine An.one 8 (by kernel_rfl) ?_
 refine Op.call H 19 rfl (by kernel_rfl) (Eq.trans (by kernel_rfl : _ = (callFunc 191 #[(.string (bstr s)), (ii k)]).run Tryz.prog w_1) (Tryz.call191 _ _)) ((by have hh := string_any s k w_1 hl hk; rw [hR] at hh; exact hh)) ?_
 rintro e w_2 ⟨rfl, hw⟩
 refine ⟨_, rfl, ?_⟩
 intro a H
 have HP := hw ▸ HP
 refine ⟨.inr (HP), ?_⟩
 refine An.go H (.inr (HP)) 0 [9, 10, 11, 12, 13, 14, 15] [(3, (.string (bstr n))), (4, (ii e)), (5, (ii 0))] [] fun a H => ?_
 refine An.done (by kernel_rfl) ?_
 refine then_normal (wp_seq (wp_seq (w_region ?_)))
 refine H.ge HP [(24, (.bool false))] [] fun a H => ?_
 refine then_normal ?_
 refine w_iff H rfl ?_
 refine wp_skip (then_normal (wp_seq (w_region ?_)))
 refine H.go HP 4 [(29, (ii e)), (31, (pt b 1))] [] fun a H => H.sh HP 0 1 (ii e) rfl fun w_3 a H HP => ?_
 refine wpList_nil (then_normal (wp_seq (w_region ?_)))
 refine H.ge HP [(2, (.string (bstr n)))] [] fun a H => ?_
 refine then_normal (wp_ret ?_)
 refine H.ret1 (fn := Tryz.f169) Tryz.results169 (RV.tmp_ (v := (.string (bstr n))) (by kernel_rfl)) ?_
 have HP : Hp w w_3 [bx b 277 [(.string (bstr s)), (ii e), (.bool false)] false] [] := HP
 exact ⟨by unfold rtxt; simp only [Bool.false_eq_true, if_false]; rw [hR] <;> rfl, by unfold rtxt; simp only [Bool.false_eq_true, if_false]; rw [hR]; exact HP.at_ 0 rfl, HP.only b (by intro x hx; simp only [List.mem_cons, List.not_mem_nil, or_false] at hx; rcases hx with rfl <;> simp [bx])⟩
theorem txt_any (b : Nat) (s : List UInt8) (q : Nat × Bool) (w : World) (h : Box w b 277 (rdCells s q).toArray) (hl : s.length ≤ 9000000000000000000) (hk : q.1 ≤ s.length) :
  Calls Tryz.prog 169 #[.pointer (some ⟨b, 0, none⟩)] w fun e w' => e = .returned (.string (bstr (rtxt s q).1)) ∧ Box w' b 277 (rdCells s (rtxt s q).2).toArray ∧ w.grownBy w' (some b) := by
 obtain ⟨k, fl⟩ := q
 cases fl with
 | true => exact txt_bad b s k w h hl hk
 | false =>
  cases hR : rdStr s k with
  | none => exact txt_none b s k w h hl hk hR
  | some p => exact txt_some b s k w h hl hk p.1 p.2 hR
theorem dropGetD {l : List UInt8} {a k : Nat} {d : UInt8} : (l.drop a).getD k d = l.getD (a + k) d := by simp only [List.getD, List.getElem?_drop]
def flagsP (N i : Nat) : Nat := (if i = 0 then 1 else 0) + (if i + 1 = N then 2 else 0)
abbrev Pk := {x : List UInt8 // x.length = 64}
def pktN (S : List UInt8) : Nat := (S.length + 58) / 59
def pktAt (S : List UInt8) (ch fr N j : Nat) : List UInt8 := [71, UInt8.ofNat ch, UInt8.ofNat (16 * (fr % 16) + j % 16), UInt8.ofNat (flagsP N j), UInt8.ofNat (min 59 (S.length - 59 * j))] ++ (S.drop (59 * j)).take 59 ++ List.replicate (59 - (S.length - 59 * j)) 255
theorem pktAt_len {S : List UInt8} {ch fr N j : Nat} (h : 59 * j ≤ S.length) : (pktAt S ch fr N j).length = 64 := by
 unfold pktAt
 simp only [List.length_append, List.length_cons, List.length_nil, List.length_take, List.length_drop, List.length_replicate]
 omega
def streamU (rn rd : Int) (u : Un) : List UInt8 := clockP (ticksP rn rd u.frame).toNat ++ bodyP u
def pktsU (rn rd : Int) (u : Un) : List (List UInt8) := (List.range (pktN (streamU rn rd u))).map (pktAt (streamU rn rd u) u.channel.toNat u.frame.toNat (pktN (streamU rn rd u)))
theorem ticks_nat (rn rd fr : Int) : ∃ tk : Nat, ticksP rn rd fr = ((tk : Nat) : Int) ∧ tk < 8589934592 := by
 unfold ticksP
 generalize fr * 90000 * rd / rn = x
 exact ⟨(x % 8589934592).toNat, by omega, by omega⟩
theorem encStr_len (l : List UInt8) : (encStr l).length ≤ 9 + l.length := by
 unfold encStr
 rw [List.length_append]
 have := (encInt_len ((l.length : Nat) : Int)).2
 omega
theorem streamU_len {rn rd : Int} {u : Un} (h : validU u = true) : (streamU rn rd u).length ≤ 720 := by
 obtain ⟨hvf, hvo⟩ := validU_facts h
 have h1 := encOpt_len hvo
 have h2 := encStr_len (encOpt u.os u.of u.al)
 have h3 := encStr_len u.data
 have h4 := encStr_len u.caption
 have h5 := encInts_len [u.channel, u.frame, u.version, u.item, u.index, if u.key = true then 1 else 0]
 have h6 := encInts_len [u.regions, u.gain]
 have h7 := (encInt_len ((sumP (contentP u) : Nat) : Int)).2
 have h8 : (clockP (ticksP rn rd u.frame).toNat).length = 5 := rfl
 unfold streamU bodyP
 rw [List.length_append, List.length_append, h8]
 have h9 : (contentP u).length = (encInts [u.channel, u.frame, u.version, u.item, u.index, if u.key = true then 1 else 0]).length + (encStr u.data).length + (encInts [u.regions, u.gain]).length + (encStr u.caption).length + (encStr (encOpt u.os u.of u.al)).length := by
  unfold contentP
  simp only [List.length_append]
 simp only [List.length_cons, List.length_nil] at h5 h6
 omega
def KpU (b : Nat) (W W' : World) : Prop := W.heap.size ≤ W'.heap.size ∧ W'.heap[b]? = W.heap[b]?
theorem KpU.trans {b : Nat} {A B C : World} (h : KpU b A B) (k : KpU b B C) : KpU b A C := ⟨Nat.le_trans h.1 k.1, k.2.trans h.2⟩
theorem KpU.below {b : Nat} {W W' : World} (h : Below W.heap.size W W') (hb : b < W.heap.size) : KpU b W W' := ⟨h.size, h.block b hb⟩
theorem KpU.box {b : Nat} {W W' : World} {t : TypeId} {vs : Array Value} (h : KpU b W W') (hx : Box W b t vs) : Box W' b t vs := h.2.trans hx
theorem KpU.put {b : Nat} (W : World) (l : Nat) (o o' : Obj) (hl : b ≠ l) : KpU b W (W.putObj l o') := ⟨by simp, World.putObj_heap_other hl⟩
theorem boxCells {w : World} {b : Nat} {t : TypeId} {vs : List Value} (h : Box w b t vs.toArray) : cellsAt w b 0 vs := fun i v hv => by
 rw [Nat.zero_add]
 exact h.cell (by simpa using hv)
theorem pk_cells {c1 c2 c3 n : Nat} {s : List UInt8} (h1 : c1 < 256) (h2 : c2 < 256) (h3 : c3 < 256) (h4 : n < 256) (hs : s.length = n) (hn : n ≤ 59) :
  (Value.int .u8 71 :: .int .u8 ((c1 : Nat) : Int) :: .int .u8 ((c2 : Nat) : Int) :: .int .u8 ((c3 : Nat) : Int) :: .int .u8 ((n : Nat) : Int) :: List.replicate 59 (Value.int .u8 0)).take 5 ++ Lib.byteCells s ++ (Value.int .u8 71 :: .int .u8 ((c1 : Nat) : Int) :: .int .u8 ((c2 : Nat) : Int) :: .int .u8 ((c3 : Nat) : Int) :: .int .u8 ((n : Nat) : Int) :: List.replicate 59 (Value.int .u8 0)).drop (5 + s.length) =
   Lib.byteCells ([71, UInt8.ofNat c1, UInt8.ofNat c2, UInt8.ofNat c3, UInt8.ofNat n] ++ s ++ (List.replicate 0 255 ++ List.replicate (59 - n - 0) 0)) := by
 subst hs
 have e : ∀ k, k < 256 → (UInt8.ofNat k).toNat = k := fun k h => ofNat_toNat h
 rw [show ∀ (a b c d e : Value) (l : List Value), (a :: b :: c :: d :: e :: l).drop (5 + s.length) = l.drop s.length from fun a b c d e l => by rw [Nat.add_comm]; rfl]
 simp only [Lib.byteCells, List.map_append, List.map_cons, List.map_nil, List.map_replicate, e _ h1, e _ h2, e _ h3, e _ h4, List.drop_replicate, List.take_succ_cons, List.take_zero, List.replicate_zero, List.nil_append, Nat.sub_zero]
 rfl
theorem pk_set {s : List UInt8} {a b c d e : UInt8} {n i : Nat} (hs : s.length = n) (hi : i < 59 - n) :
  (Lib.byteCells ([a, b, c, d, e] ++ s ++ (List.replicate i 255 ++ List.replicate (59 - n - i) 0))).set (0 + (5 + n + i) * 1) (.int .u8 255) = Lib.byteCells ([a, b, c, d, e] ++ s ++ (List.replicate (i + 1) 255 ++ List.replicate (59 - n - (i + 1)) 0)) := by
 rw [show 59 - n - i = (59 - n - (i + 1)) + 1 by omega, List.replicate_succ, List.replicate_succ']
 rw [show [a, b, c, d, e] ++ s ++ (List.replicate i 255 ++ (0 :: List.replicate (59 - n - (i + 1)) 0)) = ([a, b, c, d, e] ++ s ++ List.replicate i 255) ++ (0 :: List.replicate (59 - n - (i + 1)) 0) by simp]
 rw [byteCells_append, List.set_append_right _ _ (by rw [byteCells_len]; simp; omega)]
 rw [show 0 + (5 + n + i) * 1 - (Lib.byteCells ([a, b, c, d, e] ++ s ++ List.replicate i 255)).length = 0 by rw [byteCells_len]; simp; omega]
 simp [Lib.byteCells]
theorem drop_next {S s : List UInt8} {j n : Nat} (hs : S.drop (59 * j) = s) (hn : n = s.length ∨ n = 59 ∧ 59 ≤ s.length) (hn3 : n ≤ 59) : s.drop n = S.drop (59 * (j + 1)) := by
 rw [Nat.mul_add, ← List.drop_drop, hs]
 rcases hn with h | ⟨h, _⟩
 ·rw [List.drop_of_length_le (by omega), List.drop_of_length_le (by omega)]
 ·rw [h]
theorem pkt_eq {S s : List UInt8} {ch fr N j n fl : Nat} (hs : S.drop (59 * j) = s) (hsl : s.length = S.length - 59 * j) (hn : n = s.length ∨ n = 59 ∧ 59 ≤ s.length) (hn3 : n ≤ 59) (hfl : fl = flagsP N j) :
  [71, UInt8.ofNat ch, UInt8.ofNat (16 * (fr % 16) + j % 16), UInt8.ofNat fl, UInt8.ofNat n] ++ s.take n ++ (List.replicate (59 - n) 255 ++ List.replicate (59 - n - (59 - n)) 0) = pktAt S ch fr N j := by
 unfold pktAt
 rw [Nat.sub_self, List.replicate_zero, List.append_nil, hs, hfl, ← hsl, show min 59 s.length = n by omega, show 59 - n = 59 - s.length by omega]
 congr 2
 rcases hn with h | ⟨h, _⟩
 ·rw [List.take_of_length_le (by omega), List.take_of_length_le (by omega)]
 ·rw [h]
set_option maxRecDepth 100000 in
set_option maxHeartbeats 4000000 in
theorem packets1_any (m l Br Bu : Nat) (rn rd : Int) (u : Un) (J Jx : List Pk → World → Prop) (w : World) (hL : Laid w) (hrv : rateOk rn rd = true) (hu : IsAlts w u.A u.al.length u.al) (hv : validU u = true)
  (hB1 : Box w Br 58 #[.int .i64 rn, .int .i64 rd]) (hB2 : Box w Bu 76 u.cells) (hJo : OwnFrom w.heap.size J) (h0 : J [] w)
  (hY : ∀ pre x W1, J pre W1 → pre.length < pktN (streamU rn rd u) → YieldAt Fence.wide m Tryz.prog l #[.agg (Lib.byteCells x.1).toArray] W1 fun e W' => ∃ b, e = .returned (.bool b) ∧ (b = true → J (pre ++ [x]) W') ∧ (b = false → Jx (pre ++ [x]) W') ∧ KpU Bu W1 W') :
  Calls Tryz.prog 85 #[.func (.yield l) #[] #[], .pointer (some ⟨Br, 0, none⟩), .pointer (some ⟨Bu, 0, none⟩)] w fun e W' => (∃ v, e = .returned v) ∧ ((∃ xs : List Pk, xs.map (·.1) = pktsU rn rd u ∧ J xs W') ∨ ∃ pre, Jx pre W') := by
 have hvf := (validU_facts hv).1
 have hfr : 0 ≤ u.frame ∧ u.frame ≤ 100000000 := by omega
 obtain ⟨tk, htk, htb⟩ := ticks_nat rn rd u.frame
 obtain ⟨ch, hch⟩ : ∃ ch : Nat, u.channel = (ch : Int) := ⟨u.channel.toNat, by omega⟩
 obtain ⟨fr, hfrn⟩ : ∃ fr : Nat, u.frame = (fr : Int) := ⟨u.frame.toNat, by omega⟩
 have hchb : ch < 40 := by omega
 have hfrb : fr ≤ 100000000 := by omega
 obtain ⟨S, hS⟩ : ∃ S, streamU rn rd u = S := ⟨_, rfl⟩
 have hS0 : clockP tk ++ bodyP u = S := by rw [← hS]; unfold streamU; rw [htk]; rfl
 have hpk : pktsU rn rd u = (List.range (pktN S)).map (pktAt S ch fr (pktN S)) := by unfold pktsU; rw [hS, hch, hfrn]; rfl
 rw [hpk]
 rw [hS] at hY
 obtain ⟨N, hN⟩ : ∃ N, pktN S = N := ⟨_, rfl⟩
 rw [hN] at hY ⊢
 have hNN : S.length ≤ 59 * N ∧ 59 * N < S.length + 59 := by unfold pktN at hN; omega
 have hSl : S.length ≤ 720 := by rw [← hS]; exact streamU_len hv
 have hSl2 : (clockP tk).length + (bodyP u).length ≤ 720 := by have := hSl; rw [← hS0, List.length_append] at this; exact this
 clear hvf hS hN hpk
 have HP := Hp.start w
 refine w_enter 79 [(0, (.func (.yield l) #[] #[])), (1, (pt Br 0)), (2, (pt Bu 0))] Tryz.func85 rfl Tryz.ntmps85 (by kernel_rfl) (by kernel_rfl) fun a H => ?_
 refine wp_seq ?_
 refine An.start (fun v => Hp w v [] []) 9 9 HP wide_follows rfl fun w_1 HP => ?_
 refine An.val H (HP) 0 9 (.agg #[(ii rn), (ii rd)]) rfl (by kernel_rfl) (by kernel_rfl) (fun _ _ _ h => h) (fun _ hS => ex_loadN (vs := [(ii rn), (ii rd)]) (by kernel_rfl) (by kernel_rfl) (by kernel_rfl) rfl (boxCells (hB1.next (hS.below (by kernel_rfl))))) fun a H => ?_
 refine An.go H (.inr (HP)) 7 [1] [(10, (pt Bu 1))] [] fun a H => ?_
 refine An.val H (HP) 2 11 (ii u.frame) rfl (by kernel_rfl) (by kernel_rfl) (fun _ _ _ h => h) (fun _ hS => ex_l1 (hS.oldc (by kernel_rfl) (hB2.cell (i := 1) rfl))) fun a H => ?_
 refine An.val H (HP) 5 14 (.agg (ua u u.A u.c)) rfl (by kernel_rfl) (by kernel_rfl) (fun _ _ _ h => h) (fun _ hS => ex_loadN (vs := (ul u u.A u.c)) (by kernel_rfl) (by kernel_rfl) (by kernel_rfl) rfl (boxCells (hB2.next (hS.below (by kernel_rfl))))) fun a H => ?_
 refine An.one 3 (by kernel_rfl) ?_
 refine Op.call H 12 rfl (by kernel_rfl) (Eq.trans (by kernel_rfl : _ = (callFunc 87 #[(.agg #[(ii rn), (ii rd)]), (ii u.frame)]).run Tryz.prog w_1) (Tryz.call87 _ _)) ((by have hh := ticks_any rn rd u.frame w_1 (hL.below HP.bl) hrv hfr; rw [htk] at hh; exact hh)) ?_
 rintro e w_2 ⟨rfl, hb⟩
 refine ⟨_, rfl, ?_⟩
 intro a H
 have HP := HP.next hb
 refine ⟨.inr (HP), ?_⟩
 refine An.one 4 (by kernel_rfl) ?_
 refine Op.call H 13 rfl (by kernel_rfl) (Eq.trans (by kernel_rfl : _ = (callFunc 86 #[(ii tk)]).run Tryz.prog w_2) (Tryz.call86 _ _)) (clock_any tk w_2 (by omega)) ?_
 rintro e w_3 ⟨rfl, hb⟩
 refine ⟨_, rfl, ?_⟩
 intro a H
 have HP := HP.next hb
 refine ⟨.inr (HP), ?_⟩
 refine An.one 6 (by kernel_rfl) ?_
 refine Op.call H 15 rfl (by kernel_rfl) (Eq.trans (by kernel_rfl : _ = (callFunc 88 #[(.agg (ua u u.A u.c))]).run Tryz.prog w_3) (Tryz.call88 _ _)) (body_any u w_3 (hL.below HP.bl) (hu.below HP.bl) hv) ?_
 rintro e w_4 ⟨rfl, hb⟩
 refine ⟨_, rfl, ?_⟩
 intro a H
 have HP := HP.next hb
 refine ⟨.inr (HP), ?_⟩
 refine An.pure H (.inr (HP)) 7 16 (.string (bstr ((clockP tk) ++ (bodyP u)))) rfl (by kernel_rfl) (by kernel_rfl) (fun _ _ _ h => h) (fun _ => ex_sadd (by kernel_rfl) (by kernel_rfl) (by omega)) fun a H => ?_
 refine An.go H (.inr (HP)) 0 [8] [(4, (.string (bstr ((clockP tk) ++ (bodyP u)))))] [] fun a H => ?_
 refine An.done (by kernel_rfl) ?_
 rw [hS0] at H
 have H := H.keep (L' := [(4, (.string (bstr S))), (0, (.func (.yield l) #[] #[])), (1, (pt Br 0)), (2, (pt Bu 0))]) (by kernel_rfl)
 have hbel := HP.bl
 refine then_normal (wp_seq (w_region ?_))
 refine H.ge HP [(5, (ii 0))] [] fun a H => ?_
 refine then_normal (wp_block ?_)
 refine w_loop (fun mm a wv => ∃ (j : Nat), ∃ (pre : List Pk), N - j = mm ∧ Sl 79 [(5, (ii j)), (4, (.string (bstr (S.drop (59 * j))))), (0, (.func (.yield l) #[] #[])), (2, (pt Bu 0))] a ∧ Hp wv wv [] [] ∧ (j ≤ N) ∧ (pre.map (·.1) = (List.range j).map (pktAt S ch fr N)) ∧ (J pre wv) ∧ (KpU Bu w wv)) (N - 0) ?_ ?_
 ·exact ⟨0, [], (by omega), H.keep (by kernel_rfl), Hp.start _, by omega, rfl, OwnFrom.below hJo h0 hbel, KpU.below hbel hB2.lt⟩
 rintro mm a w_5 ⟨j, pre, hmeas, H, HP, hj, hpre, hjs, hkc⟩
 have hpl : pre.length = j := by have := congrArg List.length hpre; simpa using this
 have HU := hkc.box hB2
 have c0 : w_5.cell? ⟨Bu, 0, none⟩ = some (ii ch) := by rw [← hch]; exact HU.cell (i := 0) rfl
 have c1 : w_5.cell? ⟨Bu, 1, none⟩ = some (ii fr) := by rw [← hfrn]; exact HU.cell (i := 1) rfl
 obtain ⟨s, hs⟩ : ∃ s, S.drop (59 * j) = s := ⟨_, rfl⟩
 have hsl : s.length = S.length - 59 * j := by rw [← hs, List.length_drop]
 rw [hs] at H
 refine wp_seq (wp_seq (w_region ?_))
 refine H.ge HP [(19, (.bool (decide ((s.length : Int) > 0))))] [] fun a H => ?_
 refine then_normal ?_
 refine w_if H rfl (fun g19 => ?_) (fun g19 => ?_)
 ·have g19p := of_decide_eq_true g19
  refine wp_skip (then_normal (wp_seq (wp_block (wp_seq (w_region ?_)))))
  refine H.go HP 2 [(23, (ii s.length))] [] fun a H => H.valE 24 (ii (if (s.length : Int) < 59 then (s.length : Int) else 59)) (ii (min 59 (s.length : Int))) (by kernel_rfl) (by kernel_rfl) ((congrArg (Value.int .i64) (min_if _ _))) fun a H => ?_
  refine H.ge HP [(6, (ii (min 59 (s.length : Int))))] [] fun a H => ?_
  obtain ⟨n, hn1, hn3, hn12⟩ : ∃ n : Nat, min (59 : Int) (s.length : Int) = (n : Int) ∧ n ≤ 59 ∧ (n = s.length ∨ n = 59 ∧ 59 ≤ s.length) := ⟨min 59 s.length, by omega, by omega, by omega⟩
  have H := H.as 6 (ii n) rfl (congrArg (Value.int .i64) (by omega))
  refine then_normal (wp_seq (w_region ?_))
  refine H.alloc HP 7 (fun b => (pt b 0)) 143 [(.int .u8 0), (.int .u8 0), (.int .u8 0), (.int .u8 0), (.int .u8 0), (.int .u8 0), (.int .u8 0), (.int .u8 0), (.int .u8 0), (.int .u8 0), (.int .u8 0), (.int .u8 0), (.int .u8 0), (.int .u8 0), (.int .u8 0), (.int .u8 0), (.int .u8 0), (.int .u8 0), (.int .u8 0), (.int .u8 0), (.int .u8 0), (.int .u8 0), (.int .u8 0), (.int .u8 0), (.int .u8 0), (.int .u8 0), (.int .u8 0), (.int .u8 0), (.int .u8 0), (.int .u8 0), (.int .u8 0), (.int .u8 0), (.int .u8 0), (.int .u8 0), (.int .u8 0), (.int .u8 0), (.int .u8 0), (.int .u8 0), (.int .u8 0), (.int .u8 0), (.int .u8 0), (.int .u8 0), (.int .u8 0), (.int .u8 0), (.int .u8 0), (.int .u8 0), (.int .u8 0), (.int .u8 0), (.int .u8 0), (.int .u8 0), (.int .u8 0), (.int .u8 0), (.int .u8 0), (.int .u8 0), (.int .u8 0), (.int .u8 0), (.int .u8 0), (.int .u8 0), (.int .u8 0), (.int .u8 0), (.int .u8 0), (.int .u8 0), (.int .u8 0), (.int .u8 0)] (by kernel_rfl) (fun w => by kernel_rfl) fun b_6 w_7 a H HP => ?_
  refine wpList_nil ?_
  have HP : Hp w_5 w_7 [bx b_6 143 ((.int .u8 0) :: (.int .u8 0) :: (.int .u8 0) :: (.int .u8 0) :: (.int .u8 0) :: List.replicate 59 (.int .u8 0)) true] [] := HP
  refine then_normal (wp_seq (w_region ?_))
  refine H.v 25 (pt b_6 0) fun a H => H.store HP 0 b_6 0 1 143 _ true (.int .u8 71) [bx b_6 143 ((.int .u8 71) :: (.int .u8 0) :: (.int .u8 0) :: (.int .u8 0) :: (.int .u8 0) :: List.replicate 59 (.int .u8 0)) true] (by kernel_rfl) (by kernel_rfl) (by kernel_rfl) rfl (by kernel_rfl) (by kernel_rfl) (by kernel_rfl) (by kernel_rfl) (by kernel_rfl) fun w_8 a H HP => ?_
  refine wpList_nil (then_normal (wp_seq (w_region ?_)))
  refine H.go HP 1 [(26, (pt Bu 0))] [] fun a H => H.u 27 (ii ch) (ex_l1 (HP.oldc (by kernel_rfl) c0)) fun a H => H.valE 28 (.int .u8 (IntKind.u8.wrap (ch : Int))) (.int .u8 (ch : Int)) (by kernel_rfl) (by kernel_rfl) ((by rw [wrap_inu8 _ (by omega)])) fun a H => H.v 29 (pt b_6 1) fun a H => H.store HP 0 b_6 1 1 143 _ true (.int .u8 (ch : Int)) [bx b_6 143 ((.int .u8 71) :: (.int .u8 (ch : Int)) :: (.int .u8 0) :: (.int .u8 0) :: (.int .u8 0) :: List.replicate 59 (.int .u8 0)) true] (by kernel_rfl) (by kernel_rfl) (by kernel_rfl) rfl (by kernel_rfl) (by kernel_rfl) (by kernel_rfl) (by kernel_rfl) (by kernel_rfl) fun w_9 a H HP => ?_
  refine wpList_nil (then_normal (wp_seq (w_region ?_)))
  refine H.go HP 1 [(30, (pt Bu 1))] [] fun a H => H.u 31 (ii fr) (ex_l1 (HP.oldc (by kernel_rfl) c1)) fun a H => H.valE 32 (ii ((fr : Int).tmod 16)) (ii ((fr % 16 : Nat) : Int)) (by kernel_rfl) (by kernel_rfl) ((by rw [tmod_nn _ _ (by omega)]; exact congrArg (Value.int .i64) (by omega))) fun a H => H.valE 33 (ii (IntKind.i64.wrap (16 * ((fr % 16 : Nat) : Int)))) (ii ((16 * (fr % 16) : Nat) : Int)) (by kernel_rfl) (by kernel_rfl) ((by rw [wrap_ini64 _ (by omega)]; exact congrArg (Value.int .i64) (by omega))) fun a H => H.go HP 1 [(34, (ii j))] [] fun a H => H.valE 35 (ii ((j : Int).tmod 16)) (ii ((j % 16 : Nat) : Int)) (by kernel_rfl) (by kernel_rfl) ((by rw [tmod_nn _ _ (by omega)]; exact congrArg (Value.int .i64) (by omega))) fun a H => H.valE 36 (ii (IntKind.i64.wrap (((16 * (fr % 16) : Nat) : Int) + ((j % 16 : Nat) : Int)))) (ii ((16 * (fr % 16) + j % 16 : Nat) : Int)) (by kernel_rfl) (by kernel_rfl) ((by rw [wrap_ini64 _ (by omega)]; exact congrArg (Value.int .i64) (by omega))) fun a H => H.valE 37 (.int .u8 (IntKind.u8.wrap ((16 * (fr % 16) + j % 16 : Nat) : Int))) (.int .u8 ((16 * (fr % 16) + j % 16 : Nat) : Int)) (by kernel_rfl) (by kernel_rfl) ((by rw [wrap_inu8 _ (by omega)])) fun a H => H.v 38 (pt b_6 2) fun a H => H.store HP 0 b_6 2 1 143 _ true (.int .u8 ((16 * (fr % 16) + j % 16 : Nat) : Int)) [bx b_6 143 ((.int .u8 71) :: (.int .u8 (ch : Int)) :: (.int .u8 ((16 * (fr % 16) + j % 16 : Nat) : Int)) :: (.int .u8 0) :: (.int .u8 0) :: List.replicate 59 (.int .u8 0)) true] (by kernel_rfl) (by kernel_rfl) (by kernel_rfl) rfl (by kernel_rfl) (by kernel_rfl) (by kernel_rfl) (by kernel_rfl) (by kernel_rfl) fun w_10 a H HP => ?_
  refine wpList_nil (then_normal ?_)
  refine w_cut (fun a wv => ∃ (f0 : Nat), Sl 79 [(5, (ii j)), (4, (.string (bstr s))), (0, (.func (.yield l) #[] #[])), (2, (pt Bu 0)), (6, (ii n)), (7, (pt b_6 0))] a ∧ Hp w_5 wv [bx b_6 143 ((.int .u8 71) :: (.int .u8 (ch : Int)) :: (.int .u8 ((16 * (fr % 16) + j % 16 : Nat) : Int)) :: (.int .u8 (f0 : Int)) :: (.int .u8 0) :: List.replicate 59 (.int .u8 0)) true] [] ∧ ((f0 = 0 ∧ j ≠ 0) ∨ (f0 = 1 ∧ j = 0))) ?_ ?_
  ·
   refine wp_seq (w_region ?_)
   refine H.ge HP [(40, (.bool ((j : Int) == 0)))] [] fun a H => ?_
   refine then_normal ?_
   refine w_if H rfl (fun g40 => ?_) (fun g40 => ?_)
   ·have g40p := eq_of_beq g40
    refine w_region ?_
    refine H.v 41 (pt b_6 3) fun a H => H.go HP 1 [(42, (.int .u8 0))] [0] fun a H => H.v 43 (.int .u8 1) fun a H => H.v 44 (pt b_6 3) fun a H => H.store HP 0 b_6 3 1 143 _ true (.int .u8 1) [bx b_6 143 ((.int .u8 71) :: (.int .u8 (ch : Int)) :: (.int .u8 ((16 * (fr % 16) + j % 16 : Nat) : Int)) :: (.int .u8 1) :: (.int .u8 0) :: List.replicate 59 (.int .u8 0)) true] (by kernel_rfl) (by kernel_rfl) (by kernel_rfl) rfl (by kernel_rfl) (by kernel_rfl) (by kernel_rfl) (by kernel_rfl) (by kernel_rfl) fun w_11 a H HP => ?_
    refine wpList_nil (then_normal ?_)
    exact ⟨1, H.keep (by kernel_rfl), HP, (by omega)⟩
   have g40p := ne_of_beq_false g40
   refine wp_skip (then_normal ?_)
   exact ⟨0, H.keep (by kernel_rfl), HP, (by omega)⟩
  
  rintro a w_12 ⟨f0, H, HP, hf0⟩
  refine w_cut (fun a wv => ∃ (fl : Nat), Sl 79 [(5, (ii j)), (4, (.string (bstr s))), (0, (.func (.yield l) #[] #[])), (2, (pt Bu 0)), (6, (ii n)), (7, (pt b_6 0))] a ∧ Hp w_5 wv [bx b_6 143 ((.int .u8 71) :: (.int .u8 (ch : Int)) :: (.int .u8 ((16 * (fr % 16) + j % 16 : Nat) : Int)) :: (.int .u8 (fl : Int)) :: (.int .u8 0) :: List.replicate 59 (.int .u8 0)) true] [] ∧ (fl = flagsP N j) ∧ (fl < 256)) ?_ ?_
  ·
   refine wp_seq (w_region ?_)
   refine H.ge HP [(48, (.bool ((n : Int) == (s.length : Int))))] [] fun a H => ?_
   refine then_normal ?_
   refine w_if H rfl (fun g48 => ?_) (fun g48 => ?_)
   ·have g48p := eq_of_beq g48
    refine w_region ?_
    refine H.v 49 (pt b_6 3) fun a H => H.go HP 1 [(50, (.int .u8 (f0 : Int)))] [0] fun a H => H.valE 51 (.int .u8 (bits .or .u8 (f0 : Int) 2)) (.int .u8 ((f0 + 2 : Nat) : Int)) (by kernel_rfl) (by kernel_rfl) ((by rcases hf0 with ⟨rfl, _⟩ | ⟨rfl, _⟩ <;> rfl)) fun a H => H.v 52 (pt b_6 3) fun a H => H.store HP 0 b_6 3 1 143 _ true (.int .u8 ((f0 + 2 : Nat) : Int)) [bx b_6 143 ((.int .u8 71) :: (.int .u8 (ch : Int)) :: (.int .u8 ((16 * (fr % 16) + j % 16 : Nat) : Int)) :: (.int .u8 ((f0 + 2 : Nat) : Int)) :: (.int .u8 0) :: List.replicate 59 (.int .u8 0)) true] (by kernel_rfl) (by kernel_rfl) (by kernel_rfl) rfl (by kernel_rfl) (by kernel_rfl) (by kernel_rfl) (by kernel_rfl) (by kernel_rfl) fun w_13 a H HP => ?_
    refine wpList_nil (then_normal ?_)
    exact ⟨f0 + 2, H.keep (by kernel_rfl), HP, (by unfold flagsP; split <;> split <;> omega), (by omega)⟩
   have g48p := ne_of_beq_false g48
   refine wp_skip (then_normal ?_)
   exact ⟨f0, H.keep (by kernel_rfl), HP, (by unfold flagsP; split <;> split <;> omega), (by omega)⟩
  
  rintro a w_14 ⟨fl, H, HP, hfl, hflb⟩
  refine wp_seq (w_region ?_)
  refine H.go HP 1 [(53, (ii n))] [] fun a H => H.valE 54 (.int .u8 (IntKind.u8.wrap (n : Int))) (.int .u8 (n : Int)) (by kernel_rfl) (by kernel_rfl) ((by rw [wrap_inu8 _ (by omega)])) fun a H => H.v 55 (pt b_6 4) fun a H => H.store HP 0 b_6 4 1 143 _ true (.int .u8 (n : Int)) [bx b_6 143 ((.int .u8 71) :: (.int .u8 (ch : Int)) :: (.int .u8 ((16 * (fr % 16) + j % 16 : Nat) : Int)) :: (.int .u8 (fl : Int)) :: (.int .u8 (n : Int)) :: List.replicate 59 (.int .u8 0)) true] (by kernel_rfl) (by kernel_rfl) (by kernel_rfl) rfl (by kernel_rfl) (by kernel_rfl) (by kernel_rfl) (by kernel_rfl) (by kernel_rfl) fun w_15 a H HP => ?_
  refine wpList_nil (then_normal (wp_seq ?_))
  refine An.start (fun v => Hp w_5 v [bx b_6 143 ((.int .u8 71) :: (.int .u8 (ch : Int)) :: (.int .u8 ((16 * (fr % 16) + j % 16 : Nat) : Int)) :: (.int .u8 (fl : Int)) :: (.int .u8 (n : Int)) :: List.replicate 59 (.int .u8 0)) true] []) 4 5 HP wide_follows rfl fun w_16 HP => ?_
  refine An.p H (.inr HP) 0 56 (.slice (some ⟨b_6, 5, none⟩) 59 59) fun a H => ?_
  refine An.go H (.inr (HP)) 2 [1, 2] [(57, (.string (bstr s))), (58, (ii n))] [] fun a H => ?_
  refine An.pure H (.inr (HP)) 3 59 (.string (bstr (s.take n))) rfl (by kernel_rfl) (by kernel_rfl) (fun _ _ _ h => h) (fun _ => ex_ssliceH (kk := .i64) (l := s) (j := (n : Int)) (b := n) (by kernel_rfl) (by kernel_rfl) (by kernel_rfl) (by omega) (by omega)) fun a H => ?_
  refine An.one 4 (by kernel_rfl) ?_
  refine Op.copyS H HP 0 60 b_6 5 59 59 143 ((.int .u8 71) :: (.int .u8 (ch : Int)) :: (.int .u8 ((16 * (fr % 16) + j % 16 : Nat) : Int)) :: (.int .u8 (fl : Int)) :: (.int .u8 (n : Int)) :: List.replicate 59 (.int .u8 0)) (s.take n) true [bx b_6 143 (((.int .u8 71) :: (.int .u8 (ch : Int)) :: (.int .u8 ((16 * (fr % 16) + j % 16 : Nat) : Int)) :: (.int .u8 (fl : Int)) :: (.int .u8 (n : Int)) :: List.replicate 59 (.int .u8 0)).take 5 ++ Lib.byteCells (s.take n) ++ ((.int .u8 71) :: (.int .u8 (ch : Int)) :: (.int .u8 ((16 * (fr % 16) + j % 16 : Nat) : Int)) :: (.int .u8 (fl : Int)) :: (.int .u8 (n : Int)) :: List.replicate 59 (.int .u8 0)).drop (5 + (s.take n).length)) true] (e := 5) rfl (by kernel_rfl) (by kernel_rfl) (by kernel_rfl) (by kernel_rfl) rfl (by rw [List.length_take]; omega) (by rw [List.length_take]; show 5 + min n s.length ≤ 64; omega) (dT := 106) (sT := 9) (ty := 3) rfl fun w_17 a H HP => ?_
  refine ⟨.inl (by kernel_rfl), ?_⟩
  refine An.done (by kernel_rfl) ?_
  have htn : (s.take n).length = n := by rw [List.length_take]; omega
  have hcs : ((.int .u8 71) :: (.int .u8 (ch : Int)) :: (.int .u8 ((16 * (fr % 16) + j % 16 : Nat) : Int)) :: (.int .u8 (fl : Int)) :: (.int .u8 (n : Int)) :: List.replicate 59 (.int .u8 0)).take 5 ++ Lib.byteCells (s.take n) ++ ((.int .u8 71) :: (.int .u8 (ch : Int)) :: (.int .u8 ((16 * (fr % 16) + j % 16 : Nat) : Int)) :: (.int .u8 (fl : Int)) :: (.int .u8 (n : Int)) :: List.replicate 59 (.int .u8 0)).drop (5 + (s.take n).length) = Lib.byteCells ([71, UInt8.ofNat ch, UInt8.ofNat (16 * (fr % 16) + j % 16), UInt8.ofNat fl, UInt8.ofNat n] ++ s.take n ++ (List.replicate 0 255 ++ List.replicate (59 - n - 0) 0)) := pk_cells (by omega) (by omega) (by omega) (by omega) htn hn3
  rw [hcs] at HP
  refine then_normal (wp_seq (wp_seq (w_region ?_)))
  refine H.go HP 1 [(61, (ii n))] [] fun a H => H.valE 62 (ii (IntKind.i64.wrap (59 - (n : Int)))) (ii ((59 - n : Nat) : Int)) (by kernel_rfl) (by kernel_rfl) ((by rw [wrap_ini64 _ (by omega)]; exact congrArg (Value.int .i64) (by omega))) fun a H => ?_
  refine H.ge HP [(63, (ii 0))] [] fun a H => ?_
  refine then_normal (wp_block ?_)
  refine w_loop (fun mm a wv => ∃ (i : Nat), 59 - n - i = mm ∧ Sl 79 [(63, (ii i)), (62, (ii ((59 - n : Nat) : Int))), (5, (ii j)), (4, (.string (bstr s))), (0, (.func (.yield l) #[] #[])), (2, (pt Bu 0)), (6, (ii n)), (7, (pt b_6 0))] a ∧ Hp w_5 wv [bx b_6 143 (Lib.byteCells ([71, UInt8.ofNat ch, UInt8.ofNat (16 * (fr % 16) + j % 16), UInt8.ofNat fl, UInt8.ofNat n] ++ s.take n ++ (List.replicate i 255 ++ List.replicate (59 - n - i) 0))) true] [] ∧ (i ≤ 59 - n)) (59 - n - 0) ?_ ?_
  ·exact ⟨0, (by omega), H.keep (by kernel_rfl), HP, by omega⟩
  rintro mm a w_18 ⟨i, hmeas, H, HP, hi⟩
  refine wp_seq (w_region ?_)
  refine H.ge HP [(64, (.bool (decide ((i : Int) < ((59 - n : Nat) : Int)))))] [] fun a H => ?_
  refine then_normal (wp_seq ?_)
  refine w_if H rfl (fun g64 => ?_) (fun g64 => ?_)
  ·have g64p := of_decide_eq_true g64
   refine wp_skip (then_normal (wp_seq (wp_block (wp_seq (w_region ?_)))))
   refine H.ge HP [(8, (ii i))] [] fun a H => ?_
   refine then_normal (w_region ?_)
   refine H.go HP 1 [(66, (ii n))] [] fun a H => H.valE 67 (ii (IntKind.i64.wrap (5 + (n : Int)))) (ii ((5 + n : Nat) : Int)) (by kernel_rfl) (by kernel_rfl) ((by rw [wrap_ini64 _ (by omega)]; exact congrArg (Value.int .i64) (by omega))) fun a H => H.go HP 1 [(68, (ii i))] [] fun a H => H.valE 69 (ii (IntKind.i64.wrap (((5 + n : Nat) : Int) + (i : Int)))) (ii ((5 + n + i : Nat) : Int)) (by kernel_rfl) (by kernel_rfl) ((by rw [wrap_ini64 _ (by omega)]; exact congrArg (Value.int .i64) (by omega))) fun a H => H.u 70 (.pointer (some ⟨b_6, 0 + (5 + n + i) * 1, none⟩)) (ex_aindex (b := b_6) (off := 0) (n := 64) (e := 5) (m := 5 + n + i) (k := 1) (ik := .i64) (i := ((5 + n + i : Nat) : Int)) (by kernel_rfl) (by kernel_rfl) rfl (by omega) (by kernel_rfl) (by kernel_rfl)) fun a H => H.store HP 0 b_6 (0 + (5 + n + i) * 1) 1 143 _ true (.int .u8 255) [bx b_6 143 ((Lib.byteCells ([71, UInt8.ofNat ch, UInt8.ofNat (16 * (fr % 16) + j % 16), UInt8.ofNat fl, UInt8.ofNat n] ++ s.take n ++ (List.replicate i 255 ++ List.replicate (59 - n - i) 0))).set (0 + (5 + n + i) * 1) (.int .u8 255)) true] (by kernel_rfl) (by kernel_rfl) (by kernel_rfl) rfl (by kernel_rfl) (by kernel_rfl) (by kernel_rfl) (Nat.ble_eq_true_of_le (by rw [byteCells_len]; simp only [List.length_append, List.length_replicate, htn]; show 0 + (5 + n + i) * 1 + 1 ≤ 5 + n + (i + (59 - n - i)); omega)) rfl fun w_19 a H HP => ?_
   refine wpList_nil ?_
   rw [pk_set htn (by omega)] at HP
   refine inb_normal (then_normal (w_region ?_))
   refine H.wi 71 ((i : Int) + 1) fun a H => ?_
   refine H.ge HP [(63, (ii ((i : Int) + 1)))] [] fun a H => ?_
   refine then_normal ?_
   have H := H.as 63 (ii ((i + 1 : Nat) : Int)) rfl rfl
   refine ⟨_, ?_, i + 1, rfl, H.keep (by kernel_rfl), HP, by omega⟩
   omega
  have g64p := of_decide_eq_false g64
  refine wp_exit (then_exit (then_exit ?_))
  refine w_exit_here ?_
  refine then_normal (wp_seq (wp_seq ?_))
  have hj2 : 59 * j ≤ S.length := by omega
  have hx : ([71, UInt8.ofNat ch, UInt8.ofNat (16 * (fr % 16) + j % 16), UInt8.ofNat fl, UInt8.ofNat n] ++ s.take n ++ (List.replicate i 255 ++ List.replicate (59 - n - i) 0)) = pktAt S ch fr N j := by rw [show i = 59 - n from by omega]; exact pkt_eq hs hsl hn12 hn3 hfl
  rw [hx] at HP
  refine w_regionI (m + 1) ?_
  refine H.valI 72 (.func (.yield l) #[] #[]) (by kernel_rfl) (by kernel_rfl) fun a H => ?_
  refine H.valI 73 (.agg (Lib.byteCells (pktAt S ch fr N j)).toArray) (by kernel_rfl) (ex_loadN (k := 64) (vs := Lib.byteCells (pktAt S ch fr N j)) (by kernel_rfl) (by kernel_rfl) (by kernel_rfl) (by rw [byteCells_len]; exact pktAt_len hj2) (HP.cells 0 rfl 0 64 (List.take_of_length_le (by rw [List.drop_zero, byteCells_len, pktAt_len hj2]; exact Nat.le_refl _)))) fun a H => ?_
  refine H.callY 74 (l := l) (by kernel_rfl) (by kernel_rfl) (hY pre ⟨pktAt S ch fr N j, pktAt_len hj2⟩ _ (OwnFrom.below hJo hjs HP.bl) (by omega)) ?_
  rintro e w_20 ⟨bb, rfl, hjt, hjf, hkp⟩
  refine ⟨_, rfl, ?_⟩
  intro a H
  have hkc2 := (hkc.trans (KpU.below HP.bl (Nat.lt_of_lt_of_le hB2.lt hkc.1))).trans hkp
  have HP := Hp.start w_20
  refine H.valI 75 (.bool (!bb)) (by kernel_rfl) (by kernel_rfl) fun a H => ?_
  refine wpListIn_nil ?_
  refine then_normal ?_
  refine w_if H rfl (fun g75 => ?_) (fun g75 => ?_)
  ·have g75p := not_is_true g75
   refine wp_ret (then_ret (inb_ret (then_ret (then_ret (inb_ret ?_)))))
   refine H.ret0 (fn := Tryz.f85) Tryz.results85  ?_
   exact ⟨⟨_, rfl⟩, .inr ⟨_, hjf g75p⟩⟩
  have g75p := not_is_false g75
  refine wp_skip (then_normal (w_region ?_))
  refine H.go HP 2 [(76, (.string (bstr s))), (77, (ii n))] [] fun a H => H.u 78 (.string (bstr (s.drop n))) (ex_ssliceL (k := .i64) (l := s) (i := (n : Int)) (a := n) (by kernel_rfl) (by kernel_rfl) (by kernel_rfl) (by omega) (by omega)) fun a H => ?_
  refine H.ge HP [(4, (.string (bstr (s.drop n))))] [] fun a H => ?_
  refine inb_normal (then_normal (w_region ?_))
  refine H.go HP 1 [(20, (ii j))] [] fun a H => H.wi 21 ((j : Int) + 1) fun a H => ?_
  refine H.ge HP [(5, (ii ((j : Int) + 1)))] [] fun a H => ?_
  refine then_normal ?_
  have H := H.as 5 (ii ((j + 1 : Nat) : Int)) rfl rfl
  have H := H.as 4 (.string (bstr (S.drop (59 * (j + 1))))) rfl (congrArg (fun l => Value.string (bstr l)) (drop_next hs hn12 hn3))
  refine ⟨_, ?_, j + 1, pre ++ [⟨pktAt S ch fr N j, pktAt_len hj2⟩], rfl, H.keep (by kernel_rfl), HP, by omega, (by rw [List.map_append, hpre, List.range_succ, List.map_append]; rfl), hjt g75p, hkc2⟩
  omega
 have g19p := of_decide_eq_false g19
 refine wp_exit (then_exit (then_exit ?_))
 refine w_exit_here ?_
 refine H.end0 (fn := Tryz.f85) Tryz.results85  ?_
 obtain rfl : j = N := by omega
 exact ⟨⟨_, rfl⟩, .inl ⟨pre, hpre, hjs⟩⟩
theorem packets_any (r u : Array Value) (w : World) :
    Calls Tryz.prog 51 #[.agg r, .agg u] w fun e w' => e = .returned (.func (.func 85) #[] #[.pointer (some ⟨w.heap.size, 0, none⟩), .pointer (some ⟨w.heap.size + 1, 0, none⟩)]) ∧ w' = (w.alloc (.cells r 58)).alloc (.cells u 76) := by
  go_enter Tryz.func51, Tryz.ntmps51
  go_wp2
  go_ret
  simp
theorem packets_seq (n : Nat) (Br Bu : Nat) (rn rd : Int) (u : Un) (w : World) (hL : Laid w) (hrv : rateOk rn rd = true) (hu : IsAlts w u.A u.al.length u.al) (hv : validU u = true)
    (hB1 : Box w Br 58 #[.int .i64 rn, .int .i64 rd]) (hB2 : Box w Bu 76 u.cells) :
    SeqO Fence.wide n Tryz.prog 85 #[.pointer (some ⟨Br, 0, none⟩), .pointer (some ⟨Bu, 0, none⟩)] (fun x : Pk => #[.agg (Lib.byteCells x.1).toArray]) (KpU Bu) (fun ys => ys.map (·.1) = pktsU rn rd u) (fun _ => True) (pktN (streamU rn rd u)) w := fun l J Jx W hW _ hJ hJx hY h0 =>
  callsIn_wide.2 ((packets1_any (n - 1) l Br Bu rn rd u J Jx W (hL.below hW) hrv (hu.below hW) hv (hB1.next hW) (hB2.next hW) hJ h0 (fun pre x W1 hj hl => by
    obtain ⟨fn, tm, asg, bo, hy, hR⟩ := hY pre x W1 hj hl
    refine ⟨fn, tm, asg, bo, hy, hR.mono fun e W' h => ?_⟩
    rcases h with ⟨rfl, h1, h2⟩ | ⟨rfl, h1, h2⟩
    · exact ⟨true, rfl, fun _ => h1, fun h => (by cases h), h2⟩
    · exact ⟨false, rfl, fun h => (by cases h), fun _ => h1, h2⟩)).mono fun e W' h => ⟨h.1, h.2.imp id fun ⟨pre, h⟩ => ⟨pre, trivial, h⟩⟩)
end Go.Proofs.YthpbaaadkhdifaaGreatDoor
