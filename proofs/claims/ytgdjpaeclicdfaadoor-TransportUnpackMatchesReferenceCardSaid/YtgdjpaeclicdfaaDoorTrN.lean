/- Plain law of damage: if one byte of a packed unit is changed, it is not accepted. -/
import Derived.Test.YtgdjpaeclicdfaaDoorTrM
import Derived.Test.YtgdjpaeclicdfaaDoorTrC
namespace Go.Proofs.YtgdjpaeclicdfaaDoor
open Go.ChangeShapes Go.WideShapes Go.ChangeAt Go.RowKit
set_option linter.unusedVariables false
set_option linter.unusedSimpArgs false

/-! ### The last byte of a code -/
theorem vput_mid : ∀ (f z : Nat) (E F : List Nat) (y : Nat), vput f z = E ++ y :: F → F ≠ [] → 128 ≤ y ∧ y < 256
  | 0, z, E, F, y, h, hF => by cases E <;> cases h
  | f + 1, z, E, F, y, h, hF => by
    unfold vput at h
    split at h
    · cases E with
      | nil => simp only [List.nil_append, List.cons.injEq] at h; exact absurd h.2.symm hF
      | cons e E => simp at h
    · cases E with
      | nil => simp only [List.nil_append, List.cons.injEq] at h; omega
      | cons e E =>
        simp only [List.cons_append, List.cons.injEq] at h
        exact vput_mid f _ E F y h.2 hF
theorem vput_last : ∀ (f z : Nat), z < 128 ^ f → 0 < f → ∃ E y, vput f z = E ++ [y] ∧ y < 128
  | 0, z, _, h => by omega
  | f + 1, z, hz, _ => by
    unfold vput
    split
    · next h => exact ⟨[], z, rfl, h⟩
    · next h =>
      have h1 : z / 128 < 128 ^ f := by rw [Nat.pow_succ] at hz; exact Nat.div_lt_of_lt_mul (by rw [Nat.mul_comm]; exact hz)
      have hf : 0 < f := by
        rcases Nat.eq_zero_or_pos f with rfl | h'
        · simp at hz; omega
        · exact h'
      obtain ⟨E, y, e, hy⟩ := vput_last f (z / 128) h1 hf
      exact ⟨(z % 128 + 128) :: E, y, by rw [e]; rfl, hy⟩
theorem enc_mid {n : Int} {E F : List UInt8} {y : UInt8} (h : encInt n = E ++ y :: F) (hF : F ≠ []) : 128 ≤ y.toNat := by
  unfold encInt at h
  obtain ⟨l1, l2, e, h1, h2⟩ := List.map_eq_append_iff.1 h
  obtain ⟨a, l3, e2, h3, h4⟩ := List.map_eq_cons_iff.1 h2
  have := vput_mid 9 (zig n) l1 l3 a (by rw [e, e2]) (fun e3 => hF (by rw [← h4, e3]; rfl))
  rw [← h3, toNat_of this.2]
  exact this.1
theorem enc_last {n : Int} (h1 : -wmax ≤ n) (h2 : n ≤ wmax) : ∃ E y, encInt n = E ++ [y] ∧ y.toNat < 128 := by
  have hz : zig n < 128 ^ 9 := by unfold zig; unfold wmax at h1 h2; split <;> omega
  obtain ⟨E, y, e, hy⟩ := vput_last 9 (zig n) hz (by omega)
  exact ⟨E.map UInt8.ofNat, UInt8.ofNat y, by unfold encInt; rw [e]; simp, by rw [toNat_of (by omega)]; exact hy⟩
theorem encInts_last : ∀ {zs : List Int}, InW zs → zs ≠ [] → ∃ E y, encInts zs = E ++ [y] ∧ y.toNat < 128
  | [], _, h => absurd rfl h
  | [z], hz, _ => by
    obtain ⟨h1, h2⟩ := hz z (List.mem_cons_self ..)
    obtain ⟨E, y, e, hy⟩ := enc_last h1 h2
    exact ⟨E, y, by simp [encInts, e], hy⟩
  | z :: x :: zs, hz, _ => by
    obtain ⟨E, y, e, hy⟩ := encInts_last (zs := x :: zs) (fun a ha => hz a (List.mem_cons_of_mem _ ha)) (by simp)
    refine ⟨encInt z ++ E, y, ?_, hy⟩
    have : encInts (z :: x :: zs) = encInt z ++ encInts (x :: zs) := by simp [encInts]
    rw [this, e, List.append_assoc]
theorem opt_last {s f : Int} {al : Alts} (h : validP s f al = true) : ∃ E y, encOpt s f al = E ++ [y] ∧ y.toNat < 128 := by
  obtain ⟨h1, h2, h3, h4⟩ := valid_facts h
  refine encInts_last (zs := [s, f, (al.length : Int)] ++ flatA al) (fun z hz => ?_) (by simp)
  rcases List.mem_append.1 hz with hz | hz
  · simp only [List.mem_cons, List.not_mem_nil, or_false] at hz
    unfold wmax
    rcases hz with rfl | rfl | rfl <;> omega
  · exact flat_inW h4 z hz
theorem content_last {u : Un} (hv : validU u = true) : ∃ E y, contentP u = E ++ [y] ∧ y.toNat < 128 := by
  obtain ⟨_, ho⟩ := validU_facts hv
  obtain ⟨E, y, e, hy⟩ : ∃ E y, encOpt u.os u.of u.al = E ++ [y] ∧ y.toNat < 128 := opt_last ho
  refine ⟨encInts [u.channel, u.frame, u.version, u.item, u.index, if u.key = true then 1 else 0] ++ encStr u.data ++ encInts [u.regions, u.gain] ++ encStr u.caption ++ (encInt (((encOpt u.os u.of u.al).length : Nat) : Int) ++ E), y, ?_, hy⟩
  unfold contentP
  rw [show encStr (encOpt u.os u.of u.al) = encInt (((encOpt u.os u.of u.al).length : Nat) : Int) ++ encOpt u.os u.of u.al from rfl]
  conv => lhs; rw [show encInt (((encOpt u.os u.of u.al).length : Nat) : Int) ++ encOpt u.os u.of u.al = (encInt (((encOpt u.os u.of u.al).length : Nat) : Int) ++ E) ++ [y] by rw [List.append_assoc, ← e]]
  rw [← List.append_assoc]
/-! ### Two readings of one list -/
theorem two_reads {u v : Un} {S c c' t t' : List UInt8} (hu : validU u = true) (hv : validU v = true) (hc : c.length = 5) (hc' : c'.length = 5) (h : S = c ++ (contentP u ++ t)) (k : S = c' ++ (contentP v ++ t')) : bareU u = bareU v := by
  have h1 := readU_code (t := t) hc hu
  have h2 := readU_code (t := t') hc' hv
  rw [← h] at h1
  rw [← k, h1] at h2
  exact congrArg Prod.fst h2
theorem app_split {a b c d : List UInt8} (h : a ++ b = c ++ d) (hl : a.length ≤ c.length) : ∃ e, c = a ++ e ∧ b = e ++ d := by
  rcases List.append_eq_append_iff.1 h with ⟨e, h1, h2⟩ | ⟨e, h1, h2⟩
  · exact ⟨e, h1, h2⟩
  · have : e = [] := by
      have := congrArg List.length h1
      rw [List.length_append] at this
      exact List.length_eq_zero_iff.1 (by omega)
    subst this
    exact ⟨[], by simpa using h1.symm, by simpa using h2.symm⟩
theorem app_split_lt {a b c d : List UInt8} {x : UInt8} (h : a ++ b = c ++ x :: d) (hl : c.length < a.length) : ∃ e, a = c ++ x :: e ∧ d = e ++ b := by
  obtain ⟨e, h1, h2⟩ := app_split h.symm (by omega)
  cases e with
  | nil => rw [h1] at hl; simp at hl
  | cons y e =>
    simp only [List.cons_append, List.cons.injEq] at h2
    obtain ⟨rfl, h2⟩ := h2
    exact ⟨e, h1, h2⟩
/-- The code of the sum is shorter on one side: then a content ends within the other's sum. -/
theorem sum_short {v : Un} {n n' : Int} {A D D' B : List UInt8} {x : UInt8} (hv : validU v = true) (hC : contentP v = A ++ x :: D') (h : B = D ++ encInt n) (k : B = D' ++ encInt n') (hl : D.length < D'.length) : False := by
  obtain ⟨E, e1, e2⟩ := app_split (h.symm.trans k) (by omega)
  obtain ⟨C0, y, e3, hy⟩ := content_last hv
  have hE : E ≠ [] := fun e => by subst e; rw [e1] at hl; simp at hl
  obtain ⟨E0, z, rfl⟩ : ∃ E0 z, E = E0 ++ [z] := ⟨E.dropLast, E.getLast hE, (List.dropLast_concat_getLast hE).symm⟩
  have hz : z = y := by
    have : contentP v = (A ++ x :: (D ++ E0)) ++ [z] := by rw [hC, e1]; simp
    rw [e3] at this
    exact (List.append_inj' this rfl).2 |> fun h => by simpa using h.symm
  have := enc_mid (n := n) (E := E0) (F := encInt n') (y := z) (by rw [e2]; simp) (fun e => by have := (encInt_len n').1; rw [e] at this; simp at this)
  rw [hz] at this
  omega
theorem encInt_inj {m n : Nat} (hm : m < 4294967296) (hn : n < 4294967296) (h : encInt ((m : Nat) : Int) = encInt ((n : Nat) : Int)) : m = n := by
  have h1 := rdInt_enc [] [] ((m : Nat) : Int) (by unfold wmax; omega) (by unfold wmax; omega)
  have h2 := rdInt_enc [] [] ((n : Nat) : Int) (by unfold wmax; omega) (by unfold wmax; omega)
  rw [h, h2] at h1
  simp only [Option.some.injEq, Prod.mk.injEq] at h1
  omega
/-- Streams of valid units that differ in one byte are of the same unit: so they do not differ. -/
theorem one_byte {rn rd : Int} {u v : Un} {A B : List UInt8} {b x : UInt8} (hu : validU u = true) (hv : validU v = true) (h : streamU rn rd u = A ++ b :: B) (k : streamU rn rd v = A ++ x :: B) (hbx : b ≠ x) : bareU u = bareU v := by
  rw [streamU_eq] at h k
  obtain ⟨c, hc⟩ : ∃ c, clockP (ticksP rn rd u.frame).toNat = c := ⟨_, rfl⟩
  obtain ⟨c', hc'⟩ : ∃ c, clockP (ticksP rn rd v.frame).toNat = c := ⟨_, rfl⟩
  have l1 : c.length = 5 := by rw [← hc]; rfl
  have l2 : c'.length = 5 := by rw [← hc']; rfl
  rw [hc] at h
  rw [hc'] at k
  by_cases hA : A.length < 5
  · obtain ⟨e, h1, h2⟩ := app_split_lt h (by omega)
    obtain ⟨e', k1, k2⟩ := app_split_lt k (by omega)
    have el : e.length = e'.length := by
      have := congrArg List.length h1; have := congrArg List.length k1
      simp only [List.length_append, List.length_cons] at *; omega
    have hE := (List.append_inj (h2.symm.trans k2) el).2
    exact two_reads (S := c ++ (contentP u ++ encInt ((sumP (contentP u) : Nat) : Int))) hu hv l1 l1 rfl (by rw [hE])
  · obtain ⟨A', h1, h2⟩ := app_split h (by omega)
    obtain ⟨A2, k1, k2⟩ := app_split k (by omega)
    have hcc : c = c' ∧ A' = A2 := List.append_inj (h1.symm.trans k1) (by omega)
    obtain ⟨rfl, rfl⟩ := hcc
    by_cases hC : (contentP u).length ≤ A'.length
    · obtain ⟨e, e1, e2⟩ := app_split h2 hC
      refine two_reads (S := c ++ (contentP v ++ encInt ((sumP (contentP v) : Nat) : Int))) (t := e ++ x :: B) hu hv l1 l1 ?_ rfl
      rw [k2, e1, List.append_assoc]
    · by_cases hC' : (contentP v).length ≤ A'.length
      · obtain ⟨e, e1, e2⟩ := app_split k2 hC'
        refine two_reads (S := c ++ (contentP u ++ encInt ((sumP (contentP u) : Nat) : Int))) (t' := e ++ b :: B) hu hv l1 l1 rfl ?_
        rw [h2, e1, List.append_assoc]
      · obtain ⟨D, d1, d2⟩ := app_split_lt h2 (by omega)
        obtain ⟨D', d3, d4⟩ := app_split_lt k2 (by omega)
        rcases Nat.lt_trichotomy D.length D'.length with hlt | heq | hgt
        · exact (sum_short hv d3 d2 d4 hlt).elim
        · obtain ⟨rfl, hV⟩ := List.append_inj (d2.symm.trans d4) heq
          have hs := encInt_inj (sumP_lt _) (sumP_lt _) hV
          rw [d1, d3] at hs
          exact absurd (sum_one hs) hbx
        · exact (sum_short hu d1 d4 d2 hgt).elim
/-! ### The packets -/
theorem setGet {l : List UInt8} {p q : Nat} {x : UInt8} (h : q ≠ p) : (l.set p x).getD q 0 = l.getD q 0 := by
  simp only [List.getD, List.getElem?_set_ne (Ne.symm h)]
theorem set_getD {l : List UInt8} {p : Nat} (h : p < l.length) : l.set p (l.getD p 0) = l := by
  simp only [List.getD, List.getElem?_eq_getElem h, Option.getD_some, List.set_getElem_self]
theorem damaged_law {rn rd : Int} {u : Un} {l : List UInt8} (h : packP rn rd u = some l) {p : Nat} {x : UInt8} (hp : p < l.length) (hx : l.getD p 0 ≠ x) : unpackP rn rd (l.set p x) = none := none_of fun v hv' => by
  have h' := pack_unpack hv'
  obtain ⟨hlen, hn1, hn13⟩ := pack_len h
  obtain ⟨hlen', _, _⟩ := pack_len h'
  obtain ⟨_, hu, hlu⟩ := packP_some h
  obtain ⟨_, hv, hlv⟩ := packP_some h'
  have hsame : bareU u = bareU v → False := fun e => by
    have : packP rn rd u = packP rn rd v := by rw [← packP_bare, e, packP_bare]
    rw [h, h'] at this
    have := congrArg (fun o : Option (List UInt8) => (o.getD []).getD p 0) this
    simp only [Option.getD_some] at this
    rw [this] at hx
    exact hx (by simp [List.getD, List.getElem?_set_self hp])
  obtain ⟨S, hS⟩ : ∃ S, streamU rn rd u = S := ⟨_, rfl⟩
  obtain ⟨T, hT⟩ : ∃ T, streamU rn rd v = T := ⟨_, rfl⟩
  rw [hS] at hlen hn1 hn13 hlu
  rw [hT] at hlen' hlv
  rw [List.length_set] at hlen'
  have hNN : pktN T = pktN S := by omega
  have bS := pktN_bd S
  have bT := pktN_bd T
  obtain ⟨N, hN⟩ : ∃ N, pktN S = N := ⟨_, rfl⟩
  rw [hN] at hlen hn1 hn13 hNN bS
  rw [hNN] at bT
  -- bytes of both, where they are unchanged
  have get : ∀ q, q ≠ p → (pkL T v.channel.toNat v.frame.toNat).flatten.getD q 0 = (pkL S u.channel.toNat u.frame.toNat).flatten.getD q 0 := fun q hq => by rw [← hlu, ← hlv, setGet hq]
  have getp : (pkL T v.channel.toNat v.frame.toNat).flatten.getD p 0 = x := by rw [← hlv]; simp [List.getD, List.getElem?_set_self hp]
  rw [hlu] at hx
  -- bytes of the streams
  have pay : ∀ i, i < S.length → i < T.length → 64 * (i / 59) + (5 + i % 59) ≠ p → T.getD i 0 = S.getD i 0 := fun i h1 h2 hne => by
    have a := pk_pay (S := S) (ch := u.channel.toNat) (fr := u.frame.toNat) (j := i / 59) (k := i % 59) (by omega) (by omega)
    have b := pk_pay (S := T) (ch := v.channel.toNat) (fr := v.frame.toNat) (j := i / 59) (k := i % 59) (by omega) (by omega)
    rw [show 59 * (i / 59) + i % 59 = i by omega] at a b
    rw [← a, ← b, get _ hne]
  have sz : p % 64 ≠ 4 → T.length = S.length := fun hk => by
    have a := pk_4 (S := S) (ch := u.channel.toNat) (fr := u.frame.toNat) (j := N - 1) (by omega)
    have b := pk_4 (S := T) (ch := v.channel.toNat) (fr := v.frame.toNat) (j := N - 1) (by omega)
    rw [get _ (by omega), a] at b
    have := congrArg UInt8.toNat b
    rw [toNat_of (by omega), toNat_of (by omega)] at this
    omega
  have pre : ∀ {X Y : List UInt8}, X.length ≤ Y.length → (∀ i, i < X.length → Y.getD i 0 = X.getD i 0) → ∃ t, Y = X ++ t := fun {X Y} hle hh => by
    refine ⟨Y.drop X.length, ?_⟩
    have : Y.take X.length = X := ext_getD (by rw [List.length_take]; omega) fun i hi => by
      rw [List.length_take] at hi
      rw [takeGetD (by omega), hh i (by omega)]
    conv => lhs; rw [← List.take_append_drop X.length Y, this]
  have rdS : ∀ t, S ++ t = clockP (ticksP rn rd u.frame).toNat ++ (contentP u ++ (encInt ((sumP (contentP u) : Nat) : Int) ++ t)) := fun t => by rw [← hS, streamU_eq]; simp
  have rdT : ∀ t, T ++ t = clockP (ticksP rn rd v.frame).toNat ++ (contentP v ++ (encInt ((sumP (contentP v) : Nat) : Int) ++ t)) := fun t => by rw [← hT, streamU_eq]; simp
  have hpre : (∃ t, T = S ++ t) → False := fun ⟨t, e⟩ => hsame (two_reads (S := T) hu hv rfl rfl (e.trans (rdS t)) ((List.append_nil T).symm.trans (rdT [])))
  have hpre' : (∃ t, S = T ++ t) → False := fun ⟨t, e⟩ => hsame (two_reads (S := S) hu hv rfl rfl ((List.append_nil S).symm.trans (rdS [])) (e.trans (rdT t)))
  obtain ⟨j, k, hjk, hk⟩ : ∃ j k, p = 64 * j + k ∧ k < 64 := ⟨p / 64, p % 64, by omega, by omega⟩
  have hj : j < N := by omega
  by_cases h5 : k < 5
  · rcases Nat.le_total S.length T.length with hle | hle
    · exact hpre (pre hle fun i hi => pay i hi (by omega) (by omega))
    · exact hpre' (pre hle fun i hi => (pay i (by omega) hi (by omega)).symm)
  · have hsz := sz (by omega)
    by_cases hm : min 59 (S.length - 59 * j) ≤ k - 5
    · have a := pk_pad (S := S) (ch := u.channel.toNat) (fr := u.frame.toNat) (j := j) (k := k - 5) (by omega) hm (by omega)
      have b := pk_pad (S := T) (ch := v.channel.toNat) (fr := v.frame.toNat) (j := j) (k := k - 5) (by omega) (by omega) (by omega)
      rw [show 64 * j + (5 + (k - 5)) = p by omega] at a b
      rw [getp] at b
      rw [a, b] at hx
      exact hx rfl
    · have a := pk_pay (S := S) (ch := u.channel.toNat) (fr := u.frame.toNat) (j := j) (k := k - 5) (by omega) (by omega)
      have b := pk_pay (S := T) (ch := v.channel.toNat) (fr := v.frame.toNat) (j := j) (k := k - 5) (by omega) (by omega)
      rw [show 64 * j + (5 + (k - 5)) = p by omega] at a b
      rw [getp] at b
      obtain ⟨i, hi⟩ : ∃ i, 59 * j + (k - 5) = i := ⟨_, rfl⟩
      rw [hi] at a b
      have his : i < S.length := by omega
      have eT : T = S.set i x := ext_getD (by rw [List.length_set]; exact hsz) fun q hq => by
        by_cases hqi : q = i
        · subst hqi
          rw [← b]
          simp [List.getD, List.getElem?_set_self his]
        · rw [setGet hqi]
          exact pay q (by omega) hq (by omega)
      have e1 : S = S.take i ++ S.getD i 0 :: S.drop (i + 1) := by
        simp only [List.getD, List.getElem?_eq_getElem his, Option.getD_some]
        rw [List.getElem_cons_drop, List.take_append_drop]
      have e2 : T = S.take i ++ x :: S.drop (i + 1) := by rw [eT, List.set_eq_take_append_cons_drop, if_pos his]
      refine hsame (one_byte hu hv (hS.trans e1) (hT.trans e2) ?_)
      rw [← a]
      exact hx
end Go.Proofs.YtgdjpaeclicdfaaDoor
