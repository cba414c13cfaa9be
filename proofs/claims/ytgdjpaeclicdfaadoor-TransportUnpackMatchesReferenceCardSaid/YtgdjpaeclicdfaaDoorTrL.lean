/- Plain laws of the packed unit: its packets byte by byte; unpacking, examining what was packed. -/
import Derived.Test.YtgdjpaeclicdfaaDoorTrJ
import Derived.Test.YtgdjpaeclicdfaaDoorOptPlT
namespace Go.Proofs.YtgdjpaeclicdfaaDoor
open Go.ChangeShapes Go.WideShapes Go.ChangeAt Go.RowKit
set_option linter.unusedVariables false
set_option linter.unusedSimpArgs false

theorem flat_drop64 : ∀ {L : List (List UInt8)} {j : Nat} {x : List UInt8}, (∀ y ∈ L, y.length = 64) → L[j]? = some x → L.flatten.drop (64 * j) = x ++ (L.drop (j + 1)).flatten
  | [], j, x, _, h => by simp at h
  | y :: L, 0, x, _, h => by simp at h; subst h; simp
  | y :: L, j + 1, x, hl, h => by
    have hy := hl y (List.mem_cons_self ..)
    rw [List.flatten_cons, show 64 * (j + 1) = y.length + 64 * j by omega, List.drop_length_add_append]
    exact flat_drop64 (fun z hz => hl z (List.mem_cons_of_mem _ hz)) (by simpa using h)
theorem flat_len64 : ∀ {L : List (List UInt8)}, (∀ y ∈ L, y.length = 64) → L.flatten.length = 64 * L.length
  | [], _ => rfl
  | y :: L, hl => by
    have hy := hl y (List.mem_cons_self ..)
    have := flat_len64 (L := L) fun z hz => hl z (List.mem_cons_of_mem _ hz)
    rw [List.flatten_cons, List.length_append, List.length_cons]; omega
theorem pktN_bd (S : List UInt8) : 59 * pktN S < S.length + 59 ∧ S.length ≤ 59 * pktN S := by unfold pktN; omega
def pkL (S : List UInt8) (ch fr : Nat) : List (List UInt8) := (List.range (pktN S)).map (pktAt S ch fr (pktN S))
theorem pkL_len (S : List UInt8) (ch fr : Nat) : ∀ y ∈ pkL S ch fr, y.length = 64 := by
  intro y hy
  unfold pkL at hy
  obtain ⟨j, hj, rfl⟩ := List.mem_map.1 hy
  have := List.mem_range.1 hj
  have := pktN_bd S
  exact pktAt_len (by omega)
theorem pkL_flat (S : List UInt8) (ch fr : Nat) : (pkL S ch fr).flatten.length = 64 * pktN S := by
  rw [flat_len64 (pkL_len S ch fr)]
  simp [pkL]
theorem pkL_drop {S : List UInt8} {ch fr j : Nat} (hj : j < pktN S) : (pkL S ch fr).flatten.drop (64 * j) = pktAt S ch fr (pktN S) j ++ ((pkL S ch fr).drop (j + 1)).flatten :=
  flat_drop64 (pkL_len S ch fr) (by simp [pkL, hj])
/-- A byte of packet j. -/
theorem pkL_get {S : List UInt8} {ch fr j k : Nat} (hj : j < pktN S) (hk : k < 64) : (pkL S ch fr).flatten.getD (64 * j + k) 0 = (pktAt S ch fr (pktN S) j).getD k 0 := by
  have hl : (pktAt S ch fr (pktN S) j).length = 64 := pktAt_len (by have := pktN_bd S; omega)
  rw [← dropGetD, pkL_drop hj]
  simp only [List.getD, List.getElem?_append_left (show k < (pktAt S ch fr (pktN S) j).length by omega)]
theorem pk_0 {S : List UInt8} {ch fr j : Nat} (hj : j < pktN S) : (pkL S ch fr).flatten.getD (64 * j + 0) 0 = 71 := (pkL_get hj (by omega)).trans rfl
theorem pk_1 {S : List UInt8} {ch fr j : Nat} (hj : j < pktN S) : (pkL S ch fr).flatten.getD (64 * j + 1) 0 = UInt8.ofNat ch := (pkL_get hj (by omega)).trans rfl
theorem pk_2 {S : List UInt8} {ch fr j : Nat} (hj : j < pktN S) : (pkL S ch fr).flatten.getD (64 * j + 2) 0 = UInt8.ofNat (16 * (fr % 16) + j % 16) := (pkL_get hj (by omega)).trans rfl
theorem pk_3 {S : List UInt8} {ch fr j : Nat} (hj : j < pktN S) : (pkL S ch fr).flatten.getD (64 * j + 3) 0 = UInt8.ofNat (flagsP (pktN S) j) := (pkL_get hj (by omega)).trans rfl
theorem pk_4 {S : List UInt8} {ch fr j : Nat} (hj : j < pktN S) : (pkL S ch fr).flatten.getD (64 * j + 4) 0 = UInt8.ofNat (min 59 (S.length - 59 * j)) := (pkL_get hj (by omega)).trans rfl
theorem pkt_tail (S : List UInt8) (ch fr N j k : Nat) : (pktAt S ch fr N j).getD (5 + k) 0 = ((S.drop (59 * j)).take 59 ++ List.replicate (59 - (S.length - 59 * j)) 255).getD k 0 := by
  unfold pktAt
  rw [List.append_assoc, Nat.add_comm 5 k]
  rfl
theorem pk_pay {S : List UInt8} {ch fr j k : Nat} (hj : j < pktN S) (hk : k < min 59 (S.length - 59 * j)) : (pkL S ch fr).flatten.getD (64 * j + (5 + k)) 0 = S.getD (59 * j + k) 0 := by
  rw [pkL_get hj (by omega), pkt_tail]
  simp only [List.getD]
  rw [List.getElem?_append_left (by rw [List.length_take, List.length_drop]; omega), List.getElem?_take_of_lt (by omega), List.getElem?_drop]
theorem pk_pad {S : List UInt8} {ch fr j k : Nat} (hj : j < pktN S) (hk : min 59 (S.length - 59 * j) ≤ k) (hk2 : k < 59) : (pkL S ch fr).flatten.getD (64 * j + (5 + k)) 0 = 255 := by
  rw [pkL_get hj (by omega), pkt_tail]
  simp only [List.getD]
  have h1 : ((S.drop (59 * j)).take 59).length = min 59 (S.length - 59 * j) := by rw [List.length_take, List.length_drop]
  rw [List.getElem?_append_right (by omega), List.getElem?_replicate, if_pos (by omega)]
  rfl
theorem toNat_of {n : Nat} (h : n < 256) : (UInt8.ofNat n).toNat = n := ofNat_toNat h
theorem flagsP_lt (N j : Nat) : flagsP N j < 4 := by unfold flagsP; split <;> split <;> omega
/-- What the packets carry is the stream. -/
theorem payN_pk {S : List UInt8} {ch fr j : Nat} (hj : j < pktN S) : payN (pkL S ch fr).flatten j = min 59 (S.length - 59 * j) := by
  unfold payN
  rw [pk_4 hj, toNat_of (by omega)]
theorem ext_getD {a b : List UInt8} (hl : a.length = b.length) (h : ∀ i, i < a.length → a.getD i 0 = b.getD i 0) : a = b := by
  apply List.ext_getElem hl
  intro i h1 h2
  have := h i h1
  simp only [List.getD, List.getElem?_eq_getElem h1, List.getElem?_eq_getElem h2, Option.getD_some] at this
  exact this
theorem payAt_pk {S : List UInt8} {ch fr j : Nat} (hj : j < pktN S) : payAt (pkL S ch fr).flatten j = (S.drop (59 * j)).take 59 := by
  have hN := pktN_bd S
  have hL := pkL_flat S ch fr
  unfold payAt
  rw [payN_pk hj]
  refine ext_getD (by simp only [List.length_take, List.length_drop]; omega) fun i hi => ?_
  simp only [List.length_take, List.length_drop] at hi
  have h1 := pk_pay (ch := ch) (fr := fr) hj (k := i) (by omega)
  simp only [List.getD] at h1 ⊢
  rw [List.getElem?_take_of_lt (by omega), List.getElem?_take_of_lt (by omega), List.getElem?_drop, List.getElem?_drop]
  rw [show 64 * j + 5 + i = 64 * j + (5 + i) by omega]
  exact h1
theorem payTo_pk {S : List UInt8} {ch fr : Nat} : ∀ {j : Nat}, j ≤ pktN S → payTo (pkL S ch fr).flatten j = S.take (59 * j)
  | 0, _ => by simp [payTo]
  | j + 1, hj => by
    rw [payTo_succ, payTo_pk (by omega), payAt_pk (by omega), Nat.mul_add, List.take_add]
theorem stream_pk (S : List UInt8) (ch fr : Nat) (h : 1 ≤ S.length) : streamP (pkL S ch fr).flatten = some S := by
  have hN := pktN_bd S
  have hL := pkL_flat S ch fr
  have hd : (pkL S ch fr).flatten.length / 64 = pktN S := by omega
  unfold streamP
  rw [hd, if_neg, payTo_pk (Nat.le_refl _), List.take_of_length_le (by omega)]
  rintro (h | h | h)
  · omega
  · omega
  · have : payOk (pkL S ch fr).flatten (pktN S) = true := by
      unfold payOk
      rw [List.all_eq_true]
      intro i hi
      have := List.mem_range.1 hi
      rw [payN_pk this]
      simp
      omega
    rw [this] at h; cases h
theorem exam_pk (S : List UInt8) (ch fr : Nat) (h : 1 ≤ S.length) (hc : ch < 256) : examineP (pkL S ch fr).flatten = some (ch, fr % 16) := by
  have hN := pktN_bd S
  have hL := pkL_flat S ch fr
  have hd : (pkL S ch fr).flatten.length / 64 = pktN S := by omega
  have h1 := pk_1 (S := S) (ch := ch) (fr := fr) (j := 0) (by omega)
  have h2 := pk_2 (S := S) (ch := ch) (fr := fr) (j := 0) (by omega)
  simp only [Nat.mul_zero, Nat.zero_add] at h1 h2
  unfold examineP
  rw [hd, if_neg, h1, h2, toNat_of hc, toNat_of (by omega)]
  · congr 2; omega
  · rintro (h | h | h)
    · omega
    · omega
    · have : exOk (pkL S ch fr).flatten (pktN S) (pktN S) = true := by
        unfold exOk
        rw [List.all_eq_true]
        intro i hi
        have hi := List.mem_range.1 hi
        unfold headOk
        have hf := flagsP_lt (pktN S) i
        rw [decide_eq_true_eq, pk_0 hi, pk_1 hi, pk_2 hi, pk_3 hi, h1, h2, toNat_of hc, toNat_of (by omega), toNat_of (by omega), toNat_of (by omega)]
        refine ⟨rfl, rfl, rfl, ?_, ?_⟩ <;> omega
      rw [this] at h; cases h
/-! ### Reading the body -/
theorem at_enc {s r x : List UInt8} {k : Nat} (hk : k ≤ s.length) (h : s.drop k = x ++ r) : s = s.take k ++ x ++ r ∧ (s.take k).length = k ∧ k + x.length ≤ s.length ∧ s.drop (k + x.length) = r := by
  have e : s = s.take k ++ x ++ r := by rw [List.append_assoc, ← h, List.take_append_drop]
  have hl : (s.take k).length = k := by rw [List.length_take]; omega
  have hlen : s.length - k = x.length + r.length := by have := congrArg List.length h; simpa using this
  refine ⟨e, hl, by omega, ?_⟩
  rw [← List.drop_drop, h, List.drop_left]
theorem rnum_at {s r : List UInt8} {k : Nat} {n : Int} (h : k ≤ s.length ∧ s.drop k = encInt n ++ r) (h1 : -wmax ≤ n) (h2 : n ≤ wmax) : ∃ k', rnum s (k, false) = (n, (k', false)) ∧ k' ≤ s.length ∧ s.drop k' = r := by
  obtain ⟨e, hl, hle, hd⟩ := at_enc h.1 h.2
  refine ⟨k + (encInt n).length, ?_, hle, hd⟩
  have := rdInt_enc (s.take k) r n h1 h2
  rw [← e, hl] at this
  unfold rnum
  rw [if_neg (by simp)]
  simp only [this]
theorem rtxt_at {s r t : List UInt8} {k : Nat} (h : k ≤ s.length ∧ s.drop k = encStr t ++ r) (ht : t.length ≤ 65536) : ∃ k', rtxt s (k, false) = (t, (k', false)) ∧ k' ≤ s.length ∧ s.drop k' = r := by
  unfold encStr at h
  rw [List.append_assoc] at h
  obtain ⟨e, hl, hle, hd⟩ := at_enc h.1 h.2
  have hi := rdInt_enc (s.take k) (t ++ r) ((t.length : Nat) : Int) (by unfold wmax; omega) (by unfold wmax; omega)
  rw [← e, hl] at hi
  obtain ⟨e2, hl2, hle2, hd2⟩ := at_enc hle hd
  refine ⟨k + (encInt ((t.length : Nat) : Int)).length + t.length, ?_, hle2, hd2⟩
  unfold rtxt rdStr
  rw [if_neg (by simp)]
  simp only [hi]
  rw [if_neg (by omega)]
  simp only [Int.toNat_natCast, hd, List.take_left]
theorem wf_le {n : Int} (h0 : 0 ≤ n) (h1 : n ≤ 4611686018427387903) : -wmax ≤ n ∧ n ≤ wmax := by unfold wmax; omega
def bareU (u : Un) : Un := { u with A := none, c := 0 }
/-- Whatever stands ahead of the content of a valid unit and behind it: the reader reads the unit. -/
theorem readU_code {c t : List UInt8} {u : Un} (hc : c.length = 5) (hv : validU u = true) : readU (c ++ (contentP u ++ t)) = (bareU u, false, 0) := by
  obtain ⟨hf, ho⟩ := validU_facts hv
  obtain ⟨f1, f2, f3, f4, f5, f6, f7, f8, f9, f10, f11, f12, f13, f14, f15, f16⟩ := hf
  have hol := encOpt_len ho
  obtain ⟨s, hs⟩ : ∃ s, c ++ (contentP u ++ t) = s := ⟨_, rfl⟩
  have h0 : 5 ≤ s.length ∧ s.drop 5 = encInt u.channel ++ (encInt u.frame ++ (encInt u.version ++ (encInt u.item ++ (encInt u.index ++ (encInt (if u.key = true then 1 else 0) ++ (encStr u.data ++ (encInt u.regions ++ (encInt u.gain ++ (encStr u.caption ++ (encStr (encOpt u.os u.of u.al) ++ t)))))))))) := by
    subst hs
    refine ⟨by rw [List.length_append]; omega, ?_⟩
    rw [← hc, List.drop_left]
    simp [contentP, encInts]
  obtain ⟨k1, e1, h1⟩ := rnum_at h0 (wf_le (by omega) (by omega)).1 (wf_le (by omega) (by omega)).2
  obtain ⟨k2, e2, h2⟩ := rnum_at h1 (wf_le (by omega) (by omega)).1 (wf_le (by omega) (by omega)).2
  obtain ⟨k3, e3, h3⟩ := rnum_at h2 (wf_le (by omega) (by omega)).1 (wf_le (by omega) (by omega)).2
  obtain ⟨k4, e4, h4⟩ := rnum_at h3 (wf_le (by omega) (by omega)).1 (wf_le (by omega) (by omega)).2
  obtain ⟨k5, e5, h5⟩ := rnum_at h4 (wf_le (by omega) (by omega)).1 (wf_le (by omega) (by omega)).2
  obtain ⟨k6, e6, h6⟩ := rnum_at h5 (wf_le (by split <;> omega) (by split <;> omega)).1 (wf_le (by split <;> omega) (by split <;> omega)).2
  obtain ⟨k7, e7, h7⟩ := rtxt_at h6 (by omega)
  obtain ⟨k8, e8, h8⟩ := rnum_at h7 (wf_le (by omega) (by omega)).1 (wf_le (by omega) (by omega)).2
  obtain ⟨k9, e9, h9⟩ := rnum_at h8 (wf_le (by omega) (by omega)).1 (wf_le (by omega) (by omega)).2
  obtain ⟨k10, e10, h10⟩ := rtxt_at h9 (by omega)
  obtain ⟨k11, e11, h11⟩ := rtxt_at h10 (by omega)
  rw [hs]
  unfold readU bareU
  simp only [e1, e2, e3, e4, e5, e6, e7, e8, e9, e10, e11, dec_enc ho]
  have hk : ((if u.key = true then 1 else 0 : Int) == 1) = u.key := by cases u.key <;> rfl
  rw [hk]
theorem packP_some {rn rd : Int} {u : Un} {l : List UInt8} (h : packP rn rd u = some l) : rateOk rn rd = true ∧ validU u = true ∧ l = (pkL (streamU rn rd u) u.channel.toNat u.frame.toNat).flatten := by
  unfold packP at h
  split at h
  · next hc =>
    rw [Bool.and_eq_true] at hc
    cases h
    exact ⟨hc.1, hc.2, rfl⟩
  · cases h
theorem packP_bare (rn rd : Int) (u : Un) : packP rn rd (bareU u) = packP rn rd u := rfl
theorem streamU_pos (rn rd : Int) (u : Un) : 5 ≤ (streamU rn rd u).length := by
  have h8 : (clockP (ticksP rn rd u.frame).toNat).length = 5 := rfl
  unfold streamU
  rw [List.length_append]; omega
theorem streamU_eq (rn rd : Int) (u : Un) : streamU rn rd u = clockP (ticksP rn rd u.frame).toNat ++ (contentP u ++ encInt ((sumP (contentP u) : Nat) : Int)) := rfl
theorem unpack_pack {rn rd : Int} {u : Un} {l : List UInt8} (h : packP rn rd u = some l) : unpackP rn rd l = some (bareU u) := by
  obtain ⟨hr, hv, rfl⟩ := packP_some h
  have hp := streamU_pos rn rd u
  exact unpack_ok (stream_pk _ _ _ (by omega)) (by rw [streamU_eq]; exact readU_code rfl hv) hp rfl rfl h
theorem pack_unpack {rn rd : Int} {u : Un} {l : List UInt8} (h : unpackP rn rd l = some u) : packP rn rd u = some l := by
  unfold unpackP at h
  split at h
  · cases h
  · split at h
    · cases h
    · split at h
      · cases h
      · split at h
        · next hp => cases h; exact hp
        · cases h
theorem pack_len {rn rd : Int} {u : Un} {l : List UInt8} (h : packP rn rd u = some l) : l.length = 64 * pktN (streamU rn rd u) ∧ 1 ≤ pktN (streamU rn rd u) ∧ pktN (streamU rn rd u) ≤ 13 := by
  obtain ⟨hr, hv, rfl⟩ := packP_some h
  exact ⟨pkL_flat _ _ _, pktN_pos, pktN_le hv⟩
theorem pack_exam {rn rd : Int} {u : Un} {l : List UInt8} (h : packP rn rd u = some l) : examineP l = some (u.channel.toNat, u.frame.toNat % 16) := by
  obtain ⟨hr, hv, rfl⟩ := packP_some h
  have hp := streamU_pos rn rd u
  obtain ⟨hf, _⟩ := validU_facts hv
  exact exam_pk _ _ _ (by omega) (by omega)
/-- Equal packed units are of the same unit. -/
theorem pack_inj {rn rd : Int} {u v : Un} {l : List UInt8} (h : packP rn rd u = some l) (k : packP rn rd v = some l) : bareU u = bareU v :=
  Option.some.inj ((unpack_pack h).symm.trans (unpack_pack k))
theorem same_bare (u v : Un) : sameU u v = true ↔ bareU u = bareU v := by
  obtain ⟨a1, a2, a3, a4, a5, a6, a7, a8, a9, a10, a11, a12, a13, a14, a15⟩ := u
  obtain ⟨b1, b2, b3, b4, b5, b6, b7, b8, b9, b10, b11, b12, b13, b14, b15⟩ := v
  simp only [sameU, bareU, sameP, Bool.and_eq_true, beq_iff_eq, decide_eq_true_eq, Un.mk.injEq, true_and]
end Go.Proofs.YtgdjpaeclicdfaaDoor
