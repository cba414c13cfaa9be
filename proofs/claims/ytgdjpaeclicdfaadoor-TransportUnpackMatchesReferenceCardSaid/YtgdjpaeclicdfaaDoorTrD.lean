/- Contracts of transport: Valid, clock, body. -/
import Derived.Test.YtgdjpaeclicdfaaDoorTrB
import Derived.Test.YtgdjpaeclicdfaaDoorBldF
import Derived.Test.YtgdjpaeclicdfaaDoorOptRefT
namespace Go.Proofs.YtgdjpaeclicdfaaDoor
open Go.ChangeShapes Go.WideShapes Go.ChangeAt Go.RowKit
set_option linter.unusedVariables false
set_option linter.unusedSimpArgs false

/-- A unit as it lies in memory. -/
structure Un where
 channel : Int
 frame : Int
 version : Int
 item : Int
 index : Int
 key : Bool
 data : List UInt8
 regions : Int
 gain : Int
 caption : List UInt8
 os : Int
 of : Int
 A : Option Addr
 c : Nat
 al : Alts
abbrev Un.cells (u : Un) : Array Value := #[.int .i64 u.channel, .int .i64 u.frame, .int .i64 u.version, .int .i64 u.item, .int .i64 u.index, .bool u.key, .string (bstr u.data), .int .i64 u.regions, .int .i64 u.gain, .string (bstr u.caption), .int .i64 u.os, .int .i64 u.of, .slice u.A u.al.length u.c]
abbrev Un.val (u : Un) : Value := .agg u.cells
abbrev ua (u : Un) (B : Option Addr) (c : Nat) : Array Value := #[.int .i64 u.channel, .int .i64 u.frame, .int .i64 u.version, .int .i64 u.item, .int .i64 u.index, .bool u.key, .string (bstr u.data), .int .i64 u.regions, .int .i64 u.gain, .string (bstr u.caption), .int .i64 u.os, .int .i64 u.of, .slice B u.al.length c]
abbrev ul (u : Un) (B : Option Addr) (c : Nat) : List Value := [.int .i64 u.channel, .int .i64 u.frame, .int .i64 u.version, .int .i64 u.item, .int .i64 u.index, .bool u.key, .string (bstr u.data), .int .i64 u.regions, .int .i64 u.gain, .string (bstr u.caption), .int .i64 u.os, .int .i64 u.of, .slice B u.al.length c]
def fieldsP (u : Un) : Prop := 0 ≤ u.channel ∧ u.channel < 40 ∧ 0 ≤ u.frame ∧ u.frame ≤ 100000000 ∧ 0 ≤ u.index ∧ u.index ≤ 100000000 ∧ 0 ≤ u.version ∧ u.version ≤ 4611686018427387903 ∧ 0 ≤ u.item ∧ u.item ≤ 4611686018427387903 ∧ u.data.length ≤ 400 ∧ u.caption.length = 3 ∧ 0 ≤ u.regions ∧ u.regions ≤ 255 ∧ 250 ≤ u.gain ∧ u.gain ≤ 4000
instance (u : Un) : Decidable (fieldsP u) := by unfold fieldsP; infer_instance
def fieldsOk (u : Un) : Bool := decide (0 ≤ u.channel ∧ u.channel < 40 ∧ 0 ≤ u.frame ∧ u.frame ≤ 100000000 ∧ 0 ≤ u.index ∧ u.index ≤ 100000000 ∧ 0 ≤ u.version ∧ u.version ≤ 4611686018427387903 ∧ 0 ≤ u.item ∧ u.item ≤ 4611686018427387903 ∧ u.data.length ≤ 400 ∧ u.caption.length = 3 ∧ 0 ≤ u.regions ∧ u.regions ≤ 255 ∧ 250 ≤ u.gain ∧ u.gain ≤ 4000)
def validU (u : Un) : Bool := fieldsOk u && validP u.os u.of u.al
theorem validU_facts {u : Un} (h : validU u = true) : (0 ≤ u.channel ∧ u.channel < 40 ∧ 0 ≤ u.frame ∧ u.frame ≤ 100000000 ∧ 0 ≤ u.index ∧ u.index ≤ 100000000 ∧ 0 ≤ u.version ∧ u.version ≤ 4611686018427387903 ∧ 0 ≤ u.item ∧ u.item ≤ 4611686018427387903 ∧ u.data.length ≤ 400 ∧ u.caption.length = 3 ∧ 0 ≤ u.regions ∧ u.regions ≤ 255 ∧ 250 ≤ u.gain ∧ u.gain ≤ 4000) ∧ validP u.os u.of u.al = true := by
 unfold validU fieldsOk at h
 rw [Bool.and_eq_true, decide_eq_true_eq] at h
 exact h
theorem encOpt_len {s f : Int} {al : Alts} (h : validP s f al = true) : (encOpt s f al).length ≤ 200 := by
 have h1 := encInts_len ([s, f, (al.length : Int)] ++ flatA al)
 have h2 : (flatA al).length = 2 * al.length := by
  clear h h1
  induction al with
  | nil => rfl
  | cons a al ih => simp only [flatA, List.flatMap_cons, List.length_append, List.length_cons, List.length_nil] at *; omega
 have h3 : al.length ≤ 7 := by
  unfold validP noneP at h
  simp only [Bool.or_eq_true, Bool.and_eq_true, Bool.not_eq_true', Bool.or_eq_false_iff, decide_eq_false_iff_not, beq_iff_eq] at h
  omega
 unfold encOpt
 simp only [List.length_append, List.length_cons, List.length_nil] at *
 omega
/-- The words of a unit, and its body. -/
def contentP (u : Un) : List UInt8 := encInts [u.channel, u.frame, u.version, u.item, u.index, if u.key = true then 1 else 0] ++ encStr u.data ++ encInts [u.regions, u.gain] ++ encStr u.caption ++ encStr (encOpt u.os u.of u.al)
def bodyP (u : Un) : List UInt8 := contentP u ++ encInt ((sumP (contentP u) : Nat) : Int)
theorem bodyP_eq {u : Un} {kz : Int} (h : kz = if u.key = true then 1 else 0) :
  (Ending.returned (.string (bstr ([] ++ encInts [u.channel, u.frame, u.version, u.item, u.index, kz] ++ encStr u.data ++ encInts [u.regions, u.gain] ++ encStr u.caption ++ encStr (encOpt u.os u.of u.al) ++ encInts [((sumP ([] ++ encInts [u.channel, u.frame, u.version, u.item, u.index, kz] ++ encStr u.data ++ encInts [u.regions, u.gain] ++ encStr u.caption ++ encStr (encOpt u.os u.of u.al)) : Nat) : Int)])))) = .returned (.string (bstr (bodyP u))) := by
 subst h
 unfold bodyP contentP
 simp only [List.nil_append, encInts, List.flatMap_cons, List.flatMap_nil, List.append_nil]
/-- The clock's five bytes. -/
def clockP (t : Nat) : List UInt8 := [UInt8.ofNat (t / 2 ^ 32 % 256), UInt8.ofNat (t / 2 ^ 24 % 256), UInt8.ofNat (t / 2 ^ 16 % 256), UInt8.ofNat (t / 2 ^ 8 % 256), UInt8.ofNat (t / 2 ^ 0 % 256)]
theorem clock_rd {w : World} {b t : Nat} {tt : TypeId} (h : Box w b tt [Value.int .u8 ((t / 2 ^ 32 % 256 : Nat) : Int), .int .u8 ((t / 2 ^ 24 % 256 : Nat) : Int), .int .u8 ((t / 2 ^ 16 % 256 : Nat) : Int), .int .u8 ((t / 2 ^ 8 % 256 : Nat) : Int), .int .u8 ((t / 2 ^ 0 % 256 : Nat) : Int)].toArray) : Rd w 1 (some ⟨b, 0, none⟩) 5 (Lib.byteCells (clockP t)) := by
 have h1 : ∀ n : Nat, (UInt8.ofNat (n % 256)).toNat = n % 256 := fun n => ofNat_toNat (Nat.mod_lt _ (by omega))
 have := Rd.of_box (n := 5) h rfl
 simpa only [Lib.byteCells, clockP, List.map_cons, List.map_nil, h1] using this
theorem wrap_u8_nat (n : Nat) : IntKind.u8.wrap ((n : Nat) : Int) = ((n % 256 : Nat) : Int) := by
 simp only [IntKind.wrap, IntKind.bits, IntKind.signed, Bool.false_and, Bool.false_eq_true, if_false]
 omega
section
variable {P : Program} {ρ : Operand → Value} {w : World} {t e : TypeId} {x y : Operand} {dst : Option Tmp} {ty : TypeId} {pos : String} {af : Array Edge} {g : Option (Nat × Bool)} {n : Nat}
theorem ex_b2sR {src td : TypeId} {b off c m : Nat} {l : List UInt8} (hx : ρ x = .slice (some ⟨b, off, none⟩) m c) (hr : Rd w 1 (some ⟨b, off, none⟩) m (Lib.byteCells l)) (hs : P.underlying src = some (.slice e)) (he : P.underlying e = some (.int .u8)) (hd : P.underlying td = some .string) :
  (execOp ρ ⟨dst, .convert src td x, ty, pos, af, g⟩).run P w = .ok (.value (.string (bstr l))) w := by
 have hl : l.length = m := by have := hr.1; simpa [Lib.byteCells] using this
 subst hl
 have hc : ∀ j (hj : j < l.length), w.cell? ((⟨b, off, none⟩ : Addr).add j) = some (.int .u8 (l[j].toNat : Int)) := by
  intro j hj
  rcases hr.2 with h0 | ⟨b', o', h1, _, h3⟩
  ·omega
  ·cases h1
   rw [add_plain, h3 j (by omega)]
   simp [Lib.byteCells, hj]
 have := run_convert_bytes_back (P := P) w src td e ⟨b, off, none⟩ c l hs he hd hc
 simp only [execOp, hx, this, Sem.run_bind, Result.andThen_ok, Sem.run_pure]
/-- a[:] of an array -/
theorem ex_arrslice {b off : Nat} (hx : ρ x = .pointer (some ⟨b, off, none⟩)) (hu : P.underlying t = some (.array n e)) (hn : 0 < n) {sz : Nat} (hs : sizeB P e = some sz) :
  (execOp ρ ⟨dst, .slice t x none none none, ty, pos, af, g⟩).run P w = .ok (.value (.slice (some ⟨b, off, none⟩) n n)) w := by
 have h2 : P.arrayLen t = n := by simp [Program.arrayLen, hu]
 have h3 : P.elem t = e := by simp [Program.elem, hu]
 have hu' : P.underlying t = some (.array (P.arrayLen t) (P.elem t)) := by rw [h2, h3]; exact hu
 have := run_sliceAt_array_all (P := P) w t ⟨b, off, none⟩ hu'
 rw [h2, h3, run_sizeOf hs] at this
 simp only [execOp, hx, Option.map_none, this, Sem.run_bind, Result.andThen_ok, Sem.run_pure, slicedAt]
 rw [if_neg (by omega)]
 simp [add_plain]
end
theorem take_int {zs : List Int} {j : Nat} (h : j < zs.length) : zs.take (j + 1) = zs.take j ++ [zs.getD j 0] := by
 rw [List.take_add_one, List.getElem?_eq_getElem h]
 simp [List.getD, List.getElem?_eq_getElem h]
theorem int_mem {zs : List Int} {j : Nat} (h : j < zs.length) : zs.getD j 0 ∈ zs := by simp [List.getD, List.getElem?_eq_getElem h]
theorem ints_getD {zs : List Int} {j : Nat} (h : j < zs.length) : (ints zs)[j]? = some (.int .i64 (zs.getD j 0)) := by simp [ints, List.getD, List.getElem?_eq_getElem h]
/-! ### A builder that is handed in -/
def bldV (v0 : Value) (base b : Nat) (v : Value) (bs : List UInt8) : HB := ⟨fun k => (k = b ∨ v.ownBlock = some k) ∨ v0.ownBlock = some k, (bldR base b v bs).F, false⟩
theorem bldV_ok (v0 : Value) (base b : Nat) (v : Value) (bs : List UInt8) : (bldV v0 base b v bs).ok := fun w1 w2 h hk hs => bldG_ok _ _ _ _ _ _ w1 w2 h (fun k hf => hk k (.inl hf)) hs
theorem Hp.takeBld {w : World} {base b : Nat} {v : Value} {bs : List UInt8} (h : (bldR base b v bs).F w) : Hp w w [bldV v base b v bs] [] :=
 (Hp.start w).add (bldV v base b v bs) h (bldV_ok _ _ _ _ _) (fun k hk => bldG_lt h k (hk.elim id fun h => .inr h)) (fun _ _ => ⟨(fun _ h => by cases h), (fun _ h => by cases h)⟩) fun h => by cases h
theorem Hp.wroteV {w0 w w' : World} {L : List HB} {K : List FK} (H : Hp w0 w L K) (i : Nat) {base b : Nat} {v0 v v' : Value} {bs bs' : List UInt8} (hi : L[i]? = some (bldV v0 base b v bs)) (L' : List HB) (hL : L.set i (bldV v0 base b v' bs') = L') (hF : (bldR base b v' bs').F w') (hag : Agree w w' (bldR base b v bs).fp) (hv : ∀ k, v'.ownBlock = some k → v.ownBlock = some k ∨ w.heap.size ≤ k) (hvv : ∀ k, v.ownBlock = some k → v0.ownBlock = some k ∨ w0.heap.size ≤ k) : Hp w0 w' L' K := by
 have hr := (H.res _ (List.mem_of_getElem? hi)).2.2
 refine H.mut i hi _ L' hL ⟨hag.os, hag.tape, hag.output, hag.size, fun k hk hf => hag.block k hk fun h => hf (.inl h)⟩ hF (bldV_ok _ _ _ _ _) (fun k hk => ?_) (fun k hk => ?_) (fun k hk hx => ?_) rfl
 ·rcases hk with hk | hk
  ·exact bldG_lt hF k hk
  ·exact Nat.lt_of_lt_of_le (hr k (.inr hk)) hag.size
 ·rcases hk with (hk | hk) | hk
  ·exact .inl (.inl (.inl hk))
  ·rcases hv k hk with h | h
   ·exact .inl (.inl (.inr h))
   ·exact .inr h
  ·exact .inl (.inr hk)
 ·rcases hx with (hx | hx) | hx
  ·exact .inl (.inl hx)
  ·rcases hvv k hx with h | h
   ·exact .inr h
   ·omega
  ·exact .inr hx
theorem Hp.endBld {w w' : World} {K : List FK} {base b : Nat} {v0 v : Value} {bs bs' : List UInt8} (H : Hp w w' [bldV v0 base b v bs'] K) (hvv : ∀ k, v.ownBlock = some k → v0.ownBlock = some k ∨ w.heap.size ≤ k) : Agree w w' (bldR base b v0 bs).fp :=
 ⟨H.os, H.tape, H.output, H.size, fun k hk hf => H.old k hk fun x hx => by
  simp only [List.mem_singleton] at hx
  subst hx
  rintro ((h | h) | h)
  ·exact hf (.inl h)
  ·rcases hvv k h with h' | h'
   ·exact hf (.inr h')
   ·omega
  ·exact hf (.inr h)⟩
set_option maxRecDepth 100000 in
set_option maxHeartbeats 4000000 in
theorem uvalid_any (u : Un) (w : World) (hu : IsAlts w u.A u.al.length u.al) (hm : u.al.length ≤ maxLen) :
  Calls Tryd.prog 18 #[u.val] w fun e w' => e = .returned (.bool (validU u)) ∧ Below w.heap.size w w' := by
 have HP := Hp.start w
 refine w_enter 82 [(0, (.agg (ua u u.A u.c)))] Tryd.func18 rfl Tryd.ntmps18 (by kernel_rfl) (by kernel_rfl) fun a H => ?_
 refine wp_seq (w_region ?_)
 refine H.alloc HP 1 (fun b => (.pointer (some ⟨b, 0, none⟩))) 28 (ul u u.A u.c) (by kernel_rfl) (fun w => by kernel_rfl) fun b_1 w_2 a H HP => ?_
 refine H.v 2 (.bool false) fun a H => ?_
 refine wpList_nil (then_normal (wp_seq (wp_block (wp_seq (w_region ?_)))))
 refine H.v 4 (.pointer (some ⟨b_1, 0, none⟩)) fun a H => ?_
 refine H.u 5 (.int .i64 u.channel) (ex_load1 (by kernel_rfl) (by kernel_rfl) (HP.cell 0 rfl 0 rfl)) fun a H => ?_
 refine H.v 6 (.bool (decide (u.channel < 0))) fun a H => ?_
 refine H.v 7 (.bool (decide (u.channel < 0))) fun a H => ?_
 refine H.split 7 rfl (fun g7 H => ?_) (fun g7 H => ?_)
 ·have g7p := of_decide_eq_true g7
  refine H.s 8 fun a H => ?_
  refine H.s 9 fun a H => ?_
  refine H.s 10 fun a H => ?_
  refine H.v 11 (.bool true) fun a H => ?_
  refine H.v 3 (.bool true) fun a H => ?_
  refine wpList_nil (then_normal ?_)
  refine w_ift H rfl ?_
  refine wp_seq (w_region ?_)
  refine H.v 2 (.bool false) fun a H => ?_
  refine wpList_nil (then_normal (wp_ret (inb_ret (then_ret ?_))))
  refine H.ret1 (fn := Tryd.f18) Tryd.results18 (RV.tmp_ (v := (.bool false)) (by kernel_rfl)) ?_
  exact ⟨by unfold validU; rw [show fieldsOk u = false from decide_eq_false (by omega)]; rfl, (HP.below (by kernel_rfl))⟩
 ·have g7p := of_decide_eq_false g7
  refine H.v 8 (.pointer (some ⟨b_1, 0, none⟩)) fun a H => ?_
  refine H.u 9 (.int .i64 u.channel) (ex_load1 (by kernel_rfl) (by kernel_rfl) (HP.cell 0 rfl 0 rfl)) fun a H => ?_
  refine H.v 10 (.bool (decide (u.channel ≥ 40))) fun a H => ?_
  refine H.v 11 (.bool (decide (u.channel ≥ 40))) fun a H => ?_
  refine H.v 3 (.bool (decide (u.channel ≥ 40))) fun a H => ?_
  refine wpList_nil (then_normal ?_)
  refine w_if H rfl (fun g3 => ?_) (fun g3 => ?_)
  ·have g3p := of_decide_eq_true g3
   refine wp_seq (w_region ?_)
   refine H.v 2 (.bool false) fun a H => ?_
   refine wpList_nil (then_normal (wp_ret (inb_ret (then_ret ?_))))
   refine H.ret1 (fn := Tryd.f18) Tryd.results18 (RV.tmp_ (v := (.bool false)) (by kernel_rfl)) ?_
   exact ⟨by unfold validU; rw [show fieldsOk u = false from decide_eq_false (by omega)]; rfl, (HP.below (by kernel_rfl))⟩
  ·have g3p := of_decide_eq_false g3
   refine wp_seq (w_region ?_)
   refine H.v 13 (.pointer (some ⟨b_1, 1, none⟩)) fun a H => ?_
   refine H.u 14 (.int .i64 u.frame) (ex_load1 (by kernel_rfl) (by kernel_rfl) (HP.cell 0 rfl 1 rfl)) fun a H => ?_
   refine H.v 15 (.bool (decide (u.frame < 0))) fun a H => ?_
   refine H.v 16 (.bool (decide (u.frame < 0))) fun a H => ?_
   refine H.split 16 rfl (fun g16 H => ?_) (fun g16 H => ?_)
   ·have g16p := of_decide_eq_true g16
    refine H.s 17 fun a H => ?_
    refine H.s 18 fun a H => ?_
    refine H.s 19 fun a H => ?_
    refine H.v 20 (.bool true) fun a H => ?_
    refine H.v 21 (.bool true) fun a H => ?_
    refine H.s 22 fun a H => ?_
    refine H.s 23 fun a H => ?_
    refine H.s 24 fun a H => ?_
    refine H.v 25 (.bool true) fun a H => ?_
    refine H.v 26 (.bool true) fun a H => ?_
    refine H.s 27 fun a H => ?_
    refine H.s 28 fun a H => ?_
    refine H.s 29 fun a H => ?_
    refine H.v 30 (.bool true) fun a H => ?_
    refine H.v 12 (.bool true) fun a H => ?_
    refine wpList_nil ?_
    have H := H.keep (L' := [(12, (.bool true)), (3, (.bool (decide (u.channel ≥ 40)))), (11, (.bool (decide (u.channel ≥ 40)))), (10, (.bool (decide (u.channel ≥ 40)))), (9, (.int .i64 u.channel)), (8, (.pointer (some ⟨b_1, 0, none⟩))), (7, (.bool false)), (6, (.bool (decide (u.channel < 0)))), (5, (.int .i64 u.channel)), (4, (.pointer (some ⟨b_1, 0, none⟩))), (2, (.bool false)), (1, (.pointer (some ⟨b_1, 0, none⟩))), (0, (.agg (ua u u.A u.c)))]) (by kernel_rfl)
    refine then_normal ?_
    refine w_ift H rfl ?_
    refine wp_seq (w_region ?_)
    refine H.v 2 (.bool false) fun a H => ?_
    refine wpList_nil (then_normal (wp_ret (inb_ret (then_ret ?_))))
    refine H.ret1 (fn := Tryd.f18) Tryd.results18 (RV.tmp_ (v := (.bool false)) (by kernel_rfl)) ?_
    exact ⟨by unfold validU; rw [show fieldsOk u = false from decide_eq_false (by omega)]; rfl, (HP.below (by kernel_rfl))⟩
   ·have g16p := of_decide_eq_false g16
    refine H.v 17 (.pointer (some ⟨b_1, 1, none⟩)) fun a H => ?_
    refine H.u 18 (.int .i64 u.frame) (ex_load1 (by kernel_rfl) (by kernel_rfl) (HP.cell 0 rfl 1 rfl)) fun a H => ?_
    refine H.v 19 (.bool (decide (u.frame > 100000000))) fun a H => ?_
    refine H.v 20 (.bool (decide (u.frame > 100000000))) fun a H => ?_
    refine H.v 21 (.bool (decide (u.frame > 100000000))) fun a H => ?_
    refine H.split 21 rfl (fun g21 H => ?_) (fun g21 H => ?_)
    ·have g21p := of_decide_eq_true g21
     refine H.s 22 fun a H => ?_
     refine H.s 23 fun a H => ?_
     refine H.s 24 fun a H => ?_
     refine H.v 25 (.bool true) fun a H => ?_
     refine H.v 26 (.bool true) fun a H => ?_
     refine H.s 27 fun a H => ?_
     refine H.s 28 fun a H => ?_
     refine H.s 29 fun a H => ?_
     refine H.v 30 (.bool true) fun a H => ?_
     refine H.v 12 (.bool true) fun a H => ?_
     refine wpList_nil ?_
     have H := H.keep (L' := [(12, (.bool true)), (3, (.bool (decide (u.channel ≥ 40)))), (11, (.bool (decide (u.channel ≥ 40)))), (10, (.bool (decide (u.channel ≥ 40)))), (9, (.int .i64 u.channel)), (8, (.pointer (some ⟨b_1, 0, none⟩))), (7, (.bool false)), (6, (.bool (decide (u.channel < 0)))), (5, (.int .i64 u.channel)), (4, (.pointer (some ⟨b_1, 0, none⟩))), (2, (.bool false)), (1, (.pointer (some ⟨b_1, 0, none⟩))), (0, (.agg (ua u u.A u.c)))]) (by kernel_rfl)
     refine then_normal ?_
     refine w_ift H rfl ?_
     refine wp_seq (w_region ?_)
     refine H.v 2 (.bool false) fun a H => ?_
     refine wpList_nil (then_normal (wp_ret (inb_ret (then_ret ?_))))
     refine H.ret1 (fn := Tryd.f18) Tryd.results18 (RV.tmp_ (v := (.bool false)) (by kernel_rfl)) ?_
     exact ⟨by unfold validU; rw [show fieldsOk u = false from decide_eq_false (by omega)]; rfl, (HP.below (by kernel_rfl))⟩
    ·have g21p := of_decide_eq_false g21
     refine H.v 22 (.pointer (some ⟨b_1, 4, none⟩)) fun a H => ?_
     refine H.u 23 (.int .i64 u.index) (ex_load1 (by kernel_rfl) (by kernel_rfl) (HP.cell 0 rfl 4 rfl)) fun a H => ?_
     refine H.v 24 (.bool (decide (u.index < 0))) fun a H => ?_
     refine H.v 25 (.bool (decide (u.index < 0))) fun a H => ?_
     refine H.v 26 (.bool (decide (u.index < 0))) fun a H => ?_
     refine H.split 26 rfl (fun g26 H => ?_) (fun g26 H => ?_)
     ·have g26p := of_decide_eq_true g26
      refine H.s 27 fun a H => ?_
      refine H.s 28 fun a H => ?_
      refine H.s 29 fun a H => ?_
      refine H.v 30 (.bool true) fun a H => ?_
      refine H.v 12 (.bool true) fun a H => ?_
      refine wpList_nil ?_
      have H := H.keep (L' := [(12, (.bool true)), (3, (.bool (decide (u.channel ≥ 40)))), (11, (.bool (decide (u.channel ≥ 40)))), (10, (.bool (decide (u.channel ≥ 40)))), (9, (.int .i64 u.channel)), (8, (.pointer (some ⟨b_1, 0, none⟩))), (7, (.bool false)), (6, (.bool (decide (u.channel < 0)))), (5, (.int .i64 u.channel)), (4, (.pointer (some ⟨b_1, 0, none⟩))), (2, (.bool false)), (1, (.pointer (some ⟨b_1, 0, none⟩))), (0, (.agg (ua u u.A u.c)))]) (by kernel_rfl)
      refine then_normal ?_
      refine w_ift H rfl ?_
      refine wp_seq (w_region ?_)
      refine H.v 2 (.bool false) fun a H => ?_
      refine wpList_nil (then_normal (wp_ret (inb_ret (then_ret ?_))))
      refine H.ret1 (fn := Tryd.f18) Tryd.results18 (RV.tmp_ (v := (.bool false)) (by kernel_rfl)) ?_
      exact ⟨by unfold validU; rw [show fieldsOk u = false from decide_eq_false (by omega)]; rfl, (HP.below (by kernel_rfl))⟩
     ·have g26p := of_decide_eq_false g26
      refine H.v 27 (.pointer (some ⟨b_1, 4, none⟩)) fun a H => ?_
      refine H.u 28 (.int .i64 u.index) (ex_load1 (by kernel_rfl) (by kernel_rfl) (HP.cell 0 rfl 4 rfl)) fun a H => ?_
      refine H.v 29 (.bool (decide (u.index > 100000000))) fun a H => ?_
      refine H.v 30 (.bool (decide (u.index > 100000000))) fun a H => ?_
      refine H.v 12 (.bool (decide (u.index > 100000000))) fun a H => ?_
      refine wpList_nil ?_
      have H := H.keep (L' := [(12, (.bool (decide (u.index > 100000000)))), (3, (.bool (decide (u.channel ≥ 40)))), (11, (.bool (decide (u.channel ≥ 40)))), (10, (.bool (decide (u.channel ≥ 40)))), (9, (.int .i64 u.channel)), (8, (.pointer (some ⟨b_1, 0, none⟩))), (7, (.bool false)), (6, (.bool (decide (u.channel < 0)))), (5, (.int .i64 u.channel)), (4, (.pointer (some ⟨b_1, 0, none⟩))), (2, (.bool false)), (1, (.pointer (some ⟨b_1, 0, none⟩))), (0, (.agg (ua u u.A u.c)))]) (by kernel_rfl)
      refine then_normal ?_
      refine w_if H rfl (fun g12 => ?_) (fun g12 => ?_)
      ·have g12p := of_decide_eq_true g12
       refine wp_seq (w_region ?_)
       refine H.v 2 (.bool false) fun a H => ?_
       refine wpList_nil (then_normal (wp_ret (inb_ret (then_ret ?_))))
       refine H.ret1 (fn := Tryd.f18) Tryd.results18 (RV.tmp_ (v := (.bool false)) (by kernel_rfl)) ?_
       exact ⟨by unfold validU; rw [show fieldsOk u = false from decide_eq_false (by omega)]; rfl, (HP.below (by kernel_rfl))⟩
      ·have g12p := of_decide_eq_false g12
       refine wp_seq (w_region ?_)
       refine H.v 32 (.pointer (some ⟨b_1, 2, none⟩)) fun a H => ?_
       refine H.u 33 (.int .i64 u.version) (ex_load1 (by kernel_rfl) (by kernel_rfl) (HP.cell 0 rfl 2 rfl)) fun a H => ?_
       refine H.v 34 (.bool (decide (u.version < 0))) fun a H => ?_
       refine H.v 35 (.bool (decide (u.version < 0))) fun a H => ?_
       refine H.split 35 rfl (fun g35 H => ?_) (fun g35 H => ?_)
       ·have g35p := of_decide_eq_true g35
        refine H.s 36 fun a H => ?_
        refine H.s 37 fun a H => ?_
        refine H.s 38 fun a H => ?_
        refine H.v 39 (.bool true) fun a H => ?_
        refine H.v 40 (.bool true) fun a H => ?_
        refine H.s 41 fun a H => ?_
        refine H.s 42 fun a H => ?_
        refine H.s 43 fun a H => ?_
        refine H.v 44 (.bool true) fun a H => ?_
        refine H.v 45 (.bool true) fun a H => ?_
        refine H.s 46 fun a H => ?_
        refine H.s 47 fun a H => ?_
        refine H.s 48 fun a H => ?_
        refine H.v 49 (.bool true) fun a H => ?_
        refine H.v 31 (.bool true) fun a H => ?_
        refine wpList_nil ?_
        have H := H.keep (L' := [(31, (.bool true)), (12, (.bool (decide (u.index > 100000000)))), (3, (.bool (decide (u.channel ≥ 40)))), (11, (.bool (decide (u.channel ≥ 40)))), (10, (.bool (decide (u.channel ≥ 40)))), (9, (.int .i64 u.channel)), (8, (.pointer (some ⟨b_1, 0, none⟩))), (7, (.bool false)), (6, (.bool (decide (u.channel < 0)))), (5, (.int .i64 u.channel)), (4, (.pointer (some ⟨b_1, 0, none⟩))), (2, (.bool false)), (1, (.pointer (some ⟨b_1, 0, none⟩))), (0, (.agg (ua u u.A u.c)))]) (by kernel_rfl)
        refine then_normal ?_
        refine w_ift H rfl ?_
        refine wp_seq (w_region ?_)
        refine H.v 2 (.bool false) fun a H => ?_
        refine wpList_nil (then_normal (wp_ret (inb_ret (then_ret ?_))))
        refine H.ret1 (fn := Tryd.f18) Tryd.results18 (RV.tmp_ (v := (.bool false)) (by kernel_rfl)) ?_
        exact ⟨by unfold validU; rw [show fieldsOk u = false from decide_eq_false (by omega)]; rfl, (HP.below (by kernel_rfl))⟩
       ·have g35p := of_decide_eq_false g35
        refine H.v 36 (.pointer (some ⟨b_1, 2, none⟩)) fun a H => ?_
        refine H.u 37 (.int .i64 u.version) (ex_load1 (by kernel_rfl) (by kernel_rfl) (HP.cell 0 rfl 2 rfl)) fun a H => ?_
        refine H.v 38 (.bool (decide (u.version > 4611686018427387903))) fun a H => ?_
        refine H.v 39 (.bool (decide (u.version > 4611686018427387903))) fun a H => ?_
        refine H.v 40 (.bool (decide (u.version > 4611686018427387903))) fun a H => ?_
        refine H.split 40 rfl (fun g40 H => ?_) (fun g40 H => ?_)
        ·have g40p := of_decide_eq_true g40
         refine H.s 41 fun a H => ?_
         refine H.s 42 fun a H => ?_
         refine H.s 43 fun a H => ?_
         refine H.v 44 (.bool true) fun a H => ?_
         refine H.v 45 (.bool true) fun a H => ?_
         refine H.s 46 fun a H => ?_
         refine H.s 47 fun a H => ?_
         refine H.s 48 fun a H => ?_
         refine H.v 49 (.bool true) fun a H => ?_
         refine H.v 31 (.bool true) fun a H => ?_
         refine wpList_nil ?_
         have H := H.keep (L' := [(31, (.bool true)), (12, (.bool (decide (u.index > 100000000)))), (3, (.bool (decide (u.channel ≥ 40)))), (11, (.bool (decide (u.channel ≥ 40)))), (10, (.bool (decide (u.channel ≥ 40)))), (9, (.int .i64 u.channel)), (8, (.pointer (some ⟨b_1, 0, none⟩))), (7, (.bool false)), (6, (.bool (decide (u.channel < 0)))), (5, (.int .i64 u.channel)), (4, (.pointer (some ⟨b_1, 0, none⟩))), (2, (.bool false)), (1, (.pointer (some ⟨b_1, 0, none⟩))), (0, (.agg (ua u u.A u.c)))]) (by kernel_rfl)
         refine then_normal ?_
         refine w_ift H rfl ?_
         refine wp_seq (w_region ?_)
         refine H.v 2 (.bool false) fun a H => ?_
         refine wpList_nil (then_normal (wp_ret (inb_ret (then_ret ?_))))
         refine H.ret1 (fn := Tryd.f18) Tryd.results18 (RV.tmp_ (v := (.bool false)) (by kernel_rfl)) ?_
         exact ⟨by unfold validU; rw [show fieldsOk u = false from decide_eq_false (by omega)]; rfl, (HP.below (by kernel_rfl))⟩
        ·have g40p := of_decide_eq_false g40
         refine H.v 41 (.pointer (some ⟨b_1, 3, none⟩)) fun a H => ?_
         refine H.u 42 (.int .i64 u.item) (ex_load1 (by kernel_rfl) (by kernel_rfl) (HP.cell 0 rfl 3 rfl)) fun a H => ?_
         refine H.v 43 (.bool (decide (u.item < 0))) fun a H => ?_
         refine H.v 44 (.bool (decide (u.item < 0))) fun a H => ?_
         refine H.v 45 (.bool (decide (u.item < 0))) fun a H => ?_
         refine H.split 45 rfl (fun g45 H => ?_) (fun g45 H => ?_)
         ·have g45p := of_decide_eq_true g45
          refine H.s 46 fun a H => ?_
          refine H.s 47 fun a H => ?_
          refine H.s 48 fun a H => ?_
          refine H.v 49 (.bool true) fun a H => ?_
          refine H.v 31 (.bool true) fun a H => ?_
          refine wpList_nil ?_
          have H := H.keep (L' := [(31, (.bool true)), (12, (.bool (decide (u.index > 100000000)))), (3, (.bool (decide (u.channel ≥ 40)))), (11, (.bool (decide (u.channel ≥ 40)))), (10, (.bool (decide (u.channel ≥ 40)))), (9, (.int .i64 u.channel)), (8, (.pointer (some ⟨b_1, 0, none⟩))), (7, (.bool false)), (6, (.bool (decide (u.channel < 0)))), (5, (.int .i64 u.channel)), (4, (.pointer (some ⟨b_1, 0, none⟩))), (2, (.bool false)), (1, (.pointer (some ⟨b_1, 0, none⟩))), (0, (.agg (ua u u.A u.c)))]) (by kernel_rfl)
          refine then_normal ?_
          refine w_ift H rfl ?_
          refine wp_seq (w_region ?_)
          refine H.v 2 (.bool false) fun a H => ?_
          refine wpList_nil (then_normal (wp_ret (inb_ret (then_ret ?_))))
          refine H.ret1 (fn := Tryd.f18) Tryd.results18 (RV.tmp_ (v := (.bool false)) (by kernel_rfl)) ?_
          exact ⟨by unfold validU; rw [show fieldsOk u = false from decide_eq_false (by omega)]; rfl, (HP.below (by kernel_rfl))⟩
         ·have g45p := of_decide_eq_false g45
          refine H.v 46 (.pointer (some ⟨b_1, 3, none⟩)) fun a H => ?_
          refine H.u 47 (.int .i64 u.item) (ex_load1 (by kernel_rfl) (by kernel_rfl) (HP.cell 0 rfl 3 rfl)) fun a H => ?_
          refine H.v 48 (.bool (decide (u.item > 4611686018427387903))) fun a H => ?_
          refine H.v 49 (.bool (decide (u.item > 4611686018427387903))) fun a H => ?_
          refine H.v 31 (.bool (decide (u.item > 4611686018427387903))) fun a H => ?_
          refine wpList_nil ?_
          have H := H.keep (L' := [(31, (.bool (decide (u.item > 4611686018427387903)))), (12, (.bool (decide (u.index > 100000000)))), (3, (.bool (decide (u.channel ≥ 40)))), (11, (.bool (decide (u.channel ≥ 40)))), (10, (.bool (decide (u.channel ≥ 40)))), (9, (.int .i64 u.channel)), (8, (.pointer (some ⟨b_1, 0, none⟩))), (7, (.bool false)), (6, (.bool (decide (u.channel < 0)))), (5, (.int .i64 u.channel)), (4, (.pointer (some ⟨b_1, 0, none⟩))), (2, (.bool false)), (1, (.pointer (some ⟨b_1, 0, none⟩))), (0, (.agg (ua u u.A u.c)))]) (by kernel_rfl)
          refine then_normal ?_
          refine w_if H rfl (fun g31 => ?_) (fun g31 => ?_)
          ·have g31p := of_decide_eq_true g31
           refine wp_seq (w_region ?_)
           refine H.v 2 (.bool false) fun a H => ?_
           refine wpList_nil (then_normal (wp_ret (inb_ret (then_ret ?_))))
           refine H.ret1 (fn := Tryd.f18) Tryd.results18 (RV.tmp_ (v := (.bool false)) (by kernel_rfl)) ?_
           exact ⟨by unfold validU; rw [show fieldsOk u = false from decide_eq_false (by omega)]; rfl, (HP.below (by kernel_rfl))⟩
          ·have g31p := of_decide_eq_false g31
           refine wp_seq (w_region ?_)
           refine H.v 51 (.pointer (some ⟨b_1, 6, none⟩)) fun a H => ?_
           refine H.u 52 (.string (bstr u.data)) (ex_load1 (by kernel_rfl) (by kernel_rfl) (HP.cell 0 rfl 6 rfl)) fun a H => ?_
           refine H.v 53 (.int .i64 ((u.data.length : Nat) : Int)) fun a H => ?_
           refine H.v 54 (.bool (decide (((u.data.length : Nat) : Int) > 400))) fun a H => ?_
           refine H.v 55 (.bool (decide (((u.data.length : Nat) : Int) > 400))) fun a H => ?_
           refine H.split 55 rfl (fun g55 H => ?_) (fun g55 H => ?_)
           ·have g55p := of_decide_eq_true g55
            refine H.s 56 fun a H => ?_
            refine H.s 57 fun a H => ?_
            refine H.s 58 fun a H => ?_
            refine H.s 59 fun a H => ?_
            refine H.v 60 (.bool true) fun a H => ?_
            refine H.v 50 (.bool true) fun a H => ?_
            refine wpList_nil (then_normal ?_)
            refine w_ift H rfl ?_
            refine wp_seq (w_region ?_)
            refine H.v 2 (.bool false) fun a H => ?_
            refine wpList_nil (then_normal (wp_ret (inb_ret (then_ret ?_))))
            refine H.ret1 (fn := Tryd.f18) Tryd.results18 (RV.tmp_ (v := (.bool false)) (by kernel_rfl)) ?_
            exact ⟨by unfold validU; rw [show fieldsOk u = false from decide_eq_false (by omega)]; rfl, (HP.below (by kernel_rfl))⟩
           ·have g55p := of_decide_eq_false g55
            refine H.v 56 (.pointer (some ⟨b_1, 9, none⟩)) fun a H => ?_
            refine H.u 57 (.string (bstr u.caption)) (ex_load1 (by kernel_rfl) (by kernel_rfl) (HP.cell 0 rfl 9 rfl)) fun a H => ?_
            refine H.v 58 (.int .i64 ((u.caption.length : Nat) : Int)) fun a H => ?_
            refine H.v 59 (.bool (((u.caption.length : Nat) : Int) != 3)) fun a H => ?_
            refine H.v 60 (.bool (((u.caption.length : Nat) : Int) != 3)) fun a H => ?_
            refine H.v 50 (.bool (((u.caption.length : Nat) : Int) != 3)) fun a H => ?_
            refine wpList_nil (then_normal ?_)
            refine w_if H rfl (fun g50 => ?_) (fun g50 => ?_)
            ·have g50p := bne_iff_ne.1 g50
             refine wp_seq (w_region ?_)
             refine H.v 2 (.bool false) fun a H => ?_
             refine wpList_nil (then_normal (wp_ret (inb_ret (then_ret ?_))))
             refine H.ret1 (fn := Tryd.f18) Tryd.results18 (RV.tmp_ (v := (.bool false)) (by kernel_rfl)) ?_
             exact ⟨by unfold validU; rw [show fieldsOk u = false from decide_eq_false (by omega)]; rfl, (HP.below (by kernel_rfl))⟩
            ·have g50p := eq_of_bne_false g50
             refine wp_seq (w_region ?_)
             refine H.v 62 (.pointer (some ⟨b_1, 7, none⟩)) fun a H => ?_
             refine H.u 63 (.int .i64 u.regions) (ex_load1 (by kernel_rfl) (by kernel_rfl) (HP.cell 0 rfl 7 rfl)) fun a H => ?_
             refine H.v 64 (.bool (decide (u.regions < 0))) fun a H => ?_
             refine H.v 65 (.bool (decide (u.regions < 0))) fun a H => ?_
             refine H.split 65 rfl (fun g65 H => ?_) (fun g65 H => ?_)
             ·have g65p := of_decide_eq_true g65
              refine H.s 66 fun a H => ?_
              refine H.s 67 fun a H => ?_
              refine H.s 68 fun a H => ?_
              refine H.v 69 (.bool true) fun a H => ?_
              refine H.v 61 (.bool true) fun a H => ?_
              refine wpList_nil (then_normal ?_)
              refine w_ift H rfl ?_
              refine wp_seq (w_region ?_)
              refine H.v 2 (.bool false) fun a H => ?_
              refine wpList_nil (then_normal (wp_ret (inb_ret (then_ret ?_))))
              refine H.ret1 (fn := Tryd.f18) Tryd.results18 (RV.tmp_ (v := (.bool false)) (by kernel_rfl)) ?_
              exact ⟨by unfold validU; rw [show fieldsOk u = false from decide_eq_false (by omega)]; rfl, (HP.below (by kernel_rfl))⟩
             ·have g65p := of_decide_eq_false g65
              refine H.v 66 (.pointer (some ⟨b_1, 7, none⟩)) fun a H => ?_
              refine H.u 67 (.int .i64 u.regions) (ex_load1 (by kernel_rfl) (by kernel_rfl) (HP.cell 0 rfl 7 rfl)) fun a H => ?_
              refine H.v 68 (.bool (decide (u.regions > 255))) fun a H => ?_
              refine H.v 69 (.bool (decide (u.regions > 255))) fun a H => ?_
              refine H.v 61 (.bool (decide (u.regions > 255))) fun a H => ?_
              refine wpList_nil (then_normal ?_)
              refine w_if H rfl (fun g61 => ?_) (fun g61 => ?_)
              ·have g61p := of_decide_eq_true g61
               refine wp_seq (w_region ?_)
               refine H.v 2 (.bool false) fun a H => ?_
               refine wpList_nil (then_normal (wp_ret (inb_ret (then_ret ?_))))
               refine H.ret1 (fn := Tryd.f18) Tryd.results18 (RV.tmp_ (v := (.bool false)) (by kernel_rfl)) ?_
               exact ⟨by unfold validU; rw [show fieldsOk u = false from decide_eq_false (by omega)]; rfl, (HP.below (by kernel_rfl))⟩
              ·have g61p := of_decide_eq_false g61
               refine wp_seq (w_region ?_)
               refine H.v 71 (.pointer (some ⟨b_1, 8, none⟩)) fun a H => ?_
               refine H.u 72 (.int .i64 u.gain) (ex_load1 (by kernel_rfl) (by kernel_rfl) (HP.cell 0 rfl 8 rfl)) fun a H => ?_
               refine H.v 73 (.bool (decide (u.gain < 250))) fun a H => ?_
               refine H.v 74 (.bool (decide (u.gain < 250))) fun a H => ?_
               refine H.split 74 rfl (fun g74 H => ?_) (fun g74 H => ?_)
               ·have g74p := of_decide_eq_true g74
                refine H.s 75 fun a H => ?_
                refine H.s 76 fun a H => ?_
                refine H.s 77 fun a H => ?_
                refine H.v 78 (.bool true) fun a H => ?_
                refine H.v 70 (.bool true) fun a H => ?_
                refine wpList_nil (then_normal ?_)
                refine w_ift H rfl ?_
                refine wp_seq (w_region ?_)
                refine H.v 2 (.bool false) fun a H => ?_
                refine wpList_nil (then_normal (wp_ret (inb_ret (then_ret ?_))))
                refine H.ret1 (fn := Tryd.f18) Tryd.results18 (RV.tmp_ (v := (.bool false)) (by kernel_rfl)) ?_
                exact ⟨by unfold validU; rw [show fieldsOk u = false from decide_eq_false (by omega)]; rfl, (HP.below (by kernel_rfl))⟩
               ·have g74p := of_decide_eq_false g74
                refine H.v 75 (.pointer (some ⟨b_1, 8, none⟩)) fun a H => ?_
                refine H.u 76 (.int .i64 u.gain) (ex_load1 (by kernel_rfl) (by kernel_rfl) (HP.cell 0 rfl 8 rfl)) fun a H => ?_
                refine H.v 77 (.bool (decide (u.gain > 4000))) fun a H => ?_
                refine H.v 78 (.bool (decide (u.gain > 4000))) fun a H => ?_
                refine H.v 70 (.bool (decide (u.gain > 4000))) fun a H => ?_
                refine wpList_nil (then_normal ?_)
                refine w_if H rfl (fun g70 => ?_) (fun g70 => ?_)
                ·have g70p := of_decide_eq_true g70
                 refine wp_seq (w_region ?_)
                 refine H.v 2 (.bool false) fun a H => ?_
                 refine wpList_nil (then_normal (wp_ret (inb_ret (then_ret ?_))))
                 refine H.ret1 (fn := Tryd.f18) Tryd.results18 (RV.tmp_ (v := (.bool false)) (by kernel_rfl)) ?_
                 exact ⟨by unfold validU; rw [show fieldsOk u = false from decide_eq_false (by omega)]; rfl, (HP.below (by kernel_rfl))⟩
                ·have g70p := of_decide_eq_false g70
                 refine wp_skip (inb_normal (then_normal (wp_seq (w_region ?_))))
                 refine H.v 79 (.pointer (some ⟨b_1, 10, none⟩)) fun a H => ?_
                 refine H.u 80 (.agg #[(.int .i64 u.os), (.int .i64 u.of), (.slice u.A u.al.length u.c)]) (ex_loadN (vs := [(.int .i64 u.os), (.int .i64 u.of), (.slice u.A u.al.length u.c)]) (by kernel_rfl) (by kernel_rfl) (by kernel_rfl) rfl (HP.cells 0 rfl 10 3 (by kernel_rfl))) fun a H => ?_
                 refine H.call 81 (by kernel_rfl) (Eq.trans (by kernel_rfl : _ = (callFunc 36 #[(.agg #[(.int .i64 u.os), (.int .i64 u.of), (.slice u.A u.al.length u.c)])]).run Tryd.prog w_2) (Tryd.call36 _ _)) (valid_any u.os u.of u.A u.al.length u.c u.al w_2 (hu.below (HP.below (by kernel_rfl)))) ?_
                 rintro e w_3 ⟨rfl, hb⟩
                 refine ⟨_, rfl, ?_⟩
                 intro a H
                 have HP := HP.next hb
                 refine H.v 2 (.bool (validP u.os u.of u.al)) fun a H => ?_
                 refine wpList_nil (then_normal (wp_ret ?_))
                 refine H.ret1 (fn := Tryd.f18) Tryd.results18 (RV.tmp_ (v := (.bool (validP u.os u.of u.al))) (by kernel_rfl)) ?_
                 exact ⟨by unfold validU; rw [show fieldsOk u = true from decide_eq_true (by omega)]; rfl, (HP.below (by kernel_rfl))⟩
set_option maxRecDepth 100000 in
set_option maxHeartbeats 4000000 in
theorem ruvalid_any (u : Un) (w : World) (hu : IsAlts w u.A u.al.length u.al) (hm : u.al.length ≤ maxLen) :
  Calls Tryd.prog 19 #[u.val] w fun e w' => e = .returned (.bool (validU u)) ∧ Below w.heap.size w w' := by
 have HP := Hp.start w
 refine w_enter 84 [(0, (.agg (ua u u.A u.c)))] Tryd.func19 rfl Tryd.ntmps19 (by kernel_rfl) (by kernel_rfl) fun a H => ?_
 refine wp_seq (w_region ?_)
 refine H.alloc HP 1 (fun b => (.pointer (some ⟨b, 0, none⟩))) 28 (ul u u.A u.c) (by kernel_rfl) (fun w => by kernel_rfl) fun b_1 w_2 a H HP => ?_
 refine H.v 2 (.bool false) fun a H => ?_
 refine wpList_nil (then_normal (wp_seq (wp_seq (w_region ?_))))
 refine H.v 3 (.pointer (some ⟨b_1, 0, none⟩)) fun a H => ?_
 refine H.u 4 (.int .i64 u.channel) (ex_load1 (by kernel_rfl) (by kernel_rfl) (HP.cell 0 rfl 0 rfl)) fun a H => ?_
 refine H.v 5 (.bool (decide (u.channel < 0))) fun a H => ?_
 refine H.v 6 (.bool (decide (u.channel < 0))) fun a H => ?_
 refine H.split 6 rfl (fun g6 H => ?_) (fun g6 H => ?_)
 ·have g6p := of_decide_eq_true g6
  refine H.s 7 fun a H => ?_
  refine H.s 8 fun a H => ?_
  refine H.s 9 fun a H => ?_
  refine H.v 10 (.bool true) fun a H => ?_
  refine H.v 11 (.bool true) fun a H => ?_
  refine H.s 12 fun a H => ?_
  refine H.s 13 fun a H => ?_
  refine H.s 14 fun a H => ?_
  refine H.v 15 (.bool true) fun a H => ?_
  refine H.v 16 (.bool true) fun a H => ?_
  refine H.s 17 fun a H => ?_
  refine H.s 18 fun a H => ?_
  refine H.s 19 fun a H => ?_
  refine H.v 20 (.bool true) fun a H => ?_
  refine H.v 21 (.bool true) fun a H => ?_
  refine H.s 22 fun a H => ?_
  refine H.s 23 fun a H => ?_
  refine H.s 24 fun a H => ?_
  refine H.v 25 (.bool true) fun a H => ?_
  refine H.v 26 (.bool true) fun a H => ?_
  refine H.s 27 fun a H => ?_
  refine H.s 28 fun a H => ?_
  refine H.s 29 fun a H => ?_
  refine H.v 30 (.bool true) fun a H => ?_
  refine wpList_nil ?_
  have H := H.keep (L' := [(30, (.bool true)), (5, (.bool (decide (u.channel < 0)))), (4, (.int .i64 u.channel)), (3, (.pointer (some ⟨b_1, 0, none⟩))), (2, (.bool false)), (1, (.pointer (some ⟨b_1, 0, none⟩))), (0, (.agg (ua u u.A u.c)))]) (by kernel_rfl)
  refine then_normal ?_
  refine w_ift H rfl ?_
  refine wp_seq (w_region ?_)
  refine H.v 2 (.bool false) fun a H => ?_
  refine wpList_nil (then_normal (wp_ret (then_ret ?_)))
  refine H.ret1 (fn := Tryd.f19) Tryd.results19 (RV.tmp_ (v := (.bool false)) (by kernel_rfl)) ?_
  exact ⟨by unfold validU; rw [show fieldsOk u = false from decide_eq_false (by omega)]; rfl, (HP.below (by kernel_rfl))⟩
 ·have g6p := of_decide_eq_false g6
  refine H.v 7 (.pointer (some ⟨b_1, 0, none⟩)) fun a H => ?_
  refine H.u 8 (.int .i64 u.channel) (ex_load1 (by kernel_rfl) (by kernel_rfl) (HP.cell 0 rfl 0 rfl)) fun a H => ?_
  refine H.v 9 (.bool (decide (u.channel ≥ 40))) fun a H => ?_
  refine H.v 10 (.bool (decide (u.channel ≥ 40))) fun a H => ?_
  refine H.v 11 (.bool (decide (u.channel ≥ 40))) fun a H => ?_
  refine H.split 11 rfl (fun g11 H => ?_) (fun g11 H => ?_)
  ·have g11p := of_decide_eq_true g11
   refine H.s 12 fun a H => ?_
   refine H.s 13 fun a H => ?_
   refine H.s 14 fun a H => ?_
   refine H.v 15 (.bool true) fun a H => ?_
   refine H.v 16 (.bool true) fun a H => ?_
   refine H.s 17 fun a H => ?_
   refine H.s 18 fun a H => ?_
   refine H.s 19 fun a H => ?_
   refine H.v 20 (.bool true) fun a H => ?_
   refine H.v 21 (.bool true) fun a H => ?_
   refine H.s 22 fun a H => ?_
   refine H.s 23 fun a H => ?_
   refine H.s 24 fun a H => ?_
   refine H.v 25 (.bool true) fun a H => ?_
   refine H.v 26 (.bool true) fun a H => ?_
   refine H.s 27 fun a H => ?_
   refine H.s 28 fun a H => ?_
   refine H.s 29 fun a H => ?_
   refine H.v 30 (.bool true) fun a H => ?_
   refine wpList_nil ?_
   have H := H.keep (L' := [(30, (.bool true)), (5, (.bool (decide (u.channel < 0)))), (4, (.int .i64 u.channel)), (3, (.pointer (some ⟨b_1, 0, none⟩))), (2, (.bool false)), (1, (.pointer (some ⟨b_1, 0, none⟩))), (0, (.agg (ua u u.A u.c)))]) (by kernel_rfl)
   refine then_normal ?_
   refine w_ift H rfl ?_
   refine wp_seq (w_region ?_)
   refine H.v 2 (.bool false) fun a H => ?_
   refine wpList_nil (then_normal (wp_ret (then_ret ?_)))
   refine H.ret1 (fn := Tryd.f19) Tryd.results19 (RV.tmp_ (v := (.bool false)) (by kernel_rfl)) ?_
   exact ⟨by unfold validU; rw [show fieldsOk u = false from decide_eq_false (by omega)]; rfl, (HP.below (by kernel_rfl))⟩
  ·have g11p := of_decide_eq_false g11
   refine H.v 12 (.pointer (some ⟨b_1, 1, none⟩)) fun a H => ?_
   refine H.u 13 (.int .i64 u.frame) (ex_load1 (by kernel_rfl) (by kernel_rfl) (HP.cell 0 rfl 1 rfl)) fun a H => ?_
   refine H.v 14 (.bool (decide (u.frame < 0))) fun a H => ?_
   refine H.v 15 (.bool (decide (u.frame < 0))) fun a H => ?_
   refine H.v 16 (.bool (decide (u.frame < 0))) fun a H => ?_
   refine H.split 16 rfl (fun g16 H => ?_) (fun g16 H => ?_)
   ·have g16p := of_decide_eq_true g16
    refine H.s 17 fun a H => ?_
    refine H.s 18 fun a H => ?_
    refine H.s 19 fun a H => ?_
    refine H.v 20 (.bool true) fun a H => ?_
    refine H.v 21 (.bool true) fun a H => ?_
    refine H.s 22 fun a H => ?_
    refine H.s 23 fun a H => ?_
    refine H.s 24 fun a H => ?_
    refine H.v 25 (.bool true) fun a H => ?_
    refine H.v 26 (.bool true) fun a H => ?_
    refine H.s 27 fun a H => ?_
    refine H.s 28 fun a H => ?_
    refine H.s 29 fun a H => ?_
    refine H.v 30 (.bool true) fun a H => ?_
    refine wpList_nil ?_
    have H := H.keep (L' := [(30, (.bool true)), (5, (.bool (decide (u.channel < 0)))), (4, (.int .i64 u.channel)), (3, (.pointer (some ⟨b_1, 0, none⟩))), (2, (.bool false)), (1, (.pointer (some ⟨b_1, 0, none⟩))), (0, (.agg (ua u u.A u.c)))]) (by kernel_rfl)
    refine then_normal ?_
    refine w_ift H rfl ?_
    refine wp_seq (w_region ?_)
    refine H.v 2 (.bool false) fun a H => ?_
    refine wpList_nil (then_normal (wp_ret (then_ret ?_)))
    refine H.ret1 (fn := Tryd.f19) Tryd.results19 (RV.tmp_ (v := (.bool false)) (by kernel_rfl)) ?_
    exact ⟨by unfold validU; rw [show fieldsOk u = false from decide_eq_false (by omega)]; rfl, (HP.below (by kernel_rfl))⟩
   ·have g16p := of_decide_eq_false g16
    refine H.v 17 (.pointer (some ⟨b_1, 1, none⟩)) fun a H => ?_
    refine H.u 18 (.int .i64 u.frame) (ex_load1 (by kernel_rfl) (by kernel_rfl) (HP.cell 0 rfl 1 rfl)) fun a H => ?_
    refine H.v 19 (.bool (decide (u.frame > 100000000))) fun a H => ?_
    refine H.v 20 (.bool (decide (u.frame > 100000000))) fun a H => ?_
    refine H.v 21 (.bool (decide (u.frame > 100000000))) fun a H => ?_
    refine H.split 21 rfl (fun g21 H => ?_) (fun g21 H => ?_)
    ·have g21p := of_decide_eq_true g21
     refine H.s 22 fun a H => ?_
     refine H.s 23 fun a H => ?_
     refine H.s 24 fun a H => ?_
     refine H.v 25 (.bool true) fun a H => ?_
     refine H.v 26 (.bool true) fun a H => ?_
     refine H.s 27 fun a H => ?_
     refine H.s 28 fun a H => ?_
     refine H.s 29 fun a H => ?_
     refine H.v 30 (.bool true) fun a H => ?_
     refine wpList_nil ?_
     have H := H.keep (L' := [(30, (.bool true)), (5, (.bool (decide (u.channel < 0)))), (4, (.int .i64 u.channel)), (3, (.pointer (some ⟨b_1, 0, none⟩))), (2, (.bool false)), (1, (.pointer (some ⟨b_1, 0, none⟩))), (0, (.agg (ua u u.A u.c)))]) (by kernel_rfl)
     refine then_normal ?_
     refine w_ift H rfl ?_
     refine wp_seq (w_region ?_)
     refine H.v 2 (.bool false) fun a H => ?_
     refine wpList_nil (then_normal (wp_ret (then_ret ?_)))
     refine H.ret1 (fn := Tryd.f19) Tryd.results19 (RV.tmp_ (v := (.bool false)) (by kernel_rfl)) ?_
     exact ⟨by unfold validU; rw [show fieldsOk u = false from decide_eq_false (by omega)]; rfl, (HP.below (by kernel_rfl))⟩
    ·have g21p := of_decide_eq_false g21
     refine H.v 22 (.pointer (some ⟨b_1, 4, none⟩)) fun a H => ?_
     refine H.u 23 (.int .i64 u.index) (ex_load1 (by kernel_rfl) (by kernel_rfl) (HP.cell 0 rfl 4 rfl)) fun a H => ?_
     refine H.v 24 (.bool (decide (u.index < 0))) fun a H => ?_
     refine H.v 25 (.bool (decide (u.index < 0))) fun a H => ?_
     refine H.v 26 (.bool (decide (u.index < 0))) fun a H => ?_
     refine H.split 26 rfl (fun g26 H => ?_) (fun g26 H => ?_)
     ·have g26p := of_decide_eq_true g26
      refine H.s 27 fun a H => ?_
      refine H.s 28 fun a H => ?_
      refine H.s 29 fun a H => ?_
      refine H.v 30 (.bool true) fun a H => ?_
      refine wpList_nil ?_
      have H := H.keep (L' := [(30, (.bool true)), (5, (.bool (decide (u.channel < 0)))), (4, (.int .i64 u.channel)), (3, (.pointer (some ⟨b_1, 0, none⟩))), (2, (.bool false)), (1, (.pointer (some ⟨b_1, 0, none⟩))), (0, (.agg (ua u u.A u.c)))]) (by kernel_rfl)
      refine then_normal ?_
      refine w_ift H rfl ?_
      refine wp_seq (w_region ?_)
      refine H.v 2 (.bool false) fun a H => ?_
      refine wpList_nil (then_normal (wp_ret (then_ret ?_)))
      refine H.ret1 (fn := Tryd.f19) Tryd.results19 (RV.tmp_ (v := (.bool false)) (by kernel_rfl)) ?_
      exact ⟨by unfold validU; rw [show fieldsOk u = false from decide_eq_false (by omega)]; rfl, (HP.below (by kernel_rfl))⟩
     ·have g26p := of_decide_eq_false g26
      refine H.v 27 (.pointer (some ⟨b_1, 4, none⟩)) fun a H => ?_
      refine H.u 28 (.int .i64 u.index) (ex_load1 (by kernel_rfl) (by kernel_rfl) (HP.cell 0 rfl 4 rfl)) fun a H => ?_
      refine H.v 29 (.bool (decide (u.index > 100000000))) fun a H => ?_
      refine H.v 30 (.bool (decide (u.index > 100000000))) fun a H => ?_
      refine wpList_nil ?_
      have H := H.keep (L' := [(30, (.bool (decide (u.index > 100000000)))), (5, (.bool (decide (u.channel < 0)))), (4, (.int .i64 u.channel)), (3, (.pointer (some ⟨b_1, 0, none⟩))), (2, (.bool false)), (1, (.pointer (some ⟨b_1, 0, none⟩))), (0, (.agg (ua u u.A u.c)))]) (by kernel_rfl)
      refine then_normal ?_
      refine w_if H rfl (fun g30 => ?_) (fun g30 => ?_)
      ·have g30p := of_decide_eq_true g30
       refine wp_seq (w_region ?_)
       refine H.v 2 (.bool false) fun a H => ?_
       refine wpList_nil (then_normal (wp_ret (then_ret ?_)))
       refine H.ret1 (fn := Tryd.f19) Tryd.results19 (RV.tmp_ (v := (.bool false)) (by kernel_rfl)) ?_
       exact ⟨by unfold validU; rw [show fieldsOk u = false from decide_eq_false (by omega)]; rfl, (HP.below (by kernel_rfl))⟩
      ·have g30p := of_decide_eq_false g30
       refine wp_skip (then_normal (wp_seq (wp_seq (w_region ?_))))
       refine H.v 31 (.pointer (some ⟨b_1, 2, none⟩)) fun a H => ?_
       refine H.u 32 (.int .i64 u.version) (ex_load1 (by kernel_rfl) (by kernel_rfl) (HP.cell 0 rfl 2 rfl)) fun a H => ?_
       refine H.v 33 (.bool (decide (u.version < 0))) fun a H => ?_
       refine H.v 34 (.bool (decide (u.version < 0))) fun a H => ?_
       refine H.split 34 rfl (fun g34 H => ?_) (fun g34 H => ?_)
       ·have g34p := of_decide_eq_true g34
        refine H.s 35 fun a H => ?_
        refine H.s 36 fun a H => ?_
        refine H.s 37 fun a H => ?_
        refine H.v 38 (.bool true) fun a H => ?_
        refine H.v 39 (.bool true) fun a H => ?_
        refine H.s 40 fun a H => ?_
        refine H.s 41 fun a H => ?_
        refine H.s 42 fun a H => ?_
        refine H.v 43 (.bool true) fun a H => ?_
        refine H.v 44 (.bool true) fun a H => ?_
        refine H.s 45 fun a H => ?_
        refine H.s 46 fun a H => ?_
        refine H.s 47 fun a H => ?_
        refine H.v 48 (.bool true) fun a H => ?_
        refine H.v 49 (.bool true) fun a H => ?_
        refine H.s 50 fun a H => ?_
        refine H.s 51 fun a H => ?_
        refine H.s 52 fun a H => ?_
        refine H.s 53 fun a H => ?_
        refine H.v 54 (.bool true) fun a H => ?_
        refine H.v 55 (.bool true) fun a H => ?_
        refine H.s 56 fun a H => ?_
        refine H.s 57 fun a H => ?_
        refine H.s 58 fun a H => ?_
        refine H.v 59 (.bool true) fun a H => ?_
        refine H.v 60 (.bool true) fun a H => ?_
        refine H.s 61 fun a H => ?_
        refine H.s 62 fun a H => ?_
        refine H.s 63 fun a H => ?_
        refine H.v 64 (.bool true) fun a H => ?_
        refine wpList_nil ?_
        have H := H.keep (L' := [(64, (.bool true)), (30, (.bool (decide (u.index > 100000000)))), (5, (.bool (decide (u.channel < 0)))), (4, (.int .i64 u.channel)), (3, (.pointer (some ⟨b_1, 0, none⟩))), (2, (.bool false)), (1, (.pointer (some ⟨b_1, 0, none⟩))), (0, (.agg (ua u u.A u.c)))]) (by kernel_rfl)
        refine then_normal ?_
        refine w_ift H rfl ?_
        refine wp_seq (w_region ?_)
        refine H.v 2 (.bool false) fun a H => ?_
        refine wpList_nil (then_normal (wp_ret (then_ret ?_)))
        refine H.ret1 (fn := Tryd.f19) Tryd.results19 (RV.tmp_ (v := (.bool false)) (by kernel_rfl)) ?_
        exact ⟨by unfold validU; rw [show fieldsOk u = false from decide_eq_false (by omega)]; rfl, (HP.below (by kernel_rfl))⟩
       ·have g34p := of_decide_eq_false g34
        refine H.v 35 (.pointer (some ⟨b_1, 2, none⟩)) fun a H => ?_
        refine H.u 36 (.int .i64 u.version) (ex_load1 (by kernel_rfl) (by kernel_rfl) (HP.cell 0 rfl 2 rfl)) fun a H => ?_
        refine H.v 37 (.bool (decide (u.version > 4611686018427387903))) fun a H => ?_
        refine H.v 38 (.bool (decide (u.version > 4611686018427387903))) fun a H => ?_
        refine H.v 39 (.bool (decide (u.version > 4611686018427387903))) fun a H => ?_
        refine H.split 39 rfl (fun g39 H => ?_) (fun g39 H => ?_)
        ·have g39p := of_decide_eq_true g39
         refine H.s 40 fun a H => ?_
         refine H.s 41 fun a H => ?_
         refine H.s 42 fun a H => ?_
         refine H.v 43 (.bool true) fun a H => ?_
         refine H.v 44 (.bool true) fun a H => ?_
         refine H.s 45 fun a H => ?_
         refine H.s 46 fun a H => ?_
         refine H.s 47 fun a H => ?_
         refine H.v 48 (.bool true) fun a H => ?_
         refine H.v 49 (.bool true) fun a H => ?_
         refine H.s 50 fun a H => ?_
         refine H.s 51 fun a H => ?_
         refine H.s 52 fun a H => ?_
         refine H.s 53 fun a H => ?_
         refine H.v 54 (.bool true) fun a H => ?_
         refine H.v 55 (.bool true) fun a H => ?_
         refine H.s 56 fun a H => ?_
         refine H.s 57 fun a H => ?_
         refine H.s 58 fun a H => ?_
         refine H.v 59 (.bool true) fun a H => ?_
         refine H.v 60 (.bool true) fun a H => ?_
         refine H.s 61 fun a H => ?_
         refine H.s 62 fun a H => ?_
         refine H.s 63 fun a H => ?_
         refine H.v 64 (.bool true) fun a H => ?_
         refine wpList_nil ?_
         have H := H.keep (L' := [(64, (.bool true)), (30, (.bool (decide (u.index > 100000000)))), (5, (.bool (decide (u.channel < 0)))), (4, (.int .i64 u.channel)), (3, (.pointer (some ⟨b_1, 0, none⟩))), (2, (.bool false)), (1, (.pointer (some ⟨b_1, 0, none⟩))), (0, (.agg (ua u u.A u.c)))]) (by kernel_rfl)
         refine then_normal ?_
         refine w_ift H rfl ?_
         refine wp_seq (w_region ?_)
         refine H.v 2 (.bool false) fun a H => ?_
         refine wpList_nil (then_normal (wp_ret (then_ret ?_)))
         refine H.ret1 (fn := Tryd.f19) Tryd.results19 (RV.tmp_ (v := (.bool false)) (by kernel_rfl)) ?_
         exact ⟨by unfold validU; rw [show fieldsOk u = false from decide_eq_false (by omega)]; rfl, (HP.below (by kernel_rfl))⟩
        ·have g39p := of_decide_eq_false g39
         refine H.v 40 (.pointer (some ⟨b_1, 3, none⟩)) fun a H => ?_
         refine H.u 41 (.int .i64 u.item) (ex_load1 (by kernel_rfl) (by kernel_rfl) (HP.cell 0 rfl 3 rfl)) fun a H => ?_
         refine H.v 42 (.bool (decide (u.item < 0))) fun a H => ?_
         refine H.v 43 (.bool (decide (u.item < 0))) fun a H => ?_
         refine H.v 44 (.bool (decide (u.item < 0))) fun a H => ?_
         refine H.split 44 rfl (fun g44 H => ?_) (fun g44 H => ?_)
         ·have g44p := of_decide_eq_true g44
          refine H.s 45 fun a H => ?_
          refine H.s 46 fun a H => ?_
          refine H.s 47 fun a H => ?_
          refine H.v 48 (.bool true) fun a H => ?_
          refine H.v 49 (.bool true) fun a H => ?_
          refine H.s 50 fun a H => ?_
          refine H.s 51 fun a H => ?_
          refine H.s 52 fun a H => ?_
          refine H.s 53 fun a H => ?_
          refine H.v 54 (.bool true) fun a H => ?_
          refine H.v 55 (.bool true) fun a H => ?_
          refine H.s 56 fun a H => ?_
          refine H.s 57 fun a H => ?_
          refine H.s 58 fun a H => ?_
          refine H.v 59 (.bool true) fun a H => ?_
          refine H.v 60 (.bool true) fun a H => ?_
          refine H.s 61 fun a H => ?_
          refine H.s 62 fun a H => ?_
          refine H.s 63 fun a H => ?_
          refine H.v 64 (.bool true) fun a H => ?_
          refine wpList_nil ?_
          have H := H.keep (L' := [(64, (.bool true)), (30, (.bool (decide (u.index > 100000000)))), (5, (.bool (decide (u.channel < 0)))), (4, (.int .i64 u.channel)), (3, (.pointer (some ⟨b_1, 0, none⟩))), (2, (.bool false)), (1, (.pointer (some ⟨b_1, 0, none⟩))), (0, (.agg (ua u u.A u.c)))]) (by kernel_rfl)
          refine then_normal ?_
          refine w_ift H rfl ?_
          refine wp_seq (w_region ?_)
          refine H.v 2 (.bool false) fun a H => ?_
          refine wpList_nil (then_normal (wp_ret (then_ret ?_)))
          refine H.ret1 (fn := Tryd.f19) Tryd.results19 (RV.tmp_ (v := (.bool false)) (by kernel_rfl)) ?_
          exact ⟨by unfold validU; rw [show fieldsOk u = false from decide_eq_false (by omega)]; rfl, (HP.below (by kernel_rfl))⟩
         ·have g44p := of_decide_eq_false g44
          refine H.v 45 (.pointer (some ⟨b_1, 3, none⟩)) fun a H => ?_
          refine H.u 46 (.int .i64 u.item) (ex_load1 (by kernel_rfl) (by kernel_rfl) (HP.cell 0 rfl 3 rfl)) fun a H => ?_
          refine H.v 47 (.bool (decide (u.item > 4611686018427387903))) fun a H => ?_
          refine H.v 48 (.bool (decide (u.item > 4611686018427387903))) fun a H => ?_
          refine H.v 49 (.bool (decide (u.item > 4611686018427387903))) fun a H => ?_
          refine H.split 49 rfl (fun g49 H => ?_) (fun g49 H => ?_)
          ·have g49p := of_decide_eq_true g49
           refine H.s 50 fun a H => ?_
           refine H.s 51 fun a H => ?_
           refine H.s 52 fun a H => ?_
           refine H.s 53 fun a H => ?_
           refine H.v 54 (.bool true) fun a H => ?_
           refine H.v 55 (.bool true) fun a H => ?_
           refine H.s 56 fun a H => ?_
           refine H.s 57 fun a H => ?_
           refine H.s 58 fun a H => ?_
           refine H.v 59 (.bool true) fun a H => ?_
           refine H.v 60 (.bool true) fun a H => ?_
           refine H.s 61 fun a H => ?_
           refine H.s 62 fun a H => ?_
           refine H.s 63 fun a H => ?_
           refine H.v 64 (.bool true) fun a H => ?_
           refine wpList_nil ?_
           have H := H.keep (L' := [(64, (.bool true)), (30, (.bool (decide (u.index > 100000000)))), (5, (.bool (decide (u.channel < 0)))), (4, (.int .i64 u.channel)), (3, (.pointer (some ⟨b_1, 0, none⟩))), (2, (.bool false)), (1, (.pointer (some ⟨b_1, 0, none⟩))), (0, (.agg (ua u u.A u.c)))]) (by kernel_rfl)
           refine then_normal ?_
           refine w_ift H rfl ?_
           refine wp_seq (w_region ?_)
           refine H.v 2 (.bool false) fun a H => ?_
           refine wpList_nil (then_normal (wp_ret (then_ret ?_)))
           refine H.ret1 (fn := Tryd.f19) Tryd.results19 (RV.tmp_ (v := (.bool false)) (by kernel_rfl)) ?_
           exact ⟨by unfold validU; rw [show fieldsOk u = false from decide_eq_false (by omega)]; rfl, (HP.below (by kernel_rfl))⟩
          ·have g49p := of_decide_eq_false g49
           refine H.v 50 (.pointer (some ⟨b_1, 6, none⟩)) fun a H => ?_
           refine H.u 51 (.string (bstr u.data)) (ex_load1 (by kernel_rfl) (by kernel_rfl) (HP.cell 0 rfl 6 rfl)) fun a H => ?_
           refine H.v 52 (.int .i64 ((u.data.length : Nat) : Int)) fun a H => ?_
           refine H.v 53 (.bool (decide (((u.data.length : Nat) : Int) > 400))) fun a H => ?_
           refine H.v 54 (.bool (decide (((u.data.length : Nat) : Int) > 400))) fun a H => ?_
           refine H.v 55 (.bool (decide (((u.data.length : Nat) : Int) > 400))) fun a H => ?_
           refine H.split 55 rfl (fun g55 H => ?_) (fun g55 H => ?_)
           ·have g55p := of_decide_eq_true g55
            refine H.s 56 fun a H => ?_
            refine H.s 57 fun a H => ?_
            refine H.s 58 fun a H => ?_
            refine H.v 59 (.bool true) fun a H => ?_
            refine H.v 60 (.bool true) fun a H => ?_
            refine H.s 61 fun a H => ?_
            refine H.s 62 fun a H => ?_
            refine H.s 63 fun a H => ?_
            refine H.v 64 (.bool true) fun a H => ?_
            refine wpList_nil ?_
            have H := H.keep (L' := [(64, (.bool true)), (30, (.bool (decide (u.index > 100000000)))), (5, (.bool (decide (u.channel < 0)))), (4, (.int .i64 u.channel)), (3, (.pointer (some ⟨b_1, 0, none⟩))), (2, (.bool false)), (1, (.pointer (some ⟨b_1, 0, none⟩))), (0, (.agg (ua u u.A u.c)))]) (by kernel_rfl)
            refine then_normal ?_
            refine w_ift H rfl ?_
            refine wp_seq (w_region ?_)
            refine H.v 2 (.bool false) fun a H => ?_
            refine wpList_nil (then_normal (wp_ret (then_ret ?_)))
            refine H.ret1 (fn := Tryd.f19) Tryd.results19 (RV.tmp_ (v := (.bool false)) (by kernel_rfl)) ?_
            exact ⟨by unfold validU; rw [show fieldsOk u = false from decide_eq_false (by omega)]; rfl, (HP.below (by kernel_rfl))⟩
           ·have g55p := of_decide_eq_false g55
            refine H.v 56 (.pointer (some ⟨b_1, 7, none⟩)) fun a H => ?_
            refine H.u 57 (.int .i64 u.regions) (ex_load1 (by kernel_rfl) (by kernel_rfl) (HP.cell 0 rfl 7 rfl)) fun a H => ?_
            refine H.v 58 (.bool (decide (u.regions < 0))) fun a H => ?_
            refine H.v 59 (.bool (decide (u.regions < 0))) fun a H => ?_
            refine H.v 60 (.bool (decide (u.regions < 0))) fun a H => ?_
            refine H.split 60 rfl (fun g60 H => ?_) (fun g60 H => ?_)
            ·have g60p := of_decide_eq_true g60
             refine H.s 61 fun a H => ?_
             refine H.s 62 fun a H => ?_
             refine H.s 63 fun a H => ?_
             refine H.v 64 (.bool true) fun a H => ?_
             refine wpList_nil ?_
             have H := H.keep (L' := [(64, (.bool true)), (30, (.bool (decide (u.index > 100000000)))), (5, (.bool (decide (u.channel < 0)))), (4, (.int .i64 u.channel)), (3, (.pointer (some ⟨b_1, 0, none⟩))), (2, (.bool false)), (1, (.pointer (some ⟨b_1, 0, none⟩))), (0, (.agg (ua u u.A u.c)))]) (by kernel_rfl)
             refine then_normal ?_
             refine w_ift H rfl ?_
             refine wp_seq (w_region ?_)
             refine H.v 2 (.bool false) fun a H => ?_
             refine wpList_nil (then_normal (wp_ret (then_ret ?_)))
             refine H.ret1 (fn := Tryd.f19) Tryd.results19 (RV.tmp_ (v := (.bool false)) (by kernel_rfl)) ?_
             exact ⟨by unfold validU; rw [show fieldsOk u = false from decide_eq_false (by omega)]; rfl, (HP.below (by kernel_rfl))⟩
            ·have g60p := of_decide_eq_false g60
             refine H.v 61 (.pointer (some ⟨b_1, 7, none⟩)) fun a H => ?_
             refine H.u 62 (.int .i64 u.regions) (ex_load1 (by kernel_rfl) (by kernel_rfl) (HP.cell 0 rfl 7 rfl)) fun a H => ?_
             refine H.v 63 (.bool (decide (u.regions > 255))) fun a H => ?_
             refine H.v 64 (.bool (decide (u.regions > 255))) fun a H => ?_
             refine wpList_nil ?_
             have H := H.keep (L' := [(64, (.bool (decide (u.regions > 255)))), (30, (.bool (decide (u.index > 100000000)))), (5, (.bool (decide (u.channel < 0)))), (4, (.int .i64 u.channel)), (3, (.pointer (some ⟨b_1, 0, none⟩))), (2, (.bool false)), (1, (.pointer (some ⟨b_1, 0, none⟩))), (0, (.agg (ua u u.A u.c)))]) (by kernel_rfl)
             refine then_normal ?_
             refine w_if H rfl (fun g64 => ?_) (fun g64 => ?_)
             ·have g64p := of_decide_eq_true g64
              refine wp_seq (w_region ?_)
              refine H.v 2 (.bool false) fun a H => ?_
              refine wpList_nil (then_normal (wp_ret (then_ret ?_)))
              refine H.ret1 (fn := Tryd.f19) Tryd.results19 (RV.tmp_ (v := (.bool false)) (by kernel_rfl)) ?_
              exact ⟨by unfold validU; rw [show fieldsOk u = false from decide_eq_false (by omega)]; rfl, (HP.below (by kernel_rfl))⟩
             ·have g64p := of_decide_eq_false g64
              refine wp_skip (then_normal (wp_seq (w_region ?_)))
              refine H.v 65 (.pointer (some ⟨b_1, 8, none⟩)) fun a H => ?_
              refine H.u 66 (.int .i64 u.gain) (ex_load1 (by kernel_rfl) (by kernel_rfl) (HP.cell 0 rfl 8 rfl)) fun a H => ?_
              refine H.v 67 (.bool (decide (u.gain ≥ 250))) fun a H => ?_
              refine H.v 68 (.bool (decide (u.gain ≥ 250))) fun a H => ?_
              refine H.split 68 rfl (fun g68 H => ?_) (fun g68 H => ?_)
              ·have g68p := of_decide_eq_true g68
               refine H.v 69 (.pointer (some ⟨b_1, 8, none⟩)) fun a H => ?_
               refine H.u 70 (.int .i64 u.gain) (ex_load1 (by kernel_rfl) (by kernel_rfl) (HP.cell 0 rfl 8 rfl)) fun a H => ?_
               refine H.v 71 (.bool (decide (u.gain ≤ 4000))) fun a H => ?_
               refine H.v 72 (.bool (decide (u.gain ≤ 4000))) fun a H => ?_
               refine H.v 73 (.bool (decide (u.gain ≤ 4000))) fun a H => ?_
               refine H.split 73 rfl (fun g73 H => ?_) (fun g73 H => ?_)
               ·have g73p := of_decide_eq_true g73
                refine H.v 74 (.pointer (some ⟨b_1, 9, none⟩)) fun a H => ?_
                refine H.u 75 (.string (bstr u.caption)) (ex_load1 (by kernel_rfl) (by kernel_rfl) (HP.cell 0 rfl 9 rfl)) fun a H => ?_
                refine H.v 76 (.int .i64 ((u.caption.length : Nat) : Int)) fun a H => ?_
                refine H.v 77 (.bool (((u.caption.length : Nat) : Int) == 3)) fun a H => ?_
                refine H.v 78 (.bool (((u.caption.length : Nat) : Int) == 3)) fun a H => ?_
                refine H.v 79 (.bool (((u.caption.length : Nat) : Int) == 3)) fun a H => ?_
                refine H.split 79 rfl (fun g79 H => ?_) (fun g79 H => ?_)
                ·have g79p := eq_of_beq g79
                 refine H.v 80 (.pointer (some ⟨b_1, 10, none⟩)) fun a H => ?_
                 refine H.u 81 (.agg #[(.int .i64 u.os), (.int .i64 u.of), (.slice u.A u.al.length u.c)]) (ex_loadN (vs := [(.int .i64 u.os), (.int .i64 u.of), (.slice u.A u.al.length u.c)]) (by kernel_rfl) (by kernel_rfl) (by kernel_rfl) rfl (HP.cells 0 rfl 10 3 (by kernel_rfl))) fun a H => ?_
                 refine H.call 82 (by kernel_rfl) (Eq.trans (by kernel_rfl : _ = (callFunc 37 #[(.agg #[(.int .i64 u.os), (.int .i64 u.of), (.slice u.A u.al.length u.c)])]).run Tryd.prog w_2) (Tryd.call37 _ _)) (rvalid_any u.os u.of u.A u.al.length u.c u.al w_2 (hu.below (HP.below (by kernel_rfl))) hm) ?_
                 rintro e w_3 ⟨rfl, hb⟩
                 refine ⟨_, rfl, ?_⟩
                 intro a H
                 have HP := HP.next hb
                 refine H.v 83 (.bool (validP u.os u.of u.al)) fun a H => ?_
                 refine H.v 2 (.bool (validP u.os u.of u.al)) fun a H => ?_
                 refine wpList_nil ?_
                 have H := H.keep (L' := [(2, (.bool (validP u.os u.of u.al))), (64, (.bool (decide (u.regions > 255)))), (30, (.bool (decide (u.index > 100000000)))), (5, (.bool (decide (u.channel < 0)))), (4, (.int .i64 u.channel)), (3, (.pointer (some ⟨b_1, 0, none⟩))), (1, (.pointer (some ⟨b_1, 0, none⟩))), (0, (.agg (ua u u.A u.c)))]) (by kernel_rfl)
                 refine then_normal (wp_ret ?_)
                 refine H.ret1 (fn := Tryd.f19) Tryd.results19 (RV.tmp_ (v := (.bool (validP u.os u.of u.al))) (by kernel_rfl)) ?_
                 exact ⟨by unfold validU; rw [show fieldsOk u = true from decide_eq_true (by omega)]; rfl, (HP.below (by kernel_rfl))⟩
                ·have g79p := ne_of_beq_false g79
                 refine H.s 80 fun a H => ?_
                 refine H.s 81 fun a H => ?_
                 refine H.s 82 fun a H => ?_
                 refine H.v 83 (.bool false) fun a H => ?_
                 refine H.v 2 (.bool false) fun a H => ?_
                 refine wpList_nil ?_
                 have H := H.keep (L' := [(2, (.bool false)), (64, (.bool (decide (u.regions > 255)))), (30, (.bool (decide (u.index > 100000000)))), (5, (.bool (decide (u.channel < 0)))), (4, (.int .i64 u.channel)), (3, (.pointer (some ⟨b_1, 0, none⟩))), (1, (.pointer (some ⟨b_1, 0, none⟩))), (0, (.agg (ua u u.A u.c)))]) (by kernel_rfl)
                 refine then_normal (wp_ret ?_)
                 refine H.ret1 (fn := Tryd.f19) Tryd.results19 (RV.tmp_ (v := (.bool false)) (by kernel_rfl)) ?_
                 exact ⟨by unfold validU; rw [show fieldsOk u = false from decide_eq_false (by omega)]; rfl, (HP.below (by kernel_rfl))⟩
               ·have g73p := of_decide_eq_false g73
                refine H.s 74 fun a H => ?_
                refine H.s 75 fun a H => ?_
                refine H.s 76 fun a H => ?_
                refine H.s 77 fun a H => ?_
                refine H.v 78 (.bool false) fun a H => ?_
                refine H.v 79 (.bool false) fun a H => ?_
                refine H.s 80 fun a H => ?_
                refine H.s 81 fun a H => ?_
                refine H.s 82 fun a H => ?_
                refine H.v 83 (.bool false) fun a H => ?_
                refine H.v 2 (.bool false) fun a H => ?_
                refine wpList_nil ?_
                have H := H.keep (L' := [(2, (.bool false)), (64, (.bool (decide (u.regions > 255)))), (30, (.bool (decide (u.index > 100000000)))), (5, (.bool (decide (u.channel < 0)))), (4, (.int .i64 u.channel)), (3, (.pointer (some ⟨b_1, 0, none⟩))), (1, (.pointer (some ⟨b_1, 0, none⟩))), (0, (.agg (ua u u.A u.c)))]) (by kernel_rfl)
                refine then_normal (wp_ret ?_)
                refine H.ret1 (fn := Tryd.f19) Tryd.results19 (RV.tmp_ (v := (.bool false)) (by kernel_rfl)) ?_
                exact ⟨by unfold validU; rw [show fieldsOk u = false from decide_eq_false (by omega)]; rfl, (HP.below (by kernel_rfl))⟩
              ·have g68p := of_decide_eq_false g68
               refine H.s 69 fun a H => ?_
               refine H.s 70 fun a H => ?_
               refine H.s 71 fun a H => ?_
               refine H.v 72 (.bool false) fun a H => ?_
               refine H.v 73 (.bool false) fun a H => ?_
               refine H.s 74 fun a H => ?_
               refine H.s 75 fun a H => ?_
               refine H.s 76 fun a H => ?_
               refine H.s 77 fun a H => ?_
               refine H.v 78 (.bool false) fun a H => ?_
               refine H.v 79 (.bool false) fun a H => ?_
               refine H.s 80 fun a H => ?_
               refine H.s 81 fun a H => ?_
               refine H.s 82 fun a H => ?_
               refine H.v 83 (.bool false) fun a H => ?_
               refine H.v 2 (.bool false) fun a H => ?_
               refine wpList_nil ?_
               have H := H.keep (L' := [(2, (.bool false)), (64, (.bool (decide (u.regions > 255)))), (30, (.bool (decide (u.index > 100000000)))), (5, (.bool (decide (u.channel < 0)))), (4, (.int .i64 u.channel)), (3, (.pointer (some ⟨b_1, 0, none⟩))), (1, (.pointer (some ⟨b_1, 0, none⟩))), (0, (.agg (ua u u.A u.c)))]) (by kernel_rfl)
               refine then_normal (wp_ret ?_)
               refine H.ret1 (fn := Tryd.f19) Tryd.results19 (RV.tmp_ (v := (.bool false)) (by kernel_rfl)) ?_
               exact ⟨by unfold validU; rw [show fieldsOk u = false from decide_eq_false (by omega)]; rfl, (HP.below (by kernel_rfl))⟩
set_option maxRecDepth 100000 in
set_option maxHeartbeats 4000000 in
theorem clock_any (t : Nat) (w : World) (ht : t < 9223372036854775808) :
  Calls Tryd.prog 52 #[.int .i64 ((t : Nat) : Int)] w fun e w' => e = .returned (.string (bstr (clockP t))) ∧ Below w.heap.size w w' := by
 have HP := Hp.start w
 refine w_enter 19 [(0, (.int .i64 ((t : Nat) : Int)))] Tryd.func52 rfl Tryd.ntmps52 (by kernel_rfl) (by kernel_rfl) fun a H => ?_
 refine wp_seq (w_region ?_)
 refine H.v 2 (.string (bstr ([]))) fun a H => ?_
 refine wpList_nil (then_normal (wp_seq (w_region ?_)))
 refine H.alloc HP 3 (fun b => (.pointer (some ⟨b, 0, none⟩))) 119 [(.int .u8 0), (.int .u8 0), (.int .u8 0), (.int .u8 0), (.int .u8 0)] (by kernel_rfl) (fun w => by kernel_rfl) fun b_1 w_2 a H HP => ?_
 refine wpList_nil (then_normal (wp_seq (wp_seq (w_region ?_))))
 refine H.v 5 (.int .i64 0) fun a H => ?_
 refine wpList_nil (then_normal (wp_block ?_))
 refine w_loop (fun mm a wv => (mm = 5 ∧ Sl 19 [(5, (.int .i64 0)), (3, (.pointer (some ⟨b_1, 0, none⟩))), (0, (.int .i64 ((t : Nat) : Int))), (2, (.string (bstr ([]))))] a ∧ Hp w wv [bx b_1 119 [(.int .u8 0), (.int .u8 0), (.int .u8 0), (.int .u8 0), (.int .u8 0)] true] []) ∨ (mm = 4 ∧ Sl 19 [(5, (.int .i64 1)), (3, (.pointer (some ⟨b_1, 0, none⟩))), (0, (.int .i64 ((t : Nat) : Int))), (2, (.string (bstr ([]))))] a ∧ Hp w wv [bx b_1 119 [(.int .u8 0), (.int .u8 0), (.int .u8 0), (.int .u8 0), (.int .u8 ((t / 2 ^ 0 % 256 : Nat) : Int))] true] []) ∨ (mm = 3 ∧ Sl 19 [(5, (.int .i64 2)), (3, (.pointer (some ⟨b_1, 0, none⟩))), (0, (.int .i64 ((t : Nat) : Int))), (2, (.string (bstr ([]))))] a ∧ Hp w wv [bx b_1 119 [(.int .u8 0), (.int .u8 0), (.int .u8 0), (.int .u8 ((t / 2 ^ 8 % 256 : Nat) : Int)), (.int .u8 ((t / 2 ^ 0 % 256 : Nat) : Int))] true] []) ∨ (mm = 2 ∧ Sl 19 [(5, (.int .i64 3)), (3, (.pointer (some ⟨b_1, 0, none⟩))), (0, (.int .i64 ((t : Nat) : Int))), (2, (.string (bstr ([]))))] a ∧ Hp w wv [bx b_1 119 [(.int .u8 0), (.int .u8 0), (.int .u8 ((t / 2 ^ 16 % 256 : Nat) : Int)), (.int .u8 ((t / 2 ^ 8 % 256 : Nat) : Int)), (.int .u8 ((t / 2 ^ 0 % 256 : Nat) : Int))] true] []) ∨ (mm = 1 ∧ Sl 19 [(5, (.int .i64 4)), (3, (.pointer (some ⟨b_1, 0, none⟩))), (0, (.int .i64 ((t : Nat) : Int))), (2, (.string (bstr ([]))))] a ∧ Hp w wv [bx b_1 119 [(.int .u8 0), (.int .u8 ((t / 2 ^ 24 % 256 : Nat) : Int)), (.int .u8 ((t / 2 ^ 16 % 256 : Nat) : Int)), (.int .u8 ((t / 2 ^ 8 % 256 : Nat) : Int)), (.int .u8 ((t / 2 ^ 0 % 256 : Nat) : Int))] true] []) ∨ (mm = 0 ∧ Sl 19 [(5, (.int .i64 5)), (3, (.pointer (some ⟨b_1, 0, none⟩))), (0, (.int .i64 ((t : Nat) : Int))), (2, (.string (bstr ([]))))] a ∧ Hp w wv [bx b_1 119 [(.int .u8 ((t / 2 ^ 32 % 256 : Nat) : Int)), (.int .u8 ((t / 2 ^ 24 % 256 : Nat) : Int)), (.int .u8 ((t / 2 ^ 16 % 256 : Nat) : Int)), (.int .u8 ((t / 2 ^ 8 % 256 : Nat) : Int)), (.int .u8 ((t / 2 ^ 0 % 256 : Nat) : Int))] true] [])) 5 (.inl ⟨rfl, H.keep (by kernel_rfl), HP⟩) ?_
 rintro mm a w_3 (⟨rfl, H, HP⟩ | ⟨rfl, H, HP⟩ | ⟨rfl, H, HP⟩ | ⟨rfl, H, HP⟩ | ⟨rfl, H, HP⟩ | ⟨rfl, H, HP⟩)
 ·refine wp_seq (w_region ?_)
  refine H.v 6 (.bool true) fun a H => ?_
  refine wpList_nil (then_normal (wp_seq ?_))
  refine w_ift H rfl ?_
  refine wp_skip (then_normal (wp_seq (wp_block (wp_seq (w_region ?_)))))
  refine H.v 7 (.int .i64 0) fun a H => ?_
  refine H.v 4 (.int .i64 0) fun a H => ?_
  refine wpList_nil (then_normal (w_region ?_))
  refine H.v 8 (.int .i64 0) fun a H => ?_
  refine H.valE 9 (.int .i64 (IntKind.i64.wrap (4 - 0))) (.int .i64 4) (by kernel_rfl) (by kernel_rfl) (by kernel_rfl) fun a H => ?_
  refine H.v 10 (.int .i64 ((t : Nat) : Int)) fun a H => ?_
  refine H.v 11 (.int .i64 0) fun a H => ?_
  refine H.valE 12 (.int .i64 (IntKind.i64.wrap (8 * 0))) (.int .i64 0) (by kernel_rfl) (by kernel_rfl) (by kernel_rfl) fun a H => ?_
  refine H.valE 13 (.int .i64 (((t : Nat) : Int).fdiv (2 ^ 0))) (.int .i64 ((t / 2 ^ 0 : Nat) : Int)) (by kernel_rfl) (by kernel_rfl) ((congrArg (Value.int .i64) (shr_nat (a := t) (c := 0)))) fun a H => ?_
  refine H.valE 14 (.int .u8 (IntKind.u8.wrap ((t / 2 ^ 0 : Nat) : Int))) (.int .u8 ((t / 2 ^ 0 % 256 : Nat) : Int)) (by kernel_rfl) (by kernel_rfl) ((congrArg (Value.int .u8) (wrap_u8_nat _))) fun a H => ?_
  refine H.v 15 (.pointer (some ⟨b_1, 4, none⟩)) fun a H => ?_
  refine H.store HP 0 b_1 4 1 119 _ true (.int .u8 ((t / 2 ^ 0 % 256 : Nat) : Int)) [bx b_1 119 [(.int .u8 0), (.int .u8 0), (.int .u8 0), (.int .u8 0), (.int .u8 ((t / 2 ^ 0 % 256 : Nat) : Int))] true] (by kernel_rfl) (by kernel_rfl) (by kernel_rfl) rfl (by kernel_rfl) (by kernel_rfl) (by kernel_rfl) (by kernel_rfl) (by kernel_rfl) fun w_4 a H HP => ?_
  refine wpList_nil (inb_normal (then_normal (w_region ?_)))
  refine H.valE 16 (.int .i64 (IntKind.i64.wrap (0 + 1))) (.int .i64 1) (by kernel_rfl) (by kernel_rfl) (by kernel_rfl) fun a H => ?_
  refine H.v 5 (.int .i64 1) fun a H => ?_
  refine wpList_nil (then_normal ?_)
  exact ⟨4, by omega, .inr (.inl ⟨rfl, H.keep (by kernel_rfl), HP⟩)⟩
 ·refine wp_seq (w_region ?_)
  refine H.v 6 (.bool true) fun a H => ?_
  refine wpList_nil (then_normal (wp_seq ?_))
  refine w_ift H rfl ?_
  refine wp_skip (then_normal (wp_seq (wp_block (wp_seq (w_region ?_)))))
  refine H.v 7 (.int .i64 1) fun a H => ?_
  refine H.v 4 (.int .i64 1) fun a H => ?_
  refine wpList_nil (then_normal (w_region ?_))
  refine H.v 8 (.int .i64 1) fun a H => ?_
  refine H.valE 9 (.int .i64 (IntKind.i64.wrap (4 - 1))) (.int .i64 3) (by kernel_rfl) (by kernel_rfl) (by kernel_rfl) fun a H => ?_
  refine H.v 10 (.int .i64 ((t : Nat) : Int)) fun a H => ?_
  refine H.v 11 (.int .i64 1) fun a H => ?_
  refine H.valE 12 (.int .i64 (IntKind.i64.wrap (8 * 1))) (.int .i64 8) (by kernel_rfl) (by kernel_rfl) (by kernel_rfl) fun a H => ?_
  refine H.valE 13 (.int .i64 (((t : Nat) : Int).fdiv (2 ^ 8))) (.int .i64 ((t / 2 ^ 8 : Nat) : Int)) (by kernel_rfl) (by kernel_rfl) ((congrArg (Value.int .i64) (shr_nat (a := t) (c := 8)))) fun a H => ?_
  refine H.valE 14 (.int .u8 (IntKind.u8.wrap ((t / 2 ^ 8 : Nat) : Int))) (.int .u8 ((t / 2 ^ 8 % 256 : Nat) : Int)) (by kernel_rfl) (by kernel_rfl) ((congrArg (Value.int .u8) (wrap_u8_nat _))) fun a H => ?_
  refine H.v 15 (.pointer (some ⟨b_1, 3, none⟩)) fun a H => ?_
  refine H.store HP 0 b_1 3 1 119 _ true (.int .u8 ((t / 2 ^ 8 % 256 : Nat) : Int)) [bx b_1 119 [(.int .u8 0), (.int .u8 0), (.int .u8 0), (.int .u8 ((t / 2 ^ 8 % 256 : Nat) : Int)), (.int .u8 ((t / 2 ^ 0 % 256 : Nat) : Int))] true] (by kernel_rfl) (by kernel_rfl) (by kernel_rfl) rfl (by kernel_rfl) (by kernel_rfl) (by kernel_rfl) (by kernel_rfl) (by kernel_rfl) fun w_5 a H HP => ?_
  refine wpList_nil (inb_normal (then_normal (w_region ?_)))
  refine H.valE 16 (.int .i64 (IntKind.i64.wrap (1 + 1))) (.int .i64 2) (by kernel_rfl) (by kernel_rfl) (by kernel_rfl) fun a H => ?_
  refine H.v 5 (.int .i64 2) fun a H => ?_
  refine wpList_nil (then_normal ?_)
  exact ⟨3, by omega, .inr (.inr (.inl ⟨rfl, H.keep (by kernel_rfl), HP⟩))⟩
 ·refine wp_seq (w_region ?_)
  refine H.v 6 (.bool true) fun a H => ?_
  refine wpList_nil (then_normal (wp_seq ?_))
  refine w_ift H rfl ?_
  refine wp_skip (then_normal (wp_seq (wp_block (wp_seq (w_region ?_)))))
  refine H.v 7 (.int .i64 2) fun a H => ?_
  refine H.v 4 (.int .i64 2) fun a H => ?_
  refine wpList_nil (then_normal (w_region ?_))
  refine H.v 8 (.int .i64 2) fun a H => ?_
  refine H.valE 9 (.int .i64 (IntKind.i64.wrap (4 - 2))) (.int .i64 2) (by kernel_rfl) (by kernel_rfl) (by kernel_rfl) fun a H => ?_
  refine H.v 10 (.int .i64 ((t : Nat) : Int)) fun a H => ?_
  refine H.v 11 (.int .i64 2) fun a H => ?_
  refine H.valE 12 (.int .i64 (IntKind.i64.wrap (8 * 2))) (.int .i64 16) (by kernel_rfl) (by kernel_rfl) (by kernel_rfl) fun a H => ?_
  refine H.valE 13 (.int .i64 (((t : Nat) : Int).fdiv (2 ^ 16))) (.int .i64 ((t / 2 ^ 16 : Nat) : Int)) (by kernel_rfl) (by kernel_rfl) ((congrArg (Value.int .i64) (shr_nat (a := t) (c := 16)))) fun a H => ?_
  refine H.valE 14 (.int .u8 (IntKind.u8.wrap ((t / 2 ^ 16 : Nat) : Int))) (.int .u8 ((t / 2 ^ 16 % 256 : Nat) : Int)) (by kernel_rfl) (by kernel_rfl) ((congrArg (Value.int .u8) (wrap_u8_nat _))) fun a H => ?_
  refine H.v 15 (.pointer (some ⟨b_1, 2, none⟩)) fun a H => ?_
  refine H.store HP 0 b_1 2 1 119 _ true (.int .u8 ((t / 2 ^ 16 % 256 : Nat) : Int)) [bx b_1 119 [(.int .u8 0), (.int .u8 0), (.int .u8 ((t / 2 ^ 16 % 256 : Nat) : Int)), (.int .u8 ((t / 2 ^ 8 % 256 : Nat) : Int)), (.int .u8 ((t / 2 ^ 0 % 256 : Nat) : Int))] true] (by kernel_rfl) (by kernel_rfl) (by kernel_rfl) rfl (by kernel_rfl) (by kernel_rfl) (by kernel_rfl) (by kernel_rfl) (by kernel_rfl) fun w_6 a H HP => ?_
  refine wpList_nil (inb_normal (then_normal (w_region ?_)))
  refine H.valE 16 (.int .i64 (IntKind.i64.wrap (2 + 1))) (.int .i64 3) (by kernel_rfl) (by kernel_rfl) (by kernel_rfl) fun a H => ?_
  refine H.v 5 (.int .i64 3) fun a H => ?_
  refine wpList_nil (then_normal ?_)
  exact ⟨2, by omega, .inr (.inr (.inr (.inl ⟨rfl, H.keep (by kernel_rfl), HP⟩)))⟩
 ·refine wp_seq (w_region ?_)
  refine H.v 6 (.bool true) fun a H => ?_
  refine wpList_nil (then_normal (wp_seq ?_))
  refine w_ift H rfl ?_
  refine wp_skip (then_normal (wp_seq (wp_block (wp_seq (w_region ?_)))))
  refine H.v 7 (.int .i64 3) fun a H => ?_
  refine H.v 4 (.int .i64 3) fun a H => ?_
  refine wpList_nil (then_normal (w_region ?_))
  refine H.v 8 (.int .i64 3) fun a H => ?_
  refine H.valE 9 (.int .i64 (IntKind.i64.wrap (4 - 3))) (.int .i64 1) (by kernel_rfl) (by kernel_rfl) (by kernel_rfl) fun a H => ?_
  refine H.v 10 (.int .i64 ((t : Nat) : Int)) fun a H => ?_
  refine H.v 11 (.int .i64 3) fun a H => ?_
  refine H.valE 12 (.int .i64 (IntKind.i64.wrap (8 * 3))) (.int .i64 24) (by kernel_rfl) (by kernel_rfl) (by kernel_rfl) fun a H => ?_
  refine H.valE 13 (.int .i64 (((t : Nat) : Int).fdiv (2 ^ 24))) (.int .i64 ((t / 2 ^ 24 : Nat) : Int)) (by kernel_rfl) (by kernel_rfl) ((congrArg (Value.int .i64) (shr_nat (a := t) (c := 24)))) fun a H => ?_
  refine H.valE 14 (.int .u8 (IntKind.u8.wrap ((t / 2 ^ 24 : Nat) : Int))) (.int .u8 ((t / 2 ^ 24 % 256 : Nat) : Int)) (by kernel_rfl) (by kernel_rfl) ((congrArg (Value.int .u8) (wrap_u8_nat _))) fun a H => ?_
  refine H.v 15 (.pointer (some ⟨b_1, 1, none⟩)) fun a H => ?_
  refine H.store HP 0 b_1 1 1 119 _ true (.int .u8 ((t / 2 ^ 24 % 256 : Nat) : Int)) [bx b_1 119 [(.int .u8 0), (.int .u8 ((t / 2 ^ 24 % 256 : Nat) : Int)), (.int .u8 ((t / 2 ^ 16 % 256 : Nat) : Int)), (.int .u8 ((t / 2 ^ 8 % 256 : Nat) : Int)), (.int .u8 ((t / 2 ^ 0 % 256 : Nat) : Int))] true] (by kernel_rfl) (by kernel_rfl) (by kernel_rfl) rfl (by kernel_rfl) (by kernel_rfl) (by kernel_rfl) (by kernel_rfl) (by kernel_rfl) fun w_7 a H HP => ?_
  refine wpList_nil (inb_normal (then_normal (w_region ?_)))
  refine H.valE 16 (.int .i64 (IntKind.i64.wrap (3 + 1))) (.int .i64 4) (by kernel_rfl) (by kernel_rfl) (by kernel_rfl) fun a H => ?_
  refine H.v 5 (.int .i64 4) fun a H => ?_
  refine wpList_nil (then_normal ?_)
  exact ⟨1, by omega, .inr (.inr (.inr (.inr (.inl ⟨rfl, H.keep (by kernel_rfl), HP⟩))))⟩
 ·refine wp_seq (w_region ?_)
  refine H.v 6 (.bool true) fun a H => ?_
  refine wpList_nil (then_normal (wp_seq ?_))
  refine w_ift H rfl ?_
  refine wp_skip (then_normal (wp_seq (wp_block (wp_seq (w_region ?_)))))
  refine H.v 7 (.int .i64 4) fun a H => ?_
  refine H.v 4 (.int .i64 4) fun a H => ?_
  refine wpList_nil (then_normal (w_region ?_))
  refine H.v 8 (.int .i64 4) fun a H => ?_
  refine H.valE 9 (.int .i64 (IntKind.i64.wrap (4 - 4))) (.int .i64 0) (by kernel_rfl) (by kernel_rfl) (by kernel_rfl) fun a H => ?_
  refine H.v 10 (.int .i64 ((t : Nat) : Int)) fun a H => ?_
  refine H.v 11 (.int .i64 4) fun a H => ?_
  refine H.valE 12 (.int .i64 (IntKind.i64.wrap (8 * 4))) (.int .i64 32) (by kernel_rfl) (by kernel_rfl) (by kernel_rfl) fun a H => ?_
  refine H.valE 13 (.int .i64 (((t : Nat) : Int).fdiv (2 ^ 32))) (.int .i64 ((t / 2 ^ 32 : Nat) : Int)) (by kernel_rfl) (by kernel_rfl) ((congrArg (Value.int .i64) (shr_nat (a := t) (c := 32)))) fun a H => ?_
  refine H.valE 14 (.int .u8 (IntKind.u8.wrap ((t / 2 ^ 32 : Nat) : Int))) (.int .u8 ((t / 2 ^ 32 % 256 : Nat) : Int)) (by kernel_rfl) (by kernel_rfl) ((congrArg (Value.int .u8) (wrap_u8_nat _))) fun a H => ?_
  refine H.v 15 (.pointer (some ⟨b_1, 0, none⟩)) fun a H => ?_
  refine H.store HP 0 b_1 0 1 119 _ true (.int .u8 ((t / 2 ^ 32 % 256 : Nat) : Int)) [bx b_1 119 [(.int .u8 ((t / 2 ^ 32 % 256 : Nat) : Int)), (.int .u8 ((t / 2 ^ 24 % 256 : Nat) : Int)), (.int .u8 ((t / 2 ^ 16 % 256 : Nat) : Int)), (.int .u8 ((t / 2 ^ 8 % 256 : Nat) : Int)), (.int .u8 ((t / 2 ^ 0 % 256 : Nat) : Int))] true] (by kernel_rfl) (by kernel_rfl) (by kernel_rfl) rfl (by kernel_rfl) (by kernel_rfl) (by kernel_rfl) (by kernel_rfl) (by kernel_rfl) fun w_8 a H HP => ?_
  refine wpList_nil (inb_normal (then_normal (w_region ?_)))
  refine H.valE 16 (.int .i64 (IntKind.i64.wrap (4 + 1))) (.int .i64 5) (by kernel_rfl) (by kernel_rfl) (by kernel_rfl) fun a H => ?_
  refine H.v 5 (.int .i64 5) fun a H => ?_
  refine wpList_nil (then_normal ?_)
  exact ⟨0, by omega, .inr (.inr (.inr (.inr (.inr (⟨rfl, H.keep (by kernel_rfl), HP⟩)))))⟩
 ·refine wp_seq (w_region ?_)
  refine H.v 6 (.bool false) fun a H => ?_
  refine wpList_nil (then_normal (wp_seq ?_))
  refine w_iff H rfl ?_
  refine wp_exit (then_exit (then_exit ?_))
  refine w_exit_here ?_
  refine then_normal (wp_seq (w_region ?_))
  refine H.u 17 (.slice (some ⟨b_1, 0, none⟩) 5 5) (ex_arrslice (n := 5) (e := 5) (sz := 1) (by kernel_rfl) (by kernel_rfl) (by omega) (by kernel_rfl)) fun a H => ?_
  refine H.u 18 (.string (bstr (clockP t))) (ex_b2sR (l := (clockP t)) (e := 5) (m := 5) (c := 5) (by kernel_rfl) (clock_rd (HP.at_ 0 rfl)) (by kernel_rfl) (by kernel_rfl) (by kernel_rfl)) fun a H => ?_
  refine H.v 2 (.string (bstr (clockP t))) fun a H => ?_
  refine wpList_nil (then_normal (wp_ret ?_))
  refine H.ret1 (fn := Tryd.f52) Tryd.results52 (RV.tmp_ (v := (.string (bstr (clockP t)))) (by kernel_rfl)) ?_
  exact ⟨rfl, (HP.below (by kernel_rfl))⟩
set_option maxRecDepth 100000 in
set_option maxHeartbeats 4000000 in
theorem number_any (base b : Nat) (v : Value) (bs : List UInt8) (A : Option Addr) (n c : Nat) (zs : List Int) (w : World) (hB : (bldR base b v bs).F w) (hz : Rd w 1 A n (ints zs)) (hd : ∀ k, rowFp n A k → k ≠ b ∧ v.ownBlock ≠ some k) (hzb : ∀ z ∈ zs, -wmax ≤ z ∧ z ≤ wmax) (hn : n ≤ 1000) (hlen : bs.length ≤ 1000000) (hbase : base ≤ w.heap.size) :
  Calls Tryd.prog 72 #[.slice A n c, .pointer (some ⟨b, 0, none⟩)] w fun e w' => e = .returned (.tuple #[]) ∧ ∃ v', (bldR base b v' (bs ++ encInts zs)).F w' ∧ Agree w w' (bldR base b v bs).fp ∧ ∀ k, v'.ownBlock = some k → v.ownBlock = some k ∨ w.heap.size ≤ k := by
 have hzl : zs.length = n := by have := hz.1; simp [ints] at this; exact this
 have HP := (Hp.takeBld hB).keepF ⟨rowFp n A, fun w => Rd w 1 A n (ints zs)⟩ hz (fun _ _ h hk hs => h.keep hk hs) (fun k hk => ⟨row_lt0 hz hk, by
  intro x hx; simp only [List.mem_singleton] at hx; subst hx; rintro ((h | h) | h)
  ·exact (hd k hk).1 h
  ·exact (hd k hk).2 h
  ·exact (hd k hk).2 h⟩)
 refine w_enter 21 [(0, (.slice A n c)), (1, (.pointer (some ⟨b, 0, none⟩)))] Tryd.func72 rfl Tryd.ntmps72 (by kernel_rfl) (by kernel_rfl) fun a H => ?_
 refine wp_seq (w_region ?_)
 refine H.v 7 (.slice A n c) fun a H => ?_
 refine H.v 8 (.int .i64 ((n : Nat) : Int)) fun a H => ?_
 refine H.v 9 (.int .i64 0) fun a H => ?_
 refine wpList_nil (then_normal (wp_block ?_))
 refine w_loop (fun mm a wv => ∃ (j : Nat), ∃ (v1 : Value), n - j = mm ∧ Sl 21 [(9, (.int .i64 ((j : Nat) : Int))), (8, (.int .i64 ((n : Nat) : Int))), (7, (.slice A n c)), (1, (.pointer (some ⟨b, 0, none⟩)))] a ∧ Hp w wv [(bldV v base b v1 (bs ++ encInts (zs.take j)))] [⟨rowFp n A, fun w => Rd w 1 A n (ints zs)⟩] ∧ (j ≤ n) ∧ (∀ k, v1.ownBlock = some k → v.ownBlock = some k ∨ w.heap.size ≤ k)) (n - 0) ?_ ?_
 ·exact ⟨0, v, (by omega), H.keep (by kernel_rfl), (by rw [List.take_zero, show encInts [] = [] from rfl, List.append_nil]; exact HP), by omega, (fun k hk => .inl hk)⟩
 rintro mm a w_1 ⟨j, v1, hmeas, H, HP, hj, hvv⟩
 refine wp_seq (w_region ?_)
 refine H.v 10 (.bool (decide (((j : Nat) : Int) < ((n : Nat) : Int)))) fun a H => ?_
 refine wpList_nil (then_normal (wp_seq ?_))
 refine w_if H rfl (fun g10 => ?_) (fun g10 => ?_)
 ·have g10p := of_decide_eq_true g10
  refine wp_skip (then_normal (wp_seq (wp_block (wp_seq ?_))))
  have hRD := HP.fact 0 rfl
  obtain ⟨b0, off, hA, hbl, hcell⟩ := hRD.2.resolve_left (by omega)
  subst hA
  have pa : w_1.cell? ⟨b0, off + j * 1, none⟩ = some (.int .i64 (zs.getD j 0)) := by rw [Nat.mul_one, hcell j (by omega)]; exact ints_getD (by omega)
  have hzj := hzb (zs.getD j 0) (int_mem (by omega))
  refine w_region ?_
  refine H.u 11 (.pointer (some ⟨b0, off + j * 1, none⟩)) (ex_index (b := b0) (off := off) (len := n) (cap := c) (e := 3) (k := 1) (ik := .i64) (i := ((j : Nat) : Int)) (m := j) (by kernel_rfl) (by kernel_rfl) (by omega) (by omega) (by kernel_rfl) (by kernel_rfl)) fun a H => ?_
  refine H.u 12 (.int .i64 (zs.getD j 0)) (ex_load1 (by kernel_rfl) (by kernel_rfl) (pa)) fun a H => ?_
  refine H.v 4 (.int .i64 (zs.getD j 0)) fun a H => ?_
  refine wpList_nil (then_normal (wp_seq (w_region ?_)))
  refine H.v 14 (.int .i64 (zs.getD j 0)) fun a H => ?_
  refine H.call 15 (by kernel_rfl) (Eq.trans (by kernel_rfl : _ = (callFunc 73 #[(.int .i64 (zs.getD j 0))]).run Tryd.prog w_1) (Tryd.call73 _ _)) (putInt_any (zs.getD j 0) w_1 hzj.1 hzj.2) ?_
  rintro e w_2 ⟨rfl, hb⟩
  refine ⟨_, rfl, ?_⟩
  intro a H
  have HP := HP.next hb
  have HP0 := HP
  refine H.v 13 (.tuple #[(.string (bstr (encInt (zs.getD j 0)))), (.int .i64 0)]) fun a H => ?_
  refine H.v 16 (.string (bstr (encInt (zs.getD j 0)))) fun a H => ?_
  refine H.v 17 (.int .i64 0) fun a H => ?_
  refine H.v 5 (.string (bstr (encInt (zs.getD j 0)))) fun a H => ?_
  refine H.v 6 (.int .i64 0) fun a H => ?_
  refine wpList_nil (then_normal (w_region ?_))
  refine H.v 18 (.string (bstr (encInt (zs.getD j 0)))) fun a H => ?_
  refine H.call 19 (by kernel_rfl) (Eq.trans (by kernel_rfl : _ = (callFunc 64 #[(.pointer (some ⟨b, 0, none⟩)), (.string (bstr (encInt (zs.getD j 0))))]).run Tryd.prog w_2) (Tryd.call64 _ _)) (writeStr_any base b v1 (bs ++ encInts (zs.take j)) (encInt (zs.getD j 0)) w_2 (HP.held (x := bldV v base b v1 (bs ++ encInts (zs.take j))) 0 rfl) (by have h1 := encInts_len (zs.take j); have h2 := (encInt_len (zs.getD j 0)).2; rw [List.length_append]; rw [List.length_take] at h1; omega) (Nat.le_trans hbase HP.size)) ?_
  rintro e w_4 ⟨rfl, v_3, hF, hag, hvn⟩
  refine ⟨_, rfl, ?_⟩
  intro a H
  have HP := HP.wroteV 0 rfl [(bldV v base b v_3 ((bs ++ encInts (zs.take j)) ++ (encInt (zs.getD j 0))))] (by kernel_rfl) hF hag hvn hvv
  have hvv_v_3 : ∀ k, (v_3).ownBlock = some k → v.ownBlock = some k ∨ w.heap.size ≤ k := fun k hk => (hvn k hk).elim (fun h => hvv k h) (fun h => .inr (Nat.le_trans HP0.size h))
  refine wpList_nil (inb_normal (then_normal (w_region ?_)))
  refine H.valE 20 (.int .i64 (IntKind.i64.wrap (((j : Nat) : Int) + 1))) (.int .i64 (((j : Nat) : Int) + 1)) (by kernel_rfl) (by kernel_rfl) ((by rw [wrap_ini64 _ (by omega)])) fun a H => ?_
  refine H.v 9 (.int .i64 (((j : Nat) : Int) + 1)) fun a H => ?_
  refine wpList_nil (then_normal ?_)
  have H := H.as 9 (.int .i64 ((j + 1 : Nat) : Int)) rfl rfl
  refine ⟨_, ?_, j + 1, v_3, rfl, H.keep (by kernel_rfl), (by rw [take_int (by omega), encInts_snoc, ← List.append_assoc]; exact HP), by omega, hvv_v_3⟩
  omega
 ·have g10p := of_decide_eq_false g10
  refine wp_exit (then_exit (then_exit ?_))
  refine w_exit_here ?_
  refine H.end0 (fn := Tryd.f72) Tryd.results72  ?_
  exact ⟨rfl, v1, by rw [List.take_of_length_le (by omega)] at HP; exact HP.held (x := bldV v base b v1 (bs ++ encInts zs)) 0 rfl, HP.endBld hvv, hvv⟩
set_option maxRecDepth 100000 in
set_option maxHeartbeats 4000000 in
theorem text_any (base b : Nat) (v : Value) (bs l : List UInt8) (w : World) (hB : (bldR base b v bs).F w) (hl : l.length ≤ 65536) (hlen : bs.length ≤ 1000000) (hbase : base ≤ w.heap.size) :
  Calls Tryd.prog 74 #[.string (bstr l), .pointer (some ⟨b, 0, none⟩)] w fun e w' => e = .returned (.tuple #[]) ∧ ∃ v', (bldR base b v' (bs ++ encStr l)).F w' ∧ Agree w w' (bldR base b v bs).fp ∧ ∀ k, v'.ownBlock = some k → v.ownBlock = some k ∨ w.heap.size ≤ k := by
 have hvv : ∀ k, v.ownBlock = some k → v.ownBlock = some k ∨ w.heap.size ≤ k := fun k h => .inl h
 have HP := Hp.takeBld hB
 refine w_enter 12 [(0, (.string (bstr l))), (1, (.pointer (some ⟨b, 0, none⟩)))] Tryd.func74 rfl Tryd.ntmps74 (by kernel_rfl) (by kernel_rfl) fun a H => ?_
 refine wp_seq (w_region ?_)
 refine H.v 6 (.string (bstr l)) fun a H => ?_
 refine H.call 7 (by kernel_rfl) (Eq.trans (by kernel_rfl : _ = (callFunc 75 #[(.string (bstr l))]).run Tryd.prog w) (Tryd.call75 _ _)) (putString_any l w hl) ?_
 rintro e w_1 ⟨rfl, hb⟩
 refine ⟨_, rfl, ?_⟩
 intro a H
 have HP := HP.next hb
 have HP0 := HP
 refine H.v 5 (.tuple #[(.string (bstr (encStr l))), (.int .i64 0)]) fun a H => ?_
 refine H.v 8 (.string (bstr (encStr l))) fun a H => ?_
 refine H.v 9 (.int .i64 0) fun a H => ?_
 refine H.v 3 (.string (bstr (encStr l))) fun a H => ?_
 refine H.v 4 (.int .i64 0) fun a H => ?_
 refine wpList_nil (then_normal (w_region ?_))
 refine H.v 10 (.string (bstr (encStr l))) fun a H => ?_
 refine H.call 11 (by kernel_rfl) (Eq.trans (by kernel_rfl : _ = (callFunc 64 #[(.pointer (some ⟨b, 0, none⟩)), (.string (bstr (encStr l)))]).run Tryd.prog w_1) (Tryd.call64 _ _)) (writeStr_any base b v bs (encStr l) w_1 (HP.held (x := bldV v base b v bs) 0 rfl) (by unfold encStr; have h2 := (encInt_len ((l.length : Nat) : Int)).2; rw [List.length_append]; omega) (Nat.le_trans hbase HP.size)) ?_
 rintro e w_3 ⟨rfl, v_2, hF, hag, hvn⟩
 refine ⟨_, rfl, ?_⟩
 intro a H
 have HP := HP.wroteV 0 rfl [(bldV v base b v_2 (bs ++ (encStr l)))] (by kernel_rfl) hF hag hvn hvv
 have hvv_v_2 : ∀ k, (v_2).ownBlock = some k → v.ownBlock = some k ∨ w.heap.size ≤ k := fun k hk => (hvn k hk).elim (fun h => hvv k h) (fun h => .inr (Nat.le_trans HP0.size h))
 refine wpList_nil ?_
 refine H.end0 (fn := Tryd.f74) Tryd.results74  ?_
 exact ⟨rfl, v_2, HP.held (x := bldV v base b v_2 (bs ++ encStr l)) 0 rfl, HP.endBld hvv_v_2, hvv_v_2⟩
set_option maxRecDepth 100000 in
set_option maxHeartbeats 4000000 in
theorem body_any (u : Un) (w : World) (hL : Laid w) (hu : IsAlts w u.A u.al.length u.al) (hv : validU u = true) :
  Calls Tryd.prog 53 #[u.val] w fun e w' => e = .returned (.string (bstr (bodyP u))) ∧ Below w.heap.size w w' := by
 obtain ⟨hvf, hvo⟩ := validU_facts hv
 obtain ⟨f1, f2, f3, f4, f5, f6, f7, f8, f9, f10, f11, f12, f13, f14, f15, f16⟩ := hvf
 have hol := encOpt_len hvo
 have HP := Hp.start w
 refine w_enter 57 [(0, (.agg (ua u u.A u.c)))] Tryd.func53 rfl Tryd.ntmps53 (by kernel_rfl) (by kernel_rfl) fun a H => ?_
 refine wp_seq (w_region ?_)
 refine H.alloc HP 1 (fun b => (.pointer (some ⟨b, 0, none⟩))) 28 (ul u u.A u.c) (by kernel_rfl) (fun w => by kernel_rfl) fun b_1 w_2 a H HP => ?_
 refine H.v 2 (.string (bstr ([]))) fun a H => ?_
 refine wpList_nil (then_normal (wp_seq (w_region ?_)))
 refine H.alloc HP 3 (fun b => (.pointer (some ⟨b, 0, none⟩))) 59 [(.pointer none), (.slice none 0 0)] (by kernel_rfl) (fun w => by kernel_rfl) fun b_3 w_4 a H HP => ?_
 refine wpList_nil ?_
 have HP := HP.toBld 0 5 rfl [(bldR w.heap.size b_3 (.slice none 0 0) []), bx b_1 28 (ul u u.A u.c) true] (by kernel_rfl)
 refine then_normal (wp_seq (w_region ?_))
 refine H.v 9 (.func (.func 72) #[] #[(.pointer (some ⟨b_3, 0, none⟩))]) fun a H => ?_
 refine H.v 4 (.func (.func 72) #[] #[(.pointer (some ⟨b_3, 0, none⟩))]) fun a H => ?_
 refine wpList_nil (then_normal (wp_seq (w_region ?_)))
 refine H.v 10 (.func (.func 74) #[] #[(.pointer (some ⟨b_3, 0, none⟩))]) fun a H => ?_
 refine H.v 5 (.func (.func 74) #[] #[(.pointer (some ⟨b_3, 0, none⟩))]) fun a H => ?_
 refine wpList_nil (then_normal (wp_seq (w_region ?_)))
 refine H.v 6 (.int .i64 0) fun a H => ?_
 refine wpList_nil (then_normal ?_)
 refine w_cut (fun a wv => ∃ (kz : Int), Sl 57 [(6, (.int .i64 kz)), (1, (.pointer (some ⟨b_1, 0, none⟩))), (2, (.string (bstr ([])))), (3, (.pointer (some ⟨b_3, 0, none⟩))), (4, (.func (.func 72) #[] #[(.pointer (some ⟨b_3, 0, none⟩))])), (5, (.func (.func 74) #[] #[(.pointer (some ⟨b_3, 0, none⟩))]))] a ∧ Hp w wv [(bldR w.heap.size b_3 (.slice none 0 0) []), bx b_1 28 (ul u u.A u.c) true] [] ∧ (kz = if u.key = true then 1 else 0)) ?_ ?_
 ·
  refine wp_seq (w_region ?_)
  refine H.v 11 (.pointer (some ⟨b_1, 5, none⟩)) fun a H => ?_
  refine H.u 12 (.bool u.key) (ex_load1 (by kernel_rfl) (by kernel_rfl) (HP.cell 1 rfl 5 rfl)) fun a H => ?_
  refine wpList_nil (then_normal ?_)
  refine w_if H rfl (fun g12 => ?_) (fun g12 => ?_)
  ·have g12p := g12
   refine w_region ?_
   refine H.v 6 (.int .i64 1) fun a H => ?_
   refine wpList_nil (then_normal ?_)
   exact ⟨1, H.keep (by kernel_rfl), HP, (by rw [g12]; rfl)⟩
  ·have g12p := g12
   refine wp_skip (then_normal ?_)
   exact ⟨0, H.keep (by kernel_rfl), HP, (by rw [g12]; rfl)⟩
 ·
  rintro a w_5 ⟨kz, H, HP, hkz⟩
  refine wp_seq ?_
  have hkz1 : 0 ≤ kz ∧ kz ≤ 1 := by rw [hkz]; split <;> omega
  refine w_region ?_
  refine H.v 13 (.func (.func 72) #[] #[(.pointer (some ⟨b_3, 0, none⟩))]) fun a H => ?_
  refine H.v 14 (.pointer (some ⟨b_1, 0, none⟩)) fun a H => ?_
  refine H.u 15 (.int .i64 u.channel) (ex_load1 (by kernel_rfl) (by kernel_rfl) (HP.cell 1 rfl 0 rfl)) fun a H => ?_
  refine H.v 16 (.pointer (some ⟨b_1, 1, none⟩)) fun a H => ?_
  refine H.u 17 (.int .i64 u.frame) (ex_load1 (by kernel_rfl) (by kernel_rfl) (HP.cell 1 rfl 1 rfl)) fun a H => ?_
  refine H.v 18 (.pointer (some ⟨b_1, 2, none⟩)) fun a H => ?_
  refine H.u 19 (.int .i64 u.version) (ex_load1 (by kernel_rfl) (by kernel_rfl) (HP.cell 1 rfl 2 rfl)) fun a H => ?_
  refine H.v 20 (.pointer (some ⟨b_1, 3, none⟩)) fun a H => ?_
  refine H.u 21 (.int .i64 u.item) (ex_load1 (by kernel_rfl) (by kernel_rfl) (HP.cell 1 rfl 3 rfl)) fun a H => ?_
  refine H.v 22 (.pointer (some ⟨b_1, 4, none⟩)) fun a H => ?_
  refine H.u 23 (.int .i64 u.index) (ex_load1 (by kernel_rfl) (by kernel_rfl) (HP.cell 1 rfl 4 rfl)) fun a H => ?_
  refine H.v 24 (.int .i64 kz) fun a H => ?_
  refine H.alloc HP 25 (fun b => (.slice (some ⟨b, 0, none⟩) 6 6)) 3 [(.int .i64 u.channel), (.int .i64 u.frame), (.int .i64 u.version), (.int .i64 u.item), (.int .i64 u.index), (.int .i64 kz)] (by kernel_rfl) (fun w => by kernel_rfl) fun b_6 w_7 a H HP => ?_
  refine H.call 26 (by kernel_rfl) (Eq.trans (by kernel_rfl : _ = (callFunc 72 #[(.slice (some ⟨b_6, 0, none⟩) 6 6), (.pointer (some ⟨b_3, 0, none⟩))]).run Tryd.prog w_7) (Tryd.call72 _ _)) (number_any w.heap.size b_3 (.slice none 0 0) ([]) (some ⟨b_6, 0, none⟩) 6 6 [u.channel, u.frame, u.version, u.item, u.index, kz] w_7 (HP.held 1 rfl) (Rd.of_box (HP.at_ 0 rfl) rfl) (fun q hq => by obtain ⟨_, o, e⟩ := hq; cases e; exact ⟨fun e => pairwise_at HP.apart (i := 0) (j := 1) rfl rfl (by omega) _ rfl (.inl e), fun e => pairwise_at HP.apart (i := 0) (j := 1) rfl rfl (by omega) _ rfl (.inr e)⟩) (by intro z hz; simp only [List.mem_cons, List.not_mem_nil, or_false] at hz; unfold wmax; rcases hz with rfl | rfl | rfl | rfl | rfl | rfl <;> omega) (by omega) (by have e1 := encInts_len [u.channel, u.frame, u.version, u.item, u.index, kz]; have e2 := encInts_len [u.regions, u.gain]; have := (encInt_len ((u.data.length : Nat) : Int)).2; have := (encInt_len ((u.caption.length : Nat) : Int)).2; have := (encInt_len (((encOpt u.os u.of u.al).length : Nat) : Int)).2; simp only [List.length_cons, List.length_nil] at e1 e2; first | (simp only [List.length_append, encStr, List.length_nil]; omega) | simp) HP.size) ?_
  rintro e w_9 ⟨rfl, v_8, hF, hag, hvn⟩
  refine ⟨_, rfl, ?_⟩
  intro a H
  have HP := HP.wrote 1 rfl [bx b_6 3 [(.int .i64 u.channel), (.int .i64 u.frame), (.int .i64 u.version), (.int .i64 u.item), (.int .i64 u.index), (.int .i64 kz)] true, (bldR w.heap.size b_3 v_8 ([] ++ encInts [u.channel, u.frame, u.version, u.item, u.index, kz])), bx b_1 28 (ul u u.A u.c) true] (by kernel_rfl) hF hag hvn
  refine wpList_nil ?_
  have H := H.keep (L' := [(6, (.int .i64 kz)), (1, (.pointer (some ⟨b_1, 0, none⟩))), (2, (.string (bstr ([])))), (3, (.pointer (some ⟨b_3, 0, none⟩))), (4, (.func (.func 72) #[] #[(.pointer (some ⟨b_3, 0, none⟩))])), (5, (.func (.func 74) #[] #[(.pointer (some ⟨b_3, 0, none⟩))]))]) (by kernel_rfl)
  refine then_normal (wp_seq (w_region ?_))
  refine H.v 27 (.func (.func 74) #[] #[(.pointer (some ⟨b_3, 0, none⟩))]) fun a H => ?_
  refine H.v 28 (.pointer (some ⟨b_1, 6, none⟩)) fun a H => ?_
  refine H.u 29 (.string (bstr u.data)) (ex_load1 (by kernel_rfl) (by kernel_rfl) (HP.cell 2 rfl 6 rfl)) fun a H => ?_
  refine H.call 30 (by kernel_rfl) (Eq.trans (by kernel_rfl : _ = (callFunc 74 #[(.string (bstr u.data)), (.pointer (some ⟨b_3, 0, none⟩))]).run Tryd.prog w_9) (Tryd.call74 _ _)) (text_any w.heap.size b_3 v_8 ([] ++ encInts [u.channel, u.frame, u.version, u.item, u.index, kz]) u.data w_9 (HP.held 1 rfl) (by omega) (by have e1 := encInts_len [u.channel, u.frame, u.version, u.item, u.index, kz]; have e2 := encInts_len [u.regions, u.gain]; have := (encInt_len ((u.data.length : Nat) : Int)).2; have := (encInt_len ((u.caption.length : Nat) : Int)).2; have := (encInt_len (((encOpt u.os u.of u.al).length : Nat) : Int)).2; simp only [List.length_cons, List.length_nil] at e1 e2; first | (simp only [List.length_append, encStr, List.length_nil]; omega) | simp) HP.size) ?_
  rintro e w_11 ⟨rfl, v_10, hF, hag, hvn⟩
  refine ⟨_, rfl, ?_⟩
  intro a H
  have HP := HP.wrote 1 rfl [bx b_6 3 [(.int .i64 u.channel), (.int .i64 u.frame), (.int .i64 u.version), (.int .i64 u.item), (.int .i64 u.index), (.int .i64 kz)] true, (bldR w.heap.size b_3 v_10 (([] ++ encInts [u.channel, u.frame, u.version, u.item, u.index, kz]) ++ encStr u.data)), bx b_1 28 (ul u u.A u.c) true] (by kernel_rfl) hF hag hvn
  refine wpList_nil (then_normal (wp_seq (w_region ?_)))
  refine H.v 31 (.func (.func 72) #[] #[(.pointer (some ⟨b_3, 0, none⟩))]) fun a H => ?_
  refine H.v 32 (.pointer (some ⟨b_1, 7, none⟩)) fun a H => ?_
  refine H.u 33 (.int .i64 u.regions) (ex_load1 (by kernel_rfl) (by kernel_rfl) (HP.cell 2 rfl 7 rfl)) fun a H => ?_
  refine H.v 34 (.pointer (some ⟨b_1, 8, none⟩)) fun a H => ?_
  refine H.u 35 (.int .i64 u.gain) (ex_load1 (by kernel_rfl) (by kernel_rfl) (HP.cell 2 rfl 8 rfl)) fun a H => ?_
  refine H.alloc HP 36 (fun b => (.slice (some ⟨b, 0, none⟩) 2 2)) 3 [(.int .i64 u.regions), (.int .i64 u.gain)] (by kernel_rfl) (fun w => by kernel_rfl) fun b_12 w_13 a H HP => ?_
  refine H.call 37 (by kernel_rfl) (Eq.trans (by kernel_rfl : _ = (callFunc 72 #[(.slice (some ⟨b_12, 0, none⟩) 2 2), (.pointer (some ⟨b_3, 0, none⟩))]).run Tryd.prog w_13) (Tryd.call72 _ _)) (number_any w.heap.size b_3 v_10 (([] ++ encInts [u.channel, u.frame, u.version, u.item, u.index, kz]) ++ encStr u.data) (some ⟨b_12, 0, none⟩) 2 2 [u.regions, u.gain] w_13 (HP.held 2 rfl) (Rd.of_box (HP.at_ 0 rfl) rfl) (fun q hq => by obtain ⟨_, o, e⟩ := hq; cases e; exact ⟨fun e => pairwise_at HP.apart (i := 0) (j := 2) rfl rfl (by omega) _ rfl (.inl e), fun e => pairwise_at HP.apart (i := 0) (j := 2) rfl rfl (by omega) _ rfl (.inr e)⟩) (by intro z hz; simp only [List.mem_cons, List.not_mem_nil, or_false] at hz; unfold wmax; rcases hz with rfl | rfl <;> omega) (by omega) (by have e1 := encInts_len [u.channel, u.frame, u.version, u.item, u.index, kz]; have e2 := encInts_len [u.regions, u.gain]; have := (encInt_len ((u.data.length : Nat) : Int)).2; have := (encInt_len ((u.caption.length : Nat) : Int)).2; have := (encInt_len (((encOpt u.os u.of u.al).length : Nat) : Int)).2; simp only [List.length_cons, List.length_nil] at e1 e2; first | (simp only [List.length_append, encStr, List.length_nil]; omega) | simp) HP.size) ?_
  rintro e w_15 ⟨rfl, v_14, hF, hag, hvn⟩
  refine ⟨_, rfl, ?_⟩
  intro a H
  have HP := HP.wrote 2 rfl [bx b_12 3 [(.int .i64 u.regions), (.int .i64 u.gain)] true, bx b_6 3 [(.int .i64 u.channel), (.int .i64 u.frame), (.int .i64 u.version), (.int .i64 u.item), (.int .i64 u.index), (.int .i64 kz)] true, (bldR w.heap.size b_3 v_14 ((([] ++ encInts [u.channel, u.frame, u.version, u.item, u.index, kz]) ++ encStr u.data) ++ encInts [u.regions, u.gain])), bx b_1 28 (ul u u.A u.c) true] (by kernel_rfl) hF hag hvn
  refine wpList_nil (then_normal (wp_seq (w_region ?_)))
  refine H.v 38 (.func (.func 74) #[] #[(.pointer (some ⟨b_3, 0, none⟩))]) fun a H => ?_
  refine H.v 39 (.pointer (some ⟨b_1, 9, none⟩)) fun a H => ?_
  refine H.u 40 (.string (bstr u.caption)) (ex_load1 (by kernel_rfl) (by kernel_rfl) (HP.cell 3 rfl 9 rfl)) fun a H => ?_
  refine H.call 41 (by kernel_rfl) (Eq.trans (by kernel_rfl : _ = (callFunc 74 #[(.string (bstr u.caption)), (.pointer (some ⟨b_3, 0, none⟩))]).run Tryd.prog w_15) (Tryd.call74 _ _)) (text_any w.heap.size b_3 v_14 ((([] ++ encInts [u.channel, u.frame, u.version, u.item, u.index, kz]) ++ encStr u.data) ++ encInts [u.regions, u.gain]) u.caption w_15 (HP.held 2 rfl) (by omega) (by have e1 := encInts_len [u.channel, u.frame, u.version, u.item, u.index, kz]; have e2 := encInts_len [u.regions, u.gain]; have := (encInt_len ((u.data.length : Nat) : Int)).2; have := (encInt_len ((u.caption.length : Nat) : Int)).2; have := (encInt_len (((encOpt u.os u.of u.al).length : Nat) : Int)).2; simp only [List.length_cons, List.length_nil] at e1 e2; first | (simp only [List.length_append, encStr, List.length_nil]; omega) | simp) HP.size) ?_
  rintro e w_17 ⟨rfl, v_16, hF, hag, hvn⟩
  refine ⟨_, rfl, ?_⟩
  intro a H
  have HP := HP.wrote 2 rfl [bx b_12 3 [(.int .i64 u.regions), (.int .i64 u.gain)] true, bx b_6 3 [(.int .i64 u.channel), (.int .i64 u.frame), (.int .i64 u.version), (.int .i64 u.item), (.int .i64 u.index), (.int .i64 kz)] true, (bldR w.heap.size b_3 v_16 (((([] ++ encInts [u.channel, u.frame, u.version, u.item, u.index, kz]) ++ encStr u.data) ++ encInts [u.regions, u.gain]) ++ encStr u.caption)), bx b_1 28 (ul u u.A u.c) true] (by kernel_rfl) hF hag hvn
  refine wpList_nil (then_normal (wp_seq (w_region ?_)))
  refine H.v 43 (.pointer (some ⟨b_1, 10, none⟩)) fun a H => ?_
  refine H.u 44 (.agg #[(.int .i64 u.os), (.int .i64 u.of), (.slice u.A u.al.length u.c)]) (ex_loadN (vs := [(.int .i64 u.os), (.int .i64 u.of), (.slice u.A u.al.length u.c)]) (by kernel_rfl) (by kernel_rfl) (by kernel_rfl) rfl (HP.cells 3 rfl 10 3 (by kernel_rfl))) fun a H => ?_
  refine H.call 45 (by kernel_rfl) (Eq.trans (by kernel_rfl : _ = (callFunc 76 #[(.agg #[(.int .i64 u.os), (.int .i64 u.of), (.slice u.A u.al.length u.c)])]).run Tryd.prog w_17) (Tryd.call76 _ _)) ((by have hh := encode_any u.os u.of u.A u.al.length u.c u.al w_17 (hu.below (HP.below (by kernel_rfl))); unfold encV at hh; rw [if_pos hvo] at hh; exact hh)) ?_
  rintro e w_18 ⟨rfl, hb⟩
  refine ⟨_, rfl, ?_⟩
  intro a H
  have HP := HP.next hb
  refine H.v 42 (.tuple #[(.string (bstr (encOpt u.os u.of u.al))), (.int .i64 0)]) fun a H => ?_
  refine H.v 46 (.string (bstr (encOpt u.os u.of u.al))) fun a H => ?_
  refine H.v 47 (.int .i64 0) fun a H => ?_
  refine H.v 7 (.string (bstr (encOpt u.os u.of u.al))) fun a H => ?_
  refine H.v 8 (.int .i64 0) fun a H => ?_
  refine wpList_nil (then_normal (wp_seq (w_region ?_)))
  refine H.v 48 (.func (.func 74) #[] #[(.pointer (some ⟨b_3, 0, none⟩))]) fun a H => ?_
  refine H.v 49 (.string (bstr (encOpt u.os u.of u.al))) fun a H => ?_
  refine H.call 50 (by kernel_rfl) (Eq.trans (by kernel_rfl : _ = (callFunc 74 #[(.string (bstr (encOpt u.os u.of u.al))), (.pointer (some ⟨b_3, 0, none⟩))]).run Tryd.prog w_18) (Tryd.call74 _ _)) (text_any w.heap.size b_3 v_16 (((([] ++ encInts [u.channel, u.frame, u.version, u.item, u.index, kz]) ++ encStr u.data) ++ encInts [u.regions, u.gain]) ++ encStr u.caption) (encOpt u.os u.of u.al) w_18 (HP.held 2 rfl) (by omega) (by have e1 := encInts_len [u.channel, u.frame, u.version, u.item, u.index, kz]; have e2 := encInts_len [u.regions, u.gain]; have := (encInt_len ((u.data.length : Nat) : Int)).2; have := (encInt_len ((u.caption.length : Nat) : Int)).2; have := (encInt_len (((encOpt u.os u.of u.al).length : Nat) : Int)).2; simp only [List.length_cons, List.length_nil] at e1 e2; first | (simp only [List.length_append, encStr, List.length_nil]; omega) | simp) HP.size) ?_
  rintro e w_20 ⟨rfl, v_19, hF, hag, hvn⟩
  refine ⟨_, rfl, ?_⟩
  intro a H
  have HP := HP.wrote 2 rfl [bx b_12 3 [(.int .i64 u.regions), (.int .i64 u.gain)] true, bx b_6 3 [(.int .i64 u.channel), (.int .i64 u.frame), (.int .i64 u.version), (.int .i64 u.item), (.int .i64 u.index), (.int .i64 kz)] true, (bldR w.heap.size b_3 v_19 ((((([] ++ encInts [u.channel, u.frame, u.version, u.item, u.index, kz]) ++ encStr u.data) ++ encInts [u.regions, u.gain]) ++ encStr u.caption) ++ encStr (encOpt u.os u.of u.al))), bx b_1 28 (ul u u.A u.c) true] (by kernel_rfl) hF hag hvn
  refine wpList_nil (then_normal (wp_seq (w_region ?_)))
  refine H.v 51 (.func (.func 72) #[] #[(.pointer (some ⟨b_3, 0, none⟩))]) fun a H => ?_
  refine H.call 52 (by kernel_rfl) (Eq.trans (by kernel_rfl : _ = (callFunc 32 #[(.pointer (some ⟨b_3, 0, none⟩))]).run Tryd.prog w_20) (Tryd.call32 _ _)) (str_any w.heap.size b_3 v_19 ((((([] ++ encInts [u.channel, u.frame, u.version, u.item, u.index, kz]) ++ encStr u.data) ++ encInts [u.regions, u.gain]) ++ encStr u.caption) ++ encStr (encOpt u.os u.of u.al)) w_20 (HP.held 2 rfl) (by intro h; have e1 := congrArg List.length h; have e2 := (encInt_len ((u.data.length : Nat) : Int)).1; simp only [List.length_append, List.length_nil, encStr] at e1; omega)) ?_
  rintro e w_21 ⟨rfl, hF, hag⟩
  refine ⟨_, rfl, ?_⟩
  intro a H
  have HP := HP.wrote 2 rfl [bx b_12 3 [(.int .i64 u.regions), (.int .i64 u.gain)] true, bx b_6 3 [(.int .i64 u.channel), (.int .i64 u.frame), (.int .i64 u.version), (.int .i64 u.item), (.int .i64 u.index), (.int .i64 kz)] true, (bldR w.heap.size b_3 v_19 ((((([] ++ encInts [u.channel, u.frame, u.version, u.item, u.index, kz]) ++ encStr u.data) ++ encInts [u.regions, u.gain]) ++ encStr u.caption) ++ encStr (encOpt u.os u.of u.al))), bx b_1 28 (ul u u.A u.c) true] (by kernel_rfl) hF hag (fun k hk => .inl hk)
  refine H.call 53 (by kernel_rfl) (Eq.trans (by kernel_rfl : _ = (callFunc 77 #[(.string (bstr ((((([] ++ encInts [u.channel, u.frame, u.version, u.item, u.index, kz]) ++ encStr u.data) ++ encInts [u.regions, u.gain]) ++ encStr u.caption) ++ encStr (encOpt u.os u.of u.al))))]).run Tryd.prog w_21) (Tryd.call77 _ _)) (sum_any ((((([] ++ encInts [u.channel, u.frame, u.version, u.item, u.index, kz]) ++ encStr u.data) ++ encInts [u.regions, u.gain]) ++ encStr u.caption) ++ encStr (encOpt u.os u.of u.al)) w_21 (hL.below (HP.below (by kernel_rfl))) (by have : ((((([] ++ encInts [u.channel, u.frame, u.version, u.item, u.index, kz]) ++ encStr u.data) ++ encInts [u.regions, u.gain]) ++ encStr u.caption) ++ encStr (encOpt u.os u.of u.al)).length ≤ 1000000 := (by have e1 := encInts_len [u.channel, u.frame, u.version, u.item, u.index, kz]; have e2 := encInts_len [u.regions, u.gain]; have := (encInt_len ((u.data.length : Nat) : Int)).2; have := (encInt_len ((u.caption.length : Nat) : Int)).2; have := (encInt_len (((encOpt u.os u.of u.al).length : Nat) : Int)).2; simp only [List.length_cons, List.length_nil] at e1 e2; first | (simp only [List.length_append, encStr, List.length_nil]; omega) | simp); omega)) ?_
  rintro e w_22 ⟨rfl, hb⟩
  refine ⟨_, rfl, ?_⟩
  intro a H
  have HP := HP.next hb
  have hsl := sumP_lt ((((([] ++ encInts [u.channel, u.frame, u.version, u.item, u.index, kz]) ++ encStr u.data) ++ encInts [u.regions, u.gain]) ++ encStr u.caption) ++ encStr (encOpt u.os u.of u.al))
  refine H.alloc HP 54 (fun b => (.slice (some ⟨b, 0, none⟩) 1 1)) 3 [(.int .i64 ((sumP ((((([] ++ encInts [u.channel, u.frame, u.version, u.item, u.index, kz]) ++ encStr u.data) ++ encInts [u.regions, u.gain]) ++ encStr u.caption) ++ encStr (encOpt u.os u.of u.al)) : Nat) : Int))] (by kernel_rfl) (fun w => by kernel_rfl) fun b_23 w_24 a H HP => ?_
  refine H.call 55 (by kernel_rfl) (Eq.trans (by kernel_rfl : _ = (callFunc 72 #[(.slice (some ⟨b_23, 0, none⟩) 1 1), (.pointer (some ⟨b_3, 0, none⟩))]).run Tryd.prog w_24) (Tryd.call72 _ _)) (number_any w.heap.size b_3 v_19 ((((([] ++ encInts [u.channel, u.frame, u.version, u.item, u.index, kz]) ++ encStr u.data) ++ encInts [u.regions, u.gain]) ++ encStr u.caption) ++ encStr (encOpt u.os u.of u.al)) (some ⟨b_23, 0, none⟩) 1 1 [((sumP ((((([] ++ encInts [u.channel, u.frame, u.version, u.item, u.index, kz]) ++ encStr u.data) ++ encInts [u.regions, u.gain]) ++ encStr u.caption) ++ encStr (encOpt u.os u.of u.al)) : Nat) : Int)] w_24 (HP.held 3 rfl) (Rd.of_box (HP.at_ 0 rfl) rfl) (fun q hq => by obtain ⟨_, o, e⟩ := hq; cases e; exact ⟨fun e => pairwise_at HP.apart (i := 0) (j := 3) rfl rfl (by omega) _ rfl (.inl e), fun e => pairwise_at HP.apart (i := 0) (j := 3) rfl rfl (by omega) _ rfl (.inr e)⟩) (by intro z hz; simp only [List.mem_cons, List.not_mem_nil, or_false] at hz; unfold wmax; rcases hz with rfl <;> omega) (by omega) (by have e1 := encInts_len [u.channel, u.frame, u.version, u.item, u.index, kz]; have e2 := encInts_len [u.regions, u.gain]; have := (encInt_len ((u.data.length : Nat) : Int)).2; have := (encInt_len ((u.caption.length : Nat) : Int)).2; have := (encInt_len (((encOpt u.os u.of u.al).length : Nat) : Int)).2; simp only [List.length_cons, List.length_nil] at e1 e2; first | (simp only [List.length_append, encStr, List.length_nil]; omega) | simp) HP.size) ?_
  rintro e w_26 ⟨rfl, v_25, hF, hag, hvn⟩
  refine ⟨_, rfl, ?_⟩
  intro a H
  have HP := HP.wrote 3 rfl [bx b_23 3 [(.int .i64 ((sumP ((((([] ++ encInts [u.channel, u.frame, u.version, u.item, u.index, kz]) ++ encStr u.data) ++ encInts [u.regions, u.gain]) ++ encStr u.caption) ++ encStr (encOpt u.os u.of u.al)) : Nat) : Int))] true, bx b_12 3 [(.int .i64 u.regions), (.int .i64 u.gain)] true, bx b_6 3 [(.int .i64 u.channel), (.int .i64 u.frame), (.int .i64 u.version), (.int .i64 u.item), (.int .i64 u.index), (.int .i64 kz)] true, (bldR w.heap.size b_3 v_25 (((((([] ++ encInts [u.channel, u.frame, u.version, u.item, u.index, kz]) ++ encStr u.data) ++ encInts [u.regions, u.gain]) ++ encStr u.caption) ++ encStr (encOpt u.os u.of u.al)) ++ encInts [((sumP ((((([] ++ encInts [u.channel, u.frame, u.version, u.item, u.index, kz]) ++ encStr u.data) ++ encInts [u.regions, u.gain]) ++ encStr u.caption) ++ encStr (encOpt u.os u.of u.al)) : Nat) : Int)])), bx b_1 28 (ul u u.A u.c) true] (by kernel_rfl) hF hag hvn
  refine wpList_nil (then_normal (wp_seq (w_region ?_)))
  refine H.call 56 (by kernel_rfl) (Eq.trans (by kernel_rfl : _ = (callFunc 32 #[(.pointer (some ⟨b_3, 0, none⟩))]).run Tryd.prog w_26) (Tryd.call32 _ _)) (str_any w.heap.size b_3 v_25 (((((([] ++ encInts [u.channel, u.frame, u.version, u.item, u.index, kz]) ++ encStr u.data) ++ encInts [u.regions, u.gain]) ++ encStr u.caption) ++ encStr (encOpt u.os u.of u.al)) ++ encInts [((sumP ((((([] ++ encInts [u.channel, u.frame, u.version, u.item, u.index, kz]) ++ encStr u.data) ++ encInts [u.regions, u.gain]) ++ encStr u.caption) ++ encStr (encOpt u.os u.of u.al)) : Nat) : Int)]) w_26 (HP.held 3 rfl) (by intro h; have e1 := congrArg List.length h; have e2 := (encInt_len ((u.data.length : Nat) : Int)).1; simp only [List.length_append, List.length_nil, encStr] at e1; omega)) ?_
  rintro e w_27 ⟨rfl, hF, hag⟩
  refine ⟨_, rfl, ?_⟩
  intro a H
  have HP := HP.wrote 3 rfl [bx b_23 3 [(.int .i64 ((sumP ((((([] ++ encInts [u.channel, u.frame, u.version, u.item, u.index, kz]) ++ encStr u.data) ++ encInts [u.regions, u.gain]) ++ encStr u.caption) ++ encStr (encOpt u.os u.of u.al)) : Nat) : Int))] true, bx b_12 3 [(.int .i64 u.regions), (.int .i64 u.gain)] true, bx b_6 3 [(.int .i64 u.channel), (.int .i64 u.frame), (.int .i64 u.version), (.int .i64 u.item), (.int .i64 u.index), (.int .i64 kz)] true, (bldR w.heap.size b_3 v_25 (((((([] ++ encInts [u.channel, u.frame, u.version, u.item, u.index, kz]) ++ encStr u.data) ++ encInts [u.regions, u.gain]) ++ encStr u.caption) ++ encStr (encOpt u.os u.of u.al)) ++ encInts [((sumP ((((([] ++ encInts [u.channel, u.frame, u.version, u.item, u.index, kz]) ++ encStr u.data) ++ encInts [u.regions, u.gain]) ++ encStr u.caption) ++ encStr (encOpt u.os u.of u.al)) : Nat) : Int)])), bx b_1 28 (ul u u.A u.c) true] (by kernel_rfl) hF hag (fun k hk => .inl hk)
  refine H.v 2 (.string (bstr (((((([] ++ encInts [u.channel, u.frame, u.version, u.item, u.index, kz]) ++ encStr u.data) ++ encInts [u.regions, u.gain]) ++ encStr u.caption) ++ encStr (encOpt u.os u.of u.al)) ++ encInts [((sumP ((((([] ++ encInts [u.channel, u.frame, u.version, u.item, u.index, kz]) ++ encStr u.data) ++ encInts [u.regions, u.gain]) ++ encStr u.caption) ++ encStr (encOpt u.os u.of u.al)) : Nat) : Int)]))) fun a H => ?_
  refine wpList_nil (then_normal (wp_ret ?_))
  refine H.ret1 (fn := Tryd.f53) Tryd.results53 (RV.tmp_ (v := (.string (bstr (((((([] ++ encInts [u.channel, u.frame, u.version, u.item, u.index, kz]) ++ encStr u.data) ++ encInts [u.regions, u.gain]) ++ encStr u.caption) ++ encStr (encOpt u.os u.of u.al)) ++ encInts [((sumP ((((([] ++ encInts [u.channel, u.frame, u.version, u.item, u.index, kz]) ++ encStr u.data) ++ encInts [u.regions, u.gain]) ++ encStr u.caption) ++ encStr (encOpt u.os u.of u.al)) : Nat) : Int)])))) (by kernel_rfl)) ?_
  exact ⟨by rw [bodyP_eq hkz], (HP.below (by kernel_rfl))⟩
end Go.Proofs.YtgdjpaeclicdfaaDoor
