/- Part 4 of the proofs: SymH, WireI, TrC, RcA, WrC, PlH. -/
import Derived.WalkLawsBesides
import Derived.Test.YteeillphhiaopaaGreatDoorZsc
namespace Go.Proofs.YteeillphhiaopaaGreatDoor
set_option maxRecDepth 100000
set_option maxHeartbeats 4000000
open Go.ChangeShapes Go.WideShapes Go.ChangeAt Go.RowKit Go.Shelf
set_option linter.unusedVariables false
set_option linter.unusedSimpArgs false
def ownR (base : Nat) (e : TypeId) (v : Value) (xs : List Value) : HB := ⟨fun k => v.ownBlock = some k, fun w => w.ownsRow base e 1 v xs.length xs, true⟩
theorem ownR_ok (base : Nat) (e : TypeId) (v : Value) (xs : List Value) : (ownR base e v xs).ok := fun w1 w2 h hk _ => own_keep h fun k hv => hk k hv
theorem Hp.nilR {w0 w : World} {L : List HB} {K : List FK} (H : Hp w0 w L K) (e : TypeId) : Hp w0 w (ownR w0.heap.size e (.slice none 0 0) [] :: L) K :=
  H.add _ (World.ownsRow_nil _ _ _ _) (ownR_ok _ _ _ _) (fun k (hk : none = some k) => by cases hk) (fun k (hk : none = some k) => by cases hk) (fun _ k (hk : none = some k) => by cases hk)
theorem ownR_rd {w : World} {base e n c : Nat} {B : Option Addr} {xs : List Value} (h : (ownR base e (.slice B n c) xs).F w) : Rd w 1 B xs.length xs := by
  have hn : n = xs.length := by
    rcases h.2 with ⟨h2, h3⟩ | ⟨g, cap, cur, hv, _⟩
    · cases h2; exact h3.symm
    · cases hv; rfl
  subst hn
  exact Rd.of_own h
theorem ownR_facts {w : World} {base e n c : Nat} {B : Option Addr} {xs : List Value} (h : (ownR base e (.slice B n c) xs).F w) : n = xs.length ∧ n ≤ c ∧ c ≤ maxLen ∧ (B = none → c = 0) := by
  have hn : n = xs.length := by
    rcases h.2 with ⟨h2, h3⟩ | ⟨g, cap, cur, hv, _⟩
    · cases h2; exact h3.symm
    · cases hv; rfl
  subst hn
  exact ⟨rfl, own_facts h⟩
theorem placed_mem {L : List HB} {x : HB} : ∀ {is : List Nat}, x ∈ placed L is → ∃ i ∈ is, L[i]? = some x
  | [], h => by cases h
  | i :: is, h => by
    simp only [placed] at h
    split at h
    · rename_i y hy
      rcases List.mem_cons.1 h with rfl | h
      · exact ⟨i, List.mem_cons_self .., hy⟩
      · obtain ⟨j, hj, e⟩ := placed_mem h; exact ⟨j, List.mem_cons_of_mem _ hj, e⟩
    · obtain ⟨j, hj, e⟩ := placed_mem h; exact ⟨j, List.mem_cons_of_mem _ hj, e⟩
def distinct : List Nat → Bool
  | [] => true
  | i :: is => !is.contains i && distinct is
section
variable {P : Program} {ops : Array Oper} {Q : Exit → Act → World → Prop} {a : Act} {w0 w : World} {rest : List Oper} {n : Nat} {L : List (Nat × Value)} {LH : List HB} {K : List FK} {ty : TypeId} {pos : String} {af : Array Edge} {g : Option (Nat × Bool)} {s x : Operand} {t : TypeId}
theorem wp_appR {KK : Act → World → Prop} {o : Oper} (H : Sl n L a) (HP : Hp w0 w LH K) (d ir : Nat) {v : Value} {xs : List Value} (e : TypeId) {z : Value} {bytes : Nat} (A : Option Addr) (m c : Nat) (news : List Value)
    (ho : o.op = .call { callee := .builtin .append, args := #[s, x], argTypes := #[t, t] }) (hc : chk ops n L o d = true) (ht : P.underlying t = some (.slice e)) (hinf : infoB P e = some (some z, 1, bytes)) (hzs : z.cells.size = 1)
    (hs : ev L s = v) (hi : LH[ir]? = some (ownR w0.heap.size e v xs)) (hx : ev L x = .slice A m c) (hA : A = none → m = 0 ∧ c = 0) (hr : Rd w 1 A m news) (h1 : oneCells news = true)
    (h63 : xs.length + m ≤ maxLen) (hbytes : (xs.length + m) * bytes ≤ 140737488355328)
    (k : ∀ B c' w' a', Sl n ((d, .slice B (xs.length + m) c') :: L) a' → Hp w0 w' (LH.set ir (ownR w0.heap.size e (.slice B (xs.length + m) c') (xs ++ news))) K → KK a' w') : o.wp P a w KK Q := by
  obtain ⟨hd, hn, hk, hs', hw⟩ := chk_spec hc
  have k1 := knowsAll_spec hk s (by rw [ho]; simp [Op.operands, Call.operands])
  have k2 := knowsAll_spec hk x (by rw [ho]; simp [Op.operands, Call.operands])
  obtain ⟨i, hi0, hi1, hi2, hi3⟩ := infoB_spec hinf
  have hF := HP.held ir hi
  have hnew : news.length = m := by have := hr.1; simpa using this
  refine wp_append_rd w s x t ho w0.heap.size e i z 1 bytes ht hi0 hi1 hi2 hi3 hzs (by omega) v xs.length xs ((H.eval k1).trans hs) hF A m c news ((H.eval k2).trans hx) hA hr (oneCells_spec h1) h63 hbytes HP.size ?_
  intro B c' w' hown hg hat
  rw [hd]
  refine k B c' w' _ (H.put _ hn) (HP.mut ir hi _ _ rfl (Agree.of_grown hg fun q e => e) ?_ (ownR_ok _ _ _ _) (fun q hq => (own_lt hown q hq).1) (fun q hq => ?_) (fun q hq hq' => ?_) rfl)
  · show World.ownsRow _ _ _ _ _ _ _
    rw [List.length_append, hnew]
    exact hown
  · rcases hat with hat | hat
    · left; show v.ownBlock = some q; rw [← hat]; exact hq
    · right
      have : (Value.slice B (xs.length + m) c').ownBlock = some q := hq
      rw [hat] at this; cases this; exact Nat.le_refl _
  · have := HP.fresh _ (List.mem_of_getElem? hi) rfl q hq'
    omega
theorem Sl.appR (H : Sl n L a) (HP : Hp w0 w LH K) (d ir : Nat) {v : Value} {xs : List Value} (e : TypeId) {z : Value} {bytes : Nat} (A : Option Addr) (m c : Nat) (news : List Value)
    (hc : chk ops n L ⟨some d, .call { callee := .builtin .append, args := #[s, x], argTypes := #[t, t] }, ty, pos, af, g⟩ d = true) (ht : P.underlying t = some (.slice e)) (hinf : infoB P e = some (some z, 1, bytes)) (hzs : z.cells.size = 1)
    (hs : ev L s = v) (hi : LH[ir]? = some (ownR w0.heap.size e v xs)) (hx : ev L x = .slice A m c) (hA : A = none → m = 0 ∧ c = 0) (hr : Rd w 1 A m news) (h1 : oneCells news = true)
    (h63 : xs.length + m ≤ maxLen) (hbytes : (xs.length + m) * bytes ≤ 140737488355328)
    (k : ∀ B c' w' a', Sl n ((d, .slice B (xs.length + m) c') :: L) a' → Hp w0 w' (LH.set ir (ownR w0.heap.size e (.slice B (xs.length + m) c') (xs ++ news))) K → wpList P ops Q rest a' w') :
    wpList P ops Q (⟨some d, .call { callee := .builtin .append, args := #[s, x], argTypes := #[t, t] }, ty, pos, af, g⟩ :: rest) a w := by
  obtain ⟨_, _, _, _, hw⟩ := chk_spec hc
  exact wpList_wanted (H.wanted hw) (wp_appR H HP d ir e A m c news rfl hc ht hinf hzs hs hi hx hA hr h1 h63 hbytes k)
theorem Op.appR {KK : Act → World → Prop} {i : Nat} (H : Sl n L a) (HP : Hp w0 w LH K) (d ir : Nat) {v : Value} {xs : List Value} (e : TypeId) {z : Value} {bytes : Nat} (A : Option Addr) (m c : Nat) (news : List Value)
    (hop : ops[i]? = some ⟨some d, .call { callee := .builtin .append, args := #[s, x], argTypes := #[t, t] }, ty, pos, af, g⟩)
    (hc : chk ops n L ⟨some d, .call { callee := .builtin .append, args := #[s, x], argTypes := #[t, t] }, ty, pos, af, g⟩ d = true) (ht : P.underlying t = some (.slice e)) (hinf : infoB P e = some (some z, 1, bytes)) (hzs : z.cells.size = 1)
    (hs : ev L s = v) (hi : LH[ir]? = some (ownR w0.heap.size e v xs)) (hx : ev L x = .slice A m c) (hA : A = none → m = 0 ∧ c = 0) (hr : Rd w 1 A m news) (h1 : oneCells news = true)
    (h63 : xs.length + m ≤ maxLen) (hbytes : (xs.length + m) * bytes ≤ 140737488355328)
    (k : ∀ B c' w' a', Sl n ((d, .slice B (xs.length + m) c') :: L) a' → Hp w0 w' (LH.set ir (ownR w0.heap.size e (.slice B (xs.length + m) c') (xs ++ news))) K → KK a' w') : wpOp P ops Q i KK a w := by
  obtain ⟨_, _, _, _, hw⟩ := chk_spec hc
  exact wpOp_wanted hop (H.wanted hw) (wp_appR H HP d ir e A m c news rfl hc ht hinf hzs hs hi hx hA hr h1 h63 hbytes k)
end
def int3 : Option (Int × Nat) → Value
  | none => .tuple #[.int .i64 0, .int .i64 0, .int .i64 10]
  | some (n, e) => .tuple #[.int .i64 n, .int .i64 e, .int .i64 0]
theorem pow128 (j : Nat) : (2 : Nat) ^ (7 * j) = 128 ^ j := by rw [Nat.pow_mul]
theorem pow128_lt {j : Nat} (h : j < 9) : 128 ^ j ≤ 72057594037927936 := by
  have : 128 ^ j ≤ 128 ^ 8 := Nat.pow_le_pow_right (by omega) (by omega)
  simpa using this
theorem u8_wrap64 (x : Nat) (h : x < 256) : IntKind.u64.wrap (x : Int) = x := by
  rw [IntKind.wrap_u64]; omega
theorem join_eq (y j b : Nat) (hy : y < 128 ^ j) (hj : j < 9) (hb : b < 256) :
    bits BinOp.or IntKind.u64 (y : Int) (IntKind.u64.wrap (IntKind.u64.wrap (bits BinOp.and IntKind.u8 (b : Int) 127) * 2 ^ (7 * j))) = ((y + b % 128 * 128 ^ j : Nat) : Int) := by
  have hp := pow128_lt hj
  have h1 : bits BinOp.and IntKind.u8 (b : Int) 127 = ((b % 128 : Nat) : Int) := by
    rw [show (127 : Int) = ((127 : Nat) : Int) from rfl, u8_and_nat b 127 hb (by omega)]
    congr 1
    exact Nat.and_two_pow_sub_one_eq_mod b 7
  rw [h1, u8_wrap64 _ (by omega)]
  have h2 : ((b % 128 : Nat) : Int) * 2 ^ (7 * j) = ((b % 128 * 128 ^ j : Nat) : Int) := by
    rw [← pow128]; push_cast; rfl
  have h3 : b % 128 * 128 ^ j ≤ 127 * 128 ^ j := Nat.mul_le_mul_right _ (by omega)
  rw [h2, IntKind.wrap_u64, show ((b % 128 * 128 ^ j : Nat) : Int) % 18446744073709551616 = ((b % 128 * 128 ^ j : Nat) : Int) by omega]
  rw [u64_or_nat _ _ (by omega) (by omega), Nat.or_comm, nat_join (7 * j) _ _ (by rw [pow128]; exact Nat.mul_mod_left _ _) (by rw [pow128]; exact hy)]
  congr 1
  omega
set_option maxRecDepth 100000 in
set_option maxHeartbeats 4000000 in
theorem wint_any (s : ByteArray) (k : Nat) (w : World) (hs : s.size ≤ 9000000000000000000) (hk : k ≤ s.size) :
    Calls Tryz.prog 134 #[.string s, .int .i64 k] w fun e w' => e = .returned (int3 (rdInt s.data.toList k)) ∧ w = w' := by
  have d0 : decide ((k : Int) < 0) = false := by simp
  have d1 : decide (s.size < k) = false := by simp; omega
  go_enter Tryz.func134, Tryz.ntmps134
  go_wp2_with fail
  go_loop [7, 8] (fun z i => ∃ (j y : Nat), j ≤ 9 ∧ k + j ≤ s.size ∧ i = .int .i64 j ∧ z = .int .u64 y ∧ y < 128 ^ j ∧ vget 9 0 0 (s.data.toList.drop k) = vget (9 - j) j y (s.data.toList.drop (k + j))) (fun _ i => 9 - (intOf i).toNat)
  case atStart => exact ⟨0, 0, by omega, by omega, rfl, rfl, by decide, rfl⟩
  case round =>
    obtain ⟨j, y, hj, hkj, rfl, rfl, hy, hv⟩ := hrel
    have HY := Lib.hid hy
    have HV := Lib.hid hv
    clear hy hv
    have dk : 0 ≤ (k : Int) + j := by omega
    by_cases h9 : j < 9
    · by_cases hl : k + j < s.size
      · have hl1 : (k : Int) + j < s.size := by omega
        have hb := (s[k + j]'hl).toNat_lt
        have hdrop : s.data.toList.drop (k + j) = s[k + j] :: s.data.toList.drop (k + (j + 1)) := by
          have hl' : k + j < s.data.toList.length := by simpa using hl
          rw [List.drop_eq_getElem_cons hl']
          rfl
        have HJ := Lib.hid (join_eq y j (s[k + j]'hl).toNat HY.out h9 hb)
        have HP := Lib.hid (pow128_lt h9)
        have hst : vget (9 - j) j y (s.data.toList.drop (k + j)) = (if 128 ≤ (s[k + j]'hl).toNat then vget (9 - (j + 1)) (j + 1) (y + (s[k + j]'hl).toNat % 128 * 128 ^ j) (s.data.toList.drop (k + (j + 1)))
            else if (s[k + j]'hl).toNat = 0 ∧ 0 < j then none
            else if unzig (y + (s[k + j]'hl).toNat % 128 * 128 ^ j) < -wmax then none
            else some (unzig (y + (s[k + j]'hl).toNat % 128 * 128 ^ j), j + 1)) := by
          rw [hdrop, show 9 - j = (9 - (j + 1)) + 1 by omega, vget]
        have HS := Lib.hid hst
        have hz : y + (s[k + j]'hl).toNat % 128 * 128 ^ j < 128 ^ (j + 1) := by
          rw [Nat.pow_succ]
          have h3 : (s[k + j]'hl).toNat % 128 * 128 ^ j ≤ 127 * 128 ^ j := Nat.mul_le_mul_right _ (by omega)
          have := HY.out
          omega
        have HZ := Lib.hid hz
        clear hst hz hdrop
        go_upto_region 8 with (fail)
        go_cut [7] (fun z wx => z = .int .u64 ((y + (s[k + j]'hl).toNat % 128 * 128 ^ j : Nat) : Int) ∧ w = wx)
        case first =>
          go_wp2_with fail
          go_meet
          exact ⟨congrArg _ HJ.out, rfl⟩
        case rest =>
          obtain ⟨rfl, rfl⟩ := hcut
          generalize y + (s[k + j]'hl).toNat % 128 * 128 ^ j = Z at *
          have hZb : Z < 9223372036854775808 := by
            have h1 := HZ.out
            have h2 : 128 ^ (j + 1) ≤ 128 ^ 9 := Nat.pow_le_pow_right (by omega) (by omega)
            have h3 : (128 : Nat) ^ 9 = 9223372036854775808 := by decide
            omega
          generalize hbb : (s[k + j]'hl).toNat = b at *
          clear hbb
          have fin : ∀ r, vget (9 - j) j y (s.data.toList.drop (k + j)) = r → rdInt s.data.toList k = r.map (fun p => (p.1, k + p.2)) := by
            intro r hr; unfold rdInt; rw [HV.out, hr]
          have FIN := Lib.hid fin
          clear fin
          by_cases h1 : 128 ≤ b
          · have hs1 := HS.out
            rw [if_pos h1] at hs1
            have HS1 := Lib.hid hs1
            have h1i : (128 : Int) ≤ b := by omega
            clear hs1 HS
            go_wp2_with fail
            go_round
            case rel => exact ⟨j + 1, Z, by omega, by omega, by go_num, rfl, HZ.out, HV.out.trans HS1.out⟩
            case measure => simp [intOf]; omega
          · have hs1 := HS.out
            rw [if_neg h1] at hs1
            have h1i : (b : Int) < 128 := by omega
            by_cases h2 : b = 0 ∧ 0 < j
            · rw [if_pos h2] at hs1
              have HF := Lib.hid (FIN.out _ hs1)
              obtain ⟨rfl, h2j⟩ := h2
              have h2i : (0 : Int) < j := by omega
              clear hs1 HS
              go_wp2_with fail
              go_ret3
              exact ⟨by rw [HF.out]; rfl, rfl⟩
            · rw [if_neg h2] at hs1
              have hodd : Z % 2 = 1 → unzig Z = -((Z : Int) / 2) - 1 := by intro ho; unfold unzig; rw [if_pos ho]; omega
              have heven : Z % 2 ≠ 1 → unzig Z = (Z : Int) / 2 := by intro ho; unfold unzig; rw [if_neg ho]; omega
              have F1 : unzig Z < -4611686018427387903 → Hid (rdInt s.data.toList k = none) := fun h3 => Lib.hid (by
                have h3' : unzig Z < -wmax := h3
                have := FIN.out _ hs1; rw [if_pos h3'] at this; exact this)
              have F2 : ¬ unzig Z < -4611686018427387903 → Hid (rdInt s.data.toList k = some (unzig Z, k + (j + 1))) := fun h3 => Lib.hid (by
                have h3' : ¬ unzig Z < -wmax := h3
                have := FIN.out _ hs1; rw [if_neg h3'] at this; exact this)
              have hbj : (((b : Int) == 0) = false) ∨ (b = 0 ∧ j = 0) := by
                by_cases h : b = 0
                · right; omega
                · left; simp; exact h
              have hz2 : (Z % 2 = 1 ∧ ((Z : Int) % 2 == 1) = true ∧ (Z % 2 == 1) = true) ∨ (Z % 2 ≠ 1 ∧ ((Z : Int) % 2 == 1) = false ∧ (Z % 2 == 1) = false) := by
                by_cases h : Z % 2 = 1
                · left; refine ⟨h, ?_, ?_⟩ <;> simp <;> omega
                · right; refine ⟨h, ?_, ?_⟩ <;> simp <;> omega
              clear hs1 HS h2 FIN
              rcases hz2 with ⟨ho, ho1, ho2⟩ | ⟨ho, ho1, ho2⟩
              · have hu := hodd ho
                rw [hu] at F1 F2
                have HU := Lib.hid hu
                clear hodd heven hu ho
                by_cases h3 : -((Z : Int) / 2) - 1 < -4611686018427387903
                · have HF := F1 h3
                  clear F1 F2
                  rcases hbj with hb1 | ⟨rfl, rfl⟩
                  all_goals
                    go_wp2_with fail
                    go_ret3
                    exact ⟨by rw [HF.out]; rfl, rfl⟩
                · have HF := F2 h3
                  clear F1 F2
                  rcases hbj with hb1 | ⟨rfl, rfl⟩
                  all_goals
                    go_wp2_with fail
                    go_ret3
                    exact ⟨by rw [HF.out]; unfold int3; push_cast; simp [Int.add_assoc], rfl⟩
              · have hu := heven ho
                rw [hu] at F1 F2
                have h3 : ¬ (Z : Int) / 2 < -4611686018427387903 := by omega
                have HF := F2 h3
                clear hodd heven hu ho F1 F2
                rcases hbj with hb1 | ⟨rfl, rfl⟩
                all_goals
                  go_wp2_with fail
                  go_ret3
                  exact ⟨by rw [HF.out]; unfold int3; push_cast; simp [Int.add_assoc], rfl⟩
      · have hr : rdInt s.data.toList k = none := by
          unfold rdInt
          rw [HV.out, List.drop_eq_nil_of_le (by simp; omega), show 9 - j = (9 - (j + 1)) + 1 by omega, vget]
          rfl
        have HR := Lib.hid hr
        have hl1 : ¬ (k : Int) + j < s.size := by omega
        clear hr
        go_wp2_with fail
        go_ret3
        exact ⟨by rw [HR.out]; rfl, rfl⟩
    · have hr : rdInt s.data.toList k = none := by
        unfold rdInt
        rw [HV.out, show 9 - j = 0 by omega, vget]
        rfl
      have HR := Lib.hid hr
      have h9d : decide ((j : Int) < 9) = false := by simp; omega
      clear hr
      go_wp2_with fail
      go_ret3
      exact ⟨by rw [HR.out]; rfl, rfl⟩
theorem byte_lt (b : UInt8) : b.toNat < 256 := b.toNat_lt
section
variable {P : Program} {ρ : Operand → Value} {w : World} {x y : Operand} {dst : Option Tmp} {ty e : TypeId} {pos : String} {af : Array Edge} {g : Option (Nat × Bool)}
theorem ex_b2sR {src td : TypeId} {b off c m : Nat} {l : List UInt8} (hx : ρ x = .slice (some ⟨b, off, none⟩) m c) (hr : Rd w 1 (some ⟨b, off, none⟩) m (Lib.byteCells l)) (hs : P.underlying src = some (.slice e)) (he : P.underlying e = some (.int .u8)) (hd : P.underlying td = some .string) :
  (execOp ρ ⟨dst, .convert src td x, ty, pos, af, g⟩).run P w = .ok (.value (.string (bstr l))) w := by
 have hl : l.length = m := by have := hr.1; simpa [Lib.byteCells] using this
 subst hl
 have hc : ∀ j (hj : j < l.length), w.cell? ((⟨b, off, none⟩ : Addr).add j) = some (.int .u8 (l[j].toNat : Int)) := by
  intro j hj
  rcases hr.2 with h0 | ⟨b', o', h1, _, h3⟩
  ·omega
  ·cases h1
   rw [add_plain, h3 j (by omega)]
   simp [Lib.byteCells, hj]
 have := run_convert_bytes_back (P := P) w src td e ⟨b, off, none⟩ c l hs he hd hc
 simp only [execOp, hx, this, Sem.run_bind, Result.andThen_ok, Sem.run_pure]
end
theorem ex_b2sB {P : Program} {ρ : Operand → Value} {w : World} {x : Operand} {dst : Option Tmp} {ty e : TypeId} {pos : String} {af : Array Edge} {g : Option (Nat × Bool)} {src td : TypeId} {B : Option Addr} {c m : Nat} {l : List UInt8} (hx : ρ x = .slice B m c) (hr : Rd w 1 B m (Lib.byteCells l)) (hm : 1 ≤ m) (hs : P.underlying src = some (.slice e)) (he : P.underlying e = some (.int .u8)) (hd : P.underlying td = some .string) :
  (execOp ρ ⟨dst, .convert src td x, ty, pos, af, g⟩).run P w = .ok (.value (.string (bstr l))) w := by
 obtain ⟨b, off, rfl, _⟩ := hr.2.resolve_left (by omega)
 exact ex_b2sR hx hr hs he hd
theorem vput_step {f z : Nat} (h : ¬ z < 128) : vput (f + 1) z = (z % 128 + 128) :: vput f (z / 128) := by
 rw [vput, if_neg h]
theorem byte_one {k : Nat} (h : k < 256) : Lib.byteCells [UInt8.ofNat k] = [Value.int .u8 ((k : Nat) : Int)] := by
 simp only [Lib.byteCells, List.map_cons, List.map_nil, ofNat_toNat h]
def intV : Option (Int × Nat) → Value
 | none => .tuple #[.int .i64 0, .int .i64 0, .int .i64 10]
 | some (n, e) => .tuple #[.int .i64 n, .int .i64 ((e : Nat) : Int), .int .i64 0]
theorem drop_cons {s : List UInt8} {i : Nat} (h : i < s.length) : s.drop i = s.getD i 0 :: s.drop (i + 1) := by
 rw [List.drop_eq_getElem_cons h]
 simp [List.getD, List.getElem?_eq_getElem h]
theorem ex_shl {P : Program} {ρ : Operand → Value} {w : World} {x y : Operand} {dst : Option Tmp} {t ty : TypeId} {t' : TypeId} {pos : String} {af : Array Edge} {g : Option (Nat × Bool)} {a : Int} {c : Nat} (hx : ρ x = .int .u64 a) (hy : ρ y = .int .i64 ((c : Nat) : Int)) (hc : c ≤ 64) :
  (execOp ρ ⟨dst, .binOp .shl t x y t', ty, pos, af, g⟩).run P w = .ok (.value (.int .u64 (IntKind.u64.wrap (a * 2 ^ c)))) w := by
 simp [execOp, hx, hy, binOp, eqGuard, shift_shl_u64 (h₀ := (by omega : (0 : Int) ≤ ((c : Nat) : Int))) (h₁ := (by omega : ((c : Nat) : Int) ≤ 64))]
theorem shl_val {b i M : Nat} (h : b * 128 ^ i = M) (hM : M < 18446744073709551616) : IntKind.u64.wrap (((b : Nat) : Int) * 2 ^ (7 * i)) = ((M : Nat) : Int) := by
 have e : ((b : Nat) : Int) * 2 ^ (7 * i) = ((M : Nat) : Int) := by rw [← h, ← pow128]; push_cast; rfl
 rw [e, wrap_inu64 _ (by omega)]
theorem int_last {s r : List UInt8} {k i z zz : Nat} {b : UInt8} (hR : vget (9 - i) i z (s.drop (k + i)) = vget 9 0 0 (s.drop k)) (hd : s.drop (k + i) = b :: r) (hi : i < 9) (hb : b.toNat < 128) (hz : z + b.toNat % 128 * 128 ^ i = zz) :
  rdInt s k = none ∨ (rdInt s k = some (unzig zz, k + (i + 1)) ∧ -wmax ≤ unzig zz) := by
 unfold rdInt
 rw [← hR, hd, show 9 - i = (9 - (i + 1)) + 1 by omega, vget, if_neg (by omega), hz]
 split
 ·exact .inl rfl
 ·split
  ·exact .inl rfl
  ·exact .inr ⟨rfl, by omega⟩
theorem int_yes {s : List UInt8} {k k2 : Nat} {n : Int} (hk : k ≤ s.length) (hk2 : k2 ≤ s.length) (h0 : (if -wmax ≤ n then 0 else 10 : Int) = 0) (he : (if -wmax ≤ n then encInt n else []) = (s.drop k).take (k2 - k)) (hn : n ≤ wmax) : rdInt s k = some (n, k2) := by
 by_cases h : -wmax ≤ n
 ·rw [if_pos h] at he
  have hl := congrArg List.length he
  rw [List.length_take, List.length_drop] at hl
  have h1 := (encInt_len n).1
  have e : s.take k ++ encInt n ++ s.drop k2 = s := by
   rw [he, List.append_assoc, show s.drop k2 = (s.drop k).drop (k2 - k) by rw [List.drop_drop]; congr 1; omega, List.take_append_drop, List.take_append_drop]
  have := rdInt_enc (s.take k) (s.drop k2) n h hn
  rw [e, List.length_take, Nat.min_eq_left hk] at this
  rw [this]
  congr 2
  omega
 ·rw [if_neg h] at h0; cases h0
theorem int_no {s : List UInt8} {k i zz : Nat} (hk : k ≤ s.length) (hl : rdInt s k = none ∨ (rdInt s k = some (unzig zz, k + (i + 1)) ∧ -wmax ≤ unzig zz)) (h : (if -wmax ≤ unzig zz then 0 else 10 : Int) ≠ 0 ∨ (if -wmax ≤ unzig zz then encInt (unzig zz) else []) ≠ (s.drop k).take (k + i + 1 - k)) : rdInt s k = none := by
 rcases hl with hl | ⟨hl, hw⟩
 ·exact hl
 ·exfalso
  rw [if_pos hw, if_pos hw] at h
  rcases h with h | h
  ·exact h rfl
  ·obtain ⟨_, _, h3, h4, h5⟩ := rdInt_canon hk hl
   apply h
   rw [h5, List.take_left' (by omega)]
theorem int_out {s : List UInt8} {k i z : Nat} (hR : vget (9 - i) i z (s.drop (k + i)) = vget 9 0 0 (s.drop k)) (h : 9 ≤ i ∨ s.length ≤ k + i) : rdInt s k = none := by
 unfold rdInt
 rw [← hR]
 by_cases h9 : 9 ≤ i
 ·rw [show 9 - i = 0 by omega]; rfl
 ·rw [List.drop_of_length_le (by omega), show 9 - i = (9 - (i + 1)) + 1 by omega]; rfl
theorem rzig_any (n : Int) (w : World) (h1 : -wmax ≤ n) (h2 : n ≤ wmax) :
  Calls Tryz.prog 133 #[.int .i64 n] w fun e w' => e = .returned (.int .u64 ((zig n : Nat) : Int)) ∧ Below w.heap.size w w' := by
 have HP := Hp.start w
 unfold wmax at h1 h2
 refine w_enter 13 [(0, (ii n))] Tryz.func133 rfl Tryz.ntmps133 (by kernel_rfl) (by kernel_rfl) fun a H => ?_
 refine sq (rg ?_)
 refine H.v 2 (.int .u64 0) fun a H => ?_
 refine nl (tn (sq (sq (rg ?_))))
 refine H.v 3 (ii n) fun a H => H.v 4 (.bool (decide (n < 0))) fun a H => ?_
 refine nl (tn ?_)
 refine w_if H rfl (fun g4 => ?_) (fun g4 => ?_)
 ·have g4p := of_decide_eq_true g4
  refine sq (rg ?_)
  refine H.v 5 (ii n) fun a H => H.valE 6 (ii (IntKind.i64.wrap (0 - n))) (ii (-n)) (by kernel_rfl) (by kernel_rfl) ((by rw [Int.zero_sub, wrap_ini64 _ (by omega)])) fun a H => H.valE 7 (.int .u64 (IntKind.u64.wrap (-n))) (.int .u64 (-n)) (by kernel_rfl) (by kernel_rfl) ((by rw [wrap_inu64 _ (by omega)])) fun a H => H.valE 8 (.int .u64 (IntKind.u64.wrap ((-n) * 2))) (.int .u64 ((-n) * 2)) (by kernel_rfl) (by kernel_rfl) ((by rw [wrap_inu64 _ (by omega)])) fun a H => H.valE 9 (.int .u64 (IntKind.u64.wrap (((-n) * 2) - 1))) (.int .u64 (((-n) * 2) - 1)) (by kernel_rfl) (by kernel_rfl) ((by rw [wrap_inu64 _ (by omega)])) fun a H => H.v 2 (.int .u64 (((-n) * 2) - 1)) fun a H => ?_
  refine nl (tn (rt (tr ?_)))
  refine H.r1 (.int .u64 (((-n) * 2) - 1)) Tryz.results133 ?_
  exact ⟨congrArg (fun x => Ending.returned (Value.int .u64 x)) (by unfold zig; rw [if_pos (by omega)]; omega), HP.below (by kernel_rfl)⟩
 have g4p := of_decide_eq_false g4
 refine sk (tn (sq (rg ?_)))
 refine H.v 10 (ii n) fun a H => H.valE 11 (.int .u64 (IntKind.u64.wrap n)) (.int .u64 n) (by kernel_rfl) (by kernel_rfl) ((by rw [wrap_inu64 _ (by omega)])) fun a H => H.valE 12 (.int .u64 (IntKind.u64.wrap (n * 2))) (.int .u64 (n * 2)) (by kernel_rfl) (by kernel_rfl) ((by rw [wrap_inu64 _ (by omega)])) fun a H => H.v 2 (.int .u64 (n * 2)) fun a H => ?_
 refine nl (tn (rt ?_))
 refine H.r1 (.int .u64 (n * 2)) Tryz.results133 ?_
 exact ⟨congrArg (fun x => Ending.returned (Value.int .u64 x)) (by unfold zig; rw [if_neg (by omega)]; omega), HP.below (by kernel_rfl)⟩
theorem rputInt_any (n : Int) (w : World) (h1 : -wmax ≤ n) (h2 : n ≤ wmax) :
  Calls Tryz.prog 127 #[.int .i64 n] w fun e w' => e = .returned (.tuple #[.string (bstr (encInt n)), .int .i64 0]) ∧ Below w.heap.size w w' := by
 have HP := Hp.start w
 unfold wmax at h1 h2
 refine w_enter 31 [(0, (ii n))] Tryz.func127 rfl Tryz.ntmps127 (by kernel_rfl) (by kernel_rfl) fun a H => ?_
 refine sq (rg ?_)
 refine H.v 2 (.string (bstr ([]))) fun a H => H.v 3 (ii 0) fun a H => ?_
 refine nl (tn (sq (sq (rg ?_))))
 refine H.v 6 (ii n) fun a H => H.valE 7 (.bool (decide (n < -4611686018427387903))) (.bool false) (by kernel_rfl) (by kernel_rfl) ((congrArg Value.bool (decide_eq_false (by omega)))) fun a H => H.v 8 (.bool false) fun a H => H.v 9 (ii n) fun a H => H.valE 10 (.bool (decide (n > 4611686018427387903))) (.bool false) (by kernel_rfl) (by kernel_rfl) ((congrArg Value.bool (decide_eq_false (by omega)))) fun a H => H.v 11 (.bool false) fun a H => ?_
 refine nl (tn ?_)
 refine w_iff H rfl ?_
 refine sk (tn (sq (rg ?_)))
 refine H.v 12 (ii n) fun a H => H.cb HP 13 (Tryz.call133 _ _) (rzig_any n w (by unfold wmax; omega) (by unfold wmax; omega)) fun w_1 hb a H HP => ?_
 obtain ⟨z0, hz0⟩ : ∃ z, zig n = z := ⟨_, rfl⟩
 rw [hz0] at H
 have hzb : z0 < 9223372036854775808 := by rw [← hz0]; unfold zig; split <;> omega
 refine H.v 4 (.int .u64 (z0 : Int)) fun a H => ?_
 refine nl (tn (sq (rg ?_)))
 refine H.v 5 (.slice none 0 0) fun a H => ?_
 refine nl (tn (sq (bk ?_)))
 have HP := HP.nilR 5
 refine w_loop (fun mm a wv => ∃ (f : Nat), ∃ (z : Nat), ∃ (l : List UInt8), ∃ (B : Option Addr), ∃ (cc : Nat), f = mm ∧ Sl 31 [(4, (.int .u64 (z : Int))), (5, (.slice B l.length cc)), (0, (ii n))] a ∧ Hp w wv [(ownR w.heap.size 5 (.slice B l.length cc) (Lib.byteCells l))] [] ∧ (z < 128 ^ f) ∧ (z < 9223372036854775808) ∧ (1 ≤ f) ∧ (l.length + f = 9) ∧ (B = none → l.length = 0 ∧ cc = 0) ∧ (l ++ (vput f z).map UInt8.ofNat = encInt n)) (9) ?_ ?_
 ·exact ⟨9, z0, [], none, 0, (by omega), H.keep (by kernel_rfl), HP, (by omega), (by omega), (by omega), rfl, (fun _ => ⟨rfl, rfl⟩), (by rw [← hz0]; rfl)⟩
 rintro mm a w_2 ⟨f, z, l, B, cc, hmeas, H, HP, hz, hzz, hf, hfl, hnb, hen⟩
 refine sq (sq (rg ?_))
 refine H.v 14 (.int .u64 (z : Int)) fun a H => H.v 15 (.bool (decide ((z : Int) ≥ 128))) fun a H => ?_
 refine nl (tn ?_)
 refine w_if H rfl (fun g15 => ?_) (fun g15 => ?_)
 ·have g15p := of_decide_eq_true g15
  refine sk (tn (bk (sq (rg ?_))))
  refine H.v 16 (.slice B l.length cc) fun a H => H.v 17 (.int .u64 (z : Int)) fun a H => H.valE 18 (.int .u64 ((z : Int).tmod 128)) (.int .u64 ((z % 128 : Nat) : Int)) (by kernel_rfl) (by kernel_rfl) ((by rw [tmod_nn _ _ (by omega)]; exact congrArg (Value.int .u64) (by omega))) fun a H => H.valE 19 (.int .u64 (IntKind.u64.wrap (((z % 128 : Nat) : Int) + 128))) (.int .u64 ((z % 128 + 128 : Nat) : Int)) (by kernel_rfl) (by kernel_rfl) ((by rw [wrap_inu64 _ (by omega)]; exact congrArg (Value.int .u64) (by omega))) fun a H => H.valE 20 (.int .u8 (IntKind.u8.wrap ((z % 128 + 128 : Nat) : Int))) (.int .u8 ((z % 128 + 128 : Nat) : Int)) (by kernel_rfl) (by kernel_rfl) ((by rw [wrap_inu8 _ (by omega)])) fun a H => H.alloc HP 21 (fun b => (.slice (some ⟨b, 0, none⟩) 1 1)) 5 [(.int .u8 ((z % 128 + 128 : Nat) : Int))] (by kernel_rfl) (fun w => by kernel_rfl) fun b_3 w_4 a H HP => ?_
  refine H.appR HP 22 1 (v := (.slice B l.length cc)) (xs := (Lib.byteCells l)) 5 (z := (.int .u8 0)) (bytes := 1) (some ⟨b_3, 0, none⟩) (1) (1) ([(.int .u8 ((z % 128 + 128 : Nat) : Int))]) (by kernel_rfl) (by kernel_rfl) (by kernel_rfl) (by kernel_rfl) (by kernel_rfl) rfl (by kernel_rfl) (fun h => by cases h) (Rd.of_box (HP.at_ 0 rfl) rfl) (by kernel_rfl) (by rw [byteCells_len]; unfold maxLen; omega) (by rw [byteCells_len]; omega) fun B_5 c_6 w_7 a H HP => ?_
  have HP : Hp w w_7 [bx b_3 5 [(.int .u8 ((z % 128 + 128 : Nat) : Int))] true, (ownR w.heap.size 5 (.slice B_5 ((Lib.byteCells l).length + 1) c_6) (Lib.byteCells l ++ [(.int .u8 ((z % 128 + 128 : Nat) : Int))]))] [] := HP
  have hxs : Lib.byteCells l ++ [(.int .u8 ((z % 128 + 128 : Nat) : Int))] = Lib.byteCells (l ++ [UInt8.ofNat (z % 128 + 128)]) := (by rw [byteCells_append, byte_one (by omega)])
  have hvv : ((.slice B_5 ((Lib.byteCells l).length + 1) c_6) : Value) = (.slice B_5 ((l ++ [UInt8.ofNat (z % 128 + 128)]).length) c_6) := by rw [show (Lib.byteCells l).length + 1 = (l ++ [UInt8.ofNat (z % 128 + 128)]).length from (by simp [byteCells_len])]
  rw [hxs, hvv] at HP
  have HP : Hp w w_7 [bx b_3 5 [(.int .u8 ((z % 128 + 128 : Nat) : Int))] true, (ownR w.heap.size 5 (.slice B_5 ((l ++ [UInt8.ofNat (z % 128 + 128)]).length) c_6) (Lib.byteCells (l ++ [UInt8.ofNat (z % 128 + 128)])))] [] := HP
  have H := H.as 22 (.slice B_5 ((l ++ [UInt8.ofNat (z % 128 + 128)]).length) c_6) rfl hvv
  clear hxs hvv
  refine H.v 5 (.slice B_5 ((l ++ [UInt8.ofNat (z % 128 + 128)]).length) c_6) fun a H => ?_
  refine nl (tn (rg ?_))
  refine H.v 23 (.int .u64 (z : Int)) fun a H => H.valE 24 (.int .u64 (IntKind.u64.wrap ((z : Int).tdiv 128))) (.int .u64 ((z / 128 : Nat) : Int)) (by kernel_rfl) (by kernel_rfl) ((by rw [tdiv_nn _ _ (by omega), wrap_inu64 _ (by omega)]; exact congrArg (Value.int .u64) (by omega))) fun a H => H.v 4 (.int .u64 ((z / 128 : Nat) : Int)) fun a H => ?_
  refine nl (ibn (tn ?_))
  obtain ⟨f, rfl⟩ : ∃ k, f = k + 1 := ⟨f - 1, by omega⟩
  have hzq : z / 128 < 128 ^ f := by rw [Nat.pow_succ] at hz; exact Nat.div_lt_of_lt_mul (by rw [Nat.mul_comm]; exact hz)
  have hf0 : 1 ≤ f := by rcases Nat.eq_zero_or_pos f with h | h <;> first | exact h | (subst h; simp at hzq; omega)
  have H := H.as 4 (.int .u64 ((z / 128 : Nat) : Int)) rfl rfl
  have H := H.as 5 (.slice B_5 ((l ++ [UInt8.ofNat (z % 128 + 128)]).length) c_6) rfl rfl
  refine ⟨_, ?_, f, z / 128, l ++ [UInt8.ofNat (z % 128 + 128)], B_5, c_6, rfl, H.keep (by kernel_rfl), (HP.tail rfl), hzq, (by omega), hf0, (by simp only [List.length_append, List.length_cons, List.length_nil]; omega), (fun h => by have := ownR_facts (HP.held 1 rfl); have := this.2.2.2 h; simp only [List.length_append, List.length_cons, List.length_nil, byteCells_len] at *; omega), (by rw [← hen, vput_step (by omega)]; simp)⟩
  omega
 have g15p := of_decide_eq_false g15
 refine wp_exit (then_exit (then_exit ?_))
 refine w_exit_here ?_
 refine tn (sq (rg ?_))
 refine H.v 25 (.slice B l.length cc) fun a H => H.v 26 (.int .u64 (z : Int)) fun a H => H.valE 27 (.int .u8 (IntKind.u8.wrap (z : Int))) (.int .u8 (z : Int)) (by kernel_rfl) (by kernel_rfl) ((by rw [wrap_inu8 _ (by omega)])) fun a H => H.alloc HP 28 (fun b => (.slice (some ⟨b, 0, none⟩) 1 1)) 5 [(.int .u8 (z : Int))] (by kernel_rfl) (fun w => by kernel_rfl) fun b_8 w_9 a H HP => ?_
 refine H.appR HP 29 1 (v := (.slice B l.length cc)) (xs := (Lib.byteCells l)) 5 (z := (.int .u8 0)) (bytes := 1) (some ⟨b_8, 0, none⟩) (1) (1) ([(.int .u8 (z : Int))]) (by kernel_rfl) (by kernel_rfl) (by kernel_rfl) (by kernel_rfl) (by kernel_rfl) rfl (by kernel_rfl) (fun h => by cases h) (Rd.of_box (HP.at_ 0 rfl) rfl) (by kernel_rfl) (by rw [byteCells_len]; unfold maxLen; omega) (by rw [byteCells_len]; omega) fun B_10 c_11 w_12 a H HP => ?_
 have HP : Hp w w_12 [bx b_8 5 [(.int .u8 (z : Int))] true, (ownR w.heap.size 5 (.slice B_10 ((Lib.byteCells l).length + 1) c_11) (Lib.byteCells l ++ [(.int .u8 (z : Int))]))] [] := HP
 have hxs : Lib.byteCells l ++ [(.int .u8 (z : Int))] = Lib.byteCells (l ++ [UInt8.ofNat (z)]) := (by rw [byteCells_append, byte_one (by omega)])
 have hvv : ((.slice B_10 ((Lib.byteCells l).length + 1) c_11) : Value) = (.slice B_10 ((l ++ [UInt8.ofNat (z)]).length) c_11) := by rw [show (Lib.byteCells l).length + 1 = (l ++ [UInt8.ofNat (z)]).length from (by simp [byteCells_len])]
 rw [hxs, hvv] at HP
 have HP : Hp w w_12 [bx b_8 5 [(.int .u8 (z : Int))] true, (ownR w.heap.size 5 (.slice B_10 ((l ++ [UInt8.ofNat (z)]).length) c_11) (Lib.byteCells (l ++ [UInt8.ofNat (z)])))] [] := HP
 have H := H.as 29 (.slice B_10 ((l ++ [UInt8.ofNat (z)]).length) c_11) rfl hvv
 clear hxs hvv
 refine H.valE 30 (.string (bstr (l ++ [UInt8.ofNat (z)]))) (.string (bstr (encInt n))) (by kernel_rfl) (ex_b2sB (l := l ++ [UInt8.ofNat (z)]) (e := 5) (m := (l ++ [UInt8.ofNat (z)]).length) (c := c_11) (by kernel_rfl) (by have hh := ownR_rd (HP.held 1 rfl); rw [byteCells_len] at hh; exact hh) (by simp) (by kernel_rfl) (by kernel_rfl) (by kernel_rfl)) ((congrArg (fun x => Value.string (bstr x)) (by rw [← hen]; obtain ⟨f, rfl⟩ : ∃ k, f = k + 1 := ⟨f - 1, by omega⟩; unfold vput; rw [if_pos (by omega)]; simp))) fun a H => H.v 2 (.string (bstr (encInt n))) fun a H => H.v 3 (ii 0) fun a H => ?_
 refine nl (tn (rt ?_))
 refine H.ret2 (fn := Tryz.f127) Tryz.results127 (RV.tmp_ (v := (.string (bstr (encInt n)))) (by kernel_rfl)) (RV.tmp_ (v := (ii 0)) (by kernel_rfl)) ?_
 exact ⟨rfl, HP.bl⟩
theorem rputInt_out (n : Int) (w : World) (h : n < -wmax) :
  Calls Tryz.prog 127 #[.int .i64 n] w fun e w' => e = .returned (.tuple #[.string (bstr []), .int .i64 10]) ∧ Below w.heap.size w w' := by
 have HP := Hp.start w
 unfold wmax at h
 refine w_enter 31 [(0, (ii n))] Tryz.func127 rfl Tryz.ntmps127 (by kernel_rfl) (by kernel_rfl) fun a H => ?_
 refine sq (rg ?_)
 refine H.v 2 (.string (bstr ([]))) fun a H => H.v 3 (ii 0) fun a H => ?_
 refine nl (tn (sq (sq (rg ?_))))
 refine H.v 6 (ii n) fun a H => H.valE 7 (.bool (decide (n < -4611686018427387903))) (.bool true) (by kernel_rfl) (by kernel_rfl) ((congrArg Value.bool (decide_eq_true (by omega)))) fun a H => H.v 8 (.bool true) fun a H => ?_
 iterate 2 refine H.sx rfl fun a H => ?_
 refine H.vx rfl (.bool true) fun a H => ?_
 refine nl (tn ?_)
 refine w_ift H rfl ?_
 refine sq (rg ?_)
 refine H.v 2 (.string (bstr ([]))) fun a H => H.v 3 (ii 10) fun a H => ?_
 refine nl (tn (rt (tr ?_)))
 refine H.ret2 (fn := Tryz.f127) Tryz.results127 (RV.tmp_ (v := (.string (bstr ([])))) (by kernel_rfl)) (RV.tmp_ (v := (ii 10)) (by kernel_rfl)) ?_
 exact ⟨rfl, HP.bl⟩
theorem rputInt_all (n : Int) (w : World) (h : n ≤ wmax) :
  Calls Tryz.prog 127 #[.int .i64 n] w fun e w' => e = .returned (.tuple #[.string (bstr (if -wmax ≤ n then encInt n else [])), .int .i64 (if -wmax ≤ n then 0 else 10)]) ∧ Below w.heap.size w w' := by
 by_cases h1 : -wmax ≤ n
 ·rw [if_pos h1, if_pos h1]; exact rputInt_any n w h1 h
 ·rw [if_neg h1, if_neg h1]; exact rputInt_out n w (by omega)
theorem rint_any (s : List UInt8) (k : Nat) (w : World) (hs : s.length ≤ 1000000) (hk : k ≤ s.length) :
  Calls Tryz.prog 112 #[.string (bstr s), .int .i64 (k : Int)] w fun e w' => e = .returned (intV (rdInt s k)) ∧ Below w.heap.size w w' := by
 have HP := Hp.start w
 refine w_enter 80 [(0, (.string (bstr s))), (1, (ii k))] Tryz.func112 rfl Tryz.ntmps112 (by kernel_rfl) (by kernel_rfl) fun a H => ?_
 refine sq (rg ?_)
 refine H.v 4 (ii 0) fun a H => H.v 5 (ii 0) fun a H => H.v 6 (ii 0) fun a H => ?_
 refine nl (tn (sq (sq (rg ?_))))
 refine H.v 13 (ii k) fun a H => H.valE 14 (.bool (decide ((k : Int) < 0))) (.bool false) (by kernel_rfl) (by kernel_rfl) ((congrArg Value.bool (decide_eq_false (by omega)))) fun a H => H.v 15 (.bool false) fun a H => H.v 16 (ii k) fun a H => H.v 17 (.string (bstr s)) fun a H => H.v 18 (ii s.length) fun a H => H.valE 19 (.bool (decide ((k : Int) > (s.length : Int)))) (.bool false) (by kernel_rfl) (by kernel_rfl) ((congrArg Value.bool (decide_eq_false (by omega)))) fun a H => H.v 20 (.bool false) fun a H => ?_
 refine nl (tn ?_)
 refine w_iff H rfl ?_
 refine sk (tn (sq (rg ?_)))
 refine H.v 7 (.int .u64 0) fun a H => ?_
 refine nl (tn (sq (sq (rg ?_))))
 refine H.v 8 (ii 0) fun a H => ?_
 refine nl (tn (bk ?_))
 refine w_loop (fun mm a wv => ∃ (i : Nat), ∃ (z : Nat), 9 - i = mm ∧ Sl 80 [(8, (ii i)), (7, (.int .u64 (z : Int))), (0, (.string (bstr s))), (1, (ii k))] a ∧ Hp w wv [] [] ∧ (i ≤ 9) ∧ (z < 128 ^ i) ∧ (vget (9 - i) i z (s.drop (k + i)) = vget 9 0 0 (s.drop k))) (9 - 0) ?_ ?_
 ·exact ⟨0, 0, (by omega), H.keep (by kernel_rfl), HP, by omega, (by decide), rfl⟩
 rintro mm a w_1 ⟨i, z, hmeas, H, HP, hi, hz, hR⟩
 refine sq (sq (rg ?_))
 refine H.v 21 (ii i) fun a H => H.v 22 (.bool (decide ((i : Int) < 9))) fun a H => H.v 23 (.bool (decide ((i : Int) < 9))) fun a H => ?_
 refine H.split 23 rfl (fun g23 H => ?_) (fun g23 H => ?_)
 ·have g23p := of_decide_eq_true g23
  refine H.v 24 (ii k) fun a H => H.v 25 (ii i) fun a H => H.valE 26 (ii (IntKind.i64.wrap ((k : Int) + (i : Int)))) (ii ((k + i : Nat) : Int)) (by kernel_rfl) (by kernel_rfl) ((by rw [wrap_ini64 _ (by omega)]; first | done | exact congrArg (Value.int .i64) (by omega))) fun a H => H.v 27 (.string (bstr s)) fun a H => H.v 28 (ii s.length) fun a H => H.v 29 (.bool (decide (((k + i : Nat) : Int) < (s.length : Int)))) fun a H => H.v 30 (.bool (decide (((k + i : Nat) : Int) < (s.length : Int)))) fun a H => ?_
  refine nl (tn ?_)
  refine w_if H rfl (fun g30 => ?_) (fun g30 => ?_)
  ·have g30p := of_decide_eq_true g30
   refine sk (tn (sq (bk (sq ?_))))
   obtain ⟨b, hb0⟩ : ∃ b, s.getD (k + i) 0 = b := ⟨_, rfl⟩
   have hdr : s.drop (k + i) = b :: s.drop (k + i + 1) := by rw [← hb0]; exact drop_cons (by omega)
   have hbl := byte_lt b
   have hp128 := pow128_lt (j := i) (by omega)
   obtain ⟨P, hP⟩ : ∃ P, 128 ^ i = P := ⟨_, rfl⟩
   rw [hP] at hz hp128
   obtain ⟨M, hM⟩ : ∃ M, b.toNat % 128 * P = M := ⟨_, rfl⟩
   have hMe : b.toNat % 128 * 128 ^ i = M := by rw [hP]; exact hM
   have hMP : M ≤ 127 * P := by rw [← hM]; exact Nat.mul_le_mul (by omega) (Nat.le_refl _)
   refine rg ?_
   refine H.v 33 (.string (bstr s)) fun a H => H.v 34 (ii k) fun a H => H.v 35 (ii i) fun a H => H.valE 36 (ii (IntKind.i64.wrap ((k : Int) + (i : Int)))) (ii ((k + i : Nat) : Int)) (by kernel_rfl) (by kernel_rfl) ((by rw [wrap_ini64 _ (by omega)]; first | done | exact congrArg (Value.int .i64) (by omega))) fun a H => H.valE 37 (.int .u8 (((s.getD (k + i) 0).toNat : Nat) : Int)) (.int .u8 (b.toNat : Int)) (by kernel_rfl) (ex_sindex (k := .i64) (l := s) (i := ((k + i : Nat) : Int)) (m := k + i) (by kernel_rfl) (by kernel_rfl) (by kernel_rfl) (by omega) (by omega)) ((congrArg (Value.int .u8) (by rw [hb0]))) fun a H => H.valE 38 (.int .u64 (IntKind.u64.wrap (b.toNat : Int))) (.int .u64 (b.toNat : Int)) (by kernel_rfl) (by kernel_rfl) ((by rw [wrap_inu64 _ (by omega)])) fun a H => H.v 9 (.int .u64 (b.toNat : Int)) fun a H => ?_
   refine nl (tn (sq (rg ?_)))
   refine H.v 39 (.int .u64 (z : Int)) fun a H => H.v 40 (.int .u64 (b.toNat : Int)) fun a H => H.valE 41 (.int .u64 ((b.toNat : Int).tmod 128)) (.int .u64 ((b.toNat % 128 : Nat) : Int)) (by kernel_rfl) (by kernel_rfl) ((by rw [tmod_nn _ _ (by omega)]; exact congrArg (Value.int .u64) (by omega))) fun a H => H.v 42 (ii i) fun a H => H.valE 43 (ii (IntKind.i64.wrap (7 * (i : Int)))) (ii ((7 * i : Nat) : Int)) (by kernel_rfl) (by kernel_rfl) ((by rw [wrap_ini64 _ (by omega)]; first | done | exact congrArg (Value.int .i64) (by omega))) fun a H => H.valE 44 (.int .u64 (IntKind.u64.wrap (((b.toNat % 128 : Nat) : Int) * 2 ^ (7 * i)))) (.int .u64 (M : Int)) (by kernel_rfl) (ex_shl (by kernel_rfl) (by kernel_rfl) (by omega)) ((congrArg (Value.int .u64) (shl_val hMe (by omega)))) fun a H => H.valE 45 (.int .u64 (IntKind.u64.wrap ((z : Int) + (M : Int)))) (.int .u64 ((z + M : Nat) : Int)) (by kernel_rfl) (by kernel_rfl) ((by rw [wrap_inu64 _ (by omega)]; exact congrArg (Value.int .u64) (by omega))) fun a H => H.v 7 (.int .u64 ((z + M : Nat) : Int)) fun a H => ?_
   refine nl (tn (sq (sq (rg ?_))))
   refine H.v 46 (.int .u64 (b.toNat : Int)) fun a H => H.v 47 (.bool (decide ((b.toNat : Int) ≥ 128))) fun a H => ?_
   refine nl (tn ?_)
   refine w_if H rfl (fun g47 => ?_) (fun g47 => ?_)
   ·have g47p := of_decide_eq_true g47
    refine wp_exit (then_exit ?_)
    refine w_exit_here ?_
    refine tn (rg ?_)
    refine H.v 31 (ii i) fun a H => H.valE 32 (ii (IntKind.i64.wrap ((i : Int) + 1))) (ii ((i : Int) + 1)) (by kernel_rfl) (by kernel_rfl) ((by rw [wrap_ini64 _ (by omega)])) fun a H => H.v 8 (ii ((i : Int) + 1)) fun a H => ?_
    refine nl (tn ?_)
    have H := H.as 8 (ii ((i + 1 : Nat) : Int)) rfl rfl
    refine ⟨_, ?_, i + 1, z + M, rfl, H.keep (by kernel_rfl), HP, by omega, (by rw [Nat.pow_succ, hP]; omega), (by rw [← hR, hdr, show 9 - i = (9 - (i + 1)) + 1 by omega, vget, if_pos (by omega), hMe, Nat.add_assoc])⟩
    omega
   have g47p := of_decide_eq_false g47
   refine sk (tn (sq ?_))
   obtain ⟨zz, hzz⟩ : ∃ y, z + M = y := ⟨_, rfl⟩
   have hzb : zz < 9223372036854775808 := by omega
   rw [hzz] at H
   have hlast := int_last hR hdr (by omega) (by omega) (show z + b.toNat % 128 * 128 ^ i = zz by rw [hMe]; exact hzz)
   have H := H.keep (L' := [(7, (.int .u64 (zz : Int))), (8, (ii i)), (0, (.string (bstr s))), (1, (ii k))]) (by kernel_rfl)
   refine rg ?_
   refine H.v 48 (.int .u64 (zz : Int)) fun a H => H.valE 49 (.int .u64 (IntKind.u64.wrap ((zz : Int).tdiv 2))) (.int .u64 ((zz / 2 : Nat) : Int)) (by kernel_rfl) (by kernel_rfl) ((by rw [tdiv_nn _ _ (by omega), wrap_inu64 _ (by omega)]; exact congrArg (Value.int .u64) (by omega))) fun a H => H.valE 50 (ii (IntKind.i64.wrap ((zz / 2 : Nat) : Int))) (ii ((zz / 2 : Nat) : Int)) (by kernel_rfl) (by kernel_rfl) ((by rw [wrap_ini64 _ (by omega)])) fun a H => H.v 10 (ii ((zz / 2 : Nat) : Int)) fun a H => ?_
   refine nl (tn ?_)
   refine w_cut (fun a wv => Sl 80 [(10, (ii (unzig zz))), (8, (ii i)), (0, (.string (bstr s))), (1, (ii k))] a ∧ Hp w wv [] []) ?_ ?_
   ·
    refine sq (rg ?_)
    refine H.v 51 (.int .u64 (zz : Int)) fun a H => H.valE 52 (.int .u64 ((zz : Int).tmod 2)) (.int .u64 ((zz % 2 : Nat) : Int)) (by kernel_rfl) (by kernel_rfl) ((by rw [tmod_nn _ _ (by omega)]; exact congrArg (Value.int .u64) (by omega))) fun a H => H.v 53 (.bool (((zz % 2 : Nat) : Int) == 1)) fun a H => ?_
    refine nl (tn ?_)
    refine w_if H rfl (fun g53 => ?_) (fun g53 => ?_)
    ·have g53p := eq_of_beq g53
     refine rg ?_
     refine H.v 54 (ii ((zz / 2 : Nat) : Int)) fun a H => H.valE 55 (ii (IntKind.i64.wrap (0 - ((zz / 2 : Nat) : Int)))) (ii (-((zz / 2 : Nat) : Int))) (by kernel_rfl) (by kernel_rfl) ((by rw [Int.zero_sub, wrap_ini64 _ (by omega)])) fun a H => H.valE 56 (ii (IntKind.i64.wrap ((-((zz / 2 : Nat) : Int)) - 1))) (ii ((-((zz / 2 : Nat) : Int)) - 1)) (by kernel_rfl) (by kernel_rfl) ((by rw [wrap_ini64 _ (by omega)])) fun a H => H.v 10 (ii ((-((zz / 2 : Nat) : Int)) - 1)) fun a H => ?_
     refine nl (tn ?_)
     have H := H.as 10 (ii (unzig zz)) rfl (congrArg (Value.int .i64) (by unfold unzig; rw [if_pos (by omega)]))
     exact ⟨H.keep (by kernel_rfl), HP⟩
    have g53p := ne_of_beq_false g53
    refine sk (tn ?_)
    have H := H.as 10 (ii (unzig zz)) rfl (congrArg (Value.int .i64) (by unfold unzig; rw [if_neg (by omega)]))
    exact ⟨H.keep (by kernel_rfl), HP⟩
   
   rintro a w_2 ⟨H, HP⟩
   refine sq ?_
   have hule := unzig_le zz hzb
   refine rg ?_
   refine H.v 58 (ii (unzig zz)) fun a H => H.cb HP 59 (Tryz.call127 _ _) (rputInt_all (unzig zz) w_2 hule) fun w_3 hb a H HP => H.v 57 (.tuple #[(.string (bstr (if -wmax ≤ unzig zz then encInt (unzig zz) else []))), (ii (if -wmax ≤ unzig zz then 0 else 10 : Int))]) fun a H => H.v 60 (.string (bstr (if -wmax ≤ unzig zz then encInt (unzig zz) else []))) fun a H => H.v 61 (ii (if -wmax ≤ unzig zz then 0 else 10 : Int)) fun a H => H.v 11 (.string (bstr (if -wmax ≤ unzig zz then encInt (unzig zz) else []))) fun a H => H.v 12 (ii (if -wmax ≤ unzig zz then 0 else 10 : Int)) fun a H => ?_
   refine nl (tn (sq (sq (rg ?_))))
   refine H.v 62 (ii (if -wmax ≤ unzig zz then 0 else 10 : Int)) fun a H => H.v 63 (.bool ((if -wmax ≤ unzig zz then 0 else 10 : Int) != 0)) fun a H => H.v 64 (.bool ((if -wmax ≤ unzig zz then 0 else 10 : Int) != 0)) fun a H => ?_
   refine H.split 64 rfl (fun g64 H => ?_) (fun g64 H => ?_)
   ·have g64p := bne_iff_ne.1 g64
    iterate 9 refine H.sx rfl fun a H => ?_
    refine H.vx rfl (.bool true) fun a H => ?_
    refine nl (tn ?_)
    refine w_ift H rfl ?_
    refine sq (rg ?_)
    refine H.v 4 (ii 0) fun a H => H.v 5 (ii 0) fun a H => H.v 6 (ii 10) fun a H => ?_
    refine nl (tn (rt (tr (ibr (tr (tr (ibr (tr ?_))))))))
    refine H.ret3 (fn := Tryz.f112) Tryz.results112 (RV.tmp_ (v := (ii 0)) (by kernel_rfl)) (RV.tmp_ (v := (ii 0)) (by kernel_rfl)) (RV.tmp_ (v := (ii 10)) (by kernel_rfl)) ?_
    exact ⟨by rw [int_no hk hlast (.inl g64p)]; rfl, HP.bl⟩
   have g64p := eq_of_bne_false g64
   refine H.v 65 (.string (bstr (if -wmax ≤ unzig zz then encInt (unzig zz) else []))) fun a H => H.v 66 (.string (bstr s)) fun a H => H.v 67 (ii k) fun a H => H.v 68 (ii k) fun a H => H.v 69 (ii i) fun a H => H.valE 70 (ii (IntKind.i64.wrap ((k : Int) + (i : Int)))) (ii ((k + i : Nat) : Int)) (by kernel_rfl) (by kernel_rfl) ((by rw [wrap_ini64 _ (by omega)]; first | done | exact congrArg (Value.int .i64) (by omega))) fun a H => H.valE 71 (ii (IntKind.i64.wrap (((k + i : Nat) : Int) + 1))) (ii ((k + i + 1 : Nat) : Int)) (by kernel_rfl) (by kernel_rfl) ((by rw [wrap_ini64 _ (by omega)]; first | done | exact congrArg (Value.int .i64) (by omega))) fun a H => H.u 72 (.string (bstr ((s.drop k).take ((k + i + 1) - k)))) (ex_sslice (k := .i64) (kk := .i64) (l := s) (i := (k : Int)) (j := ((k + i + 1 : Nat) : Int)) (a := k) (b := (k + i + 1)) (by kernel_rfl) (by kernel_rfl) (by kernel_rfl) (by kernel_rfl) (by omega) (by omega) (by omega) (by omega)) fun a H => H.valE 73 (.bool (!((bstr (if -wmax ≤ unzig zz then encInt (unzig zz) else [])).toList == (bstr ((s.drop k).take ((k + i + 1) - k))).toList))) (.bool (!((if -wmax ≤ unzig zz then encInt (unzig zz) else []) == ((s.drop k).take ((k + i + 1) - k))))) (by kernel_rfl) (by kernel_rfl) ((congrArg (fun b => Value.bool (!b)) (bstr_eq _ _))) fun a H => H.v 74 (.bool (!((if -wmax ≤ unzig zz then encInt (unzig zz) else []) == ((s.drop k).take ((k + i + 1) - k))))) fun a H => ?_
   refine nl (tn ?_)
   refine w_if H rfl (fun g74 => ?_) (fun g74 => ?_)
   ·have g74p := not_is_true g74
    refine sq (rg ?_)
    refine H.v 4 (ii 0) fun a H => H.v 5 (ii 0) fun a H => H.v 6 (ii 10) fun a H => ?_
    refine nl (tn (rt (tr (ibr (tr (tr (ibr (tr ?_))))))))
    refine H.ret3 (fn := Tryz.f112) Tryz.results112 (RV.tmp_ (v := (ii 0)) (by kernel_rfl)) (RV.tmp_ (v := (ii 0)) (by kernel_rfl)) (RV.tmp_ (v := (ii 10)) (by kernel_rfl)) ?_
    exact ⟨by rw [int_no hk hlast (.inr (ne_of_beq_false g74p))]; rfl, HP.bl⟩
   have g74p := not_is_false g74
   refine sk (tn (sq (rg ?_)))
   refine H.v 75 (ii (unzig zz)) fun a H => H.v 76 (ii k) fun a H => H.v 77 (ii i) fun a H => H.valE 78 (ii (IntKind.i64.wrap ((k : Int) + (i : Int)))) (ii ((k + i : Nat) : Int)) (by kernel_rfl) (by kernel_rfl) ((by rw [wrap_ini64 _ (by omega)]; first | done | exact congrArg (Value.int .i64) (by omega))) fun a H => H.valE 79 (ii (IntKind.i64.wrap (((k + i : Nat) : Int) + 1))) (ii ((k + i + 1 : Nat) : Int)) (by kernel_rfl) (by kernel_rfl) ((by rw [wrap_ini64 _ (by omega)]; first | done | exact congrArg (Value.int .i64) (by omega))) fun a H => H.v 4 (ii (unzig zz)) fun a H => H.v 5 (ii ((k + i + 1 : Nat) : Int)) fun a H => H.v 6 (ii 0) fun a H => ?_
   refine nl (tn (rt (ibr (tr (tr (ibr (tr ?_)))))))
   refine H.ret3 (fn := Tryz.f112) Tryz.results112 (RV.tmp_ (v := (ii (unzig zz))) (by kernel_rfl)) (RV.tmp_ (v := (ii ((k + i + 1 : Nat) : Int))) (by kernel_rfl)) (RV.tmp_ (v := (ii 0)) (by kernel_rfl)) ?_
   exact ⟨by rw [int_yes hk (k2 := k + i + 1) (by omega) g64p (eq_of_beq g74p) hule]; rfl, HP.bl⟩
  have g30p := of_decide_eq_false g30
  refine wp_exit (then_exit (then_exit ?_))
  refine w_exit_here ?_
  refine tn (sq (rg ?_))
  refine H.v 4 (ii 0) fun a H => H.v 5 (ii 0) fun a H => H.v 6 (ii 10) fun a H => ?_
  refine nl (tn (rt ?_))
  refine H.ret3 (fn := Tryz.f112) Tryz.results112 (RV.tmp_ (v := (ii 0)) (by kernel_rfl)) (RV.tmp_ (v := (ii 0)) (by kernel_rfl)) (RV.tmp_ (v := (ii 10)) (by kernel_rfl)) ?_
  exact ⟨by rw [int_out hR (by omega)]; rfl, HP.bl⟩
 have g23p := of_decide_eq_false g23
 iterate 6 refine H.sx rfl fun a H => ?_
 refine H.v 30 (.bool false) fun a H => ?_
 refine nl (tn ?_)
 refine w_iff H rfl ?_
 refine wp_exit (then_exit (then_exit ?_))
 refine w_exit_here ?_
 refine tn (sq (rg ?_))
 refine H.v 4 (ii 0) fun a H => H.v 5 (ii 0) fun a H => H.v 6 (ii 10) fun a H => ?_
 refine nl (tn (rt ?_))
 refine H.ret3 (fn := Tryz.f112) Tryz.results112 (RV.tmp_ (v := (ii 0)) (by kernel_rfl)) (RV.tmp_ (v := (ii 0)) (by kernel_rfl)) (RV.tmp_ (v := (ii 10)) (by kernel_rfl)) ?_
 exact ⟨by rw [int_out hR (by omega)]; rfl, HP.bl⟩
theorem nums_mem {p : Pln} {P : Int → Prop} (h : ∀ z ∈ numsP p, P z) : (∀ z ∈ [p.channel, p.num, p.den, p.offset], P z) ∧ (∀ z ∈ ((p.sh.length : Nat) : Int) :: p.sh.flatMap altNs, P z) ∧ (∀ z ∈ [p.epoch, p.regions, p.length, p.fill], P z) ∧ (∀ z ∈ ((p.its.length : Nat) : Int) :: p.its.flatMap itNs, P z) ∧ (∀ z ∈ ((p.es.length : Nat) : Int) :: p.es.flatMap enNs, P z) ∧ (∀ z ∈ ((p.bs.length : Nat) : Int) :: p.bs.flatMap bkNs, P z) ∧ (∀ z ∈ ((p.cs.length : Nat) : Int) :: p.cs.flatMap clNs, P z) := by
 unfold numsP at h
 simp only [List.mem_append] at h
 exact ⟨fun z hz => h z (.inl (.inl (.inl (.inl (.inl (.inl hz)))))), fun z hz => h z (.inl (.inl (.inl (.inl (.inl (.inr hz)))))), fun z hz => h z (.inl (.inl (.inl (.inl (.inr hz))))), fun z hz => h z (.inl (.inl (.inl (.inr hz)))), fun z hz => h z (.inl (.inl (.inr hz))), fun z hz => h z (.inl (.inr hz)), fun z hz => h z (.inr hz)⟩
theorem lens7 {bs : List UInt8} {a b c d e f g : List Int} (h : bs.length + 9 * (a ++ b ++ c ++ d ++ e ++ f ++ g).length ≤ 100000000000000) : bs.length + 9 * a.length ≤ 100000000000000 ∧ (bs ++ encInts a).length + 9 * b.length ≤ 100000000000000 ∧ (bs ++ encInts a ++ encInts b).length + 9 * c.length ≤ 100000000000000 ∧ (bs ++ encInts a ++ encInts b ++ encInts c).length + 9 * d.length ≤ 100000000000000 ∧ (bs ++ encInts a ++ encInts b ++ encInts c ++ encInts d).length + 9 * e.length ≤ 100000000000000 ∧ (bs ++ encInts a ++ encInts b ++ encInts c ++ encInts d ++ encInts e).length + 9 * f.length ≤ 100000000000000 ∧ (bs ++ encInts a ++ encInts b ++ encInts c ++ encInts d ++ encInts e ++ encInts f).length + 9 * g.length ≤ 100000000000000 := by
 have h1 := encInts_len a
 have h2 := encInts_len b
 have h3 := encInts_len c
 have h4 := encInts_len d
 have h5 := encInts_len e
 have h6 := encInts_len f
 simp only [List.length_append] at *
 refine ⟨?_, ?_, ?_, ?_, ?_, ?_, ?_⟩ <;> omega
theorem nums_some (p : Pln) : [] ++ encInts (numsP p) ≠ [] := by
 unfold numsP
 simp only [List.append_assoc, List.cons_append, encInts_cons, List.nil_append]
 intro h
 have := congrArg List.length h
 have := (encInt_len p.channel).1
 simp only [List.length_append, List.length_nil] at *
 omega
theorem bld_new {base b : Nat} {v : Value} {bs : List UInt8} {w : World} (h : (bldW base b v bs).F w) : ∀ k, (bldW base b v bs).fp k → base ≤ k := by
 obtain ⟨h1, _, h3, _⟩ := h
 rintro k (rfl | hk)
 ·exact h1
 ·exact (h3.lt k hk).1
theorem Hp.oldBld {w0 w : World} {L : List HB} {K : List FK} (H : Hp w0 w L K) (i : Nat) {b : Nat} {v : Value} {bs : List UInt8} (hi : L[i]? = some (bldW w0.heap.size b v bs)) {k : Nat} (hk : k < w0.heap.size) (hf : ∀ x ∈ L, x.fresh = true) : w.heap[k]? = w0.heap[k]? :=
 H.old k hk fun x hx hxk => by have := H.fresh x hx (hf x hx) k hxk; omega
theorem Hp.belowB {w0 w : World} {L : List HB} {K : List FK} (H : Hp w0 w L K) (hf : ∀ x ∈ L, x.fresh = true) : Below w0.heap.size w0 w := H.below (List.all_eq_true.2 hf)
def encV (p : Pln) : Value := if validPl p then .tuple #[.string (bstr ([] ++ encInts (numsP p))), .int .i64 0] else .tuple #[.string (bstr []), .int .i64 80]
theorem wplan_any (base b : Nat) (v : Value) (bs : List UInt8) (p : Pln) (w : World) (h : (bldW base b v bs).F w) (hpl : IsPln w p) (hnp : ∀ k, p.fp k → ¬ (bldW base b v bs).fp k) (hz : ∀ z ∈ numsP p, -wmax ≤ z ∧ z ≤ wmax) (hlen : bs.length + 9 * (numsP p).length ≤ 100000000000000) : Calls Tryz.prog 56 #[.pointer (some ⟨b, 0, none⟩), (plV p)] w (PutPost base b v bs (numsP p) w) := by
 obtain ⟨hz1, hz2, hz3, hz4, hz5, hz6, hz7⟩ := nums_mem hz
 obtain ⟨hl1, hl2, hl3, hl4, hl5, hl6, hl7⟩ := lens7 (bs := bs) (a := [p.channel, p.num, p.den, p.offset]) (b := (p.sh.length : Int) :: p.sh.flatMap altNs) (c := [p.epoch, p.regions, p.length, p.fill]) (d := (p.its.length : Int) :: p.its.flatMap itNs) (e := (p.es.length : Int) :: p.es.flatMap enNs) (f := (p.bs.length : Int) :: p.bs.flatMap bkNs) (g := (p.cs.length : Int) :: p.cs.flatMap clNs) hlen
 have HP : Hp w w [bldV w.heap.size base b v v bs] [plnK p] := (Hp.ownV h).keepV (plnK p) hpl (plnK_ok p) (fun k hk => hpl.lt k hk) hnp
 refine w_enter 55 [(0, (pt b 0)), (1, (plV p))] Tryz.func56 rfl Tryz.ntmps56 (by kernel_rfl) (by kernel_rfl) fun a H => ?_
 refine sq (rg ?_)
 refine H.al HP 2 125 [(pt b 0)] fun b_1 w_2 a H HP => H.al HP 3 32 (plL p) fun b_3 w_4 a H HP => ?_
 refine nl (tn (sq (rg ?_)))
 refine H.u 4 (pt b 0) (ex_l1 (HP.cell 1 rfl 0 rfl)) fun a H => H.v 5 (pt b_3 0) fun a H => H.u 6 (ii p.channel) (ex_l1 (HP.cell 0 rfl 0 rfl)) fun a H => H.v 7 (pt b_3 1) fun a H => H.v 8 (pt b_3 1) fun a H => H.u 9 (ii p.num) (ex_l1 (HP.cell 0 rfl 1 rfl)) fun a H => H.v 10 (pt b_3 1) fun a H => H.v 11 (pt b_3 2) fun a H => H.u 12 (ii p.den) (ex_l1 (HP.cell 0 rfl 2 rfl)) fun a H => H.v 13 (pt b_3 3) fun a H => H.v 14 (pt b_3 3) fun a H => H.u 15 (ii p.offset) (ex_l1 (HP.cell 0 rfl 3 rfl)) fun a H => H.alloc HP 16 (fun b => (.slice (some ⟨b, 0, none⟩) 4 4)) 3 [(ii p.channel), (ii p.num), (ii p.den), (ii p.offset)] (by kernel_rfl) (fun w => by kernel_rfl) fun b_5 w_6 a H HP => ?_
 refine H.cl 17 (Tryz.call81 _ _) (put_any base b v bs b_5 [p.channel, p.num, p.den, p.offset] w_6 (HP.held 3 rfl).1 (HP.at_ 0 rfl) (fun k hk => HP.notBld 3 0 rfl rfl (by decide) k hk) hz1 hl1) ?_
 rintro e w_11 ⟨rfl, v_7, hF_8, hag_9, hv_10⟩
 refine ⟨_, rfl, ?_⟩
 intro a H
 have HP := HP.putV 3 rfl _ rfl hF_8 hag_9 hv_10
 refine nl (tn (sq (rg ?_)))
 refine H.u 18 (pt b 0) (ex_l1 (HP.cell 2 rfl 0 rfl)) fun a H => H.v 19 (pt b_3 3) fun a H => H.v 20 (pt b_3 4) fun a H => H.u 21 (.slice p.SA p.sh.length p.sc) (ex_l1 (HP.cell 1 rfl 4 rfl)) fun a H => H.v 22 (.func (.func 83) #[] #[(pt b_1 0)]) fun a H => ?_
 refine H.cl 23 (Tryz.call82 _ _) (writeS_any base b v_7 (bs ++ encInts ([p.channel, p.num, p.den, p.offset])) b_1 p.SA p.sc p.sh w_11 (HP.held 3 rfl).1 (HP.at_ 2 rfl) (fun k hk => HP.notBld 3 2 rfl rfl (by decide) k hk) (HP.fact 0 rfl : IsPln _ p).sh (fun k hk => HP.factBld 3 0 rfl rfl k (.inl hk)) hpl.lsh hz2 hl2) ?_
 rintro e w_16 ⟨rfl, v_12, hF_13, hag_14, hv_15⟩
 refine ⟨_, rfl, ?_⟩
 intro a H
 have HP := HP.putV 3 rfl _ rfl hF_13 hag_14 hv_15
 refine nl (tn (sq (rg ?_)))
 refine H.u 24 (pt b 0) (ex_l1 (HP.cell 2 rfl 0 rfl)) fun a H => H.v 25 (pt b_3 5) fun a H => H.u 26 (ii p.epoch) (ex_l1 (HP.cell 1 rfl 5 rfl)) fun a H => H.v 27 (pt b_3 6) fun a H => H.u 28 (ii p.regions) (ex_l1 (HP.cell 1 rfl 6 rfl)) fun a H => H.v 29 (pt b_3 7) fun a H => H.u 30 (ii p.length) (ex_l1 (HP.cell 1 rfl 7 rfl)) fun a H => H.v 31 (pt b_3 8) fun a H => H.u 32 (ii p.fill) (ex_l1 (HP.cell 1 rfl 8 rfl)) fun a H => H.alloc HP 33 (fun b => (.slice (some ⟨b, 0, none⟩) 4 4)) 3 [(ii p.epoch), (ii p.regions), (ii p.length), (ii p.fill)] (by kernel_rfl) (fun w => by kernel_rfl) fun b_17 w_18 a H HP => ?_
 refine H.cl 34 (Tryz.call81 _ _) (put_any base b v_12 (bs ++ encInts ([p.channel, p.num, p.den, p.offset]) ++ encInts ((p.sh.length : Int) :: p.sh.flatMap altNs)) b_17 [p.epoch, p.regions, p.length, p.fill] w_18 (HP.held 4 rfl).1 (HP.at_ 0 rfl) (fun k hk => HP.notBld 4 0 rfl rfl (by decide) k hk) hz3 hl3) ?_
 rintro e w_23 ⟨rfl, v_19, hF_20, hag_21, hv_22⟩
 refine ⟨_, rfl, ?_⟩
 intro a H
 have HP := HP.putV 4 rfl _ rfl hF_20 hag_21 hv_22
 refine nl (tn (sq (rg ?_)))
 refine H.u 35 (pt b 0) (ex_l1 (HP.cell 3 rfl 0 rfl)) fun a H => H.v 36 (pt b_3 9) fun a H => H.u 37 (.slice p.IA p.its.length p.ic) (ex_l1 (HP.cell 2 rfl 9 rfl)) fun a H => H.v 38 (.func (.func 85) #[] #[(pt b_1 0)]) fun a H => ?_
 refine H.cl 39 (Tryz.call84 _ _) (writeI_any base b v_19 (bs ++ encInts ([p.channel, p.num, p.den, p.offset]) ++ encInts ((p.sh.length : Int) :: p.sh.flatMap altNs) ++ encInts ([p.epoch, p.regions, p.length, p.fill])) b_1 p.IA p.ic p.its w_23 (HP.held 4 rfl).1 (HP.at_ 3 rfl) (fun k hk => HP.notBld 4 3 rfl rfl (by decide) k hk) (HP.fact 0 rfl : IsPln _ p).its (fun k hk => HP.factBld 4 0 rfl rfl k (.inr (.inl hk))) hpl.lits hz4 hl4) ?_
 rintro e w_28 ⟨rfl, v_24, hF_25, hag_26, hv_27⟩
 refine ⟨_, rfl, ?_⟩
 intro a H
 have HP := HP.putV 4 rfl _ rfl hF_25 hag_26 hv_27
 refine nl (tn (sq (rg ?_)))
 refine H.u 40 (pt b 0) (ex_l1 (HP.cell 3 rfl 0 rfl)) fun a H => H.v 41 (pt b_3 10) fun a H => H.u 42 (.slice p.EA p.es.length p.ec) (ex_l1 (HP.cell 2 rfl 10 rfl)) fun a H => H.v 43 (.func (.func 87) #[] #[(pt b_1 0)]) fun a H => ?_
 refine H.cl 44 (Tryz.call86 _ _) (writeE_any base b v_24 (bs ++ encInts ([p.channel, p.num, p.den, p.offset]) ++ encInts ((p.sh.length : Int) :: p.sh.flatMap altNs) ++ encInts ([p.epoch, p.regions, p.length, p.fill]) ++ encInts ((p.its.length : Int) :: p.its.flatMap itNs)) b_1 p.EA p.ec p.es w_28 (HP.held 4 rfl).1 (HP.at_ 3 rfl) (fun k hk => HP.notBld 4 3 rfl rfl (by decide) k hk) (HP.fact 0 rfl : IsPln _ p).es (fun k hk => HP.factBld 4 0 rfl rfl k (.inr (.inr (.inl hk)))) hpl.les hz5 hl5) ?_
 rintro e w_33 ⟨rfl, v_29, hF_30, hag_31, hv_32⟩
 refine ⟨_, rfl, ?_⟩
 intro a H
 have HP := HP.putV 4 rfl _ rfl hF_30 hag_31 hv_32
 refine nl (tn (sq (rg ?_)))
 refine H.u 45 (pt b 0) (ex_l1 (HP.cell 3 rfl 0 rfl)) fun a H => H.v 46 (pt b_3 11) fun a H => H.u 47 (.slice p.BA p.bs.length p.bc) (ex_l1 (HP.cell 2 rfl 11 rfl)) fun a H => H.v 48 (.func (.func 91) #[] #[(pt b_1 0)]) fun a H => ?_
 refine H.cl 49 (Tryz.call90 _ _) (writeB_any base b v_29 (bs ++ encInts ([p.channel, p.num, p.den, p.offset]) ++ encInts ((p.sh.length : Int) :: p.sh.flatMap altNs) ++ encInts ([p.epoch, p.regions, p.length, p.fill]) ++ encInts ((p.its.length : Int) :: p.its.flatMap itNs) ++ encInts ((p.es.length : Int) :: p.es.flatMap enNs)) b_1 p.BA p.bc p.bs w_33 (HP.held 4 rfl).1 (HP.at_ 3 rfl) (fun k hk => HP.notBld 4 3 rfl rfl (by decide) k hk) (HP.fact 0 rfl : IsPln _ p).bs (fun k hk => HP.factBld 4 0 rfl rfl k (.inr (.inr (.inr (.inl hk))))) hpl.lbs hz6 hl6) ?_
 rintro e w_38 ⟨rfl, v_34, hF_35, hag_36, hv_37⟩
 refine ⟨_, rfl, ?_⟩
 intro a H
 have HP := HP.putV 4 rfl _ rfl hF_35 hag_36 hv_37
 refine nl (tn (rg ?_))
 refine H.u 50 (pt b 0) (ex_l1 (HP.cell 3 rfl 0 rfl)) fun a H => H.v 51 (pt b_3 12) fun a H => H.u 52 (.slice p.CA p.cs.length p.cc) (ex_l1 (HP.cell 2 rfl 12 rfl)) fun a H => H.v 53 (.func (.func 93) #[] #[(pt b_1 0)]) fun a H => ?_
 refine H.cl 54 (Tryz.call92 _ _) (writeC_any base b v_34 (bs ++ encInts ([p.channel, p.num, p.den, p.offset]) ++ encInts ((p.sh.length : Int) :: p.sh.flatMap altNs) ++ encInts ([p.epoch, p.regions, p.length, p.fill]) ++ encInts ((p.its.length : Int) :: p.its.flatMap itNs) ++ encInts ((p.es.length : Int) :: p.es.flatMap enNs) ++ encInts ((p.bs.length : Int) :: p.bs.flatMap bkNs)) b_1 p.CA p.cc p.cs w_38 (HP.held 4 rfl).1 (HP.at_ 3 rfl) (fun k hk => HP.notBld 4 3 rfl rfl (by decide) k hk) (HP.fact 0 rfl : IsPln _ p).cs (fun k hk => HP.factBld 4 0 rfl rfl k (.inr (.inr (.inr (.inr hk))))) hpl.lcs hz7 hl7) ?_
 rintro e w_43 ⟨rfl, v_39, hF_40, hag_41, hv_42⟩
 refine ⟨_, rfl, ?_⟩
 intro a H
 have HP := HP.putV 4 rfl _ rfl hF_40 hag_41 hv_42
 refine nl ?_
 refine H.end0 (fn := Tryz.f56) Tryz.results56  ?_
 exact HP.endV 4 rfl (by simp only [numsP, encInts_append, List.append_assoc]) (by simp [bx])
theorem encode_any (p : Pln) (w : World) (hpl : IsPln w p) (hL : LaidR w) : Calls Tryz.prog 25 #[(plV p)] w fun e w' => e = .returned (encV p) ∧ Below w.heap.size w w' := by
 have HP := Hp.start w
 refine w_enter 12 [(0, (plV p))] Tryz.func25 rfl Tryz.ntmps25 (by kernel_rfl) (by kernel_rfl) fun a H => ?_
 refine sq (rg ?_)
 refine H.al HP 1 32 (plL p) fun b_1 w_2 a H HP => H.v 2 (.string (bstr ([]))) fun a H => H.v 3 (ii 0) fun a H => ?_
 refine nl (tn (sq (sq (rg ?_))))
 refine H.u 5 (plV p) (ex_lN (plL p) (HP.cells 0 rfl 0 13 (by kernel_rfl))) fun a H => H.cb HP 6 (Tryz.call14 _ _) (valid_any p w_2 (hpl.below HP.bl) (hL.below HP.bl)) fun w_3 hb a H HP => H.v 7 (.bool (!(validPl p))) fun a H => ?_
 refine nl (tn ?_)
 refine w_if H rfl (fun g7 => ?_) (fun g7 => ?_)
 ·have g7p := not_is_true g7
  refine sq (rg ?_)
  refine H.v 2 (.string (bstr ([]))) fun a H => H.v 3 (ii 80) fun a H => ?_
  refine nl (tn (rt (tr ?_)))
  refine H.ret2 (fn := Tryz.f25) Tryz.results25 (RV.tmp_ (v := (.string (bstr ([])))) (by kernel_rfl)) (RV.tmp_ (v := (ii 80)) (by kernel_rfl)) ?_
  exact ⟨by unfold encV; rw [show validPl p = false from g7p]; rfl, HP.bl⟩
 have g7p := not_is_false g7
 refine sk (tn (sq (rg ?_)))
 refine H.al HP 4 94 [(.pointer none), (.slice none 0 0)] fun b_4 w_5 a H HP => ?_
 refine nl ?_
 have HP := HP.toBld 0 5 rfl [(bldW w.heap.size b_4 (.slice none 0 0) []), bx b_1 32 (plL p) true] (by kernel_rfl)
 refine tn (sq (rg ?_))
 refine H.u 8 (plV p) (ex_lN (plL p) (HP.cells 1 rfl 0 13 (by kernel_rfl))) fun a H => ?_
 obtain ⟨hzs, hcnt⟩ := valid_nums g7p
 refine H.cl 9 (Tryz.call56 _ _) (wplan_any w.heap.size b_4 (.slice none 0 0) [] p w_5 (HP.held 0 rfl) (hpl.keep (fun k hk => HP.oldBld 0 rfl (hpl.lt k hk) (by simp [bx, bldG])) HP.size) (fun k hk hf => by have h1 := bld_new (HP.held 0 rfl) k hf; have h2 := hpl.lt k hk; omega) hzs (by simp only [List.length_nil]; omega)) ?_
 rintro e w_6 ⟨rfl, v1, hF, hag, hv⟩
 refine ⟨_, rfl, ?_⟩
 intro a H
 have HP := HP.wrote 0 rfl [(bldW w.heap.size b_4 v1 ([] ++ encInts (numsP p))), bx b_1 32 (plL p) true] (by kernel_rfl) hF hag hv
 refine nl (tn (sq (rg ?_)))
 refine H.v 10 (pt b_4 0) fun a H => ?_
 refine H.cl 11 (Tryz.call57 _ _) (strW_any w.heap.size b_4 v1 ([] ++ encInts (numsP p)) w_6 (HP.held 0 rfl) (nums_some p)) ?_
 rintro e w_7 ⟨rfl, hF2, hag2⟩
 refine ⟨_, rfl, ?_⟩
 intro a H
 have HP := HP.wrote 0 rfl [(bldW w.heap.size b_4 v1 ([] ++ encInts (numsP p))), bx b_1 32 (plL p) true] (by kernel_rfl) hF2 hag2 (fun k hk => .inl hk)
 refine H.v 2 (.string (bstr ([] ++ encInts (numsP p)))) fun a H => H.v 3 (ii 0) fun a H => ?_
 refine nl (tn (rt ?_))
 refine H.ret2 (fn := Tryz.f25) Tryz.results25 (RV.tmp_ (v := (.string (bstr ([] ++ encInts (numsP p))))) (by kernel_rfl)) (RV.tmp_ (v := (ii 0)) (by kernel_rfl)) ?_
 exact ⟨by unfold encV; rw [show validPl p = true from g7p]; rfl, HP.belowB (by simp [bx, bldG])⟩
theorem take_eq_snoc {α : Type} {l m : List α} {i : Nat} {x y : α} (h : l.take i = m.take i) (hx : l[i]? = some x) (hy : m[i]? = some y) (e : x = y) : l.take (i + 1) = m.take (i + 1) := by
 rw [List.take_add_one, List.take_add_one, hx, hy, h, e]
theorem take_all {α : Type} {l m : List α} {i : Nat} (h : l.take i = m.take i) (hi : l.length ≤ i) (hl : l.length = m.length) : l = m := by
 rw [← List.take_of_length_le hi, h, List.take_of_length_le (by omega)]
theorem ne_at {α : Type} {l m : List α} {i : Nat} {x y : α} (hx : l[i]? = some x) (hy : m[i]? = some y) (e : x ≠ y) : l ≠ m := fun h => by
 subst h
 rw [hx] at hy
 exact e (Option.some.inj hy)
theorem ent_eqb (x y : Ent) : decide (x.nv = y.nv) = (x.id == y.id && x.item == y.item && x.frames == y.frames && x.earliest == y.earliest && x.latest == y.latest && x.booking == y.booking && decide (x.al = y.al)) := by
 rw [Bool.eq_iff_iff]
 simp [Ent.nv, and_assoc]
theorem pln_eqb (p q : Pln) : decide (p.nv = q.nv) = (p.channel == q.channel && (([p.num, p.den] : List Int) == [q.num, q.den]) && p.offset == q.offset && p.epoch == q.epoch && p.regions == q.regions && p.length == q.length && p.fill == q.fill && decide (p.sh = q.sh) && decide (p.its = q.its) && decide (p.es.map Ent.nv = q.es.map Ent.nv) && decide (p.bs = q.bs) && decide (p.cs = q.cs)) := by
 rw [Bool.eq_iff_iff]
 simp only [Pln.nv, PlN.mk.injEq, decide_eq_true_eq, Bool.and_eq_true, beq_iff_eq, List.cons.injEq, and_true]
 constructor
 ·rintro ⟨h1, h2, h3, h4, h5, h6, h7, h8, h9, h10, h11, h12, h13⟩; exact ⟨⟨⟨⟨⟨⟨⟨⟨⟨⟨⟨h1, h2, h3⟩, h4⟩, h6⟩, h7⟩, h8⟩, h9⟩, h5⟩, h10⟩, h11⟩, h12⟩, h13⟩
 ·rintro ⟨⟨⟨⟨⟨⟨⟨⟨⟨⟨⟨h1, h2, h3⟩, h4⟩, h6⟩, h7⟩, h8⟩, h9⟩, h5⟩, h10⟩, h11⟩, h12⟩, h13⟩; exact ⟨h1, h2, h3, h4, h5, h6, h7, h8, h9, h10, h11, h12, h13⟩
theorem map_at {α β : Type} {f : α → β} {l : List α} {i : Nat} {x : α} (hx : l[i]? = some x) : (l.map f)[i]? = some (f x) := by
 rw [List.getElem?_map, hx]; rfl
theorem findI_any (A : Option Addr) (c : Nat) (l : List Itm) (k : Int) (w : World) (hr : IsIt w A l) (hl : l.length ≤ maxLen) : Calls Tryz.prog 48 #[.slice A l.length c, .int .i64 k, .func (.func 49) #[] #[]] w fun e w' => e = .returned (.tuple #[(itV (gI l k)), .bool (hI l k)]) ∧ Below w.heap.size w w' := by
 unfold maxLen at hl
 have HP := Hp.start w
 refine w_enter 25 [(0, (.slice A l.length c)), (1, (ii k)), (2, (.func (.func 49) #[] #[]))] Tryz.func48 rfl Tryz.ntmps48 (by kernel_rfl) (by kernel_rfl) fun a H => ?_
 refine sq (rg ?_)
 refine H.al HP 6 38 [(ii 0), (ii 0), (ii 0), (ii 0), (ii 0)] fun b_1 w_2 a H HP => H.v 7 (.bool false) fun a H => ?_
 refine nl (tn (sq (sq (rg ?_))))
 refine H.v 11 (.slice A l.length c) fun a H => H.v 12 (ii l.length) fun a H => H.v 13 (ii 0) fun a H => ?_
 refine nl (tn (bk ?_))
 refine w_loop (fun mm a wv => ∃ (i : Nat), l.length - i = mm ∧ Sl 25 [(13, (ii i)), (12, (ii l.length)), (11, (.slice A l.length c)), (6, (pt b_1 0)), (0, (.slice A l.length c)), (1, (ii k)), (2, (.func (.func 49) #[] #[]))] a ∧ Hp w wv [bx b_1 38 [(ii 0), (ii 0), (ii 0), (ii 0), (ii 0)] true] [] ∧ (i ≤ l.length) ∧ (fI l k = fI (l.drop i) k)) (l.length - 0) ?_ ?_
 ·exact ⟨0, (by omega), H.keep (by kernel_rfl), HP, (Nat.zero_le _), rfl⟩
 rintro mm a w_3 ⟨i, hmeas, H, HP, hib, hrel⟩
 refine sq (rg ?_)
 refine H.v 14 (.bool (decide ((i : Int) < (l.length : Int)))) fun a H => ?_
 refine nl (tn (sq ?_))
 refine w_if H rfl (fun g14 => ?_) (fun g14 => ?_)
 ·have g14p := of_decide_eq_true g14
  refine sk (tn (sq (bk (sq ?_))))
  obtain ⟨bu_5, ou_6, x_4, hA_7, _, hd_9, hx_8, hm_10, _⟩ := IsRow.get itC_size (hr.below HP.bl) (i := i) (by omega)
  refine rg ?_
  refine H.u 15 (.pointer (some ⟨bu_5, ou_6 + i * 5, none⟩)) (ex_indexA (b := bu_5) (off := ou_6) (len := l.length) (cap := c) (e := 38) (k := 5) (ik := .i64) (i := (i : Int)) (m := i) hA_7 (by kernel_rfl) (by kernel_rfl) (by omega) (by omega) (by kernel_rfl) (by kernel_rfl)) fun a H => H.u 16 (itV x_4) (ex_lN (itL x_4) (IsRow.cells itC_size (hr.below HP.bl) hA_7 hx_8)) fun a H => H.al HP 9 38 [(ii 0), (ii 0), (ii 0), (ii 0), (ii 0)] fun b_11 w_12 a H HP => H.st HP 0 b_11 0 5 38 true (itV x_4) [bx b_11 38 (itL x_4) true, bx b_1 38 [(ii 0), (ii 0), (ii 0), (ii 0), (ii 0)] true] rfl fun w_13 a H HP => ?_
  refine nl (tn (sq (rg ?_)))
  refine H.v 17 (.func (.func 49) #[] #[]) fun a H => H.u 18 (itV x_4) (ex_lN (itL x_4) (HP.cells 0 rfl 0 5 (by kernel_rfl))) fun a H => H.cb HP 19 (Tryz.call49 _ _) (itemID_any x_4 w_13) fun w_14 hb a H HP => H.v 20 (ii k) fun a H => H.v 21 (.bool (x_4.id == k)) fun a H => ?_
  refine nl (tn ?_)
  refine w_if H rfl (fun g21 => ?_) (fun g21 => ?_)
  ·have g21p := eq_of_beq g21
   refine sq (rg ?_)
   refine H.u 22 (itV x_4) (ex_lN (itL x_4) (HP.cells 0 rfl 0 5 (by kernel_rfl))) fun a H => H.st HP 1 b_1 0 5 38 true (itV x_4) [bx b_11 38 (itL x_4) true, bx b_1 38 (itL x_4) true] rfl fun w_15 a H HP => H.v 7 (.bool true) fun a H => ?_
   refine nl (tn (rt (ibr (tr (tr (ibr (tr ?_)))))))
   refine H.ret2 (fn := Tryz.f48) Tryz.results48 (RV.cellN (vs := (itL x_4)) (b := b_1) (off := 0) (k := 5) (by kernel_rfl) (by kernel_rfl) (by kernel_rfl) rfl (HP.cells 1 rfl 0 5 (by kernel_rfl))) (RV.tmp_ (v := (.bool true)) (by kernel_rfl)) ?_
   have hv : fI l k = some x_4 := by rw [hrel, hd_9]; unfold fI; rw [List.find?_cons, g21]
   exact ⟨by rw [show gI l k = x_4 from by unfold gI; rw [hv]; rfl, show hI l k = true from by unfold hI; rw [hv]; rfl], HP.bl⟩
  have g21p := ne_of_beq_false g21
  refine sk (ibn (tn (rg ?_)))
  refine H.valE 23 (ii (IntKind.i64.wrap ((i : Int) + 1))) (ii ((i : Int) + 1)) (by kernel_rfl) (by kernel_rfl) ((by rw [wrap_ini64 _ (by omega)])) fun a H => H.v 13 (ii ((i : Int) + 1)) fun a H => ?_
  refine nl (tn ?_)
  have H := H.as 13 (ii ((i + 1 : Nat) : Int)) rfl rfl
  refine ⟨_, ?_, i + 1, rfl, H.keep (by kernel_rfl), (HP.tail rfl), (by omega), (by rw [hrel, hd_9]; unfold fI; rw [List.find?_cons, g21])⟩
  omega
 have g14p := of_decide_eq_false g14
 refine wp_exit (then_exit (then_exit ?_))
 refine w_exit_here ?_
 refine tn (sq (rg ?_))
 refine H.al HP 10 38 [(ii 0), (ii 0), (ii 0), (ii 0), (ii 0)] fun b_16 w_17 a H HP => ?_
 refine nl (tn (sq (rg ?_)))
 refine H.u 24 (.agg #[(ii 0), (ii 0), (ii 0), (ii 0), (ii 0)]) (ex_lN [(ii 0), (ii 0), (ii 0), (ii 0), (ii 0)] (HP.cells 0 rfl 0 5 (by kernel_rfl))) fun a H => H.st HP 1 b_1 0 5 38 true (.agg #[(ii 0), (ii 0), (ii 0), (ii 0), (ii 0)]) [bx b_16 38 [(ii 0), (ii 0), (ii 0), (ii 0), (ii 0)] true, bx b_1 38 [(ii 0), (ii 0), (ii 0), (ii 0), (ii 0)] true] rfl fun w_18 a H HP => H.v 7 (.bool false) fun a H => ?_
 refine nl (tn (rt ?_))
 refine H.ret2 (fn := Tryz.f48) Tryz.results48 (RV.cellN (vs := [(ii 0), (ii 0), (ii 0), (ii 0), (ii 0)]) (b := b_1) (off := 0) (k := 5) (by kernel_rfl) (by kernel_rfl) (by kernel_rfl) rfl (HP.cells 1 rfl 0 5 (by kernel_rfl))) (RV.tmp_ (v := (.bool false)) (by kernel_rfl)) ?_
 have hv : fI l k = none := by rw [hrel, List.drop_eq_nil_of_le (by omega)]; rfl
 exact ⟨by rw [show gI l k = itZ from by unfold gI; rw [hv]; rfl, show hI l k = false from by unfold hI; rw [hv]; rfl]; rfl, HP.bl⟩
theorem findB_any (A : Option Addr) (c : Nat) (l : List Bkg) (k : Int) (w : World) (hr : IsBk w A l) (hl : l.length ≤ maxLen) : Calls Tryz.prog 53 #[.slice A l.length c, .int .i64 k, .func (.func 54) #[] #[]] w fun e w' => e = .returned (.tuple #[(bkV (gB l k)), .bool (hB l k)]) ∧ Below w.heap.size w w' := by
 unfold maxLen at hl
 have HP := Hp.start w
 refine w_enter 25 [(0, (.slice A l.length c)), (1, (ii k)), (2, (.func (.func 54) #[] #[]))] Tryz.func53 rfl Tryz.ntmps53 (by kernel_rfl) (by kernel_rfl) fun a H => ?_
 refine sq (rg ?_)
 refine H.al HP 6 47 [(ii 0), (ii 0), (ii 0), (ii 0), (ii 0), (ii 0), (ii 0)] fun b_1 w_2 a H HP => H.v 7 (.bool false) fun a H => ?_
 refine nl (tn (sq (sq (rg ?_))))
 refine H.v 11 (.slice A l.length c) fun a H => H.v 12 (ii l.length) fun a H => H.v 13 (ii 0) fun a H => ?_
 refine nl (tn (bk ?_))
 refine w_loop (fun mm a wv => ∃ (i : Nat), l.length - i = mm ∧ Sl 25 [(13, (ii i)), (12, (ii l.length)), (11, (.slice A l.length c)), (6, (pt b_1 0)), (0, (.slice A l.length c)), (1, (ii k)), (2, (.func (.func 54) #[] #[]))] a ∧ Hp w wv [bx b_1 47 [(ii 0), (ii 0), (ii 0), (ii 0), (ii 0), (ii 0), (ii 0)] true] [] ∧ (i ≤ l.length) ∧ (fB l k = fB (l.drop i) k)) (l.length - 0) ?_ ?_
 ·exact ⟨0, (by omega), H.keep (by kernel_rfl), HP, (Nat.zero_le _), rfl⟩
 rintro mm a w_3 ⟨i, hmeas, H, HP, hib, hrel⟩
 refine sq (rg ?_)
 refine H.v 14 (.bool (decide ((i : Int) < (l.length : Int)))) fun a H => ?_
 refine nl (tn (sq ?_))
 refine w_if H rfl (fun g14 => ?_) (fun g14 => ?_)
 ·have g14p := of_decide_eq_true g14
  refine sk (tn (sq (bk (sq ?_))))
  obtain ⟨bu_5, ou_6, x_4, hA_7, _, hd_9, hx_8, hm_10, _⟩ := IsRow.get bkC_size (hr.below HP.bl) (i := i) (by omega)
  refine rg ?_
  refine H.u 15 (.pointer (some ⟨bu_5, ou_6 + i * 7, none⟩)) (ex_indexA (b := bu_5) (off := ou_6) (len := l.length) (cap := c) (e := 47) (k := 7) (ik := .i64) (i := (i : Int)) (m := i) hA_7 (by kernel_rfl) (by kernel_rfl) (by omega) (by omega) (by kernel_rfl) (by kernel_rfl)) fun a H => H.u 16 (bkV x_4) (ex_lN (bkL x_4) (IsRow.cells bkC_size (hr.below HP.bl) hA_7 hx_8)) fun a H => H.al HP 9 47 [(ii 0), (ii 0), (ii 0), (ii 0), (ii 0), (ii 0), (ii 0)] fun b_11 w_12 a H HP => H.st HP 0 b_11 0 7 47 true (bkV x_4) [bx b_11 47 (bkL x_4) true, bx b_1 47 [(ii 0), (ii 0), (ii 0), (ii 0), (ii 0), (ii 0), (ii 0)] true] rfl fun w_13 a H HP => ?_
  refine nl (tn (sq (rg ?_)))
  refine H.v 17 (.func (.func 54) #[] #[]) fun a H => H.u 18 (bkV x_4) (ex_lN (bkL x_4) (HP.cells 0 rfl 0 7 (by kernel_rfl))) fun a H => H.cb HP 19 (Tryz.call54 _ _) (bookingID_any x_4 w_13) fun w_14 hb a H HP => H.v 20 (ii k) fun a H => H.v 21 (.bool (x_4.id == k)) fun a H => ?_
  refine nl (tn ?_)
  refine w_if H rfl (fun g21 => ?_) (fun g21 => ?_)
  ·have g21p := eq_of_beq g21
   refine sq (rg ?_)
   refine H.u 22 (bkV x_4) (ex_lN (bkL x_4) (HP.cells 0 rfl 0 7 (by kernel_rfl))) fun a H => H.st HP 1 b_1 0 7 47 true (bkV x_4) [bx b_11 47 (bkL x_4) true, bx b_1 47 (bkL x_4) true] rfl fun w_15 a H HP => H.v 7 (.bool true) fun a H => ?_
   refine nl (tn (rt (ibr (tr (tr (ibr (tr ?_)))))))
   refine H.ret2 (fn := Tryz.f53) Tryz.results53 (RV.cellN (vs := (bkL x_4)) (b := b_1) (off := 0) (k := 7) (by kernel_rfl) (by kernel_rfl) (by kernel_rfl) rfl (HP.cells 1 rfl 0 7 (by kernel_rfl))) (RV.tmp_ (v := (.bool true)) (by kernel_rfl)) ?_
   have hv : fB l k = some x_4 := by rw [hrel, hd_9]; unfold fB; rw [List.find?_cons, g21]
   exact ⟨by rw [show gB l k = x_4 from by unfold gB; rw [hv]; rfl, show hB l k = true from by unfold hB; rw [hv]; rfl], HP.bl⟩
  have g21p := ne_of_beq_false g21
  refine sk (ibn (tn (rg ?_)))
  refine H.valE 23 (ii (IntKind.i64.wrap ((i : Int) + 1))) (ii ((i : Int) + 1)) (by kernel_rfl) (by kernel_rfl) ((by rw [wrap_ini64 _ (by omega)])) fun a H => H.v 13 (ii ((i : Int) + 1)) fun a H => ?_
  refine nl (tn ?_)
  have H := H.as 13 (ii ((i + 1 : Nat) : Int)) rfl rfl
  refine ⟨_, ?_, i + 1, rfl, H.keep (by kernel_rfl), (HP.tail rfl), (by omega), (by rw [hrel, hd_9]; unfold fB; rw [List.find?_cons, g21])⟩
  omega
 have g14p := of_decide_eq_false g14
 refine wp_exit (then_exit (then_exit ?_))
 refine w_exit_here ?_
 refine tn (sq (rg ?_))
 refine H.al HP 10 47 [(ii 0), (ii 0), (ii 0), (ii 0), (ii 0), (ii 0), (ii 0)] fun b_16 w_17 a H HP => ?_
 refine nl (tn (sq (rg ?_)))
 refine H.u 24 (.agg #[(ii 0), (ii 0), (ii 0), (ii 0), (ii 0), (ii 0), (ii 0)]) (ex_lN [(ii 0), (ii 0), (ii 0), (ii 0), (ii 0), (ii 0), (ii 0)] (HP.cells 0 rfl 0 7 (by kernel_rfl))) fun a H => H.st HP 1 b_1 0 7 47 true (.agg #[(ii 0), (ii 0), (ii 0), (ii 0), (ii 0), (ii 0), (ii 0)]) [bx b_16 47 [(ii 0), (ii 0), (ii 0), (ii 0), (ii 0), (ii 0), (ii 0)] true, bx b_1 47 [(ii 0), (ii 0), (ii 0), (ii 0), (ii 0), (ii 0), (ii 0)] true] rfl fun w_18 a H HP => H.v 7 (.bool false) fun a H => ?_
 refine nl (tn (rt ?_))
 refine H.ret2 (fn := Tryz.f53) Tryz.results53 (RV.cellN (vs := [(ii 0), (ii 0), (ii 0), (ii 0), (ii 0), (ii 0), (ii 0)]) (b := b_1) (off := 0) (k := 7) (by kernel_rfl) (by kernel_rfl) (by kernel_rfl) rfl (HP.cells 1 rfl 0 7 (by kernel_rfl))) (RV.tmp_ (v := (.bool false)) (by kernel_rfl)) ?_
 have hv : fB l k = none := by rw [hrel, List.drop_eq_nil_of_le (by omega)]; rfl
 exact ⟨by rw [show gB l k = bkZ from by unfold gB; rw [hv]; rfl, show hB l k = false from by unfold hB; rw [hv]; rfl]; rfl, HP.bl⟩
theorem findE_any (A : Option Addr) (c : Nat) (l : List Ent) (k : Int) (w : World) (hr : IsRow 7 enC w A l) (hl : l.length ≤ maxLen) : Calls Tryz.prog 50 #[.slice A l.length c, .int .i64 k, .func (.func 51) #[] #[]] w fun e w' => e = .returned (.tuple #[(.agg #[(ii ((gE l k).id)), (ii ((gE l k).item)), (ii ((gE l k).frames)), (ii ((gE l k).earliest)), (ii ((gE l k).latest)), (ii ((gE l k).booking)), (.slice ((gE l k).A) ((gE l k).al.length) ((gE l k).c))]), .bool (hE l k)]) ∧ Below w.heap.size w w' := by
 unfold maxLen at hl
 have HP := Hp.start w
 refine w_enter 25 [(0, (.slice A l.length c)), (1, (ii k)), (2, (.func (.func 51) #[] #[]))] Tryz.func50 rfl Tryz.ntmps50 (by kernel_rfl) (by kernel_rfl) fun a H => ?_
 refine sq (rg ?_)
 refine H.al HP 6 43 [(ii 0), (ii 0), (ii 0), (ii 0), (ii 0), (ii 0), (.slice none 0 0)] fun b_1 w_2 a H HP => H.v 7 (.bool false) fun a H => ?_
 refine nl (tn (sq (sq (rg ?_))))
 refine H.v 11 (.slice A l.length c) fun a H => H.v 12 (ii l.length) fun a H => H.v 13 (ii 0) fun a H => ?_
 refine nl (tn (bk ?_))
 refine w_loop (fun mm a wv => ∃ (i : Nat), l.length - i = mm ∧ Sl 25 [(13, (ii i)), (12, (ii l.length)), (11, (.slice A l.length c)), (6, (pt b_1 0)), (0, (.slice A l.length c)), (1, (ii k)), (2, (.func (.func 51) #[] #[]))] a ∧ Hp w wv [bx b_1 43 [(ii 0), (ii 0), (ii 0), (ii 0), (ii 0), (ii 0), (.slice none 0 0)] true] [] ∧ (i ≤ l.length) ∧ (fE l k = fE (l.drop i) k)) (l.length - 0) ?_ ?_
 ·exact ⟨0, (by omega), H.keep (by kernel_rfl), HP, (Nat.zero_le _), rfl⟩
 rintro mm a w_3 ⟨i, hmeas, H, HP, hib, hrel⟩
 refine sq (rg ?_)
 refine H.v 14 (.bool (decide ((i : Int) < (l.length : Int)))) fun a H => ?_
 refine nl (tn (sq ?_))
 refine w_if H rfl (fun g14 => ?_) (fun g14 => ?_)
 ·have g14p := of_decide_eq_true g14
  refine sk (tn (sq (bk (sq ?_))))
  obtain ⟨bu_5, ou_6, x_4, hA_7, _, hd_9, hx_8, hm_10, _⟩ := IsRow.get enC_size (hr.below HP.bl) (i := i) (by omega)
  refine rg ?_
  refine H.u 15 (.pointer (some ⟨bu_5, ou_6 + i * 7, none⟩)) (ex_indexA (b := bu_5) (off := ou_6) (len := l.length) (cap := c) (e := 43) (k := 7) (ik := .i64) (i := (i : Int)) (m := i) hA_7 (by kernel_rfl) (by kernel_rfl) (by omega) (by omega) (by kernel_rfl) (by kernel_rfl)) fun a H => H.u 16 (enV x_4) (ex_lN (enL x_4) (IsRow.cells enC_size (hr.below HP.bl) hA_7 hx_8)) fun a H => H.al HP 9 43 [(ii 0), (ii 0), (ii 0), (ii 0), (ii 0), (ii 0), (.slice none 0 0)] fun b_11 w_12 a H HP => H.st HP 0 b_11 0 7 43 true (enV x_4) [bx b_11 43 (enL x_4) true, bx b_1 43 [(ii 0), (ii 0), (ii 0), (ii 0), (ii 0), (ii 0), (.slice none 0 0)] true] rfl fun w_13 a H HP => ?_
  refine nl (tn (sq (rg ?_)))
  refine H.v 17 (.func (.func 51) #[] #[]) fun a H => H.u 18 (enV x_4) (ex_lN (enL x_4) (HP.cells 0 rfl 0 7 (by kernel_rfl))) fun a H => H.cb HP 19 (Tryz.call51 _ _) (entryID_any x_4 w_13) fun w_14 hb a H HP => H.v 20 (ii k) fun a H => H.v 21 (.bool (x_4.id == k)) fun a H => ?_
  refine nl (tn ?_)
  refine w_if H rfl (fun g21 => ?_) (fun g21 => ?_)
  ·have g21p := eq_of_beq g21
   refine sq (rg ?_)
   refine H.u 22 (enV x_4) (ex_lN (enL x_4) (HP.cells 0 rfl 0 7 (by kernel_rfl))) fun a H => H.st HP 1 b_1 0 7 43 true (enV x_4) [bx b_11 43 (enL x_4) true, bx b_1 43 (enL x_4) true] rfl fun w_15 a H HP => H.v 7 (.bool true) fun a H => ?_
   refine nl (tn (rt (ibr (tr (tr (ibr (tr ?_)))))))
   refine H.ret2 (fn := Tryz.f50) Tryz.results50 (RV.cellN (vs := (enL x_4)) (b := b_1) (off := 0) (k := 7) (by kernel_rfl) (by kernel_rfl) (by kernel_rfl) rfl (HP.cells 1 rfl 0 7 (by kernel_rfl))) (RV.tmp_ (v := (.bool true)) (by kernel_rfl)) ?_
   have hv : fE l k = some x_4 := by rw [hrel, hd_9]; unfold fE; rw [List.find?_cons, g21]
   exact ⟨by rw [show gE l k = x_4 from by unfold gE; rw [hv]; rfl, show hE l k = true from by unfold hE; rw [hv]; rfl], HP.bl⟩
  have g21p := ne_of_beq_false g21
  refine sk (ibn (tn (rg ?_)))
  refine H.valE 23 (ii (IntKind.i64.wrap ((i : Int) + 1))) (ii ((i : Int) + 1)) (by kernel_rfl) (by kernel_rfl) ((by rw [wrap_ini64 _ (by omega)])) fun a H => H.v 13 (ii ((i : Int) + 1)) fun a H => ?_
  refine nl (tn ?_)
  have H := H.as 13 (ii ((i + 1 : Nat) : Int)) rfl rfl
  refine ⟨_, ?_, i + 1, rfl, H.keep (by kernel_rfl), (HP.tail rfl), (by omega), (by rw [hrel, hd_9]; unfold fE; rw [List.find?_cons, g21])⟩
  omega
 have g14p := of_decide_eq_false g14
 refine wp_exit (then_exit (then_exit ?_))
 refine w_exit_here ?_
 refine tn (sq (rg ?_))
 refine H.al HP 10 43 [(ii 0), (ii 0), (ii 0), (ii 0), (ii 0), (ii 0), (.slice none 0 0)] fun b_16 w_17 a H HP => ?_
 refine nl (tn (sq (rg ?_)))
 refine H.u 24 (.agg #[(ii 0), (ii 0), (ii 0), (ii 0), (ii 0), (ii 0), (.slice none 0 0)]) (ex_lN [(ii 0), (ii 0), (ii 0), (ii 0), (ii 0), (ii 0), (.slice none 0 0)] (HP.cells 0 rfl 0 7 (by kernel_rfl))) fun a H => H.st HP 1 b_1 0 7 43 true (.agg #[(ii 0), (ii 0), (ii 0), (ii 0), (ii 0), (ii 0), (.slice none 0 0)]) [bx b_16 43 [(ii 0), (ii 0), (ii 0), (ii 0), (ii 0), (ii 0), (.slice none 0 0)] true, bx b_1 43 [(ii 0), (ii 0), (ii 0), (ii 0), (ii 0), (ii 0), (.slice none 0 0)] true] rfl fun w_18 a H HP => H.v 7 (.bool false) fun a H => ?_
 refine nl (tn (rt ?_))
 refine H.ret2 (fn := Tryz.f50) Tryz.results50 (RV.cellN (vs := [(ii 0), (ii 0), (ii 0), (ii 0), (ii 0), (ii 0), (.slice none 0 0)]) (b := b_1) (off := 0) (k := 7) (by kernel_rfl) (by kernel_rfl) (by kernel_rfl) rfl (HP.cells 1 rfl 0 7 (by kernel_rfl))) (RV.tmp_ (v := (.bool false)) (by kernel_rfl)) ?_
 have hv : fE l k = none := by rw [hrel, List.drop_eq_nil_of_le (by omega)]; rfl
 exact ⟨by rw [show gE l k = enZ from by unfold gE; rw [hv]; rfl, show hE l k = false from by unfold hE; rw [hv]; rfl]; rfl, HP.bl⟩
theorem item_any (p : Pln) (k : Int) (w : World) (hpl : IsPln w p) : Calls Tryz.prog 18 #[(plV p), .int .i64 k] w fun e w' => e = .returned (.tuple #[(itV (gI p.its k)), .bool (hI p.its k)]) ∧ Below w.heap.size w w' := by
 have HP := Hp.start w
 refine w_enter 12 [(0, (plV p)), (1, (ii k))] Tryz.func18 rfl Tryz.ntmps18 (by kernel_rfl) (by kernel_rfl) fun a H => ?_
 refine sq (rg ?_)
 refine H.al HP 2 32 (plL p) fun b_1 w_2 a H HP => H.al HP 4 38 [(ii 0), (ii 0), (ii 0), (ii 0), (ii 0)] fun b_3 w_4 a H HP => H.v 5 (.bool false) fun a H => ?_
 refine nl (tn (sq (rg ?_)))
 refine H.v 6 (pt b_1 9) fun a H => H.u 7 (.slice p.IA p.its.length p.ic) (ex_l1 (HP.cell 1 rfl 9 rfl)) fun a H => H.v 8 (ii k) fun a H => H.cb HP 9 (Tryz.call48 _ _) (findI_any p.IA p.ic p.its k w_4 (hpl.its.below HP.bl) hpl.lits) fun w_5 hb a H HP => H.v 10 (itV (gI p.its k)) fun a H => H.v 11 (.bool (hI p.its k)) fun a H => H.st HP 0 b_3 0 5 38 true (itV (gI p.its k)) [bx b_3 38 (itL (gI p.its k)) true, bx b_1 32 (plL p) true] rfl fun w_6 a H HP => H.v 5 (.bool (hI p.its k)) fun a H => ?_
 refine nl (tn (rt ?_))
 refine H.ret2 (fn := Tryz.f18) Tryz.results18 (RV.cellN (vs := (itL (gI p.its k))) (b := b_3) (off := 0) (k := 5) (by kernel_rfl) (by kernel_rfl) (by kernel_rfl) rfl (HP.cells 0 rfl 0 5 (by kernel_rfl))) (RV.tmp_ (v := (.bool (hI p.its k))) (by kernel_rfl)) ?_
 exact ⟨rfl, HP.bl⟩
theorem booking_any (p : Pln) (k : Int) (w : World) (hpl : IsPln w p) : Calls Tryz.prog 22 #[(plV p), .int .i64 k] w fun e w' => e = .returned (.tuple #[(bkV (gB p.bs k)), .bool (hB p.bs k)]) ∧ Below w.heap.size w w' := by
 have HP := Hp.start w
 refine w_enter 12 [(0, (plV p)), (1, (ii k))] Tryz.func22 rfl Tryz.ntmps22 (by kernel_rfl) (by kernel_rfl) fun a H => ?_
 refine sq (rg ?_)
 refine H.al HP 2 32 (plL p) fun b_1 w_2 a H HP => H.al HP 4 47 [(ii 0), (ii 0), (ii 0), (ii 0), (ii 0), (ii 0), (ii 0)] fun b_3 w_4 a H HP => H.v 5 (.bool false) fun a H => ?_
 refine nl (tn (sq (rg ?_)))
 refine H.v 6 (pt b_1 11) fun a H => H.u 7 (.slice p.BA p.bs.length p.bc) (ex_l1 (HP.cell 1 rfl 11 rfl)) fun a H => H.v 8 (ii k) fun a H => H.cb HP 9 (Tryz.call53 _ _) (findB_any p.BA p.bc p.bs k w_4 (hpl.bs.below HP.bl) hpl.lbs) fun w_5 hb a H HP => H.v 10 (bkV (gB p.bs k)) fun a H => H.v 11 (.bool (hB p.bs k)) fun a H => H.st HP 0 b_3 0 7 47 true (bkV (gB p.bs k)) [bx b_3 47 (bkL (gB p.bs k)) true, bx b_1 32 (plL p) true] rfl fun w_6 a H HP => H.v 5 (.bool (hB p.bs k)) fun a H => ?_
 refine nl (tn (rt ?_))
 refine H.ret2 (fn := Tryz.f22) Tryz.results22 (RV.cellN (vs := (bkL (gB p.bs k))) (b := b_3) (off := 0) (k := 7) (by kernel_rfl) (by kernel_rfl) (by kernel_rfl) rfl (HP.cells 0 rfl 0 7 (by kernel_rfl))) (RV.tmp_ (v := (.bool (hB p.bs k))) (by kernel_rfl)) ?_
 exact ⟨rfl, HP.bl⟩
theorem ritem_any (p : Pln) (k : Int) (w : World) (hpl : IsPln w p) : Calls Tryz.prog 19 #[(plV p), .int .i64 k] w fun e w' => e = .returned (.tuple #[(itV (gI p.its k)), .bool (hI p.its k)]) ∧ Below w.heap.size w w' := by
 have hl := hpl.lits
 unfold maxLen at hl
 have HP := Hp.start w
 refine w_enter 28 [(0, (plV p)), (1, (ii k))] Tryz.func19 rfl Tryz.ntmps19 (by kernel_rfl) (by kernel_rfl) fun a H => ?_
 refine sq (rg ?_)
 refine H.al HP 2 32 (plL p) fun b_1 w_2 a H HP => H.al HP 4 38 [(ii 0), (ii 0), (ii 0), (ii 0), (ii 0)] fun b_3 w_4 a H HP => H.v 5 (.bool false) fun a H => ?_
 refine nl (tn (sq (sq (rg ?_))))
 refine H.v 6 (ii 0) fun a H => ?_
 refine nl (tn (bk ?_))
 refine w_loop (fun mm a wv => ∃ (i : Nat), p.its.length - i = mm ∧ Sl 28 [(6, (ii i)), (4, (pt b_3 0)), (2, (pt b_1 0)), (0, (plV p)), (1, (ii k))] a ∧ Hp w wv [bx b_3 38 [(ii 0), (ii 0), (ii 0), (ii 0), (ii 0)] true, bx b_1 32 (plL p) true] [] ∧ (i ≤ p.its.length) ∧ (fI p.its k = fI (p.its.drop i) k)) (p.its.length - 0) ?_ ?_
 ·exact ⟨0, (by omega), H.keep (by kernel_rfl), HP, (Nat.zero_le _), rfl⟩
 rintro mm a w_5 ⟨i, hmeas, H, HP, hib, hrel⟩
 refine sq (sq (rg ?_))
 refine H.v 7 (ii i) fun a H => H.v 8 (pt b_1 9) fun a H => H.u 9 (.slice p.IA p.its.length p.ic) (ex_l1 (HP.cell 1 rfl 9 rfl)) fun a H => H.v 10 (ii p.its.length) fun a H => H.v 11 (.bool (decide ((i : Int) < (p.its.length : Int)))) fun a H => ?_
 refine nl (tn ?_)
 refine w_if H rfl (fun g11 => ?_) (fun g11 => ?_)
 ·have g11p := of_decide_eq_true g11
  refine sk (tn (sq (bk (sq ?_))))
  obtain ⟨bu_7, ou_8, x_6, hA_9, _, hd_11, hx_10, hm_12, _⟩ := IsRow.get itC_size (hpl.its.below HP.bl) (i := i) (by omega)
  refine rg ?_
  refine H.v 14 (pt b_1 9) fun a H => H.u 15 (.slice p.IA p.its.length p.ic) (ex_l1 (HP.cell 1 rfl 9 rfl)) fun a H => H.v 16 (ii i) fun a H => H.u 17 (.pointer (some ⟨bu_7, ou_8 + i * 5, none⟩)) (ex_indexA (b := bu_7) (off := ou_8) (len := p.its.length) (cap := p.ic) (e := 38) (k := 5) (ik := .i64) (i := (i : Int)) (m := i) hA_9 (by kernel_rfl) (by kernel_rfl) (by omega) (by omega) (by kernel_rfl) (by kernel_rfl)) fun a H => H.v 18 (.pointer (some ⟨bu_7, ou_8 + i * 5, none⟩)) fun a H => H.u 19 (ii x_6.id) (ex_l1 (IsRow.cells itC_size (hpl.its.below HP.bl) hA_9 hx_10 0 _ rfl)) fun a H => H.v 20 (ii k) fun a H => H.v 21 (.bool (x_6.id == k)) fun a H => ?_
  refine nl (tn ?_)
  refine w_if H rfl (fun g21 => ?_) (fun g21 => ?_)
  ·have g21p := eq_of_beq g21
   refine sq (rg ?_)
   refine H.v 22 (pt b_1 9) fun a H => H.u 23 (.slice p.IA p.its.length p.ic) (ex_l1 (HP.cell 1 rfl 9 rfl)) fun a H => H.v 24 (ii i) fun a H => H.u 25 (.pointer (some ⟨bu_7, ou_8 + i * 5, none⟩)) (ex_indexA (b := bu_7) (off := ou_8) (len := p.its.length) (cap := p.ic) (e := 38) (k := 5) (ik := .i64) (i := (i : Int)) (m := i) hA_9 (by kernel_rfl) (by kernel_rfl) (by omega) (by omega) (by kernel_rfl) (by kernel_rfl)) fun a H => H.u 26 (itV x_6) (ex_lN (itL x_6) (IsRow.cells itC_size (hpl.its.below HP.bl) hA_9 hx_10)) fun a H => H.st HP 0 b_3 0 5 38 true (itV x_6) [bx b_3 38 (itL x_6) true, bx b_1 32 (plL p) true] rfl fun w_13 a H HP => H.v 5 (.bool true) fun a H => ?_
   refine nl (tn (rt (ibr (tr (tr (ibr (tr ?_)))))))
   refine H.ret2 (fn := Tryz.f19) Tryz.results19 (RV.cellN (vs := (itL x_6)) (b := b_3) (off := 0) (k := 5) (by kernel_rfl) (by kernel_rfl) (by kernel_rfl) rfl (HP.cells 0 rfl 0 5 (by kernel_rfl))) (RV.tmp_ (v := (.bool true)) (by kernel_rfl)) ?_
   have hv : fI p.its k = some x_6 := by rw [hrel, hd_11]; unfold fI; rw [List.find?_cons, g21]
   exact ⟨by rw [show gI p.its k = x_6 from by unfold gI; rw [hv]; rfl, show hI p.its k = true from by unfold hI; rw [hv]; rfl], HP.bl⟩
  have g21p := ne_of_beq_false g21
  refine sk (ibn (tn (rg ?_)))
  refine H.v 12 (ii i) fun a H => H.valE 13 (ii (IntKind.i64.wrap ((i : Int) + 1))) (ii ((i : Int) + 1)) (by kernel_rfl) (by kernel_rfl) ((by rw [wrap_ini64 _ (by omega)])) fun a H => H.v 6 (ii ((i : Int) + 1)) fun a H => ?_
  refine nl (tn ?_)
  have H := H.as 6 (ii ((i + 1 : Nat) : Int)) rfl rfl
  refine ⟨_, ?_, i + 1, rfl, H.keep (by kernel_rfl), HP, (by omega), (by rw [hrel, hd_11]; unfold fI; rw [List.find?_cons, g21])⟩
  omega
 have g11p := of_decide_eq_false g11
 refine wp_exit (then_exit (then_exit ?_))
 refine w_exit_here ?_
 refine tn (sq (rg ?_))
 refine H.v 27 (.agg #[(ii 0), (ii 0), (ii 0), (ii 0), (ii 0)]) fun a H => H.st HP 0 b_3 0 5 38 true (.agg #[(ii 0), (ii 0), (ii 0), (ii 0), (ii 0)]) [bx b_3 38 [(ii 0), (ii 0), (ii 0), (ii 0), (ii 0)] true, bx b_1 32 (plL p) true] rfl fun w_14 a H HP => H.v 5 (.bool false) fun a H => ?_
 refine nl (tn (rt ?_))
 refine H.ret2 (fn := Tryz.f19) Tryz.results19 (RV.cellN (vs := [(ii 0), (ii 0), (ii 0), (ii 0), (ii 0)]) (b := b_3) (off := 0) (k := 5) (by kernel_rfl) (by kernel_rfl) (by kernel_rfl) rfl (HP.cells 0 rfl 0 5 (by kernel_rfl))) (RV.tmp_ (v := (.bool false)) (by kernel_rfl)) ?_
 have hv : fI p.its k = none := by rw [hrel, List.drop_eq_nil_of_le (by omega)]; rfl
 exact ⟨by rw [show gI p.its k = itZ from by unfold gI; rw [hv]; rfl, show hI p.its k = false from by unfold hI; rw [hv]; rfl]; rfl, HP.bl⟩
theorem rbooking_any (p : Pln) (k : Int) (w : World) (hpl : IsPln w p) : Calls Tryz.prog 23 #[(plV p), .int .i64 k] w fun e w' => e = .returned (.tuple #[(bkV (gB p.bs k)), .bool (hB p.bs k)]) ∧ Below w.heap.size w w' := by
 have hl := hpl.lbs
 unfold maxLen at hl
 have HP := Hp.start w
 refine w_enter 28 [(0, (plV p)), (1, (ii k))] Tryz.func23 rfl Tryz.ntmps23 (by kernel_rfl) (by kernel_rfl) fun a H => ?_
 refine sq (rg ?_)
 refine H.al HP 2 32 (plL p) fun b_1 w_2 a H HP => H.al HP 4 47 [(ii 0), (ii 0), (ii 0), (ii 0), (ii 0), (ii 0), (ii 0)] fun b_3 w_4 a H HP => H.v 5 (.bool false) fun a H => ?_
 refine nl (tn (sq (sq (rg ?_))))
 refine H.v 6 (ii 0) fun a H => ?_
 refine nl (tn (bk ?_))
 refine w_loop (fun mm a wv => ∃ (i : Nat), p.bs.length - i = mm ∧ Sl 28 [(6, (ii i)), (4, (pt b_3 0)), (2, (pt b_1 0)), (0, (plV p)), (1, (ii k))] a ∧ Hp w wv [bx b_3 47 [(ii 0), (ii 0), (ii 0), (ii 0), (ii 0), (ii 0), (ii 0)] true, bx b_1 32 (plL p) true] [] ∧ (i ≤ p.bs.length) ∧ (fB p.bs k = fB (p.bs.drop i) k)) (p.bs.length - 0) ?_ ?_
 ·exact ⟨0, (by omega), H.keep (by kernel_rfl), HP, (Nat.zero_le _), rfl⟩
 rintro mm a w_5 ⟨i, hmeas, H, HP, hib, hrel⟩
 refine sq (sq (rg ?_))
 refine H.v 7 (ii i) fun a H => H.v 8 (pt b_1 11) fun a H => H.u 9 (.slice p.BA p.bs.length p.bc) (ex_l1 (HP.cell 1 rfl 11 rfl)) fun a H => H.v 10 (ii p.bs.length) fun a H => H.v 11 (.bool (decide ((i : Int) < (p.bs.length : Int)))) fun a H => ?_
 refine nl (tn ?_)
 refine w_if H rfl (fun g11 => ?_) (fun g11 => ?_)
 ·have g11p := of_decide_eq_true g11
  refine sk (tn (sq (bk (sq ?_))))
  obtain ⟨bu_7, ou_8, x_6, hA_9, _, hd_11, hx_10, hm_12, _⟩ := IsRow.get bkC_size (hpl.bs.below HP.bl) (i := i) (by omega)
  refine rg ?_
  refine H.v 14 (pt b_1 11) fun a H => H.u 15 (.slice p.BA p.bs.length p.bc) (ex_l1 (HP.cell 1 rfl 11 rfl)) fun a H => H.v 16 (ii i) fun a H => H.u 17 (.pointer (some ⟨bu_7, ou_8 + i * 7, none⟩)) (ex_indexA (b := bu_7) (off := ou_8) (len := p.bs.length) (cap := p.bc) (e := 47) (k := 7) (ik := .i64) (i := (i : Int)) (m := i) hA_9 (by kernel_rfl) (by kernel_rfl) (by omega) (by omega) (by kernel_rfl) (by kernel_rfl)) fun a H => H.v 18 (.pointer (some ⟨bu_7, ou_8 + i * 7, none⟩)) fun a H => H.u 19 (ii x_6.id) (ex_l1 (IsRow.cells bkC_size (hpl.bs.below HP.bl) hA_9 hx_10 0 _ rfl)) fun a H => H.v 20 (ii k) fun a H => H.v 21 (.bool (x_6.id == k)) fun a H => ?_
  refine nl (tn ?_)
  refine w_if H rfl (fun g21 => ?_) (fun g21 => ?_)
  ·have g21p := eq_of_beq g21
   refine sq (rg ?_)
   refine H.v 22 (pt b_1 11) fun a H => H.u 23 (.slice p.BA p.bs.length p.bc) (ex_l1 (HP.cell 1 rfl 11 rfl)) fun a H => H.v 24 (ii i) fun a H => H.u 25 (.pointer (some ⟨bu_7, ou_8 + i * 7, none⟩)) (ex_indexA (b := bu_7) (off := ou_8) (len := p.bs.length) (cap := p.bc) (e := 47) (k := 7) (ik := .i64) (i := (i : Int)) (m := i) hA_9 (by kernel_rfl) (by kernel_rfl) (by omega) (by omega) (by kernel_rfl) (by kernel_rfl)) fun a H => H.u 26 (bkV x_6) (ex_lN (bkL x_6) (IsRow.cells bkC_size (hpl.bs.below HP.bl) hA_9 hx_10)) fun a H => H.st HP 0 b_3 0 7 47 true (bkV x_6) [bx b_3 47 (bkL x_6) true, bx b_1 32 (plL p) true] rfl fun w_13 a H HP => H.v 5 (.bool true) fun a H => ?_
   refine nl (tn (rt (ibr (tr (tr (ibr (tr ?_)))))))
   refine H.ret2 (fn := Tryz.f23) Tryz.results23 (RV.cellN (vs := (bkL x_6)) (b := b_3) (off := 0) (k := 7) (by kernel_rfl) (by kernel_rfl) (by kernel_rfl) rfl (HP.cells 0 rfl 0 7 (by kernel_rfl))) (RV.tmp_ (v := (.bool true)) (by kernel_rfl)) ?_
   have hv : fB p.bs k = some x_6 := by rw [hrel, hd_11]; unfold fB; rw [List.find?_cons, g21]
   exact ⟨by rw [show gB p.bs k = x_6 from by unfold gB; rw [hv]; rfl, show hB p.bs k = true from by unfold hB; rw [hv]; rfl], HP.bl⟩
  have g21p := ne_of_beq_false g21
  refine sk (ibn (tn (rg ?_)))
  refine H.v 12 (ii i) fun a H => H.valE 13 (ii (IntKind.i64.wrap ((i : Int) + 1))) (ii ((i : Int) + 1)) (by kernel_rfl) (by kernel_rfl) ((by rw [wrap_ini64 _ (by omega)])) fun a H => H.v 6 (ii ((i : Int) + 1)) fun a H => ?_
  refine nl (tn ?_)
  have H := H.as 6 (ii ((i + 1 : Nat) : Int)) rfl rfl
  refine ⟨_, ?_, i + 1, rfl, H.keep (by kernel_rfl), HP, (by omega), (by rw [hrel, hd_11]; unfold fB; rw [List.find?_cons, g21])⟩
  omega
 have g11p := of_decide_eq_false g11
 refine wp_exit (then_exit (then_exit ?_))
 refine w_exit_here ?_
 refine tn (sq (rg ?_))
 refine H.v 27 (.agg #[(ii 0), (ii 0), (ii 0), (ii 0), (ii 0), (ii 0), (ii 0)]) fun a H => H.st HP 0 b_3 0 7 47 true (.agg #[(ii 0), (ii 0), (ii 0), (ii 0), (ii 0), (ii 0), (ii 0)]) [bx b_3 47 [(ii 0), (ii 0), (ii 0), (ii 0), (ii 0), (ii 0), (ii 0)] true, bx b_1 32 (plL p) true] rfl fun w_14 a H HP => H.v 5 (.bool false) fun a H => ?_
 refine nl (tn (rt ?_))
 refine H.ret2 (fn := Tryz.f23) Tryz.results23 (RV.cellN (vs := [(ii 0), (ii 0), (ii 0), (ii 0), (ii 0), (ii 0), (ii 0)]) (b := b_3) (off := 0) (k := 7) (by kernel_rfl) (by kernel_rfl) (by kernel_rfl) rfl (HP.cells 0 rfl 0 7 (by kernel_rfl))) (RV.tmp_ (v := (.bool false)) (by kernel_rfl)) ?_
 have hv : fB p.bs k = none := by rw [hrel, List.drop_eq_nil_of_le (by omega)]; rfl
 exact ⟨by rw [show gB p.bs k = bkZ from by unfold gB; rw [hv]; rfl, show hB p.bs k = false from by unfold hB; rw [hv]; rfl]; rfl, HP.bl⟩
theorem eqS_any (A B : Option Addr) (c d : Nat) (l m : List (Int × Int)) (w : World) (hr : IsAl w A l) (hs : IsAl w B m) (hl : l.length ≤ maxLen) (hm : m.length ≤ maxLen) : Calls Tryz.prog 42 #[.slice A l.length c, .slice B m.length d] w fun e w' => e = .returned (.bool (decide (l = m))) ∧ Below w.heap.size w w' := by
 unfold maxLen at hl hm
 have HP := Hp.start w
 refine w_enter 26 [(0, (.slice A l.length c)), (1, (.slice B m.length d))] Tryz.func42 rfl Tryz.ntmps42 (by kernel_rfl) (by kernel_rfl) fun a H => ?_
 refine sq (rg ?_)
 refine H.v 4 (.bool false) fun a H => ?_
 refine nl (tn (sq (sq (rg ?_))))
 refine H.v 6 (.slice A l.length c) fun a H => H.v 7 (ii l.length) fun a H => H.v 8 (.slice B m.length d) fun a H => H.v 9 (ii m.length) fun a H => H.v 10 (.bool ((l.length : Int) != (m.length : Int))) fun a H => ?_
 refine nl (tn ?_)
 refine w_if H rfl (fun g10 => ?_) (fun g10 => ?_)
 ·have g10p := bne_iff_ne.1 g10
  refine sq (rg ?_)
  refine H.v 4 (.bool false) fun a H => ?_
  refine nl (tn (rt (tr ?_)))
  refine H.r1 (.bool false) Tryz.results42 ?_
  exact ⟨by rw [decide_eq_false (fun e => by subst e; omega)], HP.bl⟩
 have g10p := eq_of_bne_false g10
 refine sk (tn (sq (sq (rg ?_))))
 refine H.v 11 (.slice A l.length c) fun a H => H.v 12 (ii l.length) fun a H => H.v 13 (ii 0) fun a H => ?_
 refine nl (tn (bk ?_))
 refine w_loop (fun mm a wv => ∃ (i : Nat), l.length - i = mm ∧ Sl 26 [(13, (ii i)), (12, (ii l.length)), (11, (.slice A l.length c)), (10, (.bool ((l.length : Int) != (m.length : Int)))), (9, (ii m.length)), (8, (.slice B m.length d)), (7, (ii l.length)), (6, (.slice A l.length c)), (0, (.slice A l.length c)), (1, (.slice B m.length d))] a ∧ Hp w wv [] [] ∧ (i ≤ l.length) ∧ (l.take i = m.take i)) (l.length - 0) ?_ ?_
 ·exact ⟨0, (by omega), H.keep (by kernel_rfl), HP, (Nat.zero_le _), rfl⟩
 rintro mm a w_1 ⟨i, hmeas, H, HP, hib, hrel⟩
 refine sq (rg ?_)
 refine H.v 14 (.bool (decide ((i : Int) < (l.length : Int)))) fun a H => ?_
 refine nl (tn (sq ?_))
 refine w_if H rfl (fun g14 => ?_) (fun g14 => ?_)
 ·have g14p := of_decide_eq_true g14
  refine sk (tn (sq (bk (sq (rg ?_)))))
  refine H.v 15 (ii i) fun a H => H.v 5 (ii i) fun a H => ?_
  refine nl (tn (sq ?_))
  obtain ⟨bu_3, ou_4, x_2, hA_5, _, hd_7, hx_6, hm_8, _⟩ := IsRow.get altC_size (hr.below HP.bl) (i := i) (by omega)
  obtain ⟨bu_10, ou_11, x_9, hA_12, _, hd_14, hx_13, hm_15, _⟩ := IsRow.get altC_size (hs.below HP.bl) (i := i) (by omega)
  refine An.start (fun v => Hp w v [] []) 9 9 HP wide_follows rfl fun w_16 HP => ?_
  refine An.p H (.inr HP) 0 16 (.slice A l.length c) fun a H => ?_
  refine An.p H (.inr HP) 1 17 (ii i) fun a H => ?_
  refine An.q H (.inr (HP)) 2 18 (.pointer (some ⟨bu_3, ou_4 + i * 2, none⟩)) (fun _ => ex_indexA (b := bu_3) (off := ou_4) (len := l.length) (cap := c) (e := 76) (k := 2) (ik := .i64) (i := (i : Int)) (m := i) hA_5 (by kernel_rfl) (by kernel_rfl) (by omega) (by omega) (by kernel_rfl) (by kernel_rfl)) fun a H => ?_
  refine An.vw H (HP) 3 19 (alV x_2) (fun _ hS => ex_lN (alL x_2) (IsRow.cells altC_size (hr.below (hS.below (by kernel_rfl))) hA_5 hx_6)) fun a H => ?_
  refine An.p H (.inr HP) 4 20 (.slice B m.length d) fun a H => ?_
  refine An.p H (.inr HP) 5 21 (ii i) fun a H => ?_
  refine An.q H (.inr (HP)) 6 22 (.pointer (some ⟨bu_10, ou_11 + i * 2, none⟩)) (fun _ => ex_indexA (b := bu_10) (off := ou_11) (len := m.length) (cap := d) (e := 76) (k := 2) (ik := .i64) (i := (i : Int)) (m := i) hA_12 (by kernel_rfl) (by kernel_rfl) (by omega) (by omega) (by kernel_rfl) (by kernel_rfl)) fun a H => ?_
  refine An.vw H (HP) 7 23 (alV x_9) (fun _ hS => ex_lN (alL x_9) (IsRow.cells altC_size (hs.below (hS.below (by kernel_rfl))) hA_12 hx_13)) fun a H => ?_
  refine An.q H (.inr (HP)) 8 24 (.bool (!(([x_2.1, x_2.2] : List Int) == [x_9.1, x_9.2]))) (fun _ => ex_neL (a := [x_2.1, x_2.2]) (b := [x_9.1, x_9.2]) (by kernel_rfl) (by kernel_rfl) (by kernel_rfl) rfl) fun a H => ?_
  refine An.done (by kernel_rfl) ?_
  refine tn ?_
  refine w_if H rfl (fun g24 => ?_) (fun g24 => ?_)
  ·have g24p := not_is_true g24
   refine sq (rg ?_)
   refine H.v 4 (.bool false) fun a H => ?_
   refine nl (tn (rt (ibr (tr (tr (ibr (tr ?_)))))))
   refine H.r1 (.bool false) Tryz.results42 ?_
   exact ⟨by rw [decide_eq_false (ne_at hx_6 hx_13 (fun e => ne_of_beq_false g24p (alt_eq.2 e)))], HP.bl⟩
  have g24p := not_is_false g24
  refine sk (ibn (tn (rg ?_)))
  refine H.valE 25 (ii (IntKind.i64.wrap ((i : Int) + 1))) (ii ((i : Int) + 1)) (by kernel_rfl) (by kernel_rfl) ((by rw [wrap_ini64 _ (by omega)])) fun a H => H.v 13 (ii ((i : Int) + 1)) fun a H => ?_
  refine nl (tn ?_)
  have H := H.as 13 (ii ((i + 1 : Nat) : Int)) rfl rfl
  refine ⟨_, ?_, i + 1, rfl, H.keep (by kernel_rfl), HP, (by omega), (take_eq_snoc hrel hx_6 hx_13 (alt_eq.1 (eq_of_beq g24p)))⟩
  omega
 have g14p := of_decide_eq_false g14
 refine wp_exit (then_exit (then_exit ?_))
 refine w_exit_here ?_
 refine tn (sq (rg ?_))
 refine H.v 4 (.bool true) fun a H => ?_
 refine nl (tn (rt ?_))
 refine H.r1 (.bool true) Tryz.results42 ?_
 exact ⟨by rw [decide_eq_true (take_all hrel (by omega) (by omega))], HP.bl⟩
theorem eqI_any (A B : Option Addr) (c d : Nat) (l m : List (Itm)) (w : World) (hr : IsIt w A l) (hs : IsIt w B m) (hl : l.length ≤ maxLen) (hm : m.length ≤ maxLen) : Calls Tryz.prog 43 #[.slice A l.length c, .slice B m.length d] w fun e w' => e = .returned (.bool (decide (l = m))) ∧ Below w.heap.size w w' := by
 unfold maxLen at hl hm
 have HP := Hp.start w
 refine w_enter 26 [(0, (.slice A l.length c)), (1, (.slice B m.length d))] Tryz.func43 rfl Tryz.ntmps43 (by kernel_rfl) (by kernel_rfl) fun a H => ?_
 refine sq (rg ?_)
 refine H.v 4 (.bool false) fun a H => ?_
 refine nl (tn (sq (sq (rg ?_))))
 refine H.v 6 (.slice A l.length c) fun a H => H.v 7 (ii l.length) fun a H => H.v 8 (.slice B m.length d) fun a H => H.v 9 (ii m.length) fun a H => H.v 10 (.bool ((l.length : Int) != (m.length : Int))) fun a H => ?_
 refine nl (tn ?_)
 refine w_if H rfl (fun g10 => ?_) (fun g10 => ?_)
 ·have g10p := bne_iff_ne.1 g10
  refine sq (rg ?_)
  refine H.v 4 (.bool false) fun a H => ?_
  refine nl (tn (rt (tr ?_)))
  refine H.r1 (.bool false) Tryz.results43 ?_
  exact ⟨by rw [decide_eq_false (fun e => by subst e; omega)], HP.bl⟩
 have g10p := eq_of_bne_false g10
 refine sk (tn (sq (sq (rg ?_))))
 refine H.v 11 (.slice A l.length c) fun a H => H.v 12 (ii l.length) fun a H => H.v 13 (ii 0) fun a H => ?_
 refine nl (tn (bk ?_))
 refine w_loop (fun mm a wv => ∃ (i : Nat), l.length - i = mm ∧ Sl 26 [(13, (ii i)), (12, (ii l.length)), (11, (.slice A l.length c)), (10, (.bool ((l.length : Int) != (m.length : Int)))), (9, (ii m.length)), (8, (.slice B m.length d)), (7, (ii l.length)), (6, (.slice A l.length c)), (0, (.slice A l.length c)), (1, (.slice B m.length d))] a ∧ Hp w wv [] [] ∧ (i ≤ l.length) ∧ (l.take i = m.take i)) (l.length - 0) ?_ ?_
 ·exact ⟨0, (by omega), H.keep (by kernel_rfl), HP, (Nat.zero_le _), rfl⟩
 rintro mm a w_1 ⟨i, hmeas, H, HP, hib, hrel⟩
 refine sq (rg ?_)
 refine H.v 14 (.bool (decide ((i : Int) < (l.length : Int)))) fun a H => ?_
 refine nl (tn (sq ?_))
 refine w_if H rfl (fun g14 => ?_) (fun g14 => ?_)
 ·have g14p := of_decide_eq_true g14
  refine sk (tn (sq (bk (sq (rg ?_)))))
  refine H.v 15 (ii i) fun a H => H.v 5 (ii i) fun a H => ?_
  refine nl (tn (sq ?_))
  obtain ⟨bu_3, ou_4, x_2, hA_5, _, hd_7, hx_6, hm_8, _⟩ := IsRow.get itC_size (hr.below HP.bl) (i := i) (by omega)
  obtain ⟨bu_10, ou_11, x_9, hA_12, _, hd_14, hx_13, hm_15, _⟩ := IsRow.get itC_size (hs.below HP.bl) (i := i) (by omega)
  refine An.start (fun v => Hp w v [] []) 9 9 HP wide_follows rfl fun w_16 HP => ?_
  refine An.p H (.inr HP) 0 16 (.slice A l.length c) fun a H => ?_
  refine An.p H (.inr HP) 1 17 (ii i) fun a H => ?_
  refine An.q H (.inr (HP)) 2 18 (.pointer (some ⟨bu_3, ou_4 + i * 5, none⟩)) (fun _ => ex_indexA (b := bu_3) (off := ou_4) (len := l.length) (cap := c) (e := 38) (k := 5) (ik := .i64) (i := (i : Int)) (m := i) hA_5 (by kernel_rfl) (by kernel_rfl) (by omega) (by omega) (by kernel_rfl) (by kernel_rfl)) fun a H => ?_
  refine An.vw H (HP) 3 19 (itV x_2) (fun _ hS => ex_lN (itL x_2) (IsRow.cells itC_size (hr.below (hS.below (by kernel_rfl))) hA_5 hx_6)) fun a H => ?_
  refine An.p H (.inr HP) 4 20 (.slice B m.length d) fun a H => ?_
  refine An.p H (.inr HP) 5 21 (ii i) fun a H => ?_
  refine An.q H (.inr (HP)) 6 22 (.pointer (some ⟨bu_10, ou_11 + i * 5, none⟩)) (fun _ => ex_indexA (b := bu_10) (off := ou_11) (len := m.length) (cap := d) (e := 38) (k := 5) (ik := .i64) (i := (i : Int)) (m := i) hA_12 (by kernel_rfl) (by kernel_rfl) (by omega) (by omega) (by kernel_rfl) (by kernel_rfl)) fun a H => ?_
  refine An.vw H (HP) 7 23 (itV x_9) (fun _ hS => ex_lN (itL x_9) (IsRow.cells itC_size (hs.below (hS.below (by kernel_rfl))) hA_12 hx_13)) fun a H => ?_
  refine An.q H (.inr (HP)) 8 24 (.bool (!(([x_2.id, x_2.kind, x_2.frames, x_2.sponsor, x_2.rating] : List Int) == [x_9.id, x_9.kind, x_9.frames, x_9.sponsor, x_9.rating]))) (fun _ => ex_neL (a := [x_2.id, x_2.kind, x_2.frames, x_2.sponsor, x_2.rating]) (b := [x_9.id, x_9.kind, x_9.frames, x_9.sponsor, x_9.rating]) (by kernel_rfl) (by kernel_rfl) (by kernel_rfl) rfl) fun a H => ?_
  refine An.done (by kernel_rfl) ?_
  refine tn ?_
  refine w_if H rfl (fun g24 => ?_) (fun g24 => ?_)
  ·have g24p := not_is_true g24
   refine sq (rg ?_)
   refine H.v 4 (.bool false) fun a H => ?_
   refine nl (tn (rt (ibr (tr (tr (ibr (tr ?_)))))))
   refine H.r1 (.bool false) Tryz.results43 ?_
   exact ⟨by rw [decide_eq_false (ne_at hx_6 hx_13 (fun e => ne_of_beq_false g24p (itm_eq.2 e)))], HP.bl⟩
  have g24p := not_is_false g24
  refine sk (ibn (tn (rg ?_)))
  refine H.valE 25 (ii (IntKind.i64.wrap ((i : Int) + 1))) (ii ((i : Int) + 1)) (by kernel_rfl) (by kernel_rfl) ((by rw [wrap_ini64 _ (by omega)])) fun a H => H.v 13 (ii ((i : Int) + 1)) fun a H => ?_
  refine nl (tn ?_)
  have H := H.as 13 (ii ((i + 1 : Nat) : Int)) rfl rfl
  refine ⟨_, ?_, i + 1, rfl, H.keep (by kernel_rfl), HP, (by omega), (take_eq_snoc hrel hx_6 hx_13 (itm_eq.1 (eq_of_beq g24p)))⟩
  omega
 have g14p := of_decide_eq_false g14
 refine wp_exit (then_exit (then_exit ?_))
 refine w_exit_here ?_
 refine tn (sq (rg ?_))
 refine H.v 4 (.bool true) fun a H => ?_
 refine nl (tn (rt ?_))
 refine H.r1 (.bool true) Tryz.results43 ?_
 exact ⟨by rw [decide_eq_true (take_all hrel (by omega) (by omega))], HP.bl⟩
theorem eqB_any (A B : Option Addr) (c d : Nat) (l m : List (Bkg)) (w : World) (hr : IsBk w A l) (hs : IsBk w B m) (hl : l.length ≤ maxLen) (hm : m.length ≤ maxLen) : Calls Tryz.prog 46 #[.slice A l.length c, .slice B m.length d] w fun e w' => e = .returned (.bool (decide (l = m))) ∧ Below w.heap.size w w' := by
 unfold maxLen at hl hm
 have HP := Hp.start w
 refine w_enter 26 [(0, (.slice A l.length c)), (1, (.slice B m.length d))] Tryz.func46 rfl Tryz.ntmps46 (by kernel_rfl) (by kernel_rfl) fun a H => ?_
 refine sq (rg ?_)
 refine H.v 4 (.bool false) fun a H => ?_
 refine nl (tn (sq (sq (rg ?_))))
 refine H.v 6 (.slice A l.length c) fun a H => H.v 7 (ii l.length) fun a H => H.v 8 (.slice B m.length d) fun a H => H.v 9 (ii m.length) fun a H => H.v 10 (.bool ((l.length : Int) != (m.length : Int))) fun a H => ?_
 refine nl (tn ?_)
 refine w_if H rfl (fun g10 => ?_) (fun g10 => ?_)
 ·have g10p := bne_iff_ne.1 g10
  refine sq (rg ?_)
  refine H.v 4 (.bool false) fun a H => ?_
  refine nl (tn (rt (tr ?_)))
  refine H.r1 (.bool false) Tryz.results46 ?_
  exact ⟨by rw [decide_eq_false (fun e => by subst e; omega)], HP.bl⟩
 have g10p := eq_of_bne_false g10
 refine sk (tn (sq (sq (rg ?_))))
 refine H.v 11 (.slice A l.length c) fun a H => H.v 12 (ii l.length) fun a H => H.v 13 (ii 0) fun a H => ?_
 refine nl (tn (bk ?_))
 refine w_loop (fun mm a wv => ∃ (i : Nat), l.length - i = mm ∧ Sl 26 [(13, (ii i)), (12, (ii l.length)), (11, (.slice A l.length c)), (10, (.bool ((l.length : Int) != (m.length : Int)))), (9, (ii m.length)), (8, (.slice B m.length d)), (7, (ii l.length)), (6, (.slice A l.length c)), (0, (.slice A l.length c)), (1, (.slice B m.length d))] a ∧ Hp w wv [] [] ∧ (i ≤ l.length) ∧ (l.take i = m.take i)) (l.length - 0) ?_ ?_
 ·exact ⟨0, (by omega), H.keep (by kernel_rfl), HP, (Nat.zero_le _), rfl⟩
 rintro mm a w_1 ⟨i, hmeas, H, HP, hib, hrel⟩
 refine sq (rg ?_)
 refine H.v 14 (.bool (decide ((i : Int) < (l.length : Int)))) fun a H => ?_
 refine nl (tn (sq ?_))
 refine w_if H rfl (fun g14 => ?_) (fun g14 => ?_)
 ·have g14p := of_decide_eq_true g14
  refine sk (tn (sq (bk (sq (rg ?_)))))
  refine H.v 15 (ii i) fun a H => H.v 5 (ii i) fun a H => ?_
  refine nl (tn (sq ?_))
  obtain ⟨bu_3, ou_4, x_2, hA_5, _, hd_7, hx_6, hm_8, _⟩ := IsRow.get bkC_size (hr.below HP.bl) (i := i) (by omega)
  obtain ⟨bu_10, ou_11, x_9, hA_12, _, hd_14, hx_13, hm_15, _⟩ := IsRow.get bkC_size (hs.below HP.bl) (i := i) (by omega)
  refine An.start (fun v => Hp w v [] []) 9 9 HP wide_follows rfl fun w_16 HP => ?_
  refine An.p H (.inr HP) 0 16 (.slice A l.length c) fun a H => ?_
  refine An.p H (.inr HP) 1 17 (ii i) fun a H => ?_
  refine An.q H (.inr (HP)) 2 18 (.pointer (some ⟨bu_3, ou_4 + i * 7, none⟩)) (fun _ => ex_indexA (b := bu_3) (off := ou_4) (len := l.length) (cap := c) (e := 47) (k := 7) (ik := .i64) (i := (i : Int)) (m := i) hA_5 (by kernel_rfl) (by kernel_rfl) (by omega) (by omega) (by kernel_rfl) (by kernel_rfl)) fun a H => ?_
  refine An.vw H (HP) 3 19 (bkV x_2) (fun _ hS => ex_lN (bkL x_2) (IsRow.cells bkC_size (hr.below (hS.below (by kernel_rfl))) hA_5 hx_6)) fun a H => ?_
  refine An.p H (.inr HP) 4 20 (.slice B m.length d) fun a H => ?_
  refine An.p H (.inr HP) 5 21 (ii i) fun a H => ?_
  refine An.q H (.inr (HP)) 6 22 (.pointer (some ⟨bu_10, ou_11 + i * 7, none⟩)) (fun _ => ex_indexA (b := bu_10) (off := ou_11) (len := m.length) (cap := d) (e := 47) (k := 7) (ik := .i64) (i := (i : Int)) (m := i) hA_12 (by kernel_rfl) (by kernel_rfl) (by omega) (by omega) (by kernel_rfl) (by kernel_rfl)) fun a H => ?_
  refine An.vw H (HP) 7 23 (bkV x_9) (fun _ hS => ex_lN (bkL x_9) (IsRow.cells bkC_size (hs.below (hS.below (by kernel_rfl))) hA_12 hx_13)) fun a H => ?_
  refine An.q H (.inr (HP)) 8 24 (.bool (!(([x_2.id, x_2.item, x_2.region, x_2.from_, x_2.to_, x_2.until_, x_2.price] : List Int) == [x_9.id, x_9.item, x_9.region, x_9.from_, x_9.to_, x_9.until_, x_9.price]))) (fun _ => ex_neL (a := [x_2.id, x_2.item, x_2.region, x_2.from_, x_2.to_, x_2.until_, x_2.price]) (b := [x_9.id, x_9.item, x_9.region, x_9.from_, x_9.to_, x_9.until_, x_9.price]) (by kernel_rfl) (by kernel_rfl) (by kernel_rfl) rfl) fun a H => ?_
  refine An.done (by kernel_rfl) ?_
  refine tn ?_
  refine w_if H rfl (fun g24 => ?_) (fun g24 => ?_)
  ·have g24p := not_is_true g24
   refine sq (rg ?_)
   refine H.v 4 (.bool false) fun a H => ?_
   refine nl (tn (rt (ibr (tr (tr (ibr (tr ?_)))))))
   refine H.r1 (.bool false) Tryz.results46 ?_
   exact ⟨by rw [decide_eq_false (ne_at hx_6 hx_13 (fun e => ne_of_beq_false g24p (bkg_eq.2 e)))], HP.bl⟩
  have g24p := not_is_false g24
  refine sk (ibn (tn (rg ?_)))
  refine H.valE 25 (ii (IntKind.i64.wrap ((i : Int) + 1))) (ii ((i : Int) + 1)) (by kernel_rfl) (by kernel_rfl) ((by rw [wrap_ini64 _ (by omega)])) fun a H => H.v 13 (ii ((i : Int) + 1)) fun a H => ?_
  refine nl (tn ?_)
  have H := H.as 13 (ii ((i + 1 : Nat) : Int)) rfl rfl
  refine ⟨_, ?_, i + 1, rfl, H.keep (by kernel_rfl), HP, (by omega), (take_eq_snoc hrel hx_6 hx_13 (bkg_eq.1 (eq_of_beq g24p)))⟩
  omega
 have g14p := of_decide_eq_false g14
 refine wp_exit (then_exit (then_exit ?_))
 refine w_exit_here ?_
 refine tn (sq (rg ?_))
 refine H.v 4 (.bool true) fun a H => ?_
 refine nl (tn (rt ?_))
 refine H.r1 (.bool true) Tryz.results46 ?_
 exact ⟨by rw [decide_eq_true (take_all hrel (by omega) (by omega))], HP.bl⟩
theorem eqC_any (A B : Option Addr) (c d : Nat) (l m : List (Cls)) (w : World) (hr : IsCl w A l) (hs : IsCl w B m) (hl : l.length ≤ maxLen) (hm : m.length ≤ maxLen) : Calls Tryz.prog 47 #[.slice A l.length c, .slice B m.length d] w fun e w' => e = .returned (.bool (decide (l = m))) ∧ Below w.heap.size w w' := by
 unfold maxLen at hl hm
 have HP := Hp.start w
 refine w_enter 26 [(0, (.slice A l.length c)), (1, (.slice B m.length d))] Tryz.func47 rfl Tryz.ntmps47 (by kernel_rfl) (by kernel_rfl) fun a H => ?_
 refine sq (rg ?_)
 refine H.v 4 (.bool false) fun a H => ?_
 refine nl (tn (sq (sq (rg ?_))))
 refine H.v 6 (.slice A l.length c) fun a H => H.v 7 (ii l.length) fun a H => H.v 8 (.slice B m.length d) fun a H => H.v 9 (ii m.length) fun a H => H.v 10 (.bool ((l.length : Int) != (m.length : Int))) fun a H => ?_
 refine nl (tn ?_)
 refine w_if H rfl (fun g10 => ?_) (fun g10 => ?_)
 ·have g10p := bne_iff_ne.1 g10
  refine sq (rg ?_)
  refine H.v 4 (.bool false) fun a H => ?_
  refine nl (tn (rt (tr ?_)))
  refine H.r1 (.bool false) Tryz.results47 ?_
  exact ⟨by rw [decide_eq_false (fun e => by subst e; omega)], HP.bl⟩
 have g10p := eq_of_bne_false g10
 refine sk (tn (sq (sq (rg ?_))))
 refine H.v 11 (.slice A l.length c) fun a H => H.v 12 (ii l.length) fun a H => H.v 13 (ii 0) fun a H => ?_
 refine nl (tn (bk ?_))
 refine w_loop (fun mm a wv => ∃ (i : Nat), l.length - i = mm ∧ Sl 26 [(13, (ii i)), (12, (ii l.length)), (11, (.slice A l.length c)), (10, (.bool ((l.length : Int) != (m.length : Int)))), (9, (ii m.length)), (8, (.slice B m.length d)), (7, (ii l.length)), (6, (.slice A l.length c)), (0, (.slice A l.length c)), (1, (.slice B m.length d))] a ∧ Hp w wv [] [] ∧ (i ≤ l.length) ∧ (l.take i = m.take i)) (l.length - 0) ?_ ?_
 ·exact ⟨0, (by omega), H.keep (by kernel_rfl), HP, (Nat.zero_le _), rfl⟩
 rintro mm a w_1 ⟨i, hmeas, H, HP, hib, hrel⟩
 refine sq (rg ?_)
 refine H.v 14 (.bool (decide ((i : Int) < (l.length : Int)))) fun a H => ?_
 refine nl (tn (sq ?_))
 refine w_if H rfl (fun g14 => ?_) (fun g14 => ?_)
 ·have g14p := of_decide_eq_true g14
  refine sk (tn (sq (bk (sq (rg ?_)))))
  refine H.v 15 (ii i) fun a H => H.v 5 (ii i) fun a H => ?_
  refine nl (tn (sq ?_))
  obtain ⟨bu_3, ou_4, x_2, hA_5, _, hd_7, hx_6, hm_8, _⟩ := IsRow.get clC_size (hr.below HP.bl) (i := i) (by omega)
  obtain ⟨bu_10, ou_11, x_9, hA_12, _, hd_14, hx_13, hm_15, _⟩ := IsRow.get clC_size (hs.below HP.bl) (i := i) (by omega)
  refine An.start (fun v => Hp w v [] []) 9 9 HP wide_follows rfl fun w_16 HP => ?_
  refine An.p H (.inr HP) 0 16 (.slice A l.length c) fun a H => ?_
  refine An.p H (.inr HP) 1 17 (ii i) fun a H => ?_
  refine An.q H (.inr (HP)) 2 18 (.pointer (some ⟨bu_3, ou_4 + i * 8, none⟩)) (fun _ => ex_indexA (b := bu_3) (off := ou_4) (len := l.length) (cap := c) (e := 73) (k := 8) (ik := .i64) (i := (i : Int)) (m := i) hA_5 (by kernel_rfl) (by kernel_rfl) (by omega) (by omega) (by kernel_rfl) (by kernel_rfl)) fun a H => ?_
  refine An.vw H (HP) 3 19 (clV x_2) (fun _ hS => ex_lN (clL x_2) (IsRow.cells clC_size (hr.below (hS.below (by kernel_rfl))) hA_5 hx_6)) fun a H => ?_
  refine An.p H (.inr HP) 4 20 (.slice B m.length d) fun a H => ?_
  refine An.p H (.inr HP) 5 21 (ii i) fun a H => ?_
  refine An.q H (.inr (HP)) 6 22 (.pointer (some ⟨bu_10, ou_11 + i * 8, none⟩)) (fun _ => ex_indexA (b := bu_10) (off := ou_11) (len := m.length) (cap := d) (e := 73) (k := 8) (ik := .i64) (i := (i : Int)) (m := i) hA_12 (by kernel_rfl) (by kernel_rfl) (by omega) (by omega) (by kernel_rfl) (by kernel_rfl)) fun a H => ?_
  refine An.vw H (HP) 7 23 (clV x_9) (fun _ hS => ex_lN (clL x_9) (IsRow.cells clC_size (hs.below (hS.below (by kernel_rfl))) hA_12 hx_13)) fun a H => ?_
  refine An.q H (.inr (HP)) 8 24 (.bool (!(([x_2.kind, x_2.item, x_2.from_, x_2.to_, x_2.regions, x_2.n, x_2.a, x_2.b] : List Int) == [x_9.kind, x_9.item, x_9.from_, x_9.to_, x_9.regions, x_9.n, x_9.a, x_9.b]))) (fun _ => ex_neL (a := [x_2.kind, x_2.item, x_2.from_, x_2.to_, x_2.regions, x_2.n, x_2.a, x_2.b]) (b := [x_9.kind, x_9.item, x_9.from_, x_9.to_, x_9.regions, x_9.n, x_9.a, x_9.b]) (by kernel_rfl) (by kernel_rfl) (by kernel_rfl) rfl) fun a H => ?_
  refine An.done (by kernel_rfl) ?_
  refine tn ?_
  refine w_if H rfl (fun g24 => ?_) (fun g24 => ?_)
  ·have g24p := not_is_true g24
   refine sq (rg ?_)
   refine H.v 4 (.bool false) fun a H => ?_
   refine nl (tn (rt (ibr (tr (tr (ibr (tr ?_)))))))
   refine H.r1 (.bool false) Tryz.results47 ?_
   exact ⟨by rw [decide_eq_false (ne_at hx_6 hx_13 (fun e => ne_of_beq_false g24p (cls_eq.2 e)))], HP.bl⟩
  have g24p := not_is_false g24
  refine sk (ibn (tn (rg ?_)))
  refine H.valE 25 (ii (IntKind.i64.wrap ((i : Int) + 1))) (ii ((i : Int) + 1)) (by kernel_rfl) (by kernel_rfl) ((by rw [wrap_ini64 _ (by omega)])) fun a H => H.v 13 (ii ((i : Int) + 1)) fun a H => ?_
  refine nl (tn ?_)
  have H := H.as 13 (ii ((i + 1 : Nat) : Int)) rfl rfl
  refine ⟨_, ?_, i + 1, rfl, H.keep (by kernel_rfl), HP, (by omega), (take_eq_snoc hrel hx_6 hx_13 (cls_eq.1 (eq_of_beq g24p)))⟩
  omega
 have g14p := of_decide_eq_false g14
 refine wp_exit (then_exit (then_exit ?_))
 refine w_exit_here ?_
 refine tn (sq (rg ?_))
 refine H.v 4 (.bool true) fun a H => ?_
 refine nl (tn (rt ?_))
 refine H.r1 (.bool true) Tryz.results47 ?_
 exact ⟨by rw [decide_eq_true (take_all hrel (by omega) (by omega))], HP.bl⟩
theorem eqA_any (A B : Option Addr) (c d : Nat) (l m : List (Int × Int)) (w : World) (hr : IsAl w A l) (hs : IsAl w B m) (hl : l.length ≤ maxLen) (hm : m.length ≤ maxLen) : Calls Tryz.prog 80 #[.slice A l.length c, .slice B m.length d] w fun e w' => e = .returned (.bool (decide (l = m))) ∧ Below w.heap.size w w' := by
 unfold maxLen at hl hm
 have HP := Hp.start w
 refine w_enter 26 [(0, (.slice A l.length c)), (1, (.slice B m.length d))] Tryz.func80 rfl Tryz.ntmps80 (by kernel_rfl) (by kernel_rfl) fun a H => ?_
 refine sq (rg ?_)
 refine H.v 4 (.bool false) fun a H => ?_
 refine nl (tn (sq (sq (rg ?_))))
 refine H.v 6 (.slice A l.length c) fun a H => H.v 7 (ii l.length) fun a H => H.v 8 (.slice B m.length d) fun a H => H.v 9 (ii m.length) fun a H => H.v 10 (.bool ((l.length : Int) != (m.length : Int))) fun a H => ?_
 refine nl (tn ?_)
 refine w_if H rfl (fun g10 => ?_) (fun g10 => ?_)
 ·have g10p := bne_iff_ne.1 g10
  refine sq (rg ?_)
  refine H.v 4 (.bool false) fun a H => ?_
  refine nl (tn (rt (tr ?_)))
  refine H.r1 (.bool false) Tryz.results80 ?_
  exact ⟨by rw [decide_eq_false (fun e => by subst e; omega)], HP.bl⟩
 have g10p := eq_of_bne_false g10
 refine sk (tn (sq (sq (rg ?_))))
 refine H.v 11 (.slice A l.length c) fun a H => H.v 12 (ii l.length) fun a H => H.v 13 (ii 0) fun a H => ?_
 refine nl (tn (bk ?_))
 refine w_loop (fun mm a wv => ∃ (i : Nat), l.length - i = mm ∧ Sl 26 [(13, (ii i)), (12, (ii l.length)), (11, (.slice A l.length c)), (10, (.bool ((l.length : Int) != (m.length : Int)))), (9, (ii m.length)), (8, (.slice B m.length d)), (7, (ii l.length)), (6, (.slice A l.length c)), (0, (.slice A l.length c)), (1, (.slice B m.length d))] a ∧ Hp w wv [] [] ∧ (i ≤ l.length) ∧ (l.take i = m.take i)) (l.length - 0) ?_ ?_
 ·exact ⟨0, (by omega), H.keep (by kernel_rfl), HP, (Nat.zero_le _), rfl⟩
 rintro mm a w_1 ⟨i, hmeas, H, HP, hib, hrel⟩
 refine sq (rg ?_)
 refine H.v 14 (.bool (decide ((i : Int) < (l.length : Int)))) fun a H => ?_
 refine nl (tn (sq ?_))
 refine w_if H rfl (fun g14 => ?_) (fun g14 => ?_)
 ·have g14p := of_decide_eq_true g14
  refine sk (tn (sq (bk (sq (rg ?_)))))
  refine H.v 15 (ii i) fun a H => H.v 5 (ii i) fun a H => ?_
  refine nl (tn (sq ?_))
  obtain ⟨bu_3, ou_4, x_2, hA_5, _, hd_7, hx_6, hm_8, _⟩ := IsRow.get altC_size (hr.below HP.bl) (i := i) (by omega)
  obtain ⟨bu_10, ou_11, x_9, hA_12, _, hd_14, hx_13, hm_15, _⟩ := IsRow.get altC_size (hs.below HP.bl) (i := i) (by omega)
  refine An.start (fun v => Hp w v [] []) 9 9 HP wide_follows rfl fun w_16 HP => ?_
  refine An.p H (.inr HP) 0 16 (.slice A l.length c) fun a H => ?_
  refine An.p H (.inr HP) 1 17 (ii i) fun a H => ?_
  refine An.q H (.inr (HP)) 2 18 (.pointer (some ⟨bu_3, ou_4 + i * 2, none⟩)) (fun _ => ex_indexA (b := bu_3) (off := ou_4) (len := l.length) (cap := c) (e := 62) (k := 2) (ik := .i64) (i := (i : Int)) (m := i) hA_5 (by kernel_rfl) (by kernel_rfl) (by omega) (by omega) (by kernel_rfl) (by kernel_rfl)) fun a H => ?_
  refine An.vw H (HP) 3 19 (alV x_2) (fun _ hS => ex_lN (alL x_2) (IsRow.cells altC_size (hr.below (hS.below (by kernel_rfl))) hA_5 hx_6)) fun a H => ?_
  refine An.p H (.inr HP) 4 20 (.slice B m.length d) fun a H => ?_
  refine An.p H (.inr HP) 5 21 (ii i) fun a H => ?_
  refine An.q H (.inr (HP)) 6 22 (.pointer (some ⟨bu_10, ou_11 + i * 2, none⟩)) (fun _ => ex_indexA (b := bu_10) (off := ou_11) (len := m.length) (cap := d) (e := 62) (k := 2) (ik := .i64) (i := (i : Int)) (m := i) hA_12 (by kernel_rfl) (by kernel_rfl) (by omega) (by omega) (by kernel_rfl) (by kernel_rfl)) fun a H => ?_
  refine An.vw H (HP) 7 23 (alV x_9) (fun _ hS => ex_lN (alL x_9) (IsRow.cells altC_size (hs.below (hS.below (by kernel_rfl))) hA_12 hx_13)) fun a H => ?_
  refine An.q H (.inr (HP)) 8 24 (.bool (!(([x_2.1, x_2.2] : List Int) == [x_9.1, x_9.2]))) (fun _ => ex_neL (a := [x_2.1, x_2.2]) (b := [x_9.1, x_9.2]) (by kernel_rfl) (by kernel_rfl) (by kernel_rfl) rfl) fun a H => ?_
  refine An.done (by kernel_rfl) ?_
  refine tn ?_
  refine w_if H rfl (fun g24 => ?_) (fun g24 => ?_)
  ·have g24p := not_is_true g24
   refine sq (rg ?_)
   refine H.v 4 (.bool false) fun a H => ?_
   refine nl (tn (rt (ibr (tr (tr (ibr (tr ?_)))))))
   refine H.r1 (.bool false) Tryz.results80 ?_
   exact ⟨by rw [decide_eq_false (ne_at hx_6 hx_13 (fun e => ne_of_beq_false g24p (alt_eq.2 e)))], HP.bl⟩
  have g24p := not_is_false g24
  refine sk (ibn (tn (rg ?_)))
  refine H.valE 25 (ii (IntKind.i64.wrap ((i : Int) + 1))) (ii ((i : Int) + 1)) (by kernel_rfl) (by kernel_rfl) ((by rw [wrap_ini64 _ (by omega)])) fun a H => H.v 13 (ii ((i : Int) + 1)) fun a H => ?_
  refine nl (tn ?_)
  have H := H.as 13 (ii ((i + 1 : Nat) : Int)) rfl rfl
  refine ⟨_, ?_, i + 1, rfl, H.keep (by kernel_rfl), HP, (by omega), (take_eq_snoc hrel hx_6 hx_13 (alt_eq.1 (eq_of_beq g24p)))⟩
  omega
 have g14p := of_decide_eq_false g14
 refine wp_exit (then_exit (then_exit ?_))
 refine w_exit_here ?_
 refine tn (sq (rg ?_))
 refine H.v 4 (.bool true) fun a H => ?_
 refine nl (tn (rt ?_))
 refine H.r1 (.bool true) Tryz.results80 ?_
 exact ⟨by rw [decide_eq_true (take_all hrel (by omega) (by omega))], HP.bl⟩
theorem rsameA_any (A B : Option Addr) (c d : Nat) (l m : List (Int × Int)) (w : World) (hr : IsAl w A l) (hs : IsAl w B m) (hl : l.length ≤ maxLen) (hm : m.length ≤ maxLen) : Calls Tryz.prog 55 #[.slice A l.length c, .slice B m.length d] w fun e w' => e = .returned (.bool (decide (l = m))) ∧ Below w.heap.size w w' := by
 unfold maxLen at hl hm
 have HP := Hp.start w
 refine w_enter 26 [(0, (.slice A l.length c)), (1, (.slice B m.length d))] Tryz.func55 rfl Tryz.ntmps55 (by kernel_rfl) (by kernel_rfl) fun a H => ?_
 refine sq (rg ?_)
 refine H.v 4 (.bool false) fun a H => ?_
 refine nl (tn (sq (sq (rg ?_))))
 refine H.v 6 (.slice A l.length c) fun a H => H.v 7 (ii l.length) fun a H => H.v 8 (.slice B m.length d) fun a H => H.v 9 (ii m.length) fun a H => H.v 10 (.bool ((l.length : Int) != (m.length : Int))) fun a H => ?_
 refine nl (tn ?_)
 refine w_if H rfl (fun g10 => ?_) (fun g10 => ?_)
 ·have g10p := bne_iff_ne.1 g10
  refine sq (rg ?_)
  refine H.v 4 (.bool false) fun a H => ?_
  refine nl (tn (rt (tr ?_)))
  refine H.r1 (.bool false) Tryz.results55 ?_
  exact ⟨by rw [decide_eq_false (fun e => by subst e; omega)], HP.bl⟩
 have g10p := eq_of_bne_false g10
 refine sk (tn (sq (sq (rg ?_))))
 refine H.v 5 (ii 0) fun a H => ?_
 refine nl (tn (bk ?_))
 refine w_loop (fun mm a wv => ∃ (i : Nat), l.length - i = mm ∧ Sl 26 [(5, (ii i)), (10, (.bool ((l.length : Int) != (m.length : Int)))), (9, (ii m.length)), (8, (.slice B m.length d)), (7, (ii l.length)), (6, (.slice A l.length c)), (0, (.slice A l.length c)), (1, (.slice B m.length d))] a ∧ Hp w wv [] [] ∧ (i ≤ l.length) ∧ (l.take i = m.take i)) (l.length - 0) ?_ ?_
 ·exact ⟨0, (by omega), H.keep (by kernel_rfl), HP, (Nat.zero_le _), rfl⟩
 rintro mm a w_1 ⟨i, hmeas, H, HP, hib, hrel⟩
 refine sq (sq (rg ?_))
 refine H.v 11 (ii i) fun a H => H.v 12 (.slice A l.length c) fun a H => H.v 13 (ii l.length) fun a H => H.v 14 (.bool (decide ((i : Int) < (l.length : Int)))) fun a H => ?_
 refine nl (tn ?_)
 refine w_if H rfl (fun g14 => ?_) (fun g14 => ?_)
 ·have g14p := of_decide_eq_true g14
  refine sk (tn (sq (bk (sq ?_))))
  obtain ⟨bu_3, ou_4, x_2, hA_5, _, hd_7, hx_6, hm_8, _⟩ := IsRow.get altC_size (hr.below HP.bl) (i := i) (by omega)
  obtain ⟨bu_10, ou_11, x_9, hA_12, _, hd_14, hx_13, hm_15, _⟩ := IsRow.get altC_size (hs.below HP.bl) (i := i) (by omega)
  refine An.start (fun v => Hp w v [] []) 9 9 HP wide_follows rfl fun w_16 HP => ?_
  refine An.p H (.inr HP) 0 17 (.slice A l.length c) fun a H => ?_
  refine An.p H (.inr HP) 1 18 (ii i) fun a H => ?_
  refine An.q H (.inr (HP)) 2 19 (.pointer (some ⟨bu_3, ou_4 + i * 2, none⟩)) (fun _ => ex_indexA (b := bu_3) (off := ou_4) (len := l.length) (cap := c) (e := 62) (k := 2) (ik := .i64) (i := (i : Int)) (m := i) hA_5 (by kernel_rfl) (by kernel_rfl) (by omega) (by omega) (by kernel_rfl) (by kernel_rfl)) fun a H => ?_
  refine An.vw H (HP) 3 20 (alV x_2) (fun _ hS => ex_lN (alL x_2) (IsRow.cells altC_size (hr.below (hS.below (by kernel_rfl))) hA_5 hx_6)) fun a H => ?_
  refine An.p H (.inr HP) 4 21 (.slice B m.length d) fun a H => ?_
  refine An.p H (.inr HP) 5 22 (ii i) fun a H => ?_
  refine An.q H (.inr (HP)) 6 23 (.pointer (some ⟨bu_10, ou_11 + i * 2, none⟩)) (fun _ => ex_indexA (b := bu_10) (off := ou_11) (len := m.length) (cap := d) (e := 62) (k := 2) (ik := .i64) (i := (i : Int)) (m := i) hA_12 (by kernel_rfl) (by kernel_rfl) (by omega) (by omega) (by kernel_rfl) (by kernel_rfl)) fun a H => ?_
  refine An.vw H (HP) 7 24 (alV x_9) (fun _ hS => ex_lN (alL x_9) (IsRow.cells altC_size (hs.below (hS.below (by kernel_rfl))) hA_12 hx_13)) fun a H => ?_
  refine An.q H (.inr (HP)) 8 25 (.bool (!(([x_2.1, x_2.2] : List Int) == [x_9.1, x_9.2]))) (fun _ => ex_neL (a := [x_2.1, x_2.2]) (b := [x_9.1, x_9.2]) (by kernel_rfl) (by kernel_rfl) (by kernel_rfl) rfl) fun a H => ?_
  refine An.done (by kernel_rfl) ?_
  refine tn ?_
  refine w_if H rfl (fun g25 => ?_) (fun g25 => ?_)
  ·have g25p := not_is_true g25
   refine sq (rg ?_)
   refine H.v 4 (.bool false) fun a H => ?_
   refine nl (tn (rt (ibr (tr (tr (ibr (tr ?_)))))))
   refine H.r1 (.bool false) Tryz.results55 ?_
   exact ⟨by rw [decide_eq_false (ne_at hx_6 hx_13 (fun e => ne_of_beq_false g25p (alt_eq.2 e)))], HP.bl⟩
  have g25p := not_is_false g25
  refine sk (ibn (tn (rg ?_)))
  refine H.v 15 (ii i) fun a H => H.valE 16 (ii (IntKind.i64.wrap ((i : Int) + 1))) (ii ((i : Int) + 1)) (by kernel_rfl) (by kernel_rfl) ((by rw [wrap_ini64 _ (by omega)])) fun a H => H.v 5 (ii ((i : Int) + 1)) fun a H => ?_
  refine nl (tn ?_)
  have H := H.as 5 (ii ((i + 1 : Nat) : Int)) rfl rfl
  refine ⟨_, ?_, i + 1, rfl, H.keep (by kernel_rfl), HP, (by omega), (take_eq_snoc hrel hx_6 hx_13 (alt_eq.1 (eq_of_beq g25p)))⟩
  omega
 have g14p := of_decide_eq_false g14
 refine wp_exit (then_exit (then_exit ?_))
 refine w_exit_here ?_
 refine tn (sq (rg ?_))
 refine H.v 4 (.bool true) fun a H => ?_
 refine nl (tn (rt ?_))
 refine H.r1 (.bool true) Tryz.results55 ?_
 exact ⟨by rw [decide_eq_true (take_all hrel (by omega) (by omega))], HP.bl⟩
theorem sameE_any (x y : Ent) (w : World) (hx : x.ok w) (hy : y.ok w) : Calls Tryz.prog 45 #[(enV x), (enV y)] w fun e w' => e = .returned (.bool (decide (x.nv = y.nv))) ∧ Below w.heap.size w w' := by
 have HP := Hp.start w
 refine w_enter 52 [(0, (enV x)), (1, (enV y))] Tryz.func45 rfl Tryz.ntmps45 (by kernel_rfl) (by kernel_rfl) fun a H => ?_
 refine sq (rg ?_)
 refine H.al HP 2 43 (enL x) fun b_1 w_2 a H HP => H.al HP 3 43 (enL y) fun b_3 w_4 a H HP => H.v 4 (.bool false) fun a H => ?_
 refine nl (tn (sq (rg ?_)))
 refine H.v 5 (pt b_1 0) fun a H => H.u 6 (ii x.id) (ex_l1 (HP.cell 1 rfl 0 rfl)) fun a H => H.v 7 (pt b_3 0) fun a H => H.u 8 (ii y.id) (ex_l1 (HP.cell 0 rfl 0 rfl)) fun a H => H.v 9 (.bool (x.id == y.id)) fun a H => H.v 10 (.bool (x.id == y.id)) fun a H => ?_
 refine H.split 10 rfl (fun g10 H => ?_) (fun g10 H => ?_)
 ·have g10p := eq_of_beq g10
  refine H.v 11 (pt b_1 1) fun a H => H.u 12 (ii x.item) (ex_l1 (HP.cell 1 rfl 1 rfl)) fun a H => H.v 13 (pt b_3 1) fun a H => H.u 14 (ii y.item) (ex_l1 (HP.cell 0 rfl 1 rfl)) fun a H => H.v 15 (.bool (x.item == y.item)) fun a H => H.v 16 (.bool (x.item == y.item)) fun a H => H.v 17 (.bool (x.item == y.item)) fun a H => ?_
  refine H.split 17 rfl (fun g17 H => ?_) (fun g17 H => ?_)
  ·have g17p := eq_of_beq g17
   refine H.v 18 (pt b_1 2) fun a H => H.u 19 (ii x.frames) (ex_l1 (HP.cell 1 rfl 2 rfl)) fun a H => H.v 20 (pt b_3 2) fun a H => H.u 21 (ii y.frames) (ex_l1 (HP.cell 0 rfl 2 rfl)) fun a H => H.v 22 (.bool (x.frames == y.frames)) fun a H => H.v 23 (.bool (x.frames == y.frames)) fun a H => H.v 24 (.bool (x.frames == y.frames)) fun a H => ?_
   refine H.split 24 rfl (fun g24 H => ?_) (fun g24 H => ?_)
   ·have g24p := eq_of_beq g24
    refine H.v 25 (pt b_1 3) fun a H => H.u 26 (ii x.earliest) (ex_l1 (HP.cell 1 rfl 3 rfl)) fun a H => H.v 27 (pt b_3 3) fun a H => H.u 28 (ii y.earliest) (ex_l1 (HP.cell 0 rfl 3 rfl)) fun a H => H.v 29 (.bool (x.earliest == y.earliest)) fun a H => H.v 30 (.bool (x.earliest == y.earliest)) fun a H => H.v 31 (.bool (x.earliest == y.earliest)) fun a H => ?_
    refine H.split 31 rfl (fun g31 H => ?_) (fun g31 H => ?_)
    ·have g31p := eq_of_beq g31
     refine H.v 32 (pt b_1 4) fun a H => H.u 33 (ii x.latest) (ex_l1 (HP.cell 1 rfl 4 rfl)) fun a H => H.v 34 (pt b_3 4) fun a H => H.u 35 (ii y.latest) (ex_l1 (HP.cell 0 rfl 4 rfl)) fun a H => H.v 36 (.bool (x.latest == y.latest)) fun a H => H.v 37 (.bool (x.latest == y.latest)) fun a H => H.v 38 (.bool (x.latest == y.latest)) fun a H => ?_
     refine H.split 38 rfl (fun g38 H => ?_) (fun g38 H => ?_)
     ·have g38p := eq_of_beq g38
      refine H.v 39 (pt b_1 5) fun a H => H.u 40 (ii x.booking) (ex_l1 (HP.cell 1 rfl 5 rfl)) fun a H => H.v 41 (pt b_3 5) fun a H => H.u 42 (ii y.booking) (ex_l1 (HP.cell 0 rfl 5 rfl)) fun a H => H.v 43 (.bool (x.booking == y.booking)) fun a H => H.v 44 (.bool (x.booking == y.booking)) fun a H => H.v 45 (.bool (x.booking == y.booking)) fun a H => ?_
      refine H.split 45 rfl (fun g45 H => ?_) (fun g45 H => ?_)
      ·have g45p := eq_of_beq g45
       refine H.v 46 (pt b_1 6) fun a H => H.u 47 (.slice x.A x.al.length x.c) (ex_l1 (HP.cell 1 rfl 6 rfl)) fun a H => H.v 48 (pt b_3 6) fun a H => H.u 49 (.slice y.A y.al.length y.c) (ex_l1 (HP.cell 0 rfl 6 rfl)) fun a H => H.cb HP 50 (Tryz.call80 _ _) (eqA_any x.A y.A x.c y.c x.al y.al w_4 (hx.1.below HP.bl) (hy.1.below HP.bl) hx.2 hy.2) fun w_5 hb a H HP => H.v 51 (.bool (decide (x.al = y.al))) fun a H => H.v 4 (.bool (decide (x.al = y.al))) fun a H => ?_
       refine nl (tn (rt ?_))
       refine H.r1 (.bool (decide (x.al = y.al))) Tryz.results45 ?_
       exact ⟨by rw [show decide (x.nv = y.nv) = (decide (x.al = y.al)) from by rw [ent_eqb]; simp [g10, g17, g24, g31, g38, g45]], HP.bl⟩
      have g45p := ne_of_beq_false g45
      iterate 5 refine H.sx rfl fun a H => ?_
      refine H.v 51 (.bool false) fun a H => H.v 4 (.bool false) fun a H => ?_
      refine nl (tn (rt ?_))
      refine H.r1 (.bool false) Tryz.results45 ?_
      exact ⟨by rw [show decide (x.nv = y.nv) = (false) from by rw [ent_eqb]; simp [g10, g17, g24, g31, g38, g45]], HP.bl⟩
     have g38p := ne_of_beq_false g38
     iterate 5 refine H.sx rfl fun a H => ?_
     refine H.v 44 (.bool false) fun a H => H.v 45 (.bool false) fun a H => ?_
     iterate 5 refine H.sx rfl fun a H => ?_
     refine H.v 51 (.bool false) fun a H => H.v 4 (.bool false) fun a H => ?_
     refine nl (tn (rt ?_))
     refine H.r1 (.bool false) Tryz.results45 ?_
     exact ⟨by rw [show decide (x.nv = y.nv) = (false) from by rw [ent_eqb]; simp [g10, g17, g24, g31, g38]], HP.bl⟩
    have g31p := ne_of_beq_false g31
    iterate 5 refine H.sx rfl fun a H => ?_
    refine H.v 37 (.bool false) fun a H => H.v 38 (.bool false) fun a H => ?_
    iterate 5 refine H.sx rfl fun a H => ?_
    refine H.v 44 (.bool false) fun a H => H.v 45 (.bool false) fun a H => ?_
    iterate 5 refine H.sx rfl fun a H => ?_
    refine H.v 51 (.bool false) fun a H => H.v 4 (.bool false) fun a H => ?_
    refine nl (tn (rt ?_))
    refine H.r1 (.bool false) Tryz.results45 ?_
    exact ⟨by rw [show decide (x.nv = y.nv) = (false) from by rw [ent_eqb]; simp [g10, g17, g24, g31]], HP.bl⟩
   have g24p := ne_of_beq_false g24
   iterate 5 refine H.sx rfl fun a H => ?_
   refine H.v 30 (.bool false) fun a H => H.v 31 (.bool false) fun a H => ?_
   iterate 5 refine H.sx rfl fun a H => ?_
   refine H.v 37 (.bool false) fun a H => H.v 38 (.bool false) fun a H => ?_
   iterate 5 refine H.sx rfl fun a H => ?_
   refine H.v 44 (.bool false) fun a H => H.v 45 (.bool false) fun a H => ?_
   iterate 5 refine H.sx rfl fun a H => ?_
   refine H.v 51 (.bool false) fun a H => H.v 4 (.bool false) fun a H => ?_
   refine nl (tn (rt ?_))
   refine H.r1 (.bool false) Tryz.results45 ?_
   exact ⟨by rw [show decide (x.nv = y.nv) = (false) from by rw [ent_eqb]; simp [g10, g17, g24]], HP.bl⟩
  have g17p := ne_of_beq_false g17
  iterate 5 refine H.sx rfl fun a H => ?_
  refine H.v 23 (.bool false) fun a H => H.v 24 (.bool false) fun a H => ?_
  iterate 5 refine H.sx rfl fun a H => ?_
  refine H.v 30 (.bool false) fun a H => H.v 31 (.bool false) fun a H => ?_
  iterate 5 refine H.sx rfl fun a H => ?_
  refine H.v 37 (.bool false) fun a H => H.v 38 (.bool false) fun a H => ?_
  iterate 5 refine H.sx rfl fun a H => ?_
  refine H.v 44 (.bool false) fun a H => H.v 45 (.bool false) fun a H => ?_
  iterate 5 refine H.sx rfl fun a H => ?_
  refine H.v 51 (.bool false) fun a H => H.v 4 (.bool false) fun a H => ?_
  refine nl (tn (rt ?_))
  refine H.r1 (.bool false) Tryz.results45 ?_
  exact ⟨by rw [show decide (x.nv = y.nv) = (false) from by rw [ent_eqb]; simp [g10, g17]], HP.bl⟩
 have g10p := ne_of_beq_false g10
 iterate 5 refine H.sx rfl fun a H => ?_
 refine H.v 16 (.bool false) fun a H => H.v 17 (.bool false) fun a H => ?_
 iterate 5 refine H.sx rfl fun a H => ?_
 refine H.v 23 (.bool false) fun a H => H.v 24 (.bool false) fun a H => ?_
 iterate 5 refine H.sx rfl fun a H => ?_
 refine H.v 30 (.bool false) fun a H => H.v 31 (.bool false) fun a H => ?_
 iterate 5 refine H.sx rfl fun a H => ?_
 refine H.v 37 (.bool false) fun a H => H.v 38 (.bool false) fun a H => ?_
 iterate 5 refine H.sx rfl fun a H => ?_
 refine H.v 44 (.bool false) fun a H => H.v 45 (.bool false) fun a H => ?_
 iterate 5 refine H.sx rfl fun a H => ?_
 refine H.v 51 (.bool false) fun a H => H.v 4 (.bool false) fun a H => ?_
 refine nl (tn (rt ?_))
 refine H.r1 (.bool false) Tryz.results45 ?_
 exact ⟨by rw [show decide (x.nv = y.nv) = (false) from by rw [ent_eqb]; simp [g10]], HP.bl⟩
theorem rsameE_any (x y : Ent) (w : World) (hx : x.ok w) (hy : y.ok w) : Calls Tryz.prog 24 #[(enV x), (enV y)] w fun e w' => e = .returned (.bool (decide (x.nv = y.nv))) ∧ Below w.heap.size w w' := by
 have HP := Hp.start w
 refine w_enter 54 [(0, (enV x)), (1, (enV y))] Tryz.func24 rfl Tryz.ntmps24 (by kernel_rfl) (by kernel_rfl) fun a H => ?_
 refine sq (rg ?_)
 refine H.al HP 2 43 (enL x) fun b_1 w_2 a H HP => H.al HP 3 43 (enL y) fun b_3 w_4 a H HP => H.v 4 (.bool false) fun a H => ?_
 refine nl (tn (sq (rg ?_)))
 refine H.v 6 (pt b_1 6) fun a H => H.u 7 (.slice x.A x.al.length x.c) (ex_l1 (HP.cell 1 rfl 6 rfl)) fun a H => H.v 8 (pt b_3 6) fun a H => H.u 9 (.slice y.A y.al.length y.c) (ex_l1 (HP.cell 0 rfl 6 rfl)) fun a H => H.cb HP 10 (Tryz.call55 _ _) (rsameA_any x.A y.A x.c y.c x.al y.al w_4 (hx.1.below HP.bl) (hy.1.below HP.bl) hx.2 hy.2) fun w_5 hb a H HP => H.v 5 (.bool (decide (x.al = y.al))) fun a H => ?_
 refine nl (tn (sq (rg ?_)))
 refine H.v 11 (.bool (decide (x.al = y.al))) fun a H => H.v 12 (.bool (decide (x.al = y.al))) fun a H => ?_
 refine H.split 12 rfl (fun g12 H => ?_) (fun g12 H => ?_)
 ·have g12p := g12
  refine H.v 13 (pt b_1 0) fun a H => H.u 14 (ii x.id) (ex_l1 (HP.cell 1 rfl 0 rfl)) fun a H => H.v 15 (pt b_3 0) fun a H => H.u 16 (ii y.id) (ex_l1 (HP.cell 0 rfl 0 rfl)) fun a H => H.v 17 (.bool (x.id == y.id)) fun a H => H.v 18 (.bool (x.id == y.id)) fun a H => H.v 19 (.bool (x.id == y.id)) fun a H => ?_
  refine H.split 19 rfl (fun g19 H => ?_) (fun g19 H => ?_)
  ·have g19p := eq_of_beq g19
   refine H.v 20 (pt b_1 1) fun a H => H.u 21 (ii x.item) (ex_l1 (HP.cell 1 rfl 1 rfl)) fun a H => H.v 22 (pt b_3 1) fun a H => H.u 23 (ii y.item) (ex_l1 (HP.cell 0 rfl 1 rfl)) fun a H => H.v 24 (.bool (x.item == y.item)) fun a H => H.v 25 (.bool (x.item == y.item)) fun a H => H.v 26 (.bool (x.item == y.item)) fun a H => ?_
   refine H.split 26 rfl (fun g26 H => ?_) (fun g26 H => ?_)
   ·have g26p := eq_of_beq g26
    refine H.v 27 (pt b_1 2) fun a H => H.u 28 (ii x.frames) (ex_l1 (HP.cell 1 rfl 2 rfl)) fun a H => H.v 29 (pt b_3 2) fun a H => H.u 30 (ii y.frames) (ex_l1 (HP.cell 0 rfl 2 rfl)) fun a H => H.v 31 (.bool (x.frames == y.frames)) fun a H => H.v 32 (.bool (x.frames == y.frames)) fun a H => H.v 33 (.bool (x.frames == y.frames)) fun a H => ?_
    refine H.split 33 rfl (fun g33 H => ?_) (fun g33 H => ?_)
    ·have g33p := eq_of_beq g33
     refine H.v 34 (pt b_1 3) fun a H => H.u 35 (ii x.earliest) (ex_l1 (HP.cell 1 rfl 3 rfl)) fun a H => H.v 36 (pt b_3 3) fun a H => H.u 37 (ii y.earliest) (ex_l1 (HP.cell 0 rfl 3 rfl)) fun a H => H.v 38 (.bool (x.earliest == y.earliest)) fun a H => H.v 39 (.bool (x.earliest == y.earliest)) fun a H => H.v 40 (.bool (x.earliest == y.earliest)) fun a H => ?_
     refine H.split 40 rfl (fun g40 H => ?_) (fun g40 H => ?_)
     ·have g40p := eq_of_beq g40
      refine H.v 41 (pt b_1 4) fun a H => H.u 42 (ii x.latest) (ex_l1 (HP.cell 1 rfl 4 rfl)) fun a H => H.v 43 (pt b_3 4) fun a H => H.u 44 (ii y.latest) (ex_l1 (HP.cell 0 rfl 4 rfl)) fun a H => H.v 45 (.bool (x.latest == y.latest)) fun a H => H.v 46 (.bool (x.latest == y.latest)) fun a H => H.v 47 (.bool (x.latest == y.latest)) fun a H => ?_
      refine H.split 47 rfl (fun g47 H => ?_) (fun g47 H => ?_)
      ·have g47p := eq_of_beq g47
       refine H.v 48 (pt b_1 5) fun a H => H.u 49 (ii x.booking) (ex_l1 (HP.cell 1 rfl 5 rfl)) fun a H => H.v 50 (pt b_3 5) fun a H => H.u 51 (ii y.booking) (ex_l1 (HP.cell 0 rfl 5 rfl)) fun a H => H.v 52 (.bool (x.booking == y.booking)) fun a H => H.v 53 (.bool (x.booking == y.booking)) fun a H => H.v 4 (.bool (x.booking == y.booking)) fun a H => ?_
       refine nl (tn (rt ?_))
       refine H.r1 (.bool (x.booking == y.booking)) Tryz.results24 ?_
       exact ⟨by rw [show decide (x.nv = y.nv) = (x.booking == y.booking) from by rw [ent_eqb]; simp [g12, g19, g26, g33, g40, g47]], HP.bl⟩
      have g47p := ne_of_beq_false g47
      iterate 5 refine H.sx rfl fun a H => ?_
      refine H.v 53 (.bool false) fun a H => H.v 4 (.bool false) fun a H => ?_
      refine nl (tn (rt ?_))
      refine H.r1 (.bool false) Tryz.results24 ?_
      exact ⟨by rw [show decide (x.nv = y.nv) = (false) from by rw [ent_eqb]; simp [g12, g19, g26, g33, g40, g47]], HP.bl⟩
     have g40p := ne_of_beq_false g40
     iterate 5 refine H.sx rfl fun a H => ?_
     refine H.v 46 (.bool false) fun a H => H.v 47 (.bool false) fun a H => ?_
     iterate 5 refine H.sx rfl fun a H => ?_
     refine H.v 53 (.bool false) fun a H => H.v 4 (.bool false) fun a H => ?_
     refine nl (tn (rt ?_))
     refine H.r1 (.bool false) Tryz.results24 ?_
     exact ⟨by rw [show decide (x.nv = y.nv) = (false) from by rw [ent_eqb]; simp [g12, g19, g26, g33, g40]], HP.bl⟩
    have g33p := ne_of_beq_false g33
    iterate 5 refine H.sx rfl fun a H => ?_
    refine H.v 39 (.bool false) fun a H => H.v 40 (.bool false) fun a H => ?_
    iterate 5 refine H.sx rfl fun a H => ?_
    refine H.v 46 (.bool false) fun a H => H.v 47 (.bool false) fun a H => ?_
    iterate 5 refine H.sx rfl fun a H => ?_
    refine H.v 53 (.bool false) fun a H => H.v 4 (.bool false) fun a H => ?_
    refine nl (tn (rt ?_))
    refine H.r1 (.bool false) Tryz.results24 ?_
    exact ⟨by rw [show decide (x.nv = y.nv) = (false) from by rw [ent_eqb]; simp [g12, g19, g26, g33]], HP.bl⟩
   have g26p := ne_of_beq_false g26
   iterate 5 refine H.sx rfl fun a H => ?_
   refine H.v 32 (.bool false) fun a H => H.v 33 (.bool false) fun a H => ?_
   iterate 5 refine H.sx rfl fun a H => ?_
   refine H.v 39 (.bool false) fun a H => H.v 40 (.bool false) fun a H => ?_
   iterate 5 refine H.sx rfl fun a H => ?_
   refine H.v 46 (.bool false) fun a H => H.v 47 (.bool false) fun a H => ?_
   iterate 5 refine H.sx rfl fun a H => ?_
   refine H.v 53 (.bool false) fun a H => H.v 4 (.bool false) fun a H => ?_
   refine nl (tn (rt ?_))
   refine H.r1 (.bool false) Tryz.results24 ?_
   exact ⟨by rw [show decide (x.nv = y.nv) = (false) from by rw [ent_eqb]; simp [g12, g19, g26]], HP.bl⟩
  have g19p := ne_of_beq_false g19
  iterate 5 refine H.sx rfl fun a H => ?_
  refine H.v 25 (.bool false) fun a H => H.v 26 (.bool false) fun a H => ?_
  iterate 5 refine H.sx rfl fun a H => ?_
  refine H.v 32 (.bool false) fun a H => H.v 33 (.bool false) fun a H => ?_
  iterate 5 refine H.sx rfl fun a H => ?_
  refine H.v 39 (.bool false) fun a H => H.v 40 (.bool false) fun a H => ?_
  iterate 5 refine H.sx rfl fun a H => ?_
  refine H.v 46 (.bool false) fun a H => H.v 47 (.bool false) fun a H => ?_
  iterate 5 refine H.sx rfl fun a H => ?_
  refine H.v 53 (.bool false) fun a H => H.v 4 (.bool false) fun a H => ?_
  refine nl (tn (rt ?_))
  refine H.r1 (.bool false) Tryz.results24 ?_
  exact ⟨by rw [show decide (x.nv = y.nv) = (false) from by rw [ent_eqb]; simp [g12, g19]], HP.bl⟩
 have g12p := g12
 iterate 5 refine H.sx rfl fun a H => ?_
 refine H.v 18 (.bool false) fun a H => H.v 19 (.bool false) fun a H => ?_
 iterate 5 refine H.sx rfl fun a H => ?_
 refine H.v 25 (.bool false) fun a H => H.v 26 (.bool false) fun a H => ?_
 iterate 5 refine H.sx rfl fun a H => ?_
 refine H.v 32 (.bool false) fun a H => H.v 33 (.bool false) fun a H => ?_
 iterate 5 refine H.sx rfl fun a H => ?_
 refine H.v 39 (.bool false) fun a H => H.v 40 (.bool false) fun a H => ?_
 iterate 5 refine H.sx rfl fun a H => ?_
 refine H.v 46 (.bool false) fun a H => H.v 47 (.bool false) fun a H => ?_
 iterate 5 refine H.sx rfl fun a H => ?_
 refine H.v 53 (.bool false) fun a H => H.v 4 (.bool false) fun a H => ?_
 refine nl (tn (rt ?_))
 refine H.r1 (.bool false) Tryz.results24 ?_
 exact ⟨by rw [show decide (x.nv = y.nv) = (false) from by rw [ent_eqb]; simp [g12]], HP.bl⟩
theorem eqF_any (A B : Option Addr) (c d : Nat) (l m : List Ent) (w : World) (hr : IsEn w A l) (hs : IsEn w B m) (hl : l.length ≤ maxLen) (hm : m.length ≤ maxLen) : Calls Tryz.prog 44 #[.slice A l.length c, .slice B m.length d, .func (.func 45) #[] #[]] w fun e w' => e = .returned (.bool (decide (l.map Ent.nv = m.map Ent.nv))) ∧ Below w.heap.size w w' := by
 unfold maxLen at hl hm
 have HP := Hp.start w
 refine w_enter 32 [(0, (.slice A l.length c)), (1, (.slice B m.length d)), (2, (.func (.func 45) #[] #[]))] Tryz.func44 rfl Tryz.ntmps44 (by kernel_rfl) (by kernel_rfl) fun a H => ?_
 refine sq (rg ?_)
 refine H.v 6 (.bool false) fun a H => ?_
 refine nl (tn (sq (sq (rg ?_))))
 refine H.v 10 (.slice A l.length c) fun a H => H.v 11 (ii l.length) fun a H => H.v 12 (.slice B m.length d) fun a H => H.v 13 (ii m.length) fun a H => H.v 14 (.bool ((l.length : Int) != (m.length : Int))) fun a H => ?_
 refine nl (tn ?_)
 refine w_if H rfl (fun g14 => ?_) (fun g14 => ?_)
 ·have g14p := bne_iff_ne.1 g14
  refine sq (rg ?_)
  refine H.v 6 (.bool false) fun a H => ?_
  refine nl (tn (rt (tr ?_)))
  refine H.r1 (.bool false) Tryz.results44 ?_
  exact ⟨by rw [decide_eq_false (fun e => by have := congrArg List.length e; rw [List.length_map, List.length_map] at this; omega)], HP.bl⟩
 have g14p := eq_of_bne_false g14
 refine sk (tn (sq (sq (rg ?_))))
 refine H.v 15 (.slice A l.length c) fun a H => H.v 16 (ii l.length) fun a H => H.v 17 (ii 0) fun a H => ?_
 refine nl (tn (bk ?_))
 refine w_loop (fun mm a wv => ∃ (i : Nat), l.length - i = mm ∧ Sl 32 [(17, (ii i)), (16, (ii l.length)), (15, (.slice A l.length c)), (14, (.bool ((l.length : Int) != (m.length : Int)))), (13, (ii m.length)), (12, (.slice B m.length d)), (11, (ii l.length)), (10, (.slice A l.length c)), (0, (.slice A l.length c)), (1, (.slice B m.length d)), (2, (.func (.func 45) #[] #[]))] a ∧ Hp w wv [] [] ∧ (i ≤ l.length) ∧ ((l.map Ent.nv).take i = (m.map Ent.nv).take i)) (l.length - 0) ?_ ?_
 ·exact ⟨0, (by omega), H.keep (by kernel_rfl), HP, (Nat.zero_le _), rfl⟩
 rintro mm a w_1 ⟨i, hmeas, H, HP, hib, hrel⟩
 refine sq (rg ?_)
 refine H.v 18 (.bool (decide ((i : Int) < (l.length : Int)))) fun a H => ?_
 refine nl (tn (sq ?_))
 refine w_if H rfl (fun g18 => ?_) (fun g18 => ?_)
 ·have g18p := of_decide_eq_true g18
  refine sk (tn (sq (bk (sq ?_))))
  obtain ⟨bu_3, ou_4, x_2, hA_5, _, hd_7, hx_6, hm_8, _⟩ := IsRow.get enC_size (hr.below HP.bl).row (i := i) (by omega)
  refine rg ?_
  refine H.v 19 (ii i) fun a H => H.u 20 (.pointer (some ⟨bu_3, ou_4 + i * 7, none⟩)) (ex_indexA (b := bu_3) (off := ou_4) (len := l.length) (cap := c) (e := 43) (k := 7) (ik := .i64) (i := (i : Int)) (m := i) hA_5 (by kernel_rfl) (by kernel_rfl) (by omega) (by omega) (by kernel_rfl) (by kernel_rfl)) fun a H => H.u 21 (enV x_2) (ex_lN (enL x_2) (IsRow.cells enC_size (hr.below HP.bl).row hA_5 hx_6)) fun a H => H.al HP 8 43 [(ii 0), (ii 0), (ii 0), (ii 0), (ii 0), (ii 0), (.slice none 0 0)] fun b_9 w_10 a H HP => H.v 7 (ii i) fun a H => H.st HP 0 b_9 0 7 43 true (enV x_2) [bx b_9 43 (enL x_2) true] rfl fun w_11 a H HP => ?_
  refine nl (tn (sq ?_))
  obtain ⟨bu_13, ou_14, x_12, hA_15, _, hd_17, hx_16, hm_18, _⟩ := IsRow.get enC_size (hs.below HP.bl).row (i := i) (by omega)
  refine rg ?_
  refine H.v 22 (.slice B m.length d) fun a H => H.v 23 (ii i) fun a H => H.u 24 (.pointer (some ⟨bu_13, ou_14 + i * 7, none⟩)) (ex_indexA (b := bu_13) (off := ou_14) (len := m.length) (cap := d) (e := 43) (k := 7) (ik := .i64) (i := (i : Int)) (m := i) hA_15 (by kernel_rfl) (by kernel_rfl) (by omega) (by omega) (by kernel_rfl) (by kernel_rfl)) fun a H => H.u 25 (enV x_12) (ex_lN (enL x_12) (IsRow.cells enC_size (hs.below HP.bl).row hA_15 hx_16)) fun a H => H.al HP 9 43 [(ii 0), (ii 0), (ii 0), (ii 0), (ii 0), (ii 0), (.slice none 0 0)] fun b_19 w_20 a H HP => H.st HP 0 b_19 0 7 43 true (enV x_12) [bx b_19 43 (enL x_12) true, bx b_9 43 (enL x_2) true] rfl fun w_21 a H HP => ?_
  refine nl (tn (sq (rg ?_)))
  refine H.v 26 (.func (.func 45) #[] #[]) fun a H => H.u 27 (enV x_2) (ex_lN (enL x_2) (HP.cells 1 rfl 0 7 (by kernel_rfl))) fun a H => H.u 28 (enV x_12) (ex_lN (enL x_12) (HP.cells 0 rfl 0 7 (by kernel_rfl))) fun a H => H.cb HP 29 (Tryz.call45 _ _) (sameE_any x_2 x_12 w_21 ((hr.below HP.bl).ok _ hm_8) ((hs.below HP.bl).ok _ hm_18)) fun w_22 hb a H HP => H.v 30 (.bool (!(decide (x_2.nv = x_12.nv)))) fun a H => ?_
  refine nl (tn ?_)
  refine w_if H rfl (fun g30 => ?_) (fun g30 => ?_)
  ·have g30p := not_is_true g30
   refine sq (rg ?_)
   refine H.v 6 (.bool false) fun a H => ?_
   refine nl (tn (rt (ibr (tr (tr (ibr (tr ?_)))))))
   refine H.r1 (.bool false) Tryz.results44 ?_
   exact ⟨by rw [decide_eq_false (ne_at (map_at hx_6) (map_at hx_16) (of_decide_eq_false g30p))], HP.bl⟩
  have g30p := not_is_false g30
  refine sk (ibn (tn (rg ?_)))
  refine H.valE 31 (ii (IntKind.i64.wrap ((i : Int) + 1))) (ii ((i : Int) + 1)) (by kernel_rfl) (by kernel_rfl) ((by rw [wrap_ini64 _ (by omega)])) fun a H => H.v 17 (ii ((i : Int) + 1)) fun a H => ?_
  refine nl (tn ?_)
  have H := H.as 17 (ii ((i + 1 : Nat) : Int)) rfl rfl
  refine ⟨_, ?_, i + 1, rfl, H.keep (by kernel_rfl), ((HP.tail rfl).tail rfl), (by omega), (take_eq_snoc hrel (map_at hx_6) (map_at hx_16) (of_decide_eq_true g30p))⟩
  omega
 have g18p := of_decide_eq_false g18
 refine wp_exit (then_exit (then_exit ?_))
 refine w_exit_here ?_
 refine tn (sq (rg ?_))
 refine H.v 6 (.bool true) fun a H => ?_
 refine nl (tn (rt ?_))
 refine H.r1 (.bool true) Tryz.results44 ?_
 exact ⟨by rw [decide_eq_true (take_all hrel (by rw [List.length_map]; omega) (by rw [List.length_map, List.length_map]; omega))], HP.bl⟩
theorem same_any (p q : Pln) (w : World) (hp : IsPln w p) (hq : IsPln w q) : Calls Tryz.prog 16 #[(plV p), (plV q)] w fun e w' => e = .returned (.bool (decide (p.nv = q.nv))) ∧ Below w.heap.size w w' := by
 have HP := Hp.start w
 refine w_enter 91 [(0, (plV p)), (1, (plV q))] Tryz.func16 rfl Tryz.ntmps16 (by kernel_rfl) (by kernel_rfl) fun a H => ?_
 refine sq (rg ?_)
 refine H.al HP 2 32 (plL p) fun b_1 w_2 a H HP => H.al HP 3 32 (plL q) fun b_3 w_4 a H HP => H.v 4 (.bool false) fun a H => ?_
 refine nl (tn (sq (rg ?_)))
 refine H.v 5 (pt b_1 0) fun a H => H.u 6 (ii p.channel) (ex_l1 (HP.cell 1 rfl 0 rfl)) fun a H => H.v 7 (pt b_3 0) fun a H => H.u 8 (ii q.channel) (ex_l1 (HP.cell 0 rfl 0 rfl)) fun a H => H.v 9 (.bool (p.channel == q.channel)) fun a H => H.v 10 (.bool (p.channel == q.channel)) fun a H => ?_
 refine H.split 10 rfl (fun g10 H => ?_) (fun g10 H => ?_)
 ·have g10p := eq_of_beq g10
  refine H.v 11 (pt b_1 1) fun a H => H.u 12 (.agg #[(ii p.num), (ii p.den)]) (ex_lN [(ii p.num), (ii p.den)] (HP.cells 1 rfl 1 2 (by kernel_rfl))) fun a H => H.v 13 (pt b_3 1) fun a H => H.u 14 (.agg #[(ii q.num), (ii q.den)]) (ex_lN [(ii q.num), (ii q.den)] (HP.cells 0 rfl 1 2 (by kernel_rfl))) fun a H => H.u 15 (.bool (([p.num, p.den] : List Int) == [q.num, q.den])) (ex_eqL (a := [p.num, p.den]) (b := [q.num, q.den]) (by kernel_rfl) (by kernel_rfl) (by kernel_rfl) rfl) fun a H => H.v 16 (.bool (([p.num, p.den] : List Int) == [q.num, q.den])) fun a H => H.v 17 (.bool (([p.num, p.den] : List Int) == [q.num, q.den])) fun a H => ?_
  refine H.split 17 rfl (fun g17 H => ?_) (fun g17 H => ?_)
  ·have g17p := eq_of_beq g17
   refine H.v 18 (pt b_1 3) fun a H => H.v 19 (pt b_1 3) fun a H => H.u 20 (ii p.offset) (ex_l1 (HP.cell 1 rfl 3 rfl)) fun a H => H.v 21 (pt b_3 3) fun a H => H.v 22 (pt b_3 3) fun a H => H.u 23 (ii q.offset) (ex_l1 (HP.cell 0 rfl 3 rfl)) fun a H => H.v 24 (.bool (p.offset == q.offset)) fun a H => H.v 25 (.bool (p.offset == q.offset)) fun a H => H.v 26 (.bool (p.offset == q.offset)) fun a H => ?_
   refine H.split 26 rfl (fun g26 H => ?_) (fun g26 H => ?_)
   ·have g26p := eq_of_beq g26
    refine H.v 27 (pt b_1 5) fun a H => H.u 28 (ii p.epoch) (ex_l1 (HP.cell 1 rfl 5 rfl)) fun a H => H.v 29 (pt b_3 5) fun a H => H.u 30 (ii q.epoch) (ex_l1 (HP.cell 0 rfl 5 rfl)) fun a H => H.v 31 (.bool (p.epoch == q.epoch)) fun a H => H.v 32 (.bool (p.epoch == q.epoch)) fun a H => H.v 33 (.bool (p.epoch == q.epoch)) fun a H => ?_
    refine H.split 33 rfl (fun g33 H => ?_) (fun g33 H => ?_)
    ·have g33p := eq_of_beq g33
     refine H.v 34 (pt b_1 6) fun a H => H.u 35 (ii p.regions) (ex_l1 (HP.cell 1 rfl 6 rfl)) fun a H => H.v 36 (pt b_3 6) fun a H => H.u 37 (ii q.regions) (ex_l1 (HP.cell 0 rfl 6 rfl)) fun a H => H.v 38 (.bool (p.regions == q.regions)) fun a H => H.v 39 (.bool (p.regions == q.regions)) fun a H => H.v 40 (.bool (p.regions == q.regions)) fun a H => ?_
     refine H.split 40 rfl (fun g40 H => ?_) (fun g40 H => ?_)
     ·have g40p := eq_of_beq g40
      refine H.v 41 (pt b_1 7) fun a H => H.u 42 (ii p.length) (ex_l1 (HP.cell 1 rfl 7 rfl)) fun a H => H.v 43 (pt b_3 7) fun a H => H.u 44 (ii q.length) (ex_l1 (HP.cell 0 rfl 7 rfl)) fun a H => H.v 45 (.bool (p.length == q.length)) fun a H => H.v 46 (.bool (p.length == q.length)) fun a H => H.v 47 (.bool (p.length == q.length)) fun a H => ?_
      refine H.split 47 rfl (fun g47 H => ?_) (fun g47 H => ?_)
      ·have g47p := eq_of_beq g47
       refine H.v 48 (pt b_1 8) fun a H => H.u 49 (ii p.fill) (ex_l1 (HP.cell 1 rfl 8 rfl)) fun a H => H.v 50 (pt b_3 8) fun a H => H.u 51 (ii q.fill) (ex_l1 (HP.cell 0 rfl 8 rfl)) fun a H => H.v 52 (.bool (p.fill == q.fill)) fun a H => H.v 53 (.bool (p.fill == q.fill)) fun a H => H.v 54 (.bool (p.fill == q.fill)) fun a H => ?_
       refine H.split 54 rfl (fun g54 H => ?_) (fun g54 H => ?_)
       ·have g54p := eq_of_beq g54
        refine H.v 55 (pt b_1 3) fun a H => H.v 56 (pt b_1 4) fun a H => H.u 57 (.slice p.SA p.sh.length p.sc) (ex_l1 (HP.cell 1 rfl 4 rfl)) fun a H => H.v 58 (pt b_3 3) fun a H => H.v 59 (pt b_3 4) fun a H => H.u 60 (.slice q.SA q.sh.length q.sc) (ex_l1 (HP.cell 0 rfl 4 rfl)) fun a H => H.cb HP 61 (Tryz.call42 _ _) (eqS_any p.SA q.SA p.sc q.sc p.sh q.sh w_4 (hp.sh.below HP.bl) (hq.sh.below HP.bl) hp.lsh hq.lsh) fun w_5 hb a H HP => H.v 62 (.bool (decide (p.sh = q.sh))) fun a H => H.v 63 (.bool (decide (p.sh = q.sh))) fun a H => ?_
        refine H.split 63 rfl (fun g63 H => ?_) (fun g63 H => ?_)
        ·have g63p := g63
         refine H.v 64 (pt b_1 9) fun a H => H.u 65 (.slice p.IA p.its.length p.ic) (ex_l1 (HP.cell 1 rfl 9 rfl)) fun a H => H.v 66 (pt b_3 9) fun a H => H.u 67 (.slice q.IA q.its.length q.ic) (ex_l1 (HP.cell 0 rfl 9 rfl)) fun a H => H.cb HP 68 (Tryz.call43 _ _) (eqI_any p.IA q.IA p.ic q.ic p.its q.its w_5 (hp.its.below HP.bl) (hq.its.below HP.bl) hp.lits hq.lits) fun w_6 hb a H HP => H.v 69 (.bool (decide (p.its = q.its))) fun a H => H.v 70 (.bool (decide (p.its = q.its))) fun a H => ?_
         refine H.split 70 rfl (fun g70 H => ?_) (fun g70 H => ?_)
         ·have g70p := g70
          refine H.v 71 (pt b_1 10) fun a H => H.u 72 (.slice p.EA p.es.length p.ec) (ex_l1 (HP.cell 1 rfl 10 rfl)) fun a H => H.v 73 (pt b_3 10) fun a H => H.u 74 (.slice q.EA q.es.length q.ec) (ex_l1 (HP.cell 0 rfl 10 rfl)) fun a H => H.cb HP 75 (Tryz.call44 _ _) (eqF_any p.EA q.EA p.ec q.ec p.es q.es w_6 (hp.es.below HP.bl) (hq.es.below HP.bl) hp.les hq.les) fun w_7 hb a H HP => H.v 76 (.bool (decide (p.es.map Ent.nv = q.es.map Ent.nv))) fun a H => H.v 77 (.bool (decide (p.es.map Ent.nv = q.es.map Ent.nv))) fun a H => ?_
          refine H.split 77 rfl (fun g77 H => ?_) (fun g77 H => ?_)
          ·have g77p := g77
           refine H.v 78 (pt b_1 11) fun a H => H.u 79 (.slice p.BA p.bs.length p.bc) (ex_l1 (HP.cell 1 rfl 11 rfl)) fun a H => H.v 80 (pt b_3 11) fun a H => H.u 81 (.slice q.BA q.bs.length q.bc) (ex_l1 (HP.cell 0 rfl 11 rfl)) fun a H => H.cb HP 82 (Tryz.call46 _ _) (eqB_any p.BA q.BA p.bc q.bc p.bs q.bs w_7 (hp.bs.below HP.bl) (hq.bs.below HP.bl) hp.lbs hq.lbs) fun w_8 hb a H HP => H.v 83 (.bool (decide (p.bs = q.bs))) fun a H => H.v 84 (.bool (decide (p.bs = q.bs))) fun a H => ?_
           refine H.split 84 rfl (fun g84 H => ?_) (fun g84 H => ?_)
           ·have g84p := g84
            refine H.v 85 (pt b_1 12) fun a H => H.u 86 (.slice p.CA p.cs.length p.cc) (ex_l1 (HP.cell 1 rfl 12 rfl)) fun a H => H.v 87 (pt b_3 12) fun a H => H.u 88 (.slice q.CA q.cs.length q.cc) (ex_l1 (HP.cell 0 rfl 12 rfl)) fun a H => H.cb HP 89 (Tryz.call47 _ _) (eqC_any p.CA q.CA p.cc q.cc p.cs q.cs w_8 (hp.cs.below HP.bl) (hq.cs.below HP.bl) hp.lcs hq.lcs) fun w_9 hb a H HP => H.v 90 (.bool (decide (p.cs = q.cs))) fun a H => H.v 4 (.bool (decide (p.cs = q.cs))) fun a H => ?_
            refine nl (tn (rt ?_))
            refine H.r1 (.bool (decide (p.cs = q.cs))) Tryz.results16 ?_
            exact ⟨by rw [show decide (p.nv = q.nv) = (decide (p.cs = q.cs)) from by rw [pln_eqb]; simp only [g10, g17, g26, g33, g40, g47, g54, g63, g70, g77, g84, Bool.true_and, Bool.and_true, Bool.false_and, Bool.and_false]], HP.bl⟩
           have g84p := g84
           iterate 5 refine H.sx rfl fun a H => ?_
           refine H.v 90 (.bool false) fun a H => H.v 4 (.bool false) fun a H => ?_
           refine nl (tn (rt ?_))
           refine H.r1 (.bool false) Tryz.results16 ?_
           exact ⟨by rw [show decide (p.nv = q.nv) = (false) from by rw [pln_eqb]; simp only [g10, g17, g26, g33, g40, g47, g54, g63, g70, g77, g84, Bool.true_and, Bool.and_true, Bool.false_and, Bool.and_false]], HP.bl⟩
          have g77p := g77
          iterate 5 refine H.sx rfl fun a H => ?_
          refine H.v 83 (.bool false) fun a H => H.v 84 (.bool false) fun a H => ?_
          iterate 5 refine H.sx rfl fun a H => ?_
          refine H.v 90 (.bool false) fun a H => H.v 4 (.bool false) fun a H => ?_
          refine nl (tn (rt ?_))
          refine H.r1 (.bool false) Tryz.results16 ?_
          exact ⟨by rw [show decide (p.nv = q.nv) = (false) from by rw [pln_eqb]; simp only [g10, g17, g26, g33, g40, g47, g54, g63, g70, g77, Bool.true_and, Bool.and_true, Bool.false_and, Bool.and_false]], HP.bl⟩
         have g70p := g70
         iterate 5 refine H.sx rfl fun a H => ?_
         refine H.v 76 (.bool false) fun a H => H.v 77 (.bool false) fun a H => ?_
         iterate 5 refine H.sx rfl fun a H => ?_
         refine H.v 83 (.bool false) fun a H => H.v 84 (.bool false) fun a H => ?_
         iterate 5 refine H.sx rfl fun a H => ?_
         refine H.v 90 (.bool false) fun a H => H.v 4 (.bool false) fun a H => ?_
         refine nl (tn (rt ?_))
         refine H.r1 (.bool false) Tryz.results16 ?_
         exact ⟨by rw [show decide (p.nv = q.nv) = (false) from by rw [pln_eqb]; simp only [g10, g17, g26, g33, g40, g47, g54, g63, g70, Bool.true_and, Bool.and_true, Bool.false_and, Bool.and_false]], HP.bl⟩
        have g63p := g63
        iterate 5 refine H.sx rfl fun a H => ?_
        refine H.v 69 (.bool false) fun a H => H.v 70 (.bool false) fun a H => ?_
        iterate 5 refine H.sx rfl fun a H => ?_
        refine H.v 76 (.bool false) fun a H => H.v 77 (.bool false) fun a H => ?_
        iterate 5 refine H.sx rfl fun a H => ?_
        refine H.v 83 (.bool false) fun a H => H.v 84 (.bool false) fun a H => ?_
        iterate 5 refine H.sx rfl fun a H => ?_
        refine H.v 90 (.bool false) fun a H => H.v 4 (.bool false) fun a H => ?_
        refine nl (tn (rt ?_))
        refine H.r1 (.bool false) Tryz.results16 ?_
        exact ⟨by rw [show decide (p.nv = q.nv) = (false) from by rw [pln_eqb]; simp only [g10, g17, g26, g33, g40, g47, g54, g63, Bool.true_and, Bool.and_true, Bool.false_and, Bool.and_false]], HP.bl⟩
       have g54p := ne_of_beq_false g54
       iterate 7 refine H.sx rfl fun a H => ?_
       refine H.v 62 (.bool false) fun a H => H.v 63 (.bool false) fun a H => ?_
       iterate 5 refine H.sx rfl fun a H => ?_
       refine H.v 69 (.bool false) fun a H => H.v 70 (.bool false) fun a H => ?_
       iterate 5 refine H.sx rfl fun a H => ?_
       refine H.v 76 (.bool false) fun a H => H.v 77 (.bool false) fun a H => ?_
       iterate 5 refine H.sx rfl fun a H => ?_
       refine H.v 83 (.bool false) fun a H => H.v 84 (.bool false) fun a H => ?_
       iterate 5 refine H.sx rfl fun a H => ?_
       refine H.v 90 (.bool false) fun a H => H.v 4 (.bool false) fun a H => ?_
       refine nl (tn (rt ?_))
       refine H.r1 (.bool false) Tryz.results16 ?_
       exact ⟨by rw [show decide (p.nv = q.nv) = (false) from by rw [pln_eqb]; simp only [g10, g17, g26, g33, g40, g47, g54, Bool.true_and, Bool.and_true, Bool.false_and, Bool.and_false]], HP.bl⟩
      have g47p := ne_of_beq_false g47
      iterate 5 refine H.sx rfl fun a H => ?_
      refine H.v 53 (.bool false) fun a H => H.v 54 (.bool false) fun a H => ?_
      iterate 7 refine H.sx rfl fun a H => ?_
      refine H.v 62 (.bool false) fun a H => H.v 63 (.bool false) fun a H => ?_
      iterate 5 refine H.sx rfl fun a H => ?_
      refine H.v 69 (.bool false) fun a H => H.v 70 (.bool false) fun a H => ?_
      iterate 5 refine H.sx rfl fun a H => ?_
      refine H.v 76 (.bool false) fun a H => H.v 77 (.bool false) fun a H => ?_
      iterate 5 refine H.sx rfl fun a H => ?_
      refine H.v 83 (.bool false) fun a H => H.v 84 (.bool false) fun a H => ?_
      iterate 5 refine H.sx rfl fun a H => ?_
      refine H.v 90 (.bool false) fun a H => H.v 4 (.bool false) fun a H => ?_
      refine nl (tn (rt ?_))
      refine H.r1 (.bool false) Tryz.results16 ?_
      exact ⟨by rw [show decide (p.nv = q.nv) = (false) from by rw [pln_eqb]; simp only [g10, g17, g26, g33, g40, g47, Bool.true_and, Bool.and_true, Bool.false_and, Bool.and_false]], HP.bl⟩
     have g40p := ne_of_beq_false g40
     iterate 5 refine H.sx rfl fun a H => ?_
     refine H.v 46 (.bool false) fun a H => H.v 47 (.bool false) fun a H => ?_
     iterate 5 refine H.sx rfl fun a H => ?_
     refine H.v 53 (.bool false) fun a H => H.v 54 (.bool false) fun a H => ?_
     iterate 7 refine H.sx rfl fun a H => ?_
     refine H.v 62 (.bool false) fun a H => H.v 63 (.bool false) fun a H => ?_
     iterate 5 refine H.sx rfl fun a H => ?_
     refine H.v 69 (.bool false) fun a H => H.v 70 (.bool false) fun a H => ?_
     iterate 5 refine H.sx rfl fun a H => ?_
     refine H.v 76 (.bool false) fun a H => H.v 77 (.bool false) fun a H => ?_
     iterate 5 refine H.sx rfl fun a H => ?_
     refine H.v 83 (.bool false) fun a H => H.v 84 (.bool false) fun a H => ?_
     iterate 5 refine H.sx rfl fun a H => ?_
     refine H.v 90 (.bool false) fun a H => H.v 4 (.bool false) fun a H => ?_
     refine nl (tn (rt ?_))
     refine H.r1 (.bool false) Tryz.results16 ?_
     exact ⟨by rw [show decide (p.nv = q.nv) = (false) from by rw [pln_eqb]; simp only [g10, g17, g26, g33, g40, Bool.true_and, Bool.and_true, Bool.false_and, Bool.and_false]], HP.bl⟩
    have g33p := ne_of_beq_false g33
    iterate 5 refine H.sx rfl fun a H => ?_
    refine H.v 39 (.bool false) fun a H => H.v 40 (.bool false) fun a H => ?_
    iterate 5 refine H.sx rfl fun a H => ?_
    refine H.v 46 (.bool false) fun a H => H.v 47 (.bool false) fun a H => ?_
    iterate 5 refine H.sx rfl fun a H => ?_
    refine H.v 53 (.bool false) fun a H => H.v 54 (.bool false) fun a H => ?_
    iterate 7 refine H.sx rfl fun a H => ?_
    refine H.v 62 (.bool false) fun a H => H.v 63 (.bool false) fun a H => ?_
    iterate 5 refine H.sx rfl fun a H => ?_
    refine H.v 69 (.bool false) fun a H => H.v 70 (.bool false) fun a H => ?_
    iterate 5 refine H.sx rfl fun a H => ?_
    refine H.v 76 (.bool false) fun a H => H.v 77 (.bool false) fun a H => ?_
    iterate 5 refine H.sx rfl fun a H => ?_
    refine H.v 83 (.bool false) fun a H => H.v 84 (.bool false) fun a H => ?_
    iterate 5 refine H.sx rfl fun a H => ?_
    refine H.v 90 (.bool false) fun a H => H.v 4 (.bool false) fun a H => ?_
    refine nl (tn (rt ?_))
    refine H.r1 (.bool false) Tryz.results16 ?_
    exact ⟨by rw [show decide (p.nv = q.nv) = (false) from by rw [pln_eqb]; simp only [g10, g17, g26, g33, Bool.true_and, Bool.and_true, Bool.false_and, Bool.and_false]], HP.bl⟩
   have g26p := ne_of_beq_false g26
   iterate 5 refine H.sx rfl fun a H => ?_
   refine H.v 32 (.bool false) fun a H => H.v 33 (.bool false) fun a H => ?_
   iterate 5 refine H.sx rfl fun a H => ?_
   refine H.v 39 (.bool false) fun a H => H.v 40 (.bool false) fun a H => ?_
   iterate 5 refine H.sx rfl fun a H => ?_
   refine H.v 46 (.bool false) fun a H => H.v 47 (.bool false) fun a H => ?_
   iterate 5 refine H.sx rfl fun a H => ?_
   refine H.v 53 (.bool false) fun a H => H.v 54 (.bool false) fun a H => ?_
   iterate 7 refine H.sx rfl fun a H => ?_
   refine H.v 62 (.bool false) fun a H => H.v 63 (.bool false) fun a H => ?_
   iterate 5 refine H.sx rfl fun a H => ?_
   refine H.v 69 (.bool false) fun a H => H.v 70 (.bool false) fun a H => ?_
   iterate 5 refine H.sx rfl fun a H => ?_
   refine H.v 76 (.bool false) fun a H => H.v 77 (.bool false) fun a H => ?_
   iterate 5 refine H.sx rfl fun a H => ?_
   refine H.v 83 (.bool false) fun a H => H.v 84 (.bool false) fun a H => ?_
   iterate 5 refine H.sx rfl fun a H => ?_
   refine H.v 90 (.bool false) fun a H => H.v 4 (.bool false) fun a H => ?_
   refine nl (tn (rt ?_))
   refine H.r1 (.bool false) Tryz.results16 ?_
   exact ⟨by rw [show decide (p.nv = q.nv) = (false) from by rw [pln_eqb]; simp only [g10, g17, g26, Bool.true_and, Bool.and_true, Bool.false_and, Bool.and_false]], HP.bl⟩
  have g17p := ne_of_beq_false g17
  iterate 7 refine H.sx rfl fun a H => ?_
  refine H.v 25 (.bool false) fun a H => H.v 26 (.bool false) fun a H => ?_
  iterate 5 refine H.sx rfl fun a H => ?_
  refine H.v 32 (.bool false) fun a H => H.v 33 (.bool false) fun a H => ?_
  iterate 5 refine H.sx rfl fun a H => ?_
  refine H.v 39 (.bool false) fun a H => H.v 40 (.bool false) fun a H => ?_
  iterate 5 refine H.sx rfl fun a H => ?_
  refine H.v 46 (.bool false) fun a H => H.v 47 (.bool false) fun a H => ?_
  iterate 5 refine H.sx rfl fun a H => ?_
  refine H.v 53 (.bool false) fun a H => H.v 54 (.bool false) fun a H => ?_
  iterate 7 refine H.sx rfl fun a H => ?_
  refine H.v 62 (.bool false) fun a H => H.v 63 (.bool false) fun a H => ?_
  iterate 5 refine H.sx rfl fun a H => ?_
  refine H.v 69 (.bool false) fun a H => H.v 70 (.bool false) fun a H => ?_
  iterate 5 refine H.sx rfl fun a H => ?_
  refine H.v 76 (.bool false) fun a H => H.v 77 (.bool false) fun a H => ?_
  iterate 5 refine H.sx rfl fun a H => ?_
  refine H.v 83 (.bool false) fun a H => H.v 84 (.bool false) fun a H => ?_
  iterate 5 refine H.sx rfl fun a H => ?_
  refine H.v 90 (.bool false) fun a H => H.v 4 (.bool false) fun a H => ?_
  refine nl (tn (rt ?_))
  refine H.r1 (.bool false) Tryz.results16 ?_
  exact ⟨by rw [show decide (p.nv = q.nv) = (false) from by rw [pln_eqb]; simp only [g10, g17, Bool.true_and, Bool.and_true, Bool.false_and, Bool.and_false]], HP.bl⟩
 have g10p := ne_of_beq_false g10
 iterate 5 refine H.sx rfl fun a H => ?_
 refine H.v 16 (.bool false) fun a H => H.v 17 (.bool false) fun a H => ?_
 iterate 7 refine H.sx rfl fun a H => ?_
 refine H.v 25 (.bool false) fun a H => H.v 26 (.bool false) fun a H => ?_
 iterate 5 refine H.sx rfl fun a H => ?_
 refine H.v 32 (.bool false) fun a H => H.v 33 (.bool false) fun a H => ?_
 iterate 5 refine H.sx rfl fun a H => ?_
 refine H.v 39 (.bool false) fun a H => H.v 40 (.bool false) fun a H => ?_
 iterate 5 refine H.sx rfl fun a H => ?_
 refine H.v 46 (.bool false) fun a H => H.v 47 (.bool false) fun a H => ?_
 iterate 5 refine H.sx rfl fun a H => ?_
 refine H.v 53 (.bool false) fun a H => H.v 54 (.bool false) fun a H => ?_
 iterate 7 refine H.sx rfl fun a H => ?_
 refine H.v 62 (.bool false) fun a H => H.v 63 (.bool false) fun a H => ?_
 iterate 5 refine H.sx rfl fun a H => ?_
 refine H.v 69 (.bool false) fun a H => H.v 70 (.bool false) fun a H => ?_
 iterate 5 refine H.sx rfl fun a H => ?_
 refine H.v 76 (.bool false) fun a H => H.v 77 (.bool false) fun a H => ?_
 iterate 5 refine H.sx rfl fun a H => ?_
 refine H.v 83 (.bool false) fun a H => H.v 84 (.bool false) fun a H => ?_
 iterate 5 refine H.sx rfl fun a H => ?_
 refine H.v 90 (.bool false) fun a H => H.v 4 (.bool false) fun a H => ?_
 refine nl (tn (rt ?_))
 refine H.r1 (.bool false) Tryz.results16 ?_
 exact ⟨by rw [show decide (p.nv = q.nv) = (false) from by rw [pln_eqb]; simp only [g10, Bool.true_and, Bool.and_true, Bool.false_and, Bool.and_false]], HP.bl⟩
end Go.Proofs.YteeillphhiaopaaGreatDoor
