/- Steps: a row of one-cell elements of the call's own: append of a slice, of a string. -/
import Derived.Test.YtgdjpaeclicdfaaDoorSymG
import Derived.Test.YtgdjpaeclicdfaaDoorSymC
namespace Go.Proofs.YtgdjpaeclicdfaaDoor
open Go.ChangeShapes Go.WideShapes Go.ChangeAt Go.RowKit Go.Shelf
set_option linter.unusedVariables false
set_option linter.unusedSimpArgs false

def ownR (base : Nat) (e : TypeId) (v : Value) (xs : List Value) : HB := ⟨fun k => v.ownBlock = some k, fun w => w.ownsRow base e 1 v xs.length xs, true⟩
theorem ownR_ok (base : Nat) (e : TypeId) (v : Value) (xs : List Value) : (ownR base e v xs).ok := fun w1 w2 h hk _ => own_keep h fun k hv => hk k hv
theorem Hp.nilR {w0 w : World} {L : List HB} {K : List FK} (H : Hp w0 w L K) (e : TypeId) : Hp w0 w (ownR w0.heap.size e (.slice none 0 0) [] :: L) K :=
  H.add _ (World.ownsRow_nil _ _ _ _) (ownR_ok _ _ _ _) (fun k (hk : none = some k) => by cases hk) (fun k (hk : none = some k) => by cases hk) (fun _ k (hk : none = some k) => by cases hk)
/-- A block that was just laid, as a row. -/
theorem Hp.rowOf {w0 w : World} {L : List HB} {K : List FK} (H : Hp w0 w L K) (i : Nat) {b n : Nat} {e : TypeId} {vs : List Value} (hi : L[i]? = some (bx b e vs true)) (hn : vs.length = n) (hm : n ≤ maxLen) (L' : List HB) (hL : L.set i (ownR w0.heap.size e (.slice (some ⟨b, 0, none⟩) n n) vs) = L') : Hp w0 w L' K := by
  have hb := H.at_ i hi
  have hf := H.fresh _ (List.mem_of_getElem? hi) rfl b rfl
  subst hn
  have hown : w.ownsRow w0.heap.size e 1 (.slice (some ⟨b, 0, none⟩) vs.length vs.length) vs.length vs := ⟨by simp, .inr ⟨b, vs.length, vs.toArray, rfl, hf, hb, Nat.le_refl _, hm, by simp, by simp⟩⟩
  exact H.mut i hi _ L' hL ⟨rfl, rfl, rfl, Nat.le_refl _, fun _ _ _ => rfl⟩ hown (ownR_ok _ _ _ _) (fun k hk => by cases hk; exact hb.lt) (fun k hk => by cases hk; exact .inl rfl) (fun k hk hx => by have : k = b := hx; omega) rfl
theorem ownR_rd {w : World} {base e n c : Nat} {B : Option Addr} {xs : List Value} (h : (ownR base e (.slice B n c) xs).F w) : Rd w 1 B xs.length xs := by
  have hn : n = xs.length := by
    rcases h.2 with ⟨h2, h3⟩ | ⟨g, cap, cur, hv, _⟩
    · cases h2; exact h3.symm
    · cases hv; rfl
  subst hn
  exact Rd.of_own h
theorem ownR_facts {w : World} {base e n c : Nat} {B : Option Addr} {xs : List Value} (h : (ownR base e (.slice B n c) xs).F w) : n = xs.length ∧ n ≤ c ∧ c ≤ maxLen ∧ (B = none → c = 0) := by
  have hn : n = xs.length := by
    rcases h.2 with ⟨h2, h3⟩ | ⟨g, cap, cur, hv, _⟩
    · cases h2; exact h3.symm
    · cases hv; rfl
  subst hn
  exact ⟨rfl, own_facts h⟩
theorem placed_mem {L : List HB} {x : HB} : ∀ {is : List Nat}, x ∈ placed L is → ∃ i ∈ is, L[i]? = some x
  | [], h => by cases h
  | i :: is, h => by
    simp only [placed] at h
    split at h
    · rename_i y hy
      rcases List.mem_cons.1 h with rfl | h
      · exact ⟨i, List.mem_cons_self .., hy⟩
      · obtain ⟨j, hj, e⟩ := placed_mem h; exact ⟨j, List.mem_cons_of_mem _ hj, e⟩
    · obtain ⟨j, hj, e⟩ := placed_mem h; exact ⟨j, List.mem_cons_of_mem _ hj, e⟩
def distinct : List Nat → Bool
  | [] => true
  | i :: is => !is.contains i && distinct is
/-- Some of the things that are held, in an order of their own; all are new. -/
theorem Hp.sub {w0 w : World} {L : List HB} {K : List FK} (H : Hp w0 w L K) (is : List Nat) (L' : List HB) (hL : placed L is = L') (hd : (distinct is && L.all fun x => x.fresh) = true) : Hp w0 w L' K := by
  subst hL
  simp only [Bool.and_eq_true] at hd
  have hmem : ∀ x ∈ placed L is, x ∈ L := fun x hx => let ⟨_, _, e⟩ := placed_mem hx; List.mem_of_getElem? e
  refine ⟨H.os, H.tape, H.output, H.size, fun k hk _ => H.old k hk fun x hx h => ?_, fun x hx => H.res x (hmem x hx), ?_, fun x hx => H.fresh x (hmem x hx), fun p hp => let ⟨h1, h2, h3⟩ := H.kept p hp; ⟨h1, h2, fun k hk => ⟨(h3 k hk).1, fun x hx => (h3 k hk).2 x (hmem x hx)⟩⟩⟩
  · have := H.fresh x hx (List.all_eq_true.1 hd.2 x hx) k h
    omega
  · have hd1 := hd.1
    clear hd hmem
    induction is with
    | nil => exact .nil
    | cons i is ih =>
      simp only [distinct, Bool.and_eq_true, Bool.not_eq_true', List.contains_eq_mem, decide_eq_false_iff_not] at hd1
      simp only [placed]
      split
      · rename_i x hx
        refine .cons (fun y hy => ?_) (ih hd1.2)
        obtain ⟨j, hj, e⟩ := placed_mem hy
        exact pairwise_at H.apart hx e fun h => hd1.1 (h ▸ hj)
      · exact ih hd1.2
section
variable {P : Program} {ops : Array Oper} {Q : Exit → Act → World → Prop} {a : Act} {w0 w : World} {rest : List Oper} {n : Nat} {L : List (Nat × Value)} {LH : List HB} {K : List FK} {ty : TypeId} {pos : String} {af : Array Edge} {g : Option (Nat × Bool)} {s x : Operand} {t : TypeId}
theorem wp_appR {KK : Act → World → Prop} {o : Oper} (H : Sl n L a) (HP : Hp w0 w LH K) (d ir : Nat) {v : Value} {xs : List Value} (e : TypeId) {z : Value} {bytes : Nat} (A : Option Addr) (m c : Nat) (news : List Value)
    (ho : o.op = .call { callee := .builtin .append, args := #[s, x], argTypes := #[t, t] }) (hc : chk ops n L o d = true) (ht : P.underlying t = some (.slice e)) (hinf : infoB P e = some (some z, 1, bytes)) (hzs : z.cells.size = 1)
    (hs : ev L s = v) (hi : LH[ir]? = some (ownR w0.heap.size e v xs)) (hx : ev L x = .slice A m c) (hA : A = none → m = 0 ∧ c = 0) (hr : Rd w 1 A m news) (h1 : oneCells news = true)
    (h63 : xs.length + m ≤ maxLen) (hbytes : (xs.length + m) * bytes ≤ 140737488355328)
    (k : ∀ B c' w' a', Sl n ((d, .slice B (xs.length + m) c') :: L) a' → Hp w0 w' (LH.set ir (ownR w0.heap.size e (.slice B (xs.length + m) c') (xs ++ news))) K → KK a' w') : o.wp P a w KK Q := by
  obtain ⟨hd, hn, hk, hs', hw⟩ := chk_spec hc
  have k1 := knowsAll_spec hk s (by rw [ho]; simp [Op.operands, Call.operands])
  have k2 := knowsAll_spec hk x (by rw [ho]; simp [Op.operands, Call.operands])
  obtain ⟨i, hi0, hi1, hi2, hi3⟩ := infoB_spec hinf
  have hF := HP.held ir hi
  have hnew : news.length = m := by have := hr.1; simpa using this
  refine wp_append_rd w s x t ho w0.heap.size e i z 1 bytes ht hi0 hi1 hi2 hi3 hzs (by omega) v xs.length xs ((H.eval k1).trans hs) hF A m c news ((H.eval k2).trans hx) hA hr (oneCells_spec h1) h63 hbytes HP.size ?_
  intro B c' w' hown hg hat
  rw [hd]
  refine k B c' w' _ (H.put _ hn) (HP.mut ir hi _ _ rfl (Agree.of_grown hg fun q e => e) ?_ (ownR_ok _ _ _ _) (fun q hq => (own_lt hown q hq).1) (fun q hq => ?_) (fun q hq hq' => ?_) rfl)
  · show World.ownsRow _ _ _ _ _ _ _
    rw [List.length_append, hnew]
    exact hown
  · rcases hat with hat | hat
    · left; show v.ownBlock = some q; rw [← hat]; exact hq
    · right
      have : (Value.slice B (xs.length + m) c').ownBlock = some q := hq
      rw [hat] at this; cases this; exact Nat.le_refl _
  · have := HP.fresh _ (List.mem_of_getElem? hi) rfl q hq'
    omega
theorem Sl.appR (H : Sl n L a) (HP : Hp w0 w LH K) (d ir : Nat) {v : Value} {xs : List Value} (e : TypeId) {z : Value} {bytes : Nat} (A : Option Addr) (m c : Nat) (news : List Value)
    (hc : chk ops n L ⟨some d, .call { callee := .builtin .append, args := #[s, x], argTypes := #[t, t] }, ty, pos, af, g⟩ d = true) (ht : P.underlying t = some (.slice e)) (hinf : infoB P e = some (some z, 1, bytes)) (hzs : z.cells.size = 1)
    (hs : ev L s = v) (hi : LH[ir]? = some (ownR w0.heap.size e v xs)) (hx : ev L x = .slice A m c) (hA : A = none → m = 0 ∧ c = 0) (hr : Rd w 1 A m news) (h1 : oneCells news = true)
    (h63 : xs.length + m ≤ maxLen) (hbytes : (xs.length + m) * bytes ≤ 140737488355328)
    (k : ∀ B c' w' a', Sl n ((d, .slice B (xs.length + m) c') :: L) a' → Hp w0 w' (LH.set ir (ownR w0.heap.size e (.slice B (xs.length + m) c') (xs ++ news))) K → wpList P ops Q rest a' w') :
    wpList P ops Q (⟨some d, .call { callee := .builtin .append, args := #[s, x], argTypes := #[t, t] }, ty, pos, af, g⟩ :: rest) a w := by
  obtain ⟨_, _, _, _, hw⟩ := chk_spec hc
  exact wpList_wanted (H.wanted hw) (wp_appR H HP d ir e A m c news rfl hc ht hinf hzs hs hi hx hA hr h1 h63 hbytes k)
theorem Op.appR {KK : Act → World → Prop} {i : Nat} (H : Sl n L a) (HP : Hp w0 w LH K) (d ir : Nat) {v : Value} {xs : List Value} (e : TypeId) {z : Value} {bytes : Nat} (A : Option Addr) (m c : Nat) (news : List Value)
    (hop : ops[i]? = some ⟨some d, .call { callee := .builtin .append, args := #[s, x], argTypes := #[t, t] }, ty, pos, af, g⟩)
    (hc : chk ops n L ⟨some d, .call { callee := .builtin .append, args := #[s, x], argTypes := #[t, t] }, ty, pos, af, g⟩ d = true) (ht : P.underlying t = some (.slice e)) (hinf : infoB P e = some (some z, 1, bytes)) (hzs : z.cells.size = 1)
    (hs : ev L s = v) (hi : LH[ir]? = some (ownR w0.heap.size e v xs)) (hx : ev L x = .slice A m c) (hA : A = none → m = 0 ∧ c = 0) (hr : Rd w 1 A m news) (h1 : oneCells news = true)
    (h63 : xs.length + m ≤ maxLen) (hbytes : (xs.length + m) * bytes ≤ 140737488355328)
    (k : ∀ B c' w' a', Sl n ((d, .slice B (xs.length + m) c') :: L) a' → Hp w0 w' (LH.set ir (ownR w0.heap.size e (.slice B (xs.length + m) c') (xs ++ news))) K → KK a' w') : wpOp P ops Q i KK a w := by
  obtain ⟨_, _, _, _, hw⟩ := chk_spec hc
  exact wpOp_wanted hop (H.wanted hw) (wp_appR H HP d ir e A m c news rfl hc ht hinf hzs hs hi hx hA hr h1 h63 hbytes k)
/-- append(row, string ..) -/
theorem run_append_strR (base : Nat) (t u ty e : TypeId) (i : TypeInfo) (ht : P.underlying t = some (.slice e)) (hu : P.underlying u = some .string) (hi : P.info? e = some i) (hz : i.zero = some (.int .u8 0))
    (hsize : i.size = 1) (hby : i.bytes = 1)
    (v : Value) (n : Nat) (xs : List Value) (hown : w.ownsRow base e 1 v n xs) (s : ByteArray)
    (h63 : n + s.size ≤ maxLen) (hbytes : n + s.size ≤ 140737488355328) (hbase : base ≤ w.heap.size) (hne : v ≠ .slice none 0 0) :
    ∃ B c w', (Builtin.append_ #[t, u] ty #[v, .string s]).run P w = .ok (.slice B (n + s.size) c) w' ∧ w'.ownsRow base e 1 (.slice B (n + s.size) c) (n + s.size) (xs ++ Lib.strCells s) ∧ w.grownBy w' v.ownBlock ∧ ∀ k, (Value.slice B (n + s.size) c).ownBlock = some k → v.ownBlock = some k ∨ w.heap.size ≤ k := by
  rcases hown.2 with ⟨rfl, rfl⟩ | ⟨g, cap, cur, rfl, hbg, hg, hnc, hcm, hcs, htake⟩
  · exact absurd rfl hne
  · have hsmall : n + s.size ≤ 9223372036854775807 := by simp only [maxLen] at h63; omega
    have hxl : xs.length = n := by simpa using hown.1
    have hlen : (xs ++ Lib.strCells s).length = (n + s.size) * 1 := by rw [List.length_append, hxl, Lib.strCells_length, Nat.mul_one]
    by_cases hroom : n + s.size ≤ cap
    · have hcs' : cur.size = cap := by simpa using hcs
      have hr := Lib.run_append_room_stringF (P := P) w t u ty e i ht hu hi hsize g n cap cur (0, 0) hg (Nat.zero_le _) s hroom (by omega)
      refine ⟨_, _, _, hr, ⟨hlen, .inr ⟨g, cap, _, rfl, hbg, setRow_heap w g cur _ e _ hg, hroom, hcm, ?_, ?_⟩⟩, ⟨rfl, rfl, rfl, by simp, fun k _ hk => setRow_other w g k _ (fun e => hk (by simp [Value.ownBlock, e]))⟩, fun k hk => .inl hk⟩
      · simp only [List.size_toArray, List.length_append, List.length_take, List.length_drop, Array.length_toList, Lib.strCells_length]
        omega
      · have ht' : cur.toList.take n = xs := by simpa using htake
        rw [ht', ← hlen]
        exact List.take_left
    · have holds : ∀ j u, xs[j]? = some u → w.cell? ((⟨g, 0, none⟩ : Addr).add j) = some u := hown.cells (g := g) rfl
      have hr := Lib.run_append_grow_string (P := P) w t u ty e i (.int .u8 0) ht hu hi hz ⟨g, 0, none⟩ n cap xs (by rw [hsize]; simpa using hxl) holds s (by omega) (by omega) (by rw [hby]; exact growslice_fits (by omega) (by omega))
      have hge := grownCap_ge w (n + s.size) cap e
      have hcm2 : grownCap w (n + s.size) cap e ≤ maxLen := grownCap_le_maxLen w (n + s.size) cap e h63
      refine ⟨_, _, _, hr, ⟨hlen, .inr ⟨w.heap.size, _, _, rfl, hbase, heap_alloc_new w.drew _, hge, hcm2, ?_, ?_⟩⟩, ⟨rfl, rfl, rfl, by simp, fun k hk _ => heap_alloc_old w.drew _ hk⟩, fun k hk => .inr (by cases hk; exact Nat.le_refl _)⟩
      · have hz1 : (Value.int IntKind.u8 0).cells.size = 1 := rfl
        simp only [Array.size_append, List.size_toArray, size_zeroCells, hz1, hxl, Lib.strCells_length]
        omega
      · simp only [Array.toList_append, List.append_assoc]
        rw [← List.append_assoc, ← hlen]
        exact List.take_left
theorem Sl.appS {u : TypeId} (H : Sl n L a) (HP : Hp w0 w LH K) (d ir : Nat) {B : Option Addr} {N c : Nat} {xs : List Value} (e : TypeId) (str : List UInt8)
    (hc : chk ops n L ⟨some d, .call { callee := .builtin .append, args := #[s, x], argTypes := #[t, u] }, ty, pos, af, g⟩ d = true) (ht : P.underlying t = some (.slice e)) (hu : P.underlying u = some .string) (hinf : infoB P e = some (some (.int .u8 0), 1, 1))
    (hs : ev L s = .slice B N c) (hi : LH[ir]? = some (ownR w0.heap.size e (.slice B N c) xs)) (hx : ev L x = .string (bstr str)) (hne : 1 ≤ xs.length)
    (h63 : xs.length + str.length ≤ 140737488355328)
    (k : ∀ B c' w' a', Sl n ((d, .slice B (xs.length + str.length) c') :: L) a' → Hp w0 w' (LH.set ir (ownR w0.heap.size e (.slice B (xs.length + str.length) c') (xs ++ Lib.byteCells str))) K → wpList P ops Q rest a' w') :
    wpList P ops Q (⟨some d, .call { callee := .builtin .append, args := #[s, x], argTypes := #[t, u] }, ty, pos, af, g⟩ :: rest) a w := by
  obtain ⟨hd, hn, hk, hs', hw⟩ := chk_spec hc
  have k1 := knowsAll_spec hk s (by simp [Op.operands, Call.operands])
  have k2 := knowsAll_spec hk x (by simp [Op.operands, Call.operands])
  obtain ⟨i, hi0, hi1, hi2, hi3⟩ := infoB_spec hinf
  have hF := HP.held ir hi
  have hfa := ownR_facts hF
  have hvn : (Value.slice B N c) ≠ .slice none 0 0 := fun he => by cases he; omega
  obtain ⟨B', c', w', hr, hown, hg, hat⟩ := run_append_strR (P := P) (w := w) w0.heap.size t u ty e i ht hu hi0 hi1 hi2 hi3 (.slice B N c) xs.length xs hF (bstr str) (by rw [bstr_size]; unfold maxLen; omega) (by rw [bstr_size]; exact h63) HP.size hvn
  rw [bstr_size, strCells_bstr] at hown
  rw [bstr_size] at hr hat
  refine wpList_wanted (H.wanted hw) ?_
  unfold Oper.wp
  rw [H.exec hk hs']
  simp only [execOp, resolve, invoke, builtin, Sem.run_bind, Sem.run_pure, Result.andThen_ok, List.map_toArray, List.map_cons, List.map_nil, hs, hx, hr]
  rw [Oper.upon_value, hd]
  refine k B' c' w' _ (H.put _ hn) (HP.mut ir hi _ _ rfl (Agree.of_grown hg fun q e => e) ?_ (ownR_ok _ _ _ _) (fun q hq => (own_lt hown q hq).1) (fun q hq => hat q hq) (fun q hq hq' => by have := HP.fresh _ (List.mem_of_getElem? hi) rfl q hq'; omega) rfl)
  show World.ownsRow _ _ _ _ _ _ _
  rw [List.length_append, byteCells_len]
  exact hown
end
end Go.Proofs.YtgdjpaeclicdfaaDoor
