/- The statement streamJoin.proved: for every input the law returns true and leaves its arguments as they were. No condition. -/
import Derived.Test.YtcifcipjndiegaaDoorCards
import Derived.Test.YtcifcipjndiegaaDoorTie
import Derived.WalkKit
import Derived.ProofKit
import Derived.OpenShut
import Derived.ShutString
import Derived.ChangeOld
import Derived.Below
import Derived.SizedLaws
import Derived.SevenTiedAt
import Derived.Test.YtcifcipjndiegaaDoorZge
namespace Go.Proofs.YtcifcipjndiegaaDoor
open Go.ChangeShapes Go.WideShapes Go.ChangeAt Go.RowKit
set_option linter.unusedVariables false
section
variable {α : Type} {cs : α → Array Value} {size : Nat} {e : TypeId}
theorem Hp.rowNew {w0 w : World} {L : List HB} {K : List FK} (H : Hp w0 w L K) (i : Nat) {bb : Nat} (hi : L[i]? = some (bx bb e [] true)) (L' : List HB) (hL : L.set i (rowsR w0.heap.size e size cs okT feF (.slice (some ⟨bb, 0, none⟩) 0 0) []) = L') : Hp w0 w L' K := by
  have hbb := H.fresh _ (List.mem_of_getElem? hi) rfl bb rfl
  have hlt := (H.at_ i hi).lt
  refine H.mut i hi _ L' hL (Agree.of_below (Below.refl _ _)) ⟨own_none0 (H.at_ i hi) hbb, fun a ha => by cases ha⟩ (rowsR_ok elOk_flat) (fun q hq => ?_) (fun q hq => ?_) (fun q hq hq' => ?_) rfl
  · rcases hq with hq | ⟨_, ha, _⟩
    · cases hq; exact hlt
    · cases ha
  · rcases hq with hq | ⟨_, ha, _⟩
    · cases hq; exact .inl rfl
    · cases ha
  · have := H.fresh _ (List.mem_of_getElem? hi) rfl q hq'
    omega
end
section
variable {α : Type} {cs : α → Array Value} {size : Nat} {P : Program} {ops : Array Oper} {Q : Exit → Act → World → Prop} {a : Act} {w0 w : World} {rest : List Oper} {n : Nat} {L : List (Nat × Value)} {LH : List HB} {K : List FK} {ty : TypeId} {pos : String} {af : Array Edge} {g : Option (Nat × Bool)} {s x : Operand} {t : TypeId}
theorem wp_appX {KK : Act → World → Prop} {o : Oper} (H : Sl n L a) (HP : Hp w0 w LH K) (d ir : Nat) {v : Value} {l : List α} (e : TypeId) {z : Value} {bytes : Nat} (A : Option Addr) (m c : Nat) (l2 : List α)
    (ho : o.op = .call { callee := .builtin .append, args := #[s, x], argTypes := #[t, t] }) (hc : chk ops n L o d = true) (ht : P.underlying t = some (.slice e)) (hinf : infoB P e = some (some z, size, bytes)) (hzs : z.cells.size = size) (hsz : Nat.blt 0 size = true)
    (hs : ev L s = v) (hi : LH[ir]? = some (rowsR w0.heap.size e size cs okT feF v l)) (hx : ev L x = .slice A m c) (hA : A = none → m = 0 ∧ c = 0) (hr : Rd w size A m (flat cs l2)) (h1 : ∀ u ∈ flat cs l2, u.oneCell' = true)
    (hl2 : l2.length = m) (h63 : l.length + m ≤ maxLen) (hbytes : (l.length + m) * bytes ≤ 140737488355328)
    (k : ∀ B c' w' a', Sl n ((d, .slice B (l.length + m) c') :: L) a' → Hp w0 w' (LH.set ir (rowsR w0.heap.size e size cs okT feF (.slice B (l.length + m) c') (l ++ l2))) K → KK a' w') : o.wp P a w KK Q := by
  obtain ⟨hd, hn, hk, hs', hw⟩ := chk_spec hc
  have k1 := knowsAll_spec hk s (by rw [ho]; simp [Op.operands, Call.operands])
  have k2 := knowsAll_spec hk x (by rw [ho]; simp [Op.operands, Call.operands])
  obtain ⟨i, hi0, hi1, hi2, hi3⟩ := infoB_spec hinf
  have hF := HP.held ir hi
  refine wp_append_rd w s x t ho w0.heap.size e i z size bytes ht hi0 hi1 hi2 hi3 hzs (by simp [Nat.blt] at hsz; omega) v l.length (flat cs l) ((H.eval k1).trans hs) hF.1 A m c (flat cs l2) ((H.eval k2).trans hx) hA hr h1 h63 hbytes HP.size ?_
  intro B c' w' hown hg hat
  rw [hd]
  refine k B c' w' _ (H.put _ hn) (HP.mut ir hi _ _ rfl (Agree.of_grown hg fun q e => .inl e) ⟨?_, fun a ha => ⟨trivial, fun q hq => hq.elim⟩⟩ (rowsR_ok elOk_flat) (fun q hq => ?_) (fun q hq => ?_) (fun q hq hq' => ?_) rfl)
  · rw [List.length_append, hl2, show flat cs (l ++ l2) = flat cs l ++ flat cs l2 from List.flatMap_append]
    exact hown
  · rcases hq with hq | ⟨_, _, hq⟩
    · exact (own_lt hown q hq).1
    · exact hq.elim
  · rcases hq with hq | ⟨_, _, hq⟩
    · rcases hat with hat | hat
      · left; left; rw [← hat]; exact hq
      · right; rw [hat] at hq; cases hq; exact Nat.le_refl _
    · exact hq.elim
  · have := HP.fresh _ (List.mem_of_getElem? hi) rfl q hq'
    omega
theorem Sl.appX (H : Sl n L a) (HP : Hp w0 w LH K) (d ir : Nat) {v : Value} {l : List α} (e : TypeId) {z : Value} {bytes : Nat} (A : Option Addr) (m c : Nat) (l2 : List α)
    (hc : chk ops n L ⟨some d, .call { callee := .builtin .append, args := #[s, x], argTypes := #[t, t] }, ty, pos, af, g⟩ d = true) (ht : P.underlying t = some (.slice e)) (hinf : infoB P e = some (some z, size, bytes)) (hzs : z.cells.size = size) (hsz : Nat.blt 0 size = true)
    (hs : ev L s = v) (hi : LH[ir]? = some (rowsR w0.heap.size e size cs okT feF v l)) (hx : ev L x = .slice A m c) (hA : A = none → m = 0 ∧ c = 0) (hr : Rd w size A m (flat cs l2)) (h1 : ∀ u ∈ flat cs l2, u.oneCell' = true)
    (hl2 : l2.length = m) (h63 : l.length + m ≤ maxLen) (hbytes : (l.length + m) * bytes ≤ 140737488355328)
    (k : ∀ B c' w' a', Sl n ((d, .slice B (l.length + m) c') :: L) a' → Hp w0 w' (LH.set ir (rowsR w0.heap.size e size cs okT feF (.slice B (l.length + m) c') (l ++ l2))) K → wpList P ops Q rest a' w') :
    wpList P ops Q (⟨some d, .call { callee := .builtin .append, args := #[s, x], argTypes := #[t, t] }, ty, pos, af, g⟩ :: rest) a w := by
  obtain ⟨_, _, _, _, hw⟩ := chk_spec hc
  exact wpList_wanted (H.wanted hw) (wp_appX H HP d ir e A m c l2 rfl hc ht hinf hzs hsz hs hi hx hA hr h1 hl2 h63 hbytes k)
theorem Op.appX {KK : Act → World → Prop} {i : Nat} (H : Sl n L a) (HP : Hp w0 w LH K) (d ir : Nat) {v : Value} {l : List α} (e : TypeId) {z : Value} {bytes : Nat} (A : Option Addr) (m c : Nat) (l2 : List α)
    (hop : ops[i]? = some ⟨some d, .call { callee := .builtin .append, args := #[s, x], argTypes := #[t, t] }, ty, pos, af, g⟩)
    (hc : chk ops n L ⟨some d, .call { callee := .builtin .append, args := #[s, x], argTypes := #[t, t] }, ty, pos, af, g⟩ d = true) (ht : P.underlying t = some (.slice e)) (hinf : infoB P e = some (some z, size, bytes)) (hzs : z.cells.size = size) (hsz : Nat.blt 0 size = true)
    (hs : ev L s = v) (hi : LH[ir]? = some (rowsR w0.heap.size e size cs okT feF v l)) (hx : ev L x = .slice A m c) (hA : A = none → m = 0 ∧ c = 0) (hr : Rd w size A m (flat cs l2)) (h1 : ∀ u ∈ flat cs l2, u.oneCell' = true)
    (hl2 : l2.length = m) (h63 : l.length + m ≤ maxLen) (hbytes : (l.length + m) * bytes ≤ 140737488355328)
    (k : ∀ B c' w' a', Sl n ((d, .slice B (l.length + m) c') :: L) a' → Hp w0 w' (LH.set ir (rowsR w0.heap.size e size cs okT feF (.slice B (l.length + m) c') (l ++ l2))) K → KK a' w') : wpOp P ops Q i KK a w := by
  obtain ⟨_, _, _, _, hw⟩ := chk_spec hc
  exact wpOp_wanted hop (H.wanted hw) (wp_appX H HP d ir e A m c l2 rfl hc ht hinf hzs hsz hs hi hx hA hr h1 hl2 h63 hbytes k)
end
theorem flat_cell {α : Type} {cs : α → Array Value} {size : Nat} (hk : ∀ x, (cs x).size = size) {l : List α} {j : Nat} {x : α} (h : l[j]? = some x) {f : Nat} (hf : f < size) : (flat cs l)[j * size + f]? = (cs x).toList[f]? := by
  obtain ⟨hj, rfl⟩ := List.getElem?_eq_some_iff.1 h
  rw [flat_get hk l j f hj hf, Array.getElem?_toList]
theorem Hp.elem {α : Type} {cs : α → Array Value} {size : Nat} (hk : ∀ x, (cs x).size = size) {w0 w : World} {L : List HB} {K : List FK} (H : Hp w0 w L K) (i : Nat) {g : Nat} {e : TypeId} {l : List α} {tail : List Value} (hi : L[i]? = some (bx g e (flat cs l ++ tail) true)) {j : Nat} {x : α} (hj : l[j]? = some x) : cellsAt w g (j * size) (cs x).toList := by
  intro f v hv
  have hf : f < size := by
    have := (List.getElem?_eq_some_iff.1 hv).1
    rwa [Array.length_toList, hk] at this
  have hjl := (List.getElem?_eq_some_iff.1 hj).1
  have hm : j * size + size ≤ l.length * size := by rw [← Nat.succ_mul]; exact Nat.mul_le_mul_right _ hjl
  exact H.cell i hi (j * size + f) (by rw [List.getElem?_append_left (by rw [flat_len hk]; omega), flat_cell hk hj hf]; exact hv)
open Go.Shelf
set_option linter.unusedSimpArgs false
def jAll (x : List Quad) (text : Int) : List Cue := makeP x ++ [topC text]
def jE0 (x : List Quad) (text : Int) (i : Nat) : Dec := decRun (fun k => codeP (jAll x text) 0 ((k : Nat) : Int)) ⟨[], []⟩ i
def jD (x : List Quad) (text : Int) (fN j : Nat) : Dec := decRun (fun k => codeP (jAll x text) 0 (((fN : Nat) : Int) + ((k : Nat) : Int))) ⟨[], []⟩ j
def jE (x : List Quad) (text : Int) (fN j : Nat) : Dec := decRun (fun k => codeP [] 0 (((fN : Nat) : Int) + ((k : Nat) : Int))) (jE0 x text fN) (min j 128)
theorem jE0_okk (x text i) : (jE0 x text i).okk := decRun_okk dec0_okk _
theorem jD_okk (x text fN j) : (jD x text fN j).okk := decRun_okk dec0_okk _
theorem jE_okk (x text fN j) : (jE x text fN j).okk := decRun_okk (jE0_okk _ _ _) _
theorem jE_yes {x : List Quad} {text : Int} {fN j : Nat} (h : j < 128) : feedP (codeP [] 0 (((fN : Nat) : Int) + ((j : Nat) : Int))) (jE x text fN j) = jE x text fN (j + 1) := by
 unfold jE; rw [show min (j + 1) 128 = min j 128 + 1 by omega, decRun, Nat.min_eq_left (by omega)]
theorem jE_no {x : List Quad} {text : Int} {fN j : Nat} (h : 128 ≤ j) : jE x text fN j = jE x text fN (j + 1) := by
 unfold jE; rw [Nat.min_eq_right h, Nat.min_eq_right (by omega)]
theorem jE_rows {x : List Quad} {text : Int} {fN : Nat} : (jE x text fN 224).rows = [] := join_nothing
theorem jAll_len (x text) : (jAll x text).length ≤ maxLen := by
 have := make_len8 x; unfold jAll; rw [List.length_append]; simp only [List.length_cons, List.length_nil]; unfold maxLen; omega
theorem top_tx (text : Int) : (topC text).text.length ≤ 1000000 := by
 have := cueP_text 0 (0, 0, 0, text)
 show (texts6.getD (pickP text 6).toNat []).length ≤ _
 simp only [cueP] at this
 omega
theorem jAll_tx {x : List Quad} {text : Int} : ∀ c ∈ jAll x text, c.text.length ≤ 1000000 := fun c h => by
 unfold jAll at h
 rcases List.mem_append.1 h with h | h
 ·exact make_text c h
 ·rcases List.mem_singleton.1 h with rfl; exact top_tx text
theorem jD_rows (x : List Quad) (text : Int) (fN : Nat) (h : fN < 150) : layP (topC text).text = some (jD x text fN 224).rows := by
 obtain ⟨b, hb⟩ : ∃ b, blockP (topC text) = some b := by
  obtain ⟨b, hb⟩ := top_want (x := x) (text := text) (f := 0) (by omega) (by omega)
  exact ⟨b, (wantP_some hb).2⟩
 refine join_shows (b := b) fun k h1 h2 => ?_
 obtain ⟨b', hb'⟩ := top_want (x := x) (text := text) (f := ((k : Nat) : Int)) (by omega) (by omega)
 have e := (wantP_some hb').2
 rw [hb] at e
 cases e
 exact hb'
theorem topQ_eq (text : Int) : makeP [(0, 0, 0, text)] = [(⟨1, 0, 1, 0, (topC text).text⟩ : Cue)] := rfl
theorem quad_in {text : Int} (h : in64 text) : ∀ q ∈ [((0, 0, 0, text) : Quad)], qIn q := fun q hq => by
 rcases List.mem_singleton.1 hq with rfl
 have h0 : in64 0 := by unfold in64; omega
 exact ⟨h0, h0, h0, h⟩
theorem IsRow.quad1 {w : World} {b t : Nat} {q : Quad} (h : Box w b t #[.int .i64 q.1, .int .i64 q.2.1, .int .i64 q.2.2.1, .int .i64 q.2.2.2]) : IsRow 4 quC w (some ⟨b, 0, none⟩) [q] := Rd.of_boxN h rfl
theorem crowsS_any (t : Str) {rows : List Str} (w : World) (h : layP t = some rows) (hl : t.length ≤ 1000000) : Calls Tryd.prog 24 #[.string (bstr t)] w fun e w' => ∃ A c, e = .returned (.tuple #[.slice A rows.length c, .bool true]) ∧ Below w.heap.size w w' ∧ (rowsR w.heap.size 9 1 strC okT feF (.slice A rows.length c) rows).F w' :=
 (crows_any t w hl).mono fun e w' hp => by
  rcases hp with ⟨rows', A, c, h1, rfl, hb, hF⟩ | ⟨h1, _⟩
  ·rw [h] at h1; cases h1; exact ⟨A, c, rfl, hb, hF⟩
  ·rw [h] at h1; cases h1
theorem own_nil {w : World} {base c n : Nat} {e : TypeId} {A : Option Addr} {l : List Cue} (h : (rowsR base e 5 cuC okT feF (.slice A n c) l).F w) : A = none → n = 0 ∧ c = 0 := fun hA => by
 rcases h.1.2 with ⟨h2, _⟩ | ⟨g, _, _, h2, _⟩
 ·cases h2; exact ⟨rfl, rfl⟩
 ·subst hA; cases h2
theorem cu_ones (l : List Cue) : ∀ u ∈ flat cuC l, u.oneCell' = true := by
 intro u hu
 obtain ⟨x, _, hx⟩ := List.mem_flatMap.1 hu
 simp only [List.mem_cons, List.not_mem_nil, or_false] at hx
 rcases hx with rfl | rfl | rfl | rfl | rfl <;> rfl
set_option maxRecDepth 100000 in
set_option maxHeartbeats 4000000 in
theorem join_law (AX : Option Addr) (cx : Nat) (x : List Quad) (text at_ : Int) (w : World) (hL : Laid w) (hx : IsRow 4 quC w AX x) (hinx : ∀ q ∈ x, qIn q) (htx : in64 text) (hat : in64 at_) :
  Calls Tryd.prog 7 #[.slice AX x.length cx, .int .i64 text, .int .i64 at_] w fun e w' => e = .returned (.bool true) ∧ Below w.heap.size w w' := by
 have hfN0 := pickP_in (c := at_) (n := 150) (by omega)
 obtain ⟨fN, hfN⟩ : ∃ n : Nat, pickP at_ 150 = (n : Int) := ⟨(pickP at_ 150).toNat, by omega⟩
 have hfN2 : fN < 150 := by omega
 have HP := ((Hp.start w).keepF (rowF 4 quC AX x) hx (rowF_ok _ _ _ _) fun k hk => ⟨hx.lt k hk, fun x hx => by cases hx⟩).keepF laidK hL laidK_ok fun k hk => ⟨hL.lt k hk, fun x hx => by cases hx⟩
 refine w_enter 89 [(0, (.slice AX x.length cx)), (1, (ii text)), (2, (ii at_))] Tryd.func7 rfl Tryd.ntmps7 (by kernel_rfl) (by kernel_rfl) fun a H => ?_
 refine wp_seq (w_region ?_)
 refine H.ge HP [(6, (.bool false))] [] fun a H => ?_
 refine then_normal (wp_seq (w_region ?_))
 refine H.call 18 (by kernel_rfl) (Eq.trans (by kernel_rfl : _ = (callFunc 8 #[]).run Tryd.prog w) (Tryd.call8 _ _)) (sane_any w (HP.fact 0 rfl)) ?_
 rintro e w_1 ⟨rfl, hbs⟩
 refine ⟨_, rfl, ?_⟩
 intro a H
 have HP := HP.next hbs
 refine H.ge HP [(7, (.bool true))] [] fun a H => ?_
 refine then_normal (wp_seq (w_region ?_))
 refine H.go HP 1 [(19, (ii at_))] [] fun a H => ?_
 refine H.call 20 (by kernel_rfl) (Eq.trans (by kernel_rfl : _ = (callFunc 14 #[(ii at_), (ii 150)]).run Tryd.prog w_1) (Tryd.call14 _ _)) ((by have hh := pick_any at_ 150 w_1 hat (by omega); rw [hfN] at hh; exact hh)) ?_
 rintro e w_2 ⟨rfl, hbp⟩
 refine ⟨_, rfl, ?_⟩
 intro a H
 have HP := HP.next hbp
 refine H.ge HP [(8, (ii fN))] [] fun a H => ?_
 refine then_normal (wp_seq (w_region ?_))
 refine H.go HP 1 [(21, (.slice AX x.length cx))] [] fun a H => ?_
 refine H.call 22 (by kernel_rfl) (Eq.trans (by kernel_rfl : _ = (callFunc 13 #[(.slice AX x.length cx)]).run Tryd.prog w_2) (Tryd.call13 _ _)) (make_any AX cx x w_2 (HP.fact 1 rfl) hinx) ?_
 rintro e w_3 ⟨Mx, mcx, rfl, hbm, hMx⟩
 refine ⟨_, rfl, ?_⟩
 intro a H
 have HP := HP.gain hbm (rowsR w_2.heap.size 23 5 cuC okT feF (.slice Mx (makeP x).length mcx) (makeP x)) hMx (rowsR_ok elOk_flat) (fun k hk => (rows_lt hMx hk).1) (fun k hk => (rows_lt hMx hk).2)
 refine H.ge HP [(9, (.slice Mx ((makeP x).length) mcx))] [] fun a H => ?_
 refine then_normal (wp_seq (w_region ?_))
 refine H.go HP 2 [(24, (.agg #[(ii 0), (ii 0), (ii 0), (ii text)]))] [] fun a H => ?_
 refine H.alloc HP 25 (fun b => (.slice (some ⟨b, 0, none⟩) 1 1)) 53 [(ii 0), (ii 0), (ii 0), (ii text)] (by kernel_rfl) (fun w => by kernel_rfl) fun b_4 w_5 a H HP => ?_
 refine H.call 26 (by kernel_rfl) (Eq.trans (by kernel_rfl : _ = (callFunc 13 #[(.slice (some ⟨b_4, 0, none⟩) 1 1)]).run Tryd.prog w_5) (Tryd.call13 _ _)) ((by have hh := make_any (some ⟨b_4, 0, none⟩) 1 [(0, 0, 0, text)] w_5 (IsRow.quad1 (HP.at_ 0 rfl)) (quad_in htx); rw [topQ_eq] at hh; exact hh)) ?_
 rintro e w_6 ⟨Mt, mct, rfl, hbm, hMt⟩
 refine ⟨_, rfl, ?_⟩
 intro a H
 have HP := HP.gain hbm (rowsR w_5.heap.size 23 5 cuC okT feF (.slice Mt 1 mct) [(⟨1, 0, 1, 0, (topC text).text⟩ : Cue)]) hMt (rowsR_ok elOk_flat) (fun k hk => (rows_lt hMt hk).1) (fun k hk => (rows_lt hMt hk).2)
 obtain ⟨bu, ou, xt, hA, _, _, hxt, _, _⟩ := IsRow.get cuC_size (IsRow.ofCues (l := [(⟨1, 0, 1, 0, (topC text).text⟩ : Cue)]) (HP.held 0 rfl)) (i := 0) (by show 0 < 1; omega)
 obtain rfl : (⟨1, 0, 1, 0, (topC text).text⟩ : Cue) = xt := Option.some.inj hxt
 refine H.u 27 (.pointer (some ⟨bu, ou + 0 * 5, none⟩)) (ex_indexA (b := bu) (off := ou) (len := 1) (cap := mct) (e := 23) (k := 5) (ik := .i64) (i := 0) (m := 0) hA (by kernel_rfl) (by kernel_rfl) rfl (by omega) (by kernel_rfl) (by kernel_rfl)) fun a H => ?_
 refine H.u 28 (.agg #[(ii 1), (ii 0), (ii 1), (ii 0), (.string (bstr ((topC text).text)))]) (ex_loadN (b := bu) (off := ou + 0 * 5) (vs := [(ii 1), (ii 0), (ii 1), (ii 0), (.string (bstr ((topC text).text)))]) (by kernel_rfl) (by kernel_rfl) (by kernel_rfl) rfl (IsRow.cells cuC_size (IsRow.ofCues (l := [(⟨1, 0, 1, 0, (topC text).text⟩ : Cue)]) (HP.held 0 rfl)) hA hxt)) fun a H => ?_
 refine H.alloc HP 10 (fun b => (pt b 0)) 23 [(ii 0), (ii 0), (ii 0), (ii 0), (.string (bstr ([])))] (by kernel_rfl) (fun w => by kernel_rfl) fun b_7 w_8 a H HP => ?_
 refine H.sh HP 0 0 (.agg #[(ii 1), (ii 0), (ii 1), (ii 0), (.string (bstr ((topC text).text)))]) rfl fun w_9 a H HP => ?_
 refine wpList_nil (then_normal (wp_seq (w_region ?_)))
 refine H.go HP 1 [(29, (pt b_7 0))] [] fun a H => ?_
 refine H.sh HP 0 0 (ii 99) rfl fun w_10 a H HP => ?_
 refine wpList_nil (then_normal (wp_seq (w_region ?_)))
 refine H.go HP 1 [(30, (pt b_7 3))] [] fun a H => ?_
 refine H.sh HP 0 3 (ii 3) rfl fun w_11 a H HP => ?_
 refine wpList_nil (then_normal (wp_seq (w_region ?_)))
 refine H.go HP 1 [(31, (pt b_7 2))] [] fun a H => ?_
 refine H.sh HP 0 2 (ii 1000) rfl fun w_12 a H HP => ?_
 refine wpList_nil ?_
 have HP : Hp w w_12 [bx b_7 23 (cuL (topC text)) true, (rowsR w_5.heap.size 23 5 cuC okT feF (.slice Mt 1 mct) [(⟨1, 0, 1, 0, (topC text).text⟩ : Cue)]), bx b_4 53 [(ii 0), (ii 0), (ii 0), (ii text)] true, (rowsR w_2.heap.size 23 5 cuC okT feF (.slice Mx (makeP x).length mcx) (makeP x))] [laidK, rowF 4 quC AX x] := HP
 have HP := (HP.sub [0, 3] [bx b_7 23 (cuL (topC text)) true, (rowsR w_2.heap.size 23 5 cuC okT feF (.slice Mx (makeP x).length mcx) (makeP x))] (by kernel_rfl) (by kernel_rfl))
 refine then_normal (wp_seq (w_region ?_))
 refine H.call 32 (by kernel_rfl) (Eq.trans (by kernel_rfl : _ = (callFunc 11 #[]).run Tryd.prog w_12) (Tryd.call11 _ _)) (newD HP) ?_
 rintro e w_13 ⟨bd, rfl, HPn⟩
 refine ⟨_, rfl, ?_⟩
 intro a H
 have HP := (HPn : Hp w _ [(decR bd none 0 none 0 (⟨[], []⟩)), bx b_7 23 (cuL (topC text)) true, (rowsR w_2.heap.size 23 5 cuC okT feF (.slice Mx (makeP x).length mcx) (makeP x))] [laidK, rowF 4 quC AX x])
 refine H.ge HP [(11, (pt bd 0))] [] fun a H => ?_
 refine then_normal (wp_seq (w_region ?_))
 refine H.call 33 (by kernel_rfl) (Eq.trans (by kernel_rfl : _ = (callFunc 11 #[]).run Tryd.prog w_13) (Tryd.call11 _ _)) (newD HP) ?_
 rintro e w_14 ⟨be, rfl, HPn⟩
 refine ⟨_, rfl, ?_⟩
 intro a H
 have HP := (HPn : Hp w _ [(decR be none 0 none 0 (⟨[], []⟩)), (decR bd none 0 none 0 (⟨[], []⟩)), bx b_7 23 (cuL (topC text)) true, (rowsR w_2.heap.size 23 5 cuC okT feF (.slice Mx (makeP x).length mcx) (makeP x))] [laidK, rowF 4 quC AX x])
 refine H.ge HP [(12, (pt be 0))] [] fun a H => ?_
 refine then_normal ?_
 refine w_cut (fun a wv => ∃ (BA : Option Addr), ∃ (ca : Nat), Sl 89 [(13, (.slice BA ((jAll x text).length) ca)), (7, (.bool true)), (8, (ii fN)), (9, (.slice Mx ((makeP x).length) mcx)), (10, (pt b_7 0)), (11, (pt bd 0)), (12, (pt be 0))] a ∧ Hp w wv [(rowsR w.heap.size 23 5 cuC okT feF (.slice BA ((jAll x text).length) ca) (jAll x text)), (decR be none 0 none 0 (⟨[], []⟩)), (decR bd none 0 none 0 (⟨[], []⟩)), bx b_7 23 (cuL (topC text)) true, (rowsR w_2.heap.size 23 5 cuC okT feF (.slice Mx (makeP x).length mcx) (makeP x))] [laidK, rowF 4 quC AX x]) ?_ ?_
 ·
  refine An.start (fun v => Hp w v [(decR be none 0 none 0 (⟨[], []⟩)), (decR bd none 0 none 0 (⟨[], []⟩)), bx b_7 23 (cuL (topC text)) true, (rowsR w_2.heap.size 23 5 cuC okT feF (.slice Mx (makeP x).length mcx) (makeP x))] [laidK, rowF 4 quC AX x]) 7 7 HP wide_follows rfl fun w_15 HP => ?_
  refine An.go H (.inr (HP)) 5 [1, 3] [(35, (.slice Mx ((makeP x).length) mcx)), (37, (cuV (topC text)))] [2] fun a H => ?_
  refine An.two 0 4 (by kernel_rfl) ?_ ?_
  ·refine Op.alloc H HP 34 (fun b => (.slice (some ⟨b, 0, none⟩) 0 0)) 23 [] rfl (by kernel_rfl) (fun w => by kernel_rfl) fun b_16 w_17 a H HP => ?_
   refine ⟨.inr ((HP.tail rfl)), ?_⟩
   refine An.two 2 4 (by kernel_rfl) ?_ ?_
   ·have HP := HP.rowNew 0 rfl (cs := cuC) (size := 5) [(rowsR w.heap.size 23 5 cuC okT feF (.slice (some ⟨b_16, 0, none⟩) 0 0) ([] : List Cue)), (decR be none 0 none 0 (⟨[], []⟩)), (decR bd none 0 none 0 (⟨[], []⟩)), bx b_7 23 (cuL (topC text)) true, (rowsR w_2.heap.size 23 5 cuC okT feF (.slice Mx (makeP x).length mcx) (makeP x))] (by kernel_rfl)
    refine Op.appX H HP 36 0 (l := ([] : List Cue)) 23 (z := (.agg #[(ii 0), (ii 0), (ii 0), (ii 0), (.string (bstr ([])))])) (bytes := 48) Mx (makeP x).length mcx (makeP x) rfl (by kernel_rfl) (by kernel_rfl) (by kernel_rfl) (by kernel_rfl) (by kernel_rfl) rfl rfl (by kernel_rfl) (own_nil (HP.held 4 rfl)) (Rd.of_own (HP.held 4 rfl).1) (cu_ones _) rfl (by show 0 + (makeP x).length ≤ maxLen; have := make_len8 x; unfold maxLen; omega) (by show (0 + (makeP x).length) * _ ≤ _; have := make_len8 x; omega) fun B_18 c_19 w_20 a H HP => ?_
    rw [show ([] : List Cue).length + (makeP x).length = (makeP x).length from Nat.zero_add _] at H HP
    rw [List.nil_append] at HP
    have HP : Hp w w_20 [(rowsR w.heap.size 23 5 cuC okT feF (.slice B_18 ((makeP x).length) c_19) (makeP x)), (decR be none 0 none 0 (⟨[], []⟩)), (decR bd none 0 none 0 (⟨[], []⟩)), bx b_7 23 (cuL (topC text)) true, (rowsR w_2.heap.size 23 5 cuC okT feF (.slice Mx (makeP x).length mcx) (makeP x))] [laidK, rowF 4 quC AX x] := HP
    refine ⟨.inr ((HP.tail rfl)), ?_⟩
    refine An.one 4 (by kernel_rfl) ?_
    refine Op.alloc H HP 38 (fun b => (.slice (some ⟨b, 0, none⟩) 1 1)) 23 (cuL (topC text)) rfl (by kernel_rfl) (fun w => by kernel_rfl) fun b_21 w_22 a H HP => ?_
    refine ⟨.inr (((HP.tail rfl).tail rfl)), ?_⟩
    refine An.one 5 (by kernel_rfl) ?_
    have HP := HP.pend0 1 rfl elOk_flat (topC text) [bx b_21 23 (cuL (topC text)) true, (rowsP w.heap.size 23 5 cuC okT feF (.slice B_18 ((makeP x).length) c_19) (makeP x) (topC text)), (decR be none 0 none 0 (⟨[], []⟩)), (decR bd none 0 none 0 (⟨[], []⟩)), bx b_7 23 (cuL (topC text)) true, (rowsR w_2.heap.size 23 5 cuC okT feF (.slice Mx (makeP x).length mcx) (makeP x))] (by kernel_rfl) trivial (fun _ h => h)
    refine Op.push H HP 39 1 0 (v := (.slice B_18 ((makeP x).length) c_19)) (e := 23) (p := (topC text)) (l := (makeP x)) (cs := cuC) (ok := okT) (fe := feF) (size := 5) (z := (.agg #[(ii 0), (ii 0), (ii 0), (ii 0), (.string (bstr ([])))])) (bytes := 48) (bb := b_21) (tb := 23) (fb := true) rfl (by kernel_rfl) elOk_flat (by kernel_rfl) (by kernel_rfl) rfl (by kernel_rfl) (by kernel_rfl) (by kernel_rfl) (by kernel_rfl) (by kernel_rfl) rfl (by kernel_rfl) (by have := make_len8 x; unfold maxLen; omega) (by have := make_len8 x; omega) fun B_23 c_24 w_25 a H HP => ?_
    have HP : Hp w w_25 [bx b_21 23 (cuL (topC text)) true, (rowsR w.heap.size 23 5 cuC okT feF (.slice B_23 ((makeP x).length + 1) c_24) (makeP x ++ [(topC text)])), (decR be none 0 none 0 (⟨[], []⟩)), (decR bd none 0 none 0 (⟨[], []⟩)), bx b_7 23 (cuL (topC text)) true, (rowsR w_2.heap.size 23 5 cuC okT feF (.slice Mx (makeP x).length mcx) (makeP x))] [laidK, rowF 4 quC AX x] := HP
    refine ⟨.inr (((HP.tail rfl).tail rfl)), ?_⟩
    refine An.go H (.inr (((HP.tail rfl).tail rfl))) 0 [6] [(13, (.slice B_23 ((makeP x).length + 1) c_24))] [] fun a H => ?_
    refine An.done (by kernel_rfl) ?_
    refine then_normal ?_
    have H := H.as 13 (.slice B_23 ((jAll x text).length) c_24) rfl (congrArg (fun n => Value.slice _ n _) (len_snoc _ _))
    exact ⟨B_23, c_24, H.keep (by kernel_rfl), (by have hh := (HP.sub [1, 2, 3, 4, 5] [(rowsR w.heap.size 23 5 cuC okT feF (.slice B_23 ((makeP x).length + 1) c_24) (makeP x ++ [(topC text)])), (decR be none 0 none 0 (⟨[], []⟩)), (decR bd none 0 none 0 (⟨[], []⟩)), bx b_7 23 (cuL (topC text)) true, (rowsR w_2.heap.size 23 5 cuC okT feF (.slice Mx (makeP x).length mcx) (makeP x))] (by kernel_rfl) (by kernel_rfl)); rw [show (makeP x).length + 1 = (jAll x text).length from len_snoc _ _] at hh; exact hh)⟩
   ·refine Op.alloc H HP 38 (fun b => (.slice (some ⟨b, 0, none⟩) 1 1)) 23 (cuL (topC text)) rfl (by kernel_rfl) (fun w => by kernel_rfl) fun b_26 w_27 a H HP => ?_
    refine ⟨.inr (((HP.tail rfl).tail rfl)), ?_⟩
    refine An.one 2 (by kernel_rfl) ?_
    have HP := HP.rowNew 1 rfl (cs := cuC) (size := 5) [bx b_26 23 (cuL (topC text)) true, (rowsR w.heap.size 23 5 cuC okT feF (.slice (some ⟨b_16, 0, none⟩) 0 0) ([] : List Cue)), (decR be none 0 none 0 (⟨[], []⟩)), (decR bd none 0 none 0 (⟨[], []⟩)), bx b_7 23 (cuL (topC text)) true, (rowsR w_2.heap.size 23 5 cuC okT feF (.slice Mx (makeP x).length mcx) (makeP x))] (by kernel_rfl)
    refine Op.appX H HP 36 1 (l := ([] : List Cue)) 23 (z := (.agg #[(ii 0), (ii 0), (ii 0), (ii 0), (.string (bstr ([])))])) (bytes := 48) Mx (makeP x).length mcx (makeP x) rfl (by kernel_rfl) (by kernel_rfl) (by kernel_rfl) (by kernel_rfl) (by kernel_rfl) rfl rfl (by kernel_rfl) (own_nil (HP.held 5 rfl)) (Rd.of_own (HP.held 5 rfl).1) (cu_ones _) rfl (by show 0 + (makeP x).length ≤ maxLen; have := make_len8 x; unfold maxLen; omega) (by show (0 + (makeP x).length) * _ ≤ _; have := make_len8 x; omega) fun B_28 c_29 w_30 a H HP => ?_
    rw [show ([] : List Cue).length + (makeP x).length = (makeP x).length from Nat.zero_add _] at H HP
    rw [List.nil_append] at HP
    have HP : Hp w w_30 [bx b_26 23 (cuL (topC text)) true, (rowsR w.heap.size 23 5 cuC okT feF (.slice B_28 ((makeP x).length) c_29) (makeP x)), (decR be none 0 none 0 (⟨[], []⟩)), (decR bd none 0 none 0 (⟨[], []⟩)), bx b_7 23 (cuL (topC text)) true, (rowsR w_2.heap.size 23 5 cuC okT feF (.slice Mx (makeP x).length mcx) (makeP x))] [laidK, rowF 4 quC AX x] := HP
    refine ⟨.inr (((HP.tail rfl).tail rfl)), ?_⟩
    refine An.one 5 (by kernel_rfl) ?_
    have HP := HP.pend0 1 rfl elOk_flat (topC text) [bx b_26 23 (cuL (topC text)) true, (rowsP w.heap.size 23 5 cuC okT feF (.slice B_28 ((makeP x).length) c_29) (makeP x) (topC text)), (decR be none 0 none 0 (⟨[], []⟩)), (decR bd none 0 none 0 (⟨[], []⟩)), bx b_7 23 (cuL (topC text)) true, (rowsR w_2.heap.size 23 5 cuC okT feF (.slice Mx (makeP x).length mcx) (makeP x))] (by kernel_rfl) trivial (fun _ h => h)
    refine Op.push H HP 39 1 0 (v := (.slice B_28 ((makeP x).length) c_29)) (e := 23) (p := (topC text)) (l := (makeP x)) (cs := cuC) (ok := okT) (fe := feF) (size := 5) (z := (.agg #[(ii 0), (ii 0), (ii 0), (ii 0), (.string (bstr ([])))])) (bytes := 48) (bb := b_26) (tb := 23) (fb := true) rfl (by kernel_rfl) elOk_flat (by kernel_rfl) (by kernel_rfl) rfl (by kernel_rfl) (by kernel_rfl) (by kernel_rfl) (by kernel_rfl) (by kernel_rfl) rfl (by kernel_rfl) (by have := make_len8 x; unfold maxLen; omega) (by have := make_len8 x; omega) fun B_31 c_32 w_33 a H HP => ?_
    have HP : Hp w w_33 [bx b_26 23 (cuL (topC text)) true, (rowsR w.heap.size 23 5 cuC okT feF (.slice B_31 ((makeP x).length + 1) c_32) (makeP x ++ [(topC text)])), (decR be none 0 none 0 (⟨[], []⟩)), (decR bd none 0 none 0 (⟨[], []⟩)), bx b_7 23 (cuL (topC text)) true, (rowsR w_2.heap.size 23 5 cuC okT feF (.slice Mx (makeP x).length mcx) (makeP x))] [laidK, rowF 4 quC AX x] := HP
    refine ⟨.inr (((HP.tail rfl).tail rfl)), ?_⟩
    refine An.go H (.inr (((HP.tail rfl).tail rfl))) 0 [6] [(13, (.slice B_31 ((makeP x).length + 1) c_32))] [] fun a H => ?_
    refine An.done (by kernel_rfl) ?_
    refine then_normal ?_
    have H := H.as 13 (.slice B_31 ((jAll x text).length) c_32) rfl (congrArg (fun n => Value.slice _ n _) (len_snoc _ _))
    exact ⟨B_31, c_32, H.keep (by kernel_rfl), (by have hh := (HP.sub [1, 2, 3, 4, 5] [(rowsR w.heap.size 23 5 cuC okT feF (.slice B_31 ((makeP x).length + 1) c_32) (makeP x ++ [(topC text)])), (decR be none 0 none 0 (⟨[], []⟩)), (decR bd none 0 none 0 (⟨[], []⟩)), bx b_7 23 (cuL (topC text)) true, (rowsR w_2.heap.size 23 5 cuC okT feF (.slice Mx (makeP x).length mcx) (makeP x))] (by kernel_rfl) (by kernel_rfl)); rw [show (makeP x).length + 1 = (jAll x text).length from len_snoc _ _] at hh; exact hh)⟩
  ·refine Op.alloc H HP 38 (fun b => (.slice (some ⟨b, 0, none⟩) 1 1)) 23 (cuL (topC text)) rfl (by kernel_rfl) (fun w => by kernel_rfl) fun b_34 w_35 a H HP => ?_
   refine ⟨.inr ((HP.tail rfl)), ?_⟩
   refine An.one 0 (by kernel_rfl) ?_
   refine Op.alloc H HP 34 (fun b => (.slice (some ⟨b, 0, none⟩) 0 0)) 23 [] rfl (by kernel_rfl) (fun w => by kernel_rfl) fun b_36 w_37 a H HP => ?_
   refine ⟨.inr (((HP.tail rfl).tail rfl)), ?_⟩
   refine An.one 2 (by kernel_rfl) ?_
   have HP := HP.rowNew 0 rfl (cs := cuC) (size := 5) [(rowsR w.heap.size 23 5 cuC okT feF (.slice (some ⟨b_36, 0, none⟩) 0 0) ([] : List Cue)), bx b_34 23 (cuL (topC text)) true, (decR be none 0 none 0 (⟨[], []⟩)), (decR bd none 0 none 0 (⟨[], []⟩)), bx b_7 23 (cuL (topC text)) true, (rowsR w_2.heap.size 23 5 cuC okT feF (.slice Mx (makeP x).length mcx) (makeP x))] (by kernel_rfl)
   refine Op.appX H HP 36 0 (l := ([] : List Cue)) 23 (z := (.agg #[(ii 0), (ii 0), (ii 0), (ii 0), (.string (bstr ([])))])) (bytes := 48) Mx (makeP x).length mcx (makeP x) rfl (by kernel_rfl) (by kernel_rfl) (by kernel_rfl) (by kernel_rfl) (by kernel_rfl) rfl rfl (by kernel_rfl) (own_nil (HP.held 5 rfl)) (Rd.of_own (HP.held 5 rfl).1) (cu_ones _) rfl (by show 0 + (makeP x).length ≤ maxLen; have := make_len8 x; unfold maxLen; omega) (by show (0 + (makeP x).length) * _ ≤ _; have := make_len8 x; omega) fun B_38 c_39 w_40 a H HP => ?_
   rw [show ([] : List Cue).length + (makeP x).length = (makeP x).length from Nat.zero_add _] at H HP
   rw [List.nil_append] at HP
   have HP : Hp w w_40 [(rowsR w.heap.size 23 5 cuC okT feF (.slice B_38 ((makeP x).length) c_39) (makeP x)), bx b_34 23 (cuL (topC text)) true, (decR be none 0 none 0 (⟨[], []⟩)), (decR bd none 0 none 0 (⟨[], []⟩)), bx b_7 23 (cuL (topC text)) true, (rowsR w_2.heap.size 23 5 cuC okT feF (.slice Mx (makeP x).length mcx) (makeP x))] [laidK, rowF 4 quC AX x] := HP
   refine ⟨.inr (((HP.tail rfl).tail rfl)), ?_⟩
   refine An.one 5 (by kernel_rfl) ?_
   have HP := HP.pend0 0 rfl elOk_flat (topC text) [(rowsP w.heap.size 23 5 cuC okT feF (.slice B_38 ((makeP x).length) c_39) (makeP x) (topC text)), bx b_34 23 (cuL (topC text)) true, (decR be none 0 none 0 (⟨[], []⟩)), (decR bd none 0 none 0 (⟨[], []⟩)), bx b_7 23 (cuL (topC text)) true, (rowsR w_2.heap.size 23 5 cuC okT feF (.slice Mx (makeP x).length mcx) (makeP x))] (by kernel_rfl) trivial (fun _ h => h)
   refine Op.push H HP 39 0 1 (v := (.slice B_38 ((makeP x).length) c_39)) (e := 23) (p := (topC text)) (l := (makeP x)) (cs := cuC) (ok := okT) (fe := feF) (size := 5) (z := (.agg #[(ii 0), (ii 0), (ii 0), (ii 0), (.string (bstr ([])))])) (bytes := 48) (bb := b_34) (tb := 23) (fb := true) rfl (by kernel_rfl) elOk_flat (by kernel_rfl) (by kernel_rfl) rfl (by kernel_rfl) (by kernel_rfl) (by kernel_rfl) (by kernel_rfl) (by kernel_rfl) rfl (by kernel_rfl) (by have := make_len8 x; unfold maxLen; omega) (by have := make_len8 x; omega) fun B_41 c_42 w_43 a H HP => ?_
   have HP : Hp w w_43 [(rowsR w.heap.size 23 5 cuC okT feF (.slice B_41 ((makeP x).length + 1) c_42) (makeP x ++ [(topC text)])), bx b_34 23 (cuL (topC text)) true, (decR be none 0 none 0 (⟨[], []⟩)), (decR bd none 0 none 0 (⟨[], []⟩)), bx b_7 23 (cuL (topC text)) true, (rowsR w_2.heap.size 23 5 cuC okT feF (.slice Mx (makeP x).length mcx) (makeP x))] [laidK, rowF 4 quC AX x] := HP
   refine ⟨.inr (((HP.tail rfl).tail rfl)), ?_⟩
   refine An.go H (.inr (((HP.tail rfl).tail rfl))) 0 [6] [(13, (.slice B_41 ((makeP x).length + 1) c_42))] [] fun a H => ?_
   refine An.done (by kernel_rfl) ?_
   refine then_normal ?_
   have H := H.as 13 (.slice B_41 ((jAll x text).length) c_42) rfl (congrArg (fun n => Value.slice _ n _) (len_snoc _ _))
   exact ⟨B_41, c_42, H.keep (by kernel_rfl), (by have hh := (HP.sub [0, 2, 3, 4, 5] [(rowsR w.heap.size 23 5 cuC okT feF (.slice B_41 ((makeP x).length + 1) c_42) (makeP x ++ [(topC text)])), (decR be none 0 none 0 (⟨[], []⟩)), (decR bd none 0 none 0 (⟨[], []⟩)), bx b_7 23 (cuL (topC text)) true, (rowsR w_2.heap.size 23 5 cuC okT feF (.slice Mx (makeP x).length mcx) (makeP x))] (by kernel_rfl) (by kernel_rfl)); rw [show (makeP x).length + 1 = (jAll x text).length from len_snoc _ _] at hh; exact hh)⟩
 ·
  rintro a w_44 ⟨BA, ca, H, HP⟩
  refine wp_seq (wp_seq (w_region ?_))
  refine H.ge HP [(14, (ii 0))] [] fun a H => ?_
  refine then_normal (wp_block ?_)
  refine w_loop (fun mm a wv => ∃ (i : Nat), ∃ (Be : Option Addr), ∃ (ce : Nat), ∃ (Re : Option Addr), ∃ (cre : Nat), fN - i = mm ∧ Sl 89 [(14, (ii i)), (13, (.slice BA ((jAll x text).length) ca)), (7, (.bool true)), (8, (ii fN)), (9, (.slice Mx ((makeP x).length) mcx)), (10, (pt b_7 0)), (11, (pt bd 0)), (12, (pt be 0))] a ∧ Hp w wv [(rowsR w.heap.size 23 5 cuC okT feF (.slice BA ((jAll x text).length) ca) (jAll x text)), (decR be Be ce Re cre (jE0 x text i)), (decR bd none 0 none 0 (⟨[], []⟩)), bx b_7 23 (cuL (topC text)) true, (rowsR w_2.heap.size 23 5 cuC okT feF (.slice Mx (makeP x).length mcx) (makeP x))] [laidK, rowF 4 quC AX x] ∧ (i ≤ fN)) (fN - 0) ?_ ?_
  ·exact ⟨0, none, 0, none, 0, (by omega), H.keep (by kernel_rfl), HP, (Nat.zero_le _)⟩
  rintro mm a w_45 ⟨i, Be, ce, Re, cre, hmeas, H, HP, hib⟩
  refine wp_seq (wp_seq (w_region ?_))
  refine H.ge HP [(42, (.bool (decide ((i : Int) < (fN : Int)))))] [] fun a H => ?_
  refine then_normal ?_
  refine w_if H rfl (fun g42 => ?_) (fun g42 => ?_)
  ·have g42p := of_decide_eq_true g42
   refine wp_skip (then_normal (wp_seq (wp_block (w_region ?_))))
   refine H.go HP 3 [(45, (pt be 0)), (46, (.slice BA ((jAll x text).length) ca)), (47, (ii i))] [] fun a H => ?_
   refine H.call 48 (by kernel_rfl) (Eq.trans (by kernel_rfl : _ = (callFunc 15 #[(.slice BA ((jAll x text).length) ca), (ii 0), (ii i)]).run Tryd.prog w_45) (Tryd.call15 _ _)) (code_all BA ca (jAll x text) 0 (i : Int) w_45 (HP.fact 0 rfl) (IsRow.ofCues (HP.held 0 rfl)) (jAll_len _ _) jAll_tx (by omega) (by omega) (by omega) (by omega)) ?_
   rintro e w_46 ⟨rfl, hbf⟩
   refine ⟨_, rfl, ?_⟩
   intro a H
   have HP := HP.next hbf
   refine H.call 49 (by kernel_rfl) (Eq.trans (by kernel_rfl : _ = (callFunc 16 #[(pt be 0), (.string (bstr (codeP (jAll x text) 0 (i : Int))))]).run Tryd.prog w_46) (Tryd.call16 _ _)) (feedD HP 1 be Be ce Re cre (jE0 x text i) (codeP (jAll x text) 0 (i : Int)) rfl 0 rfl (jE0_okk _ _ _)) ?_
   rintro e w_51 ⟨rfl, B_47, c_48, R_49, cr_50, HPn⟩
   refine ⟨_, rfl, ?_⟩
   intro a H
   have HP := (HPn : Hp w _ [(rowsR w.heap.size 23 5 cuC okT feF (.slice BA ((jAll x text).length) ca) (jAll x text)), (decR be B_47 c_48 R_49 cr_50 (jE0 x text (i + 1))), (decR bd none 0 none 0 (⟨[], []⟩)), bx b_7 23 (cuL (topC text)) true, (rowsR w_2.heap.size 23 5 cuC okT feF (.slice Mx (makeP x).length mcx) (makeP x))] [laidK, rowF 4 quC AX x])
   refine wpList_nil (inb_normal (then_normal (w_region ?_)))
   refine H.go HP 1 [(43, (ii i))] [] fun a H => ?_
   refine H.wi 44 ((i : Int) + 1) fun a H => ?_
   refine H.ge HP [(14, (ii ((i : Int) + 1)))] [] fun a H => ?_
   refine then_normal ?_
   have H := H.as 14 (ii ((i + 1 : Nat) : Int)) rfl rfl
   refine ⟨_, ?_, i + 1, B_47, c_48, R_49, cr_50, rfl, H.keep (by kernel_rfl), HP, (by omega)⟩
   omega
  ·have g42p := of_decide_eq_false g42
   refine wp_exit (then_exit (then_exit ?_))
   refine w_exit_here ?_
   refine then_normal (wp_seq (wp_seq ?_))
   have hif : i = fN := by omega
   rw [hif] at HP
   refine w_region ?_
   refine H.ge HP [(15, (ii fN))] [] fun a H => ?_
   refine then_normal (wp_block ?_)
   have H := H.as 15 (ii ((fN : Int) + (0 : Int))) rfl (congrArg (Value.int .i64) (Int.add_zero _).symm)
   refine w_loop (fun mm a wv => ∃ (j : Nat), ∃ (Bd : Option Addr), ∃ (cd : Nat), ∃ (Rd_ : Option Addr), ∃ (crd : Nat), ∃ (Be2 : Option Addr), ∃ (ce2 : Nat), ∃ (Re2 : Option Addr), ∃ (cre2 : Nat), 224 - j = mm ∧ Sl 89 [(15, (ii ((fN : Int) + (j : Int)))), (7, (.bool true)), (8, (ii fN)), (10, (pt b_7 0)), (11, (pt bd 0)), (12, (pt be 0)), (13, (.slice BA ((jAll x text).length) ca))] a ∧ Hp w wv [(rowsR w.heap.size 23 5 cuC okT feF (.slice BA ((jAll x text).length) ca) (jAll x text)), (decR be Be2 ce2 Re2 cre2 (jE x text fN j)), (decR bd Bd cd Rd_ crd (jD x text fN j)), bx b_7 23 (cuL (topC text)) true, (rowsR w_2.heap.size 23 5 cuC okT feF (.slice Mx (makeP x).length mcx) (makeP x))] [laidK, rowF 4 quC AX x] ∧ (j ≤ 224)) (224 - 0) ?_ ?_
   ·exact ⟨0, none, 0, none, 0, Be, ce, Re, cre, (by omega), H.keep (by kernel_rfl), HP, (Nat.zero_le _)⟩
   rintro mm a w_52 ⟨j, Bd, cd, Rd_, crd, Be2, ce2, Re2, cre2, hmeas, H, HP, hj⟩
   refine wp_seq (wp_seq (w_region ?_))
   refine H.go HP 2 [(51, (ii ((fN : Int) + (j : Int)))), (52, (ii fN))] [] fun a H => ?_
   refine H.wi 53 ((fN : Int) + 224) fun a H => ?_
   refine H.ge HP [(54, (.bool (decide (((fN : Int) + (j : Int)) < ((fN : Int) + 224)))))] [] fun a H => ?_
   refine then_normal ?_
   refine w_if H rfl (fun g54 => ?_) (fun g54 => ?_)
   ·have g54p := of_decide_eq_true g54
    refine wp_skip (then_normal (wp_seq (wp_block (wp_seq (w_region ?_)))))
    refine H.go HP 3 [(57, (pt bd 0)), (58, (.slice BA ((jAll x text).length) ca)), (59, (ii ((fN : Int) + (j : Int))))] [] fun a H => ?_
    refine H.call 60 (by kernel_rfl) (Eq.trans (by kernel_rfl : _ = (callFunc 15 #[(.slice BA ((jAll x text).length) ca), (ii 0), (ii ((fN : Int) + (j : Int)))]).run Tryd.prog w_52) (Tryd.call15 _ _)) (code_all BA ca (jAll x text) 0 ((fN : Int) + (j : Int)) w_52 (HP.fact 0 rfl) (IsRow.ofCues (HP.held 0 rfl)) (jAll_len _ _) jAll_tx (by omega) (by omega) (by omega) (by omega)) ?_
    rintro e w_53 ⟨rfl, hbf⟩
    refine ⟨_, rfl, ?_⟩
    intro a H
    have HP := HP.next hbf
    refine H.call 61 (by kernel_rfl) (Eq.trans (by kernel_rfl : _ = (callFunc 16 #[(pt bd 0), (.string (bstr (codeP (jAll x text) 0 ((fN : Int) + (j : Int)))))]).run Tryd.prog w_53) (Tryd.call16 _ _)) (feedD HP 2 bd Bd cd Rd_ crd (jD x text fN j) (codeP (jAll x text) 0 ((fN : Int) + (j : Int))) rfl 0 rfl (jD_okk _ _ _ _)) ?_
    rintro e w_58 ⟨rfl, B_54, c_55, R_56, cr_57, HPn⟩
    refine ⟨_, rfl, ?_⟩
    intro a H
    have HP := (HPn : Hp w _ [(rowsR w.heap.size 23 5 cuC okT feF (.slice BA ((jAll x text).length) ca) (jAll x text)), (decR be Be2 ce2 Re2 cre2 (jE x text fN j)), (decR bd B_54 c_55 R_56 cr_57 (jD x text fN (j + 1))), bx b_7 23 (cuL (topC text)) true, (rowsR w_2.heap.size 23 5 cuC okT feF (.slice Mx (makeP x).length mcx) (makeP x))] [laidK, rowF 4 quC AX x])
    refine wpList_nil (then_normal (wp_seq (w_region ?_)))
    refine H.go HP 2 [(62, (ii ((fN : Int) + (j : Int)))), (63, (ii fN))] [] fun a H => ?_
    refine H.wi 64 ((fN : Int) + 128) fun a H => ?_
    refine H.ge HP [(65, (.bool (decide (((fN : Int) + (j : Int)) < ((fN : Int) + 128)))))] [] fun a H => ?_
    refine then_normal ?_
    refine w_if H rfl (fun g65 => ?_) (fun g65 => ?_)
    ·have g65p := of_decide_eq_true g65
     refine w_region ?_
     refine H.go HP 2 [(66, (pt be 0)), (67, (ii ((fN : Int) + (j : Int))))] [] fun a H => ?_
     refine H.call 68 (by kernel_rfl) (Eq.trans (by kernel_rfl : _ = (callFunc 15 #[(.slice none 0 0), (ii 0), (ii ((fN : Int) + (j : Int)))]).run Tryd.prog w_58) (Tryd.call15 _ _)) (code_all none 0 ([]) 0 ((fN : Int) + (j : Int)) w_58 (HP.fact 0 rfl) (IsRow.nil _ _) (by decide) (fun _ h => by cases h) (by omega) (by omega) (by omega) (by omega)) ?_
     rintro e w_59 ⟨rfl, hbf⟩
     refine ⟨_, rfl, ?_⟩
     intro a H
     have HP := HP.next hbf
     refine H.call 69 (by kernel_rfl) (Eq.trans (by kernel_rfl : _ = (callFunc 16 #[(pt be 0), (.string (bstr (codeP ([]) 0 ((fN : Int) + (j : Int)))))]).run Tryd.prog w_59) (Tryd.call16 _ _)) (feedD HP 1 be Be2 ce2 Re2 cre2 (jE x text fN j) (codeP ([]) 0 ((fN : Int) + (j : Int))) rfl 0 rfl (jE_okk _ _ _ _)) ?_
     rintro e w_64 ⟨rfl, B_60, c_61, R_62, cr_63, HPn⟩
     refine ⟨_, rfl, ?_⟩
     intro a H
     have HP := (HPn : Hp w _ [(rowsR w.heap.size 23 5 cuC okT feF (.slice BA ((jAll x text).length) ca) (jAll x text)), (decR be B_60 c_61 R_62 cr_63 (feedP (codeP [] 0 ((fN : Int) + (j : Int))) (jE x text fN j))), (decR bd B_54 c_55 R_56 cr_57 (jD x text fN (j + 1))), bx b_7 23 (cuL (topC text)) true, (rowsR w_2.heap.size 23 5 cuC okT feF (.slice Mx (makeP x).length mcx) (makeP x))] [laidK, rowF 4 quC AX x])
     refine wpList_nil (inb_normal (then_normal (w_region ?_)))
     refine H.go HP 1 [(55, (ii ((fN : Int) + (j : Int))))] [] fun a H => ?_
     refine H.wi 56 (((fN : Int) + (j : Int)) + 1) fun a H => ?_
     refine H.ge HP [(15, (ii (((fN : Int) + (j : Int)) + 1)))] [] fun a H => ?_
     refine then_normal ?_
     have H := H.as 15 (ii ((fN : Int) + ((j + 1 : Nat) : Int))) rfl (congrArg (Value.int .i64) (by omega))
     refine ⟨_, ?_, j + 1, B_54, c_55, R_56, cr_57, B_60, c_61, R_62, cr_63, rfl, H.keep (by kernel_rfl), (by have hh : Hp w _ [(rowsR w.heap.size 23 5 cuC okT feF (.slice BA ((jAll x text).length) ca) (jAll x text)), (decR be B_60 c_61 R_62 cr_63 (feedP (codeP [] 0 ((fN : Int) + (j : Int))) (jE x text fN j))), (decR bd B_54 c_55 R_56 cr_57 (jD x text fN (j + 1))), bx b_7 23 (cuL (topC text)) true, (rowsR w_2.heap.size 23 5 cuC okT feF (.slice Mx (makeP x).length mcx) (makeP x))] [laidK, rowF 4 quC AX x] := HP; rw [jE_yes (by omega)] at hh; exact hh), (by omega)⟩
     omega
    ·have g65p := of_decide_eq_false g65
     refine wp_skip (inb_normal (then_normal (w_region ?_)))
     refine H.go HP 1 [(55, (ii ((fN : Int) + (j : Int))))] [] fun a H => ?_
     refine H.wi 56 (((fN : Int) + (j : Int)) + 1) fun a H => ?_
     refine H.ge HP [(15, (ii (((fN : Int) + (j : Int)) + 1)))] [] fun a H => ?_
     refine then_normal ?_
     have H := H.as 15 (ii ((fN : Int) + ((j + 1 : Nat) : Int))) rfl (congrArg (Value.int .i64) (by omega))
     refine ⟨_, ?_, j + 1, B_54, c_55, R_56, cr_57, Be2, ce2, Re2, cre2, rfl, H.keep (by kernel_rfl), (by have hh : Hp w _ [(rowsR w.heap.size 23 5 cuC okT feF (.slice BA ((jAll x text).length) ca) (jAll x text)), (decR be Be2 ce2 Re2 cre2 (jE x text fN j)), (decR bd B_54 c_55 R_56 cr_57 (jD x text fN (j + 1))), bx b_7 23 (cuL (topC text)) true, (rowsR w_2.heap.size 23 5 cuC okT feF (.slice Mx (makeP x).length mcx) (makeP x))] [laidK, rowF 4 quC AX x] := HP; rw [jE_no (by omega)] at hh; exact hh), (by omega)⟩
     omega
   ·have g54p := of_decide_eq_false g54
    refine wp_exit (then_exit (then_exit ?_))
    refine w_exit_here ?_
    refine then_normal (wp_seq ?_)
    have hj224 : j = 224 := by omega
    subst hj224
    refine w_region ?_
    refine H.go HP 2 [(72, (.string (bstr ((topC text).text))))] [3] fun a H => ?_
    refine H.call 73 (by kernel_rfl) (Eq.trans (by kernel_rfl : _ = (callFunc 24 #[(.string (bstr ((topC text).text)))]).run Tryd.prog w_52) (Tryd.call24 _ _)) (crowsS_any (topC text).text w_52 (jD_rows x text fN hfN2) (top_tx text)) ?_
    rintro e w_65 ⟨WA, wc, rfl, hbw, hWA⟩
    refine ⟨_, rfl, ?_⟩
    intro a H
    have HP := HP.gain hbw (rowsR w_52.heap.size 9 1 strC okT feF (.slice WA (jD x text fN 224).rows.length wc) (jD x text fN 224).rows) hWA (rowsR_ok elOk_flat) (fun k hk => (rows_lt hWA hk).1) (fun k hk => (rows_lt hWA hk).2)
    refine H.ge HP [(16, (.slice WA ((jD x text fN 224).rows.length) wc))] [] fun a H => ?_
    refine then_normal (wp_seq (w_region ?_))
    refine H.go HP 3 [(77, (.bool true)), (78, (pt bd 0))] [] fun a H => ?_
    refine H.call 79 (by kernel_rfl) (Eq.trans (by kernel_rfl : _ = (callFunc 19 #[(pt bd 0)]).run Tryd.prog w_65) (Tryd.call19 _ _)) (rowsD HP 3 bd Bd cd Rd_ crd (jD x text fN 224) rfl (jD_okk _ _ _ _)) ?_
    rintro e w_68 ⟨A_66, c_67, rfl, HPn⟩
    refine ⟨_, rfl, ?_⟩
    intro a H
    have HP := (HPn : Hp w _ [(rowsR w_65.heap.size 9 1 strC okT feF (.slice A_66 (jD x text fN 224).rows.length c_67) (jD x text fN 224).rows), (rowsR w_52.heap.size 9 1 strC okT feF (.slice WA (jD x text fN 224).rows.length wc) (jD x text fN 224).rows), (rowsR w.heap.size 23 5 cuC okT feF (.slice BA ((jAll x text).length) ca) (jAll x text)), (decR be Be2 ce2 Re2 cre2 (jE x text fN 224)), (decR bd Bd cd Rd_ crd (jD x text fN 224)), bx b_7 23 (cuL (topC text)) true, (rowsR w_2.heap.size 23 5 cuC okT feF (.slice Mx (makeP x).length mcx) (makeP x))] [laidK, rowF 4 quC AX x])
    refine H.go HP 1 [(80, (.slice WA ((jD x text fN 224).rows.length) wc))] [] fun a H => ?_
    refine H.call 81 (by kernel_rfl) (Eq.trans (by kernel_rfl : _ = (callFunc 18 #[(.slice A_66 ((jD x text fN 224).rows.length) c_67), (.slice WA ((jD x text fN 224).rows.length) wc)]).run Tryd.prog w_68) (Tryd.call18 _ _)) ((by have hh := same_any A_66 WA c_67 wc ((jD x text fN 224).rows) ((jD x text fN 224).rows) w_68 (IsRow.ofRows (HP.held 0 rfl)) (IsRow.ofRows (HP.held 1 rfl)) (Nat.le_trans ((jD_okk _ _ _ _)).2 (by omega)) (Nat.le_trans ((jD_okk _ _ _ _)).2 (by omega)); rw [decide_eq_true (rfl : (jD x text fN 224).rows = (jD x text fN 224).rows)] at hh; exact hh)) ?_
    rintro e w_69 ⟨rfl, hbf⟩
    refine ⟨_, rfl, ?_⟩
    intro a H
    have HP := HP.next hbf
    refine H.go HP 3 [(83, (.bool true)), (84, (pt be 0))] [] fun a H => ?_
    refine H.call 85 (by kernel_rfl) (Eq.trans (by kernel_rfl : _ = (callFunc 19 #[(pt be 0)]).run Tryd.prog w_69) (Tryd.call19 _ _)) (rowsD HP 3 be Be2 ce2 Re2 cre2 (jE x text fN 224) rfl (jE_okk _ _ _ _)) ?_
    rintro e w_72 ⟨A_70, c_71, rfl, HPn⟩
    refine ⟨_, rfl, ?_⟩
    intro a H
    have HP := (HPn : Hp w _ [(rowsR w_69.heap.size 9 1 strC okT feF (.slice A_70 (jE x text fN 224).rows.length c_71) (jE x text fN 224).rows), (rowsR w_65.heap.size 9 1 strC okT feF (.slice A_66 (jD x text fN 224).rows.length c_67) (jD x text fN 224).rows), (rowsR w_52.heap.size 9 1 strC okT feF (.slice WA (jD x text fN 224).rows.length wc) (jD x text fN 224).rows), (rowsR w.heap.size 23 5 cuC okT feF (.slice BA ((jAll x text).length) ca) (jAll x text)), (decR be Be2 ce2 Re2 cre2 (jE x text fN 224)), (decR bd Bd cd Rd_ crd (jD x text fN 224)), bx b_7 23 (cuL (topC text)) true, (rowsR w_2.heap.size 23 5 cuC okT feF (.slice Mx (makeP x).length mcx) (makeP x))] [laidK, rowF 4 quC AX x])
    refine H.go HP 1 [(86, (ii (((jE x text fN 224).rows.length : Nat) : Int)))] [] fun a H => ?_
    refine H.valE 87 (.bool (((((jE x text fN 224).rows.length : Nat) : Int)) == 0)) (.bool true) (by kernel_rfl) (by kernel_rfl) ((congrArg Value.bool (by rw [jE_rows]; rfl))) fun a H => ?_
    refine H.ge HP [(6, (.bool true))] [] fun a H => ?_
    refine then_normal (wp_ret ?_)
    refine H.ret1 (fn := Tryd.f7) Tryd.results7 (RV.tmp_ (v := (.bool true)) (by kernel_rfl)) ?_
    exact ⟨rfl, HP.bl⟩
end Go.Proofs.YtcifcipjndiegaaDoor
namespace Go.Proofs.YtcifcipjndiegaaDoor.streamJoin
open Go.ChangeShapes Go.WideShapes Go.ChangeAt Go.RowKit
theorem walk (a0 : SlA Quad) (a1 : Int) (a2 : Int) (w : World) (hL : Laid w) (h0 : opQs.ok w a0) (h1 : (Lit.int .i64 a1).wf = true) (h2 : (Lit.int .i64 a2).wf = true) :
    Calls Tryd.prog 7 #[(opQs.cells a0).headD undef, .int .i64 a1, .int .i64 a2] w fun e w' => e = .returned (.bool true) ∧ Below w.heap.size w w' :=
  join_law a0.A a0.c a0.l a1 a2 w hL (qs_ok h0).row (qs_ok h0).all (in64_of h1) (in64_of h2)
end Go.Proofs.YtcifcipjndiegaaDoor.streamJoin
namespace Go.Proofs.YtcifcipjndiegaaDoor.streamJoin
open Go.ChangeShapes Go.WideShapes Go.ChangeAt Go.RowKit
open Go.ChangeMaps (open_string shut_string)
set_option linter.unusedVariables false
theorem own : ownKnob Tryd.prog.godebug = none := by kernel_rfl
theorem laidOut : laidOutB Tryd.prog = true := by kernel_rfl
set_option maxRecDepth 100000 in
theorem lifted (os : Os) (started : os.Started) (H : Type) (enc : TypeId × Value → H) :
    ReturnsInHanded {} Tryd.checked os 7 .any (fun w args => (Rows.streamJoinSpec.pre enc Tryd.prog Tryd.f7 [] false w args ∧ laidMetH Tryd.prog laid2 w) ∧ sizedMet enc Tryd.prog Tryd.f7 (OpenSpec.ofChange Rows.streamJoinSpec) false w args) (Rows.streamJoinSpec.post enc Tryd.prog Tryd.f7 false true false false) := by
  refine returns_and_shaped (C := Tryd.checked) (X := fun w _ => laidMetH Tryd.prog laid2 w) (fun _ _ _ hh h => h.of_heap hh) own started (by kernel_rfl) Tryd.func7
    (ChangeSpec.witness_shaped (enc := enc) (C := Tryd.checked) (os := os) (X := fun w _ => laidMetH Tryd.prog laid2 w) false (World.laidAll Tryd.prog os laid2) #[.slice none 0 0, .int .i64 0, .int .i64 0] 12 (World.laidAll_os _ _ _) (World.shaped_of_ZipB (by kernel_rfl) (by kernel_rfl)) (by kernel_rfl) (by kernel_rfl) (by kernel_rfl) (door_met os _)) ?_
  intro W base args ds gs before hval0 hW hsz0 hL hS
  have hval : ∀ (j : Nat) t v, Tryd.f7.params[j]? = some t → args[j]? = some v → Value.okWide Tryd.prog W .any base t v := hval0
  have hW' := hW
  obtain ⟨p, q, hA0, hV, rfl, hfz, hnd⟩ := hW
  have hA : DataW.TrodAll enc Tryd.prog W 0 (fun _ => true) true Tryd.f7.params.toList args.toList ds p := hA0
  have hsz : (DataW.weightsEach Tryd.prog (Tryd.f7.params.toList ++ Rows.streamJoinSpec.plain.varTypes Tryd.prog) (ds ++ gs)).all (· ≤ reachBytes) = true := hsz0
  rw [Tryd.params7] at hA hval hsz
  obtain ⟨v0, vs0, d0, ds0, p0, q0, hargs, rfl, rfl, h0, r0⟩ := trodAll_cons hA
  obtain ⟨v1, vs1, d1, ds1, p1, q1, rfl, rfl, rfl, h1, r1⟩ := trodAll_cons r0
  obtain ⟨v2, vs2, d2, ds2, p2, q2, rfl, rfl, rfl, h2, r2⟩ := trodAll_cons r1
  obtain ⟨rfl, rfl, rfl⟩ := trodAll_nil r2
  obtain rfl : args = #[v0, v1, v2] := by cases args; simp_all
  obtain ⟨rfl, rfl⟩ := trodVars_none hV
  obtain ⟨a0x, len0, cap0, rfl⟩ := okWide_slice Tryd.underlying30 (hval 0 30 v0 rfl rfl)
  have k0 := h0
  have lt0 : ∀ x ∈ p0, x.block < W.heap.size := by obtain ⟨m, hm⟩ := k0; exact DataW.trod_lt m _ _ _ hm
  obtain ⟨a0, w0, e0⟩ : ∃ a, opQs.ok W a ∧ Value.slice a0x len0 cap0 = (opQs.cells a).headD undef := by
    obtain ⟨fuel, hf⟩ := h0
    obtain ⟨a, ha, hok⟩ := opQs.opens hf (fun n hn => of_decide_eq_true (List.all_eq_true.1 hsz n (DataW.weights_mem_each (j := 0) (t := 30) (by rfl) (by rfl) n hn)))
    refine ⟨a, hok, ?_⟩
    have : [Value.slice a0x len0 cap0] = opQs.cells a := ha
    rw [← this]
    rfl
  rw [e0] at k0 hW' ⊢
  obtain ⟨a1, rfl, rfl, rfl, w1⟩ := open_int Tryd.underlying3 (hval 1 3 v1 rfl rfl) h1
  obtain ⟨a2, rfl, rfl, rfl, w2⟩ := open_int Tryd.underlying3 (hval 2 3 v2 rfl rfl) h2
  clear hA0 hval0 hsz0
  refine (walk a0 a1 a2 W (laid_of hL hS) w0 w1 w2).mono fun e W' ⟨he, bel⟩ => ?_
  subst he
  exact ⟨_, rfl, _, _, _, [], _, [], hW', trodAll_mk1 (shut_bool Tryd.underlying4 _), (trodAll_cons_mk (Below.trod laidOut (by kernel_rfl) (of_decide_eq_true (by kernel_rfl)) k0 bel lt0) (trodAll_cons_mk (shut_int Tryd.underlying3 w1) (trodAll_cons_mk (shut_int Tryd.underlying3 w2) trodAll_mk0))), rfl, bel.frame _, fun h => by cases h⟩
theorem over : Rows.streamJoinRow.holds Tryd.pinned (OpenSpec.ofChange Rows.streamJoinSpec) :=
  OpenClaim.holds_of_wide 7 Tryd.f7 rfl rfl rfl rfl rfl rfl rfl ⟨rfl, rfl, rfl, rfl, rfl⟩ rfl rfl rfl rfl rfl (by kernel_rfl) Tryd.func7 (by kernel_rfl)
    (of_decide_eq_true (by kernel_rfl)) (by unfold Func.isWrapper; first | (rw [if_pos (by decide +kernel)]; kernel_rfl) | (rw [if_neg (by decide +kernel)]; exact ⟨rfl, rfl⟩))
    (fun os started H enc _ => lifted os started H enc)
theorem proved : Rows.StreamJoinCardSaid :=
  Claim7.holds_tied_plain_at .later [] [.data, .data, .pinned] true (true, "6f311e653bb6413066dcd6c255ba4e90ddfde23d14300a6253a2c0eab8535950") false
    over (fun _ h => by cases h) (by kernel_rfl) (fun _ h => by cases h) streamJoin_row_tie rfl ⟨rfl, rfl⟩ (by kernel_rfl) rfl
    (fun f fn hf hfn => by
      obtain rfl : f = 7 := Option.some.inj ((show Tryd.prog.funcNamed "onair/onairlaw16.StreamJoin" = some 7 by kernel_rfl).symm.trans hf) |>.symm
      obtain rfl : fn = Tryd.f7 := (Option.some.inj (Tryd.func7.symm.trans hfn)).symm
      exact ⟨by kernel_rfl, fun j t ht => by
        rw [Tryd.params7] at ht
        have hm : t ∈ [30, 3, 3] := by simpa using Array.mem_of_getElem? ht
        have hall : ([30, 3, 3].all fun u => !Tryd.prog.wantsStandIn u) = true := by kernel_rfl
        exact (show Tryd.prog.wantsStandIn t = false by simpa using List.all_eq_true.1 hall t hm)⟩)
    (by kernel_rfl)
#print axioms proved
end Go.Proofs.YtcifcipjndiegaaDoor.streamJoin
