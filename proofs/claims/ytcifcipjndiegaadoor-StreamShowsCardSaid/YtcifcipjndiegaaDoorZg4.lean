/- The statement streamShows.proved: for every input the law returns true and leaves its arguments as they were. No condition. -/
import Derived.Test.YtcifcipjndiegaaDoorCards
import Derived.Test.YtcifcipjndiegaaDoorTie
import Derived.WalkKit
import Derived.ProofKit
import Derived.OpenShut
import Derived.ShutString
import Derived.ChangeOld
import Derived.Below
import Derived.SizedLaws
import Derived.SevenTiedAt
import Derived.Test.YtcifcipjndiegaaDoorZge
namespace Go.Proofs.YtcifcipjndiegaaDoor
open Go.ChangeShapes Go.WideShapes Go.ChangeAt Go.RowKit
set_option linter.unusedVariables false
section
variable {α : Type} {cs : α → Array Value} {size : Nat} {e : TypeId}
theorem Hp.rowNew {w0 w : World} {L : List HB} {K : List FK} (H : Hp w0 w L K) (i : Nat) {bb : Nat} (hi : L[i]? = some (bx bb e [] true)) (L' : List HB) (hL : L.set i (rowsR w0.heap.size e size cs okT feF (.slice (some ⟨bb, 0, none⟩) 0 0) []) = L') : Hp w0 w L' K := by
  have hbb := H.fresh _ (List.mem_of_getElem? hi) rfl bb rfl
  have hlt := (H.at_ i hi).lt
  refine H.mut i hi _ L' hL (Agree.of_below (Below.refl _ _)) ⟨own_none0 (H.at_ i hi) hbb, fun a ha => by cases ha⟩ (rowsR_ok elOk_flat) (fun q hq => ?_) (fun q hq => ?_) (fun q hq hq' => ?_) rfl
  · rcases hq with hq | ⟨_, ha, _⟩
    · cases hq; exact hlt
    · cases ha
  · rcases hq with hq | ⟨_, ha, _⟩
    · cases hq; exact .inl rfl
    · cases ha
  · have := H.fresh _ (List.mem_of_getElem? hi) rfl q hq'
    omega
end
section
variable {α : Type} {cs : α → Array Value} {size : Nat} {P : Program} {ops : Array Oper} {Q : Exit → Act → World → Prop} {a : Act} {w0 w : World} {rest : List Oper} {n : Nat} {L : List (Nat × Value)} {LH : List HB} {K : List FK} {ty : TypeId} {pos : String} {af : Array Edge} {g : Option (Nat × Bool)} {s x : Operand} {t : TypeId}
theorem wp_appX {KK : Act → World → Prop} {o : Oper} (H : Sl n L a) (HP : Hp w0 w LH K) (d ir : Nat) {v : Value} {l : List α} (e : TypeId) {z : Value} {bytes : Nat} (A : Option Addr) (m c : Nat) (l2 : List α)
    (ho : o.op = .call { callee := .builtin .append, args := #[s, x], argTypes := #[t, t] }) (hc : chk ops n L o d = true) (ht : P.underlying t = some (.slice e)) (hinf : infoB P e = some (some z, size, bytes)) (hzs : z.cells.size = size) (hsz : Nat.blt 0 size = true)
    (hs : ev L s = v) (hi : LH[ir]? = some (rowsR w0.heap.size e size cs okT feF v l)) (hx : ev L x = .slice A m c) (hA : A = none → m = 0 ∧ c = 0) (hr : Rd w size A m (flat cs l2)) (h1 : ∀ u ∈ flat cs l2, u.oneCell' = true)
    (hl2 : l2.length = m) (h63 : l.length + m ≤ maxLen) (hbytes : (l.length + m) * bytes ≤ 140737488355328)
    (k : ∀ B c' w' a', Sl n ((d, .slice B (l.length + m) c') :: L) a' → Hp w0 w' (LH.set ir (rowsR w0.heap.size e size cs okT feF (.slice B (l.length + m) c') (l ++ l2))) K → KK a' w') : o.wp P a w KK Q := by
  obtain ⟨hd, hn, hk, hs', hw⟩ := chk_spec hc
  have k1 := knowsAll_spec hk s (by rw [ho]; simp [Op.operands, Call.operands])
  have k2 := knowsAll_spec hk x (by rw [ho]; simp [Op.operands, Call.operands])
  obtain ⟨i, hi0, hi1, hi2, hi3⟩ := infoB_spec hinf
  have hF := HP.held ir hi
  refine wp_append_rd w s x t ho w0.heap.size e i z size bytes ht hi0 hi1 hi2 hi3 hzs (by simp [Nat.blt] at hsz; omega) v l.length (flat cs l) ((H.eval k1).trans hs) hF.1 A m c (flat cs l2) ((H.eval k2).trans hx) hA hr h1 h63 hbytes HP.size ?_
  intro B c' w' hown hg hat
  rw [hd]
  refine k B c' w' _ (H.put _ hn) (HP.mut ir hi _ _ rfl (Agree.of_grown hg fun q e => .inl e) ⟨?_, fun a ha => ⟨trivial, fun q hq => hq.elim⟩⟩ (rowsR_ok elOk_flat) (fun q hq => ?_) (fun q hq => ?_) (fun q hq hq' => ?_) rfl)
  · rw [List.length_append, hl2, show flat cs (l ++ l2) = flat cs l ++ flat cs l2 from List.flatMap_append]
    exact hown
  · rcases hq with hq | ⟨_, _, hq⟩
    · exact (own_lt hown q hq).1
    · exact hq.elim
  · rcases hq with hq | ⟨_, _, hq⟩
    · rcases hat with hat | hat
      · left; left; rw [← hat]; exact hq
      · right; rw [hat] at hq; cases hq; exact Nat.le_refl _
    · exact hq.elim
  · have := HP.fresh _ (List.mem_of_getElem? hi) rfl q hq'
    omega
theorem Sl.appX (H : Sl n L a) (HP : Hp w0 w LH K) (d ir : Nat) {v : Value} {l : List α} (e : TypeId) {z : Value} {bytes : Nat} (A : Option Addr) (m c : Nat) (l2 : List α)
    (hc : chk ops n L ⟨some d, .call { callee := .builtin .append, args := #[s, x], argTypes := #[t, t] }, ty, pos, af, g⟩ d = true) (ht : P.underlying t = some (.slice e)) (hinf : infoB P e = some (some z, size, bytes)) (hzs : z.cells.size = size) (hsz : Nat.blt 0 size = true)
    (hs : ev L s = v) (hi : LH[ir]? = some (rowsR w0.heap.size e size cs okT feF v l)) (hx : ev L x = .slice A m c) (hA : A = none → m = 0 ∧ c = 0) (hr : Rd w size A m (flat cs l2)) (h1 : ∀ u ∈ flat cs l2, u.oneCell' = true)
    (hl2 : l2.length = m) (h63 : l.length + m ≤ maxLen) (hbytes : (l.length + m) * bytes ≤ 140737488355328)
    (k : ∀ B c' w' a', Sl n ((d, .slice B (l.length + m) c') :: L) a' → Hp w0 w' (LH.set ir (rowsR w0.heap.size e size cs okT feF (.slice B (l.length + m) c') (l ++ l2))) K → wpList P ops Q rest a' w') :
    wpList P ops Q (⟨some d, .call { callee := .builtin .append, args := #[s, x], argTypes := #[t, t] }, ty, pos, af, g⟩ :: rest) a w := by
  obtain ⟨_, _, _, _, hw⟩ := chk_spec hc
  exact wpList_wanted (H.wanted hw) (wp_appX H HP d ir e A m c l2 rfl hc ht hinf hzs hsz hs hi hx hA hr h1 hl2 h63 hbytes k)
theorem Op.appX {KK : Act → World → Prop} {i : Nat} (H : Sl n L a) (HP : Hp w0 w LH K) (d ir : Nat) {v : Value} {l : List α} (e : TypeId) {z : Value} {bytes : Nat} (A : Option Addr) (m c : Nat) (l2 : List α)
    (hop : ops[i]? = some ⟨some d, .call { callee := .builtin .append, args := #[s, x], argTypes := #[t, t] }, ty, pos, af, g⟩)
    (hc : chk ops n L ⟨some d, .call { callee := .builtin .append, args := #[s, x], argTypes := #[t, t] }, ty, pos, af, g⟩ d = true) (ht : P.underlying t = some (.slice e)) (hinf : infoB P e = some (some z, size, bytes)) (hzs : z.cells.size = size) (hsz : Nat.blt 0 size = true)
    (hs : ev L s = v) (hi : LH[ir]? = some (rowsR w0.heap.size e size cs okT feF v l)) (hx : ev L x = .slice A m c) (hA : A = none → m = 0 ∧ c = 0) (hr : Rd w size A m (flat cs l2)) (h1 : ∀ u ∈ flat cs l2, u.oneCell' = true)
    (hl2 : l2.length = m) (h63 : l.length + m ≤ maxLen) (hbytes : (l.length + m) * bytes ≤ 140737488355328)
    (k : ∀ B c' w' a', Sl n ((d, .slice B (l.length + m) c') :: L) a' → Hp w0 w' (LH.set ir (rowsR w0.heap.size e size cs okT feF (.slice B (l.length + m) c') (l ++ l2))) K → KK a' w') : wpOp P ops Q i KK a w := by
  obtain ⟨_, _, _, _, hw⟩ := chk_spec hc
  exact wpOp_wanted hop (H.wanted hw) (wp_appX H HP d ir e A m c l2 rfl hc ht hinf hzs hsz hs hi hx hA hr h1 hl2 h63 hbytes k)
end
theorem flat_cell {α : Type} {cs : α → Array Value} {size : Nat} (hk : ∀ x, (cs x).size = size) {l : List α} {j : Nat} {x : α} (h : l[j]? = some x) {f : Nat} (hf : f < size) : (flat cs l)[j * size + f]? = (cs x).toList[f]? := by
  obtain ⟨hj, rfl⟩ := List.getElem?_eq_some_iff.1 h
  rw [flat_get hk l j f hj hf, Array.getElem?_toList]
theorem Hp.elem {α : Type} {cs : α → Array Value} {size : Nat} (hk : ∀ x, (cs x).size = size) {w0 w : World} {L : List HB} {K : List FK} (H : Hp w0 w L K) (i : Nat) {g : Nat} {e : TypeId} {l : List α} {tail : List Value} (hi : L[i]? = some (bx g e (flat cs l ++ tail) true)) {j : Nat} {x : α} (hj : l[j]? = some x) : cellsAt w g (j * size) (cs x).toList := by
  intro f v hv
  have hf : f < size := by
    have := (List.getElem?_eq_some_iff.1 hv).1
    rwa [Array.length_toList, hk] at this
  have hjl := (List.getElem?_eq_some_iff.1 hj).1
  have hm : j * size + size ≤ l.length * size := by rw [← Nat.succ_mul]; exact Nat.mul_le_mul_right _ hjl
  exact H.cell i hi (j * size + f) (by rw [List.getElem?_append_left (by rw [flat_len hk]; omega), flat_cell hk hj hf]; exact hv)
open Go.Shelf
set_option linter.unusedSimpArgs false
def jAll (x : List Quad) (text : Int) : List Cue := makeP x ++ [topC text]
def jE0 (x : List Quad) (text : Int) (i : Nat) : Dec := decRun (fun k => codeP (jAll x text) 0 ((k : Nat) : Int)) ⟨[], []⟩ i
def jD (x : List Quad) (text : Int) (fN j : Nat) : Dec := decRun (fun k => codeP (jAll x text) 0 (((fN : Nat) : Int) + ((k : Nat) : Int))) ⟨[], []⟩ j
def jE (x : List Quad) (text : Int) (fN j : Nat) : Dec := decRun (fun k => codeP [] 0 (((fN : Nat) : Int) + ((k : Nat) : Int))) (jE0 x text fN) (min j 128)
theorem jE0_okk (x text i) : (jE0 x text i).okk := decRun_okk dec0_okk _
theorem jD_okk (x text fN j) : (jD x text fN j).okk := decRun_okk dec0_okk _
theorem jE_okk (x text fN j) : (jE x text fN j).okk := decRun_okk (jE0_okk _ _ _) _
theorem jE_yes {x : List Quad} {text : Int} {fN j : Nat} (h : j < 128) : feedP (codeP [] 0 (((fN : Nat) : Int) + ((j : Nat) : Int))) (jE x text fN j) = jE x text fN (j + 1) := by
 unfold jE; rw [show min (j + 1) 128 = min j 128 + 1 by omega, decRun, Nat.min_eq_left (by omega)]
theorem jE_no {x : List Quad} {text : Int} {fN j : Nat} (h : 128 ≤ j) : jE x text fN j = jE x text fN (j + 1) := by
 unfold jE; rw [Nat.min_eq_right h, Nat.min_eq_right (by omega)]
theorem jE_rows {x : List Quad} {text : Int} {fN : Nat} : (jE x text fN 224).rows = [] := join_nothing
theorem jAll_len (x text) : (jAll x text).length ≤ maxLen := by
 have := make_len8 x; unfold jAll; rw [List.length_append]; simp only [List.length_cons, List.length_nil]; unfold maxLen; omega
theorem top_tx (text : Int) : (topC text).text.length ≤ 1000000 := by
 have := cueP_text 0 (0, 0, 0, text)
 show (texts6.getD (pickP text 6).toNat []).length ≤ _
 simp only [cueP] at this
 omega
theorem jAll_tx {x : List Quad} {text : Int} : ∀ c ∈ jAll x text, c.text.length ≤ 1000000 := fun c h => by
 unfold jAll at h
 rcases List.mem_append.1 h with h | h
 ·exact make_text c h
 ·rcases List.mem_singleton.1 h with rfl; exact top_tx text
theorem jD_rows (x : List Quad) (text : Int) (fN : Nat) (h : fN < 150) : layP (topC text).text = some (jD x text fN 224).rows := by
 obtain ⟨b, hb⟩ : ∃ b, blockP (topC text) = some b := by
  obtain ⟨b, hb⟩ := top_want (x := x) (text := text) (f := 0) (by omega) (by omega)
  exact ⟨b, (wantP_some hb).2⟩
 refine join_shows (b := b) fun k h1 h2 => ?_
 obtain ⟨b', hb'⟩ := top_want (x := x) (text := text) (f := ((k : Nat) : Int)) (by omega) (by omega)
 have e := (wantP_some hb').2
 rw [hb] at e
 cases e
 exact hb'
theorem topQ_eq (text : Int) : makeP [(0, 0, 0, text)] = [(⟨1, 0, 1, 0, (topC text).text⟩ : Cue)] := rfl
theorem quad_in {text : Int} (h : in64 text) : ∀ q ∈ [((0, 0, 0, text) : Quad)], qIn q := fun q hq => by
 rcases List.mem_singleton.1 hq with rfl
 have h0 : in64 0 := by unfold in64; omega
 exact ⟨h0, h0, h0, h⟩
theorem IsRow.quad1 {w : World} {b t : Nat} {q : Quad} (h : Box w b t #[.int .i64 q.1, .int .i64 q.2.1, .int .i64 q.2.2.1, .int .i64 q.2.2.2]) : IsRow 4 quC w (some ⟨b, 0, none⟩) [q] := Rd.of_boxN h rfl
theorem crowsS_any (t : Str) {rows : List Str} (w : World) (h : layP t = some rows) (hl : t.length ≤ 1000000) : Calls Tryd.prog 24 #[.string (bstr t)] w fun e w' => ∃ A c, e = .returned (.tuple #[.slice A rows.length c, .bool true]) ∧ Below w.heap.size w w' ∧ (rowsR w.heap.size 9 1 strC okT feF (.slice A rows.length c) rows).F w' :=
 (crows_any t w hl).mono fun e w' hp => by
  rcases hp with ⟨rows', A, c, h1, rfl, hb, hF⟩ | ⟨h1, _⟩
  ·rw [h] at h1; cases h1; exact ⟨A, c, rfl, hb, hF⟩
  ·rw [h] at h1; cases h1
theorem own_nil {w : World} {base c n : Nat} {e : TypeId} {A : Option Addr} {l : List Cue} (h : (rowsR base e 5 cuC okT feF (.slice A n c) l).F w) : A = none → n = 0 ∧ c = 0 := fun hA => by
 rcases h.1.2 with ⟨h2, _⟩ | ⟨g, _, _, h2, _⟩
 ·cases h2; exact ⟨rfl, rfl⟩
 ·subst hA; cases h2
theorem cu_ones (l : List Cue) : ∀ u ∈ flat cuC l, u.oneCell' = true := by
 intro u hu
 obtain ⟨x, _, hx⟩ := List.mem_flatMap.1 hu
 simp only [List.mem_cons, List.not_mem_nil, or_false] at hx
 rcases hx with rfl | rfl | rfl | rfl | rfl <;> rfl
set_option maxRecDepth 100000 in
set_option maxHeartbeats 4000000 in
theorem join_law (AX : Option Addr) (cx : Nat) (x : List Quad) (text at_ : Int) (w : World) (hL : Laid w) (hx : IsRow 4 quC w AX x) (hinx : ∀ q ∈ x, qIn q) (htx : in64 text) (hat : in64 at_) :
  Calls Tryd.prog 7 #[.slice AX x.length cx, .int .i64 text, .int .i64 at_] w fun e w' => e = .returned (.bool true) ∧ Below w.heap.size w w' := by
 have hfN0 := pickP_in (c := at_) (n := 150) (by omega)
 obtain ⟨fN, hfN⟩ : ∃ n : Nat, pickP at_ 150 = (n : Int) := ⟨(pickP at_ 150).toNat, by omega⟩
 have hfN2 : fN < 150 := by omega
 have HP := ((Hp.start w).keepF (rowF 4 quC AX x) hx (rowF_ok _ _ _ _) fun k hk => ⟨hx.lt k hk, fun x hx => by cases hx⟩).keepF laidK hL laidK_ok fun k hk => ⟨hL.lt k hk, fun x hx => by cases hx⟩
 refine w_enter 89 [(0, (.slice AX x.length cx)), (1, (ii text)), (2, (ii at_))] Tryd.func7 rfl Tryd.ntmps7 (by kernel_rfl) (by kernel_rfl) fun a H => ?_
 refine wp_seq (w_region ?_)
 refine H.ge HP [(6, (.bool false))] [] fun a H => ?_
 refine then_normal (wp_seq (w_region ?_))
 refine H.call 18 (by kernel_rfl) (Eq.trans (by kernel_rfl : _ = (callFunc 8 #[]).run Tryd.prog w) (Tryd.call8 _ _)) (sane_any w (HP.fact 0 rfl)) ?_
 rintro e w_1 ⟨rfl, hbs⟩
 refine ⟨_, rfl, ?_⟩
 intro a H
 have HP := HP.next hbs
 refine H.ge HP [(7, (.bool true))] [] fun a H => ?_
 refine then_normal (wp_seq (w_region ?_))
 refine H.go HP 1 [(19, (ii at_))] [] fun a H => ?_
 refine H.call 20 (by kernel_rfl) (Eq.trans (by kernel_rfl : _ = (callFunc 14 #[(ii at_), (ii 150)]).run Tryd.prog w_1) (Tryd.call14 _ _)) ((by have hh := pick_any at_ 150 w_1 hat (by omega); rw [hfN] at hh; exact hh)) ?_
 rintro e w_2 ⟨rfl, hbp⟩
 refine ⟨_, rfl, ?_⟩
 intro a H
 have HP := HP.next hbp
 refine H.ge HP [(8, (ii fN))] [] fun a H => ?_
 refine then_normal (wp_seq (w_region ?_))
 refine H.go HP 1 [(21, (.slice AX x.length cx))] [] fun a H => ?_
 refine H.call 22 (by kernel_rfl) (Eq.trans (by kernel_rfl : _ = (callFunc 13 #[(.slice AX x.length cx)]).run Tryd.prog w_2) (Tryd.call13 _ _)) (make_any AX cx x w_2 (HP.fact 1 rfl) hinx) ?_
 rintro e w_3 ⟨Mx, mcx, rfl, hbm, hMx⟩
 refine ⟨_, rfl, ?_⟩
 intro a H
 have HP := HP.gain hbm (rowsR w_2.heap.size 23 5 cuC okT feF (.slice Mx (makeP x).length mcx) (makeP x)) hMx (rowsR_ok elOk_flat) (fun k hk => (rows_lt hMx hk).1) (fun k hk => (rows_lt hMx hk).2)
 refine H.ge HP [(9, (.slice Mx ((makeP x).length) mcx))] [] fun a H => ?_
 refine then_normal (wp_seq (w_region ?_))
 refine H.go HP 2 [(24, (.agg #[(ii 0), (ii 0), (ii 0), (ii text)]))] [] fun a H => ?_
 refine H.alloc HP 25 (fun b => (.slice (some ⟨b, 0, none⟩) 1 1)) 53 [(ii 0), (ii 0), (ii 0), (ii text)] (by kernel_rfl) (fun w => by kernel_rfl) fun b_4 w_5 a H HP => ?_
 refine H.call 26 (by kernel_rfl) (Eq.trans (by kernel_rfl : _ = (callFunc 13 #[(.slice (some ⟨b_4, 0, none⟩) 1 1)]).run Tryd.prog w_5) (Tryd.call13 _ _)) ((by have hh := make_any (some ⟨b_4, 0, none⟩) 1 [(0, 0, 0, text)] w_5 (IsRow.quad1 (HP.at_ 0 rfl)) (quad_in htx); rw [topQ_eq] at hh; exact hh)) ?_
 rintro e w_6 ⟨Mt, mct, rfl, hbm, hMt⟩
 refine ⟨_, rfl, ?_⟩
 intro a H
 have HP := HP.gain hbm (rowsR w_5.heap.size 23 5 cuC okT feF (.slice Mt 1 mct) [(⟨1, 0, 1, 0, (topC text).text⟩ : Cue)]) hMt (rowsR_ok elOk_flat) (fun k hk => (rows_lt hMt hk).1) (fun k hk => (rows_lt hMt hk).2)
 obtain ⟨bu, ou, xt, hA, _, _, hxt, _, _⟩ := IsRow.get cuC_size (IsRow.ofCues (l := [(⟨1, 0, 1, 0, (topC text).text⟩ : Cue)]) (HP.held 0 rfl)) (i := 0) (by show 0 < 1; omega)
 obtain rfl : (⟨1, 0, 1, 0, (topC text).text⟩ : Cue) = xt := Option.some.inj hxt
 refine H.u 27 (.pointer (some ⟨bu, ou + 0 * 5, none⟩)) (ex_indexA (b := bu) (off := ou) (len := 1) (cap := mct) (e := 23) (k := 5) (ik := .i64) (i := 0) (m := 0) hA (by kernel_rfl) (by kernel_rfl) rfl (by omega) (by kernel_rfl) (by kernel_rfl)) fun a H => ?_
 refine H.u 28 (.agg #[(ii 1), (ii 0), (ii 1), (ii 0), (.string (bstr ((topC text).text)))]) (ex_loadN (b := bu) (off := ou + 0 * 5) (vs := [(ii 1), (ii 0), (ii 1), (ii 0), (.string (bstr ((topC text).text)))]) (by kernel_rfl) (by kernel_rfl) (by kernel_rfl) rfl (IsRow.cells cuC_size (IsRow.ofCues (l := [(⟨1, 0, 1, 0, (topC text).text⟩ : Cue)]) (HP.held 0 rfl)) hA hxt)) fun a H => ?_
 refine H.alloc HP 10 (fun b => (pt b 0)) 23 [(ii 0), (ii 0), (ii 0), (ii 0), (.string (bstr ([])))] (by kernel_rfl) (fun w => by kernel_rfl) fun b_7 w_8 a H HP => ?_
 refine H.sh HP 0 0 (.agg #[(ii 1), (ii 0), (ii 1), (ii 0), (.string (bstr ((topC text).text)))]) rfl fun w_9 a H HP => ?_
 refine wpList_nil (then_normal (wp_seq (w_region ?_)))
 refine H.go HP 1 [(29, (pt b_7 0))] [] fun a H => ?_
 refine H.sh HP 0 0 (ii 99) rfl fun w_10 a H HP => ?_
 refine wpList_nil (then_normal (wp_seq (w_region ?_)))
 refine H.go HP 1 [(30, (pt b_7 3))] [] fun a H => ?_
 refine H.sh HP 0 3 (ii 3) rfl fun w_11 a H HP => ?_
 refine wpList_nil (then_normal (wp_seq (w_region ?_)))
 refine H.go HP 1 [(31, (pt b_7 2))] [] fun a H => ?_
 refine H.sh HP 0 2 (ii 1000) rfl fun w_12 a H HP => ?_
 refine wpList_nil ?_
 have HP : Hp w w_12 [bx b_7 23 (cuL (topC text)) true, (rowsR w_5.heap.size 23 5 cuC okT feF (.slice Mt 1 mct) [(⟨1, 0, 1, 0, (topC text).text⟩ : Cue)]), bx b_4 53 [(ii 0), (ii 0), (ii 0), (ii text)] true, (rowsR w_2.heap.size 23 5 cuC okT feF (.slice Mx (makeP x).length mcx) (makeP x))] [laidK, rowF 4 quC AX x] := HP
 have HP := (HP.sub [0, 3] [bx b_7 23 (cuL (topC text)) true, (rowsR w_2.heap.size 23 5 cuC okT feF (.slice Mx (makeP x).length mcx) (makeP x))] (by kernel_rfl) (by kernel_rfl))
 refine then_normal (wp_seq (w_region ?_))
 refine H.call 32 (by kernel_rfl) (Eq.trans (by kernel_rfl : _ = (callFunc 11 #[]).run Tryd.prog w_12) (Tryd.call11 _ _)) (newD HP) ?_
 rintro e w_13 ⟨bd, rfl, HPn⟩
 refine ⟨_, rfl, ?_⟩
 intro a H
 have HP := (HPn : Hp w _ [(decR bd none 0 none 0 (⟨[], []⟩)), bx b_7 23 (cuL (topC text)) true, (rowsR w_2.heap.size 23 5 cuC okT feF (.slice Mx (makeP x).length mcx) (makeP x))] [laidK, rowF 4 quC AX x])
 refine H.ge HP [(11, (pt bd 0))] [] fun a H => ?_
 refine then_normal (wp_seq (w_region ?_))
 refine H.call 33 (by kernel_rfl) (Eq.trans (by kernel_rfl : _ = (callFunc 11 #[]).run Tryd.prog w_13) (Tryd.call11 _ _)) (newD HP) ?_
 rintro e w_14 ⟨be, rfl, HPn⟩
 refine ⟨_, rfl, ?_⟩
 intro a H
 have HP := (HPn : Hp w _ [(decR be none 0 none 0 (⟨[], []⟩)), (decR bd none 0 none 0 (⟨[], []⟩)), bx b_7 23 (cuL (topC text)) true, (rowsR w_2.heap.size 23 5 cuC okT feF (.slice Mx (makeP x).length mcx) (makeP x))] [laidK, rowF 4 quC AX x])
 refine H.ge HP [(12, (pt be 0))] [] fun a H => ?_
 refine then_normal ?_
 refine w_cut (fun a wv => ∃ (BA : Option Addr), ∃ (ca : Nat), Sl 89 [(13, (.slice BA ((jAll x text).length) ca)), (7, (.bool true)), (8, (ii fN)), (9, (.slice Mx ((makeP x).length) mcx)), (10, (pt b_7 0)), (11, (pt bd 0)), (12, (pt be 0))] a ∧ Hp w wv [(rowsR w.heap.size 23 5 cuC okT feF (.slice BA ((jAll x text).length) ca) (jAll x text)), (decR be none 0 none 0 (⟨[], []⟩)), (decR bd none 0 none 0 (⟨[], []⟩)), bx b_7 23 (cuL (topC text)) true, (rowsR w_2.heap.size 23 5 cuC okT feF (.slice Mx (makeP x).length mcx) (makeP x))] [laidK, rowF 4 quC AX x]) ?_ ?_
 ·
  refine An.start (fun v => Hp w v [(decR be none 0 none 0 (⟨[], []⟩)), (decR bd none 0 none 0 (⟨[], []⟩)), bx b_7 23 (cuL (topC text)) true, (rowsR w_2.heap.size 23 5 cuC okT feF (.slice Mx (makeP x).length mcx) (makeP x))] [laidK, rowF 4 quC AX x]) 7 7 HP wide_follows rfl fun w_15 HP => ?_
  refine An.go H (.inr (HP)) 5 [1, 3] [(35, (.slice Mx ((makeP x).length) mcx)), (37, (cuV (topC text)))] [2] fun a H => ?_
  refine An.two 0 4 (by kernel_rfl) ?_ ?_
  ·refine Op.alloc H HP 34 (fun b => (.slice (some ⟨b, 0, none⟩) 0 0)) 23 [] rfl (by kernel_rfl) (fun w => by kernel_rfl) fun b_16 w_17 a H HP => ?_
   refine ⟨.inr ((HP.tail rfl)), ?_⟩
   refine An.two 2 4 (by kernel_rfl) ?_ ?_
   ·have HP := HP.rowNew 0 rfl (cs := cuC) (size := 5) [(rowsR w.heap.size 23 5 cuC okT feF (.slice (some ⟨b_16, 0, none⟩) 0 0) ([] : List Cue)), (decR be none 0 none 0 (⟨[], []⟩)), (decR bd none 0 none 0 (⟨[], []⟩)), bx b_7 23 (cuL (topC text)) true, (rowsR w_2.heap.size 23 5 cuC okT feF (.slice Mx (makeP x).length mcx) (makeP x))] (by kernel_rfl)
    refine Op.appX H HP 36 0 (l := ([] : List Cue)) 23 (z := (.agg #[(ii 0), (ii 0), (ii 0), (ii 0), (.string (bstr ([])))])) (bytes := 48) Mx (makeP x).length mcx (makeP x) rfl (by kernel_rfl) (by kernel_rfl) (by kernel_rfl) (by kernel_rfl) (by kernel_rfl) rfl rfl (by kernel_rfl) (own_nil (HP.held 4 rfl)) (Rd.of_own (HP.held 4 rfl).1) (cu_ones _) rfl (by show 0 + (makeP x).length ≤ maxLen; have := make_len8 x; unfold maxLen; omega) (by show (0 + (makeP x).length) * _ ≤ _; have := make_len8 x; omega) fun B_18 c_19 w_20 a H HP => ?_
    rw [show ([] : List Cue).length + (makeP x).length = (makeP x).length from Nat.zero_add _] at H HP
    rw [List.nil_append] at HP
    have HP : Hp w w_20 [(rowsR w.heap.size 23 5 cuC okT feF (.slice B_18 ((makeP x).length) c_19) (makeP x)), (decR be none 0 none 0 (⟨[], []⟩)), (decR bd none 0 none 0 (⟨[], []⟩)), bx b_7 23 (cuL (topC text)) true, (rowsR w_2.heap.size 23 5 cuC okT feF (.slice Mx (makeP x).length mcx) (makeP x))] [laidK, rowF 4 quC AX x] := HP
    refine ⟨.inr ((HP.tail rfl)), ?_⟩
    refine An.one 4 (by kernel_rfl) ?_
    refine Op.alloc H HP 38 (fun b => (.slice (some ⟨b, 0, none⟩) 1 1)) 23 (cuL (topC text)) rfl (by kernel_rfl) (fun w => by kernel_rfl) fun b_21 w_22 a H HP => ?_
    refine ⟨.inr (((HP.tail rfl).tail rfl)), ?_⟩
    refine An.one 5 (by kernel_rfl) ?_
    have HP := HP.pend0 1 rfl elOk_flat (topC text) [bx b_21 23 (cuL (topC text)) true, (rowsP w.heap.size 23 5 cuC okT feF (.slice B_18 ((makeP x).length) c_19) (makeP x) (topC text)), (decR be none 0 none 0 (⟨[], []⟩)), (decR bd none 0 none 0 (⟨[], []⟩)), bx b_7 23 (cuL (topC text)) true, (rowsR w_2.heap.size 23 5 cuC okT feF (.slice Mx (makeP x).length mcx) (makeP x))] (by kernel_rfl) trivial (fun _ h => h)
    refine Op.push H HP 39 1 0 (v := (.slice B_18 ((makeP x).length) c_19)) (e := 23) (p := (topC text)) (l := (makeP x)) (cs := cuC) (ok := okT) (fe := feF) (size := 5) (z := (.agg #[(ii 0), (ii 0), (ii 0), (ii 0), (.string (bstr ([])))])) (bytes := 48) (bb := b_21) (tb := 23) (fb := true) rfl (by kernel_rfl) elOk_flat (by kernel_rfl) (by kernel_rfl) rfl (by kernel_rfl) (by kernel_rfl) (by kernel_rfl) (by kernel_rfl) (by kernel_rfl) rfl (by kernel_rfl) (by have := make_len8 x; unfold maxLen; omega) (by have := make_len8 x; omega) fun B_23 c_24 w_25 a H HP => ?_
    have HP : Hp w w_25 [bx b_21 23 (cuL (topC text)) true, (rowsR w.heap.size 23 5 cuC okT feF (.slice B_23 ((makeP x).length + 1) c_24) (makeP x ++ [(topC text)])), (decR be none 0 none 0 (⟨[], []⟩)), (decR bd none 0 none 0 (⟨[], []⟩)), bx b_7 23 (cuL (topC text)) true, (rowsR w_2.heap.size 23 5 cuC okT feF (.slice Mx (makeP x).length mcx) (makeP x))] [laidK, rowF 4 quC AX x] := HP
    refine ⟨.inr (((HP.tail rfl).tail rfl)), ?_⟩
    refine An.go H (.inr (((HP.tail rfl).tail rfl))) 0 [6] [(13, (.slice B_23 ((makeP x).length + 1) c_24))] [] fun a H => ?_
    refine An.done (by kernel_rfl) ?_
    refine then_normal ?_
    have H := H.as 13 (.slice B_23 ((jAll x text).length) c_24) rfl (congrArg (fun n => Value.slice _ n _) (len_snoc _ _))
    exact ⟨B_23, c_24, H.keep (by kernel_rfl), (by have hh := (HP.sub [1, 2, 3, 4, 5] [(rowsR w.heap.size 23 5 cuC okT feF (.slice B_23 ((makeP x).length + 1) c_24) (makeP x ++ [(topC text)])), (decR be none 0 none 0 (⟨[], []⟩)), (decR bd none 0 none 0 (⟨[], []⟩)), bx b_7 23 (cuL (topC text)) true, (rowsR w_2.heap.size 23 5 cuC okT feF (.slice Mx (makeP x).length mcx) (makeP x))] (by kernel_rfl) (by kernel_rfl)); rw [show (makeP x).length + 1 = (jAll x text).length from len_snoc _ _] at hh; exact hh)⟩
   ·refine Op.alloc H HP 38 (fun b => (.slice (some ⟨b, 0, none⟩) 1 1)) 23 (cuL (topC text)) rfl (by kernel_rfl) (fun w => by kernel_rfl) fun b_26 w_27 a H HP => ?_
    refine ⟨.inr (((HP.tail rfl).tail rfl)), ?_⟩
    refine An.one 2 (by kernel_rfl) ?_
    have HP := HP.rowNew 1 rfl (cs := cuC) (size := 5) [bx b_26 23 (cuL (topC text)) true, (rowsR w.heap.size 23 5 cuC okT feF (.slice (some ⟨b_16, 0, none⟩) 0 0) ([] : List Cue)), (decR be none 0 none 0 (⟨[], []⟩)), (decR bd none 0 none 0 (⟨[], []⟩)), bx b_7 23 (cuL (topC text)) true, (rowsR w_2.heap.size 23 5 cuC okT feF (.slice Mx (makeP x).length mcx) (makeP x))] (by kernel_rfl)
    refine Op.appX H HP 36 1 (l := ([] : List Cue)) 23 (z := (.agg #[(ii 0), (ii 0), (ii 0), (ii 0), (.string (bstr ([])))])) (bytes := 48) Mx (makeP x).length mcx (makeP x) rfl (by kernel_rfl) (by kernel_rfl) (by kernel_rfl) (by kernel_rfl) (by kernel_rfl) rfl rfl (by kernel_rfl) (own_nil (HP.held 5 rfl)) (Rd.of_own (HP.held 5 rfl).1) (cu_ones _) rfl (by show 0 + (makeP x).length ≤ maxLen; have := make_len8 x; unfold maxLen; omega) (by show (0 + (makeP x).length) * _ ≤ _; have := make_len8 x; omega) fun B_28 c_29 w_30 a H HP => ?_
    rw [show ([] : List Cue).length + (makeP x).length = (makeP x).length from Nat.zero_add _] at H HP
    rw [List.nil_append] at HP
    have HP : Hp w w_30 [bx b_26 23 (cuL (topC text)) true, (rowsR w.heap.size 23 5 cuC okT feF (.slice B_28 ((makeP x).length) c_29) (makeP x)), (decR be none 0 none 0 (⟨[], []⟩)), (decR bd none 0 none 0 (⟨[], []⟩)), bx b_7 23 (cuL (topC text)) true, (rowsR w_2.heap.size 23 5 cuC okT feF (.slice Mx (makeP x).length mcx) (makeP x))] [laidK, rowF 4 quC AX x] := HP
    refine ⟨.inr (((HP.tail rfl).tail rfl)), ?_⟩
    refine An.one 5 (by kernel_rfl) ?_
    have HP := HP.pend0 1 rfl elOk_flat (topC text) [bx b_26 23 (cuL (topC text)) true, (rowsP w.heap.size 23 5 cuC okT feF (.slice B_28 ((makeP x).length) c_29) (makeP x) (topC text)), (decR be none 0 none 0 (⟨[], []⟩)), (decR bd none 0 none 0 (⟨[], []⟩)), bx b_7 23 (cuL (topC text)) true, (rowsR w_2.heap.size 23 5 cuC okT feF (.slice Mx (makeP x).length mcx) (makeP x))] (by kernel_rfl) trivial (fun _ h => h)
    refine Op.push H HP 39 1 0 (v := (.slice B_28 ((makeP x).length) c_29)) (e := 23) (p := (topC text)) (l := (makeP x)) (cs := cuC) (ok := okT) (fe := feF) (size := 5) (z := (.agg #[(ii 0), (ii 0), (ii 0), (ii 0), (.string (bstr ([])))])) (bytes := 48) (bb := b_26) (tb := 23) (fb := true) rfl (by kernel_rfl) elOk_flat (by kernel_rfl) (by kernel_rfl) rfl (by kernel_rfl) (by kernel_rfl) (by kernel_rfl) (by kernel_rfl) (by kernel_rfl) rfl (by kernel_rfl) (by have := make_len8 x; unfold maxLen; omega) (by have := make_len8 x; omega) fun B_31 c_32 w_33 a H HP => ?_
    have HP : Hp w w_33 [bx b_26 23 (cuL (topC text)) true, (rowsR w.heap.size 23 5 cuC okT feF (.slice B_31 ((makeP x).length + 1) c_32) (makeP x ++ [(topC text)])), (decR be none 0 none 0 (⟨[], []⟩)), (decR bd none 0 none 0 (⟨[], []⟩)), bx b_7 23 (cuL (topC text)) true, (rowsR w_2.heap.size 23 5 cuC okT feF (.slice Mx (makeP x).length mcx) (makeP x))] [laidK, rowF 4 quC AX x] := HP
    refine ⟨.inr (((HP.tail rfl).tail rfl)), ?_⟩
    refine An.go H (.inr (((HP.tail rfl).tail rfl))) 0 [6] [(13, (.slice B_31 ((makeP x).length + 1) c_32))] [] fun a H => ?_
    refine An.done (by kernel_rfl) ?_
    refine then_normal ?_
    have H := H.as 13 (.slice B_31 ((jAll x text).length) c_32) rfl (congrArg (fun n => Value.slice _ n _) (len_snoc _ _))
    exact ⟨B_31, c_32, H.keep (by kernel_rfl), (by have hh := (HP.sub [1, 2, 3, 4, 5] [(rowsR w.heap.size 23 5 cuC okT feF (.slice B_31 ((makeP x).length + 1) c_32) (makeP x ++ [(topC text)])), (decR be none 0 none 0 (⟨[], []⟩)), (decR bd none 0 none 0 (⟨[], []⟩)), bx b_7 23 (cuL (topC text)) true, (rowsR w_2.heap.size 23 5 cuC okT feF (.slice Mx (makeP x).length mcx) (makeP x))] (by kernel_rfl) (by kernel_rfl)); rw [show (makeP x).length + 1 = (jAll x text).length from len_snoc _ _] at hh; exact hh)⟩
  ·refine Op.alloc H HP 38 (fun b => (.slice (some ⟨b, 0, none⟩) 1 1)) 23 (cuL (topC text)) rfl (by kernel_rfl) (fun w => by kernel_rfl) fun b_34 w_35 a H HP => ?_
   refine ⟨.inr ((HP.tail rfl)), ?_⟩
   refine An.one 0 (by kernel_rfl) ?_
   refine Op.alloc H HP 34 (fun b => (.slice (some ⟨b, 0, none⟩) 0 0)) 23 [] rfl (by kernel_rfl) (fun w => by kernel_rfl) fun b_36 w_37 a H HP => ?_
   refine ⟨.inr (((HP.tail rfl).tail rfl)), ?_⟩
   refine An.one 2 (by kernel_rfl) ?_
   have HP := HP.rowNew 0 rfl (cs := cuC) (size := 5) [(rowsR w.heap.size 23 5 cuC okT feF (.slice (some ⟨b_36, 0, none⟩) 0 0) ([] : List Cue)), bx b_34 23 (cuL (topC text)) true, (decR be none 0 none 0 (⟨[], []⟩)), (decR bd none 0 none 0 (⟨[], []⟩)), bx b_7 23 (cuL (topC text)) true, (rowsR w_2.heap.size 23 5 cuC okT feF (.slice Mx (makeP x).length mcx) (makeP x))] (by kernel_rfl)
   refine Op.appX H HP 36 0 (l := ([] : List Cue)) 23 (z := (.agg #[(ii 0), (ii 0), (ii 0), (ii 0), (.string (bstr ([])))])) (bytes := 48) Mx (makeP x).length mcx (makeP x) rfl (by kernel_rfl) (by kernel_rfl) (by kernel_rfl) (by kernel_rfl) (by kernel_rfl) rfl rfl (by kernel_rfl) (own_nil (HP.held 5 rfl)) (Rd.of_own (HP.held 5 rfl).1) (cu_ones _) rfl (by show 0 + (makeP x).length ≤ maxLen; have := make_len8 x; unfold maxLen; omega) (by show (0 + (makeP x).length) * _ ≤ _; have := make_len8 x; omega) fun B_38 c_39 w_40 a H HP => ?_
   rw [show ([] : List Cue).length + (makeP x).length = (makeP x).length from Nat.zero_add _] at H HP
   rw [List.nil_append] at HP
   have HP : Hp w w_40 [(rowsR w.heap.size 23 5 cuC okT feF (.slice B_38 ((makeP x).length) c_39) (makeP x)), bx b_34 23 (cuL (topC text)) true, (decR be none 0 none 0 (⟨[], []⟩)), (decR bd none 0 none 0 (⟨[], []⟩)), bx b_7 23 (cuL (topC text)) true, (rowsR w_2.heap.size 23 5 cuC okT feF (.slice Mx (makeP x).length mcx) (makeP x))] [laidK, rowF 4 quC AX x] := HP
   refine ⟨.inr (((HP.tail rfl).tail rfl)), ?_⟩
   refine An.one 5 (by kernel_rfl) ?_
   have HP := HP.pend0 0 rfl elOk_flat (topC text) [(rowsP w.heap.size 23 5 cuC okT feF (.slice B_38 ((makeP x).length) c_39) (makeP x) (topC text)), bx b_34 23 (cuL (topC text)) true, (decR be none 0 none 0 (⟨[], []⟩)), (decR bd none 0 none 0 (⟨[], []⟩)), bx b_7 23 (cuL (topC text)) true, (rowsR w_2.heap.size 23 5 cuC okT feF (.slice Mx (makeP x).length mcx) (makeP x))] (by kernel_rfl) trivial (fun _ h => h)
   refine Op.push H HP 39 0 1 (v := (.slice B_38 ((makeP x).length) c_39)) (e := 23) (p := (topC text)) (l := (makeP x)) (cs := cuC) (ok := okT) (fe := feF) (size := 5) (z := (.agg #[(ii 0), (ii 0), (ii 0), (ii 0), (.string (bstr ([])))])) (bytes := 48) (bb := b_34) (tb := 23) (fb := true) rfl (by kernel_rfl) elOk_flat (by kernel_rfl) (by kernel_rfl) rfl (by kernel_rfl) (by kernel_rfl) (by kernel_rfl) (by kernel_rfl) (by kernel_rfl) rfl (by kernel_rfl) (by have := make_len8 x; unfold maxLen; omega) (by have := make_len8 x; omega) fun B_41 c_42 w_43 a H HP => ?_
   have HP : Hp w w_43 [(rowsR w.heap.size 23 5 cuC okT feF (.slice B_41 ((makeP x).length + 1) c_42) (makeP x ++ [(topC text)])), bx b_34 23 (cuL (topC text)) true, (decR be none 0 none 0 (⟨[], []⟩)), (decR bd none 0 none 0 (⟨[], []⟩)), bx b_7 23 (cuL (topC text)) true, (rowsR w_2.heap.size 23 5 cuC okT feF (.slice Mx (makeP x).length mcx) (makeP x))] [laidK, rowF 4 quC AX x] := HP
   refine ⟨.inr (((HP.tail rfl).tail rfl)), ?_⟩
   refine An.go H (.inr (((HP.tail rfl).tail rfl))) 0 [6] [(13, (.slice B_41 ((makeP x).length + 1) c_42))] [] fun a H => ?_
   refine An.done (by kernel_rfl) ?_
   refine then_normal ?_
   have H := H.as 13 (.slice B_41 ((jAll x text).length) c_42) rfl (congrArg (fun n => Value.slice _ n _) (len_snoc _ _))
   exact ⟨B_41, c_42, H.keep (by kernel_rfl), (by have hh := (HP.sub [0, 2, 3, 4, 5] [(rowsR w.heap.size 23 5 cuC okT feF (.slice B_41 ((makeP x).length + 1) c_42) (makeP x ++ [(topC text)])), (decR be none 0 none 0 (⟨[], []⟩)), (decR bd none 0 none 0 (⟨[], []⟩)), bx b_7 23 (cuL (topC text)) true, (rowsR w_2.heap.size 23 5 cuC okT feF (.slice Mx (makeP x).length mcx) (makeP x))] (by kernel_rfl) (by kernel_rfl)); rw [show (makeP x).length + 1 = (jAll x text).length from len_snoc _ _] at hh; exact hh)⟩
 ·
  rintro a w_44 ⟨BA, ca, H, HP⟩
  refine wp_seq (wp_seq (w_region ?_))
  refine H.ge HP [(14, (ii 0))] [] fun a H => ?_
  refine then_normal (wp_block ?_)
  refine w_loop (fun mm a wv => ∃ (i : Nat), ∃ (Be : Option Addr), ∃ (ce : Nat), ∃ (Re : Option Addr), ∃ (cre : Nat), fN - i = mm ∧ Sl 89 [(14, (ii i)), (13, (.slice BA ((jAll x text).length) ca)), (7, (.bool true)), (8, (ii fN)), (9, (.slice Mx ((makeP x).length) mcx)), (10, (pt b_7 0)), (11, (pt bd 0)), (12, (pt be 0))] a ∧ Hp w wv [(rowsR w.heap.size 23 5 cuC okT feF (.slice BA ((jAll x text).length) ca) (jAll x text)), (decR be Be ce Re cre (jE0 x text i)), (decR bd none 0 none 0 (⟨[], []⟩)), bx b_7 23 (cuL (topC text)) true, (rowsR w_2.heap.size 23 5 cuC okT feF (.slice Mx (makeP x).length mcx) (makeP x))] [laidK, rowF 4 quC AX x] ∧ (i ≤ fN)) (fN - 0) ?_ ?_
  ·exact ⟨0, none, 0, none, 0, (by omega), H.keep (by kernel_rfl), HP, (Nat.zero_le _)⟩
  rintro mm a w_45 ⟨i, Be, ce, Re, cre, hmeas, H, HP, hib⟩
  refine wp_seq (wp_seq (w_region ?_))
  refine H.ge HP [(42, (.bool (decide ((i : Int) < (fN : Int)))))] [] fun a H => ?_
  refine then_normal ?_
  refine w_if H rfl (fun g42 => ?_) (fun g42 => ?_)
  ·have g42p := of_decide_eq_true g42
   refine wp_skip (then_normal (wp_seq (wp_block (w_region ?_))))
   refine H.go HP 3 [(45, (pt be 0)), (46, (.slice BA ((jAll x text).length) ca)), (47, (ii i))] [] fun a H => ?_
   refine H.call 48 (by kernel_rfl) (Eq.trans (by kernel_rfl : _ = (callFunc 15 #[(.slice BA ((jAll x text).length) ca), (ii 0), (ii i)]).run Tryd.prog w_45) (Tryd.call15 _ _)) (code_all BA ca (jAll x text) 0 (i : Int) w_45 (HP.fact 0 rfl) (IsRow.ofCues (HP.held 0 rfl)) (jAll_len _ _) jAll_tx (by omega) (by omega) (by omega) (by omega)) ?_
   rintro e w_46 ⟨rfl, hbf⟩
   refine ⟨_, rfl, ?_⟩
   intro a H
   have HP := HP.next hbf
   refine H.call 49 (by kernel_rfl) (Eq.trans (by kernel_rfl : _ = (callFunc 16 #[(pt be 0), (.string (bstr (codeP (jAll x text) 0 (i : Int))))]).run Tryd.prog w_46) (Tryd.call16 _ _)) (feedD HP 1 be Be ce Re cre (jE0 x text i) (codeP (jAll x text) 0 (i : Int)) rfl 0 rfl (jE0_okk _ _ _)) ?_
   rintro e w_51 ⟨rfl, B_47, c_48, R_49, cr_50, HPn⟩
   refine ⟨_, rfl, ?_⟩
   intro a H
   have HP := (HPn : Hp w _ [(rowsR w.heap.size 23 5 cuC okT feF (.slice BA ((jAll x text).length) ca) (jAll x text)), (decR be B_47 c_48 R_49 cr_50 (jE0 x text (i + 1))), (decR bd none 0 none 0 (⟨[], []⟩)), bx b_7 23 (cuL (topC text)) true, (rowsR w_2.heap.size 23 5 cuC okT feF (.slice Mx (makeP x).length mcx) (makeP x))] [laidK, rowF 4 quC AX x])
   refine wpList_nil (inb_normal (then_normal (w_region ?_)))
   refine H.go HP 1 [(43, (ii i))] [] fun a H => ?_
   refine H.wi 44 ((i : Int) + 1) fun a H => ?_
   refine H.ge HP [(14, (ii ((i : Int) + 1)))] [] fun a H => ?_
   refine then_normal ?_
   have H := H.as 14 (ii ((i + 1 : Nat) : Int)) rfl rfl
   refine ⟨_, ?_, i + 1, B_47, c_48, R_49, cr_50, rfl, H.keep (by kernel_rfl), HP, (by omega)⟩
   omega
  ·have g42p := of_decide_eq_false g42
   refine wp_exit (then_exit (then_exit ?_))
   refine w_exit_here ?_
   refine then_normal (wp_seq (wp_seq ?_))
   have hif : i = fN := by omega
   rw [hif] at HP
   refine w_region ?_
   refine H.ge HP [(15, (ii fN))] [] fun a H => ?_
   refine then_normal (wp_block ?_)
   have H := H.as 15 (ii ((fN : Int) + (0 : Int))) rfl (congrArg (Value.int .i64) (Int.add_zero _).symm)
   refine w_loop (fun mm a wv => ∃ (j : Nat), ∃ (Bd : Option Addr), ∃ (cd : Nat), ∃ (Rd_ : Option Addr), ∃ (crd : Nat), ∃ (Be2 : Option Addr), ∃ (ce2 : Nat), ∃ (Re2 : Option Addr), ∃ (cre2 : Nat), 224 - j = mm ∧ Sl 89 [(15, (ii ((fN : Int) + (j : Int)))), (7, (.bool true)), (8, (ii fN)), (10, (pt b_7 0)), (11, (pt bd 0)), (12, (pt be 0)), (13, (.slice BA ((jAll x text).length) ca))] a ∧ Hp w wv [(rowsR w.heap.size 23 5 cuC okT feF (.slice BA ((jAll x text).length) ca) (jAll x text)), (decR be Be2 ce2 Re2 cre2 (jE x text fN j)), (decR bd Bd cd Rd_ crd (jD x text fN j)), bx b_7 23 (cuL (topC text)) true, (rowsR w_2.heap.size 23 5 cuC okT feF (.slice Mx (makeP x).length mcx) (makeP x))] [laidK, rowF 4 quC AX x] ∧ (j ≤ 224)) (224 - 0) ?_ ?_
   ·exact ⟨0, none, 0, none, 0, Be, ce, Re, cre, (by omega), H.keep (by kernel_rfl), HP, (Nat.zero_le _)⟩
   rintro mm a w_52 ⟨j, Bd, cd, Rd_, crd, Be2, ce2, Re2, cre2, hmeas, H, HP, hj⟩
   refine wp_seq (wp_seq (w_region ?_))
   refine H.go HP 2 [(51, (ii ((fN : Int) + (j : Int)))), (52, (ii fN))] [] fun a H => ?_
   refine H.wi 53 ((fN : Int) + 224) fun a H => ?_
   refine H.ge HP [(54, (.bool (decide (((fN : Int) + (j : Int)) < ((fN : Int) + 224)))))] [] fun a H => ?_
   refine then_normal ?_
   refine w_if H rfl (fun g54 => ?_) (fun g54 => ?_)
   ·have g54p := of_decide_eq_true g54
    refine wp_skip (then_normal (wp_seq (wp_block (wp_seq (w_region ?_)))))
    refine H.go HP 3 [(57, (pt bd 0)), (58, (.slice BA ((jAll x text).length) ca)), (59, (ii ((fN : Int) + (j : Int))))] [] fun a H => ?_
    refine H.call 60 (by kernel_rfl) (Eq.trans (by kernel_rfl : _ = (callFunc 15 #[(.slice BA ((jAll x text).length) ca), (ii 0), (ii ((fN : Int) + (j : Int)))]).run Tryd.prog w_52) (Tryd.call15 _ _)) (code_all BA ca (jAll x text) 0 ((fN : Int) + (j : Int)) w_52 (HP.fact 0 rfl) (IsRow.ofCues (HP.held 0 rfl)) (jAll_len _ _) jAll_tx (by omega) (by omega) (by omega) (by omega)) ?_
    rintro e w_53 ⟨rfl, hbf⟩
    refine ⟨_, rfl, ?_⟩
    intro a H
    have HP := HP.next hbf
    refine H.call 61 (by kernel_rfl) (Eq.trans (by kernel_rfl : _ = (callFunc 16 #[(pt bd 0), (.string (bstr (codeP (jAll x text) 0 ((fN : Int) + (j : Int)))))]).run Tryd.prog w_53) (Tryd.call16 _ _)) (feedD HP 2 bd Bd cd Rd_ crd (jD x text fN j) (codeP (jAll x text) 0 ((fN : Int) + (j : Int))) rfl 0 rfl (jD_okk _ _ _ _)) ?_
    rintro e w_58 ⟨rfl, B_54, c_55, R_56, cr_57, HPn⟩
    refine ⟨_, rfl, ?_⟩
    intro a H
    have HP := (HPn : Hp w _ [(rowsR w.heap.size 23 5 cuC okT feF (.slice BA ((jAll x text).length) ca) (jAll x text)), (decR be Be2 ce2 Re2 cre2 (jE x text fN j)), (decR bd B_54 c_55 R_56 cr_57 (jD x text fN (j + 1))), bx b_7 23 (cuL (topC text)) true, (rowsR w_2.heap.size 23 5 cuC okT feF (.slice Mx (makeP x).length mcx) (makeP x))] [laidK, rowF 4 quC AX x])
    refine wpList_nil (then_normal (wp_seq (w_region ?_)))
    refine H.go HP 2 [(62, (ii ((fN : Int) + (j : Int)))), (63, (ii fN))] [] fun a H => ?_
    refine H.wi 64 ((fN : Int) + 128) fun a H => ?_
    refine H.ge HP [(65, (.bool (decide (((fN : Int) + (j : Int)) < ((fN : Int) + 128)))))] [] fun a H => ?_
    refine then_normal ?_
    refine w_if H rfl (fun g65 => ?_) (fun g65 => ?_)
    ·have g65p := of_decide_eq_true g65
     refine w_region ?_
     refine H.go HP 2 [(66, (pt be 0)), (67, (ii ((fN : Int) + (j : Int))))] [] fun a H => ?_
     refine H.call 68 (by kernel_rfl) (Eq.trans (by kernel_rfl : _ = (callFunc 15 #[(.slice none 0 0), (ii 0), (ii ((fN : Int) + (j : Int)))]).run Tryd.prog w_58) (Tryd.call15 _ _)) (code_all none 0 ([]) 0 ((fN : Int) + (j : Int)) w_58 (HP.fact 0 rfl) (IsRow.nil _ _) (by decide) (fun _ h => by cases h) (by omega) (by omega) (by omega) (by omega)) ?_
     rintro e w_59 ⟨rfl, hbf⟩
     refine ⟨_, rfl, ?_⟩
     intro a H
     have HP := HP.next hbf
     refine H.call 69 (by kernel_rfl) (Eq.trans (by kernel_rfl : _ = (callFunc 16 #[(pt be 0), (.string (bstr (codeP ([]) 0 ((fN : Int) + (j : Int)))))]).run Tryd.prog w_59) (Tryd.call16 _ _)) (feedD HP 1 be Be2 ce2 Re2 cre2 (jE x text fN j) (codeP ([]) 0 ((fN : Int) + (j : Int))) rfl 0 rfl (jE_okk _ _ _ _)) ?_
     rintro e w_64 ⟨rfl, B_60, c_61, R_62, cr_63, HPn⟩
     refine ⟨_, rfl, ?_⟩
     intro a H
     have HP := (HPn : Hp w _ [(rowsR w.heap.size 23 5 cuC okT feF (.slice BA ((jAll x text).length) ca) (jAll x text)), (decR be B_60 c_61 R_62 cr_63 (feedP (codeP [] 0 ((fN : Int) + (j : Int))) (jE x text fN j))), (decR bd B_54 c_55 R_56 cr_57 (jD x text fN (j + 1))), bx b_7 23 (cuL (topC text)) true, (rowsR w_2.heap.size 23 5 cuC okT feF (.slice Mx (makeP x).length mcx) (makeP x))] [laidK, rowF 4 quC AX x])
     refine wpList_nil (inb_normal (then_normal (w_region ?_)))
     refine H.go HP 1 [(55, (ii ((fN : Int) + (j : Int))))] [] fun a H => ?_
     refine H.wi 56 (((fN : Int) + (j : Int)) + 1) fun a H => ?_
     refine H.ge HP [(15, (ii (((fN : Int) + (j : Int)) + 1)))] [] fun a H => ?_
     refine then_normal ?_
     have H := H.as 15 (ii ((fN : Int) + ((j + 1 : Nat) : Int))) rfl (congrArg (Value.int .i64) (by omega))
     refine ⟨_, ?_, j + 1, B_54, c_55, R_56, cr_57, B_60, c_61, R_62, cr_63, rfl, H.keep (by kernel_rfl), (by have hh : Hp w _ [(rowsR w.heap.size 23 5 cuC okT feF (.slice BA ((jAll x text).length) ca) (jAll x text)), (decR be B_60 c_61 R_62 cr_63 (feedP (codeP [] 0 ((fN : Int) + (j : Int))) (jE x text fN j))), (decR bd B_54 c_55 R_56 cr_57 (jD x text fN (j + 1))), bx b_7 23 (cuL (topC text)) true, (rowsR w_2.heap.size 23 5 cuC okT feF (.slice Mx (makeP x).length mcx) (makeP x))] [laidK, rowF 4 quC AX x] := HP; rw [jE_yes (by omega)] at hh; exact hh), (by omega)⟩
     omega
    ·have g65p := of_decide_eq_false g65
     refine wp_skip (inb_normal (then_normal (w_region ?_)))
     refine H.go HP 1 [(55, (ii ((fN : Int) + (j : Int))))] [] fun a H => ?_
     refine H.wi 56 (((fN : Int) + (j : Int)) + 1) fun a H => ?_
     refine H.ge HP [(15, (ii (((fN : Int) + (j : Int)) + 1)))] [] fun a H => ?_
     refine then_normal ?_
     have H := H.as 15 (ii ((fN : Int) + ((j + 1 : Nat) : Int))) rfl (congrArg (Value.int .i64) (by omega))
     refine ⟨_, ?_, j + 1, B_54, c_55, R_56, cr_57, Be2, ce2, Re2, cre2, rfl, H.keep (by kernel_rfl), (by have hh : Hp w _ [(rowsR w.heap.size 23 5 cuC okT feF (.slice BA ((jAll x text).length) ca) (jAll x text)), (decR be Be2 ce2 Re2 cre2 (jE x text fN j)), (decR bd B_54 c_55 R_56 cr_57 (jD x text fN (j + 1))), bx b_7 23 (cuL (topC text)) true, (rowsR w_2.heap.size 23 5 cuC okT feF (.slice Mx (makeP x).length mcx) (makeP x))] [laidK, rowF 4 quC AX x] := HP; rw [jE_no (by omega)] at hh; exact hh), (by omega)⟩
     omega
   ·have g54p := of_decide_eq_false g54
    refine wp_exit (then_exit (then_exit ?_))
    refine w_exit_here ?_
    refine then_normal (wp_seq ?_)
    have hj224 : j = 224 := by omega
    subst hj224
    refine w_region ?_
    refine H.go HP 2 [(72, (.string (bstr ((topC text).text))))] [3] fun a H => ?_
    refine H.call 73 (by kernel_rfl) (Eq.trans (by kernel_rfl : _ = (callFunc 24 #[(.string (bstr ((topC text).text)))]).run Tryd.prog w_52) (Tryd.call24 _ _)) (crowsS_any (topC text).text w_52 (jD_rows x text fN hfN2) (top_tx text)) ?_
    rintro e w_65 ⟨WA, wc, rfl, hbw, hWA⟩
    refine ⟨_, rfl, ?_⟩
    intro a H
    have HP := HP.gain hbw (rowsR w_52.heap.size 9 1 strC okT feF (.slice WA (jD x text fN 224).rows.length wc) (jD x text fN 224).rows) hWA (rowsR_ok elOk_flat) (fun k hk => (rows_lt hWA hk).1) (fun k hk => (rows_lt hWA hk).2)
    refine H.ge HP [(16, (.slice WA ((jD x text fN 224).rows.length) wc))] [] fun a H => ?_
    refine then_normal (wp_seq (w_region ?_))
    refine H.go HP 3 [(77, (.bool true)), (78, (pt bd 0))] [] fun a H => ?_
    refine H.call 79 (by kernel_rfl) (Eq.trans (by kernel_rfl : _ = (callFunc 19 #[(pt bd 0)]).run Tryd.prog w_65) (Tryd.call19 _ _)) (rowsD HP 3 bd Bd cd Rd_ crd (jD x text fN 224) rfl (jD_okk _ _ _ _)) ?_
    rintro e w_68 ⟨A_66, c_67, rfl, HPn⟩
    refine ⟨_, rfl, ?_⟩
    intro a H
    have HP := (HPn : Hp w _ [(rowsR w_65.heap.size 9 1 strC okT feF (.slice A_66 (jD x text fN 224).rows.length c_67) (jD x text fN 224).rows), (rowsR w_52.heap.size 9 1 strC okT feF (.slice WA (jD x text fN 224).rows.length wc) (jD x text fN 224).rows), (rowsR w.heap.size 23 5 cuC okT feF (.slice BA ((jAll x text).length) ca) (jAll x text)), (decR be Be2 ce2 Re2 cre2 (jE x text fN 224)), (decR bd Bd cd Rd_ crd (jD x text fN 224)), bx b_7 23 (cuL (topC text)) true, (rowsR w_2.heap.size 23 5 cuC okT feF (.slice Mx (makeP x).length mcx) (makeP x))] [laidK, rowF 4 quC AX x])
    refine H.go HP 1 [(80, (.slice WA ((jD x text fN 224).rows.length) wc))] [] fun a H => ?_
    refine H.call 81 (by kernel_rfl) (Eq.trans (by kernel_rfl : _ = (callFunc 18 #[(.slice A_66 ((jD x text fN 224).rows.length) c_67), (.slice WA ((jD x text fN 224).rows.length) wc)]).run Tryd.prog w_68) (Tryd.call18 _ _)) ((by have hh := same_any A_66 WA c_67 wc ((jD x text fN 224).rows) ((jD x text fN 224).rows) w_68 (IsRow.ofRows (HP.held 0 rfl)) (IsRow.ofRows (HP.held 1 rfl)) (Nat.le_trans ((jD_okk _ _ _ _)).2 (by omega)) (Nat.le_trans ((jD_okk _ _ _ _)).2 (by omega)); rw [decide_eq_true (rfl : (jD x text fN 224).rows = (jD x text fN 224).rows)] at hh; exact hh)) ?_
    rintro e w_69 ⟨rfl, hbf⟩
    refine ⟨_, rfl, ?_⟩
    intro a H
    have HP := HP.next hbf
    refine H.go HP 3 [(83, (.bool true)), (84, (pt be 0))] [] fun a H => ?_
    refine H.call 85 (by kernel_rfl) (Eq.trans (by kernel_rfl : _ = (callFunc 19 #[(pt be 0)]).run Tryd.prog w_69) (Tryd.call19 _ _)) (rowsD HP 3 be Be2 ce2 Re2 cre2 (jE x text fN 224) rfl (jE_okk _ _ _ _)) ?_
    rintro e w_72 ⟨A_70, c_71, rfl, HPn⟩
    refine ⟨_, rfl, ?_⟩
    intro a H
    have HP := (HPn : Hp w _ [(rowsR w_69.heap.size 9 1 strC okT feF (.slice A_70 (jE x text fN 224).rows.length c_71) (jE x text fN 224).rows), (rowsR w_65.heap.size 9 1 strC okT feF (.slice A_66 (jD x text fN 224).rows.length c_67) (jD x text fN 224).rows), (rowsR w_52.heap.size 9 1 strC okT feF (.slice WA (jD x text fN 224).rows.length wc) (jD x text fN 224).rows), (rowsR w.heap.size 23 5 cuC okT feF (.slice BA ((jAll x text).length) ca) (jAll x text)), (decR be Be2 ce2 Re2 cre2 (jE x text fN 224)), (decR bd Bd cd Rd_ crd (jD x text fN 224)), bx b_7 23 (cuL (topC text)) true, (rowsR w_2.heap.size 23 5 cuC okT feF (.slice Mx (makeP x).length mcx) (makeP x))] [laidK, rowF 4 quC AX x])
    refine H.go HP 1 [(86, (ii (((jE x text fN 224).rows.length : Nat) : Int)))] [] fun a H => ?_
    refine H.valE 87 (.bool (((((jE x text fN 224).rows.length : Nat) : Int)) == 0)) (.bool true) (by kernel_rfl) (by kernel_rfl) ((congrArg Value.bool (by rw [jE_rows]; rfl))) fun a H => ?_
    refine H.ge HP [(6, (.bool true))] [] fun a H => ?_
    refine then_normal (wp_ret ?_)
    refine H.ret1 (fn := Tryd.f7) Tryd.results7 (RV.tmp_ (v := (.bool true)) (by kernel_rfl)) ?_
    exact ⟨rfl, HP.bl⟩
def jS (x : List Quad) (fN : Nat) (D0 : Dec) (j : Nat) : Dec := decRun (fun k => codeP (makeP x) ((fN : Nat) : Int) (((fN : Nat) : Int) + ((k : Nat) : Int))) D0 j
theorem jS_okk {D0 : Dec} (h : D0.okk) (x : List Quad) (fN : Nat) {j : Nat} : (jS x fN D0 j).okk := decRun_okk h _
section
variable {l : List Cue} {first : Int} {d0 D : Dec} {la c : Cue} {cn j : Nat} {ps : List Cue} {b : Str}
theorem sh_none (hs : shS l first d0 j = ⟨D, la, cn, ps⟩) (hw : wantP l (first + ((j : Nat) : Int)) = none) : shS l first d0 (j + 1) = ⟨feedP (codeP l first (first + ((j : Nat) : Int))) D, la, 0, ps⟩ := by
 rw [shS, hw, hs]
theorem sh_some (hs : shS l first d0 j = ⟨D, la, cn, ps⟩) (hw : wantP l (first + ((j : Nat) : Int)) = some (c, b)) : shS l first d0 (j + 1) = ⟨feedP (codeP l first (first + ((j : Nat) : Int))) D, c, if 0 < cn ∧ c = la then cn + 1 else 1, ps ++ [c]⟩ := by
 rw [shS, hw, hs]
theorem cnt_le {p : Prop} [Decidable p] {n : Nat} : (if p then n + 1 else 1) ≤ n + 1 := by split <;> omega
theorem sh_len0 : ∀ j, (shS l first d0 j).past.length ≤ j ∧ (shS l first d0 j).count ≤ j
 | 0 => ⟨Nat.le_refl _, Nat.le_refl _⟩
 | j + 1 => by
  obtain ⟨h1, h2⟩ := sh_len0 j
  cases hw : wantP l (first + ((j : Nat) : Int)) with
  | none => rw [sh_none rfl hw]; exact ⟨Nat.le_succ_of_le h1, Nat.zero_le _⟩
  | some p =>
   rw [sh_some rfl hw]
   refine ⟨?_, ?_⟩
   ·show ((shS l first d0 j).past ++ [p.1]).length ≤ _
    rw [List.length_append, List.length_singleton]; omega
   ·exact Nat.le_trans cnt_le (Nat.succ_le_succ h2)
theorem sh_len (hs : shS l first d0 j = ⟨D, la, cn, ps⟩) : ps.length ≤ j ∧ cn ≤ j := by
 have := sh_len0 (l := l) (first := first) (d0 := d0) j
 rw [hs] at this
 exact this
theorem rows_nil (hs : shS l first d0 (j + 1) = ⟨D, la, cn, ps⟩) (hw : wantP l (first + ((j : Nat) : Int)) = none) : D.rows = [] := by
 have := (shS_ok l first d0 j).none_ hw
 rw [hs] at this
 exact this
theorem sh_pastOk (hs : shS l first d0 (j + 1) = ⟨D, la, cn, ps⟩) : D.rows = [] ∨ ∃ c ∈ ps, layP c.text = some D.rows := by
 have := (shS_ok l first d0 j).past
 rw [hs] at this
 exact this
theorem far_rows {wr : List Str} (hs : shS l first d0 (j + 1) = ⟨D, c, cn, ps⟩) (hl : layP c.text = some wr) (hn : 96 ≤ cn) : D.rows = wr := by
 have hk := shS_ok l first d0 j
 rw [hs] at hk
 have := (hk.far (show 0 < cn by omega)).shown hk.sd hn
 simp only at this
 rw [hl] at this
 exact (Option.some.inj this).symm
theorem want_lay (hw : wantP l (first + ((j : Nat) : Int)) = some (c, b)) : ∃ wr, layP c.text = some wr := by
 obtain ⟨rows, n, h, _⟩ := blockP_some (wantP_some hw).2
 exact ⟨rows, h⟩
theorem found_true {rows : List Str} {fd2 : Bool} {k : Nat} (hf : fd2 = false → rows ≠ [] ∧ ∀ c ∈ ps.drop k, layP c.text ≠ some rows) (hk : k = 0) (hP : rows = [] ∨ ∃ c ∈ ps, layP c.text = some rows) : fd2 = true := by
 subst hk
 cases fd2 with
 | true => rfl
 | false =>
  obtain ⟨h1, h2⟩ := hf rfl
  rcases hP with h | ⟨c, hc, h⟩
  ·exact absurd h h1
  ·exact absurd h (h2 c hc)
theorem found_init (rows : List Str) (ps : List Cue) : (((rows.length : Nat) : Int) == 0) = false → rows ≠ [] ∧ ∀ c ∈ ps.drop ps.length, layP c.text ≠ some rows := fun h => ⟨fun e => (by rw [e] at h; cases h), fun c hc => (by rw [List.drop_length] at hc; cases hc)⟩
theorem drop_step {rows wp : List Str} {xp : Cue} {k : Nat} (h : ∀ c ∈ ps.drop k, layP c.text ≠ some rows) (hk : 0 < k) (hx : ps[k - 1]? = some xp) (hl : layP xp.text = some wp) (hn : ¬ rows = wp) : ∀ c ∈ ps.drop (k - 1), layP c.text ≠ some rows := by
 intro c hc
 obtain ⟨hlt, hget⟩ := List.getElem?_eq_some_iff.1 hx
 rw [List.drop_eq_getElem_cons hlt, show k - 1 + 1 = k by omega, hget] at hc
 rcases List.mem_cons.1 hc with rfl | hc
 ·rw [hl]; intro e; exact hn (Option.some.inj e).symm
 ·exact h c hc
end
theorem want_len {x : List Quad} {f : Int} {c : Cue} {b : Str} (hw : wantP (makeP x) f = some (c, b)) : c.text.length ≤ 1000000 := make_text c (active_mem (wantP_some hw).1)
theorem sh_pastl0 {x : List Quad} {first : Int} {d0 : Dec} : ∀ j, ∀ c ∈ (shS (makeP x) first d0 j).past, ∃ wr, layP c.text = some wr ∧ c.text.length ≤ 1000000
 | 0, c, h => by cases h
 | j + 1, c, h => by
  cases hw : wantP (makeP x) (first + ((j : Nat) : Int)) with
  | none => rw [sh_none rfl hw] at h; exact sh_pastl0 j c h
  | some p =>
   rw [sh_some rfl hw] at h
   rcases List.mem_append.1 h with h | h
   ·exact sh_pastl0 j c h
   ·rcases List.mem_singleton.1 h with rfl
    obtain ⟨wr, h1⟩ := want_lay hw
    exact ⟨wr, h1, want_len hw⟩
theorem sh_pastl {x : List Quad} {first : Int} {d0 D : Dec} {la : Cue} {cn j : Nat} {ps : List Cue} (hs : shS (makeP x) first d0 j = ⟨D, la, cn, ps⟩) {c : Cue} (hc : c ∈ ps) : ∃ wr, layP c.text = some wr ∧ c.text.length ≤ 1000000 := by
 have := sh_pastl0 (x := x) (first := first) (d0 := d0) j
 rw [hs] at this
 exact this c hc
set_option maxRecDepth 100000 in
set_option maxHeartbeats 4000000 in
theorem shows_law (AL AX : Option Addr) (cl cx : Nat) (l : List Str) (x : List Quad) (fr frames : Int) (w : World) (hL : Laid w) (hl : IsRow 1 strC w AL l) (hx : IsRow 4 quC w AX x) (hll : l.length ≤ 1000000000000000) (hinx : ∀ q ∈ x, qIn q) (hfr : in64 fr) (hframes : in64 frames) :
  Calls Tryd.prog 5 #[.slice AL l.length cl, .slice AX x.length cx, .int .i64 fr, .int .i64 frames] w fun e w' => e = .returned (.bool true) ∧ Below w.heap.size w w' := by
 have hfN0 := pickP_in (c := fr) (n := 300) (by omega)
 obtain ⟨fN, hfN⟩ : ∃ n : Nat, pickP fr 300 = (n : Int) := ⟨(pickP fr 300).toNat, by omega⟩
 have hfN2 : fN < 300 := by omega
 have hnN0 := pickP_in (c := frames) (n := 260) (by omega)
 obtain ⟨nN, hnN⟩ : ∃ n : Nat, pickP frames 260 = (n : Int) := ⟨(pickP frames 260).toNat, by omega⟩
 have hnN2 : nN < 260 := by omega
 have HP := (((Hp.start w).keepF (rowF 4 quC AX x) hx (rowF_ok _ _ _ _) fun k hk => ⟨hx.lt k hk, fun x hx => by cases hx⟩).keepF (rowF 1 strC AL l) hl (rowF_ok _ _ _ _) fun k hk => ⟨hl.lt k hk, fun x hx => by cases hx⟩).keepF laidK hL laidK_ok fun k hk => ⟨hL.lt k hk, fun x hx => by cases hx⟩
 refine w_enter 134 [(0, (.slice AL l.length cl)), (1, (.slice AX x.length cx)), (2, (ii fr)), (3, (ii frames))] Tryd.func5 rfl Tryd.ntmps5 (by kernel_rfl) (by kernel_rfl) fun a H => ?_
 refine wp_seq (w_region ?_)
 refine H.ge HP [(8, (.bool false))] [] fun a H => ?_
 refine then_normal (wp_seq (w_region ?_))
 refine H.call 27 (by kernel_rfl) (Eq.trans (by kernel_rfl : _ = (callFunc 8 #[]).run Tryd.prog w) (Tryd.call8 _ _)) (sane_any w (HP.fact 0 rfl)) ?_
 rintro e w_1 ⟨rfl, hbs⟩
 refine ⟨_, rfl, ?_⟩
 intro a H
 have HP := HP.next hbs
 refine H.ge HP [(9, (.bool true))] [] fun a H => ?_
 refine then_normal (wp_seq (w_region ?_))
 refine H.go HP 1 [(28, (.slice AX x.length cx))] [] fun a H => ?_
 refine H.call 29 (by kernel_rfl) (Eq.trans (by kernel_rfl : _ = (callFunc 13 #[(.slice AX x.length cx)]).run Tryd.prog w_1) (Tryd.call13 _ _)) (make_any AX cx x w_1 (HP.fact 2 rfl) hinx) ?_
 rintro e w_2 ⟨Mx, mcx, rfl, hbm, hMx⟩
 refine ⟨_, rfl, ?_⟩
 intro a H
 have HP := HP.gain hbm (rowsR w_1.heap.size 23 5 cuC okT feF (.slice Mx (makeP x).length mcx) (makeP x)) hMx (rowsR_ok elOk_flat) (fun k hk => (rows_lt hMx hk).1) (fun k hk => (rows_lt hMx hk).2)
 refine H.ge HP [(10, (.slice Mx ((makeP x).length) mcx))] [] fun a H => ?_
 refine then_normal (wp_seq (w_region ?_))
 refine H.call 30 (by kernel_rfl) (Eq.trans (by kernel_rfl : _ = (callFunc 11 #[]).run Tryd.prog w_2) (Tryd.call11 _ _)) (newD HP) ?_
 rintro e w_3 ⟨bd, rfl, HPn⟩
 refine ⟨_, rfl, ?_⟩
 intro a H
 have HP := (HPn : Hp w _ [(decR bd none 0 none 0 (⟨[], []⟩)), (rowsR w_1.heap.size 23 5 cuC okT feF (.slice Mx (makeP x).length mcx) (makeP x))] [laidK, rowF 1 strC AL l, rowF 4 quC AX x])
 refine H.ge HP [(11, (pt bd 0))] [] fun a H => ?_
 refine then_normal ?_
 refine w_cut (fun a wv => ∃ (D0 : Dec), ∃ (Bd : Option Addr), ∃ (cd : Nat), ∃ (Rd_ : Option Addr), ∃ (crd : Nat), Sl 134 [(1, (.slice AX x.length cx)), (2, (ii fr)), (3, (ii frames)), (9, (.bool true)), (10, (.slice Mx ((makeP x).length) mcx)), (11, (pt bd 0))] a ∧ Hp w wv [(decR bd Bd cd Rd_ crd D0), (rowsR w_1.heap.size 23 5 cuC okT feF (.slice Mx (makeP x).length mcx) (makeP x))] [laidK, rowF 1 strC AL l, rowF 4 quC AX x] ∧ D0.okk) ?_ ?_
 ·
  refine wp_seq (w_region ?_)
  refine H.ge HP [(12, (ii 0))] [] fun a H => ?_
  refine then_normal (wp_block ?_)
  refine w_loop (fun mm a wv => ∃ (i : Nat), ∃ (D : Dec), ∃ (Bd : Option Addr), ∃ (cd : Nat), ∃ (Rd_ : Option Addr), ∃ (crd : Nat), l.length - i = mm ∧ Sl 134 [(12, (ii i)), (0, (.slice AL l.length cl)), (1, (.slice AX x.length cx)), (2, (ii fr)), (3, (ii frames)), (9, (.bool true)), (10, (.slice Mx ((makeP x).length) mcx)), (11, (pt bd 0))] a ∧ Hp w wv [(decR bd Bd cd Rd_ crd D), (rowsR w_1.heap.size 23 5 cuC okT feF (.slice Mx (makeP x).length mcx) (makeP x))] [laidK, rowF 1 strC AL l, rowF 4 quC AX x] ∧ (i ≤ l.length) ∧ D.okk) (l.length - 0) ?_ ?_
  ·exact ⟨0, ⟨[], []⟩, none, 0, none, 0, (by omega), H.keep (by kernel_rfl), HP, (Nat.zero_le _), dec0_okk⟩
  rintro mm a w_4 ⟨i, D, Bd, cd, Rd_, crd, hmeas, H, HP, hi, hok⟩
  refine wp_seq (wp_seq (w_region ?_))
  refine H.go HP 5 [(35, (.bool (decide ((i : Int) < (l.length : Int)))))] [] fun a H => ?_
  refine H.split 35 rfl (fun g35 H => ?_) (fun g35 H => ?_)
  ·have g35p := of_decide_eq_true g35
   refine H.ge HP [(38, (.bool (decide ((i : Int) < 20))))] [] fun a H => ?_
   refine then_normal ?_
   refine w_if H rfl (fun g38 => ?_) (fun g38 => ?_)
   ·have g38p := of_decide_eq_true g38
    refine wp_skip (then_normal (wp_seq (wp_block (w_region ?_))))
    refine H.go HP 3 [(41, (pt bd 0)), (42, (.slice AL l.length cl)), (43, (ii i))] [] fun a H => ?_
    obtain ⟨bu_5, ou_6, x_7, hA_8, _, hd_10, hx_9, hm_11, _⟩ := IsRow.get strC_size (HP.fact 1 rfl : IsRow 1 strC _ AL l) (i := i) (by omega)
    refine H.u 44 (.pointer (some ⟨bu_5, ou_6 + i * 1, none⟩)) (ex_indexA (b := bu_5) (off := ou_6) (len := l.length) (cap := cl) (e := 9) (k := 1) (ik := .i64) (i := (i : Int)) (m := i) hA_8 (by kernel_rfl) (by kernel_rfl) rfl (by omega) (by kernel_rfl) (by kernel_rfl)) fun a H => ?_
    refine H.u 45 (.string (bstr x_7)) (ex_l1 (by have hh := IsRow.cells strC_size (HP.fact 1 rfl : IsRow 1 strC _ AL l) hA_8 hx_9 0 _ rfl; rwa [Nat.add_zero] at hh)) fun a H => ?_
    refine H.call 46 (by kernel_rfl) (Eq.trans (by kernel_rfl : _ = (callFunc 16 #[(pt bd 0), (.string (bstr x_7))]).run Tryd.prog w_4) (Tryd.call16 _ _)) (feedD HP 0 bd Bd cd Rd_ crd D x_7 rfl 0 rfl hok) ?_
    rintro e w_16 ⟨rfl, B_12, c_13, R_14, cr_15, HPn⟩
    refine ⟨_, rfl, ?_⟩
    intro a H
    have HP := (HPn : Hp w _ [(decR bd B_12 c_13 R_14 cr_15 (feedP x_7 D)), (rowsR w_1.heap.size 23 5 cuC okT feF (.slice Mx (makeP x).length mcx) (makeP x))] [laidK, rowF 1 strC AL l, rowF 4 quC AX x])
    refine wpList_nil (inb_normal (then_normal (w_region ?_)))
    refine H.go HP 1 [(39, (ii i))] [] fun a H => ?_
    refine H.wi 40 ((i : Int) + 1) fun a H => ?_
    refine H.ge HP [(12, (ii ((i : Int) + 1)))] [] fun a H => ?_
    refine then_normal ?_
    have H := H.as 12 (ii ((i + 1 : Nat) : Int)) rfl rfl
    refine ⟨_, ?_, i + 1, (feedP x_7 D), B_12, c_13, R_14, cr_15, rfl, H.keep (by kernel_rfl), (HP.sub [0, 1] [(decR bd B_12 c_13 R_14 cr_15 (feedP x_7 D)), (rowsR w_1.heap.size 23 5 cuC okT feF (.slice Mx (makeP x).length mcx) (makeP x))] (by kernel_rfl) (by kernel_rfl)), (by omega), (feedP_okk hok)⟩
    omega
   ·have g38p := of_decide_eq_false g38
    refine wp_exit (then_exit (then_exit ?_))
    refine w_exit_here ?_
    refine then_normal ?_
    exact ⟨D, Bd, cd, Rd_, crd, H.keep (by kernel_rfl), (HP.sub [0, 1] [(decR bd Bd cd Rd_ crd D), (rowsR w_1.heap.size 23 5 cuC okT feF (.slice Mx (makeP x).length mcx) (makeP x))] (by kernel_rfl) (by kernel_rfl)), hok⟩
  ·have g35p := of_decide_eq_false g35
   refine H.ge HP [(38, (.bool false))] [] fun a H => ?_
   refine then_normal ?_
   refine w_iff H rfl ?_
   refine wp_exit (then_exit (then_exit ?_))
   refine w_exit_here ?_
   refine then_normal ?_
   exact ⟨D, Bd, cd, Rd_, crd, H.keep (by kernel_rfl), (HP.sub [0, 1] [(decR bd Bd cd Rd_ crd D), (rowsR w_1.heap.size 23 5 cuC okT feF (.slice Mx (makeP x).length mcx) (makeP x))] (by kernel_rfl) (by kernel_rfl)), hok⟩
 ·
  rintro a w_17 ⟨D0, Bd, cd, Rd_, crd, H, HP, hok0⟩
  refine wp_seq (w_region ?_)
  refine H.go HP 1 [(47, (ii fr))] [] fun a H => ?_
  refine H.call 48 (by kernel_rfl) (Eq.trans (by kernel_rfl : _ = (callFunc 14 #[(ii fr), (ii 300)]).run Tryd.prog w_17) (Tryd.call14 _ _)) ((by have hh := pick_any fr 300 w_17 hfr (by omega); rw [hfN] at hh; exact hh)) ?_
  rintro e w_18 ⟨rfl, hbp⟩
  refine ⟨_, rfl, ?_⟩
  intro a H
  have HP := HP.next hbp
  refine H.ge HP [(13, (ii fN))] [] fun a H => ?_
  refine then_normal (wp_seq (w_region ?_))
  refine H.alloc HP 14 (fun b => (pt b 0)) 23 [(ii 0), (ii 0), (ii 0), (ii 0), (.string (bstr ([])))] (by kernel_rfl) (fun w => by kernel_rfl) fun b_19 w_20 a H HP => ?_
  refine wpList_nil (then_normal (wp_seq (w_region ?_)))
  refine H.ge HP [(15, (ii 0))] [] fun a H => ?_
  refine then_normal (wp_seq (w_region ?_))
  refine H.ge HP [(16, (.slice none 0 0))] [] fun a H => ?_
  refine then_normal (wp_seq (wp_seq (w_region ?_)))
  refine H.ge HP [(17, (ii fN))] [] fun a H => ?_
  refine then_normal (wp_block ?_)
  have HP := HP.nilRow w.heap.size 23 5 cuC okT feF elOk_flat
  have H := H.as 17 (ii ((fN : Int) + (0 : Int))) rfl (congrArg (Value.int .i64) (Int.add_zero _).symm)
  refine w_loop (fun mm a wv => ∃ (j : Nat), ∃ (la : Cue), ∃ (cn : Nat), ∃ (ps : List Cue), ∃ (PA : Option Addr), ∃ (pc : Nat), ∃ (Bd2 : Option Addr), ∃ (cd2 : Nat), ∃ (Rd2 : Option Addr), ∃ (crd2 : Nat), nN + 1 - j = mm ∧ Sl 134 [(17, (ii ((fN : Int) + (j : Int)))), (15, (ii cn)), (16, (.slice PA ps.length pc)), (3, (ii frames)), (9, (.bool true)), (10, (.slice Mx ((makeP x).length) mcx)), (11, (pt bd 0)), (13, (ii fN)), (14, (pt b_19 0))] a ∧ Hp w wv [(rowsR w.heap.size 23 5 cuC okT feF (.slice PA ps.length pc) ps), bx b_19 23 [(ii la.id), (ii la.from_), (ii la.to_), (ii la.pri), (.string (bstr la.text))] true, (decR bd Bd2 cd2 Rd2 crd2 (jS x fN D0 j)), (rowsR w_1.heap.size 23 5 cuC okT feF (.slice Mx (makeP x).length mcx) (makeP x))] [laidK, rowF 1 strC AL l, rowF 4 quC AX x] ∧ (j ≤ nN + 1) ∧ (shS (makeP x) (fN : Int) D0 j = ⟨jS x fN D0 j, la, cn, ps⟩)) (nN + 1 - 0) ?_ ?_
  ·exact ⟨0, zeroC, 0, [], none, 0, Bd, cd, Rd_, crd, (by omega), H.keep (by kernel_rfl), HP, (Nat.zero_le _), rfl⟩
  rintro mm a w_21 ⟨j, la, cn, ps, PA, pc, Bd2, cd2, Rd2, crd2, hmeas, H, HP, hj, hs⟩
  obtain ⟨hpl, hcl⟩ := sh_len hs
  refine wp_seq (wp_seq (w_region ?_))
  refine H.go HP 3 [(50, (ii ((fN : Int) + (j : Int)))), (51, (ii fN)), (52, (ii frames))] [] fun a H => ?_
  refine H.call 53 (by kernel_rfl) (Eq.trans (by kernel_rfl : _ = (callFunc 14 #[(ii frames), (ii 260)]).run Tryd.prog w_21) (Tryd.call14 _ _)) ((by have hh := pick_any frames 260 w_21 hframes (by omega); rw [hnN] at hh; exact hh)) ?_
  rintro e w_22 ⟨rfl, hbp⟩
  refine ⟨_, rfl, ?_⟩
  intro a H
  have HP := HP.next hbp
  refine H.wi 54 ((fN : Int) + (nN : Int)) fun a H => ?_
  refine H.ge HP [(55, (.bool (decide (((fN : Int) + (j : Int)) ≤ ((fN : Int) + (nN : Int))))))] [] fun a H => ?_
  refine then_normal ?_
  refine w_if H rfl (fun g55 => ?_) (fun g55 => ?_)
  ·have g55p := of_decide_eq_true g55
   refine wp_skip (then_normal (wp_seq (wp_block (wp_seq (w_region ?_)))))
   refine H.go HP 4 [(58, (pt bd 0)), (59, (.slice Mx ((makeP x).length) mcx)), (60, (ii fN)), (61, (ii ((fN : Int) + (j : Int))))] [] fun a H => ?_
   refine H.call 62 (by kernel_rfl) (Eq.trans (by kernel_rfl : _ = (callFunc 15 #[(.slice Mx ((makeP x).length) mcx), (ii fN), (ii ((fN : Int) + (j : Int)))]).run Tryd.prog w_22) (Tryd.call15 _ _)) (code_all Mx mcx (makeP x) (fN : Int) ((fN : Int) + (j : Int)) w_22 (HP.fact 0 rfl) (IsRow.ofCues (HP.held 3 rfl)) (Nat.le_trans (make_len8 _) (by decide)) make_text (by omega) (by omega) (by omega) (by omega)) ?_
   rintro e w_23 ⟨rfl, hbf⟩
   refine ⟨_, rfl, ?_⟩
   intro a H
   have HP := HP.next hbf
   refine H.call 63 (by kernel_rfl) (Eq.trans (by kernel_rfl : _ = (callFunc 16 #[(pt bd 0), (.string (bstr (codeP (makeP x) (fN : Int) ((fN : Int) + (j : Int)))))]).run Tryd.prog w_23) (Tryd.call16 _ _)) (feedD HP 2 bd Bd2 cd2 Rd2 crd2 (jS x fN D0 j) (codeP (makeP x) (fN : Int) ((fN : Int) + (j : Int))) rfl 0 rfl (jS_okk hok0 _ _)) ?_
   rintro e w_28 ⟨rfl, B_24, c_25, R_26, cr_27, HPn⟩
   refine ⟨_, rfl, ?_⟩
   intro a H
   have HP := (HPn : Hp w _ [(rowsR w.heap.size 23 5 cuC okT feF (.slice PA ps.length pc) ps), bx b_19 23 [(ii la.id), (ii la.from_), (ii la.to_), (ii la.pri), (.string (bstr la.text))] true, (decR bd B_24 c_25 R_26 cr_27 (jS x fN D0 (j + 1))), (rowsR w_1.heap.size 23 5 cuC okT feF (.slice Mx (makeP x).length mcx) (makeP x))] [laidK, rowF 1 strC AL l, rowF 4 quC AX x])
   refine wpList_nil (then_normal (wp_seq (w_region ?_)))
   refine H.go HP 2 [(65, (.slice Mx ((makeP x).length) mcx)), (66, (ii ((fN : Int) + (j : Int))))] [] fun a H => ?_
   refine H.call 67 (by kernel_rfl) (Eq.trans (by kernel_rfl : _ = (callFunc 23 #[(.slice Mx ((makeP x).length) mcx), (ii ((fN : Int) + (j : Int)))]).run Tryd.prog w_28) (Tryd.call23 _ _)) (wanted_any Mx mcx (makeP x) ((fN : Int) + (j : Int)) w_28 (HP.fact 0 rfl) (IsRow.ofCues (HP.held 3 rfl)) (Nat.le_trans (make_len8 _) (by decide)) make_text) ?_
   rintro e w_29 ⟨ac, fd, rfl, hbw, hw1, hw2⟩
   refine ⟨_, rfl, ?_⟩
   intro a H
   have HP := HP.next hbw
   refine H.go HP 3 [(68, (.agg #[(ii ac.id), (ii ac.from_), (ii ac.to_), (ii ac.pri), (.string (bstr ac.text))])), (69, (.bool fd))] [] fun a H => ?_
   refine H.alloc HP 18 (fun b => (pt b 0)) 23 [(ii 0), (ii 0), (ii 0), (ii 0), (.string (bstr ([])))] (by kernel_rfl) (fun w => by kernel_rfl) fun b_30 w_31 a H HP => ?_
   refine H.sh HP 0 0 (.agg #[(ii ac.id), (ii ac.from_), (ii ac.to_), (ii ac.pri), (.string (bstr ac.text))]) rfl fun w_32 a H HP => ?_
   refine H.ge HP [(19, (.bool fd))] [] fun a H => ?_
   refine then_normal (wp_seq (w_region ?_))
   refine H.go HP 1 [(70, (pt bd 0))] [] fun a H => ?_
   refine H.call 71 (by kernel_rfl) (Eq.trans (by kernel_rfl : _ = (callFunc 19 #[(pt bd 0)]).run Tryd.prog w_32) (Tryd.call19 _ _)) (rowsD HP 3 bd B_24 c_25 R_26 cr_27 (jS x fN D0 (j + 1)) rfl (jS_okk hok0 _ _)) ?_
   rintro e w_35 ⟨A_33, c_34, rfl, HPn⟩
   refine ⟨_, rfl, ?_⟩
   intro a H
   have HP := (HPn : Hp w _ [(rowsR w_32.heap.size 9 1 strC okT feF (.slice A_33 (jS x fN D0 (j + 1)).rows.length c_34) (jS x fN D0 (j + 1)).rows), bx b_30 23 [(ii ac.id), (ii ac.from_), (ii ac.to_), (ii ac.pri), (.string (bstr ac.text))] true, (rowsR w.heap.size 23 5 cuC okT feF (.slice PA ps.length pc) ps), bx b_19 23 [(ii la.id), (ii la.from_), (ii la.to_), (ii la.pri), (.string (bstr la.text))] true, (decR bd B_24 c_25 R_26 cr_27 (jS x fN D0 (j + 1))), (rowsR w_1.heap.size 23 5 cuC okT feF (.slice Mx (makeP x).length mcx) (makeP x))] [laidK, rowF 1 strC AL l, rowF 4 quC AX x])
   refine H.ge HP [(20, (.slice A_33 ((jS x fN D0 (j + 1)).rows.length) c_34))] [] fun a H => ?_
   refine then_normal (wp_seq (wp_seq (w_region ?_)))
   refine H.ge HP [(73, (.bool (!fd)))] [] fun a H => ?_
   refine then_normal ?_
   refine w_if H rfl (fun g73 => ?_) (fun g73 => ?_)
   ·have g73p := not_is_true g73
    refine wp_seq ?_
    have hwn := hw2 g73p
    have hS : shS (makeP x) (fN : Int) D0 (j + 1) = ⟨jS x fN D0 (j + 1), la, 0, ps⟩ := sh_none hs hwn
    have hr0 : (jS x fN D0 (j + 1)).rows = [] := rows_nil hS hwn
    refine w_region ?_
    refine H.ge HP [(15, (ii 0))] [] fun a H => ?_
    refine then_normal (wp_seq (wp_seq (w_region ?_)))
    refine H.go HP 2 [(75, (ii (((jS x fN D0 (j + 1)).rows.length : Nat) : Int)))] [] fun a H => ?_
    refine H.valE 76 (.bool (decide ((((jS x fN D0 (j + 1)).rows.length : Nat) : Int) > 0))) (.bool false) (by kernel_rfl) (by kernel_rfl) ((congrArg Value.bool (decide_eq_false (by rw [hr0]; decide)))) fun a H => ?_
    refine wpList_nil (then_normal ?_)
    refine w_iff H rfl ?_
    refine wp_skip (then_normal (wp_exit (then_exit ?_)))
    refine w_exit_here ?_
    refine then_normal (w_region ?_)
    refine H.go HP 1 [(56, (ii ((fN : Int) + (j : Int))))] [] fun a H => ?_
    refine H.wi 57 (((fN : Int) + (j : Int)) + 1) fun a H => ?_
    refine H.ge HP [(17, (ii (((fN : Int) + (j : Int)) + 1)))] [] fun a H => ?_
    refine then_normal ?_
    have H := H.as 17 (ii ((fN : Int) + ((j + 1 : Nat) : Int))) rfl (congrArg (Value.int .i64) (by omega))
    refine ⟨_, ?_, j + 1, la, 0, ps, PA, pc, B_24, c_25, R_26, cr_27, rfl, H.keep (by kernel_rfl), (HP.sub [2, 3, 4, 5] [(rowsR w.heap.size 23 5 cuC okT feF (.slice PA ps.length pc) ps), bx b_19 23 [(ii la.id), (ii la.from_), (ii la.to_), (ii la.pri), (.string (bstr la.text))] true, (decR bd B_24 c_25 R_26 cr_27 (jS x fN D0 (j + 1))), (rowsR w_1.heap.size 23 5 cuC okT feF (.slice Mx (makeP x).length mcx) (makeP x))] (by kernel_rfl) (by kernel_rfl)), (by omega), hS⟩
    omega
   ·have g73p := not_is_false g73
    refine wp_skip (then_normal (wp_seq ?_))
    obtain ⟨bk, hw⟩ := hw1 g73p
    have hS := sh_some hs hw
    obtain ⟨wr, hlay⟩ := want_lay hw
    have hac := want_len hw
    refine w_region ?_
    refine H.go HP 2 [(77, (.slice PA ps.length pc)), (78, (.agg #[(ii ac.id), (ii ac.from_), (ii ac.to_), (ii ac.pri), (.string (bstr ac.text))]))] [1] fun a H => ?_
    refine H.alloc HP 79 (fun b => (.slice (some ⟨b, 0, none⟩) 1 1)) 23 [(ii ac.id), (ii ac.from_), (ii ac.to_), (ii ac.pri), (.string (bstr ac.text))] (by kernel_rfl) (fun w => by kernel_rfl) fun b_36 w_37 a H HP => ?_
    have HP := HP.pend0 3 rfl elOk_flat ac [bx b_36 23 [(ii ac.id), (ii ac.from_), (ii ac.to_), (ii ac.pri), (.string (bstr ac.text))] true, (rowsR w_32.heap.size 9 1 strC okT feF (.slice A_33 (jS x fN D0 (j + 1)).rows.length c_34) (jS x fN D0 (j + 1)).rows), bx b_30 23 [(ii ac.id), (ii ac.from_), (ii ac.to_), (ii ac.pri), (.string (bstr ac.text))] true, (rowsP w.heap.size 23 5 cuC okT feF (.slice PA ps.length pc) ps ac), bx b_19 23 [(ii la.id), (ii la.from_), (ii la.to_), (ii la.pri), (.string (bstr la.text))] true, (decR bd B_24 c_25 R_26 cr_27 (jS x fN D0 (j + 1))), (rowsR w_1.heap.size 23 5 cuC okT feF (.slice Mx (makeP x).length mcx) (makeP x))] (by kernel_rfl) trivial (fun _ h => h)
    refine H.push HP 80 3 0 (v := (.slice PA ps.length pc)) (e := 23) (p := ac) (l := ps) (cs := cuC) (ok := okT) (fe := feF) (size := 5) (z := (.agg #[(ii 0), (ii 0), (ii 0), (ii 0), (.string (bstr ([])))])) (bytes := 48) (bb := b_36) (tb := 23) (fb := true) (by kernel_rfl) elOk_flat (by kernel_rfl) (by kernel_rfl) rfl (by kernel_rfl) (by kernel_rfl) (by kernel_rfl) (by kernel_rfl) (by kernel_rfl) rfl (by kernel_rfl) (by unfold maxLen; omega) (by omega) fun B_38 c_39 w_40 a H HP => ?_
    have HP : Hp w w_40 [bx b_36 23 [(ii ac.id), (ii ac.from_), (ii ac.to_), (ii ac.pri), (.string (bstr ac.text))] true, (rowsR w_32.heap.size 9 1 strC okT feF (.slice A_33 (jS x fN D0 (j + 1)).rows.length c_34) (jS x fN D0 (j + 1)).rows), bx b_30 23 [(ii ac.id), (ii ac.from_), (ii ac.to_), (ii ac.pri), (.string (bstr ac.text))] true, (rowsR w.heap.size 23 5 cuC okT feF (.slice B_38 (ps.length + 1) c_39) (ps ++ [ac])), bx b_19 23 [(ii la.id), (ii la.from_), (ii la.to_), (ii la.pri), (.string (bstr la.text))] true, (decR bd B_24 c_25 R_26 cr_27 (jS x fN D0 (j + 1))), (rowsR w_1.heap.size 23 5 cuC okT feF (.slice Mx (makeP x).length mcx) (makeP x))] [laidK, rowF 1 strC AL l, rowF 4 quC AX x] := HP
    refine H.ge HP [(16, (.slice B_38 (ps.length + 1) c_39))] [] fun a H => ?_
    refine then_normal ?_
    refine w_cut (fun a wv => ∃ (cn2 : Nat), ∃ (PA2 : Option Addr), ∃ (pc2 : Nat), Sl 134 [(15, (ii cn2)), (16, (.slice PA2 ((ps ++ [ac]).length) pc2)), (17, (ii ((fN : Int) + (j : Int)))), (18, (pt b_30 0)), (20, (.slice A_33 ((jS x fN D0 (j + 1)).rows.length) c_34)), (3, (ii frames)), (9, (.bool true)), (10, (.slice Mx ((makeP x).length) mcx)), (11, (pt bd 0)), (13, (ii fN)), (14, (pt b_19 0))] a ∧ Hp w wv [(rowsR w.heap.size 23 5 cuC okT feF (.slice PA2 ((ps ++ [ac]).length) pc2) (ps ++ [ac])), bx b_36 23 [(ii ac.id), (ii ac.from_), (ii ac.to_), (ii ac.pri), (.string (bstr ac.text))] true, (rowsR w_32.heap.size 9 1 strC okT feF (.slice A_33 (jS x fN D0 (j + 1)).rows.length c_34) (jS x fN D0 (j + 1)).rows), bx b_30 23 [(ii ac.id), (ii ac.from_), (ii ac.to_), (ii ac.pri), (.string (bstr ac.text))] true, bx b_19 23 [(ii la.id), (ii la.from_), (ii la.to_), (ii la.pri), (.string (bstr la.text))] true, (decR bd B_24 c_25 R_26 cr_27 (jS x fN D0 (j + 1))), (rowsR w_1.heap.size 23 5 cuC okT feF (.slice Mx (makeP x).length mcx) (makeP x))] [laidK, rowF 1 strC AL l, rowF 4 quC AX x] ∧ (cn2 = if 0 < cn ∧ ac = la then cn + 1 else 1)) ?_ ?_
    ·
     refine wp_seq (w_region ?_)
     refine H.go HP 3 [(83, (.bool (decide ((cn : Int) > 0))))] [] fun a H => ?_
     refine H.split 83 rfl (fun g83 H => ?_) (fun g83 H => ?_)
     ·have g83p := of_decide_eq_true g83
      refine H.go HP 2 [(84, (.agg #[(ii ac.id), (ii ac.from_), (ii ac.to_), (ii ac.pri), (.string (bstr ac.text))])), (85, (.agg #[(ii la.id), (ii la.from_), (ii la.to_), (ii la.pri), (.string (bstr la.text))]))] [2, 4] fun a H => ?_
      refine H.u 86 (.bool (decide (ac = la))) (ex_eqC (a := ac) (b := la) (by kernel_rfl) (by kernel_rfl)) fun a H => ?_
      refine H.ge HP [(87, (.bool (decide (ac = la))))] [] fun a H => ?_
      refine then_normal ?_
      refine w_if H rfl (fun g87 => ?_) (fun g87 => ?_)
      ·have g87p := of_decide_eq_true g87
       refine w_region ?_
       refine H.go HP 1 [(88, (ii cn))] [] fun a H => ?_
       refine H.valE 89 (ii (IntKind.i64.wrap ((cn : Int) + 1))) (ii ((cn + 1 : Nat) : Int)) (by kernel_rfl) (by kernel_rfl) ((by rw [wrap_ini64 _ (by omega)]; rfl)) fun a H => ?_
       refine H.ge HP [(15, (ii ((cn + 1 : Nat) : Int)))] [] fun a H => ?_
       refine then_normal ?_
       have H := H.as 16 (.slice B_38 ((ps ++ [ac]).length) c_39) rfl (congrArg (fun n => Value.slice _ n _) (len_snoc _ _))
       exact ⟨cn + 1, B_38, c_39, H.keep (by kernel_rfl), (by have hh := HP.sub [3, 0, 1, 2, 4, 5, 6] [(rowsR w.heap.size 23 5 cuC okT feF (.slice B_38 (ps.length + 1) c_39) (ps ++ [ac])), bx b_36 23 [(ii ac.id), (ii ac.from_), (ii ac.to_), (ii ac.pri), (.string (bstr ac.text))] true, (rowsR w_32.heap.size 9 1 strC okT feF (.slice A_33 (jS x fN D0 (j + 1)).rows.length c_34) (jS x fN D0 (j + 1)).rows), bx b_30 23 [(ii ac.id), (ii ac.from_), (ii ac.to_), (ii ac.pri), (.string (bstr ac.text))] true, bx b_19 23 [(ii la.id), (ii la.from_), (ii la.to_), (ii la.pri), (.string (bstr la.text))] true, (decR bd B_24 c_25 R_26 cr_27 (jS x fN D0 (j + 1))), (rowsR w_1.heap.size 23 5 cuC okT feF (.slice Mx (makeP x).length mcx) (makeP x))] (by kernel_rfl) (by kernel_rfl); rw [show ps.length + 1 = (ps ++ [ac]).length from (len_snoc _ _)] at hh; exact hh), (by rw [if_pos ⟨by omega, g87p⟩])⟩
      ·have g87p := of_decide_eq_false g87
       refine w_region ?_
       refine H.ge HP [(15, (ii 1))] [] fun a H => ?_
       refine then_normal ?_
       have H := H.as 16 (.slice B_38 ((ps ++ [ac]).length) c_39) rfl (congrArg (fun n => Value.slice _ n _) (len_snoc _ _))
       exact ⟨1, B_38, c_39, H.keep (by kernel_rfl), (by have hh := HP.sub [3, 0, 1, 2, 4, 5, 6] [(rowsR w.heap.size 23 5 cuC okT feF (.slice B_38 (ps.length + 1) c_39) (ps ++ [ac])), bx b_36 23 [(ii ac.id), (ii ac.from_), (ii ac.to_), (ii ac.pri), (.string (bstr ac.text))] true, (rowsR w_32.heap.size 9 1 strC okT feF (.slice A_33 (jS x fN D0 (j + 1)).rows.length c_34) (jS x fN D0 (j + 1)).rows), bx b_30 23 [(ii ac.id), (ii ac.from_), (ii ac.to_), (ii ac.pri), (.string (bstr ac.text))] true, bx b_19 23 [(ii la.id), (ii la.from_), (ii la.to_), (ii la.pri), (.string (bstr la.text))] true, (decR bd B_24 c_25 R_26 cr_27 (jS x fN D0 (j + 1))), (rowsR w_1.heap.size 23 5 cuC okT feF (.slice Mx (makeP x).length mcx) (makeP x))] (by kernel_rfl) (by kernel_rfl); rw [show ps.length + 1 = (ps ++ [ac]).length from (len_snoc _ _)] at hh; exact hh), (by rw [if_neg (fun h => g87p h.2)])⟩
     ·have g83p := of_decide_eq_false g83
      refine H.ge HP [(87, (.bool false))] [] fun a H => ?_
      refine then_normal ?_
      refine w_iff H rfl ?_
      refine w_region ?_
      refine H.ge HP [(15, (ii 1))] [] fun a H => ?_
      refine then_normal ?_
      have H := H.as 16 (.slice B_38 ((ps ++ [ac]).length) c_39) rfl (congrArg (fun n => Value.slice _ n _) (len_snoc _ _))
      exact ⟨1, B_38, c_39, H.keep (by kernel_rfl), (by have hh := HP.sub [3, 0, 1, 2, 4, 5, 6] [(rowsR w.heap.size 23 5 cuC okT feF (.slice B_38 (ps.length + 1) c_39) (ps ++ [ac])), bx b_36 23 [(ii ac.id), (ii ac.from_), (ii ac.to_), (ii ac.pri), (.string (bstr ac.text))] true, (rowsR w_32.heap.size 9 1 strC okT feF (.slice A_33 (jS x fN D0 (j + 1)).rows.length c_34) (jS x fN D0 (j + 1)).rows), bx b_30 23 [(ii ac.id), (ii ac.from_), (ii ac.to_), (ii ac.pri), (.string (bstr ac.text))] true, bx b_19 23 [(ii la.id), (ii la.from_), (ii la.to_), (ii la.pri), (.string (bstr la.text))] true, (decR bd B_24 c_25 R_26 cr_27 (jS x fN D0 (j + 1))), (rowsR w_1.heap.size 23 5 cuC okT feF (.slice Mx (makeP x).length mcx) (makeP x))] (by kernel_rfl) (by kernel_rfl); rw [show ps.length + 1 = (ps ++ [ac]).length from (len_snoc _ _)] at hh; exact hh), (by rw [if_neg (fun h => by have := h.1; omega)])⟩
    ·
     rintro a w_41 ⟨cn2, PA2, pc2, H, HP, hcn⟩
     refine wp_seq ?_
     rw [← hcn] at hS
     have hS : shS (makeP x) (fN : Int) D0 (j + 1) = ⟨jS x fN D0 (j + 1), ac, cn2, ps ++ [ac]⟩ := hS
     have hP := sh_pastOk hS
     have hcn2 : cn2 ≤ cn + 1 := by rw [hcn]; split <;> omega
     have hl2 : (ps ++ [ac]).length = ps.length + 1 := (len_snoc _ _).symm
     refine w_region ?_
     refine H.go HP 1 [(90, (.agg #[(ii ac.id), (ii ac.from_), (ii ac.to_), (ii ac.pri), (.string (bstr ac.text))]))] [3] fun a H => ?_
     refine H.sh HP 4 0 (.agg #[(ii ac.id), (ii ac.from_), (ii ac.to_), (ii ac.pri), (.string (bstr ac.text))]) rfl fun w_42 a H HP => ?_
     refine wpList_nil (then_normal (wp_seq (w_region ?_)))
     refine H.go HP 2 [(93, (.string (bstr ac.text)))] [3] fun a H => ?_
     refine H.call 94 (by kernel_rfl) (Eq.trans (by kernel_rfl : _ = (callFunc 24 #[(.string (bstr ac.text))]).run Tryd.prog w_42) (Tryd.call24 _ _)) (crowsS_any ac.text w_42 hlay hac) ?_
     rintro e w_43 ⟨Awr, cwr, rfl, hbw, hAwr⟩
     refine ⟨_, rfl, ?_⟩
     intro a H
     have HP := HP.gain hbw (rowsR w_42.heap.size 9 1 strC okT feF (.slice Awr wr.length cwr) wr) hAwr (rowsR_ok elOk_flat) (fun k hk => (rows_lt hAwr hk).1) (fun k hk => (rows_lt hAwr hk).2)
     refine H.ge HP [(21, (.slice Awr wr.length cwr))] [] fun a H => ?_
     refine then_normal ?_
     refine w_cut (fun a wv => Sl 134 [(15, (ii cn2)), (16, (.slice PA2 ((ps ++ [ac]).length) pc2)), (17, (ii ((fN : Int) + (j : Int)))), (20, (.slice A_33 ((jS x fN D0 (j + 1)).rows.length) c_34)), (3, (ii frames)), (9, (.bool true)), (10, (.slice Mx ((makeP x).length) mcx)), (11, (pt bd 0)), (13, (ii fN)), (14, (pt b_19 0))] a ∧ Hp w wv [(rowsR w.heap.size 23 5 cuC okT feF (.slice PA2 ((ps ++ [ac]).length) pc2) (ps ++ [ac])), bx b_36 23 [(ii ac.id), (ii ac.from_), (ii ac.to_), (ii ac.pri), (.string (bstr ac.text))] true, (rowsR w_32.heap.size 9 1 strC okT feF (.slice A_33 (jS x fN D0 (j + 1)).rows.length c_34) (jS x fN D0 (j + 1)).rows), bx b_30 23 [(ii ac.id), (ii ac.from_), (ii ac.to_), (ii ac.pri), (.string (bstr ac.text))] true, bx b_19 23 [(ii ac.id), (ii ac.from_), (ii ac.to_), (ii ac.pri), (.string (bstr ac.text))] true, (decR bd B_24 c_25 R_26 cr_27 (jS x fN D0 (j + 1))), (rowsR w_1.heap.size 23 5 cuC okT feF (.slice Mx (makeP x).length mcx) (makeP x))] [laidK, rowF 1 strC AL l, rowF 4 quC AX x]) ?_ ?_
     ·
      refine wp_seq (w_region ?_)
      refine H.go HP 3 [(99, (.bool (decide ((cn2 : Int) ≥ 96))))] [] fun a H => ?_
      refine H.split 99 rfl (fun g99 H => ?_) (fun g99 H => ?_)
      ·have g99p := of_decide_eq_true g99
       refine H.go HP 2 [(100, (.slice A_33 ((jS x fN D0 (j + 1)).rows.length) c_34)), (101, (.slice Awr wr.length cwr))] [] fun a H => ?_
       refine H.call 102 (by kernel_rfl) (Eq.trans (by kernel_rfl : _ = (callFunc 18 #[(.slice A_33 ((jS x fN D0 (j + 1)).rows.length) c_34), (.slice Awr wr.length cwr)]).run Tryd.prog w_43) (Tryd.call18 _ _)) ((by have hh := same_any A_33 Awr c_34 cwr ((jS x fN D0 (j + 1)).rows) wr w_43 (IsRow.ofRows (HP.held 3 rfl)) (IsRow.ofRows (HP.held 0 rfl)) (Nat.le_trans ((jS_okk hok0 _ _)).2 (by omega)) (Nat.le_trans (layP_some hlay).2.1 (by decide)); rw [decide_eq_true (far_rows hS hlay (by omega))] at hh; exact hh)) ?_
       rintro e w_44 ⟨rfl, hbf⟩
       refine ⟨_, rfl, ?_⟩
       intro a H
       have HP := HP.next hbf
       refine H.ge HP [(104, (.bool false))] [] fun a H => ?_
       refine then_normal ?_
       refine w_iff H rfl ?_
       refine wp_skip (then_normal ?_)
       exact ⟨H.keep (by kernel_rfl), (HP.sub [1, 2, 3, 4, 5, 6, 7] [(rowsR w.heap.size 23 5 cuC okT feF (.slice PA2 ((ps ++ [ac]).length) pc2) (ps ++ [ac])), bx b_36 23 [(ii ac.id), (ii ac.from_), (ii ac.to_), (ii ac.pri), (.string (bstr ac.text))] true, (rowsR w_32.heap.size 9 1 strC okT feF (.slice A_33 (jS x fN D0 (j + 1)).rows.length c_34) (jS x fN D0 (j + 1)).rows), bx b_30 23 [(ii ac.id), (ii ac.from_), (ii ac.to_), (ii ac.pri), (.string (bstr ac.text))] true, bx b_19 23 [(ii ac.id), (ii ac.from_), (ii ac.to_), (ii ac.pri), (.string (bstr ac.text))] true, (decR bd B_24 c_25 R_26 cr_27 (jS x fN D0 (j + 1))), (rowsR w_1.heap.size 23 5 cuC okT feF (.slice Mx (makeP x).length mcx) (makeP x))] (by kernel_rfl) (by kernel_rfl))⟩
      ·have g99p := of_decide_eq_false g99
       refine H.ge HP [(104, (.bool false))] [] fun a H => ?_
       refine then_normal ?_
       refine w_iff H rfl ?_
       refine wp_skip (then_normal ?_)
       exact ⟨H.keep (by kernel_rfl), (HP.sub [1, 2, 3, 4, 5, 6, 7] [(rowsR w.heap.size 23 5 cuC okT feF (.slice PA2 ((ps ++ [ac]).length) pc2) (ps ++ [ac])), bx b_36 23 [(ii ac.id), (ii ac.from_), (ii ac.to_), (ii ac.pri), (.string (bstr ac.text))] true, (rowsR w_32.heap.size 9 1 strC okT feF (.slice A_33 (jS x fN D0 (j + 1)).rows.length c_34) (jS x fN D0 (j + 1)).rows), bx b_30 23 [(ii ac.id), (ii ac.from_), (ii ac.to_), (ii ac.pri), (.string (bstr ac.text))] true, bx b_19 23 [(ii ac.id), (ii ac.from_), (ii ac.to_), (ii ac.pri), (.string (bstr ac.text))] true, (decR bd B_24 c_25 R_26 cr_27 (jS x fN D0 (j + 1))), (rowsR w_1.heap.size 23 5 cuC okT feF (.slice Mx (makeP x).length mcx) (makeP x))] (by kernel_rfl) (by kernel_rfl))⟩
     ·
      rintro a w_45 ⟨H, HP⟩
      refine wp_seq (w_region ?_)
      refine H.ge HP [(23, (.bool ((((jS x fN D0 (j + 1)).rows.length : Nat) : Int) == 0)))] [] fun a H => ?_
      refine then_normal ?_
      refine w_cut (fun a wv => Sl 134 [(23, (.bool true)), (15, (ii cn2)), (16, (.slice PA2 ((ps ++ [ac]).length) pc2)), (17, (ii ((fN : Int) + (j : Int)))), (3, (ii frames)), (9, (.bool true)), (10, (.slice Mx ((makeP x).length) mcx)), (11, (pt bd 0)), (13, (ii fN)), (14, (pt b_19 0))] a ∧ Hp w wv [(rowsR w.heap.size 23 5 cuC okT feF (.slice PA2 ((ps ++ [ac]).length) pc2) (ps ++ [ac])), bx b_36 23 [(ii ac.id), (ii ac.from_), (ii ac.to_), (ii ac.pri), (.string (bstr ac.text))] true, (rowsR w_32.heap.size 9 1 strC okT feF (.slice A_33 (jS x fN D0 (j + 1)).rows.length c_34) (jS x fN D0 (j + 1)).rows), bx b_30 23 [(ii ac.id), (ii ac.from_), (ii ac.to_), (ii ac.pri), (.string (bstr ac.text))] true, bx b_19 23 [(ii ac.id), (ii ac.from_), (ii ac.to_), (ii ac.pri), (.string (bstr ac.text))] true, (decR bd B_24 c_25 R_26 cr_27 (jS x fN D0 (j + 1))), (rowsR w_1.heap.size 23 5 cuC okT feF (.slice Mx (makeP x).length mcx) (makeP x))] [laidK, rowF 1 strC AL l, rowF 4 quC AX x]) ?_ ?_
      ·
       refine wp_seq (w_region ?_)
       refine H.go HP 2 [(109, (ii (((ps ++ [ac]).length : Nat) : Int)))] [] fun a H => ?_
       refine H.wi 110 ((((ps ++ [ac]).length : Nat) : Int) - 1) fun a H => ?_
       refine H.ge HP [(24, (ii ((((ps ++ [ac]).length : Nat) : Int) - 1)))] [] fun a H => ?_
       refine then_normal (wp_block ?_)
       refine w_loop (fun mm a wv => ∃ (k : Nat), ∃ (fd2 : Bool), k = mm ∧ Sl 134 [(24, (ii ((k : Int) - 1))), (23, (.bool fd2)), (15, (ii cn2)), (16, (.slice PA2 ((ps ++ [ac]).length) pc2)), (17, (ii ((fN : Int) + (j : Int)))), (20, (.slice A_33 ((jS x fN D0 (j + 1)).rows.length) c_34)), (3, (ii frames)), (9, (.bool true)), (10, (.slice Mx ((makeP x).length) mcx)), (11, (pt bd 0)), (13, (ii fN)), (14, (pt b_19 0))] a ∧ Hp w wv [(rowsR w.heap.size 23 5 cuC okT feF (.slice PA2 ((ps ++ [ac]).length) pc2) (ps ++ [ac])), bx b_36 23 [(ii ac.id), (ii ac.from_), (ii ac.to_), (ii ac.pri), (.string (bstr ac.text))] true, (rowsR w_32.heap.size 9 1 strC okT feF (.slice A_33 (jS x fN D0 (j + 1)).rows.length c_34) (jS x fN D0 (j + 1)).rows), bx b_30 23 [(ii ac.id), (ii ac.from_), (ii ac.to_), (ii ac.pri), (.string (bstr ac.text))] true, bx b_19 23 [(ii ac.id), (ii ac.from_), (ii ac.to_), (ii ac.pri), (.string (bstr ac.text))] true, (decR bd B_24 c_25 R_26 cr_27 (jS x fN D0 (j + 1))), (rowsR w_1.heap.size 23 5 cuC okT feF (.slice Mx (makeP x).length mcx) (makeP x))] [laidK, rowF 1 strC AL l, rowF 4 quC AX x] ∧ (k ≤ (ps ++ [ac]).length) ∧ (fd2 = false → (jS x fN D0 (j + 1)).rows ≠ [] ∧ ∀ c ∈ (ps ++ [ac]).drop k, layP c.text ≠ some (jS x fN D0 (j + 1)).rows)) ((ps ++ [ac]).length) ?_ ?_
       ·exact ⟨(ps ++ [ac]).length, (((jS x fN D0 (j + 1)).rows.length : Nat) : Int) == 0, (by omega), H.keep (by kernel_rfl), HP, (Nat.le_refl _), (found_init _ _)⟩
       rintro mm a w_46 ⟨k, fd2, hmeas, H, HP, hk, hf⟩
       refine wp_seq (wp_seq (w_region ?_))
       refine H.go HP 3 [(113, (.bool (decide (((k : Int) - 1) ≥ 0))))] [] fun a H => ?_
       refine H.split 113 rfl (fun g113 H => ?_) (fun g113 H => ?_)
       ·have g113p := of_decide_eq_true g113
        refine H.ge HP [(116, (.bool (!fd2)))] [] fun a H => ?_
        refine then_normal ?_
        refine w_if H rfl (fun g116 => ?_) (fun g116 => ?_)
        ·have g116p := not_is_true g116
         refine wp_skip (then_normal (wp_seq (wp_block (wp_seq (w_region ?_)))))
         refine H.go HP 2 [(120, (.slice PA2 ((ps ++ [ac]).length) pc2)), (121, (ii ((k : Int) - 1)))] [] fun a H => ?_
         obtain ⟨bu, ou, xp, hA, _, _, hxp, hmp, _⟩ := IsRow.get cuC_size (IsRow.ofCues (l := ps ++ [ac]) (HP.held 0 rfl)) (i := k - 1) (by omega)
         obtain ⟨wp, hlp, htp⟩ := sh_pastl hS hmp
         refine H.u 122 (.pointer (some ⟨bu, ou + (k - 1) * 5, none⟩)) (ex_indexA (b := bu) (off := ou) (len := (ps ++ [ac]).length) (cap := pc2) (e := 23) (k := 5) (ik := .i64) (i := (k : Int) - 1) (m := k - 1) hA (by kernel_rfl) (by kernel_rfl) (by omega) (by omega) (by kernel_rfl) (by kernel_rfl)) fun a H => ?_
         refine H.go HP 1 [(123, (.pointer (some ⟨bu, ou + (k - 1) * 5 + 4, none⟩)))] [] fun a H => ?_
         refine H.u 124 (.string (bstr xp.text)) (ex_l1 (IsRow.cells cuC_size (IsRow.ofCues (l := ps ++ [ac]) (HP.held 0 rfl)) hA hxp 4 _ rfl)) fun a H => ?_
         refine H.call 125 (by kernel_rfl) (Eq.trans (by kernel_rfl : _ = (callFunc 24 #[(.string (bstr xp.text))]).run Tryd.prog w_46) (Tryd.call24 _ _)) (crowsS_any xp.text w_46 hlp htp) ?_
         rintro e w_47 ⟨Awp, cwp, rfl, hbw, hAwp⟩
         refine ⟨_, rfl, ?_⟩
         intro a H
         have HP := HP.gain hbw (rowsR w_46.heap.size 9 1 strC okT feF (.slice Awp wp.length cwp) wp) hAwp (rowsR_ok elOk_flat) (fun k hk => (rows_lt hAwp hk).1) (fun k hk => (rows_lt hAwp hk).2)
         refine H.ge HP [(25, (.slice Awp wp.length cwp))] [] fun a H => ?_
         refine then_normal (w_region ?_)
         refine H.go HP 2 [(128, (.slice A_33 ((jS x fN D0 (j + 1)).rows.length) c_34)), (129, (.slice Awp wp.length cwp))] [] fun a H => ?_
         refine H.call 130 (by kernel_rfl) (Eq.trans (by kernel_rfl : _ = (callFunc 18 #[(.slice A_33 ((jS x fN D0 (j + 1)).rows.length) c_34), (.slice Awp wp.length cwp)]).run Tryd.prog w_47) (Tryd.call18 _ _)) (same_any A_33 Awp c_34 cwp ((jS x fN D0 (j + 1)).rows) wp w_47 (IsRow.ofRows (HP.held 3 rfl)) (IsRow.ofRows (HP.held 0 rfl)) (Nat.le_trans ((jS_okk hok0 _ _)).2 (by omega)) (Nat.le_trans (layP_some hlp).2.1 (by decide))) ?_
         rintro e w_48 ⟨rfl, hbf⟩
         refine ⟨_, rfl, ?_⟩
         intro a H
         have HP := HP.next hbf
         refine H.ge HP [(23, (.bool (decide ((jS x fN D0 (j + 1)).rows = wp))))] [] fun a H => ?_
         refine inb_normal (then_normal (w_region ?_))
         refine H.go HP 1 [(117, (ii ((k : Int) - 1)))] [] fun a H => ?_
         refine H.wi 118 (((k : Int) - 1) - 1) fun a H => ?_
         refine H.ge HP [(24, (ii (((k : Int) - 1) - 1)))] [] fun a H => ?_
         refine then_normal ?_
         have H := H.as 24 (ii (((k - 1 : Nat) : Int) - 1)) rfl (congrArg (Value.int .i64) (by omega))
         refine ⟨_, ?_, k - 1, decide ((jS x fN D0 (j + 1)).rows = wp), rfl, H.keep (by kernel_rfl), (HP.sub [1, 2, 3, 4, 5, 6, 7] [(rowsR w.heap.size 23 5 cuC okT feF (.slice PA2 ((ps ++ [ac]).length) pc2) (ps ++ [ac])), bx b_36 23 [(ii ac.id), (ii ac.from_), (ii ac.to_), (ii ac.pri), (.string (bstr ac.text))] true, (rowsR w_32.heap.size 9 1 strC okT feF (.slice A_33 (jS x fN D0 (j + 1)).rows.length c_34) (jS x fN D0 (j + 1)).rows), bx b_30 23 [(ii ac.id), (ii ac.from_), (ii ac.to_), (ii ac.pri), (.string (bstr ac.text))] true, bx b_19 23 [(ii ac.id), (ii ac.from_), (ii ac.to_), (ii ac.pri), (.string (bstr ac.text))] true, (decR bd B_24 c_25 R_26 cr_27 (jS x fN D0 (j + 1))), (rowsR w_1.heap.size 23 5 cuC okT feF (.slice Mx (makeP x).length mcx) (makeP x))] (by kernel_rfl) (by kernel_rfl)), (by omega), (fun h => ⟨(hf g116p).1, drop_step (hf g116p).2 (by omega) hxp hlp (of_decide_eq_false h)⟩)⟩
         omega
        ·have g116p := not_is_false g116
         refine wp_exit (then_exit (then_exit ?_))
         refine w_exit_here ?_
         refine then_normal ?_
         have H := H.as 23 (.bool true) rfl (congrArg Value.bool (g116p))
         exact ⟨H.keep (by kernel_rfl), (HP.sub [0, 1, 2, 3, 4, 5, 6] [(rowsR w.heap.size 23 5 cuC okT feF (.slice PA2 ((ps ++ [ac]).length) pc2) (ps ++ [ac])), bx b_36 23 [(ii ac.id), (ii ac.from_), (ii ac.to_), (ii ac.pri), (.string (bstr ac.text))] true, (rowsR w_32.heap.size 9 1 strC okT feF (.slice A_33 (jS x fN D0 (j + 1)).rows.length c_34) (jS x fN D0 (j + 1)).rows), bx b_30 23 [(ii ac.id), (ii ac.from_), (ii ac.to_), (ii ac.pri), (.string (bstr ac.text))] true, bx b_19 23 [(ii ac.id), (ii ac.from_), (ii ac.to_), (ii ac.pri), (.string (bstr ac.text))] true, (decR bd B_24 c_25 R_26 cr_27 (jS x fN D0 (j + 1))), (rowsR w_1.heap.size 23 5 cuC okT feF (.slice Mx (makeP x).length mcx) (makeP x))] (by kernel_rfl) (by kernel_rfl))⟩
       ·have g113p := of_decide_eq_false g113
        refine H.ge HP [(116, (.bool false))] [] fun a H => ?_
        refine then_normal ?_
        refine w_iff H rfl ?_
        refine wp_exit (then_exit (then_exit ?_))
        refine w_exit_here ?_
        refine then_normal ?_
        have H := H.as 23 (.bool true) rfl (congrArg Value.bool (found_true hf (by omega) hP))
        exact ⟨H.keep (by kernel_rfl), (HP.sub [0, 1, 2, 3, 4, 5, 6] [(rowsR w.heap.size 23 5 cuC okT feF (.slice PA2 ((ps ++ [ac]).length) pc2) (ps ++ [ac])), bx b_36 23 [(ii ac.id), (ii ac.from_), (ii ac.to_), (ii ac.pri), (.string (bstr ac.text))] true, (rowsR w_32.heap.size 9 1 strC okT feF (.slice A_33 (jS x fN D0 (j + 1)).rows.length c_34) (jS x fN D0 (j + 1)).rows), bx b_30 23 [(ii ac.id), (ii ac.from_), (ii ac.to_), (ii ac.pri), (.string (bstr ac.text))] true, bx b_19 23 [(ii ac.id), (ii ac.from_), (ii ac.to_), (ii ac.pri), (.string (bstr ac.text))] true, (decR bd B_24 c_25 R_26 cr_27 (jS x fN D0 (j + 1))), (rowsR w_1.heap.size 23 5 cuC okT feF (.slice Mx (makeP x).length mcx) (makeP x))] (by kernel_rfl) (by kernel_rfl))⟩
      ·
       rintro a w_49 ⟨H, HP⟩
       refine wp_seq (w_region ?_)
       refine H.ge HP [(132, (.bool false))] [] fun a H => ?_
       refine then_normal ?_
       refine w_iff H rfl ?_
       refine wp_skip (inb_normal (then_normal (w_region ?_)))
       refine H.go HP 1 [(56, (ii ((fN : Int) + (j : Int))))] [] fun a H => ?_
       refine H.wi 57 (((fN : Int) + (j : Int)) + 1) fun a H => ?_
       refine H.ge HP [(17, (ii (((fN : Int) + (j : Int)) + 1)))] [] fun a H => ?_
       refine then_normal ?_
       have H := H.as 17 (ii ((fN : Int) + ((j + 1 : Nat) : Int))) rfl (congrArg (Value.int .i64) (by omega))
       refine ⟨_, ?_, j + 1, ac, cn2, ps ++ [ac], PA2, pc2, B_24, c_25, R_26, cr_27, rfl, H.keep (by kernel_rfl), (HP.sub [0, 4, 5, 6] [(rowsR w.heap.size 23 5 cuC okT feF (.slice PA2 ((ps ++ [ac]).length) pc2) (ps ++ [ac])), bx b_19 23 [(ii ac.id), (ii ac.from_), (ii ac.to_), (ii ac.pri), (.string (bstr ac.text))] true, (decR bd B_24 c_25 R_26 cr_27 (jS x fN D0 (j + 1))), (rowsR w_1.heap.size 23 5 cuC okT feF (.slice Mx (makeP x).length mcx) (makeP x))] (by kernel_rfl) (by kernel_rfl)), (by omega), hS⟩
       omega
  ·have g55p := of_decide_eq_false g55
   refine wp_exit (then_exit (then_exit ?_))
   refine w_exit_here ?_
   refine then_normal (wp_seq (w_region ?_))
   refine H.ge HP [(8, (.bool true))] [] fun a H => ?_
   refine then_normal (wp_ret ?_)
   refine H.ret1 (fn := Tryd.f5) Tryd.results5 (RV.tmp_ (v := (.bool true)) (by kernel_rfl)) ?_
   exact ⟨rfl, HP.bl⟩
end Go.Proofs.YtcifcipjndiegaaDoor
namespace Go.Proofs.YtcifcipjndiegaaDoor.streamShows
open Go.ChangeShapes Go.WideShapes Go.ChangeAt Go.RowKit
theorem walk (a0 : SlA Str) (a1 : SlA Quad) (a2 : Int) (a3 : Int) (w : World) (hL : Laid w) (h0 : opStrs.ok w a0) (h1 : opQs.ok w a1) (h2 : (Lit.int .i64 a2).wf = true) (h3 : (Lit.int .i64 a3).wf = true) :
    Calls Tryd.prog 5 #[(opStrs.cells a0).headD undef, (opQs.cells a1).headD undef, .int .i64 a2, .int .i64 a3] w fun e w' => e = .returned (.bool true) ∧ Below w.heap.size w w' :=
  shows_law a0.A a1.A a0.c a1.c a0.l a1.l a2 a3 w hL (strs_ok h0).row (qs_ok h1).row (strs_ok h0).len (qs_ok h1).all (in64_of h2) (in64_of h3)
end Go.Proofs.YtcifcipjndiegaaDoor.streamShows
namespace Go.Proofs.YtcifcipjndiegaaDoor.streamShows
open Go.ChangeShapes Go.WideShapes Go.ChangeAt Go.RowKit
open Go.ChangeMaps (open_string shut_string)
set_option linter.unusedVariables false
theorem own : ownKnob Tryd.prog.godebug = none := by kernel_rfl
theorem laidOut : laidOutB Tryd.prog = true := by kernel_rfl
set_option maxRecDepth 100000 in
theorem lifted (os : Os) (started : os.Started) (H : Type) (enc : TypeId × Value → H) :
    ReturnsInHanded {} Tryd.checked os 5 .any (fun w args => (Rows.streamShowsSpec.pre enc Tryd.prog Tryd.f5 [] false w args ∧ laidMetH Tryd.prog laid2 w) ∧ sizedMet enc Tryd.prog Tryd.f5 (OpenSpec.ofChange Rows.streamShowsSpec) false w args) (Rows.streamShowsSpec.post enc Tryd.prog Tryd.f5 false true false false) := by
  refine returns_and_shaped (C := Tryd.checked) (X := fun w _ => laidMetH Tryd.prog laid2 w) (fun _ _ _ hh h => h.of_heap hh) own started (by kernel_rfl) Tryd.func5
    (ChangeSpec.witness_shaped (enc := enc) (C := Tryd.checked) (os := os) (X := fun w _ => laidMetH Tryd.prog laid2 w) false (World.laidAll Tryd.prog os laid2) #[.slice none 0 0, .slice none 0 0, .int .i64 0, .int .i64 0] 12 (World.laidAll_os _ _ _) (World.shaped_of_ZipB (by kernel_rfl) (by kernel_rfl)) (by kernel_rfl) (by kernel_rfl) (by kernel_rfl) (door_met os _)) ?_
  intro W base args ds gs before hval0 hW hsz0 hL hS
  have hval : ∀ (j : Nat) t v, Tryd.f5.params[j]? = some t → args[j]? = some v → Value.okWide Tryd.prog W .any base t v := hval0
  have hW' := hW
  obtain ⟨p, q, hA0, hV, rfl, hfz, hnd⟩ := hW
  have hA : DataW.TrodAll enc Tryd.prog W 0 (fun _ => true) true Tryd.f5.params.toList args.toList ds p := hA0
  have hsz : (DataW.weightsEach Tryd.prog (Tryd.f5.params.toList ++ Rows.streamShowsSpec.plain.varTypes Tryd.prog) (ds ++ gs)).all (· ≤ reachBytes) = true := hsz0
  rw [Tryd.params5] at hA hval hsz
  obtain ⟨v0, vs0, d0, ds0, p0, q0, hargs, rfl, rfl, h0, r0⟩ := trodAll_cons hA
  obtain ⟨v1, vs1, d1, ds1, p1, q1, rfl, rfl, rfl, h1, r1⟩ := trodAll_cons r0
  obtain ⟨v2, vs2, d2, ds2, p2, q2, rfl, rfl, rfl, h2, r2⟩ := trodAll_cons r1
  obtain ⟨v3, vs3, d3, ds3, p3, q3, rfl, rfl, rfl, h3, r3⟩ := trodAll_cons r2
  obtain ⟨rfl, rfl, rfl⟩ := trodAll_nil r3
  obtain rfl : args = #[v0, v1, v2, v3] := by cases args; simp_all
  obtain ⟨rfl, rfl⟩ := trodVars_none hV
  obtain ⟨a0x, len0, cap0, rfl⟩ := okWide_slice Tryd.underlying29 (hval 0 29 v0 rfl rfl)
  have k0 := h0
  have lt0 : ∀ x ∈ p0, x.block < W.heap.size := by obtain ⟨m, hm⟩ := k0; exact DataW.trod_lt m _ _ _ hm
  obtain ⟨a0, w0, e0⟩ : ∃ a, opStrs.ok W a ∧ Value.slice a0x len0 cap0 = (opStrs.cells a).headD undef := by
    obtain ⟨fuel, hf⟩ := h0
    obtain ⟨a, ha, hok⟩ := opStrs.opens hf (fun n hn => of_decide_eq_true (List.all_eq_true.1 hsz n (DataW.weights_mem_each (j := 0) (t := 29) (by rfl) (by rfl) n hn)))
    refine ⟨a, hok, ?_⟩
    have : [Value.slice a0x len0 cap0] = opStrs.cells a := ha
    rw [← this]
    rfl
  rw [e0] at k0 hW' ⊢
  obtain ⟨a1x, len1, cap1, rfl⟩ := okWide_slice Tryd.underlying30 (hval 1 30 v1 rfl rfl)
  have k1 := h1
  have lt1 : ∀ x ∈ p1, x.block < W.heap.size := by obtain ⟨m, hm⟩ := k1; exact DataW.trod_lt m _ _ _ hm
  obtain ⟨a1, w1, e1⟩ : ∃ a, opQs.ok W a ∧ Value.slice a1x len1 cap1 = (opQs.cells a).headD undef := by
    obtain ⟨fuel, hf⟩ := h1
    obtain ⟨a, ha, hok⟩ := opQs.opens hf (fun n hn => of_decide_eq_true (List.all_eq_true.1 hsz n (DataW.weights_mem_each (j := 1) (t := 30) (by rfl) (by rfl) n hn)))
    refine ⟨a, hok, ?_⟩
    have : [Value.slice a1x len1 cap1] = opQs.cells a := ha
    rw [← this]
    rfl
  rw [e1] at k1 hW' ⊢
  obtain ⟨a2, rfl, rfl, rfl, w2⟩ := open_int Tryd.underlying3 (hval 2 3 v2 rfl rfl) h2
  obtain ⟨a3, rfl, rfl, rfl, w3⟩ := open_int Tryd.underlying3 (hval 3 3 v3 rfl rfl) h3
  clear hA0 hval0 hsz0
  refine (walk a0 a1 a2 a3 W (laid_of hL hS) w0 w1 w2 w3).mono fun e W' ⟨he, bel⟩ => ?_
  subst he
  exact ⟨_, rfl, _, _, _, [], _, [], hW', trodAll_mk1 (shut_bool Tryd.underlying4 _), (trodAll_cons_mk (Below.trod laidOut (by kernel_rfl) (of_decide_eq_true (by kernel_rfl)) k0 bel lt0) (trodAll_cons_mk (Below.trod laidOut (by kernel_rfl) (of_decide_eq_true (by kernel_rfl)) k1 bel lt1) (trodAll_cons_mk (shut_int Tryd.underlying3 w2) (trodAll_cons_mk (shut_int Tryd.underlying3 w3) trodAll_mk0)))), rfl, bel.frame _, fun h => by cases h⟩
theorem over : Rows.streamShowsRow.holds Tryd.pinned (OpenSpec.ofChange Rows.streamShowsSpec) :=
  OpenClaim.holds_of_wide 5 Tryd.f5 rfl rfl rfl rfl rfl rfl rfl ⟨rfl, rfl, rfl, rfl, rfl⟩ rfl rfl rfl rfl rfl (by kernel_rfl) Tryd.func5 (by kernel_rfl)
    (of_decide_eq_true (by kernel_rfl)) (by unfold Func.isWrapper; first | (rw [if_pos (by decide +kernel)]; kernel_rfl) | (rw [if_neg (by decide +kernel)]; exact ⟨rfl, rfl⟩))
    (fun os started H enc _ => lifted os started H enc)
theorem proved : Rows.StreamShowsCardSaid :=
  Claim7.holds_tied_plain_at .later [] [.data, .data, .pinned] true (true, "6f311e653bb6413066dcd6c255ba4e90ddfde23d14300a6253a2c0eab8535950") false
    over (fun _ h => by cases h) (by kernel_rfl) (fun _ h => by cases h) streamShows_row_tie rfl ⟨rfl, rfl⟩ (by kernel_rfl) rfl
    (fun f fn hf hfn => by
      obtain rfl : f = 5 := Option.some.inj ((show Tryd.prog.funcNamed "onair/onairlaw16.StreamShows" = some 5 by kernel_rfl).symm.trans hf) |>.symm
      obtain rfl : fn = Tryd.f5 := (Option.some.inj (Tryd.func5.symm.trans hfn)).symm
      exact ⟨by kernel_rfl, fun j t ht => by
        rw [Tryd.params5] at ht
        have hm : t ∈ [29, 30, 3, 3] := by simpa using Array.mem_of_getElem? ht
        have hall : ([29, 30, 3, 3].all fun u => !Tryd.prog.wantsStandIn u) = true := by kernel_rfl
        exact (show Tryd.prog.wantsStandIn t = false by simpa using List.all_eq_true.1 hall t hm)⟩)
    (by kernel_rfl)
#print axioms proved
end Go.Proofs.YtcifcipjndiegaaDoor.streamShows
