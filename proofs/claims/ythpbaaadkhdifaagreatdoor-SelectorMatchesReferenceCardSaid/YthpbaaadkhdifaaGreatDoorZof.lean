/- Part 6 of the proofs: SymRg, SeW, SeX, SeY, SeZ, SfA, SfB, SfC, SfD, SfM, SfN, SfO, SgA, SgB, SfE, SgC, RfA, RfB. -/
import Derived.Test.YthpbaaadkhdifaaGreatDoorZoe
namespace Go.Proofs.YthpbaaadkhdifaaGreatDoor
set_option maxRecDepth 100000
set_option maxHeartbeats 4000000
open Go.ChangeShapes Go.WideShapes Go.ChangeAt Go.RowKit Go.Shelf
set_option linter.unusedVariables false
set_option linter.unusedSimpArgs false
section
variable {F:Fence}{P:Program}{n:Nat}
theorem wpIn_range0 {g:Operand}{ps:Array Tmp}{assign body:Code}{Q:Exit→Act→World→Prop}{a:Act}{w:World}
    (hro:F.round=none) (h1:1≤n) {gf:Nat}{lb:Array Value}(hg:a.eval g=.func (.func gf) #[] lb) (hFg:F.fn gf) (eg:∀args w,(callFunc gf args).run P w=.ok (.enter gf args) w)
    (hseq:∀(l:Nat) (W:World),Below w.heap.size w W→CallsIn F (n-1) P gf (#[.func (.yield l) #[] #[]]++lb) W fun e W'=>(∃v,e=.returned v)∧Below W.heap.size W W')
    (hdone:∀(D:Nat) (W:World),w.heap.size≤D→Below w.heap.size w W→W.heap[D]? =some (.deferred (some []))→Q .normal { a with defers:={ target:=.collected D,args:=#[]} ::a.defers} W):
    (Code.rangeFunc g ps assign body).wpIn F n P Q a w:=
  wpIn_rangeO (α:=Empty) hro h1 hg hFg eg (encs:=fun x=>x.elim) (Kp:=fun _ _=>True) (S:=fun _=>True) (Sp:=fun _=>False) (N:=0)
    (fun l J Jx W hW _ hJ hJx hY h0=>(hseq l W hW).mono fun e W' h=>⟨h.1,.inl ⟨[],trivial,OwnFrom.below hJ h0 h.2⟩⟩)
    (fun _ _=>trivial) (fun _ _ _ _ _ _ _ _ _=>trivial) (fun x=>x.elim) (fun _ W=>Below w.heap.size w W) (fun _ _ _=>False) (ownFrom_below (Nat.le_refl _) (Nat.le_refl _)) (fun c=>ownFrom_pure _ _) (Below.refl _ _)
    (fun x=>x.elim) (fun x=>x.elim) (fun l pre x=>x.elim) (fun l pre x=>x.elim) (fun D xs W hD _ hb hd=>hdone D W hD hb hd) (fun D c pre W hD h=>h.elim)
end
def rd1 (B:Nat) (I1:World→Prop) (IX:Code→World→Prop) (W:World):Exit→Act→World→Prop
  | .normal,_,W'=>KeepsFrom B W W'∧I1 W'
  | .ret,_,W'=>KeepsFrom B W W'∧IX .ret W'
  | .exit id,_,W'=>KeepsFrom B W W'∧IX (.exit id) W'
  | .goto t,_,W'=>KeepsFrom B W W'∧IX (.goto t) W'
  |_,_,_=>False
def I01 (w:World) (I1:World→Prop):List Unit→World→Prop
  | [],W=>Below w.heap.size w W
  |_::_,W=>I1 W
theorem I01_own {w:World}{I1:World→Prop}(h:OwnFrom w.heap.size (fun(_:Unit) W=>I1 W)):OwnFrom w.heap.size (I01 w I1):=fun s X Y row hs hg hr=>by
  cases s with
  |nil=>exact ownFrom_below (β:=Unit) (Nat.le_refl _) (Nat.le_refl _) () X Y row hs hg hr
  |cons a l=>exact h () X Y row hs hg hr
section
variable {F:Fence}{P:Program}{n:Nat}
theorem wpIn_range1 {g:Operand}{ps:Array Tmp}{assign body:Code}{Q:Exit→Act→World→Prop}{a:Act}{w:World}
    (hro:F.round=none) (h1:1≤n) {gf:Nat}{lb:Array Value}(hg:a.eval g=.func (.func gf) #[] lb) (hFg:F.fn gf) (eg:∀args w,(callFunc gf args).run P w=.ok (.enter gf args) w)
    {xs:Array Value}(hseq:SeqO F (n-1) P gf lb (fun _:Unit=>xs) (fun _ _=>True) (fun ys=>ys=[()]) (fun _=>True) 1 w) (hps:xs.size=ps.size)
    (I1:World→Prop) (IX:Code→World→Prop) (hI1:OwnFrom w.heap.size (fun(_:Unit) W=>I1 W)) (hIX:∀c,OwnFrom w.heap.size (fun(_:Unit) W=>IX c W)) (Ax:Act→World→Prop) (hAx:∀a',OwnFrom w.heap.size (fun(_:Unit) W=>Ax a' W))
    (hassign:∀(l:Nat) (W:World) (K:Act→World→Prop),(∀a' W',Below W.heap.size W W'→Ax a' W'→K a' W') →
      assign.wpIn (F.inRound l) (n-1-1) P (Exit.then K (fun _ _ _=>False)) { tmps:=(ps.zip xs).foldl (fun t (p,v)=>t.setIfInBounds p v) a.tmps,defers:=[]} W)
    (hbody:∀(l:Nat) (a':Act) (W:World),Below w.heap.size w W→Ax a' W→body.wpIn (F.inRound l) (n-1-1) P (rd1 w.heap.size I1 IX W) a' W)
    (hdone:∀(D:Nat) (W:World),w.heap.size≤D→I1 W→W.heap[D]? =some (.deferred (some []))→Q .normal { a with defers:={ target:=.collected D,args:=#[]} ::a.defers} W)
    (hstop:∀(D:Nat) (c:Code) (W:World),w.heap.size≤D→IX c W→W.heap[D]? =some (.deferred (some []))→c.wpIn F n P Q { a with defers:={ target:=.collected D,args:=#[]} ::a.defers} W):
    (Code.rangeFunc g ps assign body).wpIn F n P Q a w:=
  wpIn_rangeO (α:=Unit) hro h1 hg hFg eg hseq (fun _ _=>trivial) (fun _ _ _ _ _ _ _ _ _=>trivial) (fun _=>hps) (I01 w I1) (fun c _ W=>IX c W) (I01_own hI1) (fun c=>fun s=>hIX c ()) (Below.refl _ _) (fun _ a' W=>Ax a' W) (fun _ a'=>hAx a')
    (fun l pre x W K hI hK=>hassign l W K fun a' W' hb ha=>hK a' W' (keepsFrom_below hb) trivial (OwnFrom.below (I01_own hI1) hI hb) ha)
    (fun l pre x a' W hI ha hl=>by
      cases pre with
      |cons y l=>exact absurd hl (by simp)
      |nil=>
        refine Code.wpIn_mono ?_ (hbody l a' W hI ha)
        intro e a2 W2 h
        cases e<;>first|exact⟨h.1,trivial,h.2⟩|exact h.elim|exact h)
    (fun D xs W hD hx hI hd=>by cases hx;exact hdone D W hD hI hd) (fun D c pre W hD _ hI hd=>hstop D c W hD hI hd)
end
section
variable {P:Program}{fn:Func}{n:Nat}{L:List (Nat×Value)}{a:Act}{R:Ending→World→Prop}{w:World}
theorem Sl.ret1D (H:Sl n L a) {r:ResultVar}{v:Value}{D:Nat}(hk:w.heap[D]? =some (.deferred (some []))) (hr:fn.results=#[r]) (h:RV P (w.putObj D (.deferred none)) L r v) (hR:R (.returned v) (w.putObj D (.deferred none))):
    bodyPostM Fence.wide 20 P fn R .ret (moreD [{ target:=.collected D,args:=#[]}] a) w:=by
  show LeavesInM Fence.wide 20 P fn a.tmps R (a.defers++[{ target:=.collected D,args:=#[]}]) .returning w;rw[H.defers];refine⟨by simp,.inl ⟨D,_,rfl,run_takeDeferred hk,?_⟩⟩;refine⟨_,?_,hR⟩;rw[results_of,hr];simp[h.run H]
theorem Sl.ret1DD (H:Sl n L a) {r:ResultVar}{v:Value}{D E:Nat}(hE:w.heap[E]? =some (.deferred (some []))) (hk:w.heap[D]? =some (.deferred (some []))) (hne:D≠E) (hr:fn.results=#[r]) (h:RV P ((w.putObj E (.deferred none)).putObj D (.deferred none)) L r v) (hR:R (.returned v) ((w.putObj E (.deferred none)).putObj D (.deferred none))):
    bodyPostM Fence.wide 20 P fn R .ret (moreD [{ target:=.collected E,args:=#[]},{ target:=.collected D,args:=#[]}] a) w:=by
  show LeavesInM Fence.wide 20 P fn a.tmps R (a.defers++[{ target:=.collected E,args:=#[]},{ target:=.collected D,args:=#[]}]) .returning w;rw[H.defers];refine⟨by simp,.inl ⟨E,_,rfl,run_takeDeferred hE,?_⟩⟩;refine⟨by simp,.inl ⟨D,_,rfl,run_takeDeferred ((World.putObj_heap_other hne).trans hk),?_⟩⟩;refine⟨_,?_,hR⟩;rw[results_of,hr];simp[h.run H]
theorem Sl.ret0D (H:Sl n L a) {D:Nat}(hk:w.heap[D]? =some (.deferred (some []))) (hr:fn.results=#[]) (hR:R (.returned (.tuple #[])) (w.putObj D (.deferred none))):
    bodyPostM Fence.wide 20 P fn R .normal (moreD [{ target:=.collected D,args:=#[]}] a) w:=by
  show LeavesInM Fence.wide 20 P fn a.tmps R (a.defers++[{ target:=.collected D,args:=#[]}]) .returning w;rw[H.defers];refine⟨by simp,.inl ⟨D,_,rfl,run_takeDeferred hk,?_⟩⟩;refine⟨_,?_,hR⟩;rw[results_of,hr];simp
theorem Sl.assigned2 (H:Sl n L a) (p q:Nat) (x y:Value) (hp:Nat.blt p n=true) (hq:Nat.blt q n=true):Sl n ((q,y)::(p,x)::L) { tmps:=((#[p,q]:Array Tmp).zip #[x,y]).foldl (fun t (p,v)=>t.setIfInBounds p v) a.tmps,defers:=[]}:=by
  have:=(H.put x hp).put y hq;refine⟨rfl,?_,?_⟩
  · have:=this.size;simpa [Act.put] using this
  · have:=this.get;simpa [Act.put] using this
end
theorem audible_any (ZA:Option Addr) (zc:Nat) (zs:List Int) (w:World):
  Calls Tryz.prog 201 #[(sL ZA zs.length zc)] w fun e w'=>∃b,e=.returned (.func (.func 209) #[] #[.pointer (some ⟨b,0,none⟩)])∧Box w' b 22 [(sL ZA zs.length zc)].toArray∧Below w.heap.size w w':=by
 have HP:=Hp.start w;refine w_enter 4 [(0,(sL ZA zs.length zc))] Tryz.func201 rfl Tryz.ntmps201 kr kr fun a H=>zq<|H.al HP 1 22 [(sL ZA zs.length zc)] fun b_1 w_2 a H HP=>H.gz HP [(2,.nilFunc)] fun a H=>zq<|H.gz HP [(3,(.func (.func 209) #[] #[(pt b_1 0)])),(2,(.func (.func 209) #[] #[(pt b_1 0)]))] fun a H=>zrt<|H.r1 (.func (.func 209) #[] #[(pt b_1 0)]) Tryz.results201 ?_;exact⟨b_1,rfl,HP.at_ 0 rfl,HP.bl⟩
theorem audible1_any (l bz:Nat) (ZA:Option Addr) (zc:Nat) (zs:List Int) (w:World) (hz:∀z∈zs,z=0) (hzl:zs.length≤1000000) (hbz:Box w bz 22 [(sL ZA zs.length zc)].toArray) (hzr:IsRow 1 i1C w ZA zs):
  Calls Tryz.prog 209 #[(.func (.yield l) #[] #[]),(pt bz 0)] w fun e w'=>(∃v,e=.returned v)∧Below w.heap.size w w':=by
 have HP:=(((Hp.start w).keepF (rowF 1 i1C ZA zs) hzr (rowF_ok _ _ _ _) (fun k hk=>⟨hzr.lt k hk,fun x hx=>by cases hx⟩)).keepF (boxK bz 22 [(sL ZA zs.length zc)]) hbz (boxK_ok _ _ _) (fun k hk=>⟨boxK_lt hbz hk,fun x hx=>by cases hx⟩));refine w_enter 23 [(0,(.func (.yield l) #[] #[])),(1,(pt bz 0))] Tryz.func209 rfl Tryz.ntmps209 kr kr fun a H=>zq<|H.u 5 (sL ZA zs.length zc) (ex_l1 (Box.cell (i:=0) (HP.fact 0 rfl:Box _ bz 22 _) rfl)) fun a H=>H.gz HP [(6,(ii zs.length)),(7,zO)] fun a H=>zbk<|w_loop (fun mm a wv=>∃(i:Nat),zs.length-i=mm∧Sl 23 [(7,(ii i)),(6,(ii zs.length)),(5,(sL ZA zs.length zc)),(0,(.func (.yield l) #[] #[])),(1,(pt bz 0))] a∧Hp w wv [] [boxK bz 22 [(sL ZA zs.length zc)],rowF 1 i1C ZA zs]∧(i≤zs.length)) (zs.length-0) ?_ ?_
 ·exact⟨0,om,H.keep kr,HP,(Nat.zero_le _)⟩
 rintro mm a w_1 ⟨i,hmeas,H,HP,hib⟩;refine zq<|H.gz HP [(8,(.bool (decide ((i:Int)<(zs.length:Int)))))] fun a H=>zsq<|w_if H rfl (fun g8=>?_) (fun g8=>?_)
 ·have g8p:=of_decide_eq_true g8;refine zsk (ztn (zsq (zbk (zsq ?_))));have hjm:i<zs.length:=om;refine zrg ?_;obtain⟨bu,ou,xe,hA,_,_,hxe,hxm,_⟩:=IsRow.get i1C_size (HP.fact 1 rfl:IsRow 1 i1C _ ZA zs) (i:=i) hjm;obtain rfl:=hz xe hxm;refine H.u 9 (.pointer (some ⟨bu,ou+i*1,none⟩)) (ex_indexA (b:=bu) (off:=ou) (len:=zs.length) (cap:=zc) (e:=3) (k:=1) (ik:=.i64) (i:=(i:Int)) (m:=i) hA kr kr rfl hjm kr kr) fun a H=>H.u 10 zO (ex_l1 (by have hh:=IsRow.cells i1C_size (HP.fact 1 rfl:IsRow 1 i1C _ ZA zs) hA hxe 0 _ rfl;rwa [Nat.add_zero] at hh)) fun a H=>H.gz HP [(4,zO)] fun a H=>zq<|H.gn HP 1 [(11,zO)] fun a H=>H.v 12 zO fun a H=>H.v 13 zO fun a H=>H.gz HP [(4,zO)] fun a H=>zq<|H.gz HP [(21,zF)] fun a H=>w_iff H rfl<|zsk<|zibn<|ztn<|zrg<|H.wi 22 ((i:Int)+1) fun a H=>H.ge HP [(7,(ii ((i:Int)+1)))] [] fun a H=>ztn ?_
  have H:=H.as 7 (ii ((i+1:Nat):Int)) rfl rfl;refine⟨_,?_,i+1,rfl,H.keep kr,HP,om⟩;omega
 have g8p:=of_decide_eq_false g8;refine wp_exit<|then_exit<|then_exit<|w_exit_here<|H.end0 (fn:=Tryz.f209) Tryz.results209  ?_;exact⟨⟨_,rfl⟩,HP.bl⟩
theorem measure_any (ZA:Option Addr) (zc:Nat) (zs:List Int) (w:World) (hz:∀z∈zs,z=0) (hzl:zs.length≤1000000) (hzr:IsRow 1 i1C w ZA zs):
  Calls Tryz.prog 182 #[(sL ZA zs.length zc)] w fun e w'=>e=.returned zO∧Below w.heap.size w w':=by
 have HP:=Hp.start w;refine w_enterM 36 [(0,(sL ZA zs.length zc))] Tryz.func182 rfl Tryz.ntmps182 kr kr fun a H=>zq<|H.ge HP [(2,zO)] [] fun a H=>zt<|H.al HP 3 3 [zO] fun b_1 w_2 a H HP=>H.al HP 4 3 [zO] fun b_3 w_4 a H HP=>H.sh HP 1 0 zO rfl fun w_5 a H HP=>H.sh HP 0 0 zO rfl fun w_6 a H HP=>znl<|ztn<|zsq<|zq<|H.gn HP 1 [(8,(sL ZA zs.length zc))] fun a H=>H.cl 9 (Tryz.call201 _ _) (audible_any ZA zc zs w_6) ?_;rintro e w_7 ⟨bz,rfl,hbz,hbf⟩;refine⟨_,rfl,?_⟩;intro a H;have HP:=HP.next hbf
 refine znl (ztn (zbk ?_));have hfun:a.eval (.tmp 9)=(.func (.func 209) #[] #[(pt bz 0)]):=H.eval kr;have hbelW:=HP.bl;refine(wpIn_wide (n:=20)).1<|wpIn_range0 (F:=Fence.wide) rfl om (gf:=209) (lb:=#[(pt bz 0)]) hfun trivial (enters_of Tryz.func209 kr rfl) (fun l W hW=>callsIn_wide.2 (audible1_any l bz ZA zc zs W hz hzl (hbz.next hW) (IsRow.below (IsRow.below hzr hbelW) hW))) fun D W hD hbW hdef=>?_;rw[moreD_of _ H.defers];have HP:=HP.next hbW
 refine zibn<|ztn<|zsq<|zsq<|w_regionM<|H.ge HP [(17,zT)] [0] fun a H=>ztn<|w_iftM H rfl<|zsq<|w_regionM<|H.ge HP [(2,zO)] [] fun a H=>ztn (zrt (ztr ?_));have hd2:W.heap[D]? =some (.deferred (some [])):=hdef;have hfin:Below w.heap.size w W:=HP.bl;have hout:Below w.heap.size w (W.putObj D (.deferred none)):=hfin.trans (belowK_b (w:=w) (Nat.le_refl _) _ D _ _ (by have:=hbelW.size;omega) hd2 rfl rfl);refine H.ret1D hd2 (fn:=Tryz.f182) Tryz.results182 (RV.tmp_ (v:=zO) kr) ?_;exact⟨rfl,hout⟩
theorem lgain_any (ZA:Option Addr) (zc:Nat) (zs:List Int) (w:World) (hz:∀z∈zs,z=0) (hzl:zs.length≤1000000) (hzr:IsRow 1 i1C w ZA zs):
  Calls Tryz.prog 146 #[(sL ZA zs.length zc)] w fun e w'=>e=.returned (ii 1000)∧Below w.heap.size w w':=by
 have HP:=Hp.start w;refine w_enter 11 [(0,(sL ZA zs.length zc))] Tryz.func146 rfl Tryz.ntmps146 kr kr fun a H=>zq<|H.gz HP [(2,zO)] fun a H=>zq<|H.gn HP 1 [(4,(sL ZA zs.length zc))] fun a H=>H.cb HP 5 (Tryz.call182 _ _) (measure_any ZA zc zs w hz hzl (IsRow.below hzr HP.bl)) fun w_1 hb a H HP=>H.gz HP [(3,zO)] fun a H=>zsq<|zq<|H.gz HP [(7,zT)] fun a H=>w_ift H rfl<|zq<|H.gz HP [(2,(ii 1000))] fun a H=>zrt<|ztr<|H.r1 (ii 1000) Tryz.results146 ?_;exact⟨rfl,HP.bl⟩
theorem Hp.ne3 {w0 w:World}{L:List HB}{K:List FK}(H:Hp w0 w L K) (i j:Nat) {b b' t:Nat}{vs:List Value}{f f':Bool}{l:List (Int×Value)}(hi:L[i]? =some (bx b t vs f)) (hj:L[j]? =some (mapB b' l f')) (h:i≠j):b≠b':=fun e=>by
 subst e
 rcases Nat.lt_or_gt_of_ne h with h|h
 ·exact List.pairwise_iff_getElem.1 H.apart i j (List.getElem?_eq_some_iff.1 hi).1 (List.getElem?_eq_some_iff.1 hj).1 h b (by rw[(List.getElem?_eq_some_iff.1 hi).2];rfl) (by rw[(List.getElem?_eq_some_iff.1 hj).2];rfl)
 ·exact List.pairwise_iff_getElem.1 H.apart j i (List.getElem?_eq_some_iff.1 hj).1 (List.getElem?_eq_some_iff.1 hi).1 h b (by rw[(List.getElem?_eq_some_iff.1 hj).2];rfl) (by rw[(List.getElem?_eq_some_iff.1 hi).2];rfl)
abbrev picsS:List PicA:=[⟨true,bstr [107],0⟩,⟨false,bstr [112],0⟩]
abbrev libS (A:Option Addr) (c:Nat):List AstA:=[⟨7,A,c,picsS⟩]
theorem libS_len {A:Option Addr}{c:Nat}:∀a∈libS A c,a.pics.length≤2000000:=fun a h=>by rcases List.mem_singleton.1 h with rfl;show 2≤_;omega
theorem ret_findS {A:Option Addr}{c:Nat}{w:World}{e:Ending}{w':World}(h:RetFind (findA 7 (libS A c)) w e w'):∃B d,e=.returned (.tuple #[.agg #[.int .i64 7,.slice B 2 d],.bool true])∧IsPics w' B 2 picsS∧2≤d∧d≤maxLen∧(B=none→d=0)∧Below w.heap.size w w'∧(∀b off,B=some ⟨b,off,none⟩→w.heap.size≤b):=h
theorem ints_flat (zs:List Int):flat i1C zs=ints zs:=by
 induction zs with
 |nil=>rfl
 |cons z l ih=>unfold flat at ih ⊢;rw[List.flatMap_cons,ih];rfl
theorem row_ints {w:World}{A:Option Addr}{zs:List Int}(h:IsInts w A zs.length zs):IsRow 1 i1C w A zs:=by
 have h2:=ofInts h;rw[←ints_flat] at h2;exact h2
theorem Hp.agreeM {w0 w:World}{L:List HB}{K:List FK}(H:Hp w0 w L K) (f:Nat→Prop) (hf:∀x∈L,x.fresh=true∨∀k,x.fp k→f k):Agree w0 w f:=
 ⟨H.os,H.tape,H.output,H.size,fun k hk hn=>H.old k hk fun x hx hxk=>by
  rcases hf x hx with h|h
  ·have:=H.fresh x hx h k hxk;omega
  ·exact hn (h k hxk)⟩
theorem targets_any (LA:Option Addr) (lc:Nat) (w:World):
  Calls Tryz.prog 93 #[(sL LA 1 lc)] w fun e w'=>∃bm b3 b1,e=.returned (.func (.func 145) #[] #[.pointer (some ⟨b3,0,none⟩),.pointer (some ⟨b1,0,none⟩)])∧MapAt w' bm []∧Box w' b3 255 [.map (some bm)].toArray∧Box w' b1 25 [(sL LA 1 lc)].toArray∧b3≠bm∧b1≠bm∧w.heap.size≤bm∧w.heap.size≤b3∧w.heap.size≤b1∧Below w.heap.size w w':=by
 have HP:=Hp.start w;refine w_enter 6 [(0,(sL LA 1 lc))] Tryz.func93 rfl Tryz.ntmps93 kr kr fun a H=>zq<|H.al HP 1 25 [(sL LA 1 lc)] fun b_1 w_2 a H HP=>H.gz HP [(2,.nilFunc)] fun a H=>zq<|H.newMap HP 4 kr fun m_3 w_4 a H HP=>?_;have HP:Hp w w_4 [(mapB m_3 [] true),bx b_1 25 [(sL LA 1 lc)] true] []:=HP;refine H.al HP 3 255 [(.map none)] fun b_5 w_6 a H HP=>H.sh HP 0 0 (.map (some m_3)) rfl fun w_7 a H HP=>znl<|zt<|H.gz HP [(5,(.func (.func 145) #[] #[(pt b_5 0),(pt b_1 0)])),(2,(.func (.func 145) #[] #[(pt b_5 0),(pt b_1 0)]))] fun a H=>zrt<|H.r1 (.func (.func 145) #[] #[(pt b_5 0),(pt b_1 0)]) Tryz.results93 ?_
 exact⟨m_3,b_5,b_1,rfl,HP.mapAt 1 rfl,HP.at_ 0 rfl,HP.at_ 2 rfl,HP.ne3 0 1 rfl rfl (by decide),HP.ne3 2 1 rfl rfl (by decide),HP.fresh _ (List.mem_of_getElem? (show([bx b_5 255 [(.map (some m_3))] true,(mapB m_3 [] true),bx b_1 25 [(sL LA 1 lc)] true]:List HB)[1]? =some _ from rfl)) rfl _ rfl,HP.fresh _ (List.mem_of_getElem? (show([bx b_5 255 [(.map (some m_3))] true,(mapB m_3 [] true),bx b_1 25 [(sL LA 1 lc)] true]:List HB)[0]? =some _ from rfl)) rfl _ rfl,HP.fresh _ (List.mem_of_getElem? (show([bx b_5 255 [(.map (some m_3))] true,(mapB m_3 [] true),bx b_1 25 [(sL LA 1 lc)] true]:List HB)[2]? =some _ from rfl)) rfl _ rfl,HP.bl⟩
theorem target1_any (bm b3 b1 lc pc:Nat) (LA PA:Option Addr) (w:World) (hm:MapAt w bm []) (h3:Box w b3 255 [(.map (some bm))].toArray) (h1:Box w b1 25 [(sL LA 1 lc)].toArray) (n3:b3≠bm) (n1:b1≠bm) (hlib:IsAsts w LA 1 (libS PA pc)) (hlm:¬libFp LA (libS PA pc) bm):
  Calls Tryz.prog 145 #[.int .i64 7,(pt b3 0),(pt b1 0)] w fun e w'=>e=.returned (ii 1000)∧MapAt w' bm [(7,.int .i64 1000)]∧w.grownBy w' (some bm):=by
 have HP:=((((Hp.ownM hm).keepF (astsK LA (libS PA pc)) hlib (fun _ _ h hk hs=>IsAsts.keep h hk hs) (fun k hk=>⟨IsAsts.lt hlib hk,fun x hx=>by simp only[List.mem_cons,List.not_mem_nil,or_false] at hx;rcases hx with rfl;exact fun e=>hlm (e ▸ hk)⟩)).keepF (boxK b1 25 [(sL LA 1 lc)]) h1 (boxK_ok _ _ _) (fun k hk=>⟨boxK_lt h1 hk,fun x hx=>by simp only[List.mem_cons,List.not_mem_nil,or_false] at hx;rcases hx with rfl;exact fun e=>n1 (hk.symm.trans e)⟩)).keepF (boxK b3 255 [(.map (some bm))]) h3 (boxK_ok _ _ _) (fun k hk=>⟨boxK_lt h3 hk,fun x hx=>by simp only[List.mem_cons,List.not_mem_nil,or_false] at hx;rcases hx with rfl;exact fun e=>n3 (hk.symm.trans e)⟩))
 refine w_enter 31 [(0,(ii 7)),(1,(pt b3 0)),(2,(pt b1 0))] Tryz.func145 rfl Tryz.ntmps145 kr kr fun a H=>zq<|H.gz HP [(4,zO)] fun a H=>zq<|H.u 10 (.map (some bm)) (ex_l1 (Box.cell (i:=0) (HP.fact 0 rfl:Box _ b3 255 _) rfl)) fun a H=>H.gn HP 1 [(11,(ii 7))] fun a H=>H.u 12 (.tuple #[zO,zF]) (ex_lookup (l:=[]) (z:=zO) (k:=7) (kt:=3) (et:=3) (s1:=1) (s2:=8) true kr kr kr kr kr (HP.mapAt 0 rfl)) fun a H=>H.gz HP [(5,zO),(6,zF)] fun a H=>zsq<|zq<|H.gz HP [(16,zT)] fun a H=>w_ift H rfl<|zq<|H.gz HP [(5,(ii 1000))] fun a H=>zsq<|zq<|H.u 18 (sL LA 1 lc) (ex_l1 (Box.cell (i:=0) (HP.fact 1 rfl:Box _ b1 25 _) rfl)) fun a H=>H.gn HP 1 [(19,(ii 7))] fun a H=>H.cl 20 (Tryz.call43 _ _) ((mfind_any LA 1 lc (libS PA pc) 7 w (HP.fact 2 rfl) (by decide) libS_len).mono fun e w' h=>ret_findS h) ?_
 rintro e w_1 ⟨FB,fc,rfl,hfp,hfc1,hfc2,hfc3,hbf,hfr⟩;refine⟨_,rfl,?_⟩;intro a H;have HP:=(HP.next hbf).keepF ⟨rowFp 2 FB,fun w=>IsPics w FB 2 picsS⟩ hfp (fun _ _ h hk hs=>⟨h.1,h.2.keep hk hs⟩) (fun j hj=>row_sep HP hfp.2 hfr hj);refine H.gn HP 3 [(21,(.agg #[(ii 7),(sL FB 2 fc)])),(22,zT)] fun a H=>H.al HP 7 91 [zO,zN] fun b_2 w_3 a H HP=>H.sh HP 0 0 (.agg #[(ii 7),(sL FB 2 fc)]) rfl fun w_4 a H HP=>H.gz HP [(8,zT)] fun a H=>zq<|H.gz HP [(23,zT)] fun a H=>w_ift H rfl<|zrg<|H.go HP 1 [(24,(.agg #[(ii 7),(sL FB 2 fc)]))] [0] fun a H=>H.cl 25 (Tryz.call147 _ _) (mpowers_any 7 FB 2 fc picsS w_4 (HP.fact 0 rfl) (by decide)) ?_;rintro e w_5 ⟨ZB,zd,rfl,hzi,_,_,_,hbz⟩;refine⟨_,rfl,?_⟩;intro a H;have HP:=HP.next hbz
 refine H.cb HP 26 (Tryz.call146 _ _) (lgain_any ZB zd [0,0] w_5 (by simp) (by decide) (row_ints hzi)) fun w_6 hb a H HP=>H.gz HP [(5,(ii 1000))] fun a H=>zrg<|H.u 27 (.map (some bm)) (ex_l1 (Box.cell (i:=0) (HP.fact 1 rfl:Box _ b3 255 _) rfl)) fun a H=>H.gn HP 2 [(28,(ii 7)),(29,(ii 1000))] fun a H=>Sl.pushM (kt:=3) (et:=3) (k:=7) (v:=(ii 1000)) H HP 1 [bx b_2 91 [(ii 7),(sL FB 2 fc)] true,(mapB bm ([]++[(7,(ii 1000))]) false)] kr kr kr kr kr kr rfl rfl kr fun w_7 a H HP=>?_;have HP:Hp w w_7 [bx b_2 91 [(ii 7),(sL FB 2 fc)] true,(mapB bm [(7,(ii 1000))] false)] [⟨rowFp 2 FB,fun w=>IsPics w FB 2 picsS⟩,boxK b3 255 [(.map (some bm))],boxK b1 25 [(sL LA 1 lc)],astsK LA (libS PA pc)]:=HP;refine znl<|zt<|H.gz HP [(4,(ii 1000))] fun a H=>zrt<|H.r1 (ii 1000) Tryz.results145 ?_
 have HP:Hp w w_7 [bx b_2 91 [(ii 7),(sL FB 2 fc)] true,(mapB bm [(7,(ii 1000))] false)] [⟨rowFp 2 FB,fun w=>IsPics w FB 2 picsS⟩,boxK b3 255 [(.map (some bm))],boxK b1 25 [(sL LA 1 lc)],astsK LA (libS PA pc)]:=HP;exact⟨rfl,HP.mapAt 1 rfl,HP.only bm (by intro x hx;simp only[List.mem_cons,List.not_mem_nil,or_false] at hx;rcases hx with rfl|rfl;exact .inl rfl;exact .inr (fun k hk=>hk))⟩
theorem gain1_any (k:Int) (b8 b7 bm b3 b1 lc pc:Nat) (LA PA:Option Addr) (w:World) (h8:Box w b8 3 [.int .i64 1000].toArray) (h7:Box w b7 71 [(.func (.func 145) #[] #[(pt b3 0),(pt b1 0)])].toArray) (n8:b8≠bm) (n78:b7≠b8) (n7:b7≠bm) (n38:b3≠b8) (n18:b1≠b8) (hl8:¬libFp LA (libS PA pc) b8) (hm:MapAt w bm []) (h3:Box w b3 255 [(.map (some bm))].toArray) (h1:Box w b1 25 [(sL LA 1 lc)].toArray) (n3:b3≠bm) (n1:b1≠bm) (hlib:IsAsts w LA 1 (libS PA pc)) (hlm:¬libFp LA (libS PA pc) bm):
  Calls Tryz.prog 94 #[.int .i64 7,.int .i64 k,(pt b8 0),(pt b7 0)] w fun e w'=>(∃v,e=.returned v)∧Box w' b8 3 [.int .i64 1000].toArray∧Agree w w' (fun k=>k=b8∨k=bm):=by
 have HP:=((((((Hp.ownM hm).add (bx b8 3 [.int .i64 1000] false) h8 (bx_ok _ _ _ _) (fun k hk=>by cases hk;exact h8.lt) (fun k hk=>⟨fun y hy e=>by rcases List.mem_singleton.1 hy with rfl;exact n8 (hk.symm.trans e),fun _ h=>by cases h⟩) (fun h=>by cases h)).keepF (astsK LA (libS PA pc)) hlib (fun _ _ h hk hs=>IsAsts.keep h hk hs) (fun k hk=>⟨IsAsts.lt hlib hk,fun x hx=>by simp only[List.mem_cons,List.not_mem_nil,or_false] at hx;rcases hx with rfl|rfl;exact fun e=>hl8 (e ▸ hk);exact fun e=>hlm (e ▸ hk)⟩)).keepF (boxK b1 25 [(sL LA 1 lc)]) h1 (boxK_ok _ _ _) (fun k hk=>⟨boxK_lt h1 hk,fun x hx=>by simp only[List.mem_cons,List.not_mem_nil,or_false] at hx;rcases hx with rfl|rfl;exact fun e=>n18 (hk.symm.trans e);exact fun e=>n1 (hk.symm.trans e)⟩)).keepF (boxK b3 255 [(.map (some bm))]) h3 (boxK_ok _ _ _) (fun k hk=>⟨boxK_lt h3 hk,fun x hx=>by simp only[List.mem_cons,List.not_mem_nil,or_false] at hx;rcases hx with rfl|rfl;exact fun e=>n38 (hk.symm.trans e);exact fun e=>n3 (hk.symm.trans e)⟩)).keepF (boxK b7 71 [(.func (.func 145) #[] #[(pt b3 0),(pt b1 0)])]) h7 (boxK_ok _ _ _) (fun k hk=>⟨boxK_lt h7 hk,fun x hx=>by simp only[List.mem_cons,List.not_mem_nil,or_false] at hx;rcases hx with rfl|rfl;exact fun e=>n78 (hk.symm.trans e);exact fun e=>n7 (hk.symm.trans e)⟩))
 refine w_enter 12 [(0,(ii 7)),(1,(ii k)),(2,(pt b8 0)),(3,(pt b7 0))] Tryz.func94 rfl Tryz.ntmps94 kr kr fun a H=>?_;have HP:=HP.front 1 rfl _ rfl;refine An.start (fun v=>Hp (bareW w) v [bx b8 3 [(ii 1000)] false] [boxK b7 71 [(.func (.func 145) #[] #[(pt b3 0),(pt b1 0)])],boxK b3 255 [(.map (some bm))],boxK b1 25 [(sL LA 1 lc)],astsK LA (libS PA pc)]) 6 7 HP wide_follows rfl fun w_1 HP=>An.go H (.inr (HP.bareN 1)) 6 [0] [(6,(ii 1000))] [0] fun a H=>An.vw H (HP.bareN 1) 1 7 (.func (.func 145) #[] #[(pt b3 0),(pt b1 0)]) (fun _ hS=>ex_l1 (Box.cell (i:=0) (hS.fact 0 rfl:Box _ b7 71 _) rfl)) fun a H=>An.go H (.inr (HP.bareN 1)) 3 [2,4] [(8,(ii 7)),(10,(ii k))] [] fun a H=>An.one 3 kr<|Op.cl H 9 (Tryz.call145 _ _) (target1_any bm b3 b1 lc pc LA PA w_1 (HP.mapAt 0 rfl) (HP.fact 1 rfl) (HP.fact 2 rfl) n3 n1 (HP.fact 3 rfl) hlm) ?_;rintro e w_2 ⟨rfl,hmp,hgr⟩;refine⟨_,rfl,?_⟩;intro a H
 have HP:=HP.changedM 0 (b:=bm) (l:=[]) (f:=false) rfl [(7,.int .i64 1000)] [(mapB bm [(7,.int .i64 1000)] false),bx b8 3 [(ii 1000)] false] rfl hgr hmp;refine⟨.inr (HP.bareN 1),?_⟩;refine An.one 5 kr<|Op.cb H HP 11 (Tryz.call95 _ _) (ramp_any k w_2) fun w_3 hb a H HP=>⟨.inr (HP.bareN 1),?_⟩;refine An.one 6 kr<|Op.sh H HP 1 0 (ii 1000) rfl rfl fun w_4 a H HP=>⟨.inl kr,?_⟩;refine An.done kr<|H.end0 (fn:=Tryz.f94) Tryz.results94  ?_;have HP:Hp w w_4 [(mapB bm [(7,.int .i64 1000)] false),bx b8 3 [(ii 1000)] false] [boxK b7 71 [(.func (.func 145) #[] #[(pt b3 0),(pt b1 0)])],boxK b3 255 [(.map (some bm))],boxK b1 25 [(sL LA 1 lc)],astsK LA (libS PA pc)]:=HP;exact⟨⟨_,rfl⟩,HP.at_ 1 rfl,HP.agreeM _ (by intro x hx;simp only[List.mem_cons,List.not_mem_nil,or_false] at hx;rcases hx with rfl|rfl;exact .inr (fun k hk=>.inr hk);exact .inr (fun k hk=>.inl hk))⟩
theorem begun_any (be:Nat) (fr:Int) (w:World):
  Calls Tryz.prog 96 #[(sB be 1 1),.int .i64 fr] w fun e w'=>∃b2 b3,e=.returned (.func (.func 150) #[] #[.pointer (some ⟨b2,0,none⟩),.pointer (some ⟨b3,0,none⟩)])∧Box w' b2 101 [(sB be 1 1)].toArray∧Box w' b3 3 [.int .i64 fr].toArray∧Below w.heap.size w w':=by
 have HP:=Hp.start w;refine w_enter 6 [(0,(sB be 1 1)),(1,(ii fr))] Tryz.func96 rfl Tryz.ntmps96 kr kr fun a H=>zq<|H.al HP 2 101 [(sB be 1 1)] fun b_1 w_2 a H HP=>H.al HP 3 3 [(ii fr)] fun b_3 w_4 a H HP=>H.gz HP [(4,.nilFunc)] fun a H=>zq<|H.gz HP [(5,(.func (.func 150) #[] #[(pt b_1 0),(pt b_3 0)])),(4,(.func (.func 150) #[] #[(pt b_1 0),(pt b_3 0)]))] fun a H=>zrt<|H.r1 (.func (.func 150) #[] #[(pt b_1 0),(pt b_3 0)]) Tryz.results96 ?_;exact⟨b_1,b_3,rfl,HP.at_ 1 rfl,HP.at_ 0 rfl,HP.bl⟩
theorem begun1_5 (be b2 b3:Nat) (w:World) (h2:Box w b2 101 [(sB be 1 1)].toArray) (h3:Box w b3 3 [(ii 5)].toArray) (hev:Box w be 100 zc2.toArray) (m l:Nat) (J Jx:List Unit→World→Prop) (hJo:OwnFrom w.heap.size J) (h0:J [] w) (hY:∀pre x W1,J pre W1→pre.length<1→YieldAt Fence.wide m Tryz.prog l #[.int .i64 7,.int .i64 1] W1 fun e W'=>∃b,e=.returned (.bool b)∧(b=true→J (pre++[x]) W')∧(b=false→Jx (pre++[x]) W')):
  Calls Tryz.prog 150 #[(.func (.yield l) #[] #[]),(pt b2 0),(pt b3 0)] w fun e w'=>(∃v,e=.returned v)∧(J [()] w'∨Jx [()] w'):=by
 have HP:=((((Hp.start w).keepF (boxK be 100 zc2) hev (boxK_ok _ _ _) (fun k hk=>⟨boxK_lt hev hk,fun x hx=>by cases hx⟩)).keepF (boxK b3 3 [(ii 5)]) h3 (boxK_ok _ _ _) (fun k hk=>⟨boxK_lt h3 hk,fun x hx=>by cases hx⟩)).keepF (boxK b2 101 [(sB be 1 1)]) h2 (boxK_ok _ _ _) (fun k hk=>⟨boxK_lt h2 hk,fun x hx=>by cases hx⟩))
 refine w_enter 45 [(0,(.func (.yield l) #[] #[])),(1,(pt b2 0)),(2,(pt b3 0))] Tryz.func150 rfl Tryz.ntmps150 kr kr fun a H=>zq<|H.u 8 (sB be 1 1) (ex_l1 (Box.cell (i:=0) (HP.fact 0 rfl:Box _ b2 101 _) rfl)) fun a H=>H.gz HP [(9,(ii 1)),(10,zO)] fun a H=>zbk<|w_loop (fun mm a wv=>(mm=1∧Sl 45 [(10,.int .i64 0),(0,(.func (.yield l) #[] #[])),(8,(sB be 1 1)),(9,(ii 1)),(2,(pt b3 0))] a∧Hp w wv [] [boxK b2 101 [(sB be 1 1)],boxK b3 3 [(ii 5)],boxK be 100 zc2])∨(mm=0∧Sl 45 [(10,.int .i64 1),(0,(.func (.yield l) #[] #[])),(8,(sB be 1 1)),(9,(ii 1)),(2,(pt b3 0))] a∧J [()] wv)) 1 (.inl ⟨rfl,H.keep kr,HP⟩) ?_;rintro mm a w_1 (⟨rfl,H,HP⟩|⟨rfl,H,hJ1⟩)
 ·refine zq<|H.gz HP [(11,zT)] fun a H=>zsq<|w_ift H rfl<|zsk<|ztn<|zsq<|zbk<|zq<|H.v 12 (pt be 0) fun a H=>H.u 13 (.agg zc3) (ex_lN zc2 (boxCells (HP.fact 2 rfl:Box _ be 100 _))) fun a H=>H.al HP 5 100 zc8 fun b_2 w_3 a H HP=>H.sh HP 0 0 (.agg zc3) rfl fun w_4 a H HP=>znl<|ztn<|zsq<|zq<|H.go HP 2 [(15,(ii 5))] [0] fun a H=>H.u 16 (ii 5) (ex_l1 (Box.cell (i:=0) (HP.fact 1 rfl:Box _ b3 3 _) rfl)) fun a H=>H.gy HP [(22,zF)] [0] fun a H=>w_iff H rfl<|zsk<|zt<|H.gy HP [(6,(ii 2))] [0] fun a H=>zsq<|zq<|H.u 25 (ii 5) (ex_l1 (Box.cell (i:=0) (HP.fact 1 rfl:Box _ b3 3 _) rfl)) fun a H=>H.valE 26 (.int .u64 (IntKind.u64.wrap 5)) (.int .u64 5) kr kr kr fun a H=>H.go HP 2 [(28,(ii 5))] [0] fun a H=>H.valE 29 (.int .u64 (IntKind.u64.wrap 5)) (.int .u64 5) kr kr kr fun a H=>H.valE 30 (.int .u64 (IntKind.u64.wrap (5-5))) (.int .u64 0) kr kr kr fun a H=>H.gz HP [(7,(.int .u64 0))] fun a H=>zq<|H.gn HP 2 [(31,(.int .u64 0)),(32,(ii 2))] fun a H=>H.valE 33 (.int .u64 (IntKind.u64.wrap 2)) (.int .u64 2) kr kr kr fun a H=>H.gz HP [(34,zT)] fun a H=>w_ift H rfl<|zrg<|H.gn HP 1 [(35,(.int .u64 0))] fun a H=>H.valE 36 (ii (IntKind.i64.wrap 0)) zO kr kr kr fun a H=>H.valE 37 (ii (IntKind.i64.wrap (0+1))) (ii 1) kr kr kr fun a H=>H.gz HP [(6,(ii 1))] fun a H=>zsq<|w_regionI (m+1)<|H.valI 38 (.func (.yield l) #[] #[]) kr kr fun a H=>H.valI 39 (pt b_2 1) kr kr fun a H=>H.valI 40 (ii 7) kr (ex_l1 (HP.cell 0 rfl 1 rfl)) fun a H=>H.valI 41 (ii 1) kr kr fun a H=>H.callY 42 (l:=l) kr kr (hY [] () _ (OwnFrom.below hJo h0 HP.bl) (by decide)) ?_
  rintro e w_5 ⟨bb,rfl,hjt,hjf⟩;refine⟨_,rfl,?_⟩;intro a H;have HP:=Hp.start w_5;refine H.valI 43 (.bool (!bb)) kr kr fun a H=>wpListIn_nil<|ztn<|w_if H rfl (fun g43=>?_) (fun g43=>?_)
  ·have g43p:=not_is_true g43;refine zrt<|zibr<|ztr<|ztr<|zibr<|H.ret0 (fn:=Tryz.f150) Tryz.results150  ?_;exact⟨⟨_,rfl⟩,.inr (hjf g43p)⟩
  have g43p:=not_is_false g43;refine zsk<|zibn<|ztn<|zrg<|H.valE 44 (ii (IntKind.i64.wrap (0+1))) (ii 1) kr kr kr fun a H=>H.ge HP [(10,(ii 1))] [] fun a H=>ztn ?_;exact⟨0,om,.inr ⟨rfl,H.keep kr,hjt g43p⟩⟩
 have HP:=Hp.start w_1;refine zq<|H.gz HP [(11,zF)] fun a H=>zsq<|w_iff H rfl<|wp_exit<|then_exit<|then_exit<|w_exit_here<|H.end0 (fn:=Tryz.f150) Tryz.results150  ?_;exact⟨⟨_,rfl⟩,.inl hJ1⟩
theorem begun1_6 (be b2 b3:Nat) (w:World) (h2:Box w b2 101 [(sB be 1 1)].toArray) (h3:Box w b3 3 [(ii 6)].toArray) (hev:Box w be 100 zc2.toArray) (m l:Nat) (J Jx:List Unit→World→Prop) (hJo:OwnFrom w.heap.size J) (h0:J [] w) (hY:∀pre x W1,J pre W1→pre.length<1→YieldAt Fence.wide m Tryz.prog l #[.int .i64 7,.int .i64 2] W1 fun e W'=>∃b,e=.returned (.bool b)∧(b=true→J (pre++[x]) W')∧(b=false→Jx (pre++[x]) W')):
  Calls Tryz.prog 150 #[(.func (.yield l) #[] #[]),(pt b2 0),(pt b3 0)] w fun e w'=>(∃v,e=.returned v)∧(J [()] w'∨Jx [()] w'):=by
 have HP:=((((Hp.start w).keepF (boxK be 100 zc2) hev (boxK_ok _ _ _) (fun k hk=>⟨boxK_lt hev hk,fun x hx=>by cases hx⟩)).keepF (boxK b3 3 [(ii 6)]) h3 (boxK_ok _ _ _) (fun k hk=>⟨boxK_lt h3 hk,fun x hx=>by cases hx⟩)).keepF (boxK b2 101 [(sB be 1 1)]) h2 (boxK_ok _ _ _) (fun k hk=>⟨boxK_lt h2 hk,fun x hx=>by cases hx⟩))
 refine w_enter 45 [(0,(.func (.yield l) #[] #[])),(1,(pt b2 0)),(2,(pt b3 0))] Tryz.func150 rfl Tryz.ntmps150 kr kr fun a H=>zq<|H.u 8 (sB be 1 1) (ex_l1 (Box.cell (i:=0) (HP.fact 0 rfl:Box _ b2 101 _) rfl)) fun a H=>H.gz HP [(9,(ii 1)),(10,zO)] fun a H=>zbk<|w_loop (fun mm a wv=>(mm=1∧Sl 45 [(10,.int .i64 0),(0,(.func (.yield l) #[] #[])),(8,(sB be 1 1)),(9,(ii 1)),(2,(pt b3 0))] a∧Hp w wv [] [boxK b2 101 [(sB be 1 1)],boxK b3 3 [(ii 6)],boxK be 100 zc2])∨(mm=0∧Sl 45 [(10,.int .i64 1),(0,(.func (.yield l) #[] #[])),(8,(sB be 1 1)),(9,(ii 1)),(2,(pt b3 0))] a∧J [()] wv)) 1 (.inl ⟨rfl,H.keep kr,HP⟩) ?_;rintro mm a w_1 (⟨rfl,H,HP⟩|⟨rfl,H,hJ1⟩)
 ·refine zq<|H.gz HP [(11,zT)] fun a H=>zsq<|w_ift H rfl<|zsk<|ztn<|zsq<|zbk<|zq<|H.v 12 (pt be 0) fun a H=>H.u 13 (.agg zc3) (ex_lN zc2 (boxCells (HP.fact 2 rfl:Box _ be 100 _))) fun a H=>H.al HP 5 100 zc8 fun b_2 w_3 a H HP=>H.sh HP 0 0 (.agg zc3) rfl fun w_4 a H HP=>znl<|ztn<|zsq<|zq<|H.go HP 2 [(15,(ii 5))] [0] fun a H=>H.u 16 (ii 6) (ex_l1 (Box.cell (i:=0) (HP.fact 1 rfl:Box _ b3 3 _) rfl)) fun a H=>H.gy HP [(22,zF)] [0] fun a H=>w_iff H rfl<|zsk<|zt<|H.gy HP [(6,(ii 2))] [0] fun a H=>zsq<|zq<|H.u 25 (ii 6) (ex_l1 (Box.cell (i:=0) (HP.fact 1 rfl:Box _ b3 3 _) rfl)) fun a H=>H.valE 26 (.int .u64 (IntKind.u64.wrap 6)) (.int .u64 6) kr kr kr fun a H=>H.go HP 2 [(28,(ii 5))] [0] fun a H=>H.valE 29 (.int .u64 (IntKind.u64.wrap 5)) (.int .u64 5) kr kr kr fun a H=>H.valE 30 (.int .u64 (IntKind.u64.wrap (6-5))) (.int .u64 1) kr kr kr fun a H=>H.gz HP [(7,(.int .u64 1))] fun a H=>zq<|H.gn HP 2 [(31,(.int .u64 1)),(32,(ii 2))] fun a H=>H.valE 33 (.int .u64 (IntKind.u64.wrap 2)) (.int .u64 2) kr kr kr fun a H=>H.gz HP [(34,zT)] fun a H=>w_ift H rfl<|zrg<|H.gn HP 1 [(35,(.int .u64 1))] fun a H=>H.valE 36 (ii (IntKind.i64.wrap 1)) (ii 1) kr kr kr fun a H=>H.valE 37 (ii (IntKind.i64.wrap (1+1))) (ii 2) kr kr kr fun a H=>H.gz HP [(6,(ii 2))] fun a H=>zsq<|w_regionI (m+1)<|H.valI 38 (.func (.yield l) #[] #[]) kr kr fun a H=>H.valI 39 (pt b_2 1) kr kr fun a H=>H.valI 40 (ii 7) kr (ex_l1 (HP.cell 0 rfl 1 rfl)) fun a H=>H.valI 41 (ii 2) kr kr fun a H=>H.callY 42 (l:=l) kr kr (hY [] () _ (OwnFrom.below hJo h0 HP.bl) (by decide)) ?_
  rintro e w_5 ⟨bb,rfl,hjt,hjf⟩;refine⟨_,rfl,?_⟩;intro a H;have HP:=Hp.start w_5;refine H.valI 43 (.bool (!bb)) kr kr fun a H=>wpListIn_nil<|ztn<|w_if H rfl (fun g43=>?_) (fun g43=>?_)
  ·have g43p:=not_is_true g43;refine zrt<|zibr<|ztr<|ztr<|zibr<|H.ret0 (fn:=Tryz.f150) Tryz.results150  ?_;exact⟨⟨_,rfl⟩,.inr (hjf g43p)⟩
  have g43p:=not_is_false g43;refine zsk<|zibn<|ztn<|zrg<|H.valE 44 (ii (IntKind.i64.wrap (0+1))) (ii 1) kr kr kr fun a H=>H.ge HP [(10,(ii 1))] [] fun a H=>ztn ?_;exact⟨0,om,.inr ⟨rfl,H.keep kr,hjt g43p⟩⟩
 have HP:=Hp.start w_1;refine zq<|H.gz HP [(11,zF)] fun a H=>zsq<|w_iff H rfl<|wp_exit<|then_exit<|then_exit<|w_exit_here<|H.end0 (fn:=Tryz.f150) Tryz.results150  ?_;exact⟨⟨_,rfl⟩,.inl hJ1⟩
theorem Hp.startB {w:World}{b:Nat}{t:TypeId}{cs:Array Value}(h:Box w b t cs):Hp w w [] []:=Hp.start w
def tgK (bm b3 b1:Nat) (LA:Option Addr) (lc:Nat):FK:=⟨fun k=>k=bm∨k=b3∨k=b1,fun w=>MapAt w bm []∧Box w b3 255 [.map (some bm)].toArray∧Box w b1 25 [.slice LA 1 lc].toArray⟩
theorem tgK_ok {bm b3 b1:Nat}{LA:Option Addr}{lc:Nat}:(tgK bm b3 b1 LA lc).ok:=fun w1 w2 h hk hs=>⟨mapB_ok bm [] true w1 w2 h.1 (fun k hx=>hk k (.inl hx)) hs,(hk b3 (.inr (.inl rfl))).trans h.2.1,(hk b1 (.inr (.inr rfl))).trans h.2.2⟩
theorem tgK_lt {bm b3 b1:Nat}{LA:Option Addr}{lc:Nat}{w:World}{t3 t1:TypeId}{c3 c1:Array Value}(hm:MapAt w bm []) (h3:Box w b3 t3 c3) (h1:Box w b1 t1 c1) {k:Nat}(hk:(tgK bm b3 b1 LA lc).fp k):k<w.heap.size:=by
 rcases hk with rfl|rfl|rfl
 ·exact hm.lt
 ·exact h3.lt
 ·exact h1.lt
theorem tgK_ge {bm b3 b1:Nat}{LA:Option Addr}{lc n:Nat}(hm:n≤bm) (h3:n≤b3) (h1:n≤b1) {k:Nat}(hk:(tgK bm b3 b1 LA lc).fp k):n≤k:=by
 rcases hk with rfl|rfl|rfl<;>assumption
theorem begun_seq5 (n be b2 b3:Nat) (w:World) (h2:Box w b2 101 [(.slice (some ⟨be,0,none⟩) 1 1)].toArray) (h3:Box w b3 3 [.int .i64 5].toArray) (hev:Box w be 100 [(.int .i64 1),(.int .i64 7),(.int .i64 5),(.int .i64 2),(.int .i64 0),(.int .i64 3),(.slice none 0 0)].toArray):
  SeqO Fence.wide n Tryz.prog 150 #[.pointer (some ⟨b2,0,none⟩),.pointer (some ⟨b3,0,none⟩)] (fun _:Unit=>#[.int .i64 7,.int .i64 1]) (fun _ _=>True) (fun ys=>ys=[()]) (fun _=>True) 1 w:=fun l J Jx W hW _ hJ hJx hY h0=>
 callsIn_wide.2 ((begun1_5 be b2 b3 W (h2.next hW) (h3.next hW) (hev.next hW) (n-1) l J Jx hJ h0 (fun pre x W1 hj hl=>by
  obtain⟨fn,tm,asg,bo,hy,hR⟩:=hY pre x W1 hj hl
  refine⟨fn,tm,asg,bo,hy,hR.mono fun e W' h=>?_⟩
  rcases h with⟨rfl,h1,h2⟩|⟨rfl,h1,h2⟩
  ·exact⟨true,rfl,fun _=>h1,fun h=>(by cases h)⟩
  ·exact⟨false,rfl,fun h=>(by cases h),fun _=>h1⟩)).mono fun e W' h=>⟨h.1,h.2.imp (fun h=>⟨[()],rfl,h⟩) fun h=>⟨[()],trivial,h⟩⟩)
theorem begun_seq6 (n be b2 b3:Nat) (w:World) (h2:Box w b2 101 [(.slice (some ⟨be,0,none⟩) 1 1)].toArray) (h3:Box w b3 3 [.int .i64 6].toArray) (hev:Box w be 100 [(.int .i64 1),(.int .i64 7),(.int .i64 5),(.int .i64 2),(.int .i64 0),(.int .i64 3),(.slice none 0 0)].toArray):
  SeqO Fence.wide n Tryz.prog 150 #[.pointer (some ⟨b2,0,none⟩),.pointer (some ⟨b3,0,none⟩)] (fun _:Unit=>#[.int .i64 7,.int .i64 2]) (fun _ _=>True) (fun ys=>ys=[()]) (fun _=>True) 1 w:=fun l J Jx W hW _ hJ hJx hY h0=>
 callsIn_wide.2 ((begun1_6 be b2 b3 W (h2.next hW) (h3.next hW) (hev.next hW) (n-1) l J Jx hJ h0 (fun pre x W1 hj hl=>by
  obtain⟨fn,tm,asg,bo,hy,hR⟩:=hY pre x W1 hj hl
  refine⟨fn,tm,asg,bo,hy,hR.mono fun e W' h=>?_⟩
  rcases h with⟨rfl,h1,h2⟩|⟨rfl,h1,h2⟩
  ·exact⟨true,rfl,fun _=>h1,fun h=>(by cases h)⟩
  ·exact⟨false,rfl,fun h=>(by cases h),fun _=>h1⟩)).mono fun e W' h=>⟨h.1,h.2.imp (fun h=>⟨[()],rfl,h⟩) fun h=>⟨[()],trivial,h⟩⟩)
theorem pgain_5 (be lc pc:Nat) (LA PA:Option Addr) (w:World) (hev:Box w be 100 zc2.toArray) (hlib:IsAsts w LA 1 (libS PA pc)):
  Calls Tryz.prog 58 #[(.agg #[zO,zO,zO,zO,zN,zO,zO,zO,zO,zN,zN,zN,zN,(sB be 1 1),zN,zO,zN,(ii 2)]),(sL LA 1 lc),.int .i64 5] w fun e w'=>e=.returned (ii 1000)∧Below w.heap.size w w':=by
 have HP:=Hp.start w;refine w_enterM 26 [(0,(.agg #[zO,zO,zO,zO,zN,zO,zO,zO,zO,zN,zN,zN,zN,(sB be 1 1),zN,zO,zN,(ii 2)])),(1,(sL LA 1 lc)),(2,(ii 5))] Tryz.func58 rfl Tryz.ntmps58 kr kr fun a H=>zq<|H.al HP 3 104 [zO,zO,zO,zO,zN,zO,zO,zO,zO,zN,zN,zN,zN,(sB be 1 1),zN,zO,zN,(ii 2)] fun b_1 w_2 a H HP=>H.ge HP [(6,zO)] [] fun a H=>zt<|H.gn HP 1 [(12,(sL LA 1 lc))] fun a H=>?_;have hbT:=HP.bl.size;refine H.cl 13 (Tryz.call93 _ _) (targets_any LA lc w_2) ?_;rintro e w_3 ⟨bm,b3,b1,rfl,hm,h3,h1,n3,n1,hsm,hs3,hs1,hbt⟩;refine⟨_,rfl,?_⟩;intro a H;have HP:=(HP.next hbt).keepF (tgK bm b3 b1 LA lc) ⟨hm,h3,h1⟩ tgK_ok (fun k hk=>⟨tgK_lt hm h3 h1 hk,(HP.apart_new (tgK_ge hsm hs3 hs1 hk)).1⟩)
 refine H.al HP 7 71 [.nilFunc] fun b_4 w_5 a H HP=>H.sh HP 0 0 (.func (.func 145) #[] #[(pt b3 0),(pt b1 0)]) rfl fun w_6 a H HP=>znl<|zt<|H.al HP 8 3 [zO] fun b_7 w_8 a H HP=>H.sh HP 0 0 (ii 1000) rfl fun w_9 a H HP=>znl<|zt<|H.gn HP 1 [(14,(.func (.func 94) #[] #[(pt b_7 0),(pt b_4 0)]))] fun a H=>H.al HP 9 192 [.nilFunc] fun b_10 w_11 a H HP=>H.sh HP 0 0 (.func (.func 94) #[] #[(pt b_7 0),(pt b_4 0)]) rfl fun w_12 a H HP=>znl<|ztn<|zsq<|zq<|H.go HP 3 [(16,(sB be 1 1)),(17,(ii 5))] [3] fun a H=>H.cl 18 (Tryz.call96 _ _) (begun_any be 5 w_12) ?_;rintro e w_13 ⟨b2,bk,rfl,h2,hk3,hbg⟩;refine⟨_,rfl,?_⟩;intro a H;have HP:=HP.next hbg
 refine znl (ztn (zbk ?_));have hfun:a.eval (.tmp 18)=(.func (.func 150) #[] #[(pt b2 0),(pt bk 0)]):=H.eval kr;have hbelW:=HP.bl;have htg:=(HP.fact 0 rfl);have h8:=HP.at_ 1 rfl;have h7:=HP.at_ 2 rfl;have h9:=HP.at_ 0 rfl;have hb8:=HP.fresh _ (List.mem_of_getElem? (show([bx b_10 192 [(.func (.func 94) #[] #[(pt b_7 0),(pt b_4 0)])] true,bx b_7 3 [(ii 1000)] true,bx b_4 71 [(.func (.func 145) #[] #[(pt b3 0),(pt b1 0)])] true,bx b_1 104 [zO,zO,zO,zO,zN,zO,zO,zO,zO,zN,zN,zN,zN,(sB be 1 1),zN,zO,zN,(ii 2)] true]:List HB)[1]? =some _ from rfl)) rfl _ rfl;have n78:=HP.ne 2 1 rfl rfl (by decide)
 have n8:b_7≠bm:=fun e=>((HP.kept _ (List.mem_of_getElem? (show([tgK bm b3 b1 LA lc]:List FK)[0]? =some _ from rfl))).2.2 bm (.inl rfl)).2 _ (List.mem_of_getElem? (show([bx b_10 192 [(.func (.func 94) #[] #[(pt b_7 0),(pt b_4 0)])] true,bx b_7 3 [(ii 1000)] true,bx b_4 71 [(.func (.func 145) #[] #[(pt b3 0),(pt b1 0)])] true,bx b_1 104 [zO,zO,zO,zO,zN,zO,zO,zO,zO,zN,zN,zN,zN,(sB be 1 1),zN,zO,zN,(ii 2)] true]:List HB)[1]? =some _ from rfl)) e.symm
 have n7:b_4≠bm:=fun e=>((HP.kept _ (List.mem_of_getElem? (show([tgK bm b3 b1 LA lc]:List FK)[0]? =some _ from rfl))).2.2 bm (.inl rfl)).2 _ (List.mem_of_getElem? (show([bx b_10 192 [(.func (.func 94) #[] #[(pt b_7 0),(pt b_4 0)])] true,bx b_7 3 [(ii 1000)] true,bx b_4 71 [(.func (.func 145) #[] #[(pt b3 0),(pt b1 0)])] true,bx b_1 104 [zO,zO,zO,zO,zN,zO,zO,zO,zO,zN,zN,zN,zN,(sB be 1 1),zN,zO,zN,(ii 2)] true]:List HB)[2]? =some _ from rfl)) e.symm
 have n38:b3≠b_7:=fun e=>((HP.kept _ (List.mem_of_getElem? (show([tgK bm b3 b1 LA lc]:List FK)[0]? =some _ from rfl))).2.2 b3 (.inr (.inl rfl))).2 _ (List.mem_of_getElem? (show([bx b_10 192 [(.func (.func 94) #[] #[(pt b_7 0),(pt b_4 0)])] true,bx b_7 3 [(ii 1000)] true,bx b_4 71 [(.func (.func 145) #[] #[(pt b3 0),(pt b1 0)])] true,bx b_1 104 [zO,zO,zO,zO,zN,zO,zO,zO,zO,zN,zN,zN,zN,(sB be 1 1),zN,zO,zN,(ii 2)] true]:List HB)[1]? =some _ from rfl)) e
 have n18:b1≠b_7:=fun e=>((HP.kept _ (List.mem_of_getElem? (show([tgK bm b3 b1 LA lc]:List FK)[0]? =some _ from rfl))).2.2 b1 (.inr (.inr rfl))).2 _ (List.mem_of_getElem? (show([bx b_10 192 [(.func (.func 94) #[] #[(pt b_7 0),(pt b_4 0)])] true,bx b_7 3 [(ii 1000)] true,bx b_4 71 [(.func (.func 145) #[] #[(pt b3 0),(pt b1 0)])] true,bx b_1 104 [zO,zO,zO,zO,zN,zO,zO,zO,zO,zN,zN,zN,zN,(sB be 1 1),zN,zO,zN,(ii 2)] true]:List HB)[1]? =some _ from rfl)) e;obtain⟨tgm,tg3,tg1⟩:=htg;have hl8:¬libFp LA (libS PA pc) b_7:=fun h=>by have:=IsAsts.lt hlib h;omega
 have hlm:¬libFp LA (libS PA pc) bm:=fun h=>by have:=IsAsts.lt hlib h;omega
 have hbm:w.heap.size≤bm:=om;have hl8s:=h8.lt;have hlms:=tgm.lt;have H:=H.keep (L':=[(9,(pt b_10 0)),(8,(pt b_7 0))]) kr;clear HP;refine(wpIn_wide (n:=20)).1<|wpIn_range1 (F:=Fence.wide) rfl om (gf:=150) (lb:=#[(pt b2 0),(pt bk 0)]) hfun trivial (enters_of Tryz.func150 kr rfl) (begun_seq5 19 be b2 bk w_13 h2 hk3 (hev.next hbelW)) rfl
  (fun W=>Box W b_7 3 [.int .i64 1000].toArray∧Below w.heap.size w W) (fun _ _=>False) (OwnFrom.and (box_own _ _ _ (fun _=>_)) (ownFrom_below (Nat.le_refl _) hbelW.size)) (fun _=>ownFrom_pure _ _) (fun a' _=>Sl 26 [(10,.int .i64 7),(11,.int .i64 1),(9,(pt b_10 0)),(8,(pt b_7 0))] a') (fun _=>ownFrom_pure _ _) ?assign ?body ?done (fun _ _ _ _ h=>h.elim)
 case assign=>
  intro l' W K hK;have H:=H.assigned2 19 20 (ii 7) (ii 1) kr kr;have HP:=Hp.start W;refine wpIn_seq<|w_regionF<|H.ge HP [(10,(ii 7))] [] fun a H=>ztn<|w_regionF<|H.ge HP [(11,(ii 1))] [] fun a H=>?_;exact hK _ _ (Below.refl _ _) (H.keep kr)
 case body=>
  intro l' a W hbW H;have HP:=Hp.start W;have hbWs:=hbW.size;refine wpIn_block<|w_regionF<|H.u 21 (.func (.func 94) #[] #[(pt b_7 0),(pt b_4 0)]) (ex_l1 ((h9.next hbW).cell (i:=0) rfl)) fun a H=>H.gn HP 2 [(22,(ii 7)),(23,(ii 1))] fun a H=>H.cl 24 (Tryz.call94 _ _) (gain1_any 1 b_7 b_4 bm b3 b1 lc pc LA PA W (h8.next hbW) (h7.next hbW) n8 n78 n7 n38 n18 hl8 (tgm.next hbW) (tg3.next hbW) (tg1.next hbW) n3 n1 (IsAsts.below (IsAsts.below hlib hbelW) hbW) hlm) ?_;rintro e w_14 ⟨⟨rv,rfl⟩,hx8,hag⟩;refine⟨_,rfl,?_⟩;intro a H;have HP:=Hp.startB hx8;refine znl (zibn ?_)
  exact⟨⟨hag.size,fun k o hk ho hc=>(hag.block k (Array.getElem?_eq_some_iff.1 ho).1 (fun e=>by rcases e with e|e<;>omega)).trans ho⟩,hx8,hbelW.trans (hbW.mono hbelW.size) |>.trans ⟨hag.os,hag.tape,hag.output,hag.size,fun k hk=>hag.block k (Nat.lt_of_lt_of_le hk (Nat.le_trans hbelW.size hbW.size)) (fun e=>by rcases e with e|e<;>omega)⟩⟩
 case done=>
  rintro D W hD ⟨hx8,hbl⟩ hdef;rw[moreD_of _ H.defers];have HP:=(Hp.start w).gain hbl (bx b_7 3 [.int .i64 1000] true) hx8 (bx_ok _ _ _ _) (fun k hk=>by cases hk;exact hx8.lt) (fun k hk=>by cases hk;exact hb8);refine zibn<|ztn<|zsq<|w_regionM<|H.ge HP [(6,(ii 1000))] [0] fun a H=>ztn (zrt ?_);have hd2:W.heap[D]? =some (.deferred (some [])):=hdef;have hfin:Below w.heap.size w W:=HP.bl;have hout:Below w.heap.size w (W.putObj D (.deferred none)):=hfin.trans (belowK_b (w:=w) (Nat.le_refl _) _ D _ _ (by have:=hbelW.size;omega) hd2 rfl rfl);refine H.ret1D hd2 (fn:=Tryz.f58) Tryz.results58 (RV.tmp_ (v:=(ii 1000)) kr) ?_;exact⟨rfl,hout⟩
theorem pgain_6 (be lc pc:Nat) (LA PA:Option Addr) (w:World) (hev:Box w be 100 zc2.toArray) (hlib:IsAsts w LA 1 (libS PA pc)):
  Calls Tryz.prog 58 #[(.agg #[zO,zO,zO,zO,zN,zO,zO,zO,zO,zN,zN,zN,zN,(sB be 1 1),zN,zO,zN,(ii 2)]),(sL LA 1 lc),.int .i64 6] w fun e w'=>e=.returned (ii 1000)∧Below w.heap.size w w':=by
 have HP:=Hp.start w;refine w_enterM 26 [(0,(.agg #[zO,zO,zO,zO,zN,zO,zO,zO,zO,zN,zN,zN,zN,(sB be 1 1),zN,zO,zN,(ii 2)])),(1,(sL LA 1 lc)),(2,(ii 6))] Tryz.func58 rfl Tryz.ntmps58 kr kr fun a H=>zq<|H.al HP 3 104 [zO,zO,zO,zO,zN,zO,zO,zO,zO,zN,zN,zN,zN,(sB be 1 1),zN,zO,zN,(ii 2)] fun b_1 w_2 a H HP=>H.ge HP [(6,zO)] [] fun a H=>zt<|H.gn HP 1 [(12,(sL LA 1 lc))] fun a H=>?_;have hbT:=HP.bl.size;refine H.cl 13 (Tryz.call93 _ _) (targets_any LA lc w_2) ?_;rintro e w_3 ⟨bm,b3,b1,rfl,hm,h3,h1,n3,n1,hsm,hs3,hs1,hbt⟩;refine⟨_,rfl,?_⟩;intro a H;have HP:=(HP.next hbt).keepF (tgK bm b3 b1 LA lc) ⟨hm,h3,h1⟩ tgK_ok (fun k hk=>⟨tgK_lt hm h3 h1 hk,(HP.apart_new (tgK_ge hsm hs3 hs1 hk)).1⟩)
 refine H.al HP 7 71 [.nilFunc] fun b_4 w_5 a H HP=>H.sh HP 0 0 (.func (.func 145) #[] #[(pt b3 0),(pt b1 0)]) rfl fun w_6 a H HP=>znl<|zt<|H.al HP 8 3 [zO] fun b_7 w_8 a H HP=>H.sh HP 0 0 (ii 1000) rfl fun w_9 a H HP=>znl<|zt<|H.gn HP 1 [(14,(.func (.func 94) #[] #[(pt b_7 0),(pt b_4 0)]))] fun a H=>H.al HP 9 192 [.nilFunc] fun b_10 w_11 a H HP=>H.sh HP 0 0 (.func (.func 94) #[] #[(pt b_7 0),(pt b_4 0)]) rfl fun w_12 a H HP=>znl<|ztn<|zsq<|zq<|H.go HP 3 [(16,(sB be 1 1)),(17,(ii 6))] [3] fun a H=>H.cl 18 (Tryz.call96 _ _) (begun_any be 6 w_12) ?_;rintro e w_13 ⟨b2,bk,rfl,h2,hk3,hbg⟩;refine⟨_,rfl,?_⟩;intro a H;have HP:=HP.next hbg
 refine znl (ztn (zbk ?_));have hfun:a.eval (.tmp 18)=(.func (.func 150) #[] #[(pt b2 0),(pt bk 0)]):=H.eval kr;have hbelW:=HP.bl;have htg:=(HP.fact 0 rfl);have h8:=HP.at_ 1 rfl;have h7:=HP.at_ 2 rfl;have h9:=HP.at_ 0 rfl;have hb8:=HP.fresh _ (List.mem_of_getElem? (show([bx b_10 192 [(.func (.func 94) #[] #[(pt b_7 0),(pt b_4 0)])] true,bx b_7 3 [(ii 1000)] true,bx b_4 71 [(.func (.func 145) #[] #[(pt b3 0),(pt b1 0)])] true,bx b_1 104 [zO,zO,zO,zO,zN,zO,zO,zO,zO,zN,zN,zN,zN,(sB be 1 1),zN,zO,zN,(ii 2)] true]:List HB)[1]? =some _ from rfl)) rfl _ rfl;have n78:=HP.ne 2 1 rfl rfl (by decide)
 have n8:b_7≠bm:=fun e=>((HP.kept _ (List.mem_of_getElem? (show([tgK bm b3 b1 LA lc]:List FK)[0]? =some _ from rfl))).2.2 bm (.inl rfl)).2 _ (List.mem_of_getElem? (show([bx b_10 192 [(.func (.func 94) #[] #[(pt b_7 0),(pt b_4 0)])] true,bx b_7 3 [(ii 1000)] true,bx b_4 71 [(.func (.func 145) #[] #[(pt b3 0),(pt b1 0)])] true,bx b_1 104 [zO,zO,zO,zO,zN,zO,zO,zO,zO,zN,zN,zN,zN,(sB be 1 1),zN,zO,zN,(ii 2)] true]:List HB)[1]? =some _ from rfl)) e.symm
 have n7:b_4≠bm:=fun e=>((HP.kept _ (List.mem_of_getElem? (show([tgK bm b3 b1 LA lc]:List FK)[0]? =some _ from rfl))).2.2 bm (.inl rfl)).2 _ (List.mem_of_getElem? (show([bx b_10 192 [(.func (.func 94) #[] #[(pt b_7 0),(pt b_4 0)])] true,bx b_7 3 [(ii 1000)] true,bx b_4 71 [(.func (.func 145) #[] #[(pt b3 0),(pt b1 0)])] true,bx b_1 104 [zO,zO,zO,zO,zN,zO,zO,zO,zO,zN,zN,zN,zN,(sB be 1 1),zN,zO,zN,(ii 2)] true]:List HB)[2]? =some _ from rfl)) e.symm
 have n38:b3≠b_7:=fun e=>((HP.kept _ (List.mem_of_getElem? (show([tgK bm b3 b1 LA lc]:List FK)[0]? =some _ from rfl))).2.2 b3 (.inr (.inl rfl))).2 _ (List.mem_of_getElem? (show([bx b_10 192 [(.func (.func 94) #[] #[(pt b_7 0),(pt b_4 0)])] true,bx b_7 3 [(ii 1000)] true,bx b_4 71 [(.func (.func 145) #[] #[(pt b3 0),(pt b1 0)])] true,bx b_1 104 [zO,zO,zO,zO,zN,zO,zO,zO,zO,zN,zN,zN,zN,(sB be 1 1),zN,zO,zN,(ii 2)] true]:List HB)[1]? =some _ from rfl)) e
 have n18:b1≠b_7:=fun e=>((HP.kept _ (List.mem_of_getElem? (show([tgK bm b3 b1 LA lc]:List FK)[0]? =some _ from rfl))).2.2 b1 (.inr (.inr rfl))).2 _ (List.mem_of_getElem? (show([bx b_10 192 [(.func (.func 94) #[] #[(pt b_7 0),(pt b_4 0)])] true,bx b_7 3 [(ii 1000)] true,bx b_4 71 [(.func (.func 145) #[] #[(pt b3 0),(pt b1 0)])] true,bx b_1 104 [zO,zO,zO,zO,zN,zO,zO,zO,zO,zN,zN,zN,zN,(sB be 1 1),zN,zO,zN,(ii 2)] true]:List HB)[1]? =some _ from rfl)) e;obtain⟨tgm,tg3,tg1⟩:=htg;have hl8:¬libFp LA (libS PA pc) b_7:=fun h=>by have:=IsAsts.lt hlib h;omega
 have hlm:¬libFp LA (libS PA pc) bm:=fun h=>by have:=IsAsts.lt hlib h;omega
 have hbm:w.heap.size≤bm:=om;have hl8s:=h8.lt;have hlms:=tgm.lt;have H:=H.keep (L':=[(9,(pt b_10 0)),(8,(pt b_7 0))]) kr;clear HP;refine(wpIn_wide (n:=20)).1<|wpIn_range1 (F:=Fence.wide) rfl om (gf:=150) (lb:=#[(pt b2 0),(pt bk 0)]) hfun trivial (enters_of Tryz.func150 kr rfl) (begun_seq6 19 be b2 bk w_13 h2 hk3 (hev.next hbelW)) rfl
  (fun W=>Box W b_7 3 [.int .i64 1000].toArray∧Below w.heap.size w W) (fun _ _=>False) (OwnFrom.and (box_own _ _ _ (fun _=>_)) (ownFrom_below (Nat.le_refl _) hbelW.size)) (fun _=>ownFrom_pure _ _) (fun a' _=>Sl 26 [(10,.int .i64 7),(11,.int .i64 2),(9,(pt b_10 0)),(8,(pt b_7 0))] a') (fun _=>ownFrom_pure _ _) ?assign ?body ?done (fun _ _ _ _ h=>h.elim)
 case assign=>
  intro l' W K hK;have H:=H.assigned2 19 20 (ii 7) (ii 2) kr kr;have HP:=Hp.start W;refine wpIn_seq<|w_regionF<|H.ge HP [(10,(ii 7))] [] fun a H=>ztn<|w_regionF<|H.ge HP [(11,(ii 2))] [] fun a H=>?_;exact hK _ _ (Below.refl _ _) (H.keep kr)
 case body=>
  intro l' a W hbW H;have HP:=Hp.start W;have hbWs:=hbW.size;refine wpIn_block<|w_regionF<|H.u 21 (.func (.func 94) #[] #[(pt b_7 0),(pt b_4 0)]) (ex_l1 ((h9.next hbW).cell (i:=0) rfl)) fun a H=>H.gn HP 2 [(22,(ii 7)),(23,(ii 2))] fun a H=>H.cl 24 (Tryz.call94 _ _) (gain1_any 2 b_7 b_4 bm b3 b1 lc pc LA PA W (h8.next hbW) (h7.next hbW) n8 n78 n7 n38 n18 hl8 (tgm.next hbW) (tg3.next hbW) (tg1.next hbW) n3 n1 (IsAsts.below (IsAsts.below hlib hbelW) hbW) hlm) ?_;rintro e w_14 ⟨⟨rv,rfl⟩,hx8,hag⟩;refine⟨_,rfl,?_⟩;intro a H;have HP:=Hp.startB hx8;refine znl (zibn ?_)
  exact⟨⟨hag.size,fun k o hk ho hc=>(hag.block k (Array.getElem?_eq_some_iff.1 ho).1 (fun e=>by rcases e with e|e<;>omega)).trans ho⟩,hx8,hbelW.trans (hbW.mono hbelW.size) |>.trans ⟨hag.os,hag.tape,hag.output,hag.size,fun k hk=>hag.block k (Nat.lt_of_lt_of_le hk (Nat.le_trans hbelW.size hbW.size)) (fun e=>by rcases e with e|e<;>omega)⟩⟩
 case done=>
  rintro D W hD ⟨hx8,hbl⟩ hdef;rw[moreD_of _ H.defers];have HP:=(Hp.start w).gain hbl (bx b_7 3 [.int .i64 1000] true) hx8 (bx_ok _ _ _ _) (fun k hk=>by cases hk;exact hx8.lt) (fun k hk=>by cases hk;exact hb8);refine zibn<|ztn<|zsq<|w_regionM<|H.ge HP [(6,(ii 1000))] [0] fun a H=>ztn (zrt ?_);have hd2:W.heap[D]? =some (.deferred (some [])):=hdef;have hfin:Below w.heap.size w W:=HP.bl;have hout:Below w.heap.size w (W.putObj D (.deferred none)):=hfin.trans (belowK_b (w:=w) (Nat.le_refl _) _ D _ _ (by have:=hbelW.size;omega) hd2 rfl rfl);refine H.ret1D hd2 (fn:=Tryz.f58) Tryz.results58 (RV.tmp_ (v:=(ii 1000)) kr) ?_;exact⟨rfl,hout⟩
theorem origin_any (be:Nat) (w:World):
  Calls Tryz.prog 60 #[(.agg #[zO,zO,zO,zO,zN,zO,zO,zO,zO,zN,zN,zN,zN,(sB be 1 1),zN,zO,zN,(ii 2)]),(.agg zc3)] w fun e w'=>e=.returned (ii 5)∧Below w.heap.size w w':=by
 have HP:=Hp.start w;refine w_enter 26 [(0,(.agg #[zO,zO,zO,zO,zN,zO,zO,zO,zO,zN,zN,zN,zN,(sB be 1 1),zN,zO,zN,(ii 2)])),(1,(.agg zc3))] Tryz.func60 rfl Tryz.ntmps60 kr kr fun a H=>zq<|H.al HP 2 104 [zO,zO,zO,zO,zN,zO,zO,zO,zO,zN,zN,zN,zN,(sB be 1 1),zN,zO,zN,(ii 2)] fun b_1 w_2 a H HP=>H.al HP 3 100 zc2 fun b_3 w_4 a H HP=>H.gz HP [(4,zO)] fun a H=>zsq<|zq<|H.gy HP [(5,(pt b_3 4)),(6,zO),(15,zF)] [0] fun a H=>w_iff H rfl<|zsk<|zt<|H.go HP 4 [(19,(ii 5)),(21,zO)] [0,0] fun a H=>H.valE 22 (ii (IntKind.i64.wrap (5-0))) (ii 5) kr kr kr fun a H=>H.go HP 2 [(24,zO)] [1] fun a H=>H.v 25 (ii 5) fun a H=>H.gz HP [(4,(ii 5))] fun a H=>zrt<|H.r1 (ii 5) Tryz.results60 ?_;exact⟨rfl,HP.bl⟩
theorem oevents_any (be:Nat) (w:World):
  Calls Tryz.prog 99 #[(sB be 1 1)] w fun e w'=>∃b,e=.returned (.func (.func 154) #[] #[.pointer (some ⟨b,0,none⟩)])∧Box w' b 101 [(sB be 1 1)].toArray∧Below w.heap.size w w':=by
 have HP:=Hp.start w;refine w_enter 4 [(0,(sB be 1 1))] Tryz.func99 rfl Tryz.ntmps99 kr kr fun a H=>zq<|H.al HP 1 101 [(sB be 1 1)] fun b_1 w_2 a H HP=>H.gz HP [(2,.nilFunc)] fun a H=>zq<|H.gz HP [(3,(.func (.func 154) #[] #[(pt b_1 0)])),(2,(.func (.func 154) #[] #[(pt b_1 0)]))] fun a H=>zrt<|H.r1 (.func (.func 154) #[] #[(pt b_1 0)]) Tryz.results99 ?_;exact⟨b_1,rfl,HP.at_ 0 rfl,HP.bl⟩
theorem optionals_any (be:Nat) (w:World):
  Calls Tryz.prog 104 #[(sB be 1 1)] w fun e w'=>∃b,e=.returned (.func (.func 155) #[] #[.pointer (some ⟨b,0,none⟩)])∧Box w' b 101 [(sB be 1 1)].toArray∧Below w.heap.size w w':=by
 have HP:=Hp.start w;refine w_enter 4 [(0,(sB be 1 1))] Tryz.func104 rfl Tryz.ntmps104 kr kr fun a H=>zq<|H.al HP 1 101 [(sB be 1 1)] fun b_1 w_2 a H HP=>H.gz HP [(2,.nilFunc)] fun a H=>zq<|H.gz HP [(3,(.func (.func 155) #[] #[(pt b_1 0)])),(2,(.func (.func 155) #[] #[(pt b_1 0)]))] fun a H=>zrt<|H.r1 (.func (.func 155) #[] #[(pt b_1 0)]) Tryz.results104 ?_;exact⟨b_1,rfl,HP.at_ 0 rfl,HP.bl⟩
theorem oevents1_any (be b1:Nat) (w:World) (h1:Box w b1 101 [(sB be 1 1)].toArray) (hev:Box w be 100 zc2.toArray) (m l:Nat) (J Jx:List Unit→World→Prop) (hJo:OwnFrom w.heap.size J) (h0:J [] w) (hY:∀pre x W1,J pre W1→pre.length<1→YieldAt Fence.wide m Tryz.prog l #[(.agg zc3)] W1 fun e W'=>∃b,e=.returned (.bool b)∧(b=true→J (pre++[x]) W')∧(b=false→Jx (pre++[x]) W')):
  Calls Tryz.prog 154 #[(.func (.yield l) #[] #[]),(pt b1 0)] w fun e w'=>(∃v,e=.returned v)∧(J [()] w'∨Jx [()] w'):=by
 have HP:=(((Hp.start w).keepF (boxK be 100 zc2) hev (boxK_ok _ _ _) (fun k hk=>⟨boxK_lt hev hk,fun x hx=>by cases hx⟩)).keepF (boxK b1 101 [(sB be 1 1)]) h1 (boxK_ok _ _ _) (fun k hk=>⟨boxK_lt h1 hk,fun x hx=>by cases hx⟩));refine w_enter 35 [(0,(.func (.yield l) #[] #[])),(1,(pt b1 0))] Tryz.func154 rfl Tryz.ntmps154 kr kr fun a H=>zq<|H.u 5 (sB be 1 1) (ex_l1 (Box.cell (i:=0) (HP.fact 0 rfl:Box _ b1 101 _) rfl)) fun a H=>H.gz HP [(6,(ii 1)),(7,zO)] fun a H=>zbk<|w_loop (fun mm a wv=>(mm=1∧Sl 35 [(7,.int .i64 0),(0,(.func (.yield l) #[] #[])),(5,(sB be 1 1)),(6,(ii 1))] a∧Hp w wv [] [boxK b1 101 [(sB be 1 1)],boxK be 100 zc2])∨(mm=0∧Sl 35 [(7,.int .i64 1),(0,(.func (.yield l) #[] #[])),(5,(sB be 1 1)),(6,(ii 1))] a∧J [()] wv)) 1 (.inl ⟨rfl,H.keep kr,HP⟩) ?_
 rintro mm a w_1 (⟨rfl,H,HP⟩|⟨rfl,H,hJ1⟩)
 ·refine zq<|H.gz HP [(8,zT)] fun a H=>zsq<|w_ift H rfl<|zsk<|ztn<|zsq<|zbk<|zq<|H.v 9 (pt be 0) fun a H=>H.u 10 (.agg zc3) (ex_lN zc2 (boxCells (HP.fact 1 rfl:Box _ be 100 _))) fun a H=>H.al HP 4 100 zc8 fun b_2 w_3 a H HP=>H.sh HP 0 0 (.agg zc3) rfl fun w_4 a H HP=>znl<|ztn<|zsq<|zq<|H.gy HP [(28,zF)] [0,0,0,0] fun a H=>w_iff H rfl<|zsk<|ztn<|zsq<|w_regionI (m+1)<|H.valI 29 (.func (.yield l) #[] #[]) kr kr fun a H=>H.valI 30 (.agg zc3) kr (ex_lN zc2 (HP.cells 0 rfl 0 7 kr)) fun a H=>H.valI 31 (.agg zc3) kr kr fun a H=>H.callY 32 (l:=l) kr kr (hY [] () _ (OwnFrom.below hJo h0 HP.bl) (by decide)) ?_
  rintro e w_5 ⟨bb,rfl,hjt,hjf⟩;refine⟨_,rfl,?_⟩;intro a H;have HP:=Hp.start w_5;refine H.valI 33 (.bool (!bb)) kr kr fun a H=>wpListIn_nil<|ztn<|w_if H rfl (fun g33=>?_) (fun g33=>?_)
  ·have g33p:=not_is_true g33;refine zrt<|zibr<|ztr<|ztr<|zibr<|H.ret0 (fn:=Tryz.f154) Tryz.results154  ?_;exact⟨⟨_,rfl⟩,.inr (hjf g33p)⟩
  have g33p:=not_is_false g33;refine zsk<|zibn<|ztn<|zrg<|H.valE 34 (ii (IntKind.i64.wrap (0+1))) (ii 1) kr kr kr fun a H=>H.ge HP [(7,(ii 1))] [] fun a H=>ztn ?_;exact⟨0,om,.inr ⟨rfl,H.keep kr,hjt g33p⟩⟩
 have HP:=Hp.start w_1;refine zq<|H.gz HP [(8,zF)] fun a H=>zsq<|w_iff H rfl<|wp_exit<|then_exit<|then_exit<|w_exit_here<|H.end0 (fn:=Tryz.f154) Tryz.results154  ?_;exact⟨⟨_,rfl⟩,.inl hJ1⟩
theorem runs_5 (w:World):
  Calls Tryz.prog 100 #[(.agg zc3),.int .i64 5] w fun e w'=>e=.returned zT∧Below w.heap.size w w':=by
 have HP:=Hp.start w;refine w_enter 21 [(0,(.agg zc3)),(1,(ii 5))] Tryz.func100 rfl Tryz.ntmps100 kr kr fun a H=>zq<|H.al HP 2 203 zc2 fun b_1 w_2 a H HP=>H.gz HP [(4,zF)] fun a H=>zq<|H.go HP 13 [(5,(pt b_1 0)),(6,(pt b_1 2)),(10,zT),(11,(ii 5)),(14,(ii 5)),(17,(ii 2))] [0,0,0] fun a H=>H.valE 18 (ii (IntKind.i64.wrap (5+2))) (ii 7) kr kr kr fun a H=>H.gz HP [(4,zT)] fun a H=>zrt<|H.r1 zT Tryz.results100 ?_;exact⟨rfl,HP.bl⟩
theorem runs_6 (w:World):
  Calls Tryz.prog 100 #[(.agg zc3),.int .i64 6] w fun e w'=>e=.returned zT∧Below w.heap.size w w':=by
 have HP:=Hp.start w;refine w_enter 21 [(0,(.agg zc3)),(1,(ii 6))] Tryz.func100 rfl Tryz.ntmps100 kr kr fun a H=>zq<|H.al HP 2 203 zc2 fun b_1 w_2 a H HP=>H.gz HP [(4,zF)] fun a H=>zq<|H.go HP 13 [(5,(pt b_1 0)),(6,(pt b_1 2)),(10,zT),(11,(ii 6)),(14,(ii 5)),(17,(ii 2))] [0,0,0] fun a H=>H.valE 18 (ii (IntKind.i64.wrap (5+2))) (ii 7) kr kr kr fun a H=>H.gz HP [(4,zT)] fun a H=>zrt<|H.r1 zT Tryz.results100 ?_;exact⟨rfl,HP.bl⟩
theorem popt_any (w:World):
  Calls Tryz.prog 101 #[(.agg zc3)] w fun e w'=>e=.returned (.tuple #[(.agg zc9),.bool false])∧Below w.heap.size w w':=by
 have HP:=Hp.start w;refine w_enter 37 [(0,(.agg zc3))] Tryz.func101 rfl Tryz.ntmps101 kr kr fun a H=>zq<|H.al HP 1 203 zc2 fun b_1 w_2 a H HP=>H.al HP 2 74 [zO,zO,zN] fun b_3 w_4 a H HP=>H.gz HP [(3,zF)] fun a H=>zsq<|zq<|H.gy HP [(5,(pt b_1 0)),(14,zF)] [1,1] fun a H=>w_iff H rfl<|zsk<|zt<|H.go HP 6 [(18,(ii 5)),(21,zO)] [1,1] fun a H=>H.valE 22 (ii (IntKind.i64.wrap (5-0))) (ii 5) kr kr kr fun a H=>H.go HP 6 [(25,(ii 2)),(28,zO)] [1,1] fun a H=>H.valE 29 (ii (IntKind.i64.wrap (2+0))) (ii 2) kr kr kr fun a H=>H.go HP 4 [(33,(.agg zc9))] [1] fun a H=>H.al HP 4 74 [zO,zO,zN] fun b_5 w_6 a H HP=>H.sh HP 0 0 (.agg zc9) rfl fun w_7 a H HP=>znl (ztn (zsq ?_));have HP:=HP.front 1 rfl _ rfl
 refine An.start (fun v=>Hp w v [bx b_5 74 [(ii 5),(ii 2),zN] true,bx b_1 203 zc2 true] []) 5 5 HP wide_follows rfl fun w_8 HP=>An.go H (.inr (HP.t1)) 3 [0,1] [(34,(.agg zc9)),(35,(.agg zc9))] [0,0] fun a H=>An.one 2 kr<|Op.call H 36 rfl kr (Eq.trans (kr:_=(callFunc 84 #[(.agg zc9)]).run Tryz.prog w_8) (Tryz.call84 _ _)) (valid_any 5 2 none 0 0 [] w_8 (alts_nil _ _)) ?_;rintro e w_9 ⟨rfl,hb⟩;refine⟨_,rfl,?_⟩;intro a H;have HP:=HP.next hb
 refine⟨.inr (HP.t1),?_⟩;refine An.one 3 kr<|Op.sh H HP 0 0 (.agg zc9) rfl rfl fun w_10 a H HP=>⟨.inr (HP.t1),?_⟩;refine An.go H (.inr (HP.t1)) 0 [4] [(3,zF)] [] fun a H=>An.done kr<|ztn<|zrt<|H.ret2 (fn:=Tryz.f101) Tryz.results101 (RV.cellN (vs:=[(ii 5),(ii 2),zN]) (b:=b_3) (off:=0) (k:=3) kr kr kr rfl (HP.cells 0 rfl 0 3 kr)) (RV.tmp_ (v:=zF) kr) ?_;exact⟨rfl,HP.bl⟩
theorem oevents_seq (n be b1:Nat) (w:World) (h1:Box w b1 101 [(.slice (some ⟨be,0,none⟩) 1 1)].toArray) (hev:Box w be 100 [(.int .i64 1),(.int .i64 7),(.int .i64 5),(.int .i64 2),(.int .i64 0),(.int .i64 3),(.slice none 0 0)].toArray):
  SeqO Fence.wide n Tryz.prog 154 #[.pointer (some ⟨b1,0,none⟩)] (fun _:Unit=>#[(.agg #[(.int .i64 1),(.int .i64 7),(.int .i64 5),(.int .i64 2),(.int .i64 0),(.int .i64 3),(.slice none 0 0)])]) (fun _ _=>True) (fun ys=>ys=[()]) (fun _=>True) 1 w:=fun l J Jx W hW _ hJ hJx hY h0=>
 callsIn_wide.2 ((oevents1_any be b1 W (h1.next hW) (hev.next hW) (n-1) l J Jx hJ h0 (fun pre x W1 hj hl=>by
  obtain⟨fn,tm,asg,bo,hy,hR⟩:=hY pre x W1 hj hl
  refine⟨fn,tm,asg,bo,hy,hR.mono fun e W' h=>?_⟩
  rcases h with⟨rfl,h1,h2⟩|⟨rfl,h1,h2⟩
  ·exact⟨true,rfl,fun _=>h1,fun h=>(by cases h)⟩
  ·exact⟨false,rfl,fun h=>(by cases h),fun _=>h1⟩)).mono fun e W' h=>⟨h.1,h.2.imp (fun h=>⟨[()],rfl,h⟩) fun h=>⟨[()],trivial,h⟩⟩)
def plA (n t d:Nat) (a:Act) (W:World):Prop:=∃b,Box W b t [(.int .i64 1),(.int .i64 7),(.int .i64 5),(.int .i64 2),(.int .i64 0),(.int .i64 3),(.slice none 0 0)].toArray∧Sl n [(d,.pointer (some ⟨b,0,none⟩))] a
theorem plA_own {B n t d:Nat}(a:Act):OwnFrom B (fun(_:Unit) W=>plA n t d a W):=OwnFrom.ex fun b=>OwnFrom.and (box_own _ _ _ (fun _=>_)) (ownFrom_pure _ _)
theorem optionals1_any (l be b1:Nat) (w:World) (h1:Box w b1 101 [(sB be 1 1)].toArray) (hev:Box w be 100 zc2.toArray):
  Calls Tryz.prog 155 #[(.func (.yield l) #[] #[]),(pt b1 0)] w fun e w'=>(∃v,e=.returned v)∧Below w.heap.size w w':=by
 have HP:=(((Hp.start w).keepF (boxK be 100 zc2) hev (boxK_ok _ _ _) (fun k hk=>⟨boxK_lt hev hk,fun x hx=>by cases hx⟩)).keepF (boxK b1 101 [(sB be 1 1)]) h1 (boxK_ok _ _ _) (fun k hk=>⟨boxK_lt h1 hk,fun x hx=>by cases hx⟩));refine w_enterM 23 [(0,(.func (.yield l) #[] #[])),(1,(pt b1 0))] Tryz.func155 rfl Tryz.ntmps155 kr kr fun a H=>zq<|H.al HP 2 265 [(.func (.yield l) #[] #[])] fun b_1 w_2 a H HP=>znl<|zt<|H.u 6 (sB be 1 1) (ex_l1 (Box.cell (i:=0) (HP.fact 0 rfl:Box _ b1 101 _) rfl)) fun a H=>H.cl 7 (Tryz.call99 _ _) (oevents_any be w_2) ?_;rintro e w_3 ⟨b5,rfl,h5,hb⟩;refine⟨_,rfl,?_⟩;intro a H;have HP:=HP.next hb
 refine znl (ztn (zbk ?_));have hfun:a.eval (.tmp 7)=(.func (.func 154) #[] #[(pt b5 0)]):=H.eval kr;have hbelW:=HP.bl;clear HP;refine(wpIn_wide (n:=20)).1<|wpIn_range1 (F:=Fence.wide) rfl om (gf:=154) (lb:=#[(pt b5 0)]) hfun trivial (enters_of Tryz.func154 kr rfl) (oevents_seq 19 be b5 w_3 h5 (hev.next hbelW)) rfl
  (fun W=>Below w.heap.size w W) (fun _ _=>False) (ownFrom_below (Nat.le_refl _) hbelW.size) (fun _=>ownFrom_pure _ _) (plA 23 203 3) (fun a'=>plA_own a') ?assign ?body ?done (fun _ _ _ _ h=>h.elim)
 case assign=>
  intro l' W K hK;have H:=H.assigned 8 (.agg zc3) kr;have HP:=Hp.start W;refine w_regionF<|H.al HP 3 203 zc8 fun b_4 w_5 a H HP=>H.sh HP 0 0 (.agg zc3) rfl fun w_6 a H HP=>znl ?_;exact hK _ _ HP.bl ⟨b_4,HP.at_ 0 rfl,H.keep kr⟩
 case body=>
  rintro l' a W hbW ⟨b3,hx3,H⟩;have HP:=(Hp.start W).keepF (boxK b3 203 zc2) hx3 (boxK_ok _ _ _) (fun k hk=>⟨boxK_lt hx3 hk,fun x hx=>by cases hx⟩);refine wpIn_block<|wpIn_seq<|w_regionF<|H.u 10 (.agg zc3) (ex_lN zc2 (boxCells (HP.fact 0 rfl:Box _ b3 203 _))) fun a H=>H.cb HP 11 (Tryz.call101 _ _) (popt_any W) fun w_7 hb a H HP=>H.gn HP 3 [(12,(.agg zc9)),(13,zF)] fun a H=>H.al HP 4 74 [zO,zO,zN] fun b_8 w_9 a H HP=>H.sh HP 0 0 (.agg zc9) rfl fun w_10 a H HP=>H.gz HP [(5,zF)] fun a H=>wpIn_seq<|w_regionF<|H.gz HP [(22,zF)] fun a H=>w_iffF H rfl<|wpIn_skip<|zibn ?_;have hbl:=HP.bl;exact⟨keepsFrom_below hbl,(hbelW.trans (hbW.mono hbelW.size)).trans (hbl.mono (Nat.le_trans hbelW.size hbW.size))⟩
 case done=>
  rintro D W hD hbl hdef;rw[moreD_of _ H.defers];have HP:=(Hp.start w).next hbl
  refine zibn ?_;have hout:Below w.heap.size w (W.putObj D (.deferred none)):=hbl.trans (belowK_b (w:=w) (Nat.le_refl _) _ D _ _ (by have:=hbelW.size;omega) hdef rfl rfl);exact H.ret0D hdef (fn:=Tryz.f155) Tryz.results155 ⟨⟨_,rfl⟩,hout⟩
def nextX (w:World) (b4 b3 k:Nat) (c:Code) (W:World):Prop:=c=.exit 0∧Hp w W [bx b4 74 [.int .i64 0,.int .i64 0,.slice none 0 0] true,bx b3 3 [.int .i64 ((k:Nat):Int)] true] []
theorem nextX_own {w:World}{B b4 b3 k:Nat}{c:Code}(hB:w.heap.size≤B):OwnFrom B (fun(_:Unit) W=>nextX w b4 b3 k c W):=fun s W W' row ⟨h0,H⟩ hg hr=>
 ⟨h0,Hp.own_ hB (fun x hx=>by simp only[List.mem_cons,List.not_mem_nil,or_false] at hx;rcases hx with rfl|rfl<;>exact bx_cells _ _ _ _) (fun p hp=>by cases hp) () W W' row H hg hr⟩
def plB (n t d b3:Nat) (a:Act) (W:World):Prop:=∃b,Box W b t [(.int .i64 1),(.int .i64 7),(.int .i64 5),(.int .i64 2),(.int .i64 0),(.int .i64 3),(.slice none 0 0)].toArray∧Sl n [(d,.pointer (some ⟨b,0,none⟩)),(3,.pointer (some ⟨b3,0,none⟩))] a
theorem plB_own {B n t d b3:Nat}(a:Act):OwnFrom B (fun(_:Unit) W=>plB n t d b3 a W):=OwnFrom.ex fun b=>OwnFrom.and (box_own _ _ _ (fun _=>_)) (ownFrom_pure _ _)
theorem Hp.keepD {w0 W:World}{L:List HB}{K:List FK}{D:Nat}{o:Obj}(H:Hp w0 W L K) (hc:∀x∈L,x.cellsIn) (hd:W.heap[D]? =some o) (ho:o.isCells=false):Hp w0 W L (keepB W D::K):=
 H.keepF (keepB W D) ⟨Nat.le_refl _,rfl⟩ (keepB_ok W D) fun k hk=>by
  cases hk
  refine⟨(Array.getElem?_eq_some_iff.1 hd).1,fun x hx hxk=>?_⟩
  obtain⟨o',ho',hoc⟩:=hc x hx W (H.res x hx).1 D hxk
  rw[hd] at ho';cases ho';rw[ho] at hoc;cases hoc
theorem moreD_of2 {a:Act}(d e:Deferred) (h:a.defers=[]):({ moreD [e] a with defers:=d::(moreD [e] a).defers}:Act)=moreD [d,e] a:=by simp[moreD,h]
theorem box_putObj {w:World}{b t D:Nat}{cs:Array Value}{x:Option (List Deferred)}{o':Obj}(h:Box w b t cs) (hd:w.heap[D]? =some (.deferred x)):Box (w.putObj D o') b t cs:=by
 have hne:b≠D:=fun e=>by subst e;rw[show w.heap[b]? =_ from h] at hd;cases hd
 exact(World.putObj_heap_other hne).trans h
theorem next_5 (be:Nat) (w:World) (hev:Box w be 100 zc2.toArray):
  Calls Tryz.prog 61 #[(sB be 1 1),.int .i64 5] w fun e w'=>∃OB oc,e=.returned (.agg #[.int .i64 0,.int .i64 0,.slice OB 0 oc])∧Below w.heap.size w w':=by
 have HP:=((Hp.start w).keepF (boxK be 100 zc2) hev (boxK_ok _ _ _) (fun k hk=>⟨boxK_lt hev hk,fun x hx=>by cases hx⟩));refine w_enterM 48 [(0,(sB be 1 1)),(1,(ii 5))] Tryz.func61 rfl Tryz.ntmps61 kr kr fun a H=>zq<|H.al HP 3 3 [(ii 5)] fun b_1 w_2 a H HP=>H.al HP 4 74 [zO,zO,zN] fun b_3 w_4 a H HP=>znl<|ztn<|wp_scope_straight<|zsq<|wp_label<|ztn<|zsq<|zq<|H.gn HP 1 [(12,(sB be 1 1))] fun a H=>H.cl 13 (Tryz.call99 _ _) (oevents_any be w_4) ?_;rintro e w_5 ⟨bv,rfl,hv,hb⟩;refine⟨_,rfl,?_⟩;intro a H;have HP:=HP.next hb
 refine znl (ztn (zbk ?_));have hfun:a.eval (.tmp 13)=(.func (.func 154) #[] #[(pt bv 0)]):=H.eval kr;have hbelW:=HP.bl;have h3:=HP.at_ 1 rfl;have HP0:=HP;clear HP;have H:=H.keep (L':=[(4,(pt b_3 0)),(3,(pt b_1 0)),(0,(sB be 1 1))]) kr;refine(wpIn_wide (n:=20)).1<|wpIn_range1 (F:=Fence.wide) rfl om (gf:=154) (lb:=#[(pt bv 0)]) hfun trivial (enters_of Tryz.func154 kr rfl) (oevents_seq 19 be bv w_5 hv (hev.next hbelW)) rfl
  (fun _=>False) (nextX w b_3 b_1 5) (ownFrom_pure _ _) (fun _=>nextX_own hbelW.size) (plB 48 203 5 b_1) (fun a'=>plB_own a') ?assign ?body (fun _ _ _ h _=>h.elim) ?stop
 case assign=>
  intro l' W K hK;have H:=H.assigned 14 (.agg zc3) kr;have HP:=Hp.start W;refine w_regionF<|H.al HP 5 203 zc8 fun b_6 w_7 a H HP=>H.sh HP 0 0 (.agg zc3) rfl fun w_8 a H HP=>znl ?_;exact hK _ _ HP.bl ⟨b_6,HP.at_ 0 rfl,H.keep kr⟩
 case body=>
  rintro l' a W hbW ⟨b5,hx5,H⟩;have h3W:=h3.next hbW
  have HP:=((Hp.start W).keepF (boxK b_1 3 [.int .i64 5]) h3W (boxK_ok _ _ _) (fun k hk=>⟨boxK_lt h3W hk,fun x hx=>by cases hx⟩)).keepF (boxK b5 203 zc2) hx5 (boxK_ok _ _ _) (fun k hk=>⟨boxK_lt hx5 hk,fun x hx=>by cases hx⟩)
  refine wpIn_block<|wpIn_seq<|wpIn_seq<|w_regionF<|H.u 15 (.agg zc3) (ex_lN zc2 (boxCells (HP.fact 0 rfl:Box _ b5 203 _))) fun a H=>H.u 16 (ii 5) (ex_l1 (Box.cell (i:=0) (HP.fact 1 rfl:Box _ b_1 3 _) rfl)) fun a H=>H.cb HP 17 (Tryz.call100 _ _) (runs_5 W) fun w_9 hb a H HP=>H.ge HP [(18,zF)] [] fun a H=>ztn<|w_iffF H rfl<|wpIn_skip<|ztn<|wpIn_seq<|wpIn_seq<|w_regionF<|H.u 20 (.agg zc3) (ex_lN zc2 (boxCells (HP.fact 0 rfl:Box _ b5 203 _))) fun a H=>H.cb HP 21 (Tryz.call101 _ _) (popt_any w_9) fun w_10 hb a H HP=>H.gn HP 3 [(22,(.agg zc9)),(23,zF)] fun a H=>H.al HP 6 74 [zO,zO,zN] fun b_11 w_12 a H HP=>H.sh HP 0 0 (.agg zc9) rfl fun w_13 a H HP=>H.ge HP [(7,zF)] [] fun a H=>ztn<|wpIn_seq<|w_regionF<|H.ge HP [(24,zF)] [] fun a H=>ztn<|w_iffF H rfl<|wpIn_skip<|ztn<|wpIn_exit<|w_exit_far kr ?_
  have hbl:=HP.bl;exact⟨keepsFrom_below hbl,rfl,((HP0.next hbW).next hbl).untop⟩
 case stop=>
  rintro D c W hD ⟨rfl,HP⟩ hdef;rw[moreD_of _ H.defers];refine(wpIn_wide (n:=20)).2<|wp_exit ?_;have HP:=HP.keepD (by intro x hx;simp only[List.mem_cons,List.not_mem_nil,or_false] at hx;rcases hx with rfl|rfl<;>exact bx_cells _ _ _ _) hdef rfl;refine w_exit_here<|ztn<|zsq<|w_regionM<|H.al HP 8 74 [zO,zO,zN] fun b_14 w_15 a H HP=>znl<|ztn<|zsq<|w_regionM<|H.al HP 9 4 [zF] fun b_16 w_17 a H HP=>H.sh HP 0 0 zF rfl fun w_18 a H HP=>znl<|ztn<|zsq<|w_regionM<|H.gn HP 1 [(27,(.func (.func 103) #[] #[(pt b_16 0),(pt b_14 0)]))] fun a H=>H.al HP 10 207 [.nilFunc] fun b_19 w_20 a H HP=>H.sh HP 0 0 (.func (.func 103) #[] #[(pt b_16 0),(pt b_14 0)]) rfl fun w_21 a H HP=>znl<|ztn<|zsq<|zsq<|w_regionM<|H.gn HP 1 [(28,(sB be 1 1))] fun a H=>H.cl 29 (Tryz.call104 _ _) (optionals_any be w_21) ?_;rintro e w_22 ⟨bo,rfl,ho,hb⟩;refine⟨_,rfl,?_⟩;intro a H;have HP:=HP.next hb
  refine znl (ztn (zbk ?_));have hszW:=(HP.fact 0 rfl:W.heap.size≤_∧_=W.heap[D]?).1;have hfun1:a.eval (.tmp 29)=(.func (.func 155) #[] #[(pt bo 0)]):=H.eval kr;have hfun2:(moreD [{ target:=.collected D,args:=#[]}] a).eval (.tmp 29)=(.func (.func 155) #[] #[(pt bo 0)]):=hfun1;have hbelW2:=HP.bl;refine(wpIn_wide (n:=20)).1<|wpIn_range0 (F:=Fence.wide) rfl om (gf:=155) (lb:=#[(pt bo 0)]) hfun2 trivial (enters_of Tryz.func155 kr rfl) (fun l W2 hW2=>callsIn_wide.2 (optionals1_any l be bo W2 (ho.next hW2) ((hev.next hbelW2).next hW2))) fun D2 W2 hD2 hbW2 hdef2=>?_;rw[moreD_of2 _ _ H.defers];have HP:Hp w W2 [bx b_19 207 [(.func (.func 103) #[] #[(pt b_16 0),(pt b_14 0)])] true,bx b_16 4 [zF] true,bx b_14 74 [zO,zO,zN] true,bx b_3 74 [zO,zO,zN] true,bx b_1 3 [(ii 5)] true] [keepB W D]:=HP.next hbW2
  have hd1:=(HP.fact 0 rfl:W.heap.size≤_∧_=W.heap[D]?).1;have HP:=HP.keepD (by intro x hx;simp only[List.mem_cons,List.not_mem_nil,or_false] at hx;rcases hx with rfl|rfl|rfl|rfl|rfl<;>exact bx_cells _ _ _ _) hdef2 rfl;have hsz1:D<w_22.heap.size:=Nat.lt_of_lt_of_le (Array.getElem?_eq_some_iff.1 hdef).1 hszW;refine zibn<|ztn<|zsq<|w_regionM<|H.go HP 1 [(46,(.agg #[zO,zO,zN]))] [2] fun a H=>H.call 47 kr (Eq.trans (kr:_=(callFunc 102 #[(.agg #[zO,zO,zN])]).run Tryz.prog W2) (Tryz.call102 _ _)) (own_any 0 0 none 0 0 [] W2 (alts_nil _ _) (by decide) (fun _=>⟨rfl,rfl⟩)) ?_;rintro e w_23 ⟨OB,oc,rfl,_,_,_,_,hb,_⟩;refine⟨_,rfl,?_⟩;intro a H;have HP:=HP.next hb
  refine H.sh HP 3 0 (.agg #[zO,zO,(sL OB 0 oc)]) rfl fun w_24 a H HP=>znl (ztn (zrt (ng_ret ?_)));have he2:w_24.heap[D2]? =some (.deferred (some [])):=(HP.fact 0 rfl:W2.heap.size≤_∧_=W2.heap[D2]?).2.trans hdef2;have he1:w_24.heap[D]? =some (.deferred (some [])):=(HP.fact 1 rfl:W.heap.size≤_∧_=W.heap[D]?).2.trans hdef;have hDW:=(Array.getElem?_eq_some_iff.1 hdef).1;have hne:D≠D2:=by have:=hsz1;omega
  have he1p:=(World.putObj_heap_other (o:=.deferred none) (w:=w_24) hne).trans he1;have hout:Below w.heap.size w ((w_24.putObj D2 (.deferred none)).putObj D (.deferred none)):=(HP.bl.trans (belowK_b (w:=w) (Nat.le_refl _) _ D2 _ _ (by have:=hbelW2.size;omega) he2 rfl rfl)).trans (belowK_b (w:=w) (Nat.le_refl _) _ D _ _ (by have:=hbelW.size;omega) he1p rfl rfl);refine H.ret1DD he2 he1 hne (fn:=Tryz.f61) Tryz.results61 (RV.cellN (vs:=[zO,zO,(sL OB 0 oc)]) (b:=b_3) (off:=0) (k:=3) kr kr kr rfl (boxCells (box_putObj (box_putObj (HP.at_ 3 rfl) he2) he1p))) ?_;exact⟨OB,oc,rfl,hout⟩
theorem next_6 (be:Nat) (w:World) (hev:Box w be 100 zc2.toArray):
  Calls Tryz.prog 61 #[(sB be 1 1),.int .i64 6] w fun e w'=>∃OB oc,e=.returned (.agg #[.int .i64 0,.int .i64 0,.slice OB 0 oc])∧Below w.heap.size w w':=by
 have HP:=((Hp.start w).keepF (boxK be 100 zc2) hev (boxK_ok _ _ _) (fun k hk=>⟨boxK_lt hev hk,fun x hx=>by cases hx⟩));refine w_enterM 48 [(0,(sB be 1 1)),(1,(ii 6))] Tryz.func61 rfl Tryz.ntmps61 kr kr fun a H=>zq<|H.al HP 3 3 [(ii 6)] fun b_1 w_2 a H HP=>H.al HP 4 74 [zO,zO,zN] fun b_3 w_4 a H HP=>znl<|ztn<|wp_scope_straight<|zsq<|wp_label<|ztn<|zsq<|zq<|H.gn HP 1 [(12,(sB be 1 1))] fun a H=>H.cl 13 (Tryz.call99 _ _) (oevents_any be w_4) ?_;rintro e w_5 ⟨bv,rfl,hv,hb⟩;refine⟨_,rfl,?_⟩;intro a H;have HP:=HP.next hb
 refine znl (ztn (zbk ?_));have hfun:a.eval (.tmp 13)=(.func (.func 154) #[] #[(pt bv 0)]):=H.eval kr;have hbelW:=HP.bl;have h3:=HP.at_ 1 rfl;have HP0:=HP;clear HP;have H:=H.keep (L':=[(4,(pt b_3 0)),(3,(pt b_1 0)),(0,(sB be 1 1))]) kr;refine(wpIn_wide (n:=20)).1<|wpIn_range1 (F:=Fence.wide) rfl om (gf:=154) (lb:=#[(pt bv 0)]) hfun trivial (enters_of Tryz.func154 kr rfl) (oevents_seq 19 be bv w_5 hv (hev.next hbelW)) rfl
  (fun _=>False) (nextX w b_3 b_1 6) (ownFrom_pure _ _) (fun _=>nextX_own hbelW.size) (plB 48 203 5 b_1) (fun a'=>plB_own a') ?assign ?body (fun _ _ _ h _=>h.elim) ?stop
 case assign=>
  intro l' W K hK;have H:=H.assigned 14 (.agg zc3) kr;have HP:=Hp.start W;refine w_regionF<|H.al HP 5 203 zc8 fun b_6 w_7 a H HP=>H.sh HP 0 0 (.agg zc3) rfl fun w_8 a H HP=>znl ?_;exact hK _ _ HP.bl ⟨b_6,HP.at_ 0 rfl,H.keep kr⟩
 case body=>
  rintro l' a W hbW ⟨b5,hx5,H⟩;have h3W:=h3.next hbW
  have HP:=((Hp.start W).keepF (boxK b_1 3 [.int .i64 6]) h3W (boxK_ok _ _ _) (fun k hk=>⟨boxK_lt h3W hk,fun x hx=>by cases hx⟩)).keepF (boxK b5 203 zc2) hx5 (boxK_ok _ _ _) (fun k hk=>⟨boxK_lt hx5 hk,fun x hx=>by cases hx⟩)
  refine wpIn_block<|wpIn_seq<|wpIn_seq<|w_regionF<|H.u 15 (.agg zc3) (ex_lN zc2 (boxCells (HP.fact 0 rfl:Box _ b5 203 _))) fun a H=>H.u 16 (ii 6) (ex_l1 (Box.cell (i:=0) (HP.fact 1 rfl:Box _ b_1 3 _) rfl)) fun a H=>H.cb HP 17 (Tryz.call100 _ _) (runs_6 W) fun w_9 hb a H HP=>H.ge HP [(18,zF)] [] fun a H=>ztn<|w_iffF H rfl<|wpIn_skip<|ztn<|wpIn_seq<|wpIn_seq<|w_regionF<|H.u 20 (.agg zc3) (ex_lN zc2 (boxCells (HP.fact 0 rfl:Box _ b5 203 _))) fun a H=>H.cb HP 21 (Tryz.call101 _ _) (popt_any w_9) fun w_10 hb a H HP=>H.gn HP 3 [(22,(.agg zc9)),(23,zF)] fun a H=>H.al HP 6 74 [zO,zO,zN] fun b_11 w_12 a H HP=>H.sh HP 0 0 (.agg zc9) rfl fun w_13 a H HP=>H.ge HP [(7,zF)] [] fun a H=>ztn<|wpIn_seq<|w_regionF<|H.ge HP [(24,zF)] [] fun a H=>ztn<|w_iffF H rfl<|wpIn_skip<|ztn<|wpIn_exit<|w_exit_far kr ?_
  have hbl:=HP.bl;exact⟨keepsFrom_below hbl,rfl,((HP0.next hbW).next hbl).untop⟩
 case stop=>
  rintro D c W hD ⟨rfl,HP⟩ hdef;rw[moreD_of _ H.defers];refine(wpIn_wide (n:=20)).2<|wp_exit ?_;have HP:=HP.keepD (by intro x hx;simp only[List.mem_cons,List.not_mem_nil,or_false] at hx;rcases hx with rfl|rfl<;>exact bx_cells _ _ _ _) hdef rfl;refine w_exit_here<|ztn<|zsq<|w_regionM<|H.al HP 8 74 [zO,zO,zN] fun b_14 w_15 a H HP=>znl<|ztn<|zsq<|w_regionM<|H.al HP 9 4 [zF] fun b_16 w_17 a H HP=>H.sh HP 0 0 zF rfl fun w_18 a H HP=>znl<|ztn<|zsq<|w_regionM<|H.gn HP 1 [(27,(.func (.func 103) #[] #[(pt b_16 0),(pt b_14 0)]))] fun a H=>H.al HP 10 207 [.nilFunc] fun b_19 w_20 a H HP=>H.sh HP 0 0 (.func (.func 103) #[] #[(pt b_16 0),(pt b_14 0)]) rfl fun w_21 a H HP=>znl<|ztn<|zsq<|zsq<|w_regionM<|H.gn HP 1 [(28,(sB be 1 1))] fun a H=>H.cl 29 (Tryz.call104 _ _) (optionals_any be w_21) ?_;rintro e w_22 ⟨bo,rfl,ho,hb⟩;refine⟨_,rfl,?_⟩;intro a H;have HP:=HP.next hb
  refine znl (ztn (zbk ?_));have hszW:=(HP.fact 0 rfl:W.heap.size≤_∧_=W.heap[D]?).1;have hfun1:a.eval (.tmp 29)=(.func (.func 155) #[] #[(pt bo 0)]):=H.eval kr;have hfun2:(moreD [{ target:=.collected D,args:=#[]}] a).eval (.tmp 29)=(.func (.func 155) #[] #[(pt bo 0)]):=hfun1;have hbelW2:=HP.bl;refine(wpIn_wide (n:=20)).1<|wpIn_range0 (F:=Fence.wide) rfl om (gf:=155) (lb:=#[(pt bo 0)]) hfun2 trivial (enters_of Tryz.func155 kr rfl) (fun l W2 hW2=>callsIn_wide.2 (optionals1_any l be bo W2 (ho.next hW2) ((hev.next hbelW2).next hW2))) fun D2 W2 hD2 hbW2 hdef2=>?_;rw[moreD_of2 _ _ H.defers];have HP:Hp w W2 [bx b_19 207 [(.func (.func 103) #[] #[(pt b_16 0),(pt b_14 0)])] true,bx b_16 4 [zF] true,bx b_14 74 [zO,zO,zN] true,bx b_3 74 [zO,zO,zN] true,bx b_1 3 [(ii 6)] true] [keepB W D]:=HP.next hbW2
  have hd1:=(HP.fact 0 rfl:W.heap.size≤_∧_=W.heap[D]?).1;have HP:=HP.keepD (by intro x hx;simp only[List.mem_cons,List.not_mem_nil,or_false] at hx;rcases hx with rfl|rfl|rfl|rfl|rfl<;>exact bx_cells _ _ _ _) hdef2 rfl;have hsz1:D<w_22.heap.size:=Nat.lt_of_lt_of_le (Array.getElem?_eq_some_iff.1 hdef).1 hszW;refine zibn<|ztn<|zsq<|w_regionM<|H.go HP 1 [(46,(.agg #[zO,zO,zN]))] [2] fun a H=>H.call 47 kr (Eq.trans (kr:_=(callFunc 102 #[(.agg #[zO,zO,zN])]).run Tryz.prog W2) (Tryz.call102 _ _)) (own_any 0 0 none 0 0 [] W2 (alts_nil _ _) (by decide) (fun _=>⟨rfl,rfl⟩)) ?_;rintro e w_23 ⟨OB,oc,rfl,_,_,_,_,hb,_⟩;refine⟨_,rfl,?_⟩;intro a H;have HP:=HP.next hb
  refine H.sh HP 3 0 (.agg #[zO,zO,(sL OB 0 oc)]) rfl fun w_24 a H HP=>znl (ztn (zrt (ng_ret ?_)));have he2:w_24.heap[D2]? =some (.deferred (some [])):=(HP.fact 0 rfl:W2.heap.size≤_∧_=W2.heap[D2]?).2.trans hdef2;have he1:w_24.heap[D]? =some (.deferred (some [])):=(HP.fact 1 rfl:W.heap.size≤_∧_=W.heap[D]?).2.trans hdef;have hDW:=(Array.getElem?_eq_some_iff.1 hdef).1;have hne:D≠D2:=by have:=hsz1;omega
  have he1p:=(World.putObj_heap_other (o:=.deferred none) (w:=w_24) hne).trans he1;have hout:Below w.heap.size w ((w_24.putObj D2 (.deferred none)).putObj D (.deferred none)):=(HP.bl.trans (belowK_b (w:=w) (Nat.le_refl _) _ D2 _ _ (by have:=hbelW2.size;omega) he2 rfl rfl)).trans (belowK_b (w:=w) (Nat.le_refl _) _ D _ _ (by have:=hbelW.size;omega) he1p rfl rfl);refine H.ret1DD he2 he1 hne (fn:=Tryz.f61) Tryz.results61 (RV.cellN (vs:=[zO,zO,(sL OB 0 oc)]) (b:=b_3) (off:=0) (k:=3) kr kr kr rfl (boxCells (box_putObj (box_putObj (HP.at_ 3 rfl) he2) he1p))) ?_;exact⟨OB,oc,rfl,hout⟩
theorem unit_5 (be lc pc:Nat) (LA PA:Option Addr) (w:World) (hev:Box w be 100 zc2.toArray) (hlib:IsAsts w LA 1 (libS PA pc)):
  Calls Tryz.prog 33 #[(.agg #[zO,zO,zO,zO,zN,zO,zO,zO,zO,zN,zN,zN,zN,(sB be 1 1),zN,zO,zN,(ii 2)]),(sL LA 1 lc),.int .i64 5] w fun e w'=>∃OB oc,e=.returned (.agg #[.int .i64 0,.int .i64 5,.int .i64 2,.int .i64 7,.int .i64 0,.bool true,.string (bstr [107]),.int .i64 3,.int .i64 1000,.string (bstr [64,0,0]),.int .i64 0,.int .i64 0,.slice OB 0 oc])∧Below w.heap.size w w':=by
 have HP:=(((Hp.start w).keepF (astsK LA (libS PA pc)) hlib (fun _ _ h hk hs=>IsAsts.keep h hk hs) (fun k hk=>⟨IsAsts.lt hlib hk,fun x hx=>by cases hx⟩)).keepF (boxK be 100 zc2) hev (boxK_ok _ _ _) (fun k hk=>⟨boxK_lt hev hk,fun x hx=>by cases hx⟩))
 refine w_enter 89 [(0,(.agg #[zO,zO,zO,zO,zN,zO,zO,zO,zO,zN,zN,zN,zN,(sB be 1 1),zN,zO,zN,(ii 2)])),(1,(sL LA 1 lc)),(2,(ii 5))] Tryz.func33 rfl Tryz.ntmps33 kr kr fun a H=>zq<|H.al HP 3 104 [zO,zO,zO,zO,zN,zO,zO,zO,zO,zN,zN,zN,zN,(sB be 1 1),zN,zO,zN,(ii 2)] fun b_1 w_2 a H HP=>H.al HP 6 76 zc0 fun b_3 w_4 a H HP=>znl<|zt<|H.go HP 4 [(15,zO),(16,(ii 5))] [1] fun a H=>H.cb HP 17 (Tryz.call42 _ _) (slate_any 0 5 w_4) fun w_5 hb a H HP=>H.al HP 7 76 zc0 fun b_6 w_7 a H HP=>H.sh HP 0 0 (.agg #[zO,(ii 5),zO,zO,zO,zT,zS,(ii 255),(ii 1000),(sS ([64,0,0])),zO,zO,zN]) rfl fun w_8 a H HP=>znl<|zt<|H.go HP 3 [(19,(ii 2)),(20,(pt b_6 2))] [2] fun a H=>H.sh HP 0 2 (ii 2) rfl fun w_9 a H HP=>znl<|zt<|H.go HP 3 [(23,(sB be 1 1)),(24,(ii 5))] [2] fun a H=>H.cb HP 25 (Tryz.call57 _ _) (at_5 be w_9 (HP.fact 0 rfl)) fun w_10 hb a H HP=>H.gn HP 4 [(26,(.agg zc3)),(27,zO),(28,zT)] fun a H=>H.al HP 8 100 zc8 fun b_11 w_12 a H HP=>H.sh HP 0 0 (.agg zc3) rfl fun w_13 a H HP=>H.gz HP [(9,zO),(10,zT)] fun a H=>zsq<|zq<|H.gz HP [(30,zF)] fun a H=>w_iff H rfl<|zsk<|zt<|H.go HP 3 [(33,(sL LA 1 lc)),(35,(ii 7))] [0] fun a H=>H.cl 36 (Tryz.call43 _ _) ((mfind_any LA 1 lc (libS PA pc) 7 w_13 (HP.fact 1 rfl) (by decide) libS_len).mono fun e w' h=>ret_findS h) ?_
 rintro e w_14 ⟨FB,fc,rfl,hfp,hfc1,hfc2,hfc3,hbf,hfr⟩;refine⟨_,rfl,?_⟩;intro a H;have HP:=(HP.next hbf).keepF ⟨rowFp 2 FB,fun w=>IsPics w FB 2 picsS⟩ hfp (fun _ _ h hk hs=>⟨h.1,h.2.keep hk hs⟩) (fun j hj=>row_sep HP hfp.2 hfr hj);refine H.gn HP 3 [(37,(.agg #[(ii 7),(sL FB 2 fc)])),(38,zT)] fun a H=>H.al HP 11 91 [zO,zN] fun b_15 w_16 a H HP=>H.sh HP 0 0 (.agg #[(ii 7),(sL FB 2 fc)]) rfl fun w_17 a H HP=>H.gz HP [(10,zT)] fun a H=>zsq<|zq<|H.gy HP [(51,zF)] [0] fun a H=>w_iff H rfl<|zsk<|zt<|H.go HP 3 [(54,(sL FB 2 fc)),(55,zO)] [0] fun a H=>?_;obtain⟨bu,ou,hA,hbu,hpc⟩:=pic_cells (HP.fact 0 rfl:IsPics _ FB 2 picsS) (i:=0) (by decide)
 refine H.u 56 (.pointer (some ⟨bu,ou+0*3,none⟩)) (ex_indexA (b:=bu) (off:=ou) (len:=2) (cap:=fc) (e:=96) (k:=3) (ik:=.i64) (i:=0) (m:=0) hA kr kr rfl (by decide) kr kr) fun a H=>H.u 57 (.agg #[zT,(sS ([107])),zO]) (ex_loadN (b:=bu) (off:=ou+0*3) (vs:=[zT,(sS ([107])),zO]) kr kr kr rfl (pic_cells2 (HP.fact 0 rfl:IsPics _ FB 2 picsS) (i:=0) (by decide) hA)) fun a H=>H.al HP 12 96 [zF,zS,zO] fun b_18 w_19 a H HP=>H.sh HP 0 0 (.agg #[zT,(sS ([107])),zO]) rfl fun w_20 a H HP=>znl (ztn (zsq ?_));have HP:=HP.front 4 rfl _ rfl
 refine An.start (fun v=>Hp w v [bx b_18 96 [zT,(sS ([107])),zO] true,bx b_15 91 [(ii 7),(sL FB 2 fc)] true,bx b_11 100 zc2 true,bx b_6 76 [zO,(ii 5),(ii 2),zO,zO,zT,zS,(ii 255),(ii 1000),(sS ([64,0,0])),zO,zO,zN] true,bx b_1 104 [zO,zO,zO,zO,zN,zO,zO,zO,zO,zN,zN,zN,zN,(sB be 1 1),zN,zO,zN,(ii 2)] true] [⟨rowFp 2 FB,fun w=>IsPics w FB 2 picsS⟩,boxK be 100 zc2,astsK LA (libS PA pc)]) 31 32 HP wide_follows rfl fun w_21 HP=>An.go H (.inr (HP.t1)) 6 [0,1,2,3,4,5,6,7,8,9,10,11,12,13,14,15,16,17,19,20,21,22,24,26,27,28] [(60,zO),(61,(ii 5)),(63,(ii 2)),(65,(ii 7)),(66,zO),(68,zT),(70,(sS ([107]))),(72,(ii 3)),(73,(.agg #[zO,zO,zO,zO,zN,zO,zO,zO,zO,zN,zN,zN,zN,(sB be 1 1),zN,zO,zN,(ii 2)])),(74,(sL LA 1 lc)),(75,(ii 5)),(78,zN),(79,(.agg #[zO,zO,zO,zO,zN,zO,zO,zO,zO,zN,zN,zN,zN,(sB be 1 1),zN,zO,zN,(ii 2)])),(80,(.agg zc3)),(82,(ii 5)),(85,(sB be 1 1)),(86,(ii 5))] [4,4,2,0,0,2,4,4,4,2,4] fun a H=>An.one 18 kr<|Op.cb H HP 76 (Tryz.call58 _ _) (pgain_5 be lc pc LA PA w_21 (HP.fact 1 rfl) (HP.fact 2 rfl)) fun w_22 hb a H HP=>⟨.inr (HP.t1),?_⟩
 refine An.one 23 kr<|Op.cb H HP 81 (Tryz.call60 _ _) (origin_any be w_22) fun w_23 hb a H HP=>⟨.inr (HP.t1),?_⟩;refine An.one 25 kr<|Op.cb H HP 83 (Tryz.call59 _ _) (codeN_any 5 w_23) fun w_24 hb a H HP=>⟨.inr (HP.t1),?_⟩;refine An.one 29 kr<|Op.cl H 87 (Tryz.call61 _ _) (next_5 be w_24 (HP.fact 1 rfl)) ?_;rintro e w_25 ⟨OB,oc,rfl,hb⟩;refine⟨_,rfl,?_⟩;intro a H;have HP:=HP.next hb
 refine⟨.inr (HP.t1),?_⟩;refine An.go H (.inr (HP.t1)) 1 [30] [(88,(.agg #[zO,(ii 5),(ii 2),(ii 7),zO,zT,(sS ([107])),(ii 3),(ii 1000),(sS ([64,0,0])),zO,zO,(sL OB 0 oc)]))] [] fun a H=>An.one 31 kr<|Op.sh H HP 0 0 (.agg #[zO,(ii 5),(ii 2),(ii 7),zO,zT,(sS ([107])),(ii 3),(ii 1000),(sS ([64,0,0])),zO,zO,(sL OB 0 oc)]) rfl rfl fun w_26 a H HP=>⟨.inl kr,?_⟩;refine An.done kr<|ztn<|zrt<|H.ret1 (fn:=Tryz.f33) Tryz.results33 (RV.cellN (vs:=[zO,(ii 5),(ii 2),(ii 7),zO,zT,(sS ([107])),(ii 3),(ii 1000),(sS ([64,0,0])),zO,zO,(sL OB 0 oc)]) (b:=b_3) (off:=0) (k:=13) kr kr kr rfl (HP.cells 0 rfl 0 13 kr)) ?_;exact⟨OB,oc,rfl,HP.bl⟩
theorem unit_6 (be lc pc:Nat) (LA PA:Option Addr) (w:World) (hev:Box w be 100 zc2.toArray) (hlib:IsAsts w LA 1 (libS PA pc)):
  Calls Tryz.prog 33 #[(.agg #[zO,zO,zO,zO,zN,zO,zO,zO,zO,zN,zN,zN,zN,(sB be 1 1),zN,zO,zN,(ii 2)]),(sL LA 1 lc),.int .i64 6] w fun e w'=>∃OB oc,e=.returned (.agg #[.int .i64 0,.int .i64 6,.int .i64 2,.int .i64 7,.int .i64 1,.bool false,.string (bstr [112]),.int .i64 3,.int .i64 1000,.string (bstr [0,0,0]),.int .i64 0,.int .i64 0,.slice OB 0 oc])∧Below w.heap.size w w':=by
 have HP:=(((Hp.start w).keepF (astsK LA (libS PA pc)) hlib (fun _ _ h hk hs=>IsAsts.keep h hk hs) (fun k hk=>⟨IsAsts.lt hlib hk,fun x hx=>by cases hx⟩)).keepF (boxK be 100 zc2) hev (boxK_ok _ _ _) (fun k hk=>⟨boxK_lt hev hk,fun x hx=>by cases hx⟩))
 refine w_enter 89 [(0,(.agg #[zO,zO,zO,zO,zN,zO,zO,zO,zO,zN,zN,zN,zN,(sB be 1 1),zN,zO,zN,(ii 2)])),(1,(sL LA 1 lc)),(2,(ii 6))] Tryz.func33 rfl Tryz.ntmps33 kr kr fun a H=>zq<|H.al HP 3 104 [zO,zO,zO,zO,zN,zO,zO,zO,zO,zN,zN,zN,zN,(sB be 1 1),zN,zO,zN,(ii 2)] fun b_1 w_2 a H HP=>H.al HP 6 76 zc0 fun b_3 w_4 a H HP=>znl<|zt<|H.go HP 4 [(15,zO),(16,(ii 6))] [1] fun a H=>H.cb HP 17 (Tryz.call42 _ _) (slate_any 0 6 w_4) fun w_5 hb a H HP=>H.al HP 7 76 zc0 fun b_6 w_7 a H HP=>H.sh HP 0 0 (.agg #[zO,(ii 6),zO,zO,zO,zT,zS,(ii 255),(ii 1000),(sS ([64,0,0])),zO,zO,zN]) rfl fun w_8 a H HP=>znl<|zt<|H.go HP 3 [(19,(ii 2)),(20,(pt b_6 2))] [2] fun a H=>H.sh HP 0 2 (ii 2) rfl fun w_9 a H HP=>znl<|zt<|H.go HP 3 [(23,(sB be 1 1)),(24,(ii 6))] [2] fun a H=>H.cb HP 25 (Tryz.call57 _ _) (at_6 be w_9 (HP.fact 0 rfl)) fun w_10 hb a H HP=>H.gn HP 4 [(26,(.agg zc3)),(27,(ii 1)),(28,zT)] fun a H=>H.al HP 8 100 zc8 fun b_11 w_12 a H HP=>H.sh HP 0 0 (.agg zc3) rfl fun w_13 a H HP=>H.gz HP [(9,(ii 1)),(10,zT)] fun a H=>zsq<|zq<|H.gz HP [(30,zF)] fun a H=>w_iff H rfl<|zsk<|zt<|H.go HP 3 [(33,(sL LA 1 lc)),(35,(ii 7))] [0] fun a H=>H.cl 36 (Tryz.call43 _ _) ((mfind_any LA 1 lc (libS PA pc) 7 w_13 (HP.fact 1 rfl) (by decide) libS_len).mono fun e w' h=>ret_findS h) ?_
 rintro e w_14 ⟨FB,fc,rfl,hfp,hfc1,hfc2,hfc3,hbf,hfr⟩;refine⟨_,rfl,?_⟩;intro a H;have HP:=(HP.next hbf).keepF ⟨rowFp 2 FB,fun w=>IsPics w FB 2 picsS⟩ hfp (fun _ _ h hk hs=>⟨h.1,h.2.keep hk hs⟩) (fun j hj=>row_sep HP hfp.2 hfr hj);refine H.gn HP 3 [(37,(.agg #[(ii 7),(sL FB 2 fc)])),(38,zT)] fun a H=>H.al HP 11 91 [zO,zN] fun b_15 w_16 a H HP=>H.sh HP 0 0 (.agg #[(ii 7),(sL FB 2 fc)]) rfl fun w_17 a H HP=>H.gz HP [(10,zT)] fun a H=>zsq<|zq<|H.gy HP [(51,zF)] [0] fun a H=>w_iff H rfl<|zsk<|zt<|H.go HP 3 [(54,(sL FB 2 fc)),(55,(ii 1))] [0] fun a H=>?_;obtain⟨bu,ou,hA,hbu,hpc⟩:=pic_cells (HP.fact 0 rfl:IsPics _ FB 2 picsS) (i:=1) (by decide)
 refine H.u 56 (.pointer (some ⟨bu,ou+1*3,none⟩)) (ex_indexA (b:=bu) (off:=ou) (len:=2) (cap:=fc) (e:=96) (k:=3) (ik:=.i64) (i:=1) (m:=1) hA kr kr rfl (by decide) kr kr) fun a H=>H.u 57 (.agg #[zF,(sS ([112])),zO]) (ex_loadN (b:=bu) (off:=ou+1*3) (vs:=[zF,(sS ([112])),zO]) kr kr kr rfl (pic_cells2 (HP.fact 0 rfl:IsPics _ FB 2 picsS) (i:=1) (by decide) hA)) fun a H=>H.al HP 12 96 [zF,zS,zO] fun b_18 w_19 a H HP=>H.sh HP 0 0 (.agg #[zF,(sS ([112])),zO]) rfl fun w_20 a H HP=>znl (ztn (zsq ?_));have HP:=HP.front 4 rfl _ rfl
 refine An.start (fun v=>Hp w v [bx b_18 96 [zF,(sS ([112])),zO] true,bx b_15 91 [(ii 7),(sL FB 2 fc)] true,bx b_11 100 zc2 true,bx b_6 76 [zO,(ii 6),(ii 2),zO,zO,zT,zS,(ii 255),(ii 1000),(sS ([64,0,0])),zO,zO,zN] true,bx b_1 104 [zO,zO,zO,zO,zN,zO,zO,zO,zO,zN,zN,zN,zN,(sB be 1 1),zN,zO,zN,(ii 2)] true] [⟨rowFp 2 FB,fun w=>IsPics w FB 2 picsS⟩,boxK be 100 zc2,astsK LA (libS PA pc)]) 31 32 HP wide_follows rfl fun w_21 HP=>An.go H (.inr (HP.t1)) 6 [0,1,2,3,4,5,6,7,8,9,10,11,12,13,14,15,16,17,19,20,21,22,24,26,27,28] [(60,zO),(61,(ii 6)),(63,(ii 2)),(65,(ii 7)),(66,(ii 1)),(68,zF),(70,(sS ([112]))),(72,(ii 3)),(73,(.agg #[zO,zO,zO,zO,zN,zO,zO,zO,zO,zN,zN,zN,zN,(sB be 1 1),zN,zO,zN,(ii 2)])),(74,(sL LA 1 lc)),(75,(ii 6)),(78,zN),(79,(.agg #[zO,zO,zO,zO,zN,zO,zO,zO,zO,zN,zN,zN,zN,(sB be 1 1),zN,zO,zN,(ii 2)])),(80,(.agg zc3)),(82,(ii 6)),(85,(sB be 1 1)),(86,(ii 6))] [4,4,2,0,0,2,4,4,4,2,4] fun a H=>An.one 18 kr<|Op.cb H HP 76 (Tryz.call58 _ _) (pgain_6 be lc pc LA PA w_21 (HP.fact 1 rfl) (HP.fact 2 rfl)) fun w_22 hb a H HP=>⟨.inr (HP.t1),?_⟩
 refine An.one 23 kr<|Op.cb H HP 81 (Tryz.call60 _ _) (origin_any be w_22) fun w_23 hb a H HP=>⟨.inr (HP.t1),?_⟩;refine An.one 25 kr<|Op.cb H HP 83 (Tryz.call59 _ _) (code56_any w_23) fun w_24 hb a H HP=>⟨.inr (HP.t1),?_⟩;refine An.one 29 kr<|Op.cl H 87 (Tryz.call61 _ _) (next_6 be w_24 (HP.fact 1 rfl)) ?_;rintro e w_25 ⟨OB,oc,rfl,hb⟩;refine⟨_,rfl,?_⟩;intro a H;have HP:=HP.next hb
 refine⟨.inr (HP.t1),?_⟩;refine An.go H (.inr (HP.t1)) 1 [30] [(88,(.agg #[zO,(ii 6),(ii 2),(ii 7),(ii 1),zF,(sS ([112])),(ii 3),(ii 1000),(sS ([0,0,0])),zO,zO,(sL OB 0 oc)]))] [] fun a H=>An.one 31 kr<|Op.sh H HP 0 0 (.agg #[zO,(ii 6),(ii 2),(ii 7),(ii 1),zF,(sS ([112])),(ii 3),(ii 1000),(sS ([0,0,0])),zO,zO,(sL OB 0 oc)]) rfl rfl fun w_26 a H HP=>⟨.inl kr,?_⟩;refine An.done kr<|ztn<|zrt<|H.ret1 (fn:=Tryz.f33) Tryz.results33 (RV.cellN (vs:=[zO,(ii 6),(ii 2),(ii 7),(ii 1),zF,(sS ([112])),(ii 3),(ii 1000),(sS ([0,0,0])),zO,zO,(sL OB 0 oc)]) (b:=b_3) (off:=0) (k:=13) kr kr kr rfl (HP.cells 0 rfl 0 13 kr)) ?_;exact⟨OB,oc,rfl,HP.bl⟩
def u5 (A:Option Addr) (c:Nat):Un:=⟨0,5,2,7,0,true,[107],3,1000,[64,0,0],0,0,A,c,[]⟩
def u6 (A:Option Addr) (c:Nat):Un:=⟨0,6,2,7,1,false,[112],3,1000,[0,0,0],0,0,A,c,[]⟩
def s5:List UInt8:=(packP 25 1 (u5 none 0)).getD []
def s6:List UInt8:=(packP 25 1 (u6 none 0)).getD []
theorem pack_s5 (A:Option Addr) (c:Nat):packP 25 1 (u5 A c)=some s5:=kr
theorem pack_s6 (A:Option Addr) (c:Nat):packP 25 1 (u6 A c)=some s6:=kr
theorem s5_len:s5.length=64:=kr
theorem s6_len:s6.length=64:=kr
theorem un_s5:unpackP 25 1 s5=some (u5 none 0):=kr
theorem un_s6:unpackP 25 1 s6=some (u6 none 0):=kr
def ch0:Ch:=⟨0,0,500,0,0,25,1⟩
def cA:Un×Ch:=chooseC (libS none 0) none ch0 4 s5 []
def cB:Un×Ch:=chooseC (libS none 0) (some 2) cA.2 5 s5 []
def cC:Un×Ch:=chooseC (libS none 0) (some 2) cB.2 6 [] s6
def cD:Un×Ch:=chooseC (libS none 0) (some 2) cC.2 7 s6 s6
theorem allA (A:Option Addr) (c:Nat):allC (libS A c) (floorP false 0 0 4) [ch0] 4 [s5] []=[cA]:=kr
theorem allB (A:Option Addr) (c:Nat):allC (libS A c) (floorP true 4 2 5) [cA.2] 5 [s5] []=[cB]:=kr
theorem allD (A:Option Addr) (c:Nat):allC (libS A c) (floorP true 4 2 6) [cB.2] 6 [] [s6]=[cC]:=kr
theorem allE (A:Option Addr) (c:Nat):allC (libS A c) (floorP true 4 2 7) [cC.2] 7 [s6] [s6]=[cD]:=kr
theorem sane_A:cA.1.item=0:=kr
theorem sane_B:cB.1.item=7∧cB.1.data=[107]:=⟨kr,kr⟩
theorem sane_C:cC.1.index=1:=kr
theorem sane_D:cD.1.item=0∧cD.1.frame=7:=⟨kr,kr⟩
theorem sane_full:decide (500<cD.2.full)=true∧cD.2.number=0:=⟨kr,kr⟩
theorem sane_fl:floorP true 4 2 12=some 2∧floorP true 4 2 13=none:=⟨kr,kr⟩
abbrev pl1 (IA:Option Addr) (ic:Nat):PlS:=⟨0,25,500,IA,ic⟩
theorem plansS_any (w:World):Calls Tryz.prog 12 #[] w fun e w'=>∃A c IA ic,e=.returned (.slice A 2 c)∧2≤c∧IsRow 13 plnC w' (dropA A c 1 13) [pl1 IA ic]∧(∀p∈ [pl1 IA ic],IsRow 5 itC w' p.IA its3)∧Below w.heap.size w w':=
  (plans_any w).mono fun e w' ⟨A,c,ps,he,hk,hr,hb⟩=>by
    match ps,hk,hr with
    | [p0,⟨q1,q2,q3,IA,ic⟩],hk,hr=>
      have h1:q1=0∧q2=25∧q3=500:=by
        simp only[List.map_cons,List.map_nil,PlS.key,plKeys,List.cons.injEq,Prod.mk.injEq,and_true] at hk;exact hk.2
      obtain⟨rfl,rfl,rfl⟩:=h1
      have hc:=(own_facts hr.1).1
      exact⟨A,c,IA,ic,he,hc,IsRow.dropA plnC_size (l:=[p0,pl1 IA ic]) (i:=1) (Rd.of_own hr.1) hc (Nat.le_succ 1),fun p hp=>(hr.2 p (List.mem_cons_of_mem _ hp)).1,hb⟩
    | [],hk,_=>cases hk
    | [_],hk,_=>simp[plKeys] at hk
    |_::_::_::_,hk,_=>simp[plKeys] at hk
theorem newS {IA PA:Option Addr}{ic pc:Nat}{w w':World}{e:Ending}(h:RetSel [pl1 IA ic] (libS PA pc) w e w'):∃bs bc cc SA sc l' rest,e=.returned (.tuple #[.pointer (some ⟨bs,0,none⟩),.int .i64 0])∧SelN [pl1 IA ic] (libS PA pc) w.heap.size bs bc cc SA sc l' rest w'∧Below w.heap.size w w':=by
  rcases h with⟨h,_⟩|⟨_,h⟩
  · rw[show newP [pl1 IA ic] (libS PA pc)=true from kr] at h;cases h
  · exact h
theorem newSN {LA:Option Addr}{lib:List AstA}{w w':World}{e:Ending}(h:RetSel [] lib w e w'):e=.returned (.tuple #[.pointer none,.int .i64 220])∧Below w.heap.size w w':=by
  rcases h with⟨_,h⟩|⟨h,_⟩
  · exact h
  · cases h
theorem sameS {l':List AstA}{A:Option Addr}{c:Nat}(h:sameA l' (libS A c)):∃A' c',l'=libS A' c':=by
  unfold sameA at h;match l',h with
  | [⟨i,A',c',p⟩],h=>
    simp only[List.map_cons,List.map_nil,List.cons.injEq,Prod.mk.injEq,and_true] at h;obtain⟨rfl,rfl⟩:=h;exact⟨A',c',rfl⟩
  | [],h=>cases h
  |_::_::_,h=>simp at h
theorem chooseS {p:Un×Ch}{bc:Nat}{rest:List Value}{w w':World}{e:Ending}(h:RetChoose [p] bc rest w e w'):∃A c u,e=.returned (.slice A 1 c)∧IsRow 13 unC w' A [u]∧bareU u=p.1∧(∀q,rowFp 1 A q→w.heap.size≤q)∧Box w' bc 115 (flat chC [p.2]++rest).toArray∧w.grownBy w' (some bc):=by
  obtain⟨A,c,us,he,hr,hu,_,hb,hg⟩:=h;match us,hu,hr with
  | [u],hu,hr=>exact⟨A,c,u,he,IsRow.ofOwn hr rfl,by simpa using hu,fun q ⟨_,off,ea⟩=>(own_lt hr.1 q (by rw[ea];rfl)).2,hb,hg⟩
  | [],hu,_=>cases hu
  |_::_::_,hu,_=>simp at hu
theorem sane_al {s:List UInt8}(h:s=[]∨s=s5∨s=s6):(∀u,unpackP 25 1 s=some u→u.al=[])∧s.length≤1000000:=by
  rcases h with h|h|h
  · rw[h];exact⟨fun u hu=>by rw[unpack_mod (s:=[]) (.inl rfl)] at hu;exact absurd hu (by simp),Nat.zero_le _⟩
  · rw[h];exact⟨fun u hu=>by rw[un_s5] at hu;rw[←Option.some.inj hu];rfl,by rw[s5_len];decide⟩
  · rw[h];exact⟨fun u hu=>by rw[un_s6] at hu;rw[←Option.some.inj hu];rfl,by rw[s6_len];decide⟩
theorem sane_row {la:List (List UInt8)}(h:∀s∈la,s=[]∨s=s5∨s=s6):(∀s∈la,s.length≤1000000)∧∀i u,unpackP 25 1 (la.getD i [])=some u→u.al=[]:=by
  refine⟨fun s hs=>(sane_al (h s hs)).2,fun i u hu=>?_⟩;by_cases hi:i<la.length
  · rw[List.getD_eq_getElem?_getD,List.getElem?_eq_getElem hi] at hu;exact(sane_al (h _ (List.getElem_mem hi))).1 u hu
  · rw[List.getD_eq_getElem?_getD,List.getElem?_eq_none om] at hu;exact(sane_al (.inl rfl)).1 u hu
theorem chooseX (bs bc cc sc sq:Nat) (SA SP:Option Addr) (hd:Bool) (at_ od fr:Int) (rest:List Value) (c:Ch) (p:Un×Ch) (AA AB:Option Addr) (ca cb:Nat) (la lb:List (List UInt8)) (w:World)
    (hp:allC (libS SP sq) (floorP hd at_ od fr) [c] fr la lb=[p]) (hc:decide (c.num=25∧c.den=1∧-1≤c.index∧c.index≤1000000000)=true) (hla:∀s∈la,s=[]∨s=s5∨s=s6) (hlb:∀s∈lb,s=[]∨s=s5∨s=s6)
    (hat:0≤at_∧at_≤9223372036854775807) (hfr:-9223372036854775808≤fr∧fr≤9223372036854775807) (hne:bs≠bc) (hcl:¬libFp SA (libS SP sq) bc) (h2c:2≤bc) (hca:¬rowFp la.length AA bc) (hcb:¬rowFp lb.length AB bc) (hL:Laid w) (hlib:IsAsts w SA 1 (libS SP sq))
    (hS:Box w bs 111 (selL bc 1 cc SA 1 sc hd at_ od).toArray) (hC:Box w bc 115 (flat chC [c]++rest).toArray) (hsa:IsRow 1 strC w AA la) (hsb:IsRow 1 strC w AB lb):
    Calls Tryz.prog 20 #[.pointer (some ⟨bs,0,none⟩),.int .i64 fr,.slice AA la.length ca,.slice AB lb.length cb] w fun e w'=>∃A c u,e=.returned (.slice A 1 c)∧IsRow 13 unC w' A [u]∧bareU u=p.1∧(∀q,rowFp 1 A q→w.heap.size≤q)∧Box w' bc 115 (flat chC [p.2]++rest).toArray∧w.grownBy w' (some bc):=by
  have hcc:=of_decide_eq_true hc;have h1:=sane_row hla;have h2:=sane_row hlb;refine(chooseA_any bs bc cc sc SA (libS SP sq) hd at_ od fr rest [c] AA AB ca cb la lb w Nat.zero_lt_one (by show 1≤40;decide) hat hfr h1.1 h2.1 ?_ hne hcl h2c hca hcb hL hlib (by show 1≤maxLen;decide) libS_len hS hC hsa hsb).mono fun e w' h=>chooseS (by rw[hp] at h;exact h);intro i c' hi;match i,hi with
  |0,hi=>
    cases hi
    rw[hcc.1,hcc.2.1];exact⟨hcc.2.2,h1.2 0,h2.2 0⟩
theorem libS_box {w:World}{bL bP:Nat}(h1:Box w bL 91 [.int .i64 7,.slice (some ⟨bP,0,none⟩) 2 2].toArray) (h2:Box w bP 96 [.bool true,.string (bstr [107]),.int .i64 0,.bool false,.string (bstr [112]),.int .i64 0].toArray):IsAsts w (some ⟨bL,0,none⟩) 1 (libS (some ⟨bP,0,none⟩) 2):=by
  refine⟨⟨rfl,rfl,.inr ⟨bL,0,rfl,h1.lt,fun i hi=>?_⟩⟩,fun a ha=>?_⟩
  · rw[Nat.zero_add];match i,hi with
    |0,_=>exact h1.cell (i:=0) rfl
    |1,_=>exact h1.cell (i:=1) rfl
  · rcases List.mem_singleton.1 ha with rfl;refine⟨⟨rfl,rfl,.inr ⟨bP,0,rfl,h2.lt,fun i hi=>?_⟩⟩,Nat.le_refl _,(by show 2≤maxLen;decide),(fun h=>by cases h),trivial⟩;rw[Nat.zero_add];match i,hi with
    |0,_=>exact h2.cell (i:=0) rfl
    |1,_=>exact h2.cell (i:=1) rfl
    |2,_=>exact h2.cell (i:=2) rfl
    |3,_=>exact h2.cell (i:=3) rfl
    |4,_=>exact h2.cell (i:=4) rfl
    |5,_=>exact h2.cell (i:=5) rfl
theorem Hp.gain2 {w0 w w':World}{L:List HB}{K:List FK}(H:Hp w0 w L K) (hb:Below w.heap.size w w') {b c t u:Nat}{vs us:List Value}(h1:Box w' b t vs.toArray) (h2:Box w' c u us.toArray) (n1:w.heap.size≤b) (n2:w.heap.size≤c) (hne:b≠c):Hp w0 w' (bx b t vs true::bx c u us true::L) K:=by
  have H2:=H.gain hb (bx c u us true) h2 (bx_ok _ _ _ _) (fun k hk=>by cases hk;exact h2.lt) (fun k hk=>by cases hk;exact n2);refine H2.add (bx b t vs true) h1 (bx_ok _ _ _ _) (fun k hk=>by cases hk;exact h1.lt) (fun k hk=>⟨fun y hy hyk=>?_,fun p hp hpk=>?_⟩) (fun _ k hk=>by cases hk;exact Nat.le_trans H.size n1)
  · cases hk
    rcases List.mem_cons.1 hy with rfl|hy
    · exact hne hyk
    · have:=(H.res y hy).2.2 _ hyk;omega
  · cases hk
    have:=((H.kept p hp).2.2 _ hpk).1;omega
theorem Hp.gainSel {w0 w w':World}{L:List HB}{K:List FK}{ps:List PlS}{lib l':List AstA}{bs bc cc sc:Nat}{SA:Option Addr}{rest:List Value}(H:Hp w0 w L K) (hN:SelN ps lib w.heap.size bs bc cc SA sc l' rest w') (hb:Below w.heap.size w w'):
    Hp w0 w' (bx bs 111 (selL bc ps.length cc SA l'.length sc false 0 0) true::bx bc 115 (flat chC (ps.map mkCh)++rest) true::L) (astsK SA l'::K):=by
  refine(H.gain2 hb hN.box hN.chs hN.nb hN.nc hN.ne).keepF (astsK SA l') hN.asts (fun _ _ h hk hs=>IsAsts.keep h hk hs) (fun k hk=>⟨IsAsts.lt hN.asts hk,fun x hx hf=>?_⟩);rcases List.mem_cons.1 hx with rfl|hx
  · exact hN.sb (show libFp SA l' bs from(show k=bs from hf) ▸ hk)
  rcases List.mem_cons.1 hx with rfl|hx
  · exact hN.sc (show libFp SA l' bc from(show k=bc from hf) ▸ hk)
  · have:=(H.res x hx).2.2 k hf;have:=hN.nl k hk;omega
theorem row_at {α:Type}{k:Nat}{cs:α→Array Value}{w:World}{A:Option Addr}{x:α}(hk:∀e,(cs e).size=k) (h:IsRow k cs w A [x]):∃b o,A=some ⟨b,o,none⟩:=by
  obtain⟨b,o,_,hA,_⟩:=IsRow.get hk h (i:=0) (Nat.lt_succ_self 0);exact⟨b,o,hA⟩
theorem row_cells {α:Type}{k:Nat}{cs:α→Array Value}{w:World}{A:Option Addr}{x:α}{b o:Nat}(hk:∀e,(cs e).size=k) (h:IsRow k cs w A [x]) (hA:A=some ⟨b,o,none⟩):cellsAt w b (o+0*k) (cs x).toList:=IsRow.cells hk h hA (i:=0) rfl
theorem cells_sub {w:World}{b o:Nat}{l:List Value}(h:cellsAt w b o l) (k n:Nat):cellsAt w b (o+k) ((l.drop k).take n):=fun i v hv=>by
  rw[Nat.add_assoc]
  refine h (k+i) v ?_
  rw[List.getElem?_take] at hv
  split at hv
  · rwa [List.getElem?_drop] at hv
  · cases hv
theorem pl1_ok {IA:Option Addr}{ic:Nat}:∀p∈ [pl1 IA ic],(0≤p.c∧p.c≤39)∧rateOk p.nm 1=true:=fun p hp=>by
  rcases List.mem_singleton.1 hp with rfl
  exact⟨⟨Int.le_refl 0,(by show(0:Int)≤39;decide)⟩,kr⟩
theorem newS2 {IA PA:Option Addr}{ic pc:Nat}{w w':World}{e:Ending}(h:RetSel [pl1 IA ic] (libS PA pc) w e w'):∃bs bc cc SA sc SP sq rest,e=.returned (.tuple #[.pointer (some ⟨bs,0,none⟩),.int .i64 0])∧SelN [pl1 IA ic] (libS PA pc) w.heap.size bs bc cc SA sc (libS SP sq) rest w'∧Below w.heap.size w w':=by
  obtain⟨bs,bc,cc,SA,sc,l',rest,he,hN,hb⟩:=newS h;obtain⟨SP,sq,rfl⟩:=sameS hN.same;exact⟨bs,bc,cc,SA,sc,SP,sq,rest,he,hN,hb⟩
theorem chooseX2 {bc:Nat}{rest:List Value}{p:Un×Ch}{w w':World}{e:Ending}(h:∃A c u,e=.returned (.slice A 1 c)∧IsRow 13 unC w' A [u]∧bareU u=p.1∧(∀q,rowFp 1 A q→w.heap.size≤q)∧Box w' bc 115 (flat chC [p.2]++rest).toArray∧w.grownBy w' (some bc)):
    ∃A c u,e=.returned (.slice A 1 c)∧IsRow 13 unC w' A [u]∧(u.frame=p.1.frame∧u.item=p.1.item∧u.index=p.1.index∧u.data=p.1.data)∧(∀q,rowFp 1 A q→w.heap.size≤q)∧Box w' bc 115 (flat chC [p.2]++rest).toArray∧w.grownBy w' (some bc):=by
  obtain⟨A,c,u,he,hr,hu,hq,hb,hg⟩:=h;exact⟨A,c,u,he,hr,by rw[←hu];exact⟨rfl,rfl,rfl,rfl⟩,hq,hb,hg⟩
theorem Hp.changedRow {α:Type}{w0 w w':World}{L:List HB}{K:List FK}(H:Hp w0 w L K) (i:Nat) {b t k:Nat}{vs:List Value}{f:Bool}{cs:α→Array Value}{A:Option Addr}{l:List α}(hi:L[i]? =some (bx b t vs f)) (vs':List Value) (L':List HB) (hL:L.set i (bx b t vs' f)=L') (hg:w.grownBy w' (some b)) (hbx:Box w' b t vs'.toArray) (hr:IsRow k cs w' A l) (hn:∀q,rowFp l.length A q→w.heap.size≤q):Hp w0 w' L' (rowF k cs A l::K):=by
  have H2:=H.changed i hi vs' L' hL hg hbx;refine H2.keepF _ hr (rowF_ok _ _ _ _) fun q hq=>⟨hr.lt q hq,fun x hx hf=>?_⟩;subst hL;have hq':=hn q hq;rcases List.mem_or_eq_of_mem_set hx with hx|rfl
  · have:=(H.res x hx).2.2 q hf;omega
  · have:=(H.res _ (List.mem_of_getElem? hi)).2.2 q hf;omega
theorem Hp.factNo {w0 w:World}{L:List HB}{K:List FK}(H:Hp w0 w L K) (q i:Nat) {p:FK}{b t:Nat}{vs:List Value}{f:Bool}(hq:K[q]? =some p) (hi:L[i]? =some (bx b t vs f)):¬p.fp b:=fun h=>((H.kept p (List.mem_of_getElem? hq)).2.2 b h).2 _ (List.mem_of_getElem? hi) rfl
theorem Hp.ge2 {w0 w:World}{L:List HB}{K:List FK}(H:Hp w0 w L K) (q i:Nat) {b t:Nat}{vs:List Value}{f:Bool}(hq:K[q]? =some laidK) (hi:L[i]? =some (bx b t vs f)):2≤b:=by
  have h:=H.factNo q i hq hi;have h0:b≠0:=fun e=>h (.inl e);have h1:b≠1:=fun e=>h (.inr e);omega
theorem rowFp_none {n b:Nat}:¬rowFp n none b:=fun h=>by obtain⟨_,_,e⟩:=h;cases e
theorem rowFp_ne {n b o c:Nat}(h:b≠c):¬rowFp n (some ⟨b,o,none⟩) c:=fun hh=>by obtain⟨_,_,e⟩:=hh;cases e;exact h rfl
theorem str1 {w:World}{b t:Nat}{s:List UInt8}(h:Box w b t [.string (bstr s)].toArray):IsRow 1 strC w (some ⟨b,0,none⟩) [s]:=IsRow.ofBox (cs:=strC) (size:=1) (l:=[s]) (tail:=[]) (fun _=>rfl) h
theorem str2 {w:World}{b t:Nat}{s u:List UInt8}(h:Box w b t [.string (bstr s),.string (bstr u)].toArray):IsRow 1 strC w (some ⟨b,0,none⟩) [s,u]:=IsRow.ofBox (cs:=strC) (size:=1) (l:=[s,u]) (tail:=[]) (fun _=>rfl) h
theorem sel_hp {IA PA SA SP:Option Addr}{ic pc sc sq bs bc cc:Nat}{rest:List Value}{w0 w w':World}{L:List HB}{K:List FK}(H:Hp w0 w L K) (hN:SelN [pl1 IA ic] (libS PA pc) w.heap.size bs bc cc SA sc (libS SP sq) rest w') (hb:Below w.heap.size w w'):
    Hp w0 w' (bx bs 111 [.slice (some ⟨bc,0,none⟩) 1 cc,.slice SA 1 sc,.bool false,.int .i64 0,.int .i64 0] true::bx bc 115 (flat chC [ch0]++rest) true::L) (astsK SA (libS SP sq)::K):=H.gainSel hN hb
theorem s5_ok:∀s∈ [s5],s=[]∨s=s5∨s=s6:=fun s h=>by rw[List.mem_singleton.1 h];exact .inr (.inl rfl)
theorem s6_ok:∀s∈ [s6],s=[]∨s=s5∨s=s6:=fun s h=>by rw[List.mem_singleton.1 h];exact .inr (.inr rfl)
theorem s0_ok:∀s∈([]:List (List UInt8)),s=[]∨s=s5∨s=s6:=fun s h=>by cases h
theorem un_frame {w:World}{A:Option Addr}{u:Un}{b o:Nat}(h:IsRow 13 unC w A [u]) (hA:A=some ⟨b,o,none⟩) {x:Int}(e:u.frame=x):w.cell? ⟨b,o+0*13+1,none⟩=some (.int .i64 x):=by subst e;exact row_cells unC_size h hA 1 _ rfl
theorem un_item {w:World}{A:Option Addr}{u:Un}{b o:Nat}(h:IsRow 13 unC w A [u]) (hA:A=some ⟨b,o,none⟩) {x:Int}(e:u.item=x):w.cell? ⟨b,o+0*13+3,none⟩=some (.int .i64 x):=by subst e;exact row_cells unC_size h hA 3 _ rfl
theorem un_index {w:World}{A:Option Addr}{u:Un}{b o:Nat}(h:IsRow 13 unC w A [u]) (hA:A=some ⟨b,o,none⟩) {x:Int}(e:u.index=x):w.cell? ⟨b,o+0*13+4,none⟩=some (.int .i64 x):=by subst e;exact row_cells unC_size h hA 4 _ rfl
theorem un_data {w:World}{A:Option Addr}{u:Un}{b o:Nat}(h:IsRow 13 unC w A [u]) (hA:A=some ⟨b,o,none⟩) {x:List UInt8}(e:u.data=x):w.cell? ⟨b,o+0*13+6,none⟩=some (.string (bstr x)):=by subst e;exact row_cells unC_size h hA 6 _ rfl
theorem pl_rate {IA:Option Addr}{ic:Nat}{w:World}{A:Option Addr}{b o:Nat}(h:IsRow 13 plnC w A [pl1 IA ic]) (hA:A=some ⟨b,o,none⟩):cellsAt w b (o+0*13+1) [.int .i64 25,.int .i64 1]:=cells_sub (row_cells plnC_size h hA) 1 2
theorem libS_mx {A:Option Addr}{c:Nat}:(libS A c).length≤1000000:=by show 1≤1000000;decide
theorem libS_mx2 {A:Option Addr}{c:Nat}:(libS A c).length≤maxLen:=by show 1≤maxLen;decide
theorem chA_ok:decide (ch0.num=25∧ch0.den=1∧-1≤ch0.index∧ch0.index≤1000000000)=true:=kr
theorem chB_ok:decide (cA.2.num=25∧cA.2.den=1∧-1≤cA.2.index∧cA.2.index≤1000000000)=true:=kr
theorem chC_ok:decide (cB.2.num=25∧cB.2.den=1∧-1≤cB.2.index∧cB.2.index≤1000000000)=true:=kr
theorem chD_ok:decide (cC.2.num=25∧cC.2.den=1∧-1≤cC.2.index∧cC.2.index≤1000000000)=true:=kr
theorem full_D0:fullP 0 [cD.2]=cD.2.full:=if_pos sane_full.2
theorem full_D1:fullP 1 [cD.2]=0:=if_neg (by rw[sane_full.2];decide)
structure LibOk (li:List AstA):Prop where
  its:li.map (·.item)=libItems
  pics:∀a∈li,picsOk 30 a.pics
theorem LibOk.len {li:List AstA}(h:LibOk li):li.length=3:=by
  have:=congrArg List.length h.its;rwa [List.length_map] at this
theorem LibOk.max {li:List AstA}(h:LibOk li):li.length≤maxLen:=by rw[h.len];decide
theorem LibOk.pl {li:List AstA}(h:LibOk li):∀a∈li,a.pics.length≤2000000:=fun a ha=>by have:=(h.pics a ha).1;omega
theorem LibOk.dl {li:List AstA}(h:LibOk li):∀a∈li,∀q∈a.pics,q.data.size≤400:=fun a ha q hq=>((h.pics a ha).2.1 q hq).1
theorem opt_pair {α β γ:Type}{f:α→β}{g:α→γ}{x y:Option α}(h:x.map (fun a=>(f a,g a))=y.map (fun a=>(f a,g a))):(x=none∧y=none)∨∃a b,x=some a∧y=some b∧f a=f b∧g a=g b:=by
  cases x<;>cases y
  · exact .inl ⟨rfl,rfl⟩
  · cases h
  · cases h
  · simp only[Option.map_some,Option.some.injEq,Prod.mk.injEq] at h;exact .inr ⟨_,_,rfl,rfl,h⟩
theorem findA_same {it:Int}:∀{l l':List AstA},sameA l' l→(findA it l').map (fun a=>(a.item,a.pics))=(findA it l).map (fun a=>(a.item,a.pics))
  | [],[],_=>rfl
  | [],_::_,h=>by cases h
  |_::_,[],h=>by cases h
  |a::l,b::l',h=>by
    unfold sameA at h
    simp only[List.map_cons,List.cons.injEq,Prod.mk.injEq] at h
    obtain⟨⟨h1,h2⟩,h3⟩:=h
    unfold findA
    rw[h1]
    split
    · simp[h1,h2]
    · exact findA_same h3
theorem genuine_same {l l':List AstA}(h:sameA l' l) (u:Un):genuineP l' u=genuineP l u:=by
  have hf:=findA_same (it:=u.item) h;unfold genuineP;rcases opt_pair hf with⟨h1,h2⟩|⟨a,b,h1,h2,_,h3⟩
  · rw[h1,h2]
  · rw[h1,h2];simp only[h3]
theorem enters_same {l l':List AstA}(h:sameA l' l) (f:Int) (u:Un):entersS l' f u=entersS l f u:=by
  have hf:=findA_same (it:=u.item) h;unfold entersS;rcases opt_pair hf with⟨h1,h2⟩|⟨a,b,h1,h2,_,h3⟩
  · rw[h1,h2]
  · rw[h1,h2];simp only[h3]
theorem accept_same {l l':List AstA}(h:sameA l' l):acceptP l'=acceptP l:=by
  funext fl c f s;unfold acceptP;split
  · rfl
  · rw[genuine_same h,enters_same h]
theorem choose_same {l l':List AstA}(h:sameA l' l):chooseC l'=chooseC l:=by
  funext fl c f a b;unfold chooseC;rw[accept_same h]
theorem all_same {l l':List AstA}(h:sameA l' l):allC l'=allC l:=by
  funext fl chs fr a b;show _=_;unfold allC;rw[choose_same h]
theorem ite_some {α:Type}{P:Prop}[Decidable P] {a u:α}(h:(if P then some a else none)=some u):P∧a=u:=by
  by_cases hp:P
  · rw[if_pos hp] at h;exact⟨hp,Option.some.inj h⟩
  · rw[if_neg hp] at h;cases h
theorem accept_facts {li:List AstA}{fl:Option Int}{c:Ch}{f:Int}{s:List UInt8}{u:Un}(h:acceptP li fl c f s=some u):
    unpackP c.num c.den s=some u∧(u.channel=c.number∧u.frame=f)∧genuineP li u=true∧(∃x,fl=some x∧x≤u.version)∧(u.item=0∨contS c u=true∨entersS li c.full u=true):=by
  unfold acceptP at h;cases hu:unpackP c.num c.den s with
  |none=>rw[hu] at h;cases h
  |some u'=>
    rw[hu] at h;simp only at h;obtain⟨hh,rfl⟩:=ite_some h
    · obtain⟨h1,h2,h3,h4⟩:=hh;simp only[Bool.and_eq_true,beq_iff_eq] at h1;refine⟨rfl,h1,h2,?_,?_⟩
      · cases fl with
        |none=>cases h3
        |some x=>exact⟨x,rfl,of_decide_eq_true h3⟩
      · simp only[Bool.or_eq_true,beq_iff_eq] at h4;exact h4
theorem take_cases (c:Ch) (f:Int) (x y:Option Un):(takeP c f x y).1=slateU c.number f∨x=some (takeP c f x y).1∨y=some (takeP c f x y).1:=by
  cases x<;>cases y
  · exact .inl rfl
  · exact .inr (.inr rfl)
  · exact .inr (.inl rfl)
  · simp only[takeP];split
    · exact .inr (.inr rfl)
    · exact .inr (.inl rfl)
theorem genuine_slate {li:List AstA}{u:Un}(h:genuineP li u=true) (h0:u.item=0):u.index=0∧u.key=true∧u.data=[]:=by
  unfold genuineP at h;rw[if_pos h0] at h;simpa using h
theorem genuine_pic {li:List AstA}{u:Un}(h:genuineP li u=true) (h0:u.item≠0):∃a,findA u.item li=some a∧0≤u.index∧u.index<(a.pics.length:Int)∧(a.pics.getD u.index.toNat picZ).key=u.key∧(a.pics.getD u.index.toNat picZ).str=u.data:=by
  unfold genuineP at h;rw[if_neg h0] at h;split at h
  · cases h
  · rename_i a ha;simp only[Bool.and_eq_true,decide_eq_true_eq,beq_iff_eq] at h;exact⟨a,ha,h.1,h.2.1,h.2.2.1,h.2.2.2⟩
structure ChOk (nm nb:Int) (c:Ch):Prop where
  num:c.num=nm
  den:c.den=1
  nb:c.number=nb
  lo:0≤c.index
  hi:c.index≤29
  f0:0≤c.full
  f1:c.full≤1000
theorem vstep_zero {f:Int}(h0:0≤f) (h1:f≤1000):vstep f 0=some (min 1000 (f+100)-0):=by
  unfold vstep;rw[if_neg om,if_neg om]
theorem accept_step {li:List AstA}{fl:Option Int}{c:Ch}{f:Int}{s:List UInt8}{u:Un}(h:acceptP li fl c f s=some u) (h0:0≤c.full) (h1:c.full≤1000):(vstep c.full (u.data.length:Int)).isSome=true:=by
  obtain⟨_,_,hg,_,h⟩:=accept_facts h;by_cases hi:u.item=0
  · rw[(genuine_slate hg hi).2.2];show(vstep c.full 0).isSome=true;rw[vstep_zero h0 h1];rfl
  · rcases h with h|h|h
    · exact absurd h hi
    · unfold contS at h;simp only[Bool.and_eq_true] at h;exact h.2.2
    · obtain⟨a,ha,hx0,hx1,_,hs⟩:=genuine_pic hg hi;unfold entersS at h;rw[ha] at h;simp only[Bool.and_eq_true] at h;obtain⟨_,_,_,h⟩:=h;have hx:u.index.toNat<a.pics.length:=om;have hd:(sizesP a.pics).drop u.index.toNat=(u.data.length:Int)::(sizesP a.pics).drop (u.index.toNat+1):=by
        have hl:u.index.toNat<(sizesP a.pics).length:=by rw[List.length_map];exact hx
        rw[List.drop_eq_getElem_cons hl];congr 1;rw[List.getElem_map];rw[←hs,List.getD_eq_getElem?_getD,List.getElem?_eq_getElem hx];show((a.pics[u.index.toNat].data.data.size:Nat):Int)=((a.pics[u.index.toNat].data.data.toList.length:Nat):Int);rw[Array.length_toList]
      rw[hd] at h;split at h
      · cases h
      · rename_i nd hn;have hr:=(need_law _ c.full h0 h1).2 ⟨nd,hn,of_decide_eq_true h⟩;simp only[vrun] at hr;cases hv:vstep c.full (u.data.length:Int) with
        |none=>rw[hv] at hr;cases hr
        |some g=>rfl
structure Chosen (li:List AstA) (fl:Option Int) (c:Ch) (f:Int) (a b:List UInt8) (u:Un) (g tk:Int):Prop where
  eq:chooseC li fl c f a b=(u,⟨u.item,u.index,g,tk,c.number,c.num,c.den⟩)
  step:vstep c.full (u.data.length:Int)=some g
  gen:genuineP li u=true
  ch:u.channel=c.number
  fr:u.frame=f
  lo:0≤u.index
  hi:u.index≤29
  dec:u.key=true∨(u.item=c.item∧u.index=c.index+1)
  src:u.item=0∨∃s x,(s=a∨s=b)∧unpackP c.num c.den s=some u∧fl=some x∧x≤u.version
theorem chosen {li:List AstA}{nm nb:Int}{c:Ch}(hl:LibOk li) (hc:ChOk nm nb c) (fl:Option Int) (f:Int) (a b:List UInt8):∃u g tk,Chosen li fl c f a b u g tk:=by
  have key:∀u:Un,(u=slateU c.number f∨∃s,(s=a∨s=b)∧acceptP li fl c f s=some u)→∃g,(vstep c.full (u.data.length:Int)=some g)∧genuineP li u=true∧u.channel=c.number∧u.frame=f∧0≤u.index∧u.index≤29∧(u.key=true∨(u.item=c.item∧u.index=c.index+1))∧(u.item=0∨∃s x,(s=a∨s=b)∧unpackP c.num c.den s=some u∧fl=some x∧x≤u.version):=by
    intro u hu;rcases hu with rfl|⟨s,hs,hu⟩
    · exact⟨_,vstep_zero hc.f0 hc.f1,rfl,rfl,rfl,Int.le_refl 0,(by show(0:Int)≤29;decide),.inl rfl,.inl rfl⟩
    · have hst:=accept_step hu hc.f0 hc.f1;obtain⟨h1,⟨h2,h3⟩,h4,⟨x,h5,h6⟩,h7⟩:=accept_facts hu;obtain⟨g,hg⟩:=Option.isSome_iff_exists.1 hst;have hx:0≤u.index∧u.index≤29:=by
        by_cases hi:u.item=0
        · rw[(genuine_slate h4 hi).1];omega
        · obtain⟨p,hp,i0,i1,_⟩:=genuine_pic h4 hi;have:=(hl.pics p (findA_mem hp).1).1;omega
      refine⟨g,hg,h4,h2,h3,hx.1,hx.2,?_,.inr ⟨s,x,hs,h1,h5,h6⟩⟩;rcases h7 with h7|h7|h7
      · exact .inl (genuine_slate h4 h7).2.1
      · unfold contS at h7;simp only[Bool.and_eq_true,beq_iff_eq] at h7;exact .inr ⟨h7.1,h7.2.1⟩
      · unfold entersS at h7;split at h7
        · cases h7
        · simp only[Bool.and_eq_true] at h7;exact .inl h7.1
  have hk:=take_cases c f (acceptP li fl c f a) (acceptP li fl c f b);obtain⟨g,h1,h2,h3,h4,h5,h6,h7,h8⟩:=key (takeP c f (acceptP li fl c f a) (acceptP li fl c f b)).1 (by
    rcases hk with h|h|h
    · exact .inl h
    · exact .inr ⟨a,.inl rfl,h⟩
    · exact .inr ⟨b,.inr rfl,h⟩)
  refine⟨_,g,(takeP c f (acceptP li fl c f a) (acceptP li fl c f b)).2,?_,h1,h2,h3,h4,h5,h6,h7,h8⟩;show(_,showC c _ _)=_;unfold showC;rw[h1];rfl
theorem Chosen.ok {li:List AstA}{fl:Option Int}{nm nb:Int}{c:Ch}{f:Int}{a b:List UInt8}{u:Un}{g tk:Int}(h:Chosen li fl c f a b u g tk) (hc:ChOk nm nb c):ChOk nm nb ⟨u.item,u.index,g,tk,c.number,c.num,c.den⟩:=
  ⟨hc.num,hc.den,hc.nb,h.lo,h.hi,(vstep_bd h.step).2.2.2.2.1,(vstep_bd h.step).2.2.2.2.2.1⟩
theorem libraryL_any (XA:Option Addr) (xc:Nat) (xs:List Int) (w:World) (hxl:xs.length≤1000000000000000) (hx:∀n∈xs,-9223372036854775808≤n∧n≤9223372036854775807) (hxr:IsRow 1 i1C w XA xs):
    Calls Tryz.prog 11 #[.slice XA xs.length xc] w fun e w'=>∃LA lc li,e=.returned (.slice LA li.length lc)∧LibOk li∧IsAsts w' LA li.length li∧Below w.heap.size w w':=
  (library_any XA xc xs w hxl hx hxr).mono fun e w' ⟨A,c,li,he,hi,hp,_,hr,_,hb⟩=>by
    have hL:LibOk li:=⟨hi,hp⟩
    exact⟨A,c,li,by rw[hL.len];exact he,hL,⟨⟨rfl,Rd.of_own hr.1⟩,fun a ha=>(hr.2 a ha).1.1⟩,hb⟩
abbrev pl0 (IA:Option Addr) (ic:Nat):PlS:=⟨3,50,500,IA,ic⟩
theorem plansL_any (w:World):Calls Tryz.prog 12 #[] w fun e w'=>∃AP cp I0 i0 I1 i1,e=.returned (.slice AP 2 cp)∧2≤cp∧IsRow 13 plnC w' AP [pl0 I0 i0,pl1 I1 i1]∧(∀p∈ [pl0 I0 i0,pl1 I1 i1],IsRow 5 itC w' p.IA its3)∧Below w.heap.size w w':=
  (plans_any w).mono fun e w' ⟨A,c,ps,he,hk,hr,hb⟩=>by
    match ps,hk,hr with
    | [⟨p1,p2,p3,I0,i0⟩,⟨q1,q2,q3,I1,i1⟩],hk,hr=>
      simp only[List.map_cons,List.map_nil,PlS.key,plKeys,List.cons.injEq,Prod.mk.injEq,and_true] at hk
      obtain⟨⟨rfl,rfl,rfl⟩,rfl,rfl,rfl⟩:=hk
      exact⟨A,c,I0,i0,I1,i1,he,(own_facts hr.1).1,Rd.of_own hr.1,fun p hp=>(hr.2 p hp).1,hb⟩
    | [],hk,_=>cases hk
    | [_],hk,_=>simp[plKeys] at hk
    |_::_::_::_,hk,_=>simp[plKeys] at hk
theorem pl_at {w:World}{A:Option Addr}{p q:PlS}{l:List PlS}(h:IsRow 13 plnC w A (p::l)):∃b o,A=some ⟨b,o,none⟩:=by
  obtain⟨b,o,_,hA,_⟩:=IsRow.get plnC_size h (i:=0) (Nat.zero_lt_succ _);exact⟨b,o,hA⟩
def plOk (ps:List PlS):Prop:=(∀p∈ps,(0≤p.c∧p.c≤39)∧rateOk p.nm 1=true)∧okP [] ps=true∧1≤ps.length∧ps.length≤40
theorem pl0_ok1 {IA:Option Addr}{ic:Nat}:(0≤(pl0 IA ic).c∧(pl0 IA ic).c≤39)∧rateOk (pl0 IA ic).nm 1=true:=⟨⟨(by show(0:Int)≤3;decide),(by show(3:Int)≤39;decide)⟩,kr⟩
theorem pl1_ok1 {IA:Option Addr}{ic:Nat}:(0≤(pl1 IA ic).c∧(pl1 IA ic).c≤39)∧rateOk (pl1 IA ic).nm 1=true:=pl1_ok _ (List.mem_singleton.2 rfl)
theorem plOk2 {IA IB:Option Addr}{ic id:Nat}:plOk [pl0 IA ic,pl1 IB id]:=⟨fun p hp=>by
  rcases List.mem_cons.1 hp with rfl|hp
  · exact pl0_ok1
  · exact pl1_ok p hp,kr,(by show 1≤2;decide),(by show 2≤40;decide)⟩
theorem lib_item {li:List AstA}(h:LibOk li) {a:AstA}(ha:a∈li):1≤a.item∧a.item≤8:=by
  have:a.item∈libItems:=by rw[←h.its];exact List.mem_map_of_mem ha
  unfold libItems at this;simp only[List.mem_cons,List.not_mem_nil,or_false] at this;omega
theorem new_true {ps:List PlS}{li:List AstA}(hl:LibOk li) (hp:plOk ps):newP ps li=true:=by
  unfold newP;rw[decide_eq_true hp.2.2.1,decide_eq_true hp.2.2.2,hp.2.1];simp only[Bool.true_and];exact List.all_eq_true.2 fun a ha=>picsOk_valid (hl.pics a ha) (lib_item hl ha).1 (by have:=(lib_item hl ha).2;omega)
theorem newL_any (AP:Option Addr) (cp lc:Nat) (ps:List PlS) (LA:Option Addr) (li:List AstA) (w:World) (hp:plOk ps) (hl:LibOk li) (hL:Laid w) (hits:∀p∈ps,IsRow 5 itC w p.IA its3) (hrp:IsRow 13 plnC w AP ps) (hlib:IsAsts w LA li.length li):
    Calls Tryz.prog 13 #[.slice AP ps.length cp,.slice LA li.length lc] w fun e w'=>∃bs bc cc SA sc l' rest,e=.returned (.tuple #[.pointer (some ⟨bs,0,none⟩),.int .i64 0])∧SelN ps li w.heap.size bs bc cc SA sc l' rest w'∧Below w.heap.size w w':=
  (new_any AP cp lc ps LA li w hp.1 (by rw[hl.len];decide) hL hits hrp hlib hl.max hl.pl).mono fun e w' h=>by
    rcases h with⟨h,_⟩|⟨_,h⟩
    · rw[new_true hl hp] at h;cases h
    · exact h
abbrev uv (u:Un) (B:Option Addr) (d:Nat):Un:=⟨u.channel,u.frame,u.version,u.item,u.index,u.key,u.data,u.regions,u.gain,u.caption,u.os,u.of,B,d,[]⟩
theorem uv_of {V u:Un}(h:bareU V=u) (ha:V.al=[]):V=uv u V.A V.c∧u.al=[]:=by
  subst h;cases V
  simp only at ha;subst ha;exact⟨rfl,rfl⟩
abbrev chN (c:Ch) (u:Un) (g tk:Int):Ch:=⟨u.item,u.index,g,tk,c.number,c.num,c.den⟩
def StrOk (nm:Int) (s:List UInt8):Prop:=s.length≤1000000∧∀u,unpackP nm 1 s=some u→u.al=[]
theorem SentP.ok {nm:Int}{s:List UInt8}(h:SentP nm 1 s):StrOk nm s:=⟨Nat.le_succ_of_le h.1,fun u hu=>(h.2 u hu).1⟩
theorem strOk_nil (nm:Int):StrOk nm []:=(sent_nil nm 1).ok
structure Sel1 (l' li:List AstA):Prop where
  ok:LibOk li
  same:sameA l' li
  len:l'.length≤maxLen
  pics:∀a∈l',a.pics.length≤2000000
theorem SelN.sel1 {ps:List PlS}{li:List AstA}{n0 bs bc cc:Nat}{SA:Option Addr}{sc:Nat}{l':List AstA}{rest:List Value}{w:World}(h:SelN ps li n0 bs bc cc SA sc l' rest w) (hl:LibOk li):Sel1 l' li:=⟨hl,h.same,h.len,h.pics⟩
theorem row_new {w w':World}{e:TypeId}{size n c:Nat}{α:Type}{cs:α→Array Value}{A:Option Addr}{us:List α}(h:(rowsR w.heap.size e size cs okT feF (.slice A n c) us).F w') {q:Nat}(hq:rowFp n A q):w.heap.size≤q:=by
  obtain⟨_,off,ea⟩:=hq;exact(own_lt h.1 q (by rw[ea];rfl)).2
theorem chooseL2 (bs bc cc sc:Nat) (SA:Option Addr) {l' li:List AstA}(hs:Sel1 l' li) (hd:Bool) (at_ od fr:Int) (rest:List Value) {nm nb nm2 nb2:Int}(c d:Ch) (hc:ChOk nm nb c) (hc2:ChOk nm2 nb2 d) (AA AB:Option Addr) (ca cb:Nat) (la lb:List (List UInt8)) (w:World)
    (hla:(∀s∈la,s.length≤1000000)∧StrOk nm (la.getD 0 [])∧StrOk nm2 (la.getD 1 [])) (hlb:(∀s∈lb,s.length≤1000000)∧StrOk nm (lb.getD 0 [])∧StrOk nm2 (lb.getD 1 [])) (hat:0≤at_∧at_≤9223372036854775807) (hfr:-9223372036854775808≤fr∧fr≤9223372036854775807) (hne:bs≠bc) (hcl:¬libFp SA l' bc) (h2c:2≤bc) (hca:¬rowFp la.length AA bc) (hcb:¬rowFp lb.length AB bc) (hL:Laid w) (hlib:IsAsts w SA l'.length l')
    (hS:Box w bs 111 (selL bc 2 cc SA l'.length sc hd at_ od).toArray) (hC:Box w bc 115 (flat chC [c,d]++rest).toArray) (hsa:IsRow 1 strC w AA la) (hsb:IsRow 1 strC w AB lb):
    Calls Tryz.prog 20 #[.pointer (some ⟨bs,0,none⟩),.int .i64 fr,.slice AA la.length ca,.slice AB lb.length cb] w fun e w'=>∃A k u g tk u2 g2 tk2 B e1 B2 e2,e=.returned (.slice A 2 k)∧Chosen li (floorP hd at_ od fr) c fr (la.getD 0 []) (lb.getD 0 []) u g tk∧Chosen li (floorP hd at_ od fr) d fr (la.getD 1 []) (lb.getD 1 []) u2 g2 tk2∧u.al=[]∧u2.al=[]∧IsRow 13 unC w' A [uv u B e1,uv u2 B2 e2]∧(∀q,rowFp 2 A q→w.heap.size≤q)∧Box w' bc 115 (flat chC [chN c u g tk,chN d u2 g2 tk2]++rest).toArray∧w.grownBy w' (some bc):=by
  refine(chooseA_any bs bc cc sc SA l' hd at_ od fr rest [c,d] AA AB ca cb la lb w (by show 0<2;decide) (by show 2≤40;decide) hat hfr hla.1 hlb.1 ?_ hne hcl h2c hca hcb hL hlib hs.len hs.pics hS hC hsa hsb).mono fun e w' h=>?_
  · intro i c' hi;match i,hi with
    |0,hi=>
      cases hi
      rw[hc.num,hc.den];exact⟨⟨by have:=hc.lo;omega,by have:=hc.hi;omega⟩,hla.2.1.2,hlb.2.1.2⟩
    |1,hi=>
      cases hi
      rw[hc2.num,hc2.den];exact⟨⟨by have:=hc2.lo;omega,by have:=hc2.hi;omega⟩,hla.2.2.2,hlb.2.2.2⟩
  · obtain⟨u,g,tk,hch⟩:=chosen hs.ok hc (floorP hd at_ od fr) fr (la.getD 0 []) (lb.getD 0 []);obtain⟨u2,g2,tk2,hch2⟩:=chosen hs.ok hc2 (floorP hd at_ od fr) fr (la.getD 1 []) (lb.getD 1 []);have heq:allC l' (floorP hd at_ od fr) [c,d] fr la lb=[(u,chN c u g tk),(u2,chN d u2 g2 tk2)]:=by
      rw[all_same hs.same];show[chooseC li _ c fr _ _,chooseC li _ d fr _ _]=_;rw[hch.eq,hch2.eq]
    rw[heq] at h;obtain⟨A,k,us,he,hr,hu,ha,hb,hg⟩:=h;match us,hu,hr,ha,he with
    | [V,V2],hu,hr,ha,he=>
      simp only[List.map_cons,List.map_nil,List.cons.injEq,and_true] at hu;obtain⟨hV,hal⟩:=uv_of hu.1 (ha V (List.mem_cons_self ..));obtain⟨hV2,hal2⟩:=uv_of hu.2 (ha V2 (List.mem_cons_of_mem _ (List.mem_cons_self ..)));refine⟨A,k,u,g,tk,u2,g2,tk2,V.A,V.c,V2.A,V2.c,he,hch,hch2,hal,hal2,?_,fun q hq=>row_new hr hq,hb,hg⟩;rw[←hV,←hV2];exact IsRow.ofOwn hr rfl
    | [],hu,_,_,_=>cases hu
    | [_],hu,_,_,_=>simp at hu
    |_::_::_::_,hu,_,_,_=>simp at hu
theorem sane_any (w:World) (hL:Laid w):
  Calls Tryz.prog 10 #[] w fun e w'=>e=.returned zT∧Below w.heap.size w w':=by
 have HP:=((Hp.start w).keepF laidK hL laidK_ok (fun k hk=>⟨hL.lt k hk,fun x hx=>by cases hx⟩));refine w_enter 200 [] Tryz.func10 rfl Tryz.ntmps10 kr kr fun a H=>zq<|H.gz HP [(0,zF)] fun a H=>zq<|H.cl 22 (Tryz.call12 _ _) (plansS_any w) ?_;rintro e w_1 ⟨AP,cp,IA,ic,rfl,hcp,hpr,hpi,hbp⟩;refine⟨_,rfl,?_⟩;intro a H;have HP:=((HP.next hbp).keepF (rowF 13 plnC (dropA AP cp 1 13) [pl1 IA ic]) hpr (rowF_ok _ _ _ _) (fun k hk=>⟨hpr.lt k hk,fun x hx=>by cases hx⟩)).keepF (itsK [pl1 IA ic]) hpi (itsK_ok _) (fun k hk=>⟨itsK_lt hpi hk,fun x hx=>by cases hx⟩)
 refine H.u 23 (sL (dropA AP cp 1 13) 1 (cp-1)) (ex_sliceLo (len:=2) (i:=1) (sz:=13) kr kr kr kr rfl (by decide)) fun a H=>H.gz HP [(1,(sL (dropA AP cp 1 13) 1 (cp-1)))] fun a H=>zq<|H.gn HP 2 [(24,(.agg #[zT,(sS ([107])),zO])),(25,(.agg #[zF,(sS ([112])),zO]))] fun a H=>H.alloc HP 26 (fun b=>(sB b 2 2)) 96 [zT,(sS ([107])),zO,zF,(sS ([112])),zO] kr (fun w=>kr) fun b_2 w_3 a H HP=>H.gn HP 1 [(27,(.agg #[(ii 7),(sB b_2 2 2)]))] fun a H=>H.alloc HP 28 (fun b=>(sB b 1 1)) 91 [(ii 7),(sB b_2 2 2)] kr (fun w=>kr) fun b_4 w_5 a H HP=>H.ge HP [(2,(sB b_4 1 1))] [] fun a H=>?_;have hlib:IsAsts w_5 (some ⟨b_4,0,none⟩) 1 (libS (some ⟨b_2,0,none⟩) 2):=libS_box (HP.at_ 0 rfl) (HP.at_ 1 rfl)
 have HP:=((HP.tail rfl).tail rfl).keepF (astsK (some ⟨b_4,0,none⟩) (libS (some ⟨b_2,0,none⟩) 2)) hlib (fun _ _ h hk hs=>IsAsts.keep h hk hs) (fun k hk=>⟨IsAsts.lt hlib hk,fun x hx=>by cases hx⟩);refine zt<|H.gn HP 1 [(29,(.agg zc3))] fun a H=>H.alloc HP 30 (fun b=>(sB b 1 1)) 100 zc2 kr (fun w=>kr) fun b_6 w_7 a H HP=>H.gn HP 1 [(31,(.agg #[zO,zO,zO,zO,zN,zO,zO,zO,zO,zN,zN,zN,zN,(sB b_6 1 1),zN,zO,zN,(ii 2)]))] fun a H=>H.al HP 3 104 [zO,zO,zO,zO,zN,zO,zO,zO,zO,zN,zN,zN,zN,zN,zN,zO,zN,zO] fun b_8 w_9 a H HP=>H.st HP 0 b_8 0 18 104 true (.agg #[zO,zO,zO,zO,zN,zO,zO,zO,zO,zN,zN,zN,zN,(sB b_6 1 1),zN,zO,zN,(ii 2)]) [bx b_8 104 [zO,zO,zO,zO,zN,zO,zO,zO,zO,zN,zN,zN,zN,(sB b_6 1 1),zN,zO,zN,(ii 2)] true,bx b_6 100 zc2 true] rfl fun w_10 a H HP=>znl ?_
 have hbe:=HP.at_ 1 rfl;have hb3:=HP.at_ 0 rfl;have HP:=(((HP.tail rfl).tail rfl).keepF (boxK b_6 100 zc2) hbe (boxK_ok _ _ _) (fun k hk=>⟨boxK_lt hbe hk,fun x hx=>by cases hx⟩)).keepF (boxK b_8 104 [zO,zO,zO,zO,zN,zO,zO,zO,zO,zN,zN,zN,zN,(sB b_6 1 1),zN,zO,zN,(ii 2)]) hb3 (boxK_ok _ _ _) (fun k hk=>⟨boxK_lt hb3 hk,fun x hx=>by cases hx⟩);refine zt<|H.gn HP 2 [(33,(sL (dropA AP cp 1 13) 1 (cp-1))),(34,(sB b_4 1 1))] fun a H=>H.cl 35 (Tryz.call13 _ _) ((new_any (dropA AP cp 1 13) (cp-1) 1 [pl1 IA ic] (some ⟨b_4,0,none⟩) (libS (some ⟨b_2,0,none⟩) 2) w_10 pl1_ok libS_mx (HP.fact 5 rfl) (HP.fact 3 rfl) (HP.fact 4 rfl) (HP.fact 2 rfl) libS_mx2 libS_len).mono fun e w' h=>newS2 h) ?_;rintro e w_11 ⟨bs,bc,cc,SA,sc,SP,sq,rest,rfl,hN,hbn⟩;refine⟨_,rfl,?_⟩;intro a H;have HP:=sel_hp HP hN hbn
 refine H.gz HP [(4,(pt bs 0)),(5,zO)] fun a H=>zq<|H.gn HP 1 [(39,(sB b_4 1 1))] fun a H=>H.call 40 kr (Eq.trans (kr:_=(callFunc 13 #[zN,(sB b_4 1 1)]).run Tryz.prog w_11) (Tryz.call13 _ _)) ((new_any none 0 1 [] (some ⟨b_4,0,none⟩) (libS (some ⟨b_2,0,none⟩) 2) w_11 (fun _ h=>by cases h) libS_mx (HP.fact 6 rfl) (fun _ h=>by cases h) (IsRow.nil _ _) (HP.fact 3 rfl) libS_mx2 libS_len).mono fun e w' h=>newSN (LA:=none) h) ?_;rintro e w_12 ⟨rfl,hb⟩;refine⟨_,rfl,?_⟩;intro a H;have HP:=HP.next hb
 refine H.gz HP [(7,(ii 220))] fun a H=>zsq<|zq<|H.gz HP [(52,zF)] fun a H=>w_iff H rfl<|zsk<|ztn<|zsq<|An.start (fun v=>Hp w v [bx bs 111 [(sB bc 1 cc),(sL SA 1 sc),zF,zO,zO] true,bx bc 115 (flat chC [ch0]++rest) true] [astsK SA (libS SP sq),boxK b_8 104 [zO,zO,zO,zO,zN,zO,zO,zO,zO,zN,zN,zN,zN,(sB b_6 1 1),zN,zO,zN,(ii 2)],boxK b_6 100 zc2,astsK (some ⟨b_4,0,none⟩) (libS (some ⟨b_2,0,none⟩) 2),itsK [pl1 IA ic],rowF 13 plnC (dropA AP cp 1 13) [pl1 IA ic],laidK]) 13 13 HP wide_follows rfl fun w_13 HP=>An.go H (.inr HP) 12 [0] [(54,(sL (dropA AP cp 1 13) 1 (cp-1)))] [] fun a H=>?_;obtain⟨bp,op,hpA⟩:=row_at plnC_size (HP.fact 5 rfl:IsRow 13 plnC _ (dropA AP cp 1 13) [pl1 IA ic])
 refine An.q H (.inr HP) 1 55 (.pointer (some ⟨bp,op+0*13,none⟩)) (fun _=>ex_indexA (b:=bp) (off:=op) (len:=1) (cap:=cp-1) (e:=67) (k:=13) (ik:=.i64) (i:=0) (m:=0) hpA kr kr rfl (by decide) kr kr) fun a H=>An.go H (.inr HP) 10 [2] [(56,(.pointer (some ⟨bp,op+0*13+1,none⟩)))] [] fun a H=>An.vw H HP 3 57 (.agg #[(ii 25),(ii 1)]) (fun _ hS=>ex_lN [(ii 25),(ii 1)] (pl_rate (hS.fact 5 rfl:IsRow 13 plnC _ (dropA AP cp 1 13) [pl1 IA ic]) hpA)) fun a H=>An.vw H HP 4 58 (.agg #[zO,zO,zO,zO,zN,zO,zO,zO,zO,zN,zN,zN,zN,(sB b_6 1 1),zN,zO,zN,(ii 2)]) (fun _ hS=>ex_lN [zO,zO,zO,zO,zN,zO,zO,zO,zO,zN,zN,zN,zN,(sB b_6 1 1),zN,zO,zN,(ii 2)] (boxCells (hS.fact 1 rfl:Box _ b_8 104 _))) fun a H=>An.go H (.inr HP) 7 [5] [(59,(sB b_4 1 1))] [] fun a H=>An.one 6 kr<|Op.cl H 60 (Tryz.call33 _ _) (unit_5 b_6 1 2 (some ⟨b_4,0,none⟩) (some ⟨b_2,0,none⟩) w_13 (HP.fact 2 rfl) (HP.fact 3 rfl)) ?_
 rintro e w_14 ⟨OB5,oc5,rfl,hb⟩;refine⟨_,rfl,?_⟩;intro a H;have HP:=HP.next hb
 refine⟨.inr HP,?_⟩;refine An.one 7 kr<|Op.call H 61 rfl kr (Eq.trans (kr:_=(callFunc 28 #[(.agg #[(ii 25),(ii 1)]),(.agg #[zO,(ii 5),(ii 2),(ii 7),zO,zT,(sS ([107])),(ii 3),(ii 1000),(sS ([64,0,0])),zO,zO,(sL OB5 0 oc5)])]).run Tryz.prog w_14) (Tryz.call28 _ _)) (by have hh:=pack_any 25 1 (u5 OB5 oc5) w_14 (HP.fact 6 rfl) (alts_nil _ _) (Nat.zero_le _);rw[pack_s5] at hh;exact hh) ?_;rintro e w_15 ⟨rfl,hb⟩;refine⟨_,rfl,?_⟩;intro a H;have HP:=HP.next hb
 refine⟨.inr HP,?_⟩
 refine An.go H (.inr HP) 0 [8,9,10,11,12] [(8,(sS s5))] [] fun a H=>An.done kr<|ztn<|zsq<|An.start (fun v=>Hp w v [bx bs 111 [(sB bc 1 cc),(sL SA 1 sc),zF,zO,zO] true,bx bc 115 (flat chC [ch0]++rest) true] [astsK SA (libS SP sq),boxK b_8 104 [zO,zO,zO,zO,zN,zO,zO,zO,zO,zN,zN,zN,zN,(sB b_6 1 1),zN,zO,zN,(ii 2)],boxK b_6 100 zc2,astsK (some ⟨b_4,0,none⟩) (libS (some ⟨b_2,0,none⟩) 2),itsK [pl1 IA ic],rowF 13 plnC (dropA AP cp 1 13) [pl1 IA ic],laidK]) 13 13 HP wide_follows rfl fun w_16 HP=>An.go H (.inr HP) 12 [0] [(65,(sL (dropA AP cp 1 13) 1 (cp-1)))] [] fun a H=>An.q H (.inr HP) 1 66 (.pointer (some ⟨bp,op+0*13,none⟩)) (fun _=>ex_indexA (b:=bp) (off:=op) (len:=1) (cap:=cp-1) (e:=67) (k:=13) (ik:=.i64) (i:=0) (m:=0) hpA kr kr rfl (by decide) kr kr) fun a H=>An.go H (.inr HP) 10 [2] [(67,(.pointer (some ⟨bp,op+0*13+1,none⟩)))] [] fun a H=>An.vw H HP 3 68 (.agg #[(ii 25),(ii 1)]) (fun _ hS=>ex_lN [(ii 25),(ii 1)] (pl_rate (hS.fact 5 rfl:IsRow 13 plnC _ (dropA AP cp 1 13) [pl1 IA ic]) hpA)) fun a H=>An.vw H HP 4 69 (.agg #[zO,zO,zO,zO,zN,zO,zO,zO,zO,zN,zN,zN,zN,(sB b_6 1 1),zN,zO,zN,(ii 2)]) (fun _ hS=>ex_lN [zO,zO,zO,zO,zN,zO,zO,zO,zO,zN,zN,zN,zN,(sB b_6 1 1),zN,zO,zN,(ii 2)] (boxCells (hS.fact 1 rfl:Box _ b_8 104 _))) fun a H=>An.go H (.inr HP) 7 [5] [(70,(sB b_4 1 1))] [] fun a H=>An.one 6 kr<|Op.cl H 71 (Tryz.call33 _ _) (unit_6 b_6 1 2 (some ⟨b_4,0,none⟩) (some ⟨b_2,0,none⟩) w_16 (HP.fact 2 rfl) (HP.fact 3 rfl)) ?_
 rintro e w_17 ⟨OB6,oc6,rfl,hb⟩;refine⟨_,rfl,?_⟩;intro a H;have HP:=HP.next hb
 refine⟨.inr HP,?_⟩;refine An.one 7 kr<|Op.call H 72 rfl kr (Eq.trans (kr:_=(callFunc 28 #[(.agg #[(ii 25),(ii 1)]),(.agg #[zO,(ii 6),(ii 2),(ii 7),(ii 1),zF,(sS ([112])),(ii 3),(ii 1000),(sS ([0,0,0])),zO,zO,(sL OB6 0 oc6)])]).run Tryz.prog w_17) (Tryz.call28 _ _)) (by have hh:=pack_any 25 1 (u6 OB6 oc6) w_17 (HP.fact 6 rfl) (alts_nil _ _) (Nat.zero_le _);rw[pack_s6] at hh;exact hh) ?_;rintro e w_18 ⟨rfl,hb⟩;refine⟨_,rfl,?_⟩;intro a H;have HP:=HP.next hb
 refine⟨.inr HP,?_⟩;refine An.go H (.inr HP) 0 [8,9,10,11,12] [(10,(sS s6))] [] fun a H=>An.done kr<|zt<|H.gn HP 2 [(75,(pt bs 0)),(76,(sS s5))] fun a H=>H.alloc HP 77 (fun b=>(sB b 1 1)) 9 [(sS s5)] kr (fun w=>kr) fun b_19 w_20 a H HP=>H.call 78 kr (Eq.trans (kr:_=(callFunc 20 #[(pt bs 0),(ii 4),(sB b_19 1 1),zN]).run Tryz.prog w_20) (Tryz.call20 _ _)) ((chooseX bs bc cc sc sq SA SP false 0 0 4 rest ch0 cA (some ⟨b_19,0,none⟩) none 1 0 [s5] [] w_20 (allA _ _) chA_ok s5_ok s0_ok (by decide) (by decide) (HP.ne 1 2 rfl rfl (by decide)) (HP.factNo 0 2 rfl rfl) (HP.ge2 6 2 rfl rfl) (rowFp_ne (HP.ne 0 2 rfl rfl (by decide))) rowFp_none (HP.fact 6 rfl) (HP.fact 0 rfl) (HP.at_ 1 rfl) (HP.at_ 2 rfl) (str1 (HP.at_ 0 rfl)) (IsRow.nil _ _)).mono fun e w' h=>chooseX2 h) ?_;rintro e w_21 ⟨AA,cA_,uA,rfl,hrA,⟨hfA,hiA,hxA,hdA⟩,hqA,hbx,hgr⟩;refine⟨_,rfl,?_⟩;intro a H
 have HP:=HP.changedRow 2 rfl (flat chC [cA.2]++rest) [bx b_19 9 [(sS s5)] true,bx bs 111 [(sB bc 1 cc),(sL SA 1 sc),zF,zO,zO] true,bx bc 115 (flat chC [cA.2]++rest) true] kr hgr hbx hrA hqA;refine H.gz HP [(12,(sL AA 1 cA_))] fun a H=>zq<|H.gn HP 2 [(79,(pt bs 0)),(80,(.agg #[(ii 3),zO,zO,(ii 4),(ii 2),zO,zO,zO,zO,zO,zO,zO,zO,zO,zO,zO,zO,zN,zO,zO,zO,zO,zO,zO,zO,zO,zO,zO,zO,zO,zS]))] fun a H=>H.cl 81 (Tryz.call16 _ _) (receive_any bs bc 1 cc SA 1 sc false 0 0 0 4 2 w_21 (HP.at_ 1 rfl) (by decide)) ?_;rintro e w_22 ⟨rfl,hbx,hgr⟩;refine⟨_,rfl,?_⟩;intro a H;have HP:=(HP.changed 1 rfl [(sB bc 1 cc),(sL SA 1 sc),zT,(ii 4),(ii 2)] [bx b_19 9 [(sS s5)] true,bx bs 111 [(sB bc 1 cc),(sL SA 1 sc),zT,(ii 4),(ii 2)] true,bx bc 115 (flat chC [cA.2]++rest) true] kr hgr (by have hh:=hbx;rw[recv_new (by decide) (by decide) (.inl rfl)] at hh;exact hh))
 refine znl<|zt<|H.gn HP 2 [(82,(pt bs 0)),(83,(sS s5))] fun a H=>H.alloc HP 84 (fun b=>(sB b 1 1)) 9 [(sS s5)] kr (fun w=>kr) fun b_23 w_24 a H HP=>H.call 85 kr (Eq.trans (kr:_=(callFunc 20 #[(pt bs 0),(ii 5),(sB b_23 1 1),zN]).run Tryz.prog w_24) (Tryz.call20 _ _)) ((chooseX bs bc cc sc sq SA SP true 4 2 5 rest cA.2 cB (some ⟨b_23,0,none⟩) none 1 0 [s5] [] w_24 (allB _ _) chB_ok s5_ok s0_ok (by decide) (by decide) (HP.ne 2 3 rfl rfl (by decide)) (HP.factNo 1 3 rfl rfl) (HP.ge2 7 3 rfl rfl) (rowFp_ne (HP.ne 0 3 rfl rfl (by decide))) rowFp_none (HP.fact 7 rfl) (HP.fact 1 rfl) (HP.at_ 2 rfl) (HP.at_ 3 rfl) (str1 (HP.at_ 0 rfl)) (IsRow.nil _ _)).mono fun e w' h=>chooseX2 h) ?_;rintro e w_25 ⟨AB,cB_,uB,rfl,hrB,⟨hfB,hiB,hxB,hdB⟩,hqB,hbx,hgr⟩;refine⟨_,rfl,?_⟩;intro a H
 have HP:=HP.changedRow 3 rfl (flat chC [cB.2]++rest) [bx b_23 9 [(sS s5)] true,bx b_19 9 [(sS s5)] true,bx bs 111 [(sB bc 1 cc),(sL SA 1 sc),zT,(ii 4),(ii 2)] true,bx bc 115 (flat chC [cB.2]++rest) true] kr hgr hbx hrB hqB
 refine H.gz HP [(13,(sL AB 1 cB_))] fun a H=>zq<|H.gn HP 2 [(86,(pt bs 0)),(87,(sS s6))] fun a H=>H.alloc HP 88 (fun b=>(sB b 1 1)) 9 [(sS s6)] kr (fun w=>kr) fun b_26 w_27 a H HP=>H.call 89 kr (Eq.trans (kr:_=(callFunc 20 #[(pt bs 0),(ii 6),zN,(sB b_26 1 1)]).run Tryz.prog w_27) (Tryz.call20 _ _)) ((chooseX bs bc cc sc sq SA SP true 4 2 6 rest cB.2 cC none (some ⟨b_26,0,none⟩) 0 1 [] [s6] w_27 (allD _ _) chC_ok s0_ok s6_ok (by decide) (by decide) (HP.ne 3 4 rfl rfl (by decide)) (HP.factNo 2 4 rfl rfl) (HP.ge2 8 4 rfl rfl) rowFp_none (rowFp_ne (HP.ne 0 4 rfl rfl (by decide))) (HP.fact 8 rfl) (HP.fact 2 rfl) (HP.at_ 3 rfl) (HP.at_ 4 rfl) (IsRow.nil _ _) (str1 (HP.at_ 0 rfl))).mono fun e w' h=>chooseX2 h) ?_;rintro e w_28 ⟨AC,cC_,uC,rfl,hrC,⟨hfC,hiC,hxC,hdC⟩,hqC,hbx,hgr⟩;refine⟨_,rfl,?_⟩;intro a H
 have HP:=HP.changedRow 4 rfl (flat chC [cC.2]++rest) [bx b_26 9 [(sS s6)] true,bx b_23 9 [(sS s5)] true,bx b_19 9 [(sS s5)] true,bx bs 111 [(sB bc 1 cc),(sL SA 1 sc),zT,(ii 4),(ii 2)] true,bx bc 115 (flat chC [cC.2]++rest) true] kr hgr hbx hrC hqC
 refine H.gz HP [(14,(sL AC 1 cC_))] fun a H=>zq<|H.gn HP 2 [(90,(pt bs 0)),(91,(sS s6))] fun a H=>H.alloc HP 92 (fun b=>(sB b 1 1)) 9 [(sS s6)] kr (fun w=>kr) fun b_29 w_30 a H HP=>H.gn HP 1 [(93,(sS s6))] fun a H=>H.alloc HP 94 (fun b=>(sB b 1 1)) 9 [(sS s6)] kr (fun w=>kr) fun b_31 w_32 a H HP=>H.call 95 kr (Eq.trans (kr:_=(callFunc 20 #[(pt bs 0),(ii 7),(sB b_29 1 1),(sB b_31 1 1)]).run Tryz.prog w_32) (Tryz.call20 _ _)) ((chooseX bs bc cc sc sq SA SP true 4 2 7 rest cC.2 cD (some ⟨b_29,0,none⟩) (some ⟨b_31,0,none⟩) 1 1 [s6] [s6] w_32 (allE _ _) chD_ok s6_ok s6_ok (by decide) (by decide) (HP.ne 5 6 rfl rfl (by decide)) (HP.factNo 3 6 rfl rfl) (HP.ge2 9 6 rfl rfl) (rowFp_ne (HP.ne 1 6 rfl rfl (by decide))) (rowFp_ne (HP.ne 0 6 rfl rfl (by decide))) (HP.fact 9 rfl) (HP.fact 3 rfl) (HP.at_ 5 rfl) (HP.at_ 6 rfl) (str1 (HP.at_ 1 rfl)) (str1 (HP.at_ 0 rfl))).mono fun e w' h=>chooseX2 h) ?_
 rintro e w_33 ⟨AD,cD_,uD,rfl,hrD,⟨hfD,hiD,hxD,hdD⟩,hqD,hbx,hgr⟩;refine⟨_,rfl,?_⟩;intro a H;have HP:=HP.changedRow 6 rfl (flat chC [cD.2]++rest) [bx b_31 9 [(sS s6)] true,bx b_29 9 [(sS s6)] true,bx b_26 9 [(sS s6)] true,bx b_23 9 [(sS s5)] true,bx b_19 9 [(sS s5)] true,bx bs 111 [(sB bc 1 cc),(sL SA 1 sc),zT,(ii 4),(ii 2)] true,bx bc 115 (flat chC [cD.2]++rest) true] kr hgr hbx hrD hqD
 refine H.gz HP [(15,(sL AD 1 cD_))] fun a H=>zq<|H.gn HP 1 [(97,(pt bs 0))] fun a H=>H.cb HP 98 (Tryz.call25 _ _) (by have hh:=floor_any bs bc 1 cc SA (libS SP sq) sc true 4 2 12 w_33 (HP.at_ 5 rfl) (by decide) (by decide) (by decide);rw[sane_fl.1] at hh;exact hh) fun w_34 hb a H HP=>H.gz HP [(16,(ii 2)),(17,zT)] fun a H=>zq<|H.gn HP 1 [(102,(pt bs 0))] fun a H=>H.cb HP 103 (Tryz.call25 _ _) (by have hh:=floor_any bs bc 1 cc SA (libS SP sq) sc true 4 2 13 w_34 (HP.at_ 5 rfl) (by decide) (by decide) (by decide);rw[sane_fl.2] at hh;exact hh) fun w_35 hb a H HP=>H.gz HP [(19,zF)] fun a H=>zsq<|zq<|H.gz HP [(123,zF)] fun a H=>w_iff H rfl<|zsk<|zt<|H.gz HP [(20,(.pointer none))] fun a H=>zq<|H.gn HP 2 [(124,(.pointer none)),(125,(.agg #[(ii 3),zO,zO,zO,zO,zO,zO,zO,zO,zO,zO,zO,zO,zO,zO,zO,zO,zN,zO,zO,zO,zO,zO,zO,zO,zO,zO,zO,zO,zO,zS]))] fun a H=>H.cb HP 126 (Tryz.call16 _ _) (receiveN_any 0 0 0 w_35) fun w_36 hb a H HP=>znl<|zt<|H.gn HP 1 [(127,(.pointer none))] fun a H=>H.cb HP 128 (Tryz.call20 _ _) (chooseN_any 1 w_36) fun w_37 hb a H HP=>H.gn HP 4 [(131,zT),(132,(.pointer none))] fun a H=>H.cb HP 133 (Tryz.call22 _ _) (fullN_any 0 w_37) fun w_38 hb a H HP=>H.gz HP [(21,zT)] fun a H=>zq<|H.gn HP 3 [(137,zT),(138,(sL AA 1 cA_))] fun a H=>?_
 obtain⟨bA,oA,hAA⟩:=row_at unC_size (HP.fact 3 rfl:IsRow 13 unC _ AA [uA]);refine H.u 139 (.pointer (some ⟨bA,oA+0*13,none⟩)) (ex_indexA (b:=bA) (off:=oA) (len:=1) (cap:=cA_) (e:=76) (k:=13) (ik:=.i64) (i:=0) (m:=0) hAA kr kr rfl (by decide) kr kr) fun a H=>H.gn HP 1 [(140,(.pointer (some ⟨bA,oA+0*13+3,none⟩)))] fun a H=>H.u 141 zO (ex_l1 (un_item (HP.fact 3 rfl:IsRow 13 unC _ AA [uA]) hAA (hiA.trans sane_A))) fun a H=>H.gn HP 4 [(144,zT),(145,(sL AB 1 cB_))] fun a H=>?_;obtain⟨bB,oB,hAB⟩:=row_at unC_size (HP.fact 2 rfl:IsRow 13 unC _ AB [uB])
 refine H.u 146 (.pointer (some ⟨bB,oB+0*13,none⟩)) (ex_indexA (b:=bB) (off:=oB) (len:=1) (cap:=cB_) (e:=76) (k:=13) (ik:=.i64) (i:=0) (m:=0) hAB kr kr rfl (by decide) kr kr) fun a H=>H.gn HP 1 [(147,(.pointer (some ⟨bB,oB+0*13+3,none⟩)))] fun a H=>H.u 148 (ii 7) (ex_l1 (un_item (HP.fact 2 rfl:IsRow 13 unC _ AB [uB]) hAB (hiB.trans sane_B.1))) fun a H=>H.gn HP 4 [(151,zT),(152,(sL AB 1 cB_))] fun a H=>H.u 153 (.pointer (some ⟨bB,oB+0*13,none⟩)) (ex_indexA (b:=bB) (off:=oB) (len:=1) (cap:=cB_) (e:=76) (k:=13) (ik:=.i64) (i:=0) (m:=0) hAB kr kr rfl (by decide) kr kr) fun a H=>H.gn HP 1 [(154,(.pointer (some ⟨bB,oB+0*13+6,none⟩)))] fun a H=>H.u 155 (sS ([107])) (ex_l1 (un_data (HP.fact 2 rfl:IsRow 13 unC _ AB [uB]) hAB (hdB.trans sane_B.2))) fun a H=>H.valE 156 (.bool ((bstr ([107])).toList == (bstr ([107])).toList)) zT kr kr (congrArg Value.bool (beq_self_eq_true _)) fun a H=>H.gn HP 3 [(158,zT),(159,(sL AC 1 cC_))] fun a H=>?_
 obtain⟨bC,oC,hAC⟩:=row_at unC_size (HP.fact 1 rfl:IsRow 13 unC _ AC [uC]);refine H.u 160 (.pointer (some ⟨bC,oC+0*13,none⟩)) (ex_indexA (b:=bC) (off:=oC) (len:=1) (cap:=cC_) (e:=76) (k:=13) (ik:=.i64) (i:=0) (m:=0) hAC kr kr rfl (by decide) kr kr) fun a H=>H.gn HP 1 [(161,(.pointer (some ⟨bC,oC+0*13+4,none⟩)))] fun a H=>H.u 162 (ii 1) (ex_l1 (un_index (HP.fact 1 rfl:IsRow 13 unC _ AC [uC]) hAC (hxC.trans sane_C))) fun a H=>H.gn HP 4 [(165,zT),(166,(sL AD 1 cD_))] fun a H=>?_;obtain⟨bD,oD,hAD⟩:=row_at unC_size (HP.fact 0 rfl:IsRow 13 unC _ AD [uD])
 refine H.u 167 (.pointer (some ⟨bD,oD+0*13,none⟩)) (ex_indexA (b:=bD) (off:=oD) (len:=1) (cap:=cD_) (e:=76) (k:=13) (ik:=.i64) (i:=0) (m:=0) hAD kr kr rfl (by decide) kr kr) fun a H=>H.gn HP 1 [(168,(.pointer (some ⟨bD,oD+0*13+3,none⟩)))] fun a H=>H.u 169 zO (ex_l1 (un_item (HP.fact 0 rfl:IsRow 13 unC _ AD [uD]) hAD (hiD.trans sane_D.1))) fun a H=>H.gn HP 4 [(172,zT),(173,(sL AD 1 cD_))] fun a H=>H.u 174 (.pointer (some ⟨bD,oD+0*13,none⟩)) (ex_indexA (b:=bD) (off:=oD) (len:=1) (cap:=cD_) (e:=76) (k:=13) (ik:=.i64) (i:=0) (m:=0) hAD kr kr rfl (by decide) kr kr) fun a H=>H.gn HP 1 [(175,(.pointer (some ⟨bD,oD+0*13+1,none⟩)))] fun a H=>H.u 176 (ii 7) (ex_l1 (un_frame (HP.fact 0 rfl:IsRow 13 unC _ AD [uD]) hAD (hfD.trans sane_D.2))) fun a H=>H.gn HP 15 [(190,zT),(191,(pt bs 0))] fun a H=>H.call 192 kr (Eq.trans (kr:_=(callFunc 22 #[(pt bs 0),zO]).run Tryz.prog w_38) (Tryz.call22 _ _)) (by have hh:=full_any bs bc cc _ _ _ _ [cD.2] rest 0 w_38 (by decide) (by decide) (HP.at_ 5 rfl) (HP.at_ 6 rfl);rw[full_D0] at hh;exact hh) ?_
 rintro e w_39 ⟨rfl,hb⟩;refine⟨_,rfl,?_⟩;intro a H;have HP:=HP.next hb
 refine H.valE 193 (.bool (decide (cD.2.full>500))) zT kr kr (congrArg Value.bool sane_full.1) fun a H=>H.gn HP 3 [(195,zT),(196,(pt bs 0))] fun a H=>H.call 197 kr (Eq.trans (kr:_=(callFunc 22 #[(pt bs 0),(ii 1)]).run Tryz.prog w_39) (Tryz.call22 _ _)) (by have hh:=full_any bs bc cc _ _ _ _ [cD.2] rest 1 w_39 (by decide) (by decide) (HP.at_ 5 rfl) (HP.at_ 6 rfl);rw[full_D1] at hh;exact hh) ?_;rintro e w_40 ⟨rfl,hb⟩;refine⟨_,rfl,?_⟩;intro a H;have HP:=HP.next hb
 refine H.gz HP [(0,zT)] fun a H=>zrt<|H.r1 zT Tryz.results10 ?_;exact⟨rfl,HP.bl⟩
def in64 (n:Int):Prop:=-9223372036854775808≤n∧n≤9223372036854775807
abbrev ar9 (q:Nat→Int):Array Value:=#[.int .i64 (q 0),.int .i64 (q 1),.int .i64 (q 2),.int .i64 (q 3),.int .i64 (q 4),.int .i64 (q 5),.int .i64 (q 6),.int .i64 (q 7),.int .i64 (q 8)]
theorem ar9_size (q:Nat→Int):(ar9 q).size=9:=rfl
theorem beatL_any (fr x:Int) (w:World) (hf:0≤fr∧fr≤1000000) (hx:in64 x):
    Calls Tryz.prog 15 #[.int .i64 fr,.int .i64 x] w fun e w'=>∃mf mn r,e=.returned (.tuple #[.agg (msgC 2 mf mn),.bool r])∧(0≤mf∧mf≤fr)∧(1≤mn∧mn≤3)∧Below w.heap.size w w':=
  (beat_any fr x w hf hx).mono fun e w' ⟨he,hb⟩=>by
    have h1:=pickI_lt x 4 om
    have h2:=pickI_lt (x.tdiv 4) 8 om
    exact⟨_,_,_,he,om,om,hb⟩
theorem ex_make2 {P:Program}{ρ:Operand→Value}{w:World}{t e:TypeId}{x y:Operand}{dst:Option Tmp}{ty:TypeId}{pos:String}{af:Array Edge}{g:Option (Nat×Bool)}{n size bytes:Nat}{z:Value}{vs:List Value}(hx:ρ x=.int .i64 (n:Int)) (hy:ρ y=.int .i64 (n:Int)) (hu:P.underlying t=some (.slice e)) (hinf:infoB P e=some (some z,size,bytes)) (h1:n*size≤16777216) (h2:bytes*n≤281474976710656) (h3:n≤1000000) (hv:(madeCells z.cells (n*size)).toList=vs):
    (execOp ρ ⟨dst,.makeSlice t x y,ty,pos,af,g⟩).run P w=.ok (.value (.slice (some ⟨w.heap.size,0,none⟩) n n)) (w.alloc (.cells vs.toArray e)):=by
  subst hv;obtain⟨i,hi,hz,hs,hb⟩:=infoB_spec hinf;have:=run_makeSlice (P:=P) w t e i z hu hi hz .i64 .i64 (n:Int) (n:Int) om om (by rw[hs,Int.toNat_natCast];exact h1) (by rw[hb];have h4:((bytes*n:Nat):Int)≤((281474976710656:Nat):Int):=Int.ofNat_le.2 h2;rw[Int.natCast_mul] at h4;exact h4) om;simp only[execOp,hx,hy,Sem.run_bind,this,Result.andThen_ok,Sem.run_pure,hs];simp
theorem ch_ok0 (p:PlS):ChOk p.nm p.c (mkCh p):=⟨rfl,rfl,rfl,Int.le_refl 0,(by show(0:Int)≤29;decide),(by show(0:Int)≤500;decide),(by show(500:Int)≤1000;decide)⟩
structure BeatOk (hd:Bool) (at_ od:Int) (i:Int):Prop where
  a0:0≤at_
  a1:at_≤i
  o0:0≤od
  o1:od≤5
theorem recv_ok {hd hd1:Bool}{at_ od at1 od1 mf mn i:Int}(h:BeatOk hd at_ od i) (hr:recvP (hd,at_,od) mf mn=(hd1,at1,od1)) (h1:0≤mf∧mf≤i) (h2:1≤mn∧mn≤5):BeatOk hd1 at1 od1 i:=by
  unfold recvP at hr;split at hr
  · cases hr;exact⟨h1.1,h1.2,om,h2.2⟩
  · cases hr;exact h
theorem beat_more {hd:Bool}{at_ od i:Int}(h:BeatOk hd at_ od i):BeatOk hd at_ od (i+1):=⟨h.a0,by have:=h.a1;omega,h.o0,h.o1⟩
theorem beat_zero:BeatOk false 0 0 0:=⟨om,om,om,om⟩
theorem rate_cells4 {w:World}{b t j:Nat}(h:Box w b t [(.int .i64 24000),(.int .i64 1001),(.int .i64 24),(.int .i64 0),(.int .i64 24),(.int .i64 1),(.int .i64 24),(.int .i64 0),(.int .i64 25),(.int .i64 1),(.int .i64 25),(.int .i64 0),(.int .i64 30000),(.int .i64 1001),(.int .i64 30),(.int .i64 2),(.int .i64 30),(.int .i64 1),(.int .i64 30),(.int .i64 0),(.int .i64 50),(.int .i64 1),(.int .i64 50),(.int .i64 0),(.int .i64 60000),(.int .i64 1001),(.int .i64 60),(.int .i64 4),(.int .i64 60),(.int .i64 1),(.int .i64 60),(.int .i64 0)].toArray) (hj:j=0∨j=1∨j=2∨j=3∨j=4∨j=5∨j=6∨j=7):cellsAt w b (0+j*4) [(.int .i64 ((rateTab.getD j (0,0)).1)),(.int .i64 ((rateTab.getD j (0,0)).2)),(.int .i64 ((rateBase.getD j (0,0)).1)),(.int .i64 ((rateBase.getD j (0,0)).2))]:=by
 intro i v hv;have hi:i=0∨i=1∨i=2∨i=3:=by have:=(List.getElem?_eq_some_iff.1 hv).1;simp at this;omega
 rcases hj with rfl|rfl|rfl|rfl|rfl|rfl|rfl|rfl<;>rcases hi with rfl|rfl|rfl|rfl<;>cases hv<;>exact h.cell rfl
theorem ex_b2sB {P:Program}{ρ:Operand→Value}{w:World}{x:Operand}{dst:Option Tmp}{ty e:TypeId}{pos:String}{af:Array Edge}{g:Option (Nat×Bool)}{src td:TypeId}{B:Option Addr}{c m:Nat}{l:List UInt8}(hx:ρ x=.slice B m c) (hr:Rd w 1 B m (Lib.byteCells l)) (hm:1≤m) (hs:P.underlying src=some (.slice e)) (he:P.underlying e=some (.int .u8)) (hd:P.underlying td=some .string):
  (execOp ρ ⟨dst,.convert src td x,ty,pos,af,g⟩).run P w=.ok (.value (.string (bstr l))) w:=by
 obtain⟨b,off,rfl,_⟩:=hr.2.resolve_left om;exact ex_b2sR hx hr hs he hd
theorem own_some {w:World}{base e n c:Nat}{B:Option Addr}{xs:List Value}(h:(ownR base e (.slice B n c) xs).F w) (hn:1≤xs.length):∃b,B=some ⟨b,0,none⟩:=by
 rcases h.2 with⟨_,h3⟩|⟨g,cap,cur,hv,_⟩
 ·omega
 ·cases hv;exact⟨g,rfl⟩
theorem vput_step {f z:Nat}(h:¬z<128):vput (f+1) z=(z%128+128)::vput f (z/128):=by
 rw[vput,if_neg h]
theorem byte_one {k:Nat}(h:k<256):Lib.byteCells [UInt8.ofNat k]=[Value.int .u8 ((k:Nat):Int)]:=by
 simp only[Lib.byteCells,List.map_cons,List.map_nil,ofNat_toNat h]
theorem r3find_any (n d:Int) (w:World):
  Calls Tryz.prog 116 #[.agg #[.int .i64 n,.int .i64 d]] w fun e w'=>∃i0 i1 i2 i3,e=.returned (.tuple #[.agg #[.int .i64 i0,.int .i64 i1,.int .i64 i2,.int .i64 i3],.bool (rateOk n d)])∧Below w.heap.size w w':=by
 have HP:=Hp.start w;refine w_enter 38 [(0,(.agg #[(ii n),(ii d)]))] Tryz.func116 rfl Tryz.ntmps116 kr kr fun a H=>zq<|H.al HP 1 58 [(ii n),(ii d)] fun b_1 w_2 a H HP=>H.al HP 2 224 zcb fun b_3 w_4 a H HP=>H.gz HP [(3,zF)] fun a H=>zq<|H.cl 6 (Tryz.call166 _ _) (table_any w_4) ?_;rintro e w_5 ⟨bt,rfl,hbt,hbx,hb⟩;refine⟨_,rfl,?_⟩;intro a H;have HP:=HP.gain hb (bx bt 224 zc4 true) hbx (bx_ok _ _ _ _) (fun k hk=>by cases hk;exact hbx.lt) (fun k hk=>by cases hk;exact hbt)
 refine H.gz HP [(4,(sB bt 8 8))] fun a H=>zsq<|zq<|H.gz HP [(5,zO)] fun a H=>zbk<|w_loop (fun mm a wv=>∃(j:Nat),8-j=mm∧Sl 38 [(5,(ii j)),(4,(sB bt 8 8)),(1,(pt b_1 0)),(2,(pt b_3 0)),(3,zF)] a∧Hp w wv [bx bt 224 zc4 true,bx b_3 224 zcb true,bx b_1 58 [(ii n),(ii d)] true] []∧(j≤8)∧((rateTab.take j).any (fun p=>p.1 == n&&p.2 == d)=false)) (8-0) ?_ ?_
 ·exact⟨0,om,H.keep kr,HP,om,rfl⟩
 rintro mm a w_6 ⟨j,hmeas,H,HP,hj,hno⟩;refine zsq<|zq<|H.gz HP [(10,(.bool (decide ((j:Int)<8))))] fun a H=>w_if H rfl (fun g10=>?_) (fun g10=>?_)
 ·have g10p:=of_decide_eq_true g10;refine zsk (ztn (zsq (zbk (zsq ?_))));have hj8:j=0∨j=1∨j=2∨j=3∨j=4∨j=5∨j=6∨j=7:=om
  refine An.start (fun v=>Hp w v [bx bt 224 zc4 true,bx b_3 224 zcb true,bx b_1 58 [(ii n),(ii d)] true] []) 20 20 HP wide_follows rfl fun w_7 HP=>An.go H (.inr HP) 18 [0,1] [(13,(sB bt 8 8)),(14,(ii j))] [] fun a H=>An.q H (.inr HP) 2 15 (.pointer (some ⟨bt,0+j*4,none⟩)) (fun _=>ex_index (b:=bt) (off:=0) (len:=8) (cap:=8) (e:=224) (k:=4) (ik:=.i64) (i:=(j:Int)) (m:=j) kr kr om om kr kr) fun a H=>An.go H (.inr HP) 15 [3,4] [(17,(.pointer (some ⟨bt,0+j*4,none⟩)))] [] fun a H=>An.vw H HP 5 18 (ii ((rateTab.getD j (0,0)).1)) (fun _ hS=>ex_load1 (p:=⟨bt,0+j*4+0,none⟩) kr kr (rate_cells4 (hS.at_ 0 rfl) hj8 0 _ rfl)) fun a H=>An.go H (.inr HP) 10 [6,7,8,9] [(22,(.bool (((rateTab.getD j (0,0)).1) == n)))] [2] fun a H=>H.split 22 rfl (fun g22 H=>?_) (fun g22 H=>?_)
  ·have g22p:=eq_of_beq g22;refine An.go H (.inr HP) 8 [10,11] [(23,(sB bt 8 8)),(24,(ii j))] [] fun a H=>An.q H (.inr HP) 12 25 (.pointer (some ⟨bt,0+j*4,none⟩)) (fun _=>ex_index (b:=bt) (off:=0) (len:=8) (cap:=8) (e:=224) (k:=4) (ik:=.i64) (i:=(j:Int)) (m:=j) kr kr om om kr kr) fun a H=>An.go H (.inr HP) 5 [13,14] [(27,(.pointer (some ⟨bt,0+j*4+1,none⟩)))] [] fun a H=>An.vw H HP 15 28 (ii ((rateTab.getD j (0,0)).2)) (fun _ hS=>ex_load1 (p:=⟨bt,0+j*4+1,none⟩) kr kr (rate_cells4 (hS.at_ 0 rfl) hj8 1 _ rfl)) fun a H=>An.go H (.inr HP) 0 [16,17,18,19] [(32,(.bool (((rateTab.getD j (0,0)).2) == d)))] [2] fun a H=>An.done kr<|ztn<|w_if H rfl (fun g32=>?_) (fun g32=>?_)
   ·have g32p:=eq_of_beq g32
    refine zq<|H.gn HP 2 [(33,(sB bt 8 8)),(34,(ii j))] fun a H=>H.u 35 (.pointer (some ⟨bt,0+j*4,none⟩)) (ex_index (b:=bt) (off:=0) (len:=8) (cap:=8) (e:=224) (k:=4) (ik:=.i64) (i:=(j:Int)) (m:=j) kr kr om om kr kr) fun a H=>H.u 36 (.agg #[(ii ((rateTab.getD j (0,0)).1)),(ii ((rateTab.getD j (0,0)).2)),(ii ((rateBase.getD j (0,0)).1)),(ii ((rateBase.getD j (0,0)).2))]) (ex_lN [(ii ((rateTab.getD j (0,0)).1)),(ii ((rateTab.getD j (0,0)).2)),(ii ((rateBase.getD j (0,0)).1)),(ii ((rateBase.getD j (0,0)).2))] (rate_cells4 (HP.at_ 0 rfl) hj8)) fun a H=>H.sh HP 1 0 (.agg #[(ii ((rateTab.getD j (0,0)).1)),(ii ((rateTab.getD j (0,0)).2)),(ii ((rateBase.getD j (0,0)).1)),(ii ((rateBase.getD j (0,0)).2))]) rfl fun w_8 a H HP=>H.gz HP [(3,zT)] fun a H=>zrt<|zibr<|ztr<|ztr<|zibr<|ztr<|H.ret2 (fn:=Tryz.f116) Tryz.results116 (RV.cellN (vs:=[(ii ((rateTab.getD j (0,0)).1)),(ii ((rateTab.getD j (0,0)).2)),(ii ((rateBase.getD j (0,0)).1)),(ii ((rateBase.getD j (0,0)).2))]) (b:=b_3) (off:=0) (k:=4) kr kr kr rfl (HP.cells 1 rfl 0 4 kr)) (RV.tmp_ (v:=zT) kr) ?_
    exact⟨_,_,_,_,by rw[rateOk_hit (j:=j) om (by rw[g22,g32];rfl)],HP.bl⟩
   have g32p:=ne_of_beq_false g32;refine zsk<|zibn<|ztn<|zrg<|H.gn HP 1 [(11,(ii j))] fun a H=>H.wi 12 ((j:Int)+1) fun a H=>H.ge HP [(5,(ii ((j:Int)+1)))] [] fun a H=>ztn ?_;have H:=H.as 5 (ii ((j+1:Nat):Int)) rfl rfl;refine⟨_,?_,j+1,rfl,H.keep kr,HP,om,any_snoc om hno (by rw[g22,g32];rfl)⟩;omega
  have g22p:=ne_of_beq_false g22;refine An.go H (.inr HP) 0 [10,11,12,13,14,15,16,17,18,19] [(32,zF)] [] fun a H=>An.done kr<|ztn<|w_iff H rfl<|zsk<|zibn<|ztn<|zrg<|H.gn HP 1 [(11,(ii j))] fun a H=>H.wi 12 ((j:Int)+1) fun a H=>H.ge HP [(5,(ii ((j:Int)+1)))] [] fun a H=>ztn ?_;have H:=H.as 5 (ii ((j+1:Nat):Int)) rfl rfl;refine⟨_,?_,j+1,rfl,H.keep kr,HP,om,any_snoc om hno (by rw[g22];rfl)⟩;omega
 have g10p:=of_decide_eq_false g10;refine wp_exit<|then_exit<|then_exit<|w_exit_here<|zt<|H.gn HP 1 [(37,(.agg #[zO,zO,zO,zO]))] fun a H=>H.sh HP 1 0 (.agg #[zO,zO,zO,zO]) rfl fun w_9 a H HP=>H.gz HP [(3,zF)] fun a H=>zrt<|H.ret2 (fn:=Tryz.f116) Tryz.results116 (RV.cellN (vs:=zcb) (b:=b_3) (off:=0) (k:=4) kr kr kr rfl (HP.cells 1 rfl 0 4 kr)) (RV.tmp_ (v:=zF) kr) ?_;exact⟨_,_,_,_,by rw[rateOk_no (j:=j) om hno],HP.bl⟩
theorem rvalid3_any (n d:Int) (w:World):
  Calls Tryz.prog 68 #[.agg #[.int .i64 n,.int .i64 d]] w fun e w'=>e=.returned (.bool (rateOk n d))∧Below w.heap.size w w':=by
 have HP:=Hp.start w;refine w_enter 11 [(0,(.agg #[(ii n),(ii d)]))] Tryz.func68 rfl Tryz.ntmps68 kr kr fun a H=>zq<|H.al HP 1 58 [(ii n),(ii d)] fun b_1 w_2 a H HP=>H.gz HP [(2,zF)] fun a H=>zq<|H.go HP 1 [(6,(.agg #[(ii n),(ii d)]))] [0] fun a H=>H.cl 7 (Tryz.call116 _ _) (r3find_any n d w_2) ?_;rintro e w_3 ⟨i0,i1,i2,i3,rfl,hb⟩;refine⟨_,rfl,?_⟩;intro a H;have HP:=HP.next hb
 refine H.gn HP 3 [(5,(.tuple #[(.agg #[(ii i0),(ii i1),(ii i2),(ii i3)]),(.bool (rateOk n d))])),(8,(.agg #[(ii i0),(ii i1),(ii i2),(ii i3)])),(9,(.bool (rateOk n d)))] fun a H=>H.al HP 3 224 zcb fun b_4 w_5 a H HP=>H.sh HP 0 0 (.agg #[(ii i0),(ii i1),(ii i2),(ii i3)]) rfl fun w_6 a H HP=>H.gz HP [(4,(.bool (rateOk n d)))] fun a H=>zq<|H.gz HP [(2,(.bool (rateOk n d)))] fun a H=>zrt<|H.r1 (.bool (rateOk n d)) Tryz.results68 ?_;exact⟨rfl,HP.bl⟩
theorem rticks_any (n d fr:Int) (w:World) (hv:rateOk n d=true) (hf:0≤fr∧fr≤100000000):
  Calls Tryz.prog 178 #[.agg #[.int .i64 n,.int .i64 d],.int .i64 fr] w fun e w'=>e=.returned (ii (ticksP n d fr))∧Below w.heap.size w w':=by
 have HP:=Hp.start w;refine w_enter 22 [(0,(.agg #[(ii n),(ii d)])),(1,(ii fr))] Tryz.func178 rfl Tryz.ntmps178 kr kr fun a H=>zq<|H.al HP 2 58 [(ii n),(ii d)] fun b_1 w_2 a H HP=>H.gz HP [(4,zO)] fun a H=>zsq<|zq<|H.go HP 1 [(5,(.agg #[(ii n),(ii d)]))] [0] fun a H=>H.cb HP 6 (Tryz.call68 _ _) (by have hh:=rvalid3_any n d w_2;rw[hv] at hh;exact hh) fun w_3 hb a H HP=>H.gn HP 3 [(8,zF),(9,(ii fr))] fun a H=>H.cl 10 (Tryz.call195 _ _) (by have hh:=risFrame_any fr w_3;rw[frameOk_of hf] at hh;exact hh) ?_;rintro e w_4 ⟨rfl,hw⟩;refine⟨_,rfl,?_⟩;intro a H;have HP:=hw ▸ HP;refine H.gz HP [(12,zF)] fun a H=>w_iff H rfl<|zsk (ztn (zsq ?_));obtain⟨rn1,rn2,rd1,rd2⟩:=rateOk_bd hv;have hm1:0≤fr*90000*d:=Int.mul_nonneg om om;have hm2:fr*90000*d≤9000000000000*1001:=Int.mul_le_mul om om om om;have hm3:0≤fr*90000*d/n:=Int.ediv_nonneg hm1 om
 have hm4:fr*90000*d/n≤fr*90000*d:=Int.ediv_le_self _ hm1;refine zrg<|H.gn HP 1 [(13,(ii fr))] fun a H=>H.wi 14 (fr*90000) fun a H=>H.go HP 2 [(16,(ii d))] [0] fun a H=>H.valE 17 (ii (IntKind.i64.wrap ((fr*90000)*d))) (ii (fr*90000*d)) kr kr (by rw[wrap_ini64 _ om]) fun a H=>H.go HP 2 [(19,(ii n))] [0] fun a H=>H.valE 20 (ii (IntKind.i64.wrap ((fr*90000*d).tdiv n))) (ii (fr*90000*d/n)) kr (ex_quo (k:=.i64) kr kr om) (congrArg (Value.int .i64) (by rw[tdiv_nn _ _ om,wrap_ini64 _ om])) fun a H=>H.valE 21 (ii ((fr*90000*d/n).tmod 8589934592)) (ii ((fr*90000*d/n)%8589934592)) kr kr (by rw[tmod_nn _ _ om]) fun a H=>H.gz HP [(4,(ii ((fr*90000*d/n)%8589934592)))] fun a H=>zrt<|H.r1 (ii ((fr*90000*d/n)%8589934592)) Tryz.results178 ?_;exact⟨rfl,HP.bl⟩
theorem rzig_any (n:Int) (w:World) (h1:-wmax≤n) (h2:n≤wmax):
  Calls Tryz.prog 206 #[.int .i64 n] w fun e w'=>e=.returned (.int .u64 ((zig n:Nat):Int))∧Below w.heap.size w w':=by
 have HP:=Hp.start w;unfold wmax at h1 h2;refine w_enter 13 [(0,(ii n))] Tryz.func206 rfl Tryz.ntmps206 kr kr fun a H=>zq<|H.gz HP [(2,(.int .u64 0))] fun a H=>zsq<|zq<|H.gz HP [(3,(ii n)),(4,(.bool (decide (n<0))))] fun a H=>w_if H rfl (fun g4=>?_) (fun g4=>?_)
 ·have g4p:=of_decide_eq_true g4;refine zq<|H.gn HP 1 [(5,(ii n))] fun a H=>H.valE 6 (ii (IntKind.i64.wrap (0-n))) (ii (-n)) kr kr (by rw[Int.zero_sub,wrap_ini64 _ om]) fun a H=>H.valE 7 (.int .u64 (IntKind.u64.wrap (-n))) (.int .u64 (-n)) kr kr (by rw[wrap_inu64 _ om]) fun a H=>H.valE 8 (.int .u64 (IntKind.u64.wrap ((-n)*2))) (.int .u64 ((-n)*2)) kr kr (by rw[wrap_inu64 _ om]) fun a H=>H.valE 9 (.int .u64 (IntKind.u64.wrap (((-n)*2)-1))) (.int .u64 (((-n)*2)-1)) kr kr (by rw[wrap_inu64 _ om]) fun a H=>H.gz HP [(2,(.int .u64 (((-n)*2)-1)))] fun a H=>zrt<|ztr<|H.r1 (.int .u64 (((-n)*2)-1)) Tryz.results206 ?_;exact⟨congrArg (fun x=>Ending.returned (Value.int .u64 x)) (by unfold zig;rw[if_pos om];omega),HP.below kr⟩
 have g4p:=of_decide_eq_false g4;refine zsk<|zt<|H.gn HP 1 [(10,(ii n))] fun a H=>H.valE 11 (.int .u64 (IntKind.u64.wrap n)) (.int .u64 n) kr kr (by rw[wrap_inu64 _ om]) fun a H=>H.valE 12 (.int .u64 (IntKind.u64.wrap (n*2))) (.int .u64 (n*2)) kr kr (by rw[wrap_inu64 _ om]) fun a H=>H.gz HP [(2,(.int .u64 (n*2)))] fun a H=>zrt<|H.r1 (.int .u64 (n*2)) Tryz.results206 ?_;exact⟨congrArg (fun x=>Ending.returned (Value.int .u64 x)) (by unfold zig;rw[if_neg om];omega),HP.below kr⟩
theorem rputInt_any (n:Int) (w:World) (h1:-wmax≤n) (h2:n≤wmax):
  Calls Tryz.prog 194 #[.int .i64 n] w fun e w'=>e=.returned (.tuple #[.string (bstr (encInt n)),.int .i64 0])∧Below w.heap.size w w':=by
 have HP:=Hp.start w;unfold wmax at h1 h2;refine w_enter 31 [(0,(ii n))] Tryz.func194 rfl Tryz.ntmps194 kr kr fun a H=>zq<|H.gz HP [(2,zS),(3,zO)] fun a H=>zsq<|zq<|H.gn HP 1 [(6,(ii n))] fun a H=>H.valE 7 (.bool (decide (n< -4611686018427387903))) zF kr kr (congrArg Value.bool (decide_eq_false om)) fun a H=>H.gn HP 2 [(8,zF),(9,(ii n))] fun a H=>H.valE 10 (.bool (decide (n>4611686018427387903))) zF kr kr (congrArg Value.bool (decide_eq_false om)) fun a H=>H.gz HP [(11,zF)] fun a H=>w_iff H rfl<|zsk<|zt<|H.gn HP 1 [(12,(ii n))] fun a H=>H.cb HP 13 (Tryz.call206 _ _) (rzig_any n w (by unfold wmax;omega) (by unfold wmax;omega)) fun w_1 hb a H HP=>?_;obtain⟨z0,hz0⟩:∃z,zig n=z:=⟨_,rfl⟩;rw[hz0] at H;have hzb:z0<9223372036854775808:=by rw[←hz0];unfold zig;split<;>omega
 refine H.gz HP [(4,(.int .u64 (z0:Int)))] fun a H=>zq<|H.ge HP [(5,zN)] [] fun a H=>ztn (zsq (zbk ?_));have HP:=HP.nilR 5;refine w_loop (fun mm a wv=>∃(f:Nat),∃(z:Nat),∃(l:List UInt8),∃(B:Option Addr),∃(cc:Nat),f=mm∧Sl 31 [(4,(.int .u64 (z:Int))),(5,(sL B l.length cc)),(0,(ii n))] a∧Hp w wv [(ownR w.heap.size 5 (sL B l.length cc) (Lib.byteCells l))] []∧(z<128^f)∧(z<9223372036854775808)∧(1≤f)∧(l.length+f=9)∧(B=none→l.length=0∧cc=0)∧(l++(vput f z).map UInt8.ofNat=encInt n)) (9) ?_ ?_
 ·exact⟨9,z0,[],none,0,om,H.keep kr,HP,om,om,om,rfl,(fun _=>⟨rfl,rfl⟩),(by rw[←hz0];rfl)⟩
 rintro mm a w_2 ⟨f,z,l,B,cc,hmeas,H,HP,hz,hzz,hf,hfl,hnb,hen⟩;refine zsq<|zq<|H.gz HP [(15,(.bool (decide ((z:Int)≥128))))] fun a H=>w_if H rfl (fun g15=>?_) (fun g15=>?_)
 ·have g15p:=of_decide_eq_true g15
  refine zsk<|ztn<|zbk<|zq<|H.gn HP 2 [(16,(sL B l.length cc)),(17,(.int .u64 (z:Int)))] fun a H=>H.valE 18 (.int .u64 ((z:Int).tmod 128)) (.int .u64 ((z%128:Nat):Int)) kr kr (by rw[tmod_nn _ _ om];exact congrArg (Value.int .u64) om) fun a H=>H.valE 19 (.int .u64 (IntKind.u64.wrap (((z%128:Nat):Int)+128))) (.int .u64 ((z%128+128:Nat):Int)) kr kr (by rw[wrap_inu64 _ om];exact congrArg (Value.int .u64) om) fun a H=>H.valE 20 (.int .u8 (IntKind.u8.wrap ((z%128+128:Nat):Int))) (.int .u8 ((z%128+128:Nat):Int)) kr kr (by rw[wrap_inu8 _ om]) fun a H=>H.alloc HP 21 (fun b=>(sB b 1 1)) 5 [(.int .u8 ((z%128+128:Nat):Int))] kr (fun w=>kr) fun b_3 w_4 a H HP=>H.appR HP 22 1 (v:=(sL B l.length cc)) (xs:=(Lib.byteCells l)) 5 (z:=(.int .u8 0)) (bytes:=1) (some ⟨b_3,0,none⟩) (1) (1) ([(.int .u8 ((z%128+128:Nat):Int))]) kr kr kr kr kr rfl kr (fun h=>by cases h) (Rd.of_box (HP.at_ 0 rfl) rfl) kr (by rw[byteCells_len];unfold maxLen;omega) (by rw[byteCells_len];omega) fun B_5 c_6 w_7 a H HP=>?_
  have HP:Hp w w_7 [bx b_3 5 [(.int .u8 ((z%128+128:Nat):Int))] true,(ownR w.heap.size 5 (sL B_5 ((Lib.byteCells l).length+1) c_6) (Lib.byteCells l++[(.int .u8 ((z%128+128:Nat):Int))]))] []:=HP;have hxs:Lib.byteCells l++[(.int .u8 ((z%128+128:Nat):Int))]=Lib.byteCells (l++[UInt8.ofNat (z%128+128)]):=(by rw[byteCells_append,byte_one om]);have hvv:((sL B_5 ((Lib.byteCells l).length+1) c_6):Value)=(sL B_5 ((l++[UInt8.ofNat (z%128+128)]).length) c_6):=by rw[show (Lib.byteCells l).length+1=(l++[UInt8.ofNat (z%128+128)]).length from(by simp[byteCells_len])]
  rw[hxs,hvv] at HP;have HP:Hp w w_7 [bx b_3 5 [(.int .u8 ((z%128+128:Nat):Int))] true,(ownR w.heap.size 5 (sL B_5 ((l++[UInt8.ofNat (z%128+128)]).length) c_6) (Lib.byteCells (l++[UInt8.ofNat (z%128+128)])))] []:=HP;have H:=H.as 22 (sL B_5 ((l++[UInt8.ofNat (z%128+128)]).length) c_6) rfl hvv;clear hxs hvv;refine H.gz HP [(5,(sL B_5 ((l++[UInt8.ofNat (z%128+128)]).length) c_6))] fun a H=>zrg<|H.gn HP 1 [(23,(.int .u64 (z:Int)))] fun a H=>H.valE 24 (.int .u64 (IntKind.u64.wrap ((z:Int).tdiv 128))) (.int .u64 ((z/128:Nat):Int)) kr kr (by rw[tdiv_nn _ _ om,wrap_inu64 _ om];exact congrArg (Value.int .u64) om) fun a H=>H.ge HP [(4,(.int .u64 ((z/128:Nat):Int)))] [] fun a H=>zibn (ztn ?_);obtain⟨f,rfl⟩:∃k,f=k+1:=⟨f-1,om⟩;have hzq:z/128<128^f:=by rw[Nat.pow_succ] at hz;exact Nat.div_lt_of_lt_mul (by rw[Nat.mul_comm];exact hz)
  have hf0:1≤f:=by rcases Nat.eq_zero_or_pos f with h|h<;>first|exact h|(subst h;simp at hzq;omega)
  have H:=H.as 4 (.int .u64 ((z/128:Nat):Int)) rfl rfl;have H:=H.as 5 (sL B_5 ((l++[UInt8.ofNat (z%128+128)]).length) c_6) rfl rfl;refine⟨_,?_,f,z/128,l++[UInt8.ofNat (z%128+128)],B_5,c_6,rfl,H.keep kr,HP.t1,hzq,om,hf0,(by simp only[List.length_append,List.length_cons,List.length_nil];omega),(fun h=>by have:=ownR_facts (HP.held 1 rfl);have:=this.2.2.2 h;simp only[List.length_append,List.length_cons,List.length_nil,byteCells_len] at *;omega),(by rw[←hen,vput_step om];simp)⟩;omega
 have g15p:=of_decide_eq_false g15;refine wp_exit<|then_exit<|then_exit<|w_exit_here<|zt<|H.gn HP 2 [(25,(sL B l.length cc)),(26,(.int .u64 (z:Int)))] fun a H=>H.valE 27 (.int .u8 (IntKind.u8.wrap (z:Int))) (.int .u8 (z:Int)) kr kr (by rw[wrap_inu8 _ om]) fun a H=>H.alloc HP 28 (fun b=>(sB b 1 1)) 5 [(.int .u8 (z:Int))] kr (fun w=>kr) fun b_8 w_9 a H HP=>H.appR HP 29 1 (v:=(sL B l.length cc)) (xs:=(Lib.byteCells l)) 5 (z:=(.int .u8 0)) (bytes:=1) (some ⟨b_8,0,none⟩) (1) (1) ([(.int .u8 (z:Int))]) kr kr kr kr kr rfl kr (fun h=>by cases h) (Rd.of_box (HP.at_ 0 rfl) rfl) kr (by rw[byteCells_len];unfold maxLen;omega) (by rw[byteCells_len];omega) fun B_10 c_11 w_12 a H HP=>?_;have HP:Hp w w_12 [bx b_8 5 [(.int .u8 (z:Int))] true,(ownR w.heap.size 5 (sL B_10 ((Lib.byteCells l).length+1) c_11) (Lib.byteCells l++[(.int .u8 (z:Int))]))] []:=HP
 have hxs:Lib.byteCells l++[(.int .u8 (z:Int))]=Lib.byteCells (l++[UInt8.ofNat z]):=(by rw[byteCells_append,byte_one om]);have hvv:((sL B_10 ((Lib.byteCells l).length+1) c_11):Value)=(sL B_10 ((l++[UInt8.ofNat z]).length) c_11):=by rw[show (Lib.byteCells l).length+1=(l++[UInt8.ofNat z]).length from(by simp[byteCells_len])]
 rw[hxs,hvv] at HP;have HP:Hp w w_12 [bx b_8 5 [(.int .u8 (z:Int))] true,(ownR w.heap.size 5 (sL B_10 ((l++[UInt8.ofNat z]).length) c_11) (Lib.byteCells (l++[UInt8.ofNat z])))] []:=HP;have H:=H.as 29 (sL B_10 ((l++[UInt8.ofNat z]).length) c_11) rfl hvv;clear hxs hvv;refine H.valE 30 (sS (l++[UInt8.ofNat z])) (sS (encInt n)) kr (ex_b2sB (l:=l++[UInt8.ofNat z]) (e:=5) (m:=(l++[UInt8.ofNat z]).length) (c:=c_11) kr (by have hh:=ownR_rd (HP.held 1 rfl);rw[byteCells_len] at hh;exact hh) (by simp) kr kr kr) (congrArg (fun x=>Value.string (bstr x)) (by rw[←hen];obtain⟨f,rfl⟩:∃k,f=k+1:=⟨f-1,om⟩;unfold vput;rw[if_pos om];simp)) fun a H=>H.gz HP [(2,(sS (encInt n))),(3,zO)] fun a H=>zrt<|H.ret2 (fn:=Tryz.f194) Tryz.results194 (RV.tmp_ (v:=(sS (encInt n))) kr) (RV.tmp_ (v:=zO) kr) ?_;exact⟨rfl,HP.bl⟩
theorem rputString_any (l:List UInt8) (w:World) (hl:l.length≤65536):
  Calls Tryz.prog 208 #[.string (bstr l)] w fun e w'=>e=.returned (.tuple #[.string (bstr (encStr l)),.int .i64 0])∧Below w.heap.size w w':=by
 have HP:=Hp.start w
 refine w_enter 18 [(0,(sS l))] Tryz.func208 rfl Tryz.ntmps208 kr kr fun a H=>zq<|H.gz HP [(2,zS),(3,zO)] fun a H=>zsq<|zq<|H.gn HP 2 [(7,(ii l.length))] fun a H=>H.valE 8 (.bool (decide ((l.length:Int)>65536))) zF kr kr (congrArg Value.bool (decide_eq_false om)) fun a H=>znl<|ztn<|w_iff H rfl<|zsk<|zt<|H.gn HP 2 [(11,(ii l.length))] fun a H=>H.cb HP 12 (Tryz.call194 _ _) (rputInt_any (l.length:Int) w (by unfold wmax;omega) (by unfold wmax;omega)) fun w_1 hb a H HP=>H.gz HP [(4,(sS (encInt (l.length:Int)))),(5,zO)] fun a H=>zq<|H.gn HP 2 [(15,(sS (encInt (l.length:Int)))),(16,(sS l))] fun a H=>H.u 17 (sS ((encInt (l.length:Int))++l)) (ex_sadd kr kr (by have:=(encInt_len (l.length:Int)).2;omega)) fun a H=>H.gz HP [(2,(sS ((encInt (l.length:Int))++l))),(3,zO)] fun a H=>zrt<|H.ret2 (fn:=Tryz.f208) Tryz.results208 (RV.tmp_ (v:=(sS ((encInt (l.length:Int))++l))) kr) (RV.tmp_ (v:=zO) kr) ?_
 exact⟨rfl,HP.bl⟩
theorem rnumber_any (n:Int) (w:World) (h1:-wmax≤n) (h2:n≤wmax):
  Calls Tryz.prog 197 #[.int .i64 n] w fun e w'=>e=.returned (sS (encInt n))∧Below w.heap.size w w':=by
 have HP:=Hp.start w;refine w_enter 11 [(0,(ii n))] Tryz.func197 rfl Tryz.ntmps197 kr kr fun a H=>zq<|H.gz HP [(2,zS)] fun a H=>zq<|H.gn HP 1 [(6,(ii n))] fun a H=>H.cb HP 7 (Tryz.call194 _ _) (rputInt_any n w h1 h2) fun w_1 hb a H HP=>H.gz HP [(5,(.tuple #[(sS (encInt n)),zO])),(3,(sS (encInt n))),(4,zO)] fun a H=>zq<|H.gz HP [(2,(sS (encInt n)))] fun a H=>zrt<|H.r1 (sS (encInt n)) Tryz.results197 ?_;exact⟨rfl,HP.bl⟩
theorem rtext_any (l:List UInt8) (w:World) (hl:l.length≤65536):
  Calls Tryz.prog 198 #[.string (bstr l)] w fun e w'=>e=.returned (sS (encStr l))∧Below w.heap.size w w':=by
 have HP:=Hp.start w;refine w_enter 11 [(0,(sS l))] Tryz.func198 rfl Tryz.ntmps198 kr kr fun a H=>zq<|H.gz HP [(2,zS)] fun a H=>zq<|H.gn HP 1 [(6,(sS l))] fun a H=>H.cb HP 7 (Tryz.call208 _ _) (rputString_any l w hl) fun w_1 hb a H HP=>H.gz HP [(5,(.tuple #[(sS (encStr l)),zO])),(3,(sS (encStr l))),(4,zO)] fun a H=>zq<|H.gz HP [(2,(sS (encStr l)))] fun a H=>zrt<|H.r1 (sS (encStr l)) Tryz.results198 ?_;exact⟨rfl,HP.bl⟩
theorem inW_getD {zs:List Int}(h:InW zs) {j:Nat}(hj:j<zs.length):-wmax≤zs.getD j 0∧zs.getD j 0≤wmax:=by
 have e:zs.getD j 0=zs[j]:=by simp[List.getD,List.getElem?_eq_getElem hj]
 rw[e];exact h _ (List.getElem_mem hj)
theorem encInts_take {zs:List Int}{j:Nat}(hj:j<zs.length):encInts (zs.take (j+1))=encInts (zs.take j)++encInt (zs.getD j 0):=by
 rw[List.take_succ_eq_append_getElem hj,encInts_snoc];simp[List.getD,List.getElem?_eq_getElem hj]
theorem ints_len (zs:List Int):(ints zs).length=zs.length:=by simp
theorem row_int {w:World}{b j:Nat}{zs:List Int}(h:Rd w 1 (some ⟨b,0,none⟩) zs.length (ints zs)) (hj:j<zs.length):w.cell? ⟨b,0+j*1,none⟩=some (.int .i64 (zs.getD j 0)):=by
 obtain⟨b',off,he,_,hc⟩:=h.2.resolve_left om;cases he
 rw[Nat.mul_one,hc j om];simp[List.getD,List.getElem?_eq_getElem hj]
theorem flatA_len (al:Alts):(flatA al).length=2*al.length:=by
 induction al with
 |nil=>rfl
 |cons a al ih=>simp only[flatA,List.flatMap_cons,List.length_append,List.length_cons,List.length_nil] at *;omega
theorem opt_inW {s f:Int}{al:Alts}(h:validP s f al=true):InW ([s,f,((al.length:Nat):Int)]++flatA al):=by
 obtain⟨h1,h2,h3,h4⟩:=valid_facts h;intro z hz;rcases List.mem_append.1 hz with hz|hz
 ·simp only[List.mem_cons,List.not_mem_nil,or_false] at hz;unfold wmax;rcases hz with rfl|rfl|rfl<;>omega
 ·exact flat_inW h4 z hz
theorem alt_at0 {w:World}{AB AO j:Nat}{al:Alts}(h:IsAlts w (some ⟨AB,AO,none⟩) al.length al) (hj:j<al.length):w.cell? ⟨AB,AO+j*2,none⟩=some (.int .i64 (al.getD j (0,0)).1):=by
 obtain⟨b,off,he,_,h1,h2⟩:=h.at_ hj;cases he;exact h1
theorem alt_at1 {w:World}{AB AO j:Nat}{al:Alts}(h:IsAlts w (some ⟨AB,AO,none⟩) al.length al) (hj:j<al.length):w.cell? ⟨AB,AO+j*2+1,none⟩=some (.int .i64 (al.getD j (0,0)).2):=by
 obtain⟨b,off,he,_,h1,h2⟩:=h.at_ hj;cases he;exact h2
theorem rnumbers_any (b c:Nat) (zs:List Int) (w:World) (hr:Rd w 1 (some ⟨b,0,none⟩) zs.length (ints zs)) (hzs:InW zs) (hl:zs.length≤1000) (hcap:zs.length≤c):
  Calls Tryz.prog 207 #[.slice (some ⟨b,0,none⟩) zs.length c] w fun e w'=>e=.returned (sS (encInts zs))∧Below w.heap.size w w':=by
 have HP:=Hp.start w;refine w_enter 25 [(0,(sB b zs.length c))] Tryz.func207 rfl Tryz.ntmps207 kr kr fun a H=>zq<|H.gz HP [(2,zS)] fun a H=>zq<|H.gz HP [(3,zS)] fun a H=>zsq<|zq<|H.gz HP [(4,zO)] fun a H=>zbk<|w_loop (fun mm a wv=>∃(j:Nat),zs.length-j=mm∧Sl 25 [(4,(ii j)),(3,(sS (encInts (zs.take j)))),(0,(sB b zs.length c))] a∧Hp w wv [] []∧(j≤zs.length)) (zs.length-0) ?_ ?_
 ·exact⟨0,om,H.keep kr,HP,om⟩
 rintro mm a w_1 ⟨j,hmeas,H,HP,hj⟩;refine zsq<|zq<|H.gz HP [(10,(.bool (decide ((j:Int)<(zs.length:Int)))))] fun a H=>w_if H rfl (fun g10=>?_) (fun g10=>?_)
 ·have g10p:=of_decide_eq_true g10
  refine zsk<|ztn<|zsq<|zbk<|zq<|H.gn HP 2 [(14,(sB b zs.length c)),(15,(ii j))] fun a H=>H.u 16 (.pointer (some ⟨b,0+j*1,none⟩)) (ex_index (b:=b) (off:=0) (len:=zs.length) (cap:=c) (e:=3) (k:=1) (ik:=.i64) (i:=(j:Int)) (m:=j) kr kr om om kr kr) fun a H=>H.u 17 (ii (zs.getD j 0)) (ex_load1 (p:=⟨b,0+j*1,none⟩) kr kr (row_int (hr.below HP.bl) om)) fun a H=>H.cb HP 18 (Tryz.call194 _ _) (rputInt_any (zs.getD j 0) w_1 (inW_getD hzs om).1 (inW_getD hzs om).2) fun w_2 hb a H HP=>H.gz HP [(5,(sS (encInt (zs.getD j 0))))] fun a H=>zrg<|H.gn HP 2 [(21,(sS (encInts (zs.take j)))),(22,(sS (encInt (zs.getD j 0))))] fun a H=>H.u 23 (sS ((encInts (zs.take j))++(encInt (zs.getD j 0)))) (ex_sadd kr kr (by(have:=encInts_len (zs.take j);have:=(encInt_len (zs.getD j 0)).2;simp only[List.length_take] at *;omega))) fun a H=>H.ge HP [(3,(sS ((encInts (zs.take j))++(encInt (zs.getD j 0)))))] [] fun a H=>zibn<|ztn<|zrg<|H.gn HP 1 [(11,(ii j))] fun a H=>H.wi 12 ((j:Int)+1) fun a H=>H.ge HP [(4,(ii ((j:Int)+1)))] [] fun a H=>ztn ?_
  have H:=H.as 4 (ii ((j+1:Nat):Int)) rfl rfl;have H:=H.as 3 (sS (encInts (zs.take (j+1)))) rfl (congrArg (fun x=>Value.string (bstr x)) (encInts_take om).symm);refine⟨_,?_,j+1,rfl,H.keep kr,HP,om⟩;omega
 have g10p:=of_decide_eq_false g10;refine wp_exit<|then_exit<|then_exit<|w_exit_here<|zt<|H.gz HP [(2,(sS (encInts (zs.take j))))] fun a H=>zrt<|H.r1 (sS (encInts (zs.take j))) Tryz.results207 ?_;exact⟨by rw[show j=zs.length from om,List.take_length],HP.bl⟩
theorem rencode_any (s f:Int) (A:Option Addr) (c:Nat) (al:Alts) (w:World) (h:IsAlts w A al.length al) (hv:validP s f al=true) (hc:al.length≤c):
  Calls Tryz.prog 196 #[.agg #[.int .i64 s,.int .i64 f,.slice A al.length c]] w fun e w'=>e=.returned (.tuple #[.string (bstr (encOpt s f al)),.int .i64 0])∧Below w.heap.size w w':=by
 have HP:=Hp.start w;obtain⟨v1,v2,v3,v4⟩:=valid_facts hv;have hIn:=opt_inW hv;refine w_enter 43 [(0,(.agg #[(ii s),(ii f),(sL A al.length c)]))] Tryz.func196 rfl Tryz.ntmps196 kr kr fun a H=>zq<|H.al HP 1 74 [(ii s),(ii f),(sL A al.length c)] fun b_1 w_2 a H HP=>H.gz HP [(2,zS),(3,zO)] fun a H=>zq<|H.go HP 1 [(7,(.agg #[(ii s),(ii f),(sL A al.length c)]))] [0] fun a H=>H.cb HP 8 (Tryz.call176 _ _) (by have hh:=rvalid_any s f A al.length c al w_2 (h.below HP.bl) (by unfold maxLen;omega);rw[hv] at hh;exact hh) fun w_3 hb a H HP=>H.gz HP [(4,zT)] fun a H=>zsq<|zq<|H.gz HP [(10,zF)] fun a H=>w_iff H rfl<|zsk<|zt<|H.go HP 7 [(12,(ii s)),(14,(ii f)),(17,(ii al.length))] [0,0,0] fun a H=>H.alloc HP 18 (fun b=>(sB b 3 3)) 3 [(ii s),(ii f),(ii al.length)] kr (fun w=>kr) fun b_4 w_5 a H HP=>H.ge HP [(5,(sB b_4 3 3))] [] fun a H=>?_
 have HP:Hp w w_5 [(ownR w.heap.size 3 (sB b_4 3 3) (ints [s,f,(al.length:Int)])),bx b_1 74 [(ii s),(ii f),(sL A al.length c)] true] []:=HP.rowOf 0 rfl rfl (by unfold maxLen;simp only[List.length_cons,List.length_nil];omega) _ rfl;refine ztn<|zsq<|zq<|H.gz HP [(6,zO)] fun a H=>zbk<|w_loop (fun mm a wv=>∃(j:Nat),∃(bl:Nat),∃(cl:Nat),al.length-j=mm∧Sl 43 [(6,(ii j)),(5,(sB bl (3+2*j) cl)),(1,(pt b_1 0))] a∧Hp w wv [(ownR w.heap.size 3 (sB bl (3+2*j) cl) (ints ([s,f,(al.length:Int)]++flatA (al.take j)))),bx b_1 74 [(ii s),(ii f),(sL A al.length c)] true] []∧(j≤al.length)) (al.length-0) ?_ ?_
 ·exact⟨0,b_4,3,om,H.keep kr,(by rw[List.take_zero,show flatA []=[] from rfl,List.append_nil];exact HP),om⟩
 rintro mm a w_6 ⟨j,bl,cl,hmeas,H,HP,hj⟩;refine zsq<|zq<|H.gy HP [(23,(.bool (decide ((j:Int)<(al.length:Int)))))] [1] fun a H=>w_if H rfl (fun g23=>?_) (fun g23=>?_)
 ·have g23p:=of_decide_eq_true g23;refine zsk (ztn (zsq (zbk ?_)));obtain⟨AB,AO,hAA,_⟩:=h.at_ (i:=j) om;have hA2:=h;rw[hAA] at hA2;have HP:=HP.front 0 rfl _ rfl
  refine An.start (fun v=>Hp w v [bx b_1 74 [(ii s),(ii f),(sL A al.length c)] true] []) 16 16 HP wide_follows rfl fun w_7 HP=>An.go H (.inr (HP.t1)) 14 [0,1] [(26,(sB bl (3+2*j) cl)),(27,(pt b_1 2))] [] fun a H=>An.val H (HP.t1) 2 28 (sL (some ⟨AB,AO,none⟩) al.length c) rfl kr kr (fun _ _ _ h=>h) (fun _ hS=>(by rw[←hAA];exact ex_l1 (hS.cell 0 rfl 2 rfl))) fun a H=>An.go H (.inr (HP.t1)) 12 [3] [(29,(ii j))] [] fun a H=>An.q H (.inr (HP.t1)) 4 30 (.pointer (some ⟨AB,AO+j*2,none⟩)) (fun _=>ex_index (b:=AB) (off:=AO) (len:=al.length) (cap:=c) (e:=189) (k:=2) (ik:=.i64) (i:=(j:Int)) (m:=j) kr kr om om kr kr) fun a H=>An.go H (.inr (HP.t1)) 10 [5] [(31,(.pointer (some ⟨AB,AO+j*2,none⟩)))] [] fun a H=>An.vw H (HP.t1) 6 32 (ii ((al.getD j (0,0)).1)) (fun _ hS=>ex_load1 (p:=⟨AB,AO+j*2,none⟩) kr kr (alt_at0 (hA2.below (hS.below kr)) om)) fun a H=>An.go H (.inr (HP.t1)) 8 [7] [(33,(pt b_1 2))] [] fun a H=>An.val H (HP.t1) 8 34 (sL (some ⟨AB,AO,none⟩) al.length c) rfl kr kr (fun _ _ _ h=>h) (fun _ hS=>(by rw[←hAA];exact ex_l1 (hS.cell 0 rfl 2 rfl))) fun a H=>An.go H (.inr (HP.t1)) 6 [9] [(35,(ii j))] [] fun a H=>An.q H (.inr (HP.t1)) 10 36 (.pointer (some ⟨AB,AO+j*2,none⟩)) (fun _=>ex_index (b:=AB) (off:=AO) (len:=al.length) (cap:=c) (e:=189) (k:=2) (ik:=.i64) (i:=(j:Int)) (m:=j) kr kr om om kr kr) fun a H=>An.go H (.inr (HP.t1)) 4 [11] [(37,(.pointer (some ⟨AB,AO+j*2+1,none⟩)))] [] fun a H=>An.vw H (HP.t1) 12 38 (ii ((al.getD j (0,0)).2)) (fun _ hS=>ex_load1 (p:=⟨AB,AO+j*2+1,none⟩) kr kr (alt_at1 (hA2.below (hS.below kr)) om)) fun a H=>An.one 13 kr<|Op.alloc H HP 39 (fun b=>(sB b 2 2)) 3 [(ii ((al.getD j (0,0)).1)),(ii ((al.getD j (0,0)).2))] rfl kr (fun w=>kr) fun b_8 w_9 a H HP=>⟨.inr (HP.t2),?_⟩
  refine An.one 14 kr<|Op.appR H HP 40 1 (v:=(sB bl (3+2*j) cl)) (xs:=(ints ([s,f,(al.length:Int)]++flatA (al.take j)))) 3 (z:=zO) (bytes:=8) (some ⟨b_8,0,none⟩) (2) (2) ([.int .i64 (al.getD j (0,0)).1,.int .i64 (al.getD j (0,0)).2]) rfl kr kr kr kr kr rfl kr (fun h=>by cases h) (Rd.of_box (HP.at_ 0 rfl) rfl) kr (by rw[ints_len];simp[flatA_len];unfold maxLen;omega) (by rw[ints_len];simp[flatA_len];omega) fun B_10 c_11 w_12 a H HP=>?_;have HP:Hp w w_12 [bx b_8 3 [(ii ((al.getD j (0,0)).1)),(ii ((al.getD j (0,0)).2))] true,(ownR w.heap.size 3 (sL B_10 ((ints ([s,f,(al.length:Int)]++flatA (al.take j))).length+2) c_11) (ints ([s,f,(al.length:Int)]++flatA (al.take j))++[.int .i64 (al.getD j (0,0)).1,.int .i64 (al.getD j (0,0)).2])),bx b_1 74 [(ii s),(ii f),(sL A al.length c)] true] []:=HP
  have hxs:ints ([s,f,(al.length:Int)]++flatA (al.take j))++[.int .i64 (al.getD j (0,0)).1,.int .i64 (al.getD j (0,0)).2]=ints ([s,f,(al.length:Int)]++flatA (al.take (j+1))):=(by rw[flatA_take om];simp[ints]);have hvv:((sL B_10 ((ints ([s,f,(al.length:Int)]++flatA (al.take j))).length+2) c_11):Value)=(sL B_10 (3+2*j+2) c_11):=by rw[show (ints ([s,f,(al.length:Int)]++flatA (al.take j))).length+2=3+2*j+2 from(by rw[ints_len];simp[flatA_len];omega)]
  rw[hxs,hvv] at HP;have HP:Hp w w_12 [bx b_8 3 [(ii ((al.getD j (0,0)).1)),(ii ((al.getD j (0,0)).2))] true,(ownR w.heap.size 3 (sL B_10 (3+2*j+2) c_11) (ints ([s,f,(al.length:Int)]++flatA (al.take (j+1))))),bx b_1 74 [(ii s),(ii f),(sL A al.length c)] true] []:=HP;have H:=H.as 40 (sL B_10 (3+2*j+2) c_11) rfl hvv;clear hxs hvv;refine⟨.inr (HP.t2),?_⟩;refine An.go H (.inr (HP.t2)) 0 [15] [(5,(sL B_10 (3+2*j+2) c_11))] [] fun a H=>An.done kr<|zibn<|ztn<|zrg<|H.gn HP 1 [(24,(ii j))] fun a H=>H.wi 25 ((j:Int)+1) fun a H=>H.ge HP [(6,(ii ((j:Int)+1)))] [] fun a H=>ztn ?_;obtain⟨bn,hbn⟩:∃b,B_10=some ⟨b,0,none⟩:=own_some (HP.held 1 rfl) (by rw[ints_len];simp);rw[hbn] at H HP;have e2:3+2*j+2=3+2*(j+1):=om;rw[e2] at H HP;have H:=H.as 6 (ii ((j+1:Nat):Int)) rfl rfl;refine⟨_,?_,j+1,bn,c_11,rfl,H.keep kr,HP.t1,om⟩;omega
 have g23p:=of_decide_eq_false g23;refine wp_exit<|then_exit<|then_exit<|w_exit_here<|zt<|H.gn HP 1 [(41,(sB bl (3+2*j) cl))] fun a H=>H.cb HP 42 (Tryz.call207 _ _) (by have hh:=rnumbers_any bl cl ([s,f,(al.length:Int)]++flatA al) w_6 (by have q:=ownR_rd (HP.held 0 rfl);rw[ints_len] at q;rw[show j=al.length from om,List.take_length] at q;exact q) hIn (by simp[flatA_len];omega) (by have q:=(ownR_facts (HP.held 0 rfl)).2.1;simp[flatA_len];omega);rw[show ([s,f,(al.length:Int)]++flatA al).length=3+2*j by simp[flatA_len];omega] at hh;exact hh) fun w_13 hb a H HP=>H.gz HP [(2,(sS (encOpt s f al))),(3,zO)] fun a H=>zrt<|H.ret2 (fn:=Tryz.f196) Tryz.results196 (RV.tmp_ (v:=(sS (encOpt s f al))) kr) (RV.tmp_ (v:=zO) kr) ?_;exact⟨rfl,HP.bl⟩
end Go.Proofs.YthpbaaadkhdifaaGreatDoor
