/- Part 4 of the proofs: SpA, SpB, SpC, SpD, SymO, SymN, SymL, SymVc, SeM, SeA, SeB, SeC, SeD, SeE, SeF, SeG, SymI, SymJ, SeN, SeH, SeI, PlA, PlB, SymM. -/
import Derived.Shelf.RegionOpen
import Derived.Deep.RegionHeld3
import Derived.Deep.RegionWith
import Derived.WalkLawsBesides
import Derived.Laws.MakeOwn
import Derived.MapFrom
import Derived.Test.YthpbaaadkhdifaaGreatDoorZoc
namespace Go.Proofs.YthpbaaadkhdifaaGreatDoor
set_option maxRecDepth 100000
set_option maxHeartbeats 4000000
open Go.ChangeShapes Go.WideShapes Go.ChangeAt Go.RowKit
set_option linter.unusedVariables false
section
variable {α:Type}{k:Nat}{cs:α→Array Value}
abbrev rowCells (cs:α→Array Value) (l:List α):List Value:=l.flatMap fun e=>(cs e).toList
theorem rowCells_get (hk:∀e,(cs e).size=k) (l:List α) (i j:Nat) (h:i<l.length) (hj:j<k):(rowCells cs l)[i*k+j]? =(cs l[i])[j]? :=by
  induction l generalizing i with
  |nil=>simp at h
  |cons a l ih=>
    have ha:=hk a;cases i with
    |zero=>simp only[rowCells,List.flatMap_cons,Nat.zero_mul,Nat.zero_add];rw[List.getElem?_append_left (by simpa [ha] using hj)];simp
    |succ i=>
      have:=ih i (by simpa using h);rw[show (i+1)*k+j=(i*k+j)+k by rw[Nat.succ_mul];omega];simp only[rowCells,List.flatMap_cons];rw[List.getElem?_append_right (by simp[ha])];simpa [ha] using this
def IsRw (k:Nat) (cs:α→Array Value) (w:World) (A:Option Addr) (n:Nat) (l:List α):Prop:=l.length=n∧Rd w k A n (rowCells cs l)
theorem IsRw.below {w w':World}{A:Option Addr}{n:Nat}{l:List α}(h:IsRw k cs w A n l) (hb:Below w.heap.size w w'):IsRw k cs w' A n l:=⟨h.1,h.2.below hb⟩
theorem IsRw.nil (w:World) (A:Option Addr):IsRw k cs w A 0 []:=⟨rfl,Rd.nil _ _ _⟩
theorem IsRw.at_ (hk:∀e,(cs e).size=k) {w:World}{A:Option Addr}{n:Nat}{l:List α}(h:IsRw k cs w A n l) {i:Nat}(hi:i<n):
    ∃b off e,A=some ⟨b,off,none⟩∧b<w.heap.size∧l[i]? =some e∧∀j v,(cs e)[j]? =some v→w.cell? ⟨b,off+(i*k+j),none⟩=some v:=by
  obtain⟨h1,h2,h3⟩:=h;have hl:i<l.length:=om;have h0:0<n:=om;obtain⟨b,off,rfl,hb,hc⟩:=h3.resolve_left om;refine⟨b,off,l[i],rfl,hb,List.getElem?_eq_getElem hl,fun j v hv=>?_⟩;have hj:j<k:=by
    have:=(Array.getElem?_eq_some_iff.1 hv).1;rwa [hk] at this
  have hm:i*k+j<n*k:=by
    have:(i+1)*k≤n*k:=Nat.mul_le_mul_right _ om;rw[Nat.succ_mul] at this;omega
  rw[hc (i*k+j) hm,rowCells_get hk l i j hl hj,hv]
theorem rowCells_take (hk:∀e,(cs e).size=k) (l:List α) (j:Nat):(rowCells cs l).take (j*k)=rowCells cs (l.take j):=by
  induction l generalizing j with
  |nil=>simp
  |cons a l ih=>
    cases j with
    |zero=>simp
    |succ j=>
      simp only[rowCells,List.flatMap_cons,List.take_succ_cons] at *;rw[List.take_append,←ih j,Array.length_toList,hk,Nat.succ_mul,Nat.add_sub_cancel,List.take_of_length_le (by rw[Array.length_toList,hk];omega)]
theorem IsRw.take (hk:∀e,(cs e).size=k) {w:World}{A:Option Addr}{n:Nat}{l:List α}(h:IsRw k cs w A n l) {j:Nat}(hj:j≤n):IsRw k cs w A j (l.take j):=by
  refine⟨by rw[List.length_take,h.1];omega,?_⟩;rw[←rowCells_take hk];exact h.2.take hj
def Off (b:Nat) (A:Option Addr):Prop:=∀b' off,A=some ⟨b',off,none⟩→b'≠b
theorem Rd.grown {w w':World}{size:Nat}{A:Option Addr}{n:Nat}{xs:List Value}(h:Rd w size A n xs) {b:Nat}(hg:w.grownBy w' (some b)) (hb:Off b A):Rd w' size A n xs:=by
  obtain⟨h1,h2⟩:=h;refine⟨h1,?_⟩;rcases h2 with h2|⟨b',off,rfl,hlt,hc⟩
  · exact .inl h2
  · have hne:=hb b' off rfl;have hbk:=hg.block b' hlt (fun e=>hne (Option.some.inj e));refine .inr ⟨b',off,rfl,?_,fun j hj=>?_⟩
    · exact Nat.lt_of_lt_of_le hlt hg.size
    · rw[←hc j hj];exact World.cell?_of_block hbk
theorem IsRw.grown {w w':World}{A:Option Addr}{n:Nat}{l:List α}(h:IsRw k cs w A n l) {b:Nat}(hg:w.grownBy w' (some b)) (hb:Off b A):IsRw k cs w' A n l:=⟨h.1,h.2.grown hg hb⟩
end
structure PicA where
  key:Bool
  data:ByteArray
  power:Int
abbrev PicA.cells (p:PicA):Array Value:=#[.bool p.key,.string p.data,.int .i64 p.power]
abbrev PicA.val (p:PicA):Value:=.agg p.cells
def picZ:PicA:=⟨false,.empty,0⟩
theorem PicA.cells_size (p:PicA):p.cells.size=3:=rfl
abbrev IsPics (w:World) (A:Option Addr) (n:Nat) (l:List PicA):Prop:=IsRw 3 PicA.cells w A n l
theorem IsPics.get {w:World}{A:Option Addr}{n:Nat}{l:List PicA}(h:IsPics w A n l) {i:Nat}(hi:i<n):
    ∃b off,A=some ⟨b,off,none⟩∧b<w.heap.size∧w.cell? ⟨b,off+i*3,none⟩=some (.bool (l.getD i picZ).key)∧w.cell? ⟨b,off+i*3+1,none⟩=some (.string (l.getD i picZ).data)∧w.cell? ⟨b,off+i*3+2,none⟩=some (.int .i64 (l.getD i picZ).power):=by
  obtain⟨b,off,e,rfl,hb,he,hc⟩:=IsRw.at_ PicA.cells_size h hi;rw[show l.getD i picZ=e by simp[List.getD,he]];exact⟨b,off,rfl,hb,hc 0 _ rfl,hc 1 _ rfl,hc 2 _ rfl⟩
structure AstA where
  item:Int
  A:Option Addr
  c:Nat
  pics:List PicA
abbrev AstA.cells (a:AstA):Array Value:=#[.int .i64 a.item,.slice a.A a.pics.length a.c]
abbrev AstA.val (a:AstA):Value:=.agg a.cells
theorem AstA.cells_size (a:AstA):a.cells.size=2:=rfl
def AstA.ok (w:World) (a:AstA):Prop:=IsPics w a.A a.pics.length a.pics∧a.pics.length≤a.c∧a.c≤maxLen∧(a.A=none→a.c=0)∧True
def astZ:AstA:=⟨0,none,0,[]⟩
def IsAsts (w:World) (A:Option Addr) (n:Nat) (l:List AstA):Prop:=IsRw 2 AstA.cells w A n l∧∀a∈l,a.ok w
theorem AstA.ok.below {w w':World}{a:AstA}(h:a.ok w) (hb:Below w.heap.size w w'):a.ok w':=⟨h.1.below hb,h.2⟩
theorem IsAsts.below {w w':World}{A:Option Addr}{n:Nat}{l:List AstA}(h:IsAsts w A n l) (hb:Below w.heap.size w w'):IsAsts w' A n l:=⟨h.1.below hb,fun e he=>(h.2 e he).below hb⟩
theorem IsAsts.get {w:World}{A:Option Addr}{n:Nat}{l:List AstA}(h:IsAsts w A n l) {i:Nat}(hi:i<n):
    ∃b off,A=some ⟨b,off,none⟩∧b<w.heap.size∧w.cell? ⟨b,off+i*2,none⟩=some (.int .i64 (l.getD i astZ).item)∧w.cell? ⟨b,off+i*2+1,none⟩=some (.slice (l.getD i astZ).A (l.getD i astZ).pics.length (l.getD i astZ).c)∧(l.getD i astZ).ok w∧l.getD i astZ∈l:=by
  obtain⟨b,off,e,rfl,hb,he,hc⟩:=IsRw.at_ AstA.cells_size h.1 hi;have hm:e∈l:=List.mem_of_getElem? he;rw[show l.getD i astZ=e by simp[List.getD,he]];exact⟨b,off,rfl,hb,hc 0 _ rfl,hc 1 _ rfl,h.2 e hm,hm⟩
theorem drop_at {α:Type}{l:List α}{k:Nat}{d:α}(hk:k<l.length):l.drop k=l.getD k d::l.drop (k+1):=by
  rw[List.drop_eq_getElem_cons hk];simp[List.getD,List.getElem?_eq_getElem hk]
theorem take_at {α:Type}{l:List α}{k:Nat}{d:α}(hk:k<l.length):l.take (k+1)=l.take k++[l.getD k d]:=by
  rw[List.take_succ_eq_append_getElem hk];simp[List.getD,List.getElem?_eq_getElem hk]
def findA (i:Int):List AstA→Option AstA
  | []=>none
  |a::l=>if a.item=i then some a else findA i l
abbrev findV (r:Option AstA):Value:=.tuple #[((r.getD astZ).val),.bool r.isSome]
theorem findA_mem {i:Int}{l:List AstA}{a:AstA}(h:findA i l=some a):a∈l∧a.item=i:=by
  induction l with
  |nil=>simp[findA] at h
  |cons x l ih=>
    simp only[findA] at h;split at h
    · cases h;exact⟨List.mem_cons_self ..,by assumption⟩
    · exact⟨List.mem_cons_of_mem _ (ih h).1,(ih h).2⟩
theorem ret_ast {fn:Func}{R:Ending→World→Prop}{a:Act}{w:World}{p q:Tmp}{b:Nat}{t:TypeId}{v0 v1 v:Value}(hr:fn.results=#[.cell p 91,.tmp q]) (hp:a.tmps.getD p undef=.pointer (some ⟨b,0,none⟩)) (hq:a.tmps.getD q undef=v)
    (hb:Box w b t #[v0,v1]) (hd:a.defers=[]) (h:R (.returned (.tuple #[.agg #[v0,v1],v])) w):bodyPost Tryz.prog fn R .ret a w:=by
  have c0:=hb.cell (i:=0) rfl;have c1:=hb.cell (i:=1) rfl;refine bodyPost_ret (v:=.tuple #[.agg #[v0,v1],v]) ?_ hd h;rw[Array.getD_eq_getD_getElem?] at hp hq;simp[results,hr,hp,hq,go_sem,c0,c1]
set_option maxRecDepth 100000 in
set_option maxHeartbeats 2000000 in
theorem rfind_any (A:Option Addr) (n c:Nat) (l:List AstA) (it:Int) (w:World) (h:IsAsts w A n l) (hm:n≤maxLen):
    Calls Tryz.prog 133 #[.slice A n c,.int .i64 it] w fun e w'=>e=.returned (findV (findA it l))∧Below w.heap.size w w':=by
  have b0:=Lib.hid (balloc w (.cells #[.int .i64 0,.slice none 0 0] 91));have x0:=Lib.hid (Box.new w 91 #[.int .i64 0,.slice none 0 0]);have H:=Lib.hid (h.below b0.out);have hl:=h.1.1;have hm':n≤9223372036854775807:=hm;clear h;go_enter Tryz.func133,Tryz.ntmps133;go_wp2_with fail;go_loop [6] (fun i=>∃(k:Nat),k≤n∧i=.int .i64 k∧findA it l=findA it (l.drop k)) (fun i=>n-(intOf i).toNat)
  case atStart=>exact⟨0,Nat.zero_le _,rfl,rfl⟩
  case round=>
    obtain⟨k,hk,rfl,hst⟩:=hrel;have HST:=Lib.hid hst;clear hst;by_cases hlt:k<n
    · obtain⟨b,off,rfl,hbl,ca,cb,hok,_⟩:=H.out.get hlt;rw[drop_at (d:=astZ) om] at HST;have hok':=Lib.hid hok;clear hok;generalize l.getD k astZ=a at *;obtain⟨x,AA,cc,pp⟩:=a;simp only at ca cb;by_cases j1:x=it
      · subst j1;go_wp2_with fail;refine ret_ast (b:=w.heap.size) rfl rfl rfl (Box.new _ _ _) rfl ?_;refine⟨?_,?_⟩
        · rw[HST.out];simp[findA]
        · exact balloc _ _
      have j1':(x == it)=false:=by simpa using j1
      go_wp2_with fail;go_round
      case rel=>exact⟨k+1,om,by go_num,by rw[HST.out];simp[findA,j1]⟩
      case measure=>simp[intOf];omega
    · go_wp2_with fail;refine ret_ast (b:=w.heap.size) rfl rfl rfl (Box.new _ _ _) rfl ?_;refine⟨?_,?_⟩
      · rw[HST.out,List.drop_of_length_le om];simp[findA,astZ]
      · exact balloc _ _
abbrev sizesP (l:List PicA):List Int:=l.map fun p=>(p.data.size:Int)
theorem infoInt:(Tryz.prog.info? 3).map (fun i=>(i.zero,i.size,i.bytes))=some (some (.int .i64 0),1,8):=kr
theorem infoInt':∃i,Tryz.prog.info? 3=some i∧i.zero=some (.int .i64 0)∧i.size=1∧i.bytes=8:=by
  have hf:=infoInt;cases hh:Tryz.prog.info? 3 with
  |none=>rw[hh] at hf;cases hf
  |some i=>
    rw[hh] at hf;simp only[Option.map_some,Option.some.injEq,Prod.mk.injEq] at hf;exact⟨i,rfl,hf⟩
set_option maxRecDepth 100000 in
set_option maxHeartbeats 2000000 in
theorem rsizes_any (it:Int) (A:Option Addr) (n c:Nat) (l:List PicA) (w:World) (h:IsPics w A n l) (hm:n≤2000000):
    Calls Tryz.prog 134 #[.agg #[.int .i64 it,.slice A n c]] w fun e w'=>RetInts (sizesP l) w e w':=by
  have b0:=Lib.hid (balloc w (.cells #[.int .i64 it,.slice A n c] 91));have H:=Lib.hid h;have hl:=h.1;clear h;obtain⟨i0,hi0,hz0,hz1,hz2⟩:=infoInt';go_enter Tryz.func134,Tryz.ntmps134;go_wp2_with fail;go_loopw [3,4] (fun s i wr=>∃(k:Nat) (B:Option Addr) (d:Nat),k≤n∧i=.int .i64 k∧s=.slice B k d∧wr.ownsRow (w.heap.size+1) 3 1 (.slice B k d) k (ints (sizesP (l.take k)))∧Below w.heap.size w wr∧Box wr w.heap.size 91 #[.int .i64 it,.slice A n c]) (fun _ i _=>n-(intOf i).toNat)
  case atStart=>exact⟨0,none,0,Nat.zero_le _,rfl,rfl,World.ownsRow_nil _ _ _ _,b0.out,Box.new _ _ _⟩
  case round=>
    obtain⟨k,B,d,hk,rfl,rfl,hown,hB,hx⟩:=hrel;have HO:=Lib.hid hown;have HX:=Lib.hid hx;have c1:=hx.cell (i:=1) rfl;have hlx:=hx.lt;clear hown hx;by_cases hlt:k<n
    · obtain⟨b,off,rfl,hbl,p0,p1,p2⟩:=IsPics.get (IsRw.below H.out hB) hlt;have HT:Hid (ints (sizesP (l.take (k+1)))=ints (sizesP (l.take k))++ints [((l.getD k picZ).data.size:Int)]):=Lib.hid (by rw[take_at (d:=picZ) om];simp);generalize l.getD k picZ=p at *;obtain⟨ky,S,pw⟩:=p;simp only at p0 p1 p2 HT;have HN:Hid (Rd (wr.alloc (Obj.cells #[.int .i64 (S.size:Int)] 3)) 1 (some ⟨wr.heap.size,0,none⟩) 1 (ints [(S.size:Int)])):=Lib.hid (ofInts (isInts_new wr 3 [(S.size:Int)] (by simp[maxLen])));have HOa:=Lib.hid (HO.out.alloc (Obj.cells #[.int .i64 (S.size:Int)] 3));have HBa:=Lib.hid (hB.alloc hB.size (Obj.cells #[.int .i64 (S.size:Int)] 3));have HXa:=Lib.hid (HX.out.next (balloc wr (Obj.cells #[.int .i64 (S.size:Int)] 3)))
      go_wp2_with (at_builtin;refine wpList_append_rd (wr.alloc (Obj.cells #[.int .i64 (S.size:Int)] 3)) rfl (.tmp 12) (.tmp 20) 22 rfl (w.heap.size+1) 3 i0 (.int .i64 0) 1 8 Tryz.underlying22 hi0 hz0 hz1 hz2 rfl (by decide) (.slice B k d) k (ints (sizesP (l.take k))) rfl HOa.out _ 1 _ (ints [(S.size:Int)]) rfl (fun e=>by cases e) HN.out (ints_ones _) (by unfold maxLen;omega) om (by simp;omega) ?_;intro B1 c1 w4 hown1 hgrow1 hat1;have Hb1:=Lib.hid (HBa.out.grown hgrow1 HBa.out.size (fun k e=>Nat.le_trans (Nat.le_add_right _ _) (own_ge HOa.out k e)));have Hx1:=Lib.hid (HXa.out.grown hgrow1 (fun e=>by have:=own_ge HOa.out _ e;omega));have Hown1:=Lib.hid hown1;clear hown1 hgrow1 hat1);go_roundw
      case rel=>exact⟨k+1,B1,c1,om,by go_num,rfl,by rw[HT.out];exact Hown1.out,Hb1.out,Hx1.out⟩
      case measure=>simp[intOf];omega
    · obtain rfl:k=n:=om;go_wp2_with fail;go_ret;have ht:l.take k=l:=List.take_of_length_le om;have ho:=HO.out;rw[ht] at ho;have f:=own_facts ho;have hll:(sizesP l).length=k:=by simp[hl]
      unfold RetInts;rw[hll];exact⟨B,d,rfl,toInts (Rd.of_own ho),f.1,f.2.1,f.2.2,hB⟩
def picBad (p:PicA):Bool:=decide ((400:Int)<p.data.size)||(decide (p.power<0)||decide (1000000<p.power))
def validA (it:Int) (l:List PicA):Bool:=
  !(decide (it<1)||decide (4611686018427387903<it))&&(!(decide (l.length<1)||decide (2000<l.length))&&((l.getD 0 picZ).key&&l.all (fun p=>!picBad p)))
set_option maxRecDepth 100000 in
set_option maxHeartbeats 2000000 in
theorem rvalidA_any (it:Int) (A:Option Addr) (n c:Nat) (l:List PicA) (w:World) (h:IsPics w A n l) (hm:n≤maxLen):
    Calls Tryz.prog 40 #[.agg #[.int .i64 it,.slice A n c]] w fun e w'=>e=.returned (.bool (validA it l))∧Below w.heap.size w w':=by
  have b0:=Lib.hid (balloc w (.cells #[.int .i64 it,.slice A n c] 91));have H:=Lib.hid (IsRw.below h b0.out);have H0:=Lib.hid h;have hl:=h.1;have hm':n≤9223372036854775807:=hm;clear h;go_enter Tryz.func40,Tryz.ntmps40;by_cases h1:it<1
  · go_wp2_with fail;go_ret;exact⟨by simp[validA,hl,h1],b0.out⟩
  by_cases h2:4611686018427387903<it
  · go_wp2_with fail;go_ret;exact⟨by simp[validA,hl,h2],b0.out⟩
  by_cases h3:n<1
  · go_wp2_with fail;go_ret;exact⟨by simp[validA,hl,h3],b0.out⟩
  by_cases h4:2000<n
  · go_wp2_with fail;go_ret;exact⟨by simp[validA,hl,h4],b0.out⟩
  obtain⟨b,off,rfl,hbl,p0,p1,p2⟩:=IsPics.get H0.out (i:=0) om;simp only[Nat.zero_mul,Nat.add_zero] at p0 p1 p2;cases h5:(l.getD 0 picZ).key with
  |false=>
    have H5:=Lib.hid h5;rw[h5] at p0;clear h5;go_wp2_with fail;go_ret;exact⟨by simp[validA,H5.out,-List.getD_eq_getElem?_getD],b0.out⟩
  |true=>
    have HV:Hid (validA it l=l.all (fun p=>!picBad p)):=Lib.hid (by simp[validA,h5,hl,h1,h2,h3,h4,-List.getD_eq_getElem?_getD]);rw[h5] at p0;clear h5;go_wp2_with fail;go_loopw [3] (fun i wr=>∃(k:Nat),k≤n∧i=.int .i64 k∧l.all (fun p=>!picBad p)=(l.drop k).all (fun p=>!picBad p)∧Below w.heap.size w wr∧Below (w.heap.size+1) (w.alloc (.cells #[.int .i64 it,.slice (some ⟨b,off,none⟩) n c] 91)) wr) (fun i _=>n-(intOf i).toNat)
    case atStart=>exact⟨0,Nat.zero_le _,rfl,rfl,b0.out,Below.refl _ _⟩
    case round=>
      obtain⟨k,hk,rfl,hst,hB,hB1⟩:=hrel;have hB1':=hB1;rw[←World.size_alloc w (.cells #[.int .i64 it,.slice (some ⟨b,off,none⟩) n c] 91)] at hB1';have c0:=((Box.new w 91 #[.int .i64 it,.slice (some ⟨b,off,none⟩) n c]).next hB1').cell (i:=1) rfl;have hlx:=hB1.size;rw[World.size_alloc] at hlx;have HST:=Lib.hid hst;clear hst;by_cases hlt:k<n
      · obtain⟨b',off',hbo,hbl',q0,q1,q2⟩:=IsPics.get (IsRw.below H.out hB1') hlt;cases hbo
        rw[drop_at (d:=picZ) om] at HST;generalize l.getD k picZ=p at *;obtain⟨ky,S,pw⟩:=p;simp only at q0 q1 q2;by_cases j1:(400:Int)<S.size
        · go_wp2_with fail;go_ret;exact⟨by rw[HV.out,HST.out];simp[picBad,j1],(hB.alloc hB.size _)⟩
        by_cases j2:pw<0
        · go_wp2_with fail;go_ret;exact⟨by rw[HV.out,HST.out];simp[picBad,j2],(hB.alloc hB.size _)⟩
        by_cases j3:1000000<pw
        · go_wp2_with fail;go_ret;exact⟨by rw[HV.out,HST.out];simp[picBad,j3],(hB.alloc hB.size _)⟩
        go_wp2_with fail;go_roundw
        case rel=>exact⟨k+1,om,by go_num,by rw[HST.out];simp[picBad,j1,j2,j3],(hB.alloc hB.size _),(hB1.alloc hlx _)⟩
        case measure=>simp[intOf];omega
      · go_wp2_with fail;go_ret;exact⟨by rw[HV.out,HST.out,List.drop_of_length_le om];rfl,hB⟩
set_option maxRecDepth 100000 in
set_option maxHeartbeats 2000000 in
theorem mvalid_any (it:Int) (A:Option Addr) (n c:Nat) (l:List PicA) (w:World) (h:IsPics w A n l) (hm:n≤maxLen):
    Calls Tryz.prog 37 #[.agg #[.int .i64 it,.slice A n c]] w fun e w'=>e=.returned (.bool (validA it l))∧Below w.heap.size w w':=by
  have b0:=Lib.hid (balloc w (.cells #[.int .i64 it,.slice A n c] 91));have H:=Lib.hid (IsRw.below h b0.out);have H0:=Lib.hid h;have hl:=h.1;have hm':n≤9223372036854775807:=hm;clear h;go_enter Tryz.func37,Tryz.ntmps37;by_cases h1:it<1
  · go_wp2_with fail;go_ret;exact⟨by simp[validA,hl,h1],b0.out⟩
  by_cases h2:4611686018427387903<it
  · go_wp2_with fail;go_ret;exact⟨by simp[validA,hl,h2],b0.out⟩
  by_cases h3:n<1
  · go_wp2_with fail;go_ret;exact⟨by simp[validA,hl,h3],b0.out⟩
  by_cases h4:2000<n
  · go_wp2_with fail;go_ret;exact⟨by simp[validA,hl,h4],b0.out⟩
  obtain⟨b,off,rfl,hbl,p0,p1,p2⟩:=IsPics.get H0.out (i:=0) om;simp only[Nat.zero_mul,Nat.add_zero] at p0 p1 p2;cases h5:(l.getD 0 picZ).key with
  |false=>
    have H5:=Lib.hid h5;rw[h5] at p0;clear h5;go_wp2_with fail;go_ret;exact⟨by simp[validA,H5.out,-List.getD_eq_getElem?_getD],b0.out⟩
  |true=>
    have HV:Hid (validA it l=l.all (fun p=>!picBad p)):=Lib.hid (by simp[validA,h5,hl,h1,h2,h3,h4,-List.getD_eq_getElem?_getD]);rw[h5] at p0;clear h5;go_wp2_with fail;go_loopw [34] (fun i wr=>∃(k:Nat),k≤n∧i=.int .i64 k∧l.all (fun p=>!picBad p)=(l.drop k).all (fun p=>!picBad p)∧Below w.heap.size w wr∧Below (w.heap.size+1) (w.alloc (.cells #[.int .i64 it,.slice (some ⟨b,off,none⟩) n c] 91)) wr) (fun i _=>n-(intOf i).toNat)
    case atStart=>exact⟨0,Nat.zero_le _,rfl,rfl,b0.out,Below.refl _ _⟩
    case round=>
      obtain⟨k,hk,rfl,hst,hB,hB1⟩:=hrel;have hB1':=hB1;rw[←World.size_alloc w (.cells #[.int .i64 it,.slice (some ⟨b,off,none⟩) n c] 91)] at hB1';have c0:=((Box.new w 91 #[.int .i64 it,.slice (some ⟨b,off,none⟩) n c]).next hB1').cell (i:=1) rfl;have hlx:=hB1.size;rw[World.size_alloc] at hlx;have HST:=Lib.hid hst;clear hst;by_cases hlt:k<n
      · obtain⟨b',off',hbo,hbl',q0,q1,q2⟩:=IsPics.get (IsRw.below H.out hB1') hlt;cases hbo
        rw[drop_at (d:=picZ) om] at HST;generalize l.getD k picZ=p at *;obtain⟨ky,S,pw⟩:=p;simp only at q0 q1 q2;by_cases j1:(400:Int)<S.size
        · go_wp2_with fail;go_ret;exact⟨by rw[HV.out,HST.out];simp[picBad,j1],(hB.alloc hB.size _)⟩
        by_cases j2:pw<0
        · go_wp2_with fail;go_ret;exact⟨by rw[HV.out,HST.out];simp[picBad,j2],(hB.alloc hB.size _)⟩
        by_cases j3:1000000<pw
        · go_wp2_with fail;go_ret;exact⟨by rw[HV.out,HST.out];simp[picBad,j3],(hB.alloc hB.size _)⟩
        go_wp2_with fail;go_roundw
        case rel=>exact⟨k+1,om,by go_num,by rw[HST.out];simp[picBad,j1,j2,j3],(hB.alloc hB.size _),(hB1.alloc hlx _)⟩
        case measure=>simp[intOf];omega
      · go_wp2_with fail;go_ret;exact⟨by rw[HV.out,HST.out,List.drop_of_length_le om];rfl,hB⟩
theorem Rd.set {w:World}{size:Nat}{A:Option Addr}{n:Nat}{xs:List Value}(h:Rd w size A n xs) {b i:Nat}(v:Value) (hb:∀b' off,A=some ⟨b',off,none⟩→b<b'):Rd (w.setCell ⟨b,i,none⟩ v) size A n xs:=by
  obtain⟨h1,h2⟩:=h;refine⟨h1,?_⟩;rcases h2 with h2|⟨b',off,rfl,hlt,hc⟩
  · exact .inl h2
  · have hne:=hb b' off rfl;refine .inr ⟨b',off,rfl,by simpa [World.setCell] using hlt,fun j hj=>?_⟩;rw[←hc j hj];exact World.cell?_of_block (Below.heap_setCell w ⟨b,i,none⟩ v b' (by show b'≠b;omega))
set_option maxRecDepth 100000 in
theorem find1_any (x it:Int) (A:Option Addr) (n c q:Nat) (w:World) (hq:w.cell? ⟨q,0,none⟩=some (.int .i64 it)):
    Calls Tryz.prog 75 #[.agg #[.int .i64 x,.slice A n c],.pointer (some ⟨q,0,none⟩)] w fun e w'=>e=.returned (.bool (x == it))∧Below w.heap.size w w':=by
  have b0:=Lib.hid (balloc w (.cells #[.int .i64 x,.slice A n c] 91));have hql:=World.block_lt_of_cell? w _ hq;simp only at hql;go_enter Tryz.func75,Tryz.ntmps75;go_wp2_with fail;go_ret;exact⟨rfl,b0.out⟩
set_option maxRecDepth 100000 in
set_option maxHeartbeats 2000000 in
theorem idxA_any (A:Option Addr) (n c:Nat) (l:List AstA) (it:Int) (q:Nat) (w:World) (h:IsAsts w A n l) (hm:n≤maxLen) (hq:w.cell? ⟨q,0,none⟩=some (.int .i64 it)):
    Calls Tryz.prog 74 #[.slice A n c,.func (.func 75) #[] #[.pointer (some ⟨q,0,none⟩)]] w fun e w'=>
      ((e=.returned (.int .i64 (-1))∧findA it l=none)∨∃k,k<n∧e=.returned (.int .i64 (k:Nat))∧findA it l=some (l.getD k astZ))∧Below w.heap.size w w':=by
  have H:=Lib.hid h;have HQ:=Lib.hid hq;have hql:=World.block_lt_of_cell? w _ hq;simp only at hql;have hl:=h.1.1;have hm':n≤9223372036854775807:=hm;clear h hq;go_enter Tryz.func74,Tryz.ntmps74;go_wp2_with fail;go_loopw [8] (fun i wr=>∃(k:Nat),k≤n∧i=.int .i64 k∧findA it l=findA it (l.drop k)∧Below w.heap.size w wr) (fun i _=>n-(intOf i).toNat)
  case atStart=>exact⟨0,Nat.zero_le _,rfl,rfl,Below.refl _ _⟩
  case round=>
    obtain⟨k,hk,rfl,hst,hB⟩:=hrel;have HST:=Lib.hid hst;clear hst;by_cases hlt:k<n
    · obtain⟨b,off,rfl,hbl,ca,cb,hok,hmem⟩:=(H.out.below hB).get hlt;rw[drop_at (d:=astZ) om] at HST;have HE:Hid (∀a,l.getD k astZ=a→l.getD k astZ=a):=Lib.hid (fun _ e=>e);clear hok hmem;generalize hga:l.getD k astZ=a at *;have HGA:=Lib.hid hga;clear hga HE;obtain⟨x,AA,cc,pp⟩:=a;simp only at ca cb;have hcl:=find1_any x it AA pp.length cc q wr ((hB.cell (p:=⟨q,0,none⟩) hql).trans HQ.out);have HCL:=Lib.hid hcl;clear hcl;by_cases j1:x=it
      · subst j1;go_wp2_with (go_at_call 75;refine HCL.out.mono ?_;rintro e w2 ⟨rfl,b2⟩;simp only[beq_self_eq_true]);go_ret;exact⟨.inr ⟨k,hlt,rfl,by rw[HST.out,HGA.out];simp[findA]⟩,bnext hB b2⟩
      · have j1':(x == it)=false:=by simpa using j1
        go_wp2_with (go_at_call 75;refine HCL.out.mono ?_;rintro e w2 ⟨rfl,b2⟩;rw[j1']);go_roundw
        case rel=>exact⟨k+1,om,by go_num,by rw[HST.out];simp[findA,j1],bnext hB b2⟩
        case measure=>simp[intOf];omega
    · go_wp2_with fail;go_ret;exact⟨.inl ⟨rfl,by rw[HST.out,List.drop_of_length_le om];rfl⟩,hB⟩
theorem infoPic:(Tryz.prog.info? 96).map (fun i=>(i.zero,i.size,i.bytes))=some (some (.agg #[.bool false,.string .empty,.int .i64 0]),3,32):=kr
theorem infoPic':∃i,Tryz.prog.info? 96=some i∧i.zero=some (.agg #[.bool false,.string .empty,.int .i64 0])∧i.size=3∧i.bytes=32:=by
  have hf:=infoPic;cases hh:Tryz.prog.info? 96 with
  |none=>rw[hh] at hf;cases hf
  |some i=>
    rw[hh] at hf;simp only[Option.map_some,Option.some.injEq,Prod.mk.injEq] at hf;exact⟨i,rfl,hf⟩
theorem pics_ones (l:List PicA):∀u∈rowCells PicA.cells l,u.oneCell'=true:=by
  intro u hu;simp only[List.mem_flatMap] at hu;obtain⟨a,_,hu⟩:=hu;simp only[List.mem_cons,List.not_mem_nil,or_false] at hu;rcases hu with rfl|rfl|rfl<;>rfl
def RetFind (r:Option AstA) (w:World) (e:Ending) (w':World):Prop:=
  ∃B c,e=.returned (.tuple #[.agg #[.int .i64 (r.getD astZ).item,.slice B (r.getD astZ).pics.length c],.bool r.isSome])∧IsPics w' B (r.getD astZ).pics.length (r.getD astZ).pics∧(r.getD astZ).pics.length≤c∧c≤maxLen∧(B=none→c=0)∧Below w.heap.size w w'∧(∀b off,B=some ⟨b,off,none⟩→w.heap.size≤b)
set_option maxRecDepth 100000 in
set_option maxHeartbeats 2000000 in
theorem mfind_any (A:Option Addr) (n c:Nat) (l:List AstA) (it:Int) (w:World) (h:IsAsts w A n l) (hm:n≤maxLen) (hp:∀a∈l,a.pics.length≤2000000):
    Calls Tryz.prog 43 #[.slice A n c,.int .i64 it] w fun e w'=>RetFind (findA it l) w e w':=by
  obtain⟨i0,hi0,hz0,hz1,hz2⟩:=infoPic';have l0:=balloc w (.cells #[.int .i64 it] 3);have L1:=Lib.hid (l0.alloc l0.size (.cells #[.int .i64 0,.slice none 0 0] 91));have X0:=Lib.hid ((Box.new w 3 #[.int .i64 it]).next (balloc _ (.cells #[.int .i64 0,.slice none 0 0] 91)));have X1:=Lib.hid (Box.new (w.alloc (.cells #[.int .i64 it] 3)) 91 #[.int .i64 0,.slice none 0 0]);rw[World.size_alloc] at X1;have HI:=Lib.hid (idxA_any A n c l it w.heap.size _ (h.below L1.out) hm (X0.out.cell (i:=0) rfl));have H:=Lib.hid h;have HP:=Lib.hid hp;have hl:=h.1.1;have hm':n≤9223372036854775807:=hm;clear h l0 hp;go_enter Tryz.func43,Tryz.ntmps43;go_wp2_with fail;refine HI.out.mono ?_;rintro e w1 ⟨hr,bw⟩;have hx0:=X0.out.next bw
  have hx1:=X1.out.next bw
  have B1:=Lib.hid (bnext L1.out bw);have e0:=hx0.cell (i:=0) rfl;have r0:=hx1.cell (i:=0) rfl;have r1:=hx1.cell (i:=1) rfl;have q0:=hx1.frozen 0;have q1:=hx1.frozen 1;have hlt0:=hx0.lt;have hlt1:=hx1.lt;have Y0:=Lib.hid hx0;have Y1:=Lib.hid hx1;clear hx0 hx1 HI;rcases hr with⟨rfl,hf⟩|⟨k,hk,rfl,hf⟩
  · have HF:=Lib.hid hf;clear hf;go_wp2_with fail;refine ret_ast (b:=w.heap.size+1) rfl rfl rfl (by simpa using (Y1.out.set (i:=0) (.int .i64 0)).set (i:=1) (.slice none 0 0)) rfl ?_;rw[HF.out];exact⟨none,0,rfl,IsRw.nil _ _,Nat.zero_le _,Nat.zero_le _,fun _=>rfl,(B1.out.setCell (by simp) _).setCell (by simp) _,fun _ _ e=>by cases e⟩
  · obtain⟨b,off,rfl,hbl,ca0,cb0,hok0,hmem⟩:=H.out.get hk;have hok:=hok0.below B1.out;have ca:=(B1.out.cell (p:=⟨b,off+k*2,none⟩) hbl).trans ca0;have cb:=(B1.out.cell (p:=⟨b,off+k*2+1,none⟩) hbl).trans cb0;clear ca0 cb0 hok0;have hfm:=(findA_mem hf).2;have hpl:=HP.out _ hmem;have HF:=Lib.hid hf;obtain⟨ok1,ok2,ok3,ok4,_⟩:=hok;have HR:=Lib.hid ok1.2;have HN:=Lib.hid ok4;clear hf hmem ok1 ok4;generalize l.getD k astZ=a at *;obtain⟨x,AA,cc,pp⟩:=a;simp only at ca cb hfm hpl ok2 ok3 HR HN;subst hfm;have hne1:b≠w.heap.size+1:=om;have hne2:w.heap.size≠w.heap.size+1:=om;have HNN:Hid (AA=none→pp.length=0∧cc=0):=Lib.hid (fun e=>by have:=HN.out e;omega);go_wp2_with fail;go_region_held3 (fun w'=>w'.cell? ⟨w.heap.size,0,none⟩=some (.int .i64 x)∧w'.cell? ⟨b,off+k*2+1,none⟩=some (.slice AA pp.length cc))
      (first
        |(exact⟨gx0,gx1⟩)
        |(exact⟨by rw[World.cell?_setCell_other _ _ _ _ (by simp),World.cell?_setCell_other _ _ _ _ (by simp)];exact gx0,by rw[World.cell?_setCell_other _ _ _ _ (by simp),World.cell?_setCell_other _ _ _ _ (by simp)];exact gx1⟩)
        |(refine⟨?_,?_⟩<;>go_keep))
      (first
        |(refine step_append_rd (w1.drew) rfl (.const (.slice none 0 0)) (.tmp 18) 89 rfl w1.heap.size 96 i0 (.agg #[.bool false,.string .empty,.int .i64 0]) 3 32 Tryz.underlying89 hi0 hz0 hz1 hz2 rfl (by decide) (.slice none 0 0) 0 [] rfl (World.ownsRow_nil _ _ _ _) AA pp.length cc (rowCells PicA.cells pp) rfl HNN.out (HR.out.below ((Below.refl _ _).drew)) (pics_ones _) (by unfold maxLen;omega) om (by simp) ?_;intro BB c1 w4 hown1 hgrow1 hat1;have gx0:w4.cell? ⟨w.heap.size,0,none⟩=some (.int .i64 x):=grown_cell hgrow1 (by go_keep) (by simp[Value.ownBlock]);have gx1:w4.cell? ⟨b,off+k*2+1,none⟩=some (.slice AA pp.length cc):=grown_cell hgrow1 (by go_keep) (by simp[Value.ownBlock]);have ga0:w4.cell? ⟨w.heap.size+1,0,none⟩=some (.int .i64 0):=grown_cell hgrow1 (by go_keep) (by simp[Value.ownBlock]);have gf0:w4.frozen? ⟨w.heap.size+1,0,none⟩=false:=(grown_frozen (v:=.int .i64 0) hgrow1 (by go_keep) (by simp[Value.ownBlock])).trans (by go_keep);have ga1:w4.cell? ⟨w.heap.size+1,1,none⟩=some (.slice none 0 0):=grown_cell hgrow1 (by go_keep) (by simp[Value.ownBlock]);have gf1:w4.frozen? ⟨w.heap.size+1,1,none⟩=false:=(grown_frozen (v:=.slice none 0 0) hgrow1 (by go_keep) (by simp[Value.ownBlock])).trans (by go_keep);have HG:=Lib.hid hgrow1;have HO:=Lib.hid hown1;clear hgrow1 hown1 hat1))
    go_wp2_with fail;simp only[Nat.zero_add,List.nil_append] at HO;have hb:Below w.heap.size w w4:=(B1.out.drew).grown HG.out B1.out.size (fun k e=>by cases e);have hx:Box w4 (w.heap.size+1) 91 #[.int .i64 0,.slice none 0 0]:=Box.grown (w:=w1.drew) Y1.out HG.out (by simp[Value.ownBlock]);have h6:∀b' o',BB=some ⟨b',o',none⟩→w.heap.size+1<b':=fun b' o' e=>Nat.lt_of_lt_of_le hlt1 (own_base HO.out b' o' e);refine ret_ast (b:=w.heap.size+1) rfl rfl rfl (by simpa using (hx.set (i:=0) (.int .i64 x)).set (i:=1) (.slice BB pp.length c1)) rfl ?_;rw[HF.out];have f:=own_facts HO.out;exact⟨BB,c1,rfl,⟨rfl,((Rd.of_own HO.out).set _ h6).set _ h6⟩,f.1,f.2.1,f.2.2,(hb.setCell (by simp) _).setCell (by simp) _,fun b' o' e=>by have:=h6 b' o' e;omega⟩
theorem own_empty (w:World) (t:TypeId) (size:Nat):(w.alloc (.cells #[] t)).ownsRow w.heap.size t size (.slice (some ⟨w.heap.size,0,none⟩) 0 0) 0 []:=
  ⟨by simp,.inr ⟨w.heap.size,0,#[],rfl,Nat.le_refl _,heap_alloc_new w _,Nat.le_refl _,Nat.zero_le _,by simp,by simp⟩⟩
set_option maxRecDepth 100000 in
set_option maxHeartbeats 1000000 in
theorem clone_any (A:Option Addr) (n c:Nat) (l:List PicA) (w:World) (h:IsPics w A n l) (hA:A=none→c=0) (hc:n≤c) (hm:n≤2000000):
    Calls Tryz.prog 38 #[.slice A n c] w fun e w'=>∃B d,e=.returned (.slice B n d)∧IsPics w' B n l∧n≤d∧d≤maxLen∧(B=none→d=0)∧Below w.heap.size w w'∧(∀b off,B=some ⟨b,off,none⟩→w.heap.size≤b):=by
  obtain⟨i0,hi0,hz0,hz1,hz2⟩:=infoPic';have hl:=h.1;have H:=Lib.hid (h.below (balloc w (.cells #[] 96))).2;have HO:=Lib.hid (own_empty w 96 3);have hB:=Lib.hid (balloc w (.cells #[] 96));have qT:∀(w:World) (a:Option Addr) (n c:Nat),(binOp .eql 89 (.slice a n c) (.slice none 0 0)).run Tryz.prog w=.ok (.bool a.isNone) w:=fun w a n c=>Lib.run_eql_slice_nil w 89 96 a n c 0 0 Tryz.underlying89;cases A with
  |none=>
    have:=hA rfl;subst this;obtain rfl:n=0:=om;have hl0:l=[]:=List.eq_nil_of_length_eq_zero hl;subst hl0;clear h;go_enter Tryz.func38,Tryz.ntmps38;go_wp2_with fail;go_ret;exact⟨none,0,rfl,IsRw.nil _ _,Nat.zero_le _,fun _=>rfl,Below.refl _ _,fun _ _ e=>by cases e⟩
  |some a=>
    clear h;go_enter Tryz.func38,Tryz.ntmps38;go_wp2_with (at_builtin;refine wpList_append_rd _ rfl (.tmp 5) (.tmp 6) 89 rfl w.heap.size 96 i0 (.agg #[.bool false,.string .empty,.int .i64 0]) 3 32 Tryz.underlying89 hi0 hz0 hz1 hz2 rfl (by decide) (.slice (some ⟨w.heap.size,0,none⟩) 0 0) 0 [] rfl HO.out (some a) n c (rowCells PicA.cells l) rfl (fun e=>by cases e) H.out (pics_ones _) (by unfold maxLen;omega) om (by simp) ?_;intro B1 c1 w4 hown1 hgrow1 hat1;have Hown1:=Lib.hid hown1;have Hg1:=Lib.hid hgrow1;clear hown1 hgrow1 hat1);go_ret;simp only[Nat.zero_add,List.nil_append] at Hown1;have f:=own_facts Hown1.out;exact⟨B1,c1,by simp,⟨hl,Rd.of_own Hown1.out⟩,f.1,f.2.1,f.2.2,hB.out.grown Hg1.out hB.out.size (own_ge HO.out),own_base Hown1.out⟩
set_option maxRecDepth 100000 in
theorem sizes1_any (p:PicA) (w:World):
    Calls Tryz.prog 55 #[p.val] w fun e w'=>e=.returned (.int .i64 (p.data.size:Int))∧Below w.heap.size w w':=by
  obtain⟨k,S,pw⟩:=p;have b0:=Lib.hid (balloc w (.cells #[.bool k,.string S,.int .i64 pw] 96));go_enter Tryz.func55,Tryz.ntmps55;go_wp2_with fail;go_ret;exact⟨rfl,b0.out⟩
set_option maxRecDepth 100000 in
set_option maxHeartbeats 2000000 in
theorem column_any (A:Option Addr) (n c:Nat) (l:List PicA) (w:World) (h:IsPics w A n l) (hm:n≤2000000):
    Calls Tryz.prog 54 #[.slice A n c,.func (.func 55) #[] #[]] w fun e w'=>RetInts (sizesP l) w e w':=by
  have H:=Lib.hid h;have hl:=h.1;clear h;obtain⟨i0,hi0,hz0,hz1,hz2⟩:=infoInt';obtain⟨w0,hr0,ho0,hg0⟩:=run_make_own (P:=Tryz.prog) w w.heap.size 22 3 i0 (.int .i64 0) 1 Tryz.underlying22 hi0 hz0 hz1 .i64 .i64 n (by rw[hz2];omega) (by unfold maxLen;omega) (Nat.le_refl _);have b0:=Lib.hid ((Below.refl w.heap.size w).grown hg0 (Nat.le_refl _) (fun k e=>by cases e));have o0:=Lib.hid ho0;clear ho0 hg0;go_enter Tryz.func54,Tryz.ntmps54;go_wp2_with fail;go_loopw [5,13] (fun s i wr=>∃(k:Nat) (B:Option Addr) (d:Nat),k≤n∧i=.int .i64 k∧s=.slice B k d∧wr.ownsRow w.heap.size 3 1 (.slice B k d) k (ints (sizesP (l.take k)))∧Below w.heap.size w wr) (fun _ i _=>n-(intOf i).toNat)
  case atStart=>exact⟨0,_,n,Nat.zero_le _,rfl,rfl,o0.out,b0.out⟩
  case round=>
    obtain⟨k,B,d,hk,rfl,rfl,hown,hB⟩:=hrel;have HO:=Lib.hid hown;clear hown;by_cases hlt:k<n
    · obtain⟨b,off,rfl,hbl,p0,p1,p2⟩:=IsPics.get (IsRw.below H.out hB) hlt;have HT:Hid (ints (sizesP (l.take (k+1)))=ints (sizesP (l.take k))++ints [((l.getD k picZ).data.size:Int)]):=Lib.hid (by rw[take_at (d:=picZ) om];simp);generalize l.getD k picZ=p at *;obtain⟨ky,S,pw⟩:=p;simp only at p0 p1 p2 HT;obtain⟨wa,hwa⟩:∃wa,wr.alloc (.cells #[.bool ky,.string S,.int .i64 pw] 96)=wa:=⟨_,rfl⟩;have hxa:Box wa wr.heap.size 96 #[.bool ky,.string S,.int .i64 pw]:=by rw[←hwa];exact Box.new _ _ _
      have hba:Below wr.heap.size wr wa:=by rw[←hwa];exact balloc _ _
      have a0:=hxa.cell (i:=0) rfl;have a1:=hxa.cell (i:=1) rfl;have a2:=hxa.cell (i:=2) rfl;have HBA:=Lib.hid hba;clear hxa hba;go_wp2_with (first
        |(go_at_call 55;refine(sizes1_any ⟨ky,S,pw⟩ _).mono ?_;rintro e w2 ⟨rfl,b2⟩;have HB2:=Lib.hid (bnext hB (bnext HBA.out b2));have HO2:=Lib.hid (own_below HO.out (bnext HBA.out b2));have HN:Hid (Rd (w2.alloc (Obj.cells #[.int .i64 (S.size:Int)] 3)) 1 (some ⟨w2.heap.size,0,none⟩) 1 (ints [(S.size:Int)])):=Lib.hid (ofInts (isInts_new w2 3 [(S.size:Int)] (by simp[maxLen])));have HOa:=Lib.hid (HO2.out.alloc (Obj.cells #[.int .i64 (S.size:Int)] 3));have HBa:=Lib.hid (HB2.out.alloc HB2.out.size (Obj.cells #[.int .i64 (S.size:Int)] 3));clear b2)
        |(at_builtin;refine wpList_append_rd (w2.alloc (Obj.cells #[.int .i64 (S.size:Int)] 3)) rfl (.tmp 17) (.tmp 21) 22 rfl w.heap.size 3 i0 (.int .i64 0) 1 8 Tryz.underlying22 hi0 hz0 hz1 hz2 rfl (by decide) (.slice B k d) k (ints (sizesP (l.take k))) rfl HOa.out _ 1 _ (ints [(S.size:Int)]) rfl (fun e=>by cases e) HN.out (ints_ones _) (by unfold maxLen;omega) om HBa.out.size ?_;intro B1 c1 w4 hown1 hgrow1 hat1;have Hb1:=Lib.hid (HBa.out.grown hgrow1 HBa.out.size (own_ge HOa.out));have Hown1:=Lib.hid hown1;clear hown1 hgrow1 hat1))
      go_roundw
      case rel=>exact⟨k+1,B1,c1,om,by go_num,rfl,by rw[HT.out];exact Hown1.out,Hb1.out⟩
      case measure=>simp[intOf];omega
    · obtain rfl:k=n:=om;go_wp2_with fail;go_ret;have ht:l.take k=l:=List.take_of_length_le om;have ho:=HO.out;rw[ht] at ho;have f:=own_facts ho;have hll:(sizesP l).length=k:=by simp[hl]
      unfold RetInts;rw[hll];exact⟨B,d,rfl,toInts (Rd.of_own ho),f.1,f.2.1,f.2.2,hB⟩
set_option maxRecDepth 100000 in
theorem msizes_any (it:Int) (A:Option Addr) (n c:Nat) (l:List PicA) (w:World) (h:IsPics w A n l) (hm:n≤2000000):
    Calls Tryz.prog 30 #[.agg #[.int .i64 it,.slice A n c]] w fun e w'=>RetInts (sizesP l) w e w':=by
  have b0:=Lib.hid (balloc w (.cells #[.int .i64 it,.slice A n c] 91));have H:=Lib.hid (IsRw.below h b0.out);clear h;go_enter Tryz.func30,Tryz.ntmps30;go_wp2_with fail;refine(column_any A n c l _ H.out hm).mono ?_;rintro e w1 ⟨B,d,rfl,h1,h2,h3,h4,b2⟩;go_wp2_with fail;go_ret;exact⟨B,d,by simp,h1,h2,h3,h4,bnext b0.out b2⟩
theorem Hp.ne {w0 w:World}{L:List HB}{K:List FK}(H:Hp w0 w L K) (i j:Nat) {b c t u:Nat}{vs us:List Value}{f f':Bool}(hi:L[i]? =some (bx b t vs f)) (hj:L[j]? =some (bx c u us f')) (hne:i≠j):b≠c:=fun e=>pairwise_at H.apart hi hj hne b rfl e
theorem Hp.same {w0 w:World}{L:List HB}{K:List FK}(H:Hp w0 w L K) (h:∀x∈L,x.fresh=true∨∀k,x.fp k→k<w0.heap.size→w.heap[k]? =w0.heap[k]?):Below w0.heap.size w0 w:=
  ⟨H.os,H.tape,H.output,H.size,fun k hk=>by
    by_cases hx:∃x∈L,x.fp k
    · obtain⟨x,hx,hf⟩:=hx
      rcases h x hx with h|h
      · have:=H.fresh x hx h k hf;omega
      · exact h k hf hk
    · exact H.old k hk fun x hx' hf=>hx ⟨x,hx',hf⟩⟩
theorem bx_same {w0 w:World}{b t:Nat}{vs:List Value}{f:Bool}(h0:Box w0 b t vs.toArray) (h:Box w b t vs.toArray):∀k,(bx b t vs f).fp k→k<w0.heap.size→w.heap[k]? =w0.heap[k]? :=fun k hk _=>by cases hk;exact h.trans h0.symm
set_option linter.unusedSimpArgs false
theorem Rd.lt {w:World}{size n j:Nat}{A:Option Addr}{xs:List Value}(h:Rd w size A n xs) (hj:rowFp n A j):j<w.heap.size:=by
  obtain⟨h1,h2⟩:=h;obtain⟨hn,off,rfl⟩:=hj;rcases h2 with h2|⟨b,o,he,hlt,_⟩
  · omega
  · cases he;exact hlt
abbrev okT {α:Type}:α→World→Prop:=fun _ _=>True
abbrev feF {α:Type}:α→Nat→Prop:=fun _ _=>False
section
variable {α:Type}{k:Nat}{cs:α→Array Value}
theorem flat_len (hk:∀e,(cs e).size=k) (l:List α):(flat cs l).length=l.length*k:=by
  induction l with
  |nil=>simp
  |cons a l ih=>simp only[flat,List.flatMap_cons,List.length_append,List.length_cons] at *;rw[ih,Array.length_toList,hk,Nat.succ_mul,Nat.add_comm]
theorem flat_get (hk:∀e,(cs e).size=k) (l:List α) (i j:Nat) (h:i<l.length) (hj:j<k):(flat cs l)[i*k+j]? =(cs l[i])[j]? :=by
  induction l generalizing i with
  |nil=>simp at h
  |cons a l ih=>
    have ha:=hk a;cases i with
    |zero=>simp only[flat,List.flatMap_cons,Nat.zero_mul,Nat.zero_add];rw[List.getElem?_append_left (by simpa [ha] using hj)];simp
    |succ i=>
      have:=ih i (by simpa using h);rw[show (i+1)*k+j=(i*k+j)+k by rw[Nat.succ_mul];omega];simp only[flat,List.flatMap_cons];rw[List.getElem?_append_right (by simp[ha])];simpa [ha] using this
def IsRow (k:Nat) (cs:α→Array Value) (w:World) (A:Option Addr) (l:List α):Prop:=Rd w k A l.length (flat cs l)
theorem IsRow.below {w w':World}{A:Option Addr}{l:List α}(h:IsRow k cs w A l) (hb:Below w.heap.size w w'):IsRow k cs w' A l:=Rd.below h hb
theorem IsRow.nil (w:World) (A:Option Addr):IsRow k cs w A []:=Rd.nil _ _ _
theorem drop_get {α:Type}{l:List α}{i:Nat}(h:i<l.length):l.drop i=l[i]::l.drop (i+1):=(List.getElem_cons_drop h).symm
theorem IsRow.get (hk:∀e,(cs e).size=k) {w:World}{A:Option Addr}{l:List α}(h:IsRow k cs w A l) {i:Nat}(hi:i<l.length):
    ∃b off x,A=some ⟨b,off,none⟩∧b<w.heap.size∧l.drop i=x::l.drop (i+1)∧l[i]? =some x∧x∈l∧cellsAt w b (off+i*k) (cs x).toList:=by
  obtain⟨h1,h3⟩:=h;obtain⟨b,off,rfl,hb,hc⟩:=h3.resolve_left om;refine⟨b,off,l[i],rfl,hb,drop_get hi,List.getElem?_eq_getElem hi,List.getElem_mem hi,fun j v hv=>?_⟩;have hj:j<k:=by
    have:=(List.getElem?_eq_some_iff.1 hv).1;rwa [Array.length_toList,hk] at this
  have hm:i*k+j<l.length*k:=by
    have:(i+1)*k≤l.length*k:=Nat.mul_le_mul_right _ om;rw[Nat.succ_mul] at this;omega
  rw[Nat.add_assoc,hc (i*k+j) hm,flat_get hk l i j hi hj];simpa using hv
theorem flat_take (hk:∀e,(cs e).size=k) (l:List α) (j:Nat):(flat cs l).take (j*k)=flat cs (l.take j):=by
  induction l generalizing j with
  |nil=>simp
  |cons a l ih=>
    cases j with
    |zero=>simp
    |succ j=>
      simp only[flat,List.flatMap_cons,List.take_succ_cons] at *;rw[List.take_append,←ih j,Array.length_toList,hk,Nat.succ_mul,Nat.add_sub_cancel,List.take_of_length_le (by rw[Array.length_toList,hk];omega)]
theorem IsRow.take (hk:∀e,(cs e).size=k) {w:World}{A:Option Addr}{l:List α}(h:IsRow k cs w A l) {j:Nat}(hj:j≤l.length):IsRow k cs w A (l.take j):=by
  unfold IsRow;rw[List.length_take,Nat.min_eq_left hj,←flat_take hk];exact Rd.take h hj
theorem IsRow.keep {w w':World}{A:Option Addr}{l:List α}(h:IsRow k cs w A l) (hk:∀b,rowFp l.length A b→w'.heap[b]? =w.heap[b]?) (hs:w.heap.size≤w'.heap.size):IsRow k cs w' A l:=Rd.keep h hk hs
theorem IsRow.lt {w:World}{A:Option Addr}{l:List α}(h:IsRow k cs w A l):∀b,rowFp l.length A b→b<w.heap.size:=fun b hb=>Rd.lt h hb
end
theorem ex_indexA {P:Program}{ρ:Operand→Value}{w:World}{t e:TypeId}{x y:Operand}{dst:Option Tmp}{ty:TypeId}{pos:String}{af:Array Edge}{g:Option (Nat×Bool)}{A:Option Addr}{b off len cap m k:Nat}{i:Int}{ik:IntKind}
    (hA:A=some ⟨b,off,none⟩) (hx:ρ x=.slice A len cap) (hy:ρ y=.int ik i) (hm:i=m) (hlt:m<len) (hu:P.underlying t=some (.slice e)) (hs:sizeB P e=some k):(execOp ρ ⟨dst,.indexAddr t x y,ty,pos,af,g⟩).run P w=.ok (.value (.pointer (some ⟨b,off+m*k,none⟩))) w:=by
  subst hA;exact ex_index hx hy hm hlt hu hs
theorem IsRow.cells {α:Type}{k:Nat}{cs:α→Array Value}(hk:∀e,(cs e).size=k) {w:World}{b off:Nat}{A:Option Addr}{l:List α}(h:IsRow k cs w A l) (hA:A=some ⟨b,off,none⟩) {i:Nat}{x:α}(hx:l[i]? =some x):cellsAt w b (off+i*k) (cs x).toList:=by
  subst hA;obtain⟨b',off',x',hA,_,_,hx',_,hc⟩:=h.get hk (i:=i) (List.getElem?_eq_some_iff.1 hx).1;cases hA
  rw[hx] at hx';cases hx'
  exact hc
def rowF {α:Type}(k:Nat) (cs:α→Array Value) (A:Option Addr) (l:List α):FK:=⟨rowFp l.length A,fun w=>IsRow k cs w A l⟩
theorem rowF_ok {α:Type}(k:Nat) (cs:α→Array Value) (A:Option Addr) (l:List α):(rowF k cs A l).ok:=fun _ _ h hk hs=>IsRow.keep h hk hs
section
variable {α:Type}{cs:α→Array Value}{size:Nat}
def dropA (A:Option Addr) (cap i sz:Nat):Option Addr:=if cap=i then A else A.map (·.add (i*sz))
theorem flat_drop (hk:∀x,(cs x).size=size) (l:List α) (j:Nat):(flat cs l).drop (j*size)=flat cs (l.drop j):=by
  induction l generalizing j with
  |nil=>simp
  |cons a l ih=>
    cases j with
    |zero=>simp
    |succ j=>
      simp only[flat,List.flatMap_cons,List.drop_succ_cons] at *;rw[List.drop_append,←ih j,Array.length_toList,hk,Nat.succ_mul,Nat.add_sub_cancel,List.drop_of_length_le (by rw[Array.length_toList,hk];omega),List.nil_append]
theorem IsRow.dropA (hk:∀x,(cs x).size=size) {w:World}{A:Option Addr}{l:List α}{cap i:Nat}(h:IsRow size cs w A l) (hc:l.length≤cap) (hi:i≤l.length):Rd w size (dropA A cap i size) (l.length-i) (flat cs (l.drop i)):=by
  obtain⟨h1,h2⟩:=h;refine⟨by rw[flat_len hk,List.length_drop],?_⟩;by_cases hz:l.length-i=0
  · exact .inl hz
  · obtain⟨b,off,rfl,hb,hcell⟩:=h2.resolve_left om;refine .inr ⟨b,off+i*size,?_,hb,fun j hj=>?_⟩
    · unfold Proofs.YthpbaaadkhdifaaGreatDoor.dropA;rw[if_neg om,Option.map_some,add_plain]
    · rw[Nat.add_assoc,hcell (i*size+j) (by rw[Nat.sub_mul] at hj;omega),←flat_drop hk,List.getElem?_drop]
end
section
variable {P:Program}{ρ:Operand→Value}{w:World}{t e:TypeId}{x y:Operand}{dst:Option Tmp}{ty:TypeId}{pos:String}{af:Array Edge}{g:Option (Nat×Bool)}
theorem ex_sliceLo {A:Option Addr}{len cap i sz:Nat}{lo:Int}(hx:ρ x=.slice A len cap) (hy:ρ y=.int .i64 lo) (hu:P.underlying t=some (.slice (P.elem t))) (hs:sizeB P (P.elem t)=some sz) (h1:lo=(i:Int)) (h2:i≤len):
    (execOp ρ ⟨dst,.slice t x (some y) none none,ty,pos,af,g⟩).run P w=.ok (.value (.slice (dropA A cap i sz) (len-i) (cap-i))) w:=by
  subst h1;have e:sliced A i len cap sz=.slice (dropA A cap i sz) (len-i) (cap-i):=rfl;simp only[execOp,hx,hy,Option.map_none,Option.map_some,run_sliceAt_slice w t _ _ _ _ hu,run_slice_l w t A len cap hu .i64 (i:Int) om om,run_sizeOf hs,Sem.run_bind,Result.andThen_ok,Sem.run_pure,Int.toNat_natCast,e]
end
section
variable {α:Type}{cs:α→Array Value}{size:Nat}{e:TypeId}
theorem Hp.rowBox {w0 w:World}{L:List HB}{K:List FK}(H:Hp w0 w L K) (i:Nat) {B:Option Addr}{n c:Nat}{l:List α}(hi:L[i]? =some (rowsR w0.heap.size e size cs okT feF (.slice B n c) l)) (hn:l.length=n) (h0:0<n):
    ∃g tail,B=some ⟨g,0,none⟩∧n≤c∧Hp w0 w (L.set i (bx g e (flat cs l++tail) true)) K:=by
  subst hn;obtain⟨⟨h1,h2⟩,_⟩:=H.held i hi;rcases h2 with⟨_,h2⟩|⟨g,cap,cur,hv,hg,hh,hc,hm,hs,ht⟩
  · omega
  · cases hv
    have hx:Box w g e cur:=hh;refine⟨g,cur.toList.drop (l.length*size),rfl,hc,H.mut i hi _ _ rfl (Agree.of_below (Below.refl _ _)) ?_ (bx_ok _ _ _ _) (fun q hq=>?_) (fun q hq=>?_) (fun q hq hq'=>?_) rfl⟩
    · show Box w g e _;rw[←ht,List.take_append_drop];exact hx
    · cases hq;exact hx.lt
    · cases hq;exact .inl (.inl rfl)
    · have:=H.fresh _ (List.mem_of_getElem? hi) rfl q hq';omega
end
theorem flat_cell {α:Type}{cs:α→Array Value}{size:Nat}(hk:∀x,(cs x).size=size) {l:List α}{j:Nat}{x:α}(h:l[j]? =some x) {f:Nat}(hf:f<size):(flat cs l)[j*size+f]? =(cs x).toList[f]? :=by
  obtain⟨hj,rfl⟩:=List.getElem?_eq_some_iff.1 h;rw[flat_get hk l j f hj hf,Array.getElem?_toList]
theorem Hp.elem {α:Type}{cs:α→Array Value}{size:Nat}(hk:∀x,(cs x).size=size) {w0 w:World}{L:List HB}{K:List FK}(H:Hp w0 w L K) (i:Nat) {g:Nat}{e:TypeId}{l:List α}{tail:List Value}(hi:L[i]? =some (bx g e (flat cs l++tail) true)) {j:Nat}{x:α}(hj:l[j]? =some x):cellsAt w g (j*size) (cs x).toList:=by
  intro f v hv;have hf:f<size:=by
    have:=(List.getElem?_eq_some_iff.1 hv).1;rwa [Array.length_toList,hk] at this
  have hjl:=(List.getElem?_eq_some_iff.1 hj).1;have hm:j*size+size≤l.length*size:=by rw[←Nat.succ_mul];exact Nat.mul_le_mul_right _ hjl
  exact H.cell i hi (j*size+f) (by rw[List.getElem?_append_left (by rw[flat_len hk];omega),flat_cell hk hj hf];exact hv)
theorem IsRow.ofBox {α:Type}{cs:α→Array Value}{size:Nat}(hk:∀x,(cs x).size=size) {w:World}{g:Nat}{e:TypeId}{l:List α}{tail:List Value}(h:Box w g e (flat cs l++tail).toArray):IsRow size cs w (some ⟨g,0,none⟩) l:=by
  refine⟨flat_len hk l,.inr ⟨g,0,rfl,h.lt,fun i hi=>?_⟩⟩;have hi':i<(flat cs l).length:=by rw[flat_len hk l];exact hi
  rw[Nat.zero_add,List.getElem?_eq_getElem hi'];exact h.cell (by rw[List.getElem?_toArray,List.getElem?_append_left hi',List.getElem?_eq_getElem hi'])
theorem IsRow.ofOwn {α:Type}{cs:α→Array Value}{size base n c:Nat}{e:TypeId}{w:World}{B:Option Addr}{l:List α}(h:(rowsR base e size cs okT feF (.slice B n c) l).F w) (hn:l.length=n):IsRow size cs w B l:=by
  subst hn;exact Rd.of_own h.1
theorem win_cell {w:World}{b t o k:Nat}{pre vs post:List Value}{v:Value}(h:Box w b t (pre++vs++post).toArray) (ho:pre.length=o) (hv:vs[k]? =some v):w.cell? ⟨b,o+k,none⟩=some v:=by
  have hk:=(List.getElem?_eq_some_iff.1 hv).1;refine h.cell ?_;rw[List.getElem?_toArray,List.append_assoc,List.getElem?_append_right om,ho,show o+k-o=k from om,List.getElem?_append_left hk];exact hv
theorem win_cells {w:World}{b t o:Nat}{pre vs post:List Value}(h:Box w b t (pre++vs++post).toArray) (ho:pre.length=o) (k n:Nat):cellsAt w b (o+k) ((vs.drop k).take n):=fun i v hv=>by
  rw[Nat.add_assoc]
  refine win_cell h ho (k:=k+i) ?_
  rw[List.getElem?_take] at hv
  split at hv
  · rwa [List.getElem?_drop] at hv
  · cases hv
theorem win_set {pre vs post:List Value}{o k:Nat}{v:Value}(ho:pre.length=o) (hk:k<vs.length):(pre++vs++post).set (o+k) v=pre++vs.set k v++post:=by
  rw[List.append_assoc,List.set_append_right _ _ om,ho,show o+k-o=k from om,List.set_append_left _ _ hk,List.append_assoc]
section
variable {P:Program}{ops:Array Oper}{Q:Exit→Act→World→Prop}{a:Act}{w0 w:World}{LH:List HB}{K:List FK}{rest:List Oper}{n:Nat}{L:List (Nat×Value)}{t:TypeId}{x y:Operand}{ty:TypeId}{pos:String}{af:Array Edge}{g:Option (Nat×Bool)}
theorem one_of {v:Value}(h:one v=true):v.cells.size=1∧oneCells v.cells.toList=true∧v.cells.toList=[v]:=by
  obtain⟨h1,h2⟩:=one_cells h;refine⟨h1,?_,h2⟩;rw[h2];cases v<;>first|rfl|cases h
theorem Sl.storeW (H:Sl n L a) (HP:Hp w0 w LH K) (i b o k tb:Nat) (pre vs post:List Value) (f:Bool) (v:Value) (LH':List HB) (ho:pre.length=o)
    (hc:chk0 ops L ⟨none,.store t x y,ty,pos,af,g⟩=true) (hx:ev L x=.pointer (some ⟨b,o+k,none⟩)) (hy:ev L y=v) (hi:LH[i]? =some (bx b tb (pre++vs++post) f)) (hs:sizeB P t=some 1) (h1:one v=true) (hk':Nat.blt k vs.length=true)
    (hL:LH.set i (bx b tb (pre++vs.set k v++post) f)=LH') (kk:∀w' a',Sl n L a'→Hp w0 w' LH' K→wpList P ops Q rest a' w'):wpList P ops Q (⟨none,.store t x y,ty,pos,af,g⟩::rest) a w:=by
  obtain⟨e1,e2,e3⟩:=one_of h1;have hk:k<vs.length:=Nat.le_of_ble_eq_true hk';refine H.store HP i b (o+k) 1 tb _ f v LH' hc hx hy hi hs e1 e2 ?_ ?_ kk
  · rw[e3,Nat.ble_eq];simp only[List.length_append,List.length_singleton];omega
  · rw[e3];show LH.set i (bx b tb ((pre++vs++post).set (o+k) v) f)=LH';rw[win_set ho hk];exact hL
theorem Op.storeW {KB:List FK}{KK:Act→World→Prop}{i:Nat}(H:Sl n L a) (HP:Hp w0 w LH KB) (ib b o k tb:Nat) (pre vs post:List Value) (f:Bool) (v:Value) (LH':List HB) (ho:pre.length=o)
    (hop:ops[i]? =some ⟨none,.store t x y,ty,pos,af,g⟩) (hc:chk0 ops L ⟨none,.store t x y,ty,pos,af,g⟩=true) (hx:ev L x=.pointer (some ⟨b,o+k,none⟩)) (hy:ev L y=v) (hi:LH[ib]? =some (bx b tb (pre++vs++post) f)) (hs:sizeB P t=some 1) (h1:one v=true) (hk':Nat.blt k vs.length=true)
    (hL:LH.set ib (bx b tb (pre++vs.set k v++post) f)=LH') (kk:∀w' a',Sl n L a'→Hp w0 w' LH' KB→KK a' w'):wpOp P ops Q i KK a w:=by
  obtain⟨e1,e2,e3⟩:=one_of h1;have hk:k<vs.length:=Nat.le_of_ble_eq_true hk';refine Op.store H HP ib b (o+k) 1 tb _ f v LH' hop hc hx hy hi hs e1 e2 ?_ ?_ kk
  · rw[e3,Nat.ble_eq];simp only[List.length_append,List.length_singleton];omega
  · rw[e3];show LH.set ib (bx b tb ((pre++vs++post).set (o+k) v) f)=LH';rw[win_set ho hk];exact hL
end
def boxK (b t:Nat) (vs:List Value):FK:=⟨fun k=>k=b,fun w=>Box w b t vs.toArray⟩
theorem boxK_ok (b t:Nat) (vs:List Value):(boxK b t vs).ok:=fun w1 w2 h hk hs=>(hk b rfl).trans h
theorem boxK_lt {w:World}{b t k:Nat}{vs:List Value}(h:Box w b t vs.toArray) (hk:(boxK b t vs).fp k):k<w.heap.size:=by cases hk;exact h.lt
def laidK:FK:=⟨fun k=>k=0∨k=1,Laid⟩
theorem laidK_ok:laidK.ok:=fun w1 w2 h hk hs=>⟨fun i hi=>(World.cell?_of_block (hk 1 (.inr rfl))).trans (h.tab i hi),fun i hi=>(World.cell?_of_block (hk 0 (.inl rfl))).trans (h.rates i hi)⟩
theorem Laid.lt {w:World}(h:Laid w) (k:Nat) (hk:laidK.fp k):k<w.heap.size:=by
  rcases hk with rfl|rfl
  · exact World.block_lt_of_cell? w _ (h.rates 0 om)
  · exact World.block_lt_of_cell? w _ (h.tab 0 om)
def bareW (w:World):World:={ w with heap:=#[]}
theorem Hp.bareN {w0 w:World}{L:List HB}{K:List FK}(H:Hp w0 w L K) (n:Nat):Hp (bareW w0) w (L.drop n) K:=
  ⟨H.os,H.tape,H.output,Nat.zero_le _,fun k hk=>absurd hk (Nat.not_lt_zero _),fun x hx=>H.res x (List.mem_of_mem_drop hx),H.apart.sublist (List.drop_sublist _ _),fun _ _ _ _ _=>Nat.zero_le _,fun p hp=>let ⟨h1,h2,h3⟩:=H.kept p hp;⟨h1,h2,fun k hk=>⟨(h3 k hk).1,fun x hx=>(h3 k hk).2 x (List.mem_of_mem_drop hx)⟩⟩⟩
def PicA.str (p:PicA):List UInt8:=p.data.data.toList
theorem PicA.str_eq (p:PicA):p.data=bstr p.str:=by cases p;simp[PicA.str,bstr]
structure Ch where
  item:Int
  index:Int
  full:Int
  taken:Int
  number:Int
  num:Int
  den:Int
abbrev chL (c:Ch):List Value:=[.int .i64 c.item,.int .i64 c.index,.int .i64 c.full,.int .i64 c.taken,.int .i64 c.number,.int .i64 c.num,.int .i64 c.den]
abbrev selL (bc n cc:Nat) (LA:Option Addr) (ln lc:Nat) (hd:Bool) (at_ od:Int):List Value:=[.slice (some ⟨bc,0,none⟩) n cc,.slice LA ln lc,.bool hd,.int .i64 at_,.int .i64 od]
def floorP (hd:Bool) (at_ od f:Int):Option Int:=if hd=true∧at_≤f∧f-at_≤8 then some od else none
def genuineP (lib:List AstA) (u:Un):Bool:=if u.item=0 then(u.index == 0)&&(u.key&&(u.data == [])) else
  match findA u.item lib with
  |none=>false
  |some a=>decide (0≤u.index)&&(decide (u.index<(a.pics.length:Int))&&(((a.pics.getD u.index.toNat picZ).key == u.key)&&((a.pics.getD u.index.toNat picZ).str == u.data)))
def contS (c:Ch) (u:Un):Bool:=(u.item == c.item)&&((u.index == c.index+1)&&(vstep c.full (u.data.length:Int)).isSome)
def entersS (lib:List AstA) (full:Int) (u:Un):Bool:=
  match findA u.item lib with
  |none=>false
  |some a=>u.key&&(decide (0≤u.index)&&(decide (u.index<(a.pics.length:Int))&&
    match needOf ((sizesP a.pics).drop u.index.toNat) with
    |none=>false
    |some nd=>decide (nd≤full)))
def acceptP (lib:List AstA) (fl:Option Int) (c:Ch) (f:Int) (l:List UInt8):Option Un:=
  match unpackP c.num c.den l with
  |none=>none
  |some u=>if((u.channel == c.number)&&(u.frame == f))=true∧genuineP lib u=true∧(match fl with|none=>false|some x=>decide (x≤u.version))=true∧((u.item == 0)||(contS c u||entersS lib c.full u))=true then some u else none
def preferP (x y:Un) (tk:Int):Int:=if y.version<x.version then 0 else if x.version<y.version then 1 else if x.item≠0∧y.item=0 then 0 else if x.item=0∧y.item≠0 then 1 else tk
def slateU (ch f:Int):Un:=⟨ch,f,0,0,0,true,[],255,1000,[64,0,0],0,0,none,0,[]⟩
def takeP (c:Ch) (f:Int) (x y:Option Un):Un×Int:=
  match x,y with
  |none,none=>(slateU c.number f,c.taken)
  |some x,some y=>(if preferP x y c.taken=1 then y else x,preferP x y c.taken)
  |some x,none=>(x,0)
  |none,some y=>(y,1)
def showC (c:Ch) (u:Un) (tk:Int):Ch:={ c with item:=u.item,index:=u.index,full:=(vstep c.full (u.data.length:Int)).getD 0,taken:=tk}
def chooseC (lib:List AstA) (fl:Option Int) (c:Ch) (f:Int) (a b:List UInt8):Un×Ch:=
  let r:=takeP c f (acceptP lib fl c f a) (acceptP lib fl c f b)
  (r.1,showC c r.1 r.2)
open Go.Shelf
def floorV (x:Option Int):Value:=.tuple #[.int .i64 (x.getD 0),.bool x.isSome]
theorem floor_some {hd:Bool}{at_ od f:Int}(h1:hd=true) (h2:at_≤f) (h3:f-at_≤8):Ending.returned (.tuple #[.int .i64 od,.bool true])=.returned (floorV (floorP hd at_ od f)):=by
 unfold floorP;rw[if_pos ⟨h1,h2,h3⟩];rfl
theorem floor_none {hd:Bool}{at_ od f:Int}(h:hd=false∨f<at_∨8<f-at_):Ending.returned (.tuple #[.int .i64 0,.bool false])=.returned (floorV (floorP hd at_ od f)):=by
 unfold floorP;rw[if_neg (by rintro⟨h1,h2,h3⟩;rcases h with h|h|h;(rw[h1] at h;cases h);omega;omega)];rfl
theorem absentN_any (w:World):
  Calls Tryz.prog 41 #[.pointer none] w fun e w'=>e=.returned zT∧Below w.heap.size w w':=by
 have HP:=Hp.start w;refine w_enter 13 [(0,(.pointer none))] Tryz.func41 rfl Tryz.ntmps41 kr kr fun a H=>zq<|H.gz HP [(2,zF)] fun a H=>zq<|H.gz HP [(3,(.pointer none)),(4,zT),(5,zT),(2,zT)] fun a H=>zrt<|H.r1 zT Tryz.results41 ?_;exact⟨rfl,HP.bl⟩
theorem absent_any (bs bc n cc:Nat) (v1 v2 v3 v4:Value) (w:World) (hS:Box w bs 111 [.slice (some ⟨bc,0,none⟩) n cc,v1,v2,v3,v4].toArray) (hn:0<n):
  Calls Tryz.prog 41 #[.pointer (some ⟨bs,0,none⟩)] w fun e w'=>e=.returned zF∧Below w.heap.size w w':=by
 have HP:=Hp.own (vs:=[(sB bc n cc),v1,v2,v3,v4]) hS;refine w_enter 13 [(0,(pt bs 0))] Tryz.func41 rfl Tryz.ntmps41 kr kr fun a H=>zq<|H.gz HP [(2,zF)] fun a H=>zq<|H.go HP 8 [(3,(pt bs 0)),(4,zF),(5,zF),(10,(ii n))] [0] fun a H=>H.valE 11 (.bool ((n:Int) == 0)) zF kr kr (congrArg Value.bool (beq_false_of_ne om)) fun a H=>H.gz HP [(2,zF)] fun a H=>zrt<|H.r1 zF Tryz.results41 ?_;exact⟨rfl,(HP.same (by intro x hx;simp only[List.mem_cons,List.not_mem_nil,or_false] at hx;rcases hx with rfl;exact .inr (bx_same hS (HP.at_ 0 rfl))))⟩
theorem floor_any (bs bc n cc:Nat) (LA:Option Addr) (lib:List AstA) (lc:Nat) (hd:Bool) (at_ od:Int) (fr:Int) (w:World) (hS:Box w bs 111 (selL bc n cc LA lib.length lc hd at_ od).toArray) (hn:0<n) (hat:0≤at_∧at_≤9223372036854775807) (hfr:-9223372036854775808≤fr∧fr≤9223372036854775807):
  Calls Tryz.prog 25 #[.pointer (some ⟨bs,0,none⟩),.int .i64 fr] w fun e w'=>e=.returned (floorV (floorP hd at_ od fr))∧Below w.heap.size w w':=by
 have HP:=Hp.own (vs:=[(sB bc n cc),(sL LA lib.length lc),(.bool hd),(ii at_),(ii od)]) hS;refine w_enter 36 [(0,(pt bs 0)),(1,(ii fr))] Tryz.func25 rfl Tryz.ntmps25 kr kr fun a H=>zq<|H.gz HP [(4,zO),(5,zF)] fun a H=>zsq<|zq<|H.gn HP 1 [(6,(pt bs 0))] fun a H=>H.call 7 kr (Eq.trans (kr:_=(callFunc 41 #[(pt bs 0)]).run Tryz.prog w) (Tryz.call41 _ _)) (absent_any bs bc n cc _ _ _ _ w (HP.at_ 0 rfl) hn) ?_;rintro e w_1 ⟨rfl,hb⟩;refine⟨_,rfl,?_⟩;intro a H;have HP:=HP.next hb
 refine H.go HP 8 [(15,(.bool (!hd)))] [0] fun a H=>H.split 15 rfl (fun g15 H=>?_) (fun g15 H=>?_)
 ·have g15p:=not_is_true g15;refine H.gz HP [(31,zT)] fun a H=>w_ift H rfl<|zq<|H.gz HP [(4,zO),(5,zF)] fun a H=>zrt<|ztr<|H.ret2 (fn:=Tryz.f25) Tryz.results25 (RV.tmp_ (v:=zO) kr) (RV.tmp_ (v:=zF) kr) ?_;exact⟨floor_none (by first|exact .inl g15p|exact .inr (.inl om)|exact .inr (.inr om)),(HP.same (by intro x hx;simp only[List.mem_cons,List.not_mem_nil,or_false] at hx;rcases hx with rfl;exact .inr (bx_same hS (HP.at_ 0 rfl))))⟩
 have g15p:=not_is_false g15;refine H.go HP 8 [(23,(.bool (decide (fr<at_))))] [0] fun a H=>H.split 23 rfl (fun g23 H=>?_) (fun g23 H=>?_)
 ·have g23p:=of_decide_eq_true g23;refine H.gz HP [(31,zT)] fun a H=>w_ift H rfl<|zq<|H.gz HP [(4,zO),(5,zF)] fun a H=>zrt<|ztr<|H.ret2 (fn:=Tryz.f25) Tryz.results25 (RV.tmp_ (v:=zO) kr) (RV.tmp_ (v:=zF) kr) ?_;exact⟨floor_none (by first|exact .inl g15p|exact .inr (.inl om)|exact .inr (.inr om)),(HP.same (by intro x hx;simp only[List.mem_cons,List.not_mem_nil,or_false] at hx;rcases hx with rfl;exact .inr (bx_same hS (HP.at_ 0 rfl))))⟩
 have g23p:=of_decide_eq_false g23;refine H.go HP 5 [(24,(ii fr)),(28,(ii at_))] [0] fun a H=>H.wi 29 (fr-at_) fun a H=>H.gz HP [(31,(.bool (decide ((fr-at_)>8))))] fun a H=>w_if H rfl (fun g31=>?_) (fun g31=>?_)
 ·have g31p:=of_decide_eq_true g31;refine zq<|H.gz HP [(4,zO),(5,zF)] fun a H=>zrt<|ztr<|H.ret2 (fn:=Tryz.f25) Tryz.results25 (RV.tmp_ (v:=zO) kr) (RV.tmp_ (v:=zF) kr) ?_;exact⟨floor_none (by first|exact .inl g15p|exact .inr (.inl om)|exact .inr (.inr om)),(HP.same (by intro x hx;simp only[List.mem_cons,List.not_mem_nil,or_false] at hx;rcases hx with rfl;exact .inr (bx_same hS (HP.at_ 0 rfl))))⟩
 have g31p:=of_decide_eq_false g31;refine zsk<|zt<|H.gy HP [(4,(ii od)),(5,zT)] [0] fun a H=>zrt<|H.ret2 (fn:=Tryz.f25) Tryz.results25 (RV.tmp_ (v:=(ii od)) kr) (RV.tmp_ (v:=zT) kr) ?_;exact⟨floor_some g15p om om,(HP.same (by intro x hx;simp only[List.mem_cons,List.not_mem_nil,or_false] at hx;rcases hx with rfl;exact .inr (bx_same hS (HP.at_ 0 rfl))))⟩
theorem prefer_any (x y:Un) (tk:Int) (w:World):
  Calls Tryz.prog 77 #[x.val,y.val,.int .i64 tk] w fun e w'=>e=.returned (ii (preferP x y tk))∧Below w.heap.size w w':=by
 have HP:=Hp.start w
 refine w_enter 38 [(0,(.agg (ua x x.A x.c))),(1,(.agg (ua y y.A y.c))),(2,(ii tk))] Tryz.func77 rfl Tryz.ntmps77 kr kr fun a H=>zq<|H.al HP 3 76 (ul x x.A x.c) fun b_1 w_2 a H HP=>H.al HP 4 76 (ul y y.A y.c) fun b_3 w_4 a H HP=>H.gz HP [(6,zO)] fun a H=>zsq<|zbk<|zq<|H.gy HP [(7,(.bool (decide (x.version>y.version))))] [1,0] fun a H=>w_if H rfl (fun g7=>?_) (fun g7=>?_)
 ·have g7p:=of_decide_eq_true g7;refine zq<|H.gz HP [(6,zO)] fun a H=>zrt<|zibr<|ztr<|H.r1 zO Tryz.results77 ?_;exact⟨congrArg (fun n=>Ending.returned (ii n)) (by unfold preferP;(repeat' split)<;>omega),HP.bl⟩
 have g7p:=of_decide_eq_false g7;refine zq<|H.gy HP [(13,(.bool (decide (x.version<y.version))))] [1,0] fun a H=>w_if H rfl (fun g13=>?_) (fun g13=>?_)
 ·have g13p:=of_decide_eq_true g13;refine zq<|H.gz HP [(6,(ii 1))] fun a H=>zrt<|zibr<|ztr<|H.r1 (ii 1) Tryz.results77 ?_;exact⟨congrArg (fun n=>Ending.returned (ii n)) (by unfold preferP;(repeat' split)<;>omega),HP.bl⟩
 have g13p:=of_decide_eq_false g13;refine zq<|H.go HP 4 [(23,(.bool (x.item != 0)))] [1] fun a H=>H.split 23 rfl (fun g23 H=>?_) (fun g23 H=>?_)
 ·have g23p:=bne_iff_ne.1 g23;refine H.gy HP [(19,(.bool (y.item == 0)))] [0] fun a H=>w_if H rfl (fun g19=>?_) (fun g19=>?_)
  ·have g19p:=eq_of_beq g19;refine zq<|H.gz HP [(6,zO)] fun a H=>zrt<|zibr<|ztr<|H.r1 zO Tryz.results77 ?_;exact⟨congrArg (fun n=>Ending.returned (ii n)) (by unfold preferP;(repeat' split)<;>omega),HP.bl⟩
  have g19p:=ne_of_beq_false g19;refine zq<|H.go HP 4 [(32,(.bool (x.item == 0)))] [1] fun a H=>H.split 32 rfl (fun g32 H=>?_) (fun g32 H=>?_)
  ·have g32p:=eq_of_beq g32;refine H.gy HP [(28,(.bool (y.item != 0)))] [0] fun a H=>w_if H rfl (fun g28=>?_) (fun g28=>?_)
   ·have g28p:=bne_iff_ne.1 g28;refine zq<|H.gz HP [(6,(ii 1))] fun a H=>zrt<|zibr<|ztr<|H.r1 (ii 1) Tryz.results77 ?_;exact⟨congrArg (fun n=>Ending.returned (ii n)) (by unfold preferP;(repeat' split)<;>omega),HP.bl⟩
   have g28p:=eq_of_bne_false g28;refine zsk<|zibn<|zt<|H.gz HP [(6,(ii tk))] fun a H=>zrt<|H.r1 (ii tk) Tryz.results77 ?_;exact⟨congrArg (fun n=>Ending.returned (ii n)) (by unfold preferP;(repeat' split)<;>omega),HP.bl⟩
  have g32p:=ne_of_beq_false g32;refine H.gz HP [(28,zF)] fun a H=>w_iff H rfl<|zsk<|zibn<|zt<|H.gz HP [(6,(ii tk))] fun a H=>zrt<|H.r1 (ii tk) Tryz.results77 ?_;exact⟨congrArg (fun n=>Ending.returned (ii n)) (by unfold preferP;(repeat' split)<;>omega),HP.bl⟩
 have g23p:=eq_of_bne_false g23;refine H.gz HP [(19,zF)] fun a H=>w_iff H rfl<|zq<|H.go HP 4 [(32,(.bool (x.item == 0)))] [1] fun a H=>H.split 32 rfl (fun g32 H=>?_) (fun g32 H=>?_)
 ·have g32p:=eq_of_beq g32;refine H.gy HP [(28,(.bool (y.item != 0)))] [0] fun a H=>w_if H rfl (fun g28=>?_) (fun g28=>?_)
  ·have g28p:=bne_iff_ne.1 g28;refine zq<|H.gz HP [(6,(ii 1))] fun a H=>zrt<|zibr<|ztr<|H.r1 (ii 1) Tryz.results77 ?_;exact⟨congrArg (fun n=>Ending.returned (ii n)) (by unfold preferP;(repeat' split)<;>omega),HP.bl⟩
  have g28p:=eq_of_bne_false g28;refine zsk<|zibn<|zt<|H.gz HP [(6,(ii tk))] fun a H=>zrt<|H.r1 (ii tk) Tryz.results77 ?_;exact⟨congrArg (fun n=>Ending.returned (ii n)) (by unfold preferP;(repeat' split)<;>omega),HP.bl⟩
 have g32p:=ne_of_beq_false g32;refine H.gz HP [(28,zF)] fun a H=>w_iff H rfl<|zsk<|zibn<|zt<|H.gz HP [(6,(ii tk))] fun a H=>zrt<|H.r1 (ii tk) Tryz.results77 ?_;exact⟨congrArg (fun n=>Ending.returned (ii n)) (by unfold preferP;(repeat' split)<;>omega),HP.bl⟩
theorem show_any (bc o:Nat) (pre post:List Value) (c:Ch) (u:Un) (w:World) (hC:Box w bc 115 (pre++chL c++post).toArray) (ho:pre.length=o):
  Calls Tryz.prog 78 #[.pointer (some ⟨bc,o,none⟩),u.val] w fun e w'=>e=.returned (.tuple #[])∧Box w' bc 115 (pre++chL (showC c u c.taken)++post).toArray∧w.grownBy w' (some bc):=by
 have HP:=Hp.own (vs:=pre++[(ii c.item),(ii c.index),(ii c.full),(ii c.taken),(ii c.number),(ii c.num),(ii c.den)]++post) hC;refine w_enter 28 [(0,(pt bc o)),(1,(.agg (ua u u.A u.c)))] Tryz.func78 rfl Tryz.ntmps78 kr kr fun a H=>zq<|H.al HP 3 76 (ul u u.A u.c) fun b_1 w_2 a H HP=>znl (ztn (zsq ?_));have HP:=HP.front 1 rfl _ rfl
 refine An.start (fun v=>Hp (bareW w) v [bx b_1 76 (ul u u.A u.c) true] []) 11 12 HP wide_follows rfl fun w_3 HP=>An.go H (.inr (HP.bareN 1)) 4 [0,1,2,3,4,5,6,7] [(4,(pt bc o)),(5,(pt bc o)),(6,(pt b_1 3)),(7,(ii u.item)),(9,(ii u.index)),(11,(pt bc o))] [0,0] fun a H=>An.one 8 kr<|Op.storeW H HP 0 bc o 0 115 pre [(ii c.item),(ii c.index),(ii c.full),(ii c.taken),(ii c.number),(ii c.num),(ii c.den)] post false (ii u.item) [bx bc 115 (pre++[(ii u.item),(ii c.index),(ii c.full),(ii c.taken),(ii c.number),(ii c.num),(ii c.den)]++post) false,bx b_1 76 (ul u u.A u.c) true] ho rfl kr kr kr rfl kr rfl kr rfl fun w_4 a H HP=>⟨.inr (HP.bareN 1),?_⟩
 refine An.go H (.inr (HP.bareN 1)) 1 [9,10] [(13,(.pointer (some ⟨bc,o+1,none⟩)))] [] fun a H=>An.one 11 kr<|Op.storeW H HP 0 bc o 1 115 pre [(ii u.item),(ii c.index),(ii c.full),(ii c.taken),(ii c.number),(ii c.num),(ii c.den)] post false (ii u.index) [bx bc 115 (pre++[(ii u.item),(ii u.index),(ii c.full),(ii c.taken),(ii c.number),(ii c.num),(ii c.den)]++post) false,bx b_1 76 (ul u u.A u.c) true] ho rfl kr kr kr rfl kr rfl kr rfl fun w_5 a H HP=>⟨.inl kr,?_⟩
 refine An.done kr<|ztn<|An.start (fun v=>Hp w v [bx bc 115 (pre++[(ii u.item),(ii u.index),(ii c.full),(ii c.taken),(ii c.number),(ii c.num),(ii c.den)]++post) false,bx b_1 76 (ul u u.A u.c) true] []) 14 15 HP wide_follows rfl fun w_6 HP=>An.go H (.inr HP) 11 [0,1,2,3] [(15,(pt bc o)),(18,(.pointer (some ⟨bc,o+2,none⟩)))] [] fun a H=>An.vw H HP 4 19 (ii c.full) (fun _ hS=>ex_l1 (win_cell (k:=2) (hS.at_ 0 rfl) ho rfl)) fun a H=>An.go H (.inr HP) 7 [5,6,7] [(22,(ii u.data.length))] [1] fun a H=>An.one 8 kr<|Op.cl H 23 (Tryz.call29 _ _) (vbvStep_any c.full (u.data.length:Int) w_6) ?_;rintro e w_7 ⟨rfl,hw⟩;refine⟨_,rfl,?_⟩;intro a H;have HP:=hw ▸ HP;refine⟨.inr HP,?_⟩
 refine An.go H (.inr HP) 1 [9,10,11,12,13] [(24,(ii ((vstep c.full (u.data.length:Int)).getD 0))),(27,(.pointer (some ⟨bc,o+2,none⟩)))] [] fun a H=>An.one 14 kr<|Op.storeW H HP 0 bc o 2 115 pre [(ii u.item),(ii u.index),(ii c.full),(ii c.taken),(ii c.number),(ii c.num),(ii c.den)] post false (ii ((vstep c.full (u.data.length:Int)).getD 0)) [bx bc 115 (pre++[(ii u.item),(ii u.index),(ii ((vstep c.full (u.data.length:Int)).getD 0)),(ii c.taken),(ii c.number),(ii c.num),(ii c.den)]++post) false,bx b_1 76 (ul u u.A u.c) true] ho rfl kr kr kr rfl kr rfl kr rfl fun w_8 a H HP=>⟨.inl kr,?_⟩;refine An.done kr<|H.end0 (fn:=Tryz.f78) Tryz.results78  ?_;exact⟨rfl,HP.at_ 0 rfl,HP.only bc (by intro x hx;simp only[List.mem_cons,List.not_mem_nil,or_false] at hx;rcases hx with rfl|rfl;exact .inr (fun k hk=>hk);exact .inl rfl)⟩
theorem cont_any (bc o:Nat) (pre post:List Value) (c:Ch) (u:Un) (w:World) (hC:Box w bc 115 (pre++chL c++post).toArray) (ho:pre.length=o) (hix:-1≤c.index∧c.index≤1000000000):
  Calls Tryz.prog 127 #[.pointer (some ⟨bc,o,none⟩),u.val] w fun e w'=>e=.returned (.bool (contS c u))∧Below w.heap.size w w':=by
 have HP:=Hp.own (vs:=pre++[(ii c.item),(ii c.index),(ii c.full),(ii c.taken),(ii c.number),(ii c.num),(ii c.den)]++post) hC;refine w_enter 36 [(0,(pt bc o)),(1,(.agg (ua u u.A u.c)))] Tryz.func127 rfl Tryz.ntmps127 kr kr fun a H=>zq<|H.al HP 3 76 (ul u u.A u.c) fun b_1 w_2 a H HP=>H.gz HP [(4,zF)] fun a H=>zsq<|zsq<|An.start (fun v=>Hp w v [bx b_1 76 (ul u u.A u.c) true,bx bc 115 (pre++[(ii c.item),(ii c.index),(ii c.full),(ii c.taken),(ii c.number),(ii c.num),(ii c.den)]++post) false] []) 17 17 HP wide_follows rfl fun w_3 HP=>An.go H (.inr HP) 12 [0,1,2,3,4] [(8,(ii u.item)),(11,(pt bc o))] [0] fun a H=>An.vw H HP 5 12 (ii c.item) (fun _ hS=>ex_l1 (win_cell (k:=0) (hS.at_ 1 rfl) ho rfl)) fun a H=>An.go H (.inr HP) 9 [6,7] [(14,(.bool (u.item != c.item)))] [] fun a H=>H.split 14 rfl (fun g14 H=>?_) (fun g14 H=>?_)
 ·have g14p:=bne_iff_ne.1 g14;refine An.go H (.inr HP) 0 [8,9,10,11,12,13,14,15,16] [(23,zT)] [] fun a H=>An.done kr<|ztn<|w_ift H rfl<|zq<|H.gz HP [(4,zF)] fun a H=>zrt<|ztr<|H.r1 zF Tryz.results127 ?_;exact⟨congrArg (fun b=>Ending.returned (.bool b)) (by unfold contS;simp_all),(HP.same (by intro x hx;simp only[List.mem_cons,List.not_mem_nil,or_false] at hx;rcases hx with rfl|rfl;exact .inl rfl;exact .inr (bx_same hC (HP.at_ 1 rfl))))⟩
 have g14p:=eq_of_bne_false g14;refine An.go H (.inr HP) 4 [8,9,10,11,12] [(16,(ii u.index)),(19,(.pointer (some ⟨bc,o+1,none⟩)))] [0] fun a H=>An.vw H HP 13 20 (ii c.index) (fun _ hS=>ex_l1 (win_cell (k:=1) (hS.at_ 1 rfl) ho rfl)) fun a H=>An.pureE H (.inr HP) 14 21 (ii (IntKind.i64.wrap (c.index+1))) (ii (c.index+1)) rfl kr kr (fun _ _ _ h=>h) (fun _=>kr) (by rw[wrap_ini64 _ om]) fun a H=>An.go H (.inr HP) 0 [15,16] [(23,(.bool (u.index != (c.index+1))))] [] fun a H=>An.done kr<|ztn<|w_if H rfl (fun g23=>?_) (fun g23=>?_)
 ·have g23p:=bne_iff_ne.1 g23;refine zq<|H.gz HP [(4,zF)] fun a H=>zrt<|ztr<|H.r1 zF Tryz.results127 ?_;exact⟨congrArg (fun b=>Ending.returned (.bool b)) (by unfold contS;simp_all),(HP.same (by intro x hx;simp only[List.mem_cons,List.not_mem_nil,or_false] at hx;rcases hx with rfl|rfl;exact .inl rfl;exact .inr (bx_same hC (HP.at_ 1 rfl))))⟩
 have g23p:=eq_of_bne_false g23;refine zsk<|ztn<|zsq<|An.start (fun v=>Hp w v [bx b_1 76 (ul u u.A u.c) true,bx bc 115 (pre++[(ii c.item),(ii c.index),(ii c.full),(ii c.taken),(ii c.number),(ii c.num),(ii c.den)]++post) false] []) 13 13 HP wide_follows rfl fun w_4 HP=>An.go H (.inr HP) 10 [0,1,2] [(27,(.pointer (some ⟨bc,o+2,none⟩)))] [] fun a H=>An.vw H HP 3 28 (ii c.full) (fun _ hS=>ex_l1 (win_cell (k:=2) (hS.at_ 1 rfl) ho rfl)) fun a H=>An.go H (.inr HP) 6 [4,5,6] [(31,(ii u.data.length))] [0] fun a H=>An.one 7 kr<|Op.cl H 32 (Tryz.call29 _ _) (vbvStep_any c.full (u.data.length:Int) w_4) ?_;rintro e w_5 ⟨rfl,hw⟩;refine⟨_,rfl,?_⟩;intro a H;have HP:=hw ▸ HP;refine⟨.inr HP,?_⟩
 refine An.go H (.inr HP) 0 [8,9,10,11,12] [(5,(ii ((vstep c.full (u.data.length:Int)).getD 0))),(6,(.bool ((vstep c.full (u.data.length:Int)).isSome)))] [] fun a H=>An.done kr<|zt<|H.gz HP [(4,(.bool ((vstep c.full (u.data.length:Int)).isSome)))] fun a H=>zrt<|H.r1 (.bool ((vstep c.full (u.data.length:Int)).isSome)) Tryz.results127 ?_;exact⟨congrArg (fun b=>Ending.returned (.bool b)) (by unfold contS;simp_all),(HP.same (by intro x hx;simp only[List.mem_cons,List.not_mem_nil,or_false] at hx;rcases hx with rfl|rfl;exact .inl rfl;exact .inr (bx_same hC (HP.at_ 1 rfl))))⟩
def libFp (A:Option Addr) (l:List AstA) (k:Nat):Prop:=rowFp l.length A k∨∃a∈l,rowFp a.pics.length a.A k
def astsK (A:Option Addr) (l:List AstA):FK:=⟨libFp A l,fun w=>IsAsts w A l.length l⟩
theorem IsAsts.keep {w1 w2:World}{A:Option Addr}{l:List AstA}(h:IsAsts w1 A l.length l) (hk:∀k,libFp A l k→w2.heap[k]? =w1.heap[k]?) (hs:w1.heap.size≤w2.heap.size):IsAsts w2 A l.length l:=
 ⟨⟨h.1.1,h.1.2.keep (fun k hf=>hk k (.inl hf)) hs⟩,fun a ha=>⟨⟨(h.2 a ha).1.1,(h.2 a ha).1.2.keep (fun k hf=>hk k (.inr ⟨a,ha,hf⟩)) hs⟩,(h.2 a ha).2⟩⟩
theorem IsAsts.lt {w:World}{A:Option Addr}{l:List AstA}(h:IsAsts w A l.length l) {k:Nat}(hk:libFp A l k):k<w.heap.size:=by
 rcases hk with hk|⟨a,ha,hk⟩
 ·exact Rd.lt h.1.2 hk
 ·exact Rd.lt (h.2 a ha).1.2 hk
theorem findA_len {i:Int}{l:List AstA}{r:Option AstA}(hp:∀a∈l,a.pics.length≤2000000) (h:findA i l=r):(r.getD astZ).pics.length≤2000000:=by
 cases r with
 |none=>exact Nat.zero_le _
 |some a=>exact hp a (findA_mem h).1
theorem pic_cells {w:World}{A:Option Addr}{n:Nat}{l:List PicA}(h:IsPics w A n l) {i:Nat}(hi:i<n):∃b off,A=some ⟨b,off,none⟩∧b<w.heap.size∧cellsAt w b (off+i*3) [.bool (l.getD i picZ).key,.string (bstr (l.getD i picZ).str),.int .i64 (l.getD i picZ).power]:=by
 obtain⟨b,off,rfl,hb,h1,h2,h3⟩:=IsPics.get h hi;refine⟨b,off,rfl,hb,?_⟩;rw[(l.getD i picZ).str_eq] at h2;exact cells3 h1 h2 h3
theorem enters_no {lib:List AstA}{full:Int}{u:Un}{fa:Option AstA}(hfa:findA u.item lib=fa) (h:fa.isSome=false∨u.key=false∨u.index<0∨(((fa.getD astZ).pics.length:Nat):Int)≤u.index):entersS lib full u=false:=by
 unfold entersS;rw[hfa];cases fa with
 |none=>rfl
 |some a=>
  simp only[Option.isSome_some,Bool.true_eq_false,false_or,Option.getD_some] at h;rcases h with h|h|h
  ·simp[h]
  ·simp only;rw[decide_eq_false (show ¬0≤u.index from om)];simp
  ·simp only;rw[decide_eq_false (show ¬u.index<((a.pics.length:Nat):Int) from om)];simp
theorem enters_yes {lib:List AstA}{full:Int}{u:Un}{fa:Option AstA}{kx:Nat}(hfa:findA u.item lib=fa) (h1:fa.isSome=true) (h2:u.key=true) (h3:0≤u.index) (h4:u.index<(((fa.getD astZ).pics.length:Nat):Int)) (hk:u.index=((kx:Nat):Int)):
  entersS lib full u=((needOf ((sizesP (fa.getD astZ).pics).drop kx)).isSome&&decide ((needOf ((sizesP (fa.getD astZ).pics).drop kx)).getD 0≤full)):=by
 unfold entersS;rw[hfa];cases fa with
 |none=>cases h1
 |some a=>
  simp only[Option.getD_some] at *;rw[h2,decide_eq_true h3,decide_eq_true h4,show u.index.toNat=kx from om];simp only[Bool.true_and];split<;>rename_i hq<;>simp[hq]
theorem ints_drop {w:World}{A:Option Addr}{l:List Int}{c i:Nat}(h:IsInts w A l.length l) (hc:l.length≤c) (hi:i≤l.length):IsInts w (dropA A c i 1) (l.length-i) (l.drop i):=by
 have e:∀m:List Int,flat (fun z:Int=>(#[.int .i64 z]:Array Value)) m=ints m:=fun m=>by
  induction m with
  |nil=>rfl
  |cons z m ih=>simp only[flat,List.flatMap_cons,ints,List.map_cons] at *;rw[ih];rfl
 have h2:IsRow 1 (fun z:Int=>(#[.int .i64 z]:Array Value)) w A l:=by
  show Rd w 1 A l.length (flat _ l);rw[e];exact ofInts h
 have h3:=IsRow.dropA (cs:=fun z:Int=>(#[.int .i64 z]:Array Value)) (size:=1) (fun _=>rfl) h2 hc hi;rw[e] at h3;exact toInts h3
theorem genuine_any (LA:Option Addr) (lc:Nat) (lib:List AstA) (u:Un) (w:World) (hlib:IsAsts w LA lib.length lib) (hln:lib.length≤maxLen) (hlp:∀a∈lib,a.pics.length≤2000000):
  Calls Tryz.prog 27 #[.slice LA lib.length lc,u.val] w fun e w'=>e=.returned (.bool (genuineP lib u))∧Below w.heap.size w w':=by
 obtain⟨fa,hfa⟩:∃r,findA u.item lib=r:=⟨_,rfl⟩;have hpl:(fa.getD astZ).pics.length≤2000000:=findA_len hlp hfa;have HP:=(Hp.start w).keepF (astsK LA lib) hlib (fun _ _ h hk hs=>IsAsts.keep h hk hs) fun k hk=>⟨IsAsts.lt hlib hk,fun x hx=>by cases hx⟩;refine w_enter 63 [(0,(sL LA lib.length lc)),(1,(.agg (ua u u.A u.c)))] Tryz.func27 rfl Tryz.ntmps27 kr kr fun a H=>zq<|H.al HP 3 76 (ul u u.A u.c) fun b_1 w_2 a H HP=>H.gz HP [(4,zF)] fun a H=>zsq<|zq<|H.gy HP [(10,(.bool (u.item == 0)))] [0] fun a H=>w_if H rfl (fun g10=>?_) (fun g10=>?_)
 ·have g10p:=eq_of_beq g10;refine zq<|H.go HP 4 [(14,(.bool (u.index == 0)))] [0] fun a H=>H.split 14 rfl (fun g14 H=>?_) (fun g14 H=>?_)
  ·have g14p:=eq_of_beq g14;refine H.go HP 4 [(18,(.bool u.key))] [0] fun a H=>H.split 18 rfl (fun g18 H=>?_) (fun g18 H=>?_)
   ·have g18p:=g18;refine H.go HP 2 [(20,(sS u.data))] [0] fun a H=>H.valE 21 (.bool ((bstr u.data).toList == (bstr ([])).toList)) (.bool (u.data == ([]))) kr kr (congrArg Value.bool (bstr_eq _ _)) fun a H=>H.gz HP [(4,(.bool (u.data == ([]))))] fun a H=>zrt<|ztr<|H.r1 (.bool (u.data == ([]))) Tryz.results27 ?_;exact⟨congrArg (fun b=>Ending.returned (.bool b)) (by unfold genuineP;first|(rw[if_pos g10p];simp_all)|(rw[if_neg g10p];cases fa<;>simp_all<;>omega)),HP.bl⟩
   have g18p:=g18;refine H.gz HP [(4,zF)] fun a H=>zrt<|ztr<|H.r1 zF Tryz.results27 ?_;exact⟨congrArg (fun b=>Ending.returned (.bool b)) (by unfold genuineP;first|(rw[if_pos g10p];simp_all)|(rw[if_neg g10p];cases fa<;>simp_all<;>omega)),HP.bl⟩
  have g14p:=ne_of_beq_false g14;refine H.gz HP [(4,zF)] fun a H=>zrt<|ztr<|H.r1 zF Tryz.results27 ?_;exact⟨congrArg (fun b=>Ending.returned (.bool b)) (by unfold genuineP;first|(rw[if_pos g10p];simp_all)|(rw[if_neg g10p];cases fa<;>simp_all<;>omega)),HP.bl⟩
 have g10p:=ne_of_beq_false g10;refine zsk<|zt<|H.go HP 3 [(24,(sL LA lib.length lc)),(26,(ii u.item))] [0] fun a H=>H.cl 27 (Tryz.call43 _ _) (by have hh:=mfind_any LA lib.length lc lib u.item w_2 (HP.fact 0 rfl) hln hlp;rw[hfa] at hh;exact hh) ?_;rintro e w_3 ⟨FB,fc,rfl,hfp,hfc1,hfc2,hfc3,hbf,hfr⟩;refine⟨_,rfl,?_⟩;intro a H;have HP:=(HP.next hbf).keepF ⟨rowFp (fa.getD astZ).pics.length FB,fun w=>IsPics w FB (fa.getD astZ).pics.length (fa.getD astZ).pics⟩ hfp (fun _ _ h hk hs=>⟨h.1,h.2.keep hk hs⟩) (fun j hj=>row_sep HP hfp.2 hfr hj)
 refine H.gn HP 3 [(28,(.agg #[(ii ((fa.getD astZ).item)),(sL FB ((fa.getD astZ).pics.length) fc)])),(29,(.bool fa.isSome))] fun a H=>H.al HP 5 91 [zO,zN] fun b_4 w_5 a H HP=>H.sh HP 0 0 (.agg #[(ii ((fa.getD astZ).item)),(sL FB ((fa.getD astZ).pics.length) fc)]) rfl fun w_6 a H HP=>H.gz HP [(6,(.bool fa.isSome))] fun a H=>zsq<|zq<|H.gn HP 3 [(32,(.bool (!fa.isSome)))] fun a H=>H.split 32 rfl (fun g32 H=>?_) (fun g32 H=>?_)
 ·have g32p:=not_is_true g32;refine H.gz HP [(44,zT)] fun a H=>w_ift H rfl<|zq<|H.gz HP [(4,zF)] fun a H=>zrt<|ztr<|H.r1 zF Tryz.results27 ?_;exact⟨congrArg (fun b=>Ending.returned (.bool b)) (by unfold genuineP;first|(rw[if_pos g10p];simp_all)|(rw[if_neg g10p];cases fa<;>simp_all<;>omega)),HP.bl⟩
 have g32p:=not_is_false g32;refine H.go HP 5 [(37,(.bool (decide (u.index<0))))] [1] fun a H=>H.split 37 rfl (fun g37 H=>?_) (fun g37 H=>?_)
 ·have g37p:=of_decide_eq_true g37;refine H.gz HP [(44,zT)] fun a H=>w_ift H rfl<|zq<|H.gz HP [(4,zF)] fun a H=>zrt<|ztr<|H.r1 zF Tryz.results27 ?_;exact⟨congrArg (fun b=>Ending.returned (.bool b)) (by unfold genuineP;first|(rw[if_pos g10p];simp_all)|(rw[if_neg g10p];cases fa<;>simp_all<;>omega)),HP.bl⟩
 have g37p:=of_decide_eq_false g37;refine H.gy HP [(44,(.bool (decide (u.index≥(((fa.getD astZ).pics.length:Nat):Int)))))] [1,0] fun a H=>w_if H rfl (fun g44=>?_) (fun g44=>?_)
 ·have g44p:=of_decide_eq_true g44;refine zq<|H.gz HP [(4,zF)] fun a H=>zrt<|ztr<|H.r1 zF Tryz.results27 ?_;exact⟨congrArg (fun b=>Ending.returned (.bool b)) (by unfold genuineP;first|(rw[if_pos g10p];simp_all)|(rw[if_neg g10p];cases fa<;>simp_all<;>omega)),HP.bl⟩
 have g44p:=of_decide_eq_false g44;refine zsk<|zt<|H.go HP 4 [(46,(sL FB ((fa.getD astZ).pics.length) fc)),(48,(ii u.index))] [0,1] fun a H=>?_;obtain⟨kx,hkx⟩:∃kx:Nat,u.index=(kx:Int):=⟨u.index.toNat,om⟩;obtain⟨bu,ou,hA,hbu,hpc⟩:=pic_cells (HP.fact 0 rfl:IsPics _ FB _ _) (i:=kx) om
 refine H.u 49 (.pointer (some ⟨bu,ou+kx*3,none⟩)) (ex_indexA (b:=bu) (off:=ou) (len:=(fa.getD astZ).pics.length) (cap:=fc) (e:=96) (k:=3) (ik:=.i64) (i:=u.index) (m:=kx) hA kr kr hkx om kr kr) fun a H=>H.u 50 (.agg #[(.bool (((fa.getD astZ).pics.getD kx picZ).key)),(sS (((fa.getD astZ).pics.getD kx picZ).str)),(ii (((fa.getD astZ).pics.getD kx picZ).power))]) (ex_lN [(.bool (((fa.getD astZ).pics.getD kx picZ).key)),(sS (((fa.getD astZ).pics.getD kx picZ).str)),(ii (((fa.getD astZ).pics.getD kx picZ).power))] hpc) fun a H=>H.al HP 7 96 [zF,zS,zO] fun b_7 w_8 a H HP=>H.sh HP 0 0 (.agg #[(.bool (((fa.getD astZ).pics.getD kx picZ).key)),(sS (((fa.getD astZ).pics.getD kx picZ).str)),(ii (((fa.getD astZ).pics.getD kx picZ).power))]) rfl fun w_9 a H HP=>znl<|zt<|H.go HP 6 [(56,(.bool ((((fa.getD astZ).pics.getD kx picZ).key) == u.key)))] [0,2] fun a H=>H.split 56 rfl (fun g56 H=>?_) (fun g56 H=>?_)
 ·have g56p:=eq_of_beq g56;refine H.go HP 4 [(58,(sS (((fa.getD astZ).pics.getD kx picZ).str))),(60,(sS u.data))] [0,2] fun a H=>H.valE 61 (.bool ((bstr (((fa.getD astZ).pics.getD kx picZ).str)).toList == (bstr u.data).toList)) (.bool ((((fa.getD astZ).pics.getD kx picZ).str) == u.data)) kr kr (congrArg Value.bool (bstr_eq _ _)) fun a H=>H.gz HP [(4,(.bool ((((fa.getD astZ).pics.getD kx picZ).str) == u.data)))] fun a H=>zrt<|H.r1 (.bool ((((fa.getD astZ).pics.getD kx picZ).str) == u.data)) Tryz.results27 ?_;exact⟨congrArg (fun b=>Ending.returned (.bool b)) (by unfold genuineP;first|(rw[if_pos g10p];simp_all)|(rw[if_neg g10p];cases fa<;>simp_all<;>omega)),HP.bl⟩
 have g56p:=ne_of_beq_false g56;refine H.gz HP [(4,zF)] fun a H=>zrt<|H.r1 zF Tryz.results27 ?_;exact⟨congrArg (fun b=>Ending.returned (.bool b)) (by unfold genuineP;first|(rw[if_pos g10p];simp_all)|(rw[if_neg g10p];cases fa<;>simp_all<;>omega)),HP.bl⟩
theorem enters_any (bs bc n cc o:Nat) (lc:Nat) (LA:Option Addr) (lib:List AstA) (hd:Bool) (at_ od:Int) (pre post:List Value) (c:Ch) (u:Un) (w:World) (ho:pre.length=o) (hlib:IsAsts w LA lib.length lib) (hln:lib.length≤maxLen) (hlp:∀a∈lib,a.pics.length≤2000000) (hS:Box w bs 111 [(sB bc n cc),(sL LA lib.length lc),(.bool hd),(ii at_),(ii od)].toArray) (hC:Box w bc 115 (pre++[(ii c.item),(ii c.index),(ii c.full),(ii c.taken),(ii c.number),(ii c.num),(ii c.den)]++post).toArray):
  Calls Tryz.prog 128 #[.pointer (some ⟨bs,0,none⟩),.pointer (some ⟨bc,o,none⟩),u.val] w fun e w'=>e=.returned (.bool (entersS lib c.full u))∧Below w.heap.size w w':=by
 obtain⟨fa,hfa⟩:∃r,findA u.item lib=r:=⟨_,rfl⟩;have hpl:(fa.getD astZ).pics.length≤2000000:=findA_len hlp hfa;have HP:=((((Hp.start w).keepF (boxK bc 115 (pre++[(ii c.item),(ii c.index),(ii c.full),(ii c.taken),(ii c.number),(ii c.num),(ii c.den)]++post)) hC (boxK_ok _ _ _) (fun k hk=>⟨boxK_lt hC hk,fun x hx=>by cases hx⟩)).keepF (boxK bs 111 [(sB bc n cc),(sL LA lib.length lc),(.bool hd),(ii at_),(ii od)]) hS (boxK_ok _ _ _) (fun k hk=>⟨boxK_lt hS hk,fun x hx=>by cases hx⟩)).keepF (astsK LA lib) hlib (fun _ _ h hk hs=>IsAsts.keep h hk hs) (fun k hk=>⟨IsAsts.lt hlib hk,fun x hx=>by cases hx⟩))
 refine w_enter 59 [(0,(pt bs 0)),(1,(pt bc o)),(2,(.agg (ua u u.A u.c)))] Tryz.func128 rfl Tryz.ntmps128 kr kr fun a H=>zq<|H.al HP 5 76 (ul u u.A u.c) fun b_1 w_2 a H HP=>H.gz HP [(6,zF)] fun a H=>zsq<|An.start (fun v=>Hp w v [bx b_1 76 (ul u u.A u.c) true] [astsK LA lib,boxK bs 111 [(sB bc n cc),(sL LA lib.length lc),(.bool hd),(ii at_),(ii od)],boxK bc 115 (pre++[(ii c.item),(ii c.index),(ii c.full),(ii c.taken),(ii c.number),(ii c.num),(ii c.den)]++post)]) 13 13 HP wide_follows rfl fun w_3 HP=>An.go H (.inr HP) 10 [0,1,2] [(13,(pt bs 1))] [] fun a H=>An.vw H HP 3 14 (sL LA lib.length lc) (fun _ hS=>ex_l1 (Box.cell (i:=1) (hS.fact 1 rfl:Box _ bs 111 _) rfl)) fun a H=>An.go H (.inr HP) 7 [4,5] [(16,(ii u.item))] [0] fun a H=>An.two 6 10 kr ?_ ?_
 ·refine Op.call H 17 rfl kr (Eq.trans (kr:_=(callFunc 43 #[(sL LA lib.length lc),(ii u.item)]).run Tryz.prog w_3) (Tryz.call43 _ _)) (by have hh:=mfind_any LA lib.length lc lib u.item w_3 (HP.fact 0 rfl) hln hlp;rw[hfa] at hh;exact hh) ?_;rintro e w_4 ⟨FB,fc,rfl,hfp,hfc1,hfc2,hfc3,hbf,hfr⟩;refine⟨_,rfl,?_⟩;intro a H;have HP:=(HP.next hbf).keepF ⟨rowFp (fa.getD astZ).pics.length FB,fun w=>IsPics w FB (fa.getD astZ).pics.length (fa.getD astZ).pics⟩ hfp (fun _ _ h hk hs=>⟨h.1,h.2.keep hk hs⟩) (fun j hj=>row_sep HP hfp.2 hfr hj);refine⟨.inr (HP.untop),?_⟩;refine An.go H (.inr (HP.untop)) 3 [7,8,9] [(18,(.agg #[(ii ((fa.getD astZ).item)),(sL FB ((fa.getD astZ).pics.length) fc)])),(19,(.bool fa.isSome))] [] fun a H=>An.one 10 kr<|Op.alloc H HP 7 (fun b=>(pt b 0)) 91 [zO,zN] rfl kr (fun w=>kr) fun b_5 w_6 a H HP=>⟨.inr ((HP.tail rfl).untop),?_⟩
  refine An.one 11 kr<|Op.sh H HP 0 0 (.agg #[(ii ((fa.getD astZ).item)),(sL FB ((fa.getD astZ).pics.length) fc)]) rfl rfl fun w_7 a H HP=>⟨.inr ((HP.tail rfl).untop),?_⟩;refine An.go H (.inr ((HP.tail rfl).untop)) 0 [12] [(8,(.bool fa.isSome))] [] fun a H=>An.done kr<|ztn<|zsq<|zq<|H.gn HP 3 [(22,(.bool (!fa.isSome)))] fun a H=>H.split 22 rfl (fun g22 H=>?_) (fun g22 H=>?_)
  ·have g22p:=not_is_true g22;refine H.gz HP [(39,zT)] fun a H=>w_ift H rfl<|zq<|H.gz HP [(6,zF)] fun a H=>zrt<|ztr<|H.r1 zF Tryz.results128 ?_;exact⟨congrArg (fun b=>Ending.returned (.bool b)) (enters_no hfa (.inl g22p)).symm,HP.bl⟩
  have g22p:=not_is_false g22;refine H.go HP 5 [(27,(.bool (!u.key)))] [1] fun a H=>H.split 27 rfl (fun g27 H=>?_) (fun g27 H=>?_)
  ·have g27p:=not_is_true g27;refine H.gz HP [(39,zT)] fun a H=>w_ift H rfl<|zq<|H.gz HP [(6,zF)] fun a H=>zrt<|ztr<|H.r1 zF Tryz.results128 ?_;exact⟨congrArg (fun b=>Ending.returned (.bool b)) (enters_no hfa (.inr (.inl g27p))).symm,HP.bl⟩
  have g27p:=not_is_false g27;refine H.go HP 5 [(32,(.bool (decide (u.index<0))))] [1] fun a H=>H.split 32 rfl (fun g32 H=>?_) (fun g32 H=>?_)
  ·have g32p:=of_decide_eq_true g32;refine H.gz HP [(39,zT)] fun a H=>w_ift H rfl<|zq<|H.gz HP [(6,zF)] fun a H=>zrt<|ztr<|H.r1 zF Tryz.results128 ?_;exact⟨congrArg (fun b=>Ending.returned (.bool b)) (enters_no hfa (.inr (.inr (.inl g32p)))).symm,HP.bl⟩
  have g32p:=of_decide_eq_false g32;refine H.gy HP [(39,(.bool (decide (u.index≥(((fa.getD astZ).pics.length:Nat):Int)))))] [1,0] fun a H=>w_if H rfl (fun g39=>?_) (fun g39=>?_)
  ·have g39p:=of_decide_eq_true g39;refine zq<|H.gz HP [(6,zF)] fun a H=>zrt<|ztr<|H.r1 zF Tryz.results128 ?_;exact⟨congrArg (fun b=>Ending.returned (.bool b)) (enters_no hfa (.inr (.inr (.inr om)))).symm,HP.bl⟩
  have g39p:=of_decide_eq_false g39;refine zsk (ztn (zsq ?_));obtain⟨kx,hkx⟩:∃kx:Nat,u.index=(kx:Int):=⟨u.index.toNat,om⟩
  refine An.start (fun v=>Hp w v [bx b_5 91 [(ii ((fa.getD astZ).item)),(sL FB ((fa.getD astZ).pics.length) fc)] true,bx b_1 76 (ul u u.A u.c) true] [⟨rowFp (fa.getD astZ).pics.length FB,fun w=>IsPics w FB (fa.getD astZ).pics.length (fa.getD astZ).pics⟩,astsK LA lib,boxK bs 111 [(sB bc n cc),(sL LA lib.length lc),(.bool hd),(ii at_),(ii od)],boxK bc 115 (pre++[(ii c.item),(ii c.index),(ii c.full),(ii c.taken),(ii c.number),(ii c.num),(ii c.den)]++post)]) 11 11 HP wide_follows rfl fun w_8 HP=>An.go H (.inr HP) 8 [0,2,3] [(41,(.agg #[(ii ((fa.getD astZ).item)),(sL FB ((fa.getD astZ).pics.length) fc)])),(44,(ii u.index))] [0,1] fun a H=>An.one 1 kr<|Op.call H 42 rfl kr (Eq.trans (kr:_=(callFunc 30 #[(.agg #[(ii ((fa.getD astZ).item)),(sL FB ((fa.getD astZ).pics.length) fc)])]).run Tryz.prog w_8) (Tryz.call30 _ _)) (msizes_any _ FB _ fc (fa.getD astZ).pics w_8 (HP.fact 0 rfl) hpl) ?_
  rintro e w_9 ⟨ZB,zc,rfl,hzi,hzc1,hzc2,hzc3,hbz⟩;refine⟨_,rfl,?_⟩;intro a H;have HP:=HP.next hbz
  have hzl:(sizesP (fa.getD astZ).pics).length=(fa.getD astZ).pics.length:=by unfold sizesP;exact List.length_map ..
  have hkl:kx≤(sizesP (fa.getD astZ).pics).length:=om;refine⟨.inr HP,?_⟩;refine An.q H (.inr HP) 4 45 (sL (dropA ZB zc kx 1) ((sizesP (fa.getD astZ).pics).length-kx) (zc-kx)) (fun _=>ex_sliceLo (A:=ZB) (len:=(sizesP (fa.getD astZ).pics).length) (cap:=zc) (i:=kx) (sz:=1) (lo:=u.index) kr kr kr kr hkx hkl) fun a H=>An.one 5 kr<|Op.call H 46 rfl kr (Eq.trans (kr:_=(callFunc 171 #[(sL (dropA ZB zc kx 1) ((sizesP (fa.getD astZ).pics).length-kx) (zc-kx))]).run Tryz.prog w_9) (Tryz.call171 _ _)) (by have hh:=vbvNeed_any (dropA ZB zc kx 1) ((sizesP (fa.getD astZ).pics).length-kx) (zc-kx) ((sizesP (fa.getD astZ).pics).drop kx) w_9 (ints_drop hzi hzc1 hkl) om;exact hh) ?_;rintro e w_10 ⟨rfl,hbn⟩;refine⟨_,rfl,?_⟩;intro a H;have HP:=HP.next hbn
  refine⟨.inr HP,?_⟩;refine An.go H (.inr HP) 0 [6,7,8,9,10] [(9,(ii ((needOf ((sizesP (fa.getD astZ).pics).drop kx)).getD 0))),(8,(.bool ((needOf ((sizesP (fa.getD astZ).pics).drop kx)).isSome)))] [] fun a H=>An.done kr<|zt<|H.gn HP 2 [(50,(.bool ((needOf ((sizesP (fa.getD astZ).pics).drop kx)).isSome)))] fun a H=>H.split 50 rfl (fun g50 H=>?_) (fun g50 H=>?_)
  ·have g50p:=g50;refine H.gn HP 4 [(54,(.pointer (some ⟨bc,o+2,none⟩)))] fun a H=>H.u 55 (ii c.full) (ex_l1 (win_cell (k:=2) (HP.fact 3 rfl:Box _ bc 115 _) ho rfl)) fun a H=>H.gz HP [(6,(.bool (decide (c.full≥((needOf ((sizesP (fa.getD astZ).pics).drop kx)).getD 0)))))] fun a H=>zrt<|H.r1 (.bool (decide (c.full≥((needOf ((sizesP (fa.getD astZ).pics).drop kx)).getD 0)))) Tryz.results128 ?_;exact⟨congrArg (fun b=>Ending.returned (.bool b)) (by rw[enters_yes hfa g22p g27p om om hkx,g50p];simp),HP.bl⟩
  have g50p:=g50;refine H.gz HP [(6,zF)] fun a H=>zrt<|H.r1 zF Tryz.results128 ?_;exact⟨congrArg (fun b=>Ending.returned (.bool b)) (by rw[enters_yes hfa g22p g27p om om hkx,g50p];simp),HP.bl⟩
 refine Op.alloc H HP 7 (fun b=>(pt b 0)) 91 [zO,zN] rfl kr (fun w=>kr) fun b_11 w_12 a H HP=>⟨.inr (HP.t1),?_⟩;refine An.one 6 kr<|Op.call H 17 rfl kr (Eq.trans (kr:_=(callFunc 43 #[(sL LA lib.length lc),(ii u.item)]).run Tryz.prog w_12) (Tryz.call43 _ _)) (by have hh:=mfind_any LA lib.length lc lib u.item w_12 (HP.fact 0 rfl) hln hlp;rw[hfa] at hh;exact hh) ?_;rintro e w_13 ⟨FB,fc,rfl,hfp,hfc1,hfc2,hfc3,hbf,hfr⟩;refine⟨_,rfl,?_⟩;intro a H;have HP:=(HP.next hbf).keepF ⟨rowFp (fa.getD astZ).pics.length FB,fun w=>IsPics w FB (fa.getD astZ).pics.length (fa.getD astZ).pics⟩ hfp (fun _ _ h hk hs=>⟨h.1,h.2.keep hk hs⟩) (fun j hj=>row_sep HP hfp.2 hfr hj);refine⟨.inr ((HP.tail rfl).untop),?_⟩
 refine An.go H (.inr ((HP.tail rfl).untop)) 2 [7,8,9] [(18,(.agg #[(ii ((fa.getD astZ).item)),(sL FB ((fa.getD astZ).pics.length) fc)])),(19,(.bool fa.isSome))] [] fun a H=>An.one 11 kr<|Op.sh H HP 0 0 (.agg #[(ii ((fa.getD astZ).item)),(sL FB ((fa.getD astZ).pics.length) fc)]) rfl rfl fun w_14 a H HP=>⟨.inr ((HP.tail rfl).untop),?_⟩;refine An.go H (.inr ((HP.tail rfl).untop)) 0 [12] [(8,(.bool fa.isSome))] [] fun a H=>An.done kr<|ztn<|zsq<|zq<|H.gn HP 3 [(22,(.bool (!fa.isSome)))] fun a H=>H.split 22 rfl (fun g22 H=>?_) (fun g22 H=>?_)
 ·have g22p:=not_is_true g22;refine H.gz HP [(39,zT)] fun a H=>w_ift H rfl<|zq<|H.gz HP [(6,zF)] fun a H=>zrt<|ztr<|H.r1 zF Tryz.results128 ?_;exact⟨congrArg (fun b=>Ending.returned (.bool b)) (enters_no hfa (.inl g22p)).symm,HP.bl⟩
 have g22p:=not_is_false g22;refine H.go HP 5 [(27,(.bool (!u.key)))] [1] fun a H=>H.split 27 rfl (fun g27 H=>?_) (fun g27 H=>?_)
 ·have g27p:=not_is_true g27;refine H.gz HP [(39,zT)] fun a H=>w_ift H rfl<|zq<|H.gz HP [(6,zF)] fun a H=>zrt<|ztr<|H.r1 zF Tryz.results128 ?_;exact⟨congrArg (fun b=>Ending.returned (.bool b)) (enters_no hfa (.inr (.inl g27p))).symm,HP.bl⟩
 have g27p:=not_is_false g27;refine H.go HP 5 [(32,(.bool (decide (u.index<0))))] [1] fun a H=>H.split 32 rfl (fun g32 H=>?_) (fun g32 H=>?_)
 ·have g32p:=of_decide_eq_true g32;refine H.gz HP [(39,zT)] fun a H=>w_ift H rfl<|zq<|H.gz HP [(6,zF)] fun a H=>zrt<|ztr<|H.r1 zF Tryz.results128 ?_;exact⟨congrArg (fun b=>Ending.returned (.bool b)) (enters_no hfa (.inr (.inr (.inl g32p)))).symm,HP.bl⟩
 have g32p:=of_decide_eq_false g32;refine H.gy HP [(39,(.bool (decide (u.index≥(((fa.getD astZ).pics.length:Nat):Int)))))] [1,0] fun a H=>w_if H rfl (fun g39=>?_) (fun g39=>?_)
 ·have g39p:=of_decide_eq_true g39;refine zq<|H.gz HP [(6,zF)] fun a H=>zrt<|ztr<|H.r1 zF Tryz.results128 ?_;exact⟨congrArg (fun b=>Ending.returned (.bool b)) (enters_no hfa (.inr (.inr (.inr om)))).symm,HP.bl⟩
 have g39p:=of_decide_eq_false g39;refine zsk (ztn (zsq ?_));obtain⟨kx,hkx⟩:∃kx:Nat,u.index=(kx:Int):=⟨u.index.toNat,om⟩
 refine An.start (fun v=>Hp w v [bx b_11 91 [(ii ((fa.getD astZ).item)),(sL FB ((fa.getD astZ).pics.length) fc)] true,bx b_1 76 (ul u u.A u.c) true] [⟨rowFp (fa.getD astZ).pics.length FB,fun w=>IsPics w FB (fa.getD astZ).pics.length (fa.getD astZ).pics⟩,astsK LA lib,boxK bs 111 [(sB bc n cc),(sL LA lib.length lc),(.bool hd),(ii at_),(ii od)],boxK bc 115 (pre++[(ii c.item),(ii c.index),(ii c.full),(ii c.taken),(ii c.number),(ii c.num),(ii c.den)]++post)]) 11 11 HP wide_follows rfl fun w_15 HP=>An.go H (.inr HP) 8 [0,2,3] [(41,(.agg #[(ii ((fa.getD astZ).item)),(sL FB ((fa.getD astZ).pics.length) fc)])),(44,(ii u.index))] [0,1] fun a H=>An.one 1 kr<|Op.call H 42 rfl kr (Eq.trans (kr:_=(callFunc 30 #[(.agg #[(ii ((fa.getD astZ).item)),(sL FB ((fa.getD astZ).pics.length) fc)])]).run Tryz.prog w_15) (Tryz.call30 _ _)) (msizes_any _ FB _ fc (fa.getD astZ).pics w_15 (HP.fact 0 rfl) hpl) ?_
 rintro e w_16 ⟨ZB,zc,rfl,hzi,hzc1,hzc2,hzc3,hbz⟩;refine⟨_,rfl,?_⟩;intro a H;have HP:=HP.next hbz
 have hzl:(sizesP (fa.getD astZ).pics).length=(fa.getD astZ).pics.length:=by unfold sizesP;exact List.length_map ..
 have hkl:kx≤(sizesP (fa.getD astZ).pics).length:=om;refine⟨.inr HP,?_⟩;refine An.q H (.inr HP) 4 45 (sL (dropA ZB zc kx 1) ((sizesP (fa.getD astZ).pics).length-kx) (zc-kx)) (fun _=>ex_sliceLo (A:=ZB) (len:=(sizesP (fa.getD astZ).pics).length) (cap:=zc) (i:=kx) (sz:=1) (lo:=u.index) kr kr kr kr hkx hkl) fun a H=>An.one 5 kr<|Op.call H 46 rfl kr (Eq.trans (kr:_=(callFunc 171 #[(sL (dropA ZB zc kx 1) ((sizesP (fa.getD astZ).pics).length-kx) (zc-kx))]).run Tryz.prog w_16) (Tryz.call171 _ _)) (by have hh:=vbvNeed_any (dropA ZB zc kx 1) ((sizesP (fa.getD astZ).pics).length-kx) (zc-kx) ((sizesP (fa.getD astZ).pics).drop kx) w_16 (ints_drop hzi hzc1 hkl) om;exact hh) ?_;rintro e w_17 ⟨rfl,hbn⟩;refine⟨_,rfl,?_⟩;intro a H;have HP:=HP.next hbn
 refine⟨.inr HP,?_⟩;refine An.go H (.inr HP) 0 [6,7,8,9,10] [(9,(ii ((needOf ((sizesP (fa.getD astZ).pics).drop kx)).getD 0))),(8,(.bool ((needOf ((sizesP (fa.getD astZ).pics).drop kx)).isSome)))] [] fun a H=>An.done kr<|zt<|H.gn HP 2 [(50,(.bool ((needOf ((sizesP (fa.getD astZ).pics).drop kx)).isSome)))] fun a H=>H.split 50 rfl (fun g50 H=>?_) (fun g50 H=>?_)
 ·have g50p:=g50;refine H.gn HP 4 [(54,(.pointer (some ⟨bc,o+2,none⟩)))] fun a H=>H.u 55 (ii c.full) (ex_l1 (win_cell (k:=2) (HP.fact 3 rfl:Box _ bc 115 _) ho rfl)) fun a H=>H.gz HP [(6,(.bool (decide (c.full≥((needOf ((sizesP (fa.getD astZ).pics).drop kx)).getD 0)))))] fun a H=>zrt<|H.r1 (.bool (decide (c.full≥((needOf ((sizesP (fa.getD astZ).pics).drop kx)).getD 0)))) Tryz.results128 ?_;exact⟨congrArg (fun b=>Ending.returned (.bool b)) (by rw[enters_yes hfa g22p g27p om om hkx,g50p];simp),HP.bl⟩
 have g50p:=g50;refine H.gz HP [(6,zF)] fun a H=>zrt<|H.r1 zF Tryz.results128 ?_;exact⟨congrArg (fun b=>Ending.returned (.bool b)) (by rw[enters_yes hfa g22p g27p om om hkx,g50p];simp),HP.bl⟩
def rule3 (fl:Option Int) (u:Un):Bool:=match fl with
 |none=>false
 |some x=>decide (x≤u.version)
theorem rule1_any (be bu bcp bf bc o:Nat) (err fr:Int) (pre post:List Value) (c:Ch) (u:Un) (w:World) (ho:pre.length=o) (hE:Box w be 30 [(ii err)].toArray) (hU:Box w bu 76 (ul u u.A u.c).toArray) (hP:Box w bcp 129 [(pt bc o)].toArray) (hF:Box w bf 3 [(ii fr)].toArray) (hC:Box w bc 115 (pre++[(ii c.item),(ii c.index),(ii c.full),(ii c.taken),(ii c.number),(ii c.num),(ii c.den)]++post).toArray):
  Calls Tryz.prog 123 #[(pt be 0),(pt bu 0),(pt bcp 0),(pt bf 0)] w fun e w'=>e=.returned (.bool ((err == 0)&&((u.channel == c.number)&&(u.frame == fr))))∧Below w.heap.size w w':=by
 have HP:=((((((Hp.start w).keepF (boxK bc 115 (pre++[(ii c.item),(ii c.index),(ii c.full),(ii c.taken),(ii c.number),(ii c.num),(ii c.den)]++post)) hC (boxK_ok _ _ _) (fun k hk=>⟨boxK_lt hC hk,fun x hx=>by cases hx⟩)).keepF (boxK bf 3 [(ii fr)]) hF (boxK_ok _ _ _) (fun k hk=>⟨boxK_lt hF hk,fun x hx=>by cases hx⟩)).keepF (boxK bcp 129 [(pt bc o)]) hP (boxK_ok _ _ _) (fun k hk=>⟨boxK_lt hP hk,fun x hx=>by cases hx⟩)).keepF (boxK bu 76 (ul u u.A u.c)) hU (boxK_ok _ _ _) (fun k hk=>⟨boxK_lt hU hk,fun x hx=>by cases hx⟩)).keepF (boxK be 30 [(ii err)]) hE (boxK_ok _ _ _) (fun k hk=>⟨boxK_lt hE hk,fun x hx=>by cases hx⟩))
 refine w_enter 22 [(0,(pt be 0)),(1,(pt bu 0)),(2,(pt bcp 0)),(3,(pt bf 0))] Tryz.func123 rfl Tryz.ntmps123 kr kr fun a H=>zq<|H.gz HP [(4,zF)] fun a H=>zsq<|An.start (fun v=>Hp w v [] [boxK be 30 [(ii err)],boxK bu 76 (ul u u.A u.c),boxK bcp 129 [(pt bc o)],boxK bf 3 [(ii fr)],boxK bc 115 (pre++[(ii c.item),(ii c.index),(ii c.full),(ii c.taken),(ii c.number),(ii c.num),(ii c.den)]++post)]) 18 18 HP wide_follows rfl fun w_1 HP=>An.vw H HP 0 5 (ii err) (fun _ hS=>ex_l1 (Box.cell (i:=0) (hS.fact 0 rfl:Box _ be 30 _) rfl)) fun a H=>An.go H (.inr HP) 15 [1,2] [(7,(.bool (err == 0)))] [] fun a H=>H.split 7 rfl (fun g7 H=>?_) (fun g7 H=>?_)
 ·have g7p:=eq_of_beq g7;refine An.go H (.inr HP) 14 [3] [(8,(pt bu 0))] [] fun a H=>An.vw H HP 4 9 (ii u.channel) (fun _ hS=>ex_l1 (Box.cell (i:=0) (hS.fact 1 rfl:Box _ bu 76 _) rfl)) fun a H=>An.vw H HP 5 10 (pt bc o) (fun _ hS=>ex_l1 (Box.cell (i:=0) (hS.fact 2 rfl:Box _ bcp 129 _) rfl)) fun a H=>An.go H (.inr HP) 10 [6,7] [(12,(.pointer (some ⟨bc,o+4,none⟩)))] [] fun a H=>An.vw H HP 8 13 (ii c.number) (fun _ hS=>ex_l1 (win_cell (k:=4) (hS.fact 4 rfl:Box _ bc 115 _) ho rfl)) fun a H=>An.go H (.inr HP) 6 [9,10,11] [(16,(.bool (u.channel == c.number)))] [] fun a H=>H.split 16 rfl (fun g16 H=>?_) (fun g16 H=>?_)
  ·have g16p:=eq_of_beq g16;refine An.go H (.inr HP) 5 [12] [(17,(pt bu 1))] [] fun a H=>An.vw H HP 13 18 (ii u.frame) (fun _ hS=>ex_l1 (Box.cell (i:=1) (hS.fact 1 rfl:Box _ bu 76 _) rfl)) fun a H=>An.vw H HP 14 19 (ii fr) (fun _ hS=>ex_l1 (Box.cell (i:=0) (hS.fact 3 rfl:Box _ bf 3 _) rfl)) fun a H=>An.go H (.inr HP) 0 [15,16,17] [(4,(.bool (u.frame == fr)))] [] fun a H=>An.done kr<|ztn<|zrt<|H.r1 (.bool (u.frame == fr)) Tryz.results123 ?_;exact⟨congrArg (fun b=>Ending.returned (.bool b)) (by simp_all),HP.bl⟩
  have g16p:=ne_of_beq_false g16;refine An.go H (.inr HP) 0 [12,13,14,15,16,17] [(4,zF)] [] fun a H=>An.done kr<|ztn<|zrt<|H.r1 zF Tryz.results123 ?_;exact⟨congrArg (fun b=>Ending.returned (.bool b)) (by simp_all),HP.bl⟩
 have g7p:=ne_of_beq_false g7;refine An.go H (.inr HP) 0 [3,4,5,6,7,8,9,10,11,12,13,14,15,16,17] [(4,zF)] [] fun a H=>An.done kr<|ztn<|zrt<|H.r1 zF Tryz.results123 ?_;exact⟨congrArg (fun b=>Ending.returned (.bool b)) (by simp_all),HP.bl⟩
theorem rule2_any (bsp bu bs bc n cc:Nat) (lc:Nat) (LA:Option Addr) (lib:List AstA) (hd:Bool) (at_ od:Int) (u:Un) (w:World) (hlib:IsAsts w LA lib.length lib) (hln:lib.length≤maxLen) (hlp:∀a∈lib,a.pics.length≤2000000) (hS:Box w bs 111 [(sB bc n cc),(sL LA lib.length lc),(.bool hd),(ii at_),(ii od)].toArray) (hB:Box w bsp 29 [(pt bs 0)].toArray) (hU:Box w bu 76 (ul u u.A u.c).toArray):
  Calls Tryz.prog 124 #[(pt bsp 0),(pt bu 0)] w fun e w'=>e=.returned (.bool (genuineP lib u))∧Below w.heap.size w w':=by
 have HP:=(((((Hp.start w).keepF (boxK bu 76 (ul u u.A u.c)) hU (boxK_ok _ _ _) (fun k hk=>⟨boxK_lt hU hk,fun x hx=>by cases hx⟩)).keepF (boxK bsp 29 [(pt bs 0)]) hB (boxK_ok _ _ _) (fun k hk=>⟨boxK_lt hB hk,fun x hx=>by cases hx⟩)).keepF (boxK bs 111 [(sB bc n cc),(sL LA lib.length lc),(.bool hd),(ii at_),(ii od)]) hS (boxK_ok _ _ _) (fun k hk=>⟨boxK_lt hS hk,fun x hx=>by cases hx⟩)).keepF (astsK LA lib) hlib (fun _ _ h hk hs=>IsAsts.keep h hk hs) (fun k hk=>⟨IsAsts.lt hlib hk,fun x hx=>by cases hx⟩))
 refine w_enter 9 [(0,(pt bsp 0)),(1,(pt bu 0))] Tryz.func124 rfl Tryz.ntmps124 kr kr fun a H=>zq<|H.gz HP [(2,zF)] fun a H=>zsq<|An.start (fun v=>Hp w v [] [astsK LA lib,boxK bs 111 [(sB bc n cc),(sL LA lib.length lc),(.bool hd),(ii at_),(ii od)],boxK bsp 29 [(pt bs 0)],boxK bu 76 (ul u u.A u.c)]) 7 7 HP wide_follows rfl fun w_1 HP=>An.vw H HP 0 3 (pt bs 0) (fun _ hS=>ex_l1 (Box.cell (i:=0) (hS.fact 2 rfl:Box _ bsp 29 _) rfl)) fun a H=>An.go H (.inr HP) 4 [1,2] [(4,(pt bs 0)),(5,(pt bs 1))] [] fun a H=>An.vw H HP 3 6 (sL LA lib.length lc) (fun _ hS=>ex_l1 (Box.cell (i:=1) (hS.fact 1 rfl:Box _ bs 111 _) rfl)) fun a H=>An.vw H HP 4 7 (.agg (ua u u.A u.c)) (fun _ hS=>ex_lN (ul u u.A u.c) (boxCells (hS.fact 3 rfl:Box _ bu 76 _))) fun a H=>An.one 5 kr<|Op.cb H HP 8 (Tryz.call27 _ _) (genuine_any LA lc lib u w_1 (HP.fact 0 rfl) hln hlp) fun w_2 hb a H HP=>⟨.inr HP,?_⟩
 refine An.go H (.inr HP) 0 [6] [(2,(.bool (genuineP lib u)))] [] fun a H=>An.done kr<|ztn<|zrt<|H.r1 (.bool (genuineP lib u)) Tryz.results124 ?_;exact⟨rfl,HP.bl⟩
theorem rule3_any (bsp bf bu bs bc n cc:Nat) (lc:Nat) (LA:Option Addr) (lib:List AstA) (hd:Bool) (at_ od fr:Int) (u:Un) (w:World) (hn:0<n) (hat:0≤at_∧at_≤9223372036854775807) (hfr:-9223372036854775808≤fr∧fr≤9223372036854775807) (hS:Box w bs 111 [(sB bc n cc),(sL LA lib.length lc),(.bool hd),(ii at_),(ii od)].toArray) (hB:Box w bsp 29 [(pt bs 0)].toArray) (hF:Box w bf 3 [(ii fr)].toArray) (hU:Box w bu 76 (ul u u.A u.c).toArray):
  Calls Tryz.prog 125 #[(pt bsp 0),(pt bf 0),(pt bu 0)] w fun e w'=>e=.returned (.bool (rule3 (floorP hd at_ od fr) u))∧Below w.heap.size w w':=by
 have HP:=(((((Hp.start w).keepF (boxK bu 76 (ul u u.A u.c)) hU (boxK_ok _ _ _) (fun k hk=>⟨boxK_lt hU hk,fun x hx=>by cases hx⟩)).keepF (boxK bf 3 [(ii fr)]) hF (boxK_ok _ _ _) (fun k hk=>⟨boxK_lt hF hk,fun x hx=>by cases hx⟩)).keepF (boxK bsp 29 [(pt bs 0)]) hB (boxK_ok _ _ _) (fun k hk=>⟨boxK_lt hB hk,fun x hx=>by cases hx⟩)).keepF (boxK bs 111 [(sB bc n cc),(sL LA lib.length lc),(.bool hd),(ii at_),(ii od)]) hS (boxK_ok _ _ _) (fun k hk=>⟨boxK_lt hS hk,fun x hx=>by cases hx⟩))
 refine w_enter 19 [(0,(pt bsp 0)),(1,(pt bf 0)),(2,(pt bu 0))] Tryz.func125 rfl Tryz.ntmps125 kr kr fun a H=>zq<|H.gz HP [(3,zF)] fun a H=>zq<|H.u 7 (pt bs 0) (ex_l1 (Box.cell (i:=0) (HP.fact 1 rfl:Box _ bsp 29 _) rfl)) fun a H=>H.u 8 (ii fr) (ex_l1 (Box.cell (i:=0) (HP.fact 2 rfl:Box _ bf 3 _) rfl)) fun a H=>H.cb HP 9 (Tryz.call25 _ _) (floor_any bs bc n cc LA lib lc hd at_ od fr w (HP.fact 0 rfl) hn hat hfr) fun w_1 hb a H HP=>H.gz HP [(4,(ii ((floorP hd at_ od fr).getD 0))),(5,(.bool ((floorP hd at_ od fr).isSome)))] fun a H=>zq<|H.gn HP 2 [(13,(.bool ((floorP hd at_ od fr).isSome)))] fun a H=>H.split 13 rfl (fun g13 H=>?_) (fun g13 H=>?_)
 ·have g13p:=g13;refine H.gn HP 1 [(14,(pt bu 2))] fun a H=>H.u 15 (ii u.version) (ex_l1 (Box.cell (i:=2) (HP.fact 3 rfl:Box _ bu 76 _) rfl)) fun a H=>H.gz HP [(3,(.bool (decide (u.version≥((floorP hd at_ od fr).getD 0)))))] fun a H=>zrt<|H.r1 (.bool (decide (u.version≥((floorP hd at_ od fr).getD 0)))) Tryz.results125 ?_;exact⟨congrArg (fun b=>Ending.returned (.bool b)) (by unfold rule3;cases hx:floorP hd at_ od fr<;>simp_all),HP.bl⟩
 have g13p:=g13;refine H.gz HP [(3,zF)] fun a H=>zrt<|H.r1 zF Tryz.results125 ?_;exact⟨congrArg (fun b=>Ending.returned (.bool b)) (by unfold rule3;cases hx:floorP hd at_ od fr<;>simp_all),HP.bl⟩
theorem rule4_any (bu bcp bsp bs bc n cc o:Nat) (lc:Nat) (LA:Option Addr) (lib:List AstA) (hd:Bool) (at_ od:Int) (pre post:List Value) (c:Ch) (u:Un) (w:World) (ho:pre.length=o) (hix:-1≤c.index∧c.index≤1000000000) (hlib:IsAsts w LA lib.length lib) (hln:lib.length≤maxLen) (hlp:∀a∈lib,a.pics.length≤2000000) (hS:Box w bs 111 [(sB bc n cc),(sL LA lib.length lc),(.bool hd),(ii at_),(ii od)].toArray) (hB:Box w bsp 29 [(pt bs 0)].toArray) (hC:Box w bc 115 (pre++[(ii c.item),(ii c.index),(ii c.full),(ii c.taken),(ii c.number),(ii c.num),(ii c.den)]++post).toArray) (hP:Box w bcp 129 [(pt bc o)].toArray) (hU:Box w bu 76 (ul u u.A u.c).toArray):
  Calls Tryz.prog 126 #[(pt bu 0),(pt bcp 0),(pt bsp 0)] w fun e w'=>e=.returned (.bool ((u.item == 0)||(contS c u||entersS lib c.full u)))∧Below w.heap.size w w':=by
 have HP:=(((((((Hp.start w).keepF (boxK bu 76 (ul u u.A u.c)) hU (boxK_ok _ _ _) (fun k hk=>⟨boxK_lt hU hk,fun x hx=>by cases hx⟩)).keepF (boxK bcp 129 [(pt bc o)]) hP (boxK_ok _ _ _) (fun k hk=>⟨boxK_lt hP hk,fun x hx=>by cases hx⟩)).keepF (boxK bc 115 (pre++[(ii c.item),(ii c.index),(ii c.full),(ii c.taken),(ii c.number),(ii c.num),(ii c.den)]++post)) hC (boxK_ok _ _ _) (fun k hk=>⟨boxK_lt hC hk,fun x hx=>by cases hx⟩)).keepF (boxK bsp 29 [(pt bs 0)]) hB (boxK_ok _ _ _) (fun k hk=>⟨boxK_lt hB hk,fun x hx=>by cases hx⟩)).keepF (boxK bs 111 [(sB bc n cc),(sL LA lib.length lc),(.bool hd),(ii at_),(ii od)]) hS (boxK_ok _ _ _) (fun k hk=>⟨boxK_lt hS hk,fun x hx=>by cases hx⟩)).keepF (astsK LA lib) hlib (fun _ _ h hk hs=>IsAsts.keep h hk hs) (fun k hk=>⟨IsAsts.lt hlib hk,fun x hx=>by cases hx⟩))
 refine w_enter 20 [(0,(pt bu 0)),(1,(pt bcp 0)),(2,(pt bsp 0))] Tryz.func126 rfl Tryz.ntmps126 kr kr fun a H=>zq<|H.gz HP [(3,zF)] fun a H=>zsq<|An.start (fun v=>Hp w v [] [astsK LA lib,boxK bs 111 [(sB bc n cc),(sL LA lib.length lc),(.bool hd),(ii at_),(ii od)],boxK bsp 29 [(pt bs 0)],boxK bc 115 (pre++[(ii c.item),(ii c.index),(ii c.full),(ii c.taken),(ii c.number),(ii c.num),(ii c.den)]++post),boxK bcp 129 [(pt bc o)],boxK bu 76 (ul u u.A u.c)]) 17 17 HP wide_follows rfl fun w_1 HP=>An.go H (.inr HP) 16 [0] [(4,(pt bu 3))] [] fun a H=>An.vw H HP 1 5 (ii u.item) (fun _ hS=>ex_l1 (Box.cell (i:=3) (hS.fact 5 rfl:Box _ bu 76 _) rfl)) fun a H=>An.go H (.inr HP) 13 [2,3] [(7,(.bool (u.item == 0)))] [] fun a H=>H.split 7 rfl (fun g7 H=>?_) (fun g7 H=>?_)
 ·have g7p:=eq_of_beq g7;refine An.go H (.inr HP) 0 [4,5,6,7,8,9,10,11,12,13,14,15,16] [(3,zT)] [] fun a H=>An.done kr<|ztn<|zrt<|H.r1 zT Tryz.results126 ?_;exact⟨congrArg (fun b=>Ending.returned (.bool b)) (by simp_all),HP.bl⟩
 have g7p:=ne_of_beq_false g7;refine An.vw H HP 4 8 (pt bc o) (fun _ hS=>ex_l1 (Box.cell (i:=0) (hS.fact 4 rfl:Box _ bcp 129 _) rfl)) fun a H=>An.go H (.inr HP) 10 [5,6] [(10,(pt bc o))] [] fun a H=>An.vw H HP 7 11 (.agg (ua u u.A u.c)) (fun _ hS=>ex_lN (ul u u.A u.c) (boxCells (hS.fact 5 rfl:Box _ bu 76 _))) fun a H=>An.one 8 kr<|Op.cb H HP 12 (Tryz.call127 _ _) (cont_any bc o pre post c u w_1 (HP.fact 3 rfl) ho hix) fun w_2 hb a H HP=>⟨.inr HP,?_⟩;refine An.go H (.inr HP) 6 [9,10] [(14,(.bool (contS c u)))] [] fun a H=>H.split 14 rfl (fun g14 H=>?_) (fun g14 H=>?_)
 ·have g14p:=g14;refine An.go H (.inr HP) 0 [11,12,13,14,15,16] [(3,zT)] [] fun a H=>An.done kr<|ztn<|zrt<|H.r1 zT Tryz.results126 ?_;exact⟨congrArg (fun b=>Ending.returned (.bool b)) (by simp_all),HP.bl⟩
 have g14p:=g14;refine An.vw H HP 11 15 (pt bs 0) (fun _ hS=>ex_l1 (Box.cell (i:=0) (hS.fact 2 rfl:Box _ bsp 29 _) rfl)) fun a H=>An.vw H HP 12 16 (pt bc o) (fun _ hS=>ex_l1 (Box.cell (i:=0) (hS.fact 4 rfl:Box _ bcp 129 _) rfl)) fun a H=>An.vw H HP 13 17 (.agg (ua u u.A u.c)) (fun _ hS=>ex_lN (ul u u.A u.c) (boxCells (hS.fact 5 rfl:Box _ bu 76 _))) fun a H=>An.one 14 kr<|Op.cb H HP 18 (Tryz.call128 _ _) (enters_any bs bc n cc o lc LA lib hd at_ od pre post c u w_2 ho (HP.fact 0 rfl) hln hlp (HP.fact 1 rfl) (HP.fact 3 rfl)) fun w_3 hb a H HP=>⟨.inr HP,?_⟩;refine An.go H (.inr HP) 0 [15,16] [(3,(.bool (entersS lib c.full u)))] [] fun a H=>An.done kr<|ztn<|zrt<|H.r1 (.bool (entersS lib c.full u)) Tryz.results126 ?_;exact⟨congrArg (fun b=>Ending.returned (.bool b)) (by simp_all),HP.bl⟩
theorem rd_box {w:World}{b t:Nat}{vs:List Value}(h:Box w b t vs.toArray):Rd w 1 (some ⟨b,0,none⟩) vs.length vs:=
 ⟨(Nat.mul_one _).symm,.inr ⟨b,0,rfl,h.lt,fun i hi=>by
  have hi':i<vs.length:=om
  rw[Nat.zero_add,List.getElem?_eq_getElem hi']
  exact h.cell (by simp[List.getElem?_eq_getElem hi'])⟩⟩
theorem codeC_any (w:World):
  Calls Tryz.prog 97 #[.int .i64 1,.int .i64 0,.int .u8 0,.int .u8 0] w fun e w'=>e=.returned (.string (bstr [64,0,0]))∧Below w.heap.size w w':=by
 have HP:=Hp.start w;refine w_enter 18 [(0,(ii 1)),(1,zO),(2,(.int .u8 0)),(3,(.int .u8 0))] Tryz.func97 rfl Tryz.ntmps97 kr kr fun a H=>zq<|H.gz HP [(8,zS)] fun a H=>zq<|H.gn HP 1 [(9,(ii 1))] fun a H=>H.valE 10 (ii (IntKind.i64.wrap (1*64))) (ii 64) kr kr kr fun a H=>H.gn HP 1 [(11,zO)] fun a H=>H.valE 12 (ii (IntKind.i64.wrap (64+0))) (ii 64) kr kr kr fun a H=>H.valE 13 (.int .u8 (IntKind.u8.wrap 64)) (.int .u8 64) kr kr kr fun a H=>H.gn HP 2 [(14,(.int .u8 0)),(15,(.int .u8 0))] fun a H=>H.alloc HP 16 (fun b=>(sB b 3 3)) 5 [(.int .u8 64),(.int .u8 0),(.int .u8 0)] kr (fun w=>kr) fun b_1 w_2 a H HP=>H.u 17 (.string (bstr [64,0,0])) (ex_b2sR (l:=[64,0,0]) (e:=5) (m:=3) (c:=3) kr (rd_box (HP.at_ 0 rfl)) kr kr kr) fun a H=>H.gz HP [(8,(sS ([64,0,0])))] fun a H=>zrt<|H.r1 (sS ([64,0,0])) Tryz.results97 ?_;exact⟨rfl,HP.bl⟩
theorem codeI_any (w:World):
  Calls Tryz.prog 97 #[.int .i64 0,.int .i64 0,.int .u8 0,.int .u8 0] w fun e w'=>e=.returned (.string (bstr [0,0,0]))∧Below w.heap.size w w':=by
 have HP:=Hp.start w;refine w_enter 18 [(0,zO),(1,zO),(2,(.int .u8 0)),(3,(.int .u8 0))] Tryz.func97 rfl Tryz.ntmps97 kr kr fun a H=>zq<|H.gz HP [(8,zS)] fun a H=>zq<|H.gn HP 1 [(9,zO)] fun a H=>H.valE 10 (ii (IntKind.i64.wrap (0*64))) zO kr kr kr fun a H=>H.gn HP 1 [(11,zO)] fun a H=>H.valE 12 (ii (IntKind.i64.wrap (0+0))) zO kr kr kr fun a H=>H.valE 13 (.int .u8 (IntKind.u8.wrap 0)) (.int .u8 0) kr kr kr fun a H=>H.gn HP 2 [(14,(.int .u8 0)),(15,(.int .u8 0))] fun a H=>H.alloc HP 16 (fun b=>(sB b 3 3)) 5 [(.int .u8 0),(.int .u8 0),(.int .u8 0)] kr (fun w=>kr) fun b_1 w_2 a H HP=>H.u 17 (.string (bstr [0,0,0])) (ex_b2sR (l:=[0,0,0]) (e:=5) (m:=3) (c:=3) kr (rd_box (HP.at_ 0 rfl)) kr kr kr) fun a H=>H.gz HP [(8,(sS ([0,0,0])))] fun a H=>zrt<|H.r1 (sS ([0,0,0])) Tryz.results97 ?_;exact⟨rfl,HP.bl⟩
theorem codeN_any (fr:Int) (w:World):
  Calls Tryz.prog 59 #[.slice none 0 0,.int .i64 fr,.int .i64 fr] w fun e w'=>e=.returned (.string (bstr [64,0,0]))∧Below w.heap.size w w':=by
 have HP:=Hp.start w;refine w_enter 51 [(0,zN),(1,(ii fr)),(2,(ii fr))] Tryz.func59 rfl Tryz.ntmps59 kr kr fun a H=>zq<|H.gz HP [(6,zS)] fun a H=>zq<|H.cb HP 14 (Tryz.call97 _ _) (codeC_any w) fun w_1 hb a H HP=>H.gz HP [(7,(sS ([64,0,0])))] fun a H=>zsq<|zq<|H.ge HP [(17,(.bool (decide (fr≤fr))))] [] fun a H=>ztn ?_;have H:=H.as 17 zT rfl (congrArg Value.bool (decide_eq_true (Int.le_refl _)));refine w_ift H rfl<|zq<|H.gz HP [(6,(sS ([64,0,0])))] fun a H=>zrt<|ztr<|H.r1 (sS ([64,0,0])) Tryz.results59 ?_;exact⟨rfl,HP.bl⟩
theorem slate_any (ch fr:Int) (w:World):
  Calls Tryz.prog 42 #[.int .i64 ch,.int .i64 fr] w fun e w'=>e=.returned (slateU ch fr).val∧Below w.heap.size w w':=by
 have HP:=Hp.start w;refine w_enter 11 [(0,(ii ch)),(1,(ii fr))] Tryz.func42 rfl Tryz.ntmps42 kr kr fun a H=>zq<|H.al HP 4 76 zc0 fun b_1 w_2 a H HP=>znl<|zt<|H.gn HP 4 [(5,(ii ch)),(6,(ii fr)),(7,(ii fr)),(8,(ii fr))] fun a H=>H.cb HP 9 (Tryz.call59 _ _) (codeN_any fr w_2) fun w_3 hb a H HP=>H.gn HP 1 [(10,(.agg #[(ii ch),(ii fr),zO,zO,zO,zT,zS,(ii 255),(ii 1000),(sS ([64,0,0])),zO,zO,zN]))] fun a H=>H.sh HP 0 0 (.agg #[(ii ch),(ii fr),zO,zO,zO,zT,zS,(ii 255),(ii 1000),(sS ([64,0,0])),zO,zO,zN]) rfl fun w_4 a H HP=>znl<|ztn<|zrt<|H.ret1 (fn:=Tryz.f42) Tryz.results42 (RV.cellN (vs:=[(ii ch),(ii fr),zO,zO,zO,zT,zS,(ii 255),(ii 1000),(sS ([64,0,0])),zO,zO,zN]) (b:=b_1) (off:=0) (k:=13) kr kr kr rfl (HP.cells 0 rfl 0 13 kr)) ?_;exact⟨rfl,HP.bl⟩
def UnpR (rn rd:Int) (l:List UInt8) (U:Un) (er:Int):Prop:=(unpackP rn rd l=none∧U=zeroU∧er=180)∨(∃u,unpackP rn rd l=some u∧bareU U=u∧er=0)
def AccR (lib:List AstA) (fl:Option Int) (c:Ch) (f:Int) (l:List UInt8) (V:Un) (ok:Bool):Prop:=(acceptP lib fl c f l=none∧ok=false∧V=zeroU)∨(acceptP lib fl c f l=some (bareU V)∧ok=true)
theorem unpack_bare {rn rd:Int}{l:List UInt8}{u:Un}(h:unpackP rn rd l=some u):bareU u=u:=by
 unfold unpackP at h;split at h
 ·cases h
 ·split at h
  ·cases h
  ·split at h
   ·cases h
   ·split at h
    ·cases h;rfl
    ·cases h
theorem unpack_u (rn rd:Int) (l:List UInt8) (w:World) (hL:Laid w) (hl:l.length≤1000000) (hal:∀u,unpackP rn rd l=some u→u.al=[]):
  Calls Tryz.prog 122 #[.agg #[.int .i64 rn,.int .i64 rd],.string (bstr l)] w fun e w'=>∃U er,e=.returned (.tuple #[U.val,.int .i64 er])∧Below w.heap.size w w'∧U.al=[]∧UnpR rn rd l U er:=
 (unpack_any rn rd l w hL hl).mono fun e w' h=>by
  cases hr:unpackP rn rd l with
  |none=>rw[hr] at h;obtain⟨rfl,hb⟩:=h;exact⟨zeroU,180,rfl,hb,rfl,.inl ⟨hr,rfl,rfl⟩⟩
  |some u=>
   rw[hr] at h
   obtain⟨B,c,rfl,_,_,_,_,_,hb⟩:=h
   exact⟨{ u with A:=B,c:=c},0,rfl,hb,hal u hr,.inr ⟨u,hr,unpack_bare hr,rfl⟩⟩
section
variable {lib:List AstA}{fl:Option Int}{c:Ch}{fr er:Int}{l:List UInt8}{U:Un}
theorem acc_none (h:UnpR c.num c.den l U er) (hr:((er == 0)&&((U.channel == c.number)&&(U.frame == fr)))=false∨genuineP lib U=false∨rule3 fl U=false∨((U.item == 0)||(contS c U||entersS lib c.full U))=false):AccR lib fl c fr l zeroU false:=by
 refine .inl ⟨?_,rfl,rfl⟩;unfold acceptP;rcases h with⟨h,_⟩|⟨u,h,rfl,rfl⟩
 ·rw[h]
 ·rw[h];simp only;refine if_neg fun hh=>?_;obtain⟨h1,h2,h3,h4⟩:=hh;rcases hr with hr|hr|hr|hr
  ·rw[show ((bareU U).channel == c.number&&(bareU U).frame == fr)=(U.channel == c.number&&U.frame == fr) from rfl] at h1;rw[h1] at hr;cases hr
  ·rw[show genuineP lib (bareU U)=genuineP lib U from rfl,hr] at h2;cases h2
  ·have h5:rule3 fl U=true:=h3;rw[hr] at h5;cases h5
  ·rw[show ((bareU U).item == 0||(contS c (bareU U)||entersS lib c.full (bareU U)))=(U.item == 0||(contS c U||entersS lib c.full U)) from rfl,hr] at h4;cases h4
theorem acc_some (h:UnpR c.num c.den l U er) (h1:((er == 0)&&((U.channel == c.number)&&(U.frame == fr)))=true) (h2:genuineP lib U=true) (h3:rule3 fl U=true) (h4:((U.item == 0)||(contS c U||entersS lib c.full U))=true):AccR lib fl c fr l U true:=by
 refine .inr ⟨?_,rfl⟩;unfold acceptP;rcases h with⟨_,_,rfl⟩|⟨u,h,rfl,rfl⟩
 ·simp at h1
 ·rw[h];simp only;exact if_pos ⟨h1,h2,h3,h4⟩
end
theorem accept_any (bs bc n cc o:Nat) (lc:Nat) (LA:Option Addr) (lib:List AstA) (hd:Bool) (at_ od fr:Int) (pre post:List Value) (c:Ch) (l:List UInt8) (w:World) (ho:pre.length=o) (hn:0<n) (hat:0≤at_∧at_≤9223372036854775807) (hfr:-9223372036854775808≤fr∧fr≤9223372036854775807) (hix:-1≤c.index∧c.index≤1000000000) (hl:l.length≤1000000) (hal:∀u,unpackP c.num c.den l=some u→u.al=[]) (hL:Laid w) (hlib:IsAsts w LA lib.length lib) (hln:lib.length≤maxLen) (hlp:∀a∈lib,a.pics.length≤2000000) (hS:Box w bs 111 [(sB bc n cc),(sL LA lib.length lc),(.bool hd),(ii at_),(ii od)].toArray) (hC:Box w bc 115 (pre++[(ii c.item),(ii c.index),(ii c.full),(ii c.taken),(ii c.number),(ii c.num),(ii c.den)]++post).toArray):
  Calls Tryz.prog 76 #[.pointer (some ⟨bs,0,none⟩),.pointer (some ⟨bc,o,none⟩),.int .i64 fr,.string (bstr l)] w fun e w'=>∃V ok,e=.returned (.tuple #[V.val,.bool ok])∧V.al=[]∧AccR lib (floorP hd at_ od fr) c fr l V ok∧Below w.heap.size w w':=by
 have HP:=(((((Hp.start w).keepF (boxK bc 115 (pre++[(ii c.item),(ii c.index),(ii c.full),(ii c.taken),(ii c.number),(ii c.num),(ii c.den)]++post)) hC (boxK_ok _ _ _) (fun k hk=>⟨boxK_lt hC hk,fun x hx=>by cases hx⟩)).keepF (boxK bs 111 [(sB bc n cc),(sL LA lib.length lc),(.bool hd),(ii at_),(ii od)]) hS (boxK_ok _ _ _) (fun k hk=>⟨boxK_lt hS hk,fun x hx=>by cases hx⟩)).keepF (astsK LA lib) hlib (fun _ _ h hk hs=>IsAsts.keep h hk hs) (fun k hk=>⟨IsAsts.lt hlib hk,fun x hx=>by cases hx⟩)).keepF laidK hL laidK_ok (fun k hk=>⟨hL.lt k hk,fun x hx=>by cases hx⟩))
 refine w_enter 41 [(0,(pt bs 0)),(1,(pt bc o)),(2,(ii fr)),(3,(sS l))] Tryz.func76 rfl Tryz.ntmps76 kr kr fun a H=>zq<|H.al HP 4 29 [(pt bs 0)] fun b_1 w_2 a H HP=>H.al HP 5 129 [(pt bc o)] fun b_3 w_4 a H HP=>H.al HP 6 3 [(ii fr)] fun b_5 w_6 a H HP=>H.al HP 8 76 zc0 fun b_7 w_8 a H HP=>H.gz HP [(9,zF)] fun a H=>zq<|H.go HP 3 [(18,(.pointer (some ⟨bc,o+5,none⟩)))] [2] fun a H=>H.u 19 (.agg #[(ii c.num),(ii c.den)]) (ex_lN [(ii c.num),(ii c.den)] (win_cells (HP.fact 3 rfl:Box _ bc 115 _) ho 5 2)) fun a H=>H.gn HP 1 [(20,(sS l))] fun a H=>H.cl 21 (Tryz.call122 _ _) (unpack_u c.num c.den l w_8 (HP.fact 0 rfl) hl hal) ?_;rintro e w_9 ⟨U,er,rfl,hbu,hUal,hUR⟩;refine⟨_,rfl,?_⟩;intro a H;have HP:=HP.next hbu
 refine H.gn HP 3 [(22,(.agg (ua U U.A U.c))),(23,(ii er))] fun a H=>H.al HP 10 76 zc0 fun b_10 w_11 a H HP=>H.al HP 11 30 [zO] fun b_12 w_13 a H HP=>H.sh HP 1 0 (.agg (ua U U.A U.c)) rfl fun w_14 a H HP=>H.sh HP 0 0 (ii er) rfl fun w_15 a H HP=>znl<|zt<|H.gn HP 4 [(24,(.func (.func 123) #[] #[(pt b_12 0),(pt b_10 0),(pt b_3 0),(pt b_5 0)])),(25,(.func (.func 124) #[] #[(pt b_1 0),(pt b_10 0)])),(26,(.func (.func 125) #[] #[(pt b_1 0),(pt b_5 0),(pt b_10 0)])),(27,(.func (.func 126) #[] #[(pt b_10 0),(pt b_3 0),(pt b_1 0)]))] fun a H=>H.alloc HP 28 (fun b=>(sB b 4 4)) 24 [(.func (.func 123) #[] #[(pt b_12 0),(pt b_10 0),(pt b_3 0),(pt b_5 0)]),(.func (.func 124) #[] #[(pt b_1 0),(pt b_10 0)]),(.func (.func 125) #[] #[(pt b_1 0),(pt b_5 0),(pt b_10 0)]),(.func (.func 126) #[] #[(pt b_10 0),(pt b_3 0),(pt b_1 0)])] kr (fun w=>kr) fun b_16 w_17 a H HP=>H.gz HP [(12,(sB b_16 4 4))] fun a H=>zsq<|zq<|H.gz HP [(29,(sB b_16 4 4)),(30,(ii 4)),(31,zO)] fun a H=>zbk<|w_loop (fun mm a wv=>(mm=4∧Sl 41 [(31,zO),(3,(sS l)),(4,(pt b_1 0)),(5,(pt b_3 0)),(6,(pt b_5 0)),(8,(pt b_7 0)),(10,(pt b_10 0)),(11,(pt b_12 0)),(29,(sB b_16 4 4)),(30,(ii 4))] a∧Hp w wv [bx b_16 24 [(.func (.func 123) #[] #[(pt b_12 0),(pt b_10 0),(pt b_3 0),(pt b_5 0)]),(.func (.func 124) #[] #[(pt b_1 0),(pt b_10 0)]),(.func (.func 125) #[] #[(pt b_1 0),(pt b_5 0),(pt b_10 0)]),(.func (.func 126) #[] #[(pt b_10 0),(pt b_3 0),(pt b_1 0)])] true,bx b_12 30 [(ii er)] true,bx b_10 76 (ul U U.A U.c) true,bx b_7 76 zc0 true,bx b_5 3 [(ii fr)] true,bx b_3 129 [(pt bc o)] true,bx b_1 29 [(pt bs 0)] true] [laidK,astsK LA lib,boxK bs 111 [(sB bc n cc),(sL LA lib.length lc),(.bool hd),(ii at_),(ii od)],boxK bc 115 (pre++[(ii c.item),(ii c.index),(ii c.full),(ii c.taken),(ii c.number),(ii c.num),(ii c.den)]++post)])∨(mm=3∧Sl 41 [(31,(ii 1)),(3,(sS l)),(4,(pt b_1 0)),(5,(pt b_3 0)),(6,(pt b_5 0)),(8,(pt b_7 0)),(10,(pt b_10 0)),(11,(pt b_12 0)),(29,(sB b_16 4 4)),(30,(ii 4))] a∧Hp w wv [bx b_16 24 [(.func (.func 123) #[] #[(pt b_12 0),(pt b_10 0),(pt b_3 0),(pt b_5 0)]),(.func (.func 124) #[] #[(pt b_1 0),(pt b_10 0)]),(.func (.func 125) #[] #[(pt b_1 0),(pt b_5 0),(pt b_10 0)]),(.func (.func 126) #[] #[(pt b_10 0),(pt b_3 0),(pt b_1 0)])] true,bx b_12 30 [(ii er)] true,bx b_10 76 (ul U U.A U.c) true,bx b_7 76 zc0 true,bx b_5 3 [(ii fr)] true,bx b_3 129 [(pt bc o)] true,bx b_1 29 [(pt bs 0)] true] [laidK,astsK LA lib,boxK bs 111 [(sB bc n cc),(sL LA lib.length lc),(.bool hd),(ii at_),(ii od)],boxK bc 115 (pre++[(ii c.item),(ii c.index),(ii c.full),(ii c.taken),(ii c.number),(ii c.num),(ii c.den)]++post)]∧((er == 0)&&((U.channel == c.number)&&(U.frame == fr)))=true)∨(mm=2∧Sl 41 [(31,(ii 2)),(3,(sS l)),(4,(pt b_1 0)),(5,(pt b_3 0)),(6,(pt b_5 0)),(8,(pt b_7 0)),(10,(pt b_10 0)),(11,(pt b_12 0)),(29,(sB b_16 4 4)),(30,(ii 4))] a∧Hp w wv [bx b_16 24 [(.func (.func 123) #[] #[(pt b_12 0),(pt b_10 0),(pt b_3 0),(pt b_5 0)]),(.func (.func 124) #[] #[(pt b_1 0),(pt b_10 0)]),(.func (.func 125) #[] #[(pt b_1 0),(pt b_5 0),(pt b_10 0)]),(.func (.func 126) #[] #[(pt b_10 0),(pt b_3 0),(pt b_1 0)])] true,bx b_12 30 [(ii er)] true,bx b_10 76 (ul U U.A U.c) true,bx b_7 76 zc0 true,bx b_5 3 [(ii fr)] true,bx b_3 129 [(pt bc o)] true,bx b_1 29 [(pt bs 0)] true] [laidK,astsK LA lib,boxK bs 111 [(sB bc n cc),(sL LA lib.length lc),(.bool hd),(ii at_),(ii od)],boxK bc 115 (pre++[(ii c.item),(ii c.index),(ii c.full),(ii c.taken),(ii c.number),(ii c.num),(ii c.den)]++post)]∧((er == 0)&&((U.channel == c.number)&&(U.frame == fr)))=true∧genuineP lib U=true)∨(mm=1∧Sl 41 [(31,(ii 3)),(3,(sS l)),(4,(pt b_1 0)),(5,(pt b_3 0)),(6,(pt b_5 0)),(8,(pt b_7 0)),(10,(pt b_10 0)),(11,(pt b_12 0)),(29,(sB b_16 4 4)),(30,(ii 4))] a∧Hp w wv [bx b_16 24 [(.func (.func 123) #[] #[(pt b_12 0),(pt b_10 0),(pt b_3 0),(pt b_5 0)]),(.func (.func 124) #[] #[(pt b_1 0),(pt b_10 0)]),(.func (.func 125) #[] #[(pt b_1 0),(pt b_5 0),(pt b_10 0)]),(.func (.func 126) #[] #[(pt b_10 0),(pt b_3 0),(pt b_1 0)])] true,bx b_12 30 [(ii er)] true,bx b_10 76 (ul U U.A U.c) true,bx b_7 76 zc0 true,bx b_5 3 [(ii fr)] true,bx b_3 129 [(pt bc o)] true,bx b_1 29 [(pt bs 0)] true] [laidK,astsK LA lib,boxK bs 111 [(sB bc n cc),(sL LA lib.length lc),(.bool hd),(ii at_),(ii od)],boxK bc 115 (pre++[(ii c.item),(ii c.index),(ii c.full),(ii c.taken),(ii c.number),(ii c.num),(ii c.den)]++post)]∧((er == 0)&&((U.channel == c.number)&&(U.frame == fr)))=true∧genuineP lib U=true∧rule3 (floorP hd at_ od fr) U=true)∨(mm=0∧Sl 41 [(31,(ii 4)),(3,(sS l)),(4,(pt b_1 0)),(5,(pt b_3 0)),(6,(pt b_5 0)),(8,(pt b_7 0)),(10,(pt b_10 0)),(11,(pt b_12 0)),(29,(sB b_16 4 4)),(30,(ii 4))] a∧Hp w wv [bx b_16 24 [(.func (.func 123) #[] #[(pt b_12 0),(pt b_10 0),(pt b_3 0),(pt b_5 0)]),(.func (.func 124) #[] #[(pt b_1 0),(pt b_10 0)]),(.func (.func 125) #[] #[(pt b_1 0),(pt b_5 0),(pt b_10 0)]),(.func (.func 126) #[] #[(pt b_10 0),(pt b_3 0),(pt b_1 0)])] true,bx b_12 30 [(ii er)] true,bx b_10 76 (ul U U.A U.c) true,bx b_7 76 zc0 true,bx b_5 3 [(ii fr)] true,bx b_3 129 [(pt bc o)] true,bx b_1 29 [(pt bs 0)] true] [laidK,astsK LA lib,boxK bs 111 [(sB bc n cc),(sL LA lib.length lc),(.bool hd),(ii at_),(ii od)],boxK bc 115 (pre++[(ii c.item),(ii c.index),(ii c.full),(ii c.taken),(ii c.number),(ii c.num),(ii c.den)]++post)]∧((er == 0)&&((U.channel == c.number)&&(U.frame == fr)))=true∧genuineP lib U=true∧rule3 (floorP hd at_ od fr) U=true∧((U.item == 0)||(contS c U||entersS lib c.full U))=true)) 4 (.inl ⟨rfl,H.keep kr,HP⟩) ?_
 rintro mm a w_18 (⟨rfl,H,HP⟩|⟨rfl,H,HP,r1⟩|⟨rfl,H,HP,r1,r2⟩|⟨rfl,H,HP,r1,r2,r3⟩|⟨rfl,H,HP,r1,r2,r3,r4⟩)
 ·refine zq<|H.gz HP [(32,zT)] fun a H=>zsq<|w_ift H rfl<|zsk<|ztn<|zsq<|zbk<|zq<|H.u 33 (pt b_16 0) (ex_index (b:=b_16) (off:=0) (len:=4) (cap:=4) (e:=24) (k:=1) (ik:=.i64) (i:=0) (m:=0) kr kr om om kr kr) fun a H=>H.gy HP [(14,(.func (.func 123) #[] #[(pt b_12 0),(pt b_10 0),(pt b_3 0),(pt b_5 0)]))] [0] fun a H=>zq<|H.gn HP 1 [(35,(.func (.func 123) #[] #[(pt b_12 0),(pt b_10 0),(pt b_3 0),(pt b_5 0)]))] fun a H=>H.cb HP 36 (Tryz.call123 _ _) (rule1_any b_12 b_10 b_3 b_5 bc o er fr pre post c U w_18 ho (HP.at_ 1 rfl) (HP.at_ 2 rfl) (HP.at_ 5 rfl) (HP.at_ 4 rfl) (HP.fact 3 rfl)) fun w_19 hb a H HP=>H.gz HP [(37,(.bool (!((er == 0)&&((U.channel == c.number)&&(U.frame == fr))))))] fun a H=>w_if H rfl (fun g37=>?_) (fun g37=>?_)
  ·have g37p:=not_is_true g37;refine zq<|H.gn HP 1 [(38,(.agg zc1))] fun a H=>H.sh HP 3 0 (.agg zc1) rfl fun w_20 a H HP=>H.gz HP [(9,zF)] fun a H=>zrt<|zibr<|ztr<|ztr<|zibr<|ztr<|H.ret2 (fn:=Tryz.f76) Tryz.results76 (RV.cellN (vs:=zc0) (b:=b_7) (off:=0) (k:=13) kr kr kr rfl (HP.cells 3 rfl 0 13 kr)) (RV.tmp_ (v:=zF) kr) ?_;exact⟨zeroU,false,rfl,rfl,acc_none hUR (.inl g37p),HP.bl⟩
  have g37p:=not_is_false g37;refine zsk<|zibn<|ztn<|zrg<|H.valE 39 (ii (IntKind.i64.wrap (0+1))) (ii 1) kr kr kr fun a H=>H.ge HP [(31,(ii 1))] [] fun a H=>ztn ?_;exact⟨3,om,.inr (.inl ⟨rfl,H.keep kr,HP,g37p⟩)⟩
 ·refine zq<|H.gz HP [(32,zT)] fun a H=>zsq<|w_ift H rfl<|zsk<|ztn<|zsq<|zbk<|zq<|H.u 33 (pt b_16 1) (ex_index (b:=b_16) (off:=0) (len:=4) (cap:=4) (e:=24) (k:=1) (ik:=.i64) (i:=1) (m:=1) kr kr om om kr kr) fun a H=>H.gy HP [(14,(.func (.func 124) #[] #[(pt b_1 0),(pt b_10 0)]))] [0] fun a H=>zq<|H.gn HP 1 [(35,(.func (.func 124) #[] #[(pt b_1 0),(pt b_10 0)]))] fun a H=>H.cb HP 36 (Tryz.call124 _ _) (rule2_any b_1 b_10 bs bc n cc lc LA lib hd at_ od U w_18 (HP.fact 1 rfl) hln hlp (HP.fact 2 rfl) (HP.at_ 6 rfl) (HP.at_ 2 rfl)) fun w_21 hb a H HP=>H.gz HP [(37,(.bool (!(genuineP lib U))))] fun a H=>w_if H rfl (fun g37=>?_) (fun g37=>?_)
  ·have g37p:=not_is_true g37;refine zq<|H.gn HP 1 [(38,(.agg zc1))] fun a H=>H.sh HP 3 0 (.agg zc1) rfl fun w_22 a H HP=>H.gz HP [(9,zF)] fun a H=>zrt<|zibr<|ztr<|ztr<|zibr<|ztr<|H.ret2 (fn:=Tryz.f76) Tryz.results76 (RV.cellN (vs:=zc0) (b:=b_7) (off:=0) (k:=13) kr kr kr rfl (HP.cells 3 rfl 0 13 kr)) (RV.tmp_ (v:=zF) kr) ?_;exact⟨zeroU,false,rfl,rfl,acc_none hUR (.inr (.inl g37p)),HP.bl⟩
  have g37p:=not_is_false g37;refine zsk<|zibn<|ztn<|zrg<|H.valE 39 (ii (IntKind.i64.wrap (1+1))) (ii 2) kr kr kr fun a H=>H.ge HP [(31,(ii 2))] [] fun a H=>ztn ?_;exact⟨2,om,.inr (.inr (.inl ⟨rfl,H.keep kr,HP,r1,g37p⟩))⟩
 ·refine zq<|H.gz HP [(32,zT)] fun a H=>zsq<|w_ift H rfl<|zsk<|ztn<|zsq<|zbk<|zq<|H.u 33 (pt b_16 2) (ex_index (b:=b_16) (off:=0) (len:=4) (cap:=4) (e:=24) (k:=1) (ik:=.i64) (i:=2) (m:=2) kr kr om om kr kr) fun a H=>H.gy HP [(14,(.func (.func 125) #[] #[(pt b_1 0),(pt b_5 0),(pt b_10 0)]))] [0] fun a H=>zq<|H.gn HP 1 [(35,(.func (.func 125) #[] #[(pt b_1 0),(pt b_5 0),(pt b_10 0)]))] fun a H=>H.cb HP 36 (Tryz.call125 _ _) (rule3_any b_1 b_5 b_10 bs bc n cc lc LA lib hd at_ od fr U w_18 hn hat hfr (HP.fact 2 rfl) (HP.at_ 6 rfl) (HP.at_ 4 rfl) (HP.at_ 2 rfl)) fun w_23 hb a H HP=>H.gz HP [(37,(.bool (!(rule3 (floorP hd at_ od fr) U))))] fun a H=>w_if H rfl (fun g37=>?_) (fun g37=>?_)
  ·have g37p:=not_is_true g37;refine zq<|H.gn HP 1 [(38,(.agg zc1))] fun a H=>H.sh HP 3 0 (.agg zc1) rfl fun w_24 a H HP=>H.gz HP [(9,zF)] fun a H=>zrt<|zibr<|ztr<|ztr<|zibr<|ztr<|H.ret2 (fn:=Tryz.f76) Tryz.results76 (RV.cellN (vs:=zc0) (b:=b_7) (off:=0) (k:=13) kr kr kr rfl (HP.cells 3 rfl 0 13 kr)) (RV.tmp_ (v:=zF) kr) ?_;exact⟨zeroU,false,rfl,rfl,acc_none hUR (.inr (.inr (.inl g37p))),HP.bl⟩
  have g37p:=not_is_false g37;refine zsk<|zibn<|ztn<|zrg<|H.valE 39 (ii (IntKind.i64.wrap (2+1))) (ii 3) kr kr kr fun a H=>H.ge HP [(31,(ii 3))] [] fun a H=>ztn ?_;exact⟨1,om,.inr (.inr (.inr (.inl ⟨rfl,H.keep kr,HP,r1,r2,g37p⟩)))⟩
 ·refine zq<|H.gz HP [(32,zT)] fun a H=>zsq<|w_ift H rfl<|zsk<|ztn<|zsq<|zbk<|zq<|H.u 33 (pt b_16 3) (ex_index (b:=b_16) (off:=0) (len:=4) (cap:=4) (e:=24) (k:=1) (ik:=.i64) (i:=3) (m:=3) kr kr om om kr kr) fun a H=>H.gy HP [(14,(.func (.func 126) #[] #[(pt b_10 0),(pt b_3 0),(pt b_1 0)]))] [0] fun a H=>zq<|H.gn HP 1 [(35,(.func (.func 126) #[] #[(pt b_10 0),(pt b_3 0),(pt b_1 0)]))] fun a H=>H.cb HP 36 (Tryz.call126 _ _) (rule4_any b_10 b_3 b_1 bs bc n cc o lc LA lib hd at_ od pre post c U w_18 ho hix (HP.fact 1 rfl) hln hlp (HP.fact 2 rfl) (HP.at_ 6 rfl) (HP.fact 3 rfl) (HP.at_ 5 rfl) (HP.at_ 2 rfl)) fun w_25 hb a H HP=>H.gz HP [(37,(.bool (!((U.item == 0)||(contS c U||entersS lib c.full U)))))] fun a H=>w_if H rfl (fun g37=>?_) (fun g37=>?_)
  ·have g37p:=not_is_true g37;refine zq<|H.gn HP 1 [(38,(.agg zc1))] fun a H=>H.sh HP 3 0 (.agg zc1) rfl fun w_26 a H HP=>H.gz HP [(9,zF)] fun a H=>zrt<|zibr<|ztr<|ztr<|zibr<|ztr<|H.ret2 (fn:=Tryz.f76) Tryz.results76 (RV.cellN (vs:=zc0) (b:=b_7) (off:=0) (k:=13) kr kr kr rfl (HP.cells 3 rfl 0 13 kr)) (RV.tmp_ (v:=zF) kr) ?_;exact⟨zeroU,false,rfl,rfl,acc_none hUR (.inr (.inr (.inr g37p))),HP.bl⟩
  have g37p:=not_is_false g37;refine zsk<|zibn<|ztn<|zrg<|H.valE 39 (ii (IntKind.i64.wrap (3+1))) (ii 4) kr kr kr fun a H=>H.ge HP [(31,(ii 4))] [] fun a H=>ztn ?_;exact⟨0,om,.inr (.inr (.inr (.inr (⟨rfl,H.keep kr,HP,r1,r2,r3,g37p⟩))))⟩
 refine zq<|H.gz HP [(32,zF)] fun a H=>zsq<|w_iff H rfl<|wp_exit<|then_exit<|then_exit<|w_exit_here<|zt<|H.go HP 1 [(40,(.agg (ua U U.A U.c)))] [2] fun a H=>H.sh HP 3 0 (.agg (ua U U.A U.c)) rfl fun w_27 a H HP=>H.gz HP [(9,zT)] fun a H=>zrt<|H.ret2 (fn:=Tryz.f76) Tryz.results76 (RV.cellN (vs:=(ul U U.A U.c)) (b:=b_7) (off:=0) (k:=13) kr kr kr rfl (HP.cells 3 rfl 0 13 kr)) (RV.tmp_ (v:=zT) kr) ?_;exact⟨U,true,rfl,hUal,acc_some hUR r1 r2 r3 r4,HP.bl⟩
theorem accept_yes (bs bc n cc o:Nat) (lc:Nat) (LA:Option Addr) (lib:List AstA) (hd:Bool) (at_ od fr:Int) (pre post:List Value) (c:Ch) (l:List UInt8) (w:World) (ho:pre.length=o) (hn:0<n) (hat:0≤at_∧at_≤9223372036854775807) (hfr:-9223372036854775808≤fr∧fr≤9223372036854775807) (hix:-1≤c.index∧c.index≤1000000000) (hl:l.length≤1000000) (hal:∀u,unpackP c.num c.den l=some u→u.al=[]) (hL:Laid w) (hlib:IsAsts w LA lib.length lib) (hln:lib.length≤maxLen) (hlp:∀a∈lib,a.pics.length≤2000000) (hS:Box w bs 111 (selL bc n cc LA lib.length lc hd at_ od).toArray) (hC:Box w bc 115 (pre++chL c++post).toArray) {x:Un}(hx:acceptP lib (floorP hd at_ od fr) c fr l=some x):Calls Tryz.prog 76 #[.pointer (some ⟨bs,0,none⟩),.pointer (some ⟨bc,o,none⟩),.int .i64 fr,.string (bstr l)] w fun e w'=>∃V,e=.returned (.tuple #[V.val,.bool true])∧V.al=[]∧bareU V=x∧Below w.heap.size w w':=
 (accept_any bs bc n cc o lc LA lib hd at_ od fr pre post c l w ho hn hat hfr hix hl hal hL hlib hln hlp hS hC).mono fun e w' h=>by
  obtain⟨V,ok,rfl,h1,h2,hb⟩:=h
  rcases h2 with⟨h2,_⟩|⟨h2,rfl⟩
  ·rw[hx] at h2;cases h2
  ·rw[hx] at h2;exact⟨V,rfl,h1,(Option.some.inj h2).symm,hb⟩
theorem accept_no (bs bc n cc o:Nat) (lc:Nat) (LA:Option Addr) (lib:List AstA) (hd:Bool) (at_ od fr:Int) (pre post:List Value) (c:Ch) (l:List UInt8) (w:World) (ho:pre.length=o) (hn:0<n) (hat:0≤at_∧at_≤9223372036854775807) (hfr:-9223372036854775808≤fr∧fr≤9223372036854775807) (hix:-1≤c.index∧c.index≤1000000000) (hl:l.length≤1000000) (hal:∀u,unpackP c.num c.den l=some u→u.al=[]) (hL:Laid w) (hlib:IsAsts w LA lib.length lib) (hln:lib.length≤maxLen) (hlp:∀a∈lib,a.pics.length≤2000000) (hS:Box w bs 111 (selL bc n cc LA lib.length lc hd at_ od).toArray) (hC:Box w bc 115 (pre++chL c++post).toArray) (hx:acceptP lib (floorP hd at_ od fr) c fr l=none):Calls Tryz.prog 76 #[.pointer (some ⟨bs,0,none⟩),.pointer (some ⟨bc,o,none⟩),.int .i64 fr,.string (bstr l)] w fun e w'=>e=.returned (.tuple #[zeroU.val,.bool false])∧Below w.heap.size w w':=
 (accept_any bs bc n cc o lc LA lib hd at_ od fr pre post c l w ho hn hat hfr hix hl hal hL hlib hln hlp hS hC).mono fun e w' h=>by
  obtain⟨V,ok,rfl,h1,h2,hb⟩:=h
  rcases h2 with⟨h2,rfl,rfl⟩|⟨h2,_⟩
  ·exact⟨rfl,hb⟩
  ·rw[hx] at h2;cases h2
section
variable {lib:List AstA}{fl:Option Int}{c:Ch}{fr:Int}{a b:List UInt8}{x y:Un}
theorem choose_nn (h1:acceptP lib fl c fr a=none) (h2:acceptP lib fl c fr b=none):chooseC lib fl c fr a b=(slateU c.number fr,showC c (slateU c.number fr) c.taken):=by unfold chooseC;rw[h1,h2];rfl
theorem choose_yn (h1:acceptP lib fl c fr a=some x) (h2:acceptP lib fl c fr b=none):chooseC lib fl c fr a b=(x,showC c x 0):=by unfold chooseC;rw[h1,h2];rfl
theorem choose_ny (h1:acceptP lib fl c fr a=none) (h2:acceptP lib fl c fr b=some y):chooseC lib fl c fr a b=(y,showC c y 1):=by unfold chooseC;rw[h1,h2];rfl
theorem choose_yy1 (h1:acceptP lib fl c fr a=some x) (h2:acceptP lib fl c fr b=some y) (h:preferP x y c.taken=1):chooseC lib fl c fr a b=(y,showC c y (preferP x y c.taken)):=by unfold chooseC;rw[h1,h2];simp only[takeP,if_pos h]
theorem choose_yy0 (h1:acceptP lib fl c fr a=some x) (h2:acceptP lib fl c fr b=some y) (h:preferP x y c.taken≠1):chooseC lib fl c fr a b=(x,showC c x (preferP x y c.taken)):=by unfold chooseC;rw[h1,h2];simp only[takeP,if_neg h]
end
def RetCh (lib:List AstA) (fl:Option Int) (c:Ch) (fr:Int) (a b:List UInt8) (bc:Nat) (pre post:List Value) (w:World) (e:Ending) (w':World):Prop:=
 ∃V:Un,e=.returned V.val∧V.al=[]∧bareU V=(chooseC lib fl c fr a b).1∧Box w' bc 115 (pre++chL (chooseC lib fl c fr a b).2++post).toArray∧w.grownBy w' (some bc)
theorem choose_nn_any (bs bc n cc o:Nat) (lc:Nat) (LA:Option Addr) (lib:List AstA) (hd:Bool) (at_ od fr:Int) (pre post:List Value) (c:Ch) (la lb:List UInt8) (w:World) (ho:pre.length=o) (hn:0<n) (hat:0≤at_∧at_≤9223372036854775807) (hfr:-9223372036854775808≤fr∧fr≤9223372036854775807) (hix:-1≤c.index∧c.index≤1000000000) (hla:la.length≤1000000) (hlb:lb.length≤1000000) (hala:∀u,unpackP c.num c.den la=some u→u.al=[]) (halb:∀u,unpackP c.num c.den lb=some u→u.al=[]) (hne:bs≠bc) (hcl:¬libFp LA lib bc) (h2c:2≤bc) (hL:Laid w) (hlib:IsAsts w LA lib.length lib) (hln:lib.length≤maxLen) (hlp:∀a∈lib,a.pics.length≤2000000) (hS:Box w bs 111 (selL bc n cc LA lib.length lc hd at_ od).toArray) (hC:Box w bc 115 (pre++chL c++post).toArray) (h1:acceptP lib (floorP hd at_ od fr) c fr la=none) (h2:acceptP lib (floorP hd at_ od fr) c fr lb=none):
  Calls Tryz.prog 44 #[.pointer (some ⟨bs,0,none⟩),.pointer (some ⟨bc,o,none⟩),.int .i64 fr,.string (bstr la),.string (bstr lb)] w fun e w'=>RetCh lib (floorP hd at_ od fr) c fr la lb bc pre post w e w':=by
 have HP:=(((Hp.own (vs:=pre++[(ii c.item),(ii c.index),(ii c.full),(ii c.taken),(ii c.number),(ii c.num),(ii c.den)]++post) hC).keepF (boxK bs 111 [(sB bc n cc),(sL LA lib.length lc),(.bool hd),(ii at_),(ii od)]) hS (boxK_ok _ _ _) (fun k hk=>⟨boxK_lt hS hk,fun x hx=>by simp only[List.mem_cons,List.not_mem_nil,or_false] at hx;rcases hx with rfl;exact fun e=>hne (hk.symm.trans e)⟩)).keepF (astsK LA lib) hlib (fun _ _ h hk hs=>IsAsts.keep h hk hs) (fun k hk=>⟨IsAsts.lt hlib hk,fun x hx=>by simp only[List.mem_cons,List.not_mem_nil,or_false] at hx;rcases hx with rfl;exact fun e=>hcl (e ▸ hk)⟩)).keepF laidK hL laidK_ok (fun k hk=>⟨hL.lt k hk,fun x hx=>by simp only[List.mem_cons,List.not_mem_nil,or_false] at hx;rcases hx with rfl;exact fun e=>by rcases hk with hk|hk<;>(have:k=bc:=e;omega)⟩)
 refine w_enter 87 [(0,(pt bs 0)),(1,(pt bc o)),(2,(ii fr)),(3,(sS la)),(4,(sS lb))] Tryz.func44 rfl Tryz.ntmps44 kr kr fun a H=>zq<|H.al HP 10 76 zc0 fun b_1 w_2 a H HP=>znl<|zt<|H.gn HP 4 [(17,(pt bs 0)),(18,(pt bc o)),(19,(ii fr)),(20,(sS la))] fun a H=>H.cb HP 21 (Tryz.call76 _ _) (accept_no bs bc n cc o lc LA lib hd at_ od fr pre post c la w_2 ho hn hat hfr hix hla hala (HP.fact 0 rfl) (HP.fact 1 rfl) hln hlp (HP.fact 2 rfl) (HP.at_ 1 rfl) h1) fun w_3 hb a H HP=>H.gn HP 3 [(22,(.agg zc1)),(23,zF)] fun a H=>H.al HP 11 76 zc0 fun b_4 w_5 a H HP=>H.sh HP 0 0 (.agg zc1) rfl fun w_6 a H HP=>H.gz HP [(12,zF)] fun a H=>zq<|H.gn HP 4 [(25,(pt bs 0)),(26,(pt bc o)),(27,(ii fr)),(28,(sS lb))] fun a H=>H.cb HP 29 (Tryz.call76 _ _) (accept_no bs bc n cc o lc LA lib hd at_ od fr pre post c lb w_6 ho hn hat hfr hix hlb halb (HP.fact 0 rfl) (HP.fact 1 rfl) hln hlp (HP.fact 2 rfl) (HP.at_ 2 rfl) h2) fun w_7 hb a H HP=>H.gn HP 3 [(30,(.agg zc1)),(31,zF)] fun a H=>H.al HP 13 76 zc0 fun b_8 w_9 a H HP=>H.sh HP 0 0 (.agg zc1) rfl fun w_10 a H HP=>H.gz HP [(14,zF)] fun a H=>zq<|H.go HP 1 [(32,(.agg zc1))] [1] fun a H=>H.al HP 15 76 zc0 fun b_11 w_12 a H HP=>H.sh HP 0 0 (.agg zc1) rfl fun w_13 a H HP=>znl<|ztn<|zsq<|zbk<|zq<|H.gz HP [(38,zT)] fun a H=>w_ift H rfl<|zrg<|H.gn HP 3 [(47,(.pointer (some ⟨bc,o+4,none⟩)))] fun a H=>H.u 48 (ii c.number) (ex_l1 (win_cell (k:=4) (HP.at_ 4 rfl) ho rfl)) fun a H=>H.gn HP 1 [(49,(ii fr))] fun a H=>H.cb HP 50 (Tryz.call42 _ _) (slate_any c.number fr w_13) fun w_14 hb a H HP=>H.sh HP 0 0 (.agg #[(ii c.number),(ii fr),zO,zO,zO,zT,zS,(ii 255),(ii 1000),(sS ([64,0,0])),zO,zO,zN]) rfl fun w_15 a H HP=>znl<|zibn<|ztn<|zsq<|An.start (fun v=>Hp w v [bx b_11 76 [(ii c.number),(ii fr),zO,zO,zO,zT,zS,(ii 255),(ii 1000),(sS ([64,0,0])),zO,zO,zN] true,bx b_8 76 zc0 true,bx b_4 76 zc0 true,bx b_1 76 zc0 true,bx bc 115 (pre++[(ii c.item),(ii c.index),(ii c.full),(ii c.taken),(ii c.number),(ii c.num),(ii c.den)]++post) false] [laidK,astsK LA lib,boxK bs 111 [(sB bc n cc),(sL LA lib.length lc),(.bool hd),(ii at_),(ii od)]]) 4 5 HP wide_follows rfl fun w_16 HP=>An.go H (.inr HP) 1 [0,1,2,3] [(83,(pt bc o)),(84,(.agg #[(ii c.number),(ii fr),zO,zO,zO,zT,zS,(ii 255),(ii 1000),(sS ([64,0,0])),zO,zO,zN]))] [0] fun a H=>An.one 4 kr<|Op.cl H 85 (Tryz.call78 _ _) (show_any bc o pre post c (slateU c.number fr) w_16 (HP.at_ 4 rfl) ho) ?_
 rintro e w_17 ⟨rfl,hbx,hgr⟩;refine⟨_,rfl,?_⟩;intro a H;have HP:=(HP.changed 4 rfl (pre++[zO,zO,(ii ((vstep c.full ((([]:List UInt8).length:Nat):Int)).getD 0)),(ii c.taken),(ii c.number),(ii c.num),(ii c.den)]++post) [bx b_11 76 [(ii c.number),(ii fr),zO,zO,zO,zT,zS,(ii 255),(ii 1000),(sS ([64,0,0])),zO,zO,zN] true,bx b_8 76 zc0 true,bx b_4 76 zc0 true,bx b_1 76 zc0 true,bx bc 115 (pre++[zO,zO,(ii ((vstep c.full ((([]:List UInt8).length:Nat):Int)).getD 0)),(ii c.taken),(ii c.number),(ii c.num),(ii c.den)]++post) false] kr hgr hbx);refine⟨.inl kr,?_⟩
 refine An.done kr<|zt<|H.go HP 1 [(86,(.agg #[(ii c.number),(ii fr),zO,zO,zO,zT,zS,(ii 255),(ii 1000),(sS ([64,0,0])),zO,zO,zN]))] [0] fun a H=>H.sh HP 3 0 (.agg #[(ii c.number),(ii fr),zO,zO,zO,zT,zS,(ii 255),(ii 1000),(sS ([64,0,0])),zO,zO,zN]) rfl fun w_18 a H HP=>znl<|ztn<|zrt<|H.ret1 (fn:=Tryz.f44) Tryz.results44 (RV.cellN (vs:=[(ii c.number),(ii fr),zO,zO,zO,zT,zS,(ii 255),(ii 1000),(sS ([64,0,0])),zO,zO,zN]) (b:=b_1) (off:=0) (k:=13) kr kr kr rfl (HP.cells 3 rfl 0 13 kr)) ?_
 have HP:Hp w w_18 [bx b_11 76 [(ii c.number),(ii fr),zO,zO,zO,zT,zS,(ii 255),(ii 1000),(sS ([64,0,0])),zO,zO,zN] true,bx b_8 76 zc0 true,bx b_4 76 zc0 true,bx b_1 76 [(ii c.number),(ii fr),zO,zO,zO,zT,zS,(ii 255),(ii 1000),(sS ([64,0,0])),zO,zO,zN] true,bx bc 115 (pre++[zO,zO,(ii ((vstep c.full ((([]:List UInt8).length:Nat):Int)).getD 0)),(ii c.taken),(ii c.number),(ii c.num),(ii c.den)]++post) false] [laidK,astsK LA lib,boxK bs 111 [(sB bc n cc),(sL LA lib.length lc),(.bool hd),(ii at_),(ii od)]]:=HP;refine⟨(slateU c.number fr),rfl,rfl,?_,?_,HP.only bc (by intro x hx;simp only[List.mem_cons,List.not_mem_nil,or_false] at hx;rcases hx with rfl|rfl|rfl|rfl|rfl;exact .inl rfl;exact .inl rfl;exact .inl rfl;exact .inl rfl;exact .inr (fun k hk=>hk))⟩
 ·exact(congrArg Prod.fst (choose_nn h1 h2)).symm
 rw[choose_nn h1 h2];exact HP.at_ 4 rfl
theorem choose_ny_any (bs bc n cc o:Nat) (lc:Nat) (LA:Option Addr) (lib:List AstA) (hd:Bool) (at_ od fr:Int) (pre post:List Value) (c:Ch) (la lb:List UInt8) (w:World) (ho:pre.length=o) (hn:0<n) (hat:0≤at_∧at_≤9223372036854775807) (hfr:-9223372036854775808≤fr∧fr≤9223372036854775807) (hix:-1≤c.index∧c.index≤1000000000) (hla:la.length≤1000000) (hlb:lb.length≤1000000) (hala:∀u,unpackP c.num c.den la=some u→u.al=[]) (halb:∀u,unpackP c.num c.den lb=some u→u.al=[]) (hne:bs≠bc) (hcl:¬libFp LA lib bc) (h2c:2≤bc) (hL:Laid w) (hlib:IsAsts w LA lib.length lib) (hln:lib.length≤maxLen) (hlp:∀a∈lib,a.pics.length≤2000000) (hS:Box w bs 111 (selL bc n cc LA lib.length lc hd at_ od).toArray) (hC:Box w bc 115 (pre++chL c++post).toArray) (y:Un) (h1:acceptP lib (floorP hd at_ od fr) c fr la=none) (h2:acceptP lib (floorP hd at_ od fr) c fr lb=some y):
  Calls Tryz.prog 44 #[.pointer (some ⟨bs,0,none⟩),.pointer (some ⟨bc,o,none⟩),.int .i64 fr,.string (bstr la),.string (bstr lb)] w fun e w'=>RetCh lib (floorP hd at_ od fr) c fr la lb bc pre post w e w':=by
 have HP:=(((Hp.own (vs:=pre++[(ii c.item),(ii c.index),(ii c.full),(ii c.taken),(ii c.number),(ii c.num),(ii c.den)]++post) hC).keepF (boxK bs 111 [(sB bc n cc),(sL LA lib.length lc),(.bool hd),(ii at_),(ii od)]) hS (boxK_ok _ _ _) (fun k hk=>⟨boxK_lt hS hk,fun x hx=>by simp only[List.mem_cons,List.not_mem_nil,or_false] at hx;rcases hx with rfl;exact fun e=>hne (hk.symm.trans e)⟩)).keepF (astsK LA lib) hlib (fun _ _ h hk hs=>IsAsts.keep h hk hs) (fun k hk=>⟨IsAsts.lt hlib hk,fun x hx=>by simp only[List.mem_cons,List.not_mem_nil,or_false] at hx;rcases hx with rfl;exact fun e=>hcl (e ▸ hk)⟩)).keepF laidK hL laidK_ok (fun k hk=>⟨hL.lt k hk,fun x hx=>by simp only[List.mem_cons,List.not_mem_nil,or_false] at hx;rcases hx with rfl;exact fun e=>by rcases hk with hk|hk<;>(have:k=bc:=e;omega)⟩)
 refine w_enter 87 [(0,(pt bs 0)),(1,(pt bc o)),(2,(ii fr)),(3,(sS la)),(4,(sS lb))] Tryz.func44 rfl Tryz.ntmps44 kr kr fun a H=>zq<|H.al HP 10 76 zc0 fun b_1 w_2 a H HP=>znl<|zt<|H.gn HP 4 [(17,(pt bs 0)),(18,(pt bc o)),(19,(ii fr)),(20,(sS la))] fun a H=>H.cb HP 21 (Tryz.call76 _ _) (accept_no bs bc n cc o lc LA lib hd at_ od fr pre post c la w_2 ho hn hat hfr hix hla hala (HP.fact 0 rfl) (HP.fact 1 rfl) hln hlp (HP.fact 2 rfl) (HP.at_ 1 rfl) h1) fun w_3 hb a H HP=>H.gn HP 3 [(22,(.agg zc1)),(23,zF)] fun a H=>H.al HP 11 76 zc0 fun b_4 w_5 a H HP=>H.sh HP 0 0 (.agg zc1) rfl fun w_6 a H HP=>H.gz HP [(12,zF)] fun a H=>zq<|H.gn HP 4 [(25,(pt bs 0)),(26,(pt bc o)),(27,(ii fr)),(28,(sS lb))] fun a H=>H.cl 29 (Tryz.call76 _ _) (accept_yes bs bc n cc o lc LA lib hd at_ od fr pre post c lb w_6 ho hn hat hfr hix hlb halb (HP.fact 0 rfl) (HP.fact 1 rfl) hln hlp (HP.fact 2 rfl) (HP.at_ 2 rfl) h2) ?_
 rintro e w_7 ⟨V2,rfl,hal2,hba2,hb⟩;refine⟨_,rfl,?_⟩;intro a H;have HP:=HP.next hb
 refine H.gn HP 3 [(30,(.agg (ua V2 V2.A V2.c))),(31,zT)] fun a H=>H.al HP 13 76 zc0 fun b_8 w_9 a H HP=>H.sh HP 0 0 (.agg (ua V2 V2.A V2.c)) rfl fun w_10 a H HP=>H.gz HP [(14,zT)] fun a H=>zq<|H.go HP 1 [(32,(.agg zc1))] [1] fun a H=>H.al HP 15 76 zc0 fun b_11 w_12 a H HP=>H.sh HP 0 0 (.agg zc1) rfl fun w_13 a H HP=>znl<|ztn<|zsq<|zbk<|zq<|H.gz HP [(38,zF)] fun a H=>w_iff H rfl<|zq<|H.gz HP [(51,zF)] fun a H=>w_iff H rfl<|zq<|H.gz HP [(75,zF)] fun a H=>w_iff H rfl ?_
 have HP:=HP.front 4 rfl _ rfl
 refine An.start (fun v=>Hp (bareW w) v [bx b_11 76 zc0 true,bx b_8 76 (ul V2 V2.A V2.c) true,bx b_4 76 zc0 true,bx b_1 76 zc0 true] [laidK,astsK LA lib,boxK bs 111 [(sB bc n cc),(sL LA lib.length lc),(.bool hd),(ii at_),(ii od)]]) 6 7 HP wide_follows rfl fun w_14 HP=>An.go H (.inr (HP.bareN 1)) 2 [0,1,2,3,4] [(34,(.agg (ua V2 V2.A V2.c))),(37,(.pointer (some ⟨bc,o+3,none⟩)))] [1] fun a H=>An.one 5 kr<|Op.storeW H HP 0 bc o 3 115 pre [(ii c.item),(ii c.index),(ii c.full),(ii c.taken),(ii c.number),(ii c.num),(ii c.den)] post false (ii 1) [bx bc 115 (pre++[(ii c.item),(ii c.index),(ii c.full),(ii 1),(ii c.number),(ii c.num),(ii c.den)]++post) false,bx b_11 76 zc0 true,bx b_8 76 (ul V2 V2.A V2.c) true,bx b_4 76 zc0 true,bx b_1 76 zc0 true] ho rfl kr kr kr rfl kr rfl kr rfl fun w_15 a H HP=>⟨.inr (HP.bareN 1),?_⟩
 refine An.one 6 kr<|Op.sh H HP 1 0 (.agg (ua V2 V2.A V2.c)) rfl rfl fun w_16 a H HP=>⟨.inl kr,?_⟩
 refine An.done kr<|zibn<|ztn<|zsq<|An.start (fun v=>Hp w v [bx bc 115 (pre++[(ii c.item),(ii c.index),(ii c.full),(ii 1),(ii c.number),(ii c.num),(ii c.den)]++post) false,bx b_11 76 (ul V2 V2.A V2.c) true,bx b_8 76 (ul V2 V2.A V2.c) true,bx b_4 76 zc0 true,bx b_1 76 zc0 true] [laidK,astsK LA lib,boxK bs 111 [(sB bc n cc),(sL LA lib.length lc),(.bool hd),(ii at_),(ii od)]]) 4 5 HP wide_follows rfl fun w_17 HP=>An.go H (.inr HP) 1 [0,1,2,3] [(83,(pt bc o)),(84,(.agg (ua V2 V2.A V2.c)))] [1] fun a H=>An.one 4 kr<|Op.cl H 85 (Tryz.call78 _ _) (show_any bc o pre post ({ c with taken:=1}) V2 w_17 (HP.at_ 0 rfl) ho) ?_
 rintro e w_18 ⟨rfl,hbx,hgr⟩;refine⟨_,rfl,?_⟩;intro a H
 have HP:=(HP.changed 0 rfl (pre++[(ii V2.item),(ii V2.index),(ii ((vstep c.full (V2.data.length:Int)).getD 0)),(ii 1),(ii c.number),(ii c.num),(ii c.den)]++post) [bx bc 115 (pre++[(ii V2.item),(ii V2.index),(ii ((vstep c.full (V2.data.length:Int)).getD 0)),(ii 1),(ii c.number),(ii c.num),(ii c.den)]++post) false,bx b_11 76 (ul V2 V2.A V2.c) true,bx b_8 76 (ul V2 V2.A V2.c) true,bx b_4 76 zc0 true,bx b_1 76 zc0 true] kr hgr hbx);refine⟨.inl kr,?_⟩
 refine An.done kr<|zt<|H.go HP 1 [(86,(.agg (ua V2 V2.A V2.c)))] [1] fun a H=>H.sh HP 4 0 (.agg (ua V2 V2.A V2.c)) rfl fun w_19 a H HP=>znl<|ztn<|zrt<|H.ret1 (fn:=Tryz.f44) Tryz.results44 (RV.cellN (vs:=(ul V2 V2.A V2.c)) (b:=b_1) (off:=0) (k:=13) kr kr kr rfl (HP.cells 4 rfl 0 13 kr)) ?_
 have HP:Hp w w_19 [bx bc 115 (pre++[(ii V2.item),(ii V2.index),(ii ((vstep c.full (V2.data.length:Int)).getD 0)),(ii 1),(ii c.number),(ii c.num),(ii c.den)]++post) false,bx b_11 76 (ul V2 V2.A V2.c) true,bx b_8 76 (ul V2 V2.A V2.c) true,bx b_4 76 zc0 true,bx b_1 76 (ul V2 V2.A V2.c) true] [laidK,astsK LA lib,boxK bs 111 [(sB bc n cc),(sL LA lib.length lc),(.bool hd),(ii at_),(ii od)]]:=HP
 subst hba2;refine⟨V2,rfl,hal2,?_,?_,HP.only bc (by intro x hx;simp only[List.mem_cons,List.not_mem_nil,or_false] at hx;rcases hx with rfl|rfl|rfl|rfl|rfl;exact .inr (fun k hk=>hk);exact .inl rfl;exact .inl rfl;exact .inl rfl;exact .inl rfl)⟩
 ·exact(congrArg Prod.fst (choose_ny h1 h2)).symm
 rw[choose_ny h1 h2];exact HP.at_ 0 rfl
theorem choose_yn_any (bs bc n cc o:Nat) (lc:Nat) (LA:Option Addr) (lib:List AstA) (hd:Bool) (at_ od fr:Int) (pre post:List Value) (c:Ch) (la lb:List UInt8) (w:World) (ho:pre.length=o) (hn:0<n) (hat:0≤at_∧at_≤9223372036854775807) (hfr:-9223372036854775808≤fr∧fr≤9223372036854775807) (hix:-1≤c.index∧c.index≤1000000000) (hla:la.length≤1000000) (hlb:lb.length≤1000000) (hala:∀u,unpackP c.num c.den la=some u→u.al=[]) (halb:∀u,unpackP c.num c.den lb=some u→u.al=[]) (hne:bs≠bc) (hcl:¬libFp LA lib bc) (h2c:2≤bc) (hL:Laid w) (hlib:IsAsts w LA lib.length lib) (hln:lib.length≤maxLen) (hlp:∀a∈lib,a.pics.length≤2000000) (hS:Box w bs 111 (selL bc n cc LA lib.length lc hd at_ od).toArray) (hC:Box w bc 115 (pre++chL c++post).toArray) (x:Un) (h1:acceptP lib (floorP hd at_ od fr) c fr la=some x) (h2:acceptP lib (floorP hd at_ od fr) c fr lb=none):
  Calls Tryz.prog 44 #[.pointer (some ⟨bs,0,none⟩),.pointer (some ⟨bc,o,none⟩),.int .i64 fr,.string (bstr la),.string (bstr lb)] w fun e w'=>RetCh lib (floorP hd at_ od fr) c fr la lb bc pre post w e w':=by
 have HP:=(((Hp.own (vs:=pre++[(ii c.item),(ii c.index),(ii c.full),(ii c.taken),(ii c.number),(ii c.num),(ii c.den)]++post) hC).keepF (boxK bs 111 [(sB bc n cc),(sL LA lib.length lc),(.bool hd),(ii at_),(ii od)]) hS (boxK_ok _ _ _) (fun k hk=>⟨boxK_lt hS hk,fun x hx=>by simp only[List.mem_cons,List.not_mem_nil,or_false] at hx;rcases hx with rfl;exact fun e=>hne (hk.symm.trans e)⟩)).keepF (astsK LA lib) hlib (fun _ _ h hk hs=>IsAsts.keep h hk hs) (fun k hk=>⟨IsAsts.lt hlib hk,fun x hx=>by simp only[List.mem_cons,List.not_mem_nil,or_false] at hx;rcases hx with rfl;exact fun e=>hcl (e ▸ hk)⟩)).keepF laidK hL laidK_ok (fun k hk=>⟨hL.lt k hk,fun x hx=>by simp only[List.mem_cons,List.not_mem_nil,or_false] at hx;rcases hx with rfl;exact fun e=>by rcases hk with hk|hk<;>(have:k=bc:=e;omega)⟩)
 refine w_enter 87 [(0,(pt bs 0)),(1,(pt bc o)),(2,(ii fr)),(3,(sS la)),(4,(sS lb))] Tryz.func44 rfl Tryz.ntmps44 kr kr fun a H=>zq<|H.al HP 10 76 zc0 fun b_1 w_2 a H HP=>znl<|zt<|H.gn HP 4 [(17,(pt bs 0)),(18,(pt bc o)),(19,(ii fr)),(20,(sS la))] fun a H=>H.cl 21 (Tryz.call76 _ _) (accept_yes bs bc n cc o lc LA lib hd at_ od fr pre post c la w_2 ho hn hat hfr hix hla hala (HP.fact 0 rfl) (HP.fact 1 rfl) hln hlp (HP.fact 2 rfl) (HP.at_ 1 rfl) h1) ?_;rintro e w_3 ⟨V1,rfl,hal1,hba1,hb⟩;refine⟨_,rfl,?_⟩;intro a H;have HP:=HP.next hb
 refine H.gn HP 3 [(22,(.agg (ua V1 V1.A V1.c))),(23,zT)] fun a H=>H.al HP 11 76 zc0 fun b_4 w_5 a H HP=>H.sh HP 0 0 (.agg (ua V1 V1.A V1.c)) rfl fun w_6 a H HP=>H.gz HP [(12,zT)] fun a H=>zq<|H.gn HP 4 [(25,(pt bs 0)),(26,(pt bc o)),(27,(ii fr)),(28,(sS lb))] fun a H=>H.cb HP 29 (Tryz.call76 _ _) (accept_no bs bc n cc o lc LA lib hd at_ od fr pre post c lb w_6 ho hn hat hfr hix hlb halb (HP.fact 0 rfl) (HP.fact 1 rfl) hln hlp (HP.fact 2 rfl) (HP.at_ 2 rfl) h2) fun w_7 hb a H HP=>H.gn HP 3 [(30,(.agg zc1)),(31,zF)] fun a H=>H.al HP 13 76 zc0 fun b_8 w_9 a H HP=>H.sh HP 0 0 (.agg zc1) rfl fun w_10 a H HP=>H.gz HP [(14,zF)] fun a H=>zq<|H.go HP 1 [(32,(.agg (ua V1 V1.A V1.c)))] [1] fun a H=>H.al HP 15 76 zc0 fun b_11 w_12 a H HP=>H.sh HP 0 0 (.agg (ua V1 V1.A V1.c)) rfl fun w_13 a H HP=>znl<|ztn<|zsq<|zbk<|zq<|H.gz HP [(38,zF)] fun a H=>w_iff H rfl<|zq<|H.gz HP [(51,zF)] fun a H=>w_iff H rfl<|zq<|H.gz HP [(75,zT)] fun a H=>w_ift H rfl<|zrg<|H.gn HP 4 [(80,(.pointer (some ⟨bc,o+3,none⟩)))] fun a H=>H.storeW HP 4 bc o 3 115 pre [(ii c.item),(ii c.index),(ii c.full),(ii c.taken),(ii c.number),(ii c.num),(ii c.den)] post false zO [bx b_11 76 (ul V1 V1.A V1.c) true,bx b_8 76 zc0 true,bx b_4 76 (ul V1 V1.A V1.c) true,bx b_1 76 zc0 true,bx bc 115 (pre++[(ii c.item),(ii c.index),(ii c.full),zO,(ii c.number),(ii c.num),(ii c.den)]++post) false] ho kr kr kr rfl kr rfl kr rfl fun w_14 a H HP=>znl<|zibn<|ztn<|zsq<|An.start (fun v=>Hp w v [bx b_11 76 (ul V1 V1.A V1.c) true,bx b_8 76 zc0 true,bx b_4 76 (ul V1 V1.A V1.c) true,bx b_1 76 zc0 true,bx bc 115 (pre++[(ii c.item),(ii c.index),(ii c.full),zO,(ii c.number),(ii c.num),(ii c.den)]++post) false] [laidK,astsK LA lib,boxK bs 111 [(sB bc n cc),(sL LA lib.length lc),(.bool hd),(ii at_),(ii od)]]) 4 5 HP wide_follows rfl fun w_15 HP=>An.go H (.inr HP) 1 [0,1,2,3] [(83,(pt bc o)),(84,(.agg (ua V1 V1.A V1.c)))] [0] fun a H=>An.one 4 kr<|Op.cl H 85 (Tryz.call78 _ _) (show_any bc o pre post ({ c with taken:=0}) V1 w_15 (HP.at_ 4 rfl) ho) ?_
 rintro e w_16 ⟨rfl,hbx,hgr⟩;refine⟨_,rfl,?_⟩;intro a H
 have HP:=(HP.changed 4 rfl (pre++[(ii V1.item),(ii V1.index),(ii ((vstep c.full (V1.data.length:Int)).getD 0)),zO,(ii c.number),(ii c.num),(ii c.den)]++post) [bx b_11 76 (ul V1 V1.A V1.c) true,bx b_8 76 zc0 true,bx b_4 76 (ul V1 V1.A V1.c) true,bx b_1 76 zc0 true,bx bc 115 (pre++[(ii V1.item),(ii V1.index),(ii ((vstep c.full (V1.data.length:Int)).getD 0)),zO,(ii c.number),(ii c.num),(ii c.den)]++post) false] kr hgr hbx);refine⟨.inl kr,?_⟩
 refine An.done kr<|zt<|H.go HP 1 [(86,(.agg (ua V1 V1.A V1.c)))] [0] fun a H=>H.sh HP 3 0 (.agg (ua V1 V1.A V1.c)) rfl fun w_17 a H HP=>znl<|ztn<|zrt<|H.ret1 (fn:=Tryz.f44) Tryz.results44 (RV.cellN (vs:=(ul V1 V1.A V1.c)) (b:=b_1) (off:=0) (k:=13) kr kr kr rfl (HP.cells 3 rfl 0 13 kr)) ?_
 have HP:Hp w w_17 [bx b_11 76 (ul V1 V1.A V1.c) true,bx b_8 76 zc0 true,bx b_4 76 (ul V1 V1.A V1.c) true,bx b_1 76 (ul V1 V1.A V1.c) true,bx bc 115 (pre++[(ii V1.item),(ii V1.index),(ii ((vstep c.full (V1.data.length:Int)).getD 0)),zO,(ii c.number),(ii c.num),(ii c.den)]++post) false] [laidK,astsK LA lib,boxK bs 111 [(sB bc n cc),(sL LA lib.length lc),(.bool hd),(ii at_),(ii od)]]:=HP
 subst hba1;refine⟨V1,rfl,hal1,?_,?_,HP.only bc (by intro x hx;simp only[List.mem_cons,List.not_mem_nil,or_false] at hx;rcases hx with rfl|rfl|rfl|rfl|rfl;exact .inl rfl;exact .inl rfl;exact .inl rfl;exact .inl rfl;exact .inr (fun k hk=>hk))⟩
 ·exact(congrArg Prod.fst (choose_yn h1 h2)).symm
 rw[choose_yn h1 h2];exact HP.at_ 4 rfl
theorem choose_yy_any (bs bc n cc o:Nat) (lc:Nat) (LA:Option Addr) (lib:List AstA) (hd:Bool) (at_ od fr:Int) (pre post:List Value) (c:Ch) (la lb:List UInt8) (w:World) (ho:pre.length=o) (hn:0<n) (hat:0≤at_∧at_≤9223372036854775807) (hfr:-9223372036854775808≤fr∧fr≤9223372036854775807) (hix:-1≤c.index∧c.index≤1000000000) (hla:la.length≤1000000) (hlb:lb.length≤1000000) (hala:∀u,unpackP c.num c.den la=some u→u.al=[]) (halb:∀u,unpackP c.num c.den lb=some u→u.al=[]) (hne:bs≠bc) (hcl:¬libFp LA lib bc) (h2c:2≤bc) (hL:Laid w) (hlib:IsAsts w LA lib.length lib) (hln:lib.length≤maxLen) (hlp:∀a∈lib,a.pics.length≤2000000) (hS:Box w bs 111 (selL bc n cc LA lib.length lc hd at_ od).toArray) (hC:Box w bc 115 (pre++chL c++post).toArray) (x:Un) (y:Un) (h1:acceptP lib (floorP hd at_ od fr) c fr la=some x) (h2:acceptP lib (floorP hd at_ od fr) c fr lb=some y):
  Calls Tryz.prog 44 #[.pointer (some ⟨bs,0,none⟩),.pointer (some ⟨bc,o,none⟩),.int .i64 fr,.string (bstr la),.string (bstr lb)] w fun e w'=>RetCh lib (floorP hd at_ od fr) c fr la lb bc pre post w e w':=by
 have HP:=(((Hp.own (vs:=pre++[(ii c.item),(ii c.index),(ii c.full),(ii c.taken),(ii c.number),(ii c.num),(ii c.den)]++post) hC).keepF (boxK bs 111 [(sB bc n cc),(sL LA lib.length lc),(.bool hd),(ii at_),(ii od)]) hS (boxK_ok _ _ _) (fun k hk=>⟨boxK_lt hS hk,fun x hx=>by simp only[List.mem_cons,List.not_mem_nil,or_false] at hx;rcases hx with rfl;exact fun e=>hne (hk.symm.trans e)⟩)).keepF (astsK LA lib) hlib (fun _ _ h hk hs=>IsAsts.keep h hk hs) (fun k hk=>⟨IsAsts.lt hlib hk,fun x hx=>by simp only[List.mem_cons,List.not_mem_nil,or_false] at hx;rcases hx with rfl;exact fun e=>hcl (e ▸ hk)⟩)).keepF laidK hL laidK_ok (fun k hk=>⟨hL.lt k hk,fun x hx=>by simp only[List.mem_cons,List.not_mem_nil,or_false] at hx;rcases hx with rfl;exact fun e=>by rcases hk with hk|hk<;>(have:k=bc:=e;omega)⟩)
 refine w_enter 87 [(0,(pt bs 0)),(1,(pt bc o)),(2,(ii fr)),(3,(sS la)),(4,(sS lb))] Tryz.func44 rfl Tryz.ntmps44 kr kr fun a H=>zq<|H.al HP 10 76 zc0 fun b_1 w_2 a H HP=>znl<|zt<|H.gn HP 4 [(17,(pt bs 0)),(18,(pt bc o)),(19,(ii fr)),(20,(sS la))] fun a H=>H.cl 21 (Tryz.call76 _ _) (accept_yes bs bc n cc o lc LA lib hd at_ od fr pre post c la w_2 ho hn hat hfr hix hla hala (HP.fact 0 rfl) (HP.fact 1 rfl) hln hlp (HP.fact 2 rfl) (HP.at_ 1 rfl) h1) ?_;rintro e w_3 ⟨V1,rfl,hal1,hba1,hb⟩;refine⟨_,rfl,?_⟩;intro a H;have HP:=HP.next hb
 refine H.gn HP 3 [(22,(.agg (ua V1 V1.A V1.c))),(23,zT)] fun a H=>H.al HP 11 76 zc0 fun b_4 w_5 a H HP=>H.sh HP 0 0 (.agg (ua V1 V1.A V1.c)) rfl fun w_6 a H HP=>H.gz HP [(12,zT)] fun a H=>zq<|H.gn HP 4 [(25,(pt bs 0)),(26,(pt bc o)),(27,(ii fr)),(28,(sS lb))] fun a H=>H.cl 29 (Tryz.call76 _ _) (accept_yes bs bc n cc o lc LA lib hd at_ od fr pre post c lb w_6 ho hn hat hfr hix hlb halb (HP.fact 0 rfl) (HP.fact 1 rfl) hln hlp (HP.fact 2 rfl) (HP.at_ 2 rfl) h2) ?_
 rintro e w_7 ⟨V2,rfl,hal2,hba2,hb⟩;refine⟨_,rfl,?_⟩;intro a H;have HP:=HP.next hb
 refine H.gn HP 3 [(30,(.agg (ua V2 V2.A V2.c))),(31,zT)] fun a H=>H.al HP 13 76 zc0 fun b_8 w_9 a H HP=>H.sh HP 0 0 (.agg (ua V2 V2.A V2.c)) rfl fun w_10 a H HP=>H.gz HP [(14,zT)] fun a H=>zq<|H.go HP 1 [(32,(.agg (ua V1 V1.A V1.c)))] [1] fun a H=>H.al HP 15 76 zc0 fun b_11 w_12 a H HP=>H.sh HP 0 0 (.agg (ua V1 V1.A V1.c)) rfl fun w_13 a H HP=>znl<|ztn<|zsq<|zbk<|zq<|H.gz HP [(38,zF)] fun a H=>w_iff H rfl<|zq<|H.gz HP [(51,zT)] fun a H=>w_ift H rfl<|zsq ?_
 have HP:=HP.front 4 rfl _ rfl
 refine An.start (fun v=>Hp (bareW w) v [bx b_11 76 (ul V1 V1.A V1.c) true,bx b_8 76 (ul V2 V2.A V2.c) true,bx b_4 76 (ul V1 V1.A V1.c) true,bx b_1 76 zc0 true] [laidK,astsK LA lib,boxK bs 111 [(sB bc n cc),(sL LA lib.length lc),(.bool hd),(ii at_),(ii od)]]) 12 13 HP wide_follows rfl fun w_14 HP=>An.go H (.inr (HP.bareN 1)) 6 [0,1,2,3,4,5,6] [(56,(pt bc o)),(57,(.agg (ua V1 V1.A V1.c))),(58,(.agg (ua V2 V2.A V2.c))),(62,(.pointer (some ⟨bc,o+3,none⟩)))] [2,1] fun a H=>An.one 7 kr<|Op.val H 63 (ii c.taken) rfl kr (ex_l1 (win_cell (k:=3) (HP.at_ 0 rfl) ho rfl)) fun a H=>⟨.inr (HP.bareN 1),?_⟩
 refine An.one 8 kr<|Op.cb H HP 64 (Tryz.call77 _ _) (prefer_any V1 V2 c.taken w_14) fun w_15 hb a H HP=>⟨.inr (HP.bareN 1),?_⟩
 refine An.go H (.inr (HP.bareN 1)) 1 [9,10,11] [(67,(.pointer (some ⟨bc,o+3,none⟩)))] [] fun a H=>An.one 12 kr<|Op.storeW H HP 0 bc o 3 115 pre [(ii c.item),(ii c.index),(ii c.full),(ii c.taken),(ii c.number),(ii c.num),(ii c.den)] post false (ii (preferP V1 V2 c.taken)) [bx bc 115 (pre++[(ii c.item),(ii c.index),(ii c.full),(ii (preferP V1 V2 c.taken)),(ii c.number),(ii c.num),(ii c.den)]++post) false,bx b_11 76 (ul V1 V1.A V1.c) true,bx b_8 76 (ul V2 V2.A V2.c) true,bx b_4 76 (ul V1 V1.A V1.c) true,bx b_1 76 zc0 true] ho rfl kr kr kr rfl kr rfl kr rfl fun w_16 a H HP=>⟨.inl kr,?_⟩
 refine An.done kr<|zt<|H.gn HP 4 [(71,(.pointer (some ⟨bc,o+3,none⟩)))] fun a H=>H.u 72 (ii (preferP V1 V2 c.taken)) (ex_l1 (win_cell (k:=3) (HP.at_ 0 rfl) ho rfl)) fun a H=>H.gz HP [(73,(.bool ((preferP V1 V2 c.taken) == 1)))] fun a H=>w_if H rfl (fun g73=>?_) (fun g73=>?_)
 ·have g73p:=eq_of_beq g73
  refine zrg<|H.go HP 1 [(74,(.agg (ua V2 V2.A V2.c)))] [2] fun a H=>H.sh HP 1 0 (.agg (ua V2 V2.A V2.c)) rfl fun w_17 a H HP=>znl<|zibn<|ztn<|zsq<|An.start (fun v=>Hp w v [bx bc 115 (pre++[(ii c.item),(ii c.index),(ii c.full),(ii (preferP V1 V2 c.taken)),(ii c.number),(ii c.num),(ii c.den)]++post) false,bx b_11 76 (ul V2 V2.A V2.c) true,bx b_8 76 (ul V2 V2.A V2.c) true,bx b_4 76 (ul V1 V1.A V1.c) true,bx b_1 76 zc0 true] [laidK,astsK LA lib,boxK bs 111 [(sB bc n cc),(sL LA lib.length lc),(.bool hd),(ii at_),(ii od)]]) 4 5 HP wide_follows rfl fun w_18 HP=>An.go H (.inr HP) 1 [0,1,2,3] [(83,(pt bc o)),(84,(.agg (ua V2 V2.A V2.c)))] [1] fun a H=>An.one 4 kr<|Op.cl H 85 (Tryz.call78 _ _) (show_any bc o pre post ({ c with taken:=preferP V1 V2 c.taken}) V2 w_18 (HP.at_ 0 rfl) ho) ?_
  rintro e w_19 ⟨rfl,hbx,hgr⟩;refine⟨_,rfl,?_⟩;intro a H
  have HP:=(HP.changed 0 rfl (pre++[(ii V2.item),(ii V2.index),(ii ((vstep c.full (V2.data.length:Int)).getD 0)),(ii (preferP V1 V2 c.taken)),(ii c.number),(ii c.num),(ii c.den)]++post) [bx bc 115 (pre++[(ii V2.item),(ii V2.index),(ii ((vstep c.full (V2.data.length:Int)).getD 0)),(ii (preferP V1 V2 c.taken)),(ii c.number),(ii c.num),(ii c.den)]++post) false,bx b_11 76 (ul V2 V2.A V2.c) true,bx b_8 76 (ul V2 V2.A V2.c) true,bx b_4 76 (ul V1 V1.A V1.c) true,bx b_1 76 zc0 true] kr hgr hbx)
  refine⟨.inl kr,?_⟩;refine An.done kr<|zt<|H.go HP 1 [(86,(.agg (ua V2 V2.A V2.c)))] [1] fun a H=>H.sh HP 4 0 (.agg (ua V2 V2.A V2.c)) rfl fun w_20 a H HP=>znl<|ztn<|zrt<|H.ret1 (fn:=Tryz.f44) Tryz.results44 (RV.cellN (vs:=(ul V2 V2.A V2.c)) (b:=b_1) (off:=0) (k:=13) kr kr kr rfl (HP.cells 4 rfl 0 13 kr)) ?_
  have HP:Hp w w_20 [bx bc 115 (pre++[(ii V2.item),(ii V2.index),(ii ((vstep c.full (V2.data.length:Int)).getD 0)),(ii (preferP V1 V2 c.taken)),(ii c.number),(ii c.num),(ii c.den)]++post) false,bx b_11 76 (ul V2 V2.A V2.c) true,bx b_8 76 (ul V2 V2.A V2.c) true,bx b_4 76 (ul V1 V1.A V1.c) true,bx b_1 76 (ul V2 V2.A V2.c) true] [laidK,astsK LA lib,boxK bs 111 [(sB bc n cc),(sL LA lib.length lc),(.bool hd),(ii at_),(ii od)]]:=HP
  subst hba1;subst hba2;refine⟨V2,rfl,hal2,?_,?_,HP.only bc (by intro x hx;simp only[List.mem_cons,List.not_mem_nil,or_false] at hx;rcases hx with rfl|rfl|rfl|rfl|rfl;exact .inr (fun k hk=>hk);exact .inl rfl;exact .inl rfl;exact .inl rfl;exact .inl rfl)⟩
  ·exact(congrArg Prod.fst (choose_yy1 h1 h2 g73p)).symm
  rw[choose_yy1 h1 h2 g73p];exact HP.at_ 0 rfl
 have g73p:=ne_of_beq_false g73
 refine zsk<|zibn<|ztn<|zsq<|An.start (fun v=>Hp w v [bx bc 115 (pre++[(ii c.item),(ii c.index),(ii c.full),(ii (preferP V1 V2 c.taken)),(ii c.number),(ii c.num),(ii c.den)]++post) false,bx b_11 76 (ul V1 V1.A V1.c) true,bx b_8 76 (ul V2 V2.A V2.c) true,bx b_4 76 (ul V1 V1.A V1.c) true,bx b_1 76 zc0 true] [laidK,astsK LA lib,boxK bs 111 [(sB bc n cc),(sL LA lib.length lc),(.bool hd),(ii at_),(ii od)]]) 4 5 HP wide_follows rfl fun w_21 HP=>An.go H (.inr HP) 1 [0,1,2,3] [(83,(pt bc o)),(84,(.agg (ua V1 V1.A V1.c)))] [1] fun a H=>An.one 4 kr<|Op.cl H 85 (Tryz.call78 _ _) (show_any bc o pre post ({ c with taken:=preferP V1 V2 c.taken}) V1 w_21 (HP.at_ 0 rfl) ho) ?_
 rintro e w_22 ⟨rfl,hbx,hgr⟩;refine⟨_,rfl,?_⟩;intro a H
 have HP:=(HP.changed 0 rfl (pre++[(ii V1.item),(ii V1.index),(ii ((vstep c.full (V1.data.length:Int)).getD 0)),(ii (preferP V1 V2 c.taken)),(ii c.number),(ii c.num),(ii c.den)]++post) [bx bc 115 (pre++[(ii V1.item),(ii V1.index),(ii ((vstep c.full (V1.data.length:Int)).getD 0)),(ii (preferP V1 V2 c.taken)),(ii c.number),(ii c.num),(ii c.den)]++post) false,bx b_11 76 (ul V1 V1.A V1.c) true,bx b_8 76 (ul V2 V2.A V2.c) true,bx b_4 76 (ul V1 V1.A V1.c) true,bx b_1 76 zc0 true] kr hgr hbx)
 refine⟨.inl kr,?_⟩;refine An.done kr<|zt<|H.go HP 1 [(86,(.agg (ua V1 V1.A V1.c)))] [1] fun a H=>H.sh HP 4 0 (.agg (ua V1 V1.A V1.c)) rfl fun w_23 a H HP=>znl<|ztn<|zrt<|H.ret1 (fn:=Tryz.f44) Tryz.results44 (RV.cellN (vs:=(ul V1 V1.A V1.c)) (b:=b_1) (off:=0) (k:=13) kr kr kr rfl (HP.cells 4 rfl 0 13 kr)) ?_
 have HP:Hp w w_23 [bx bc 115 (pre++[(ii V1.item),(ii V1.index),(ii ((vstep c.full (V1.data.length:Int)).getD 0)),(ii (preferP V1 V2 c.taken)),(ii c.number),(ii c.num),(ii c.den)]++post) false,bx b_11 76 (ul V1 V1.A V1.c) true,bx b_8 76 (ul V2 V2.A V2.c) true,bx b_4 76 (ul V1 V1.A V1.c) true,bx b_1 76 (ul V1 V1.A V1.c) true] [laidK,astsK LA lib,boxK bs 111 [(sB bc n cc),(sL LA lib.length lc),(.bool hd),(ii at_),(ii od)]]:=HP
 subst hba1;subst hba2;refine⟨V1,rfl,hal1,?_,?_,HP.only bc (by intro x hx;simp only[List.mem_cons,List.not_mem_nil,or_false] at hx;rcases hx with rfl|rfl|rfl|rfl|rfl;exact .inr (fun k hk=>hk);exact .inl rfl;exact .inl rfl;exact .inl rfl;exact .inl rfl)⟩
 ·exact(congrArg Prod.fst (choose_yy0 h1 h2 g73p)).symm
 rw[choose_yy0 h1 h2 g73p];exact HP.at_ 0 rfl
theorem choose_any (bs bc n cc o:Nat) (lc:Nat) (LA:Option Addr) (lib:List AstA) (hd:Bool) (at_ od fr:Int) (pre post:List Value) (c:Ch) (la lb:List UInt8) (w:World) (ho:pre.length=o) (hn:0<n) (hat:0≤at_∧at_≤9223372036854775807) (hfr:-9223372036854775808≤fr∧fr≤9223372036854775807) (hix:-1≤c.index∧c.index≤1000000000) (hla:la.length≤1000000) (hlb:lb.length≤1000000) (hala:∀u,unpackP c.num c.den la=some u→u.al=[]) (halb:∀u,unpackP c.num c.den lb=some u→u.al=[]) (hne:bs≠bc) (hcl:¬libFp LA lib bc) (h2c:2≤bc) (hL:Laid w) (hlib:IsAsts w LA lib.length lib) (hln:lib.length≤maxLen) (hlp:∀a∈lib,a.pics.length≤2000000) (hS:Box w bs 111 (selL bc n cc LA lib.length lc hd at_ od).toArray) (hC:Box w bc 115 (pre++chL c++post).toArray):
  Calls Tryz.prog 44 #[.pointer (some ⟨bs,0,none⟩),.pointer (some ⟨bc,o,none⟩),.int .i64 fr,.string (bstr la),.string (bstr lb)] w fun e w'=>RetCh lib (floorP hd at_ od fr) c fr la lb bc pre post w e w':=by
 cases h1:acceptP lib (floorP hd at_ od fr) c fr la with
 |none=>cases h2:acceptP lib (floorP hd at_ od fr) c fr lb with
  |none=>exact choose_nn_any bs bc n cc o lc LA lib hd at_ od fr pre post c la lb w ho hn hat hfr hix hla hlb hala halb hne hcl h2c hL hlib hln hlp hS hC h1 h2
  |some y=>exact choose_ny_any bs bc n cc o lc LA lib hd at_ od fr pre post c la lb w ho hn hat hfr hix hla hlb hala halb hne hcl h2c hL hlib hln hlp hS hC y h1 h2
 |some x=>cases h2:acceptP lib (floorP hd at_ od fr) c fr lb with
  |none=>exact choose_yn_any bs bc n cc o lc LA lib hd at_ od fr pre post c la lb w ho hn hat hfr hix hla hlb hala halb hne hcl h2c hL hlib hln hlp hS hC x h1 h2
  |some y=>exact choose_yy_any bs bc n cc o lc LA lib hd at_ od fr pre post c la lb w ho hn hat hfr hix hla hlb hala halb hne hcl h2c hL hlib hln hlp hS hC x y h1 h2
def noDefer:List Oper→Bool
  | []=>true
  |o::l=>(match o.op with| .defer _=>false|_=>true)&&noDefer l
section
variable {P:Program}{ops:Array Oper}{Q:Exit→Act→World→Prop}{l' m:Nat}
theorem rowsIn_wide {n:Nat}{row:String}{args:Array Value}{w:World}{R:Value→World→Prop}(h:Rows P row args w R):RowsIn (Fence.wide.inRound l') n P row args w R:=
  fun c cs _=>let ⟨v,w',r,s⟩:=h c cs;⟨v,w',r,stepsIn_wide.2 s⟩
theorem upon_round {o:Oper}{a:Act}{next next':Act→World→Prop}(hn:∀a w,next a w→next' a w) (r:Result Next) (h:o.upon P a next Q r):o.uponIn (Fence.wide.inRound l') m P a next' Q r:=by
  cases r with
  |ok v w=>
    cases v with
    |value v=>exact hn _ _ h
    |skip=>exact hn _ _ h
    |defer d=>exact hn _ _ h
    |enter f args=>
      have hc:Calls P f args w _:=h;refine⟨(fun h0=>by cases h0),CallsIn.inRound l' ((callsIn_wide.2 hc).mono fun e w' he=>?_)⟩;cases e with
      |returned v=>exact hn _ _ he
      |_=>exact he
    |row r args=>
      have hc:Rows P r args w _:=h;exact⟨(fun h0=>by cases h0),RowsIn.mono (rowsIn_wide hc) fun v w' he=>hn _ _ he⟩
    |_=>exact h.elim
  |halt x w=>cases x<;>exact h
theorem wpListIn_of (hQ:∀a w,Q .outgrown a w→False):∀(l:List Oper) (a:Act) (w:World),noDefer l=true→wpList P ops Q l a w→wpListIn (Fence.wide.inRound l') m P ops Q l a w
  | [],a,w,_,h=>h
  |o::l,a,w,hd,h=>by
    simp only[noDefer,Bool.and_eq_true] at hd
    have hdef:∀c,o.op≠.defer c:=fun c e=>by have:=hd.1;rw[e] at this;cases this
    unfold wpList at h
    unfold wpListIn
    split
    · rename_i hw
      rw[if_pos hw] at h
      rcases h with h|⟨_,a',w',h⟩
      · refine⟨fun _ _=>trivial,?_⟩
        rw[Oper.semAt_eq _ _ _ hdef]
        exact upon_round (fun a w h=>wpListIn_of hQ l a w hd.2 h) _ h
      · exact(hQ _ _ h).elim
    · rename_i hw
      rw[if_neg hw] at h
      exact⟨fun _ _=>trivial,wpListIn_of hQ l _ w hd.2 h⟩
variable {a:Act}{w:World}{n:Nat}{L:List (Nat×Value)}
theorem w_regionF {id:Nat}{l:List Oper}(h:wpList P l.toArray Q l a w) (hd:noDefer l=true:=by kernel_rfl) (hQ:∀a w,Q .outgrown a w→False:=by exact fun _ _ h=>h):(Code.region id l.toArray false).wpIn (Fence.wide.inRound l') m P Q a w:=
  wpIn_region_lit (wpListIn_of hQ l a w hd h)
theorem w_iffF {x y:Code}{t:Nat}(H:Sl n L a) (hl:look t L=some (.bool false)) (h:y.wpIn (Fence.wide.inRound l') m P Q a w):(Code.cond (.tmp t) x y).wpIn (Fence.wide.inRound l') m P Q a w:=
  wpIn_cond_false (by simp only[Act.eval];exact H.get t _ hl) h
def keepN (W:World) (B:Nat):FK:=⟨fun k=>B≤k∧∃o,W.heap[k]? =some o∧o.isCells=false,fun W'=>KeepsFrom B W W'⟩
theorem keepN_ok (W:World) (B:Nat):(keepN W B).ok:=fun w1 w2 h hk hs=>⟨Nat.le_trans h.size hs,fun k o hb ho hc=>(hk k ⟨hb,o,ho,hc⟩).trans (h.same k o hb ho hc)⟩
def keepB (W:World) (b:Nat):FK:=⟨fun k=>k=b,fun W'=>W.heap.size≤W'.heap.size∧W'.heap[b]? =W.heap[b]?⟩
theorem keepB_ok (W:World) (b:Nat):(keepB W b).ok:=fun w1 w2 h hk hs=>⟨Nat.le_trans h.1 hs,(hk b rfl).trans h.2⟩
def HB.cellsIn (x:HB):Prop:=∀w,x.F w→∀k,x.fp k→∃o,w.heap[k]? =some o∧o.isCells=true
theorem bx_cells (b:Nat) (t:TypeId) (vs:List Value) (f:Bool):(bx b t vs f).cellsIn:=fun w h k hk=>by cases hk;exact⟨_,h,rfl⟩
theorem Hp.own_ {w0:World}{L:List HB}{K:List FK}{B:Nat}(hB:w0.heap.size≤B) (hc:∀x∈L,x.cellsIn) (hK:∀p∈K,∀k,p.fp k→k<B) {β:Type}:OwnFrom B (fun(_:β) W=>Hp w0 W L K):=fun _ W W' row H hg hr=>by
  have key:∀x∈L,∀k,x.fp k→row≠some k:=fun x hx k hk e=>by
    obtain⟨o,ho,hoc⟩:=hc x hx W (H.res x hx).1 k hk
    obtain⟨_,o',ho',hoc'⟩:=hr k e
    rw[ho] at ho';cases ho';rw[hoc] at hoc';cases hoc'
  refine⟨hg.os.trans H.os,hg.tape.trans H.tape,hg.output.trans H.output,Nat.le_trans H.size hg.size,fun k hk hn=>?_,fun x hx=>?_,H.apart,H.fresh,fun p hp=>?_⟩
  · refine(hg.block k (Nat.lt_of_lt_of_le hk H.size) fun e=>?_).trans (H.old k hk hn)
    have:=(hr k e.symm).1
    omega
  · obtain⟨h1,h2,h3⟩:=H.res x hx
    exact⟨h2 _ _ h1 (fun k hk=>hg.block k (h3 k hk) fun e=>key x hx k hk e.symm) hg.size,h2,fun k hk=>Nat.lt_of_lt_of_le (h3 k hk) hg.size⟩
  · obtain⟨h1,h2,h3⟩:=H.kept p hp
    refine⟨h2 _ _ h1 (fun k hk=>hg.block k (h3 k hk).1 fun e=>?_) hg.size,h2,fun k hk=>⟨Nat.lt_of_lt_of_le (h3 k hk).1 hg.size,(h3 k hk).2⟩⟩
    have:=(hr k e.symm).1
    have:=hK p hp k hk
    omega
theorem Hp.round {w0 W:World}{L:List HB}{K:List FK}(H:Hp w0 W L K) (B:Nat) (hc:∀x∈L,x.cellsIn):Hp w0 W L (keepN W B::K):=
  H.keepF (keepN W B) ⟨Nat.le_refl _,fun _ _ _ h _=>h⟩ (keepN_ok W B) fun k hk=>by
    obtain⟨_,o,ho,hoc⟩:=hk
    refine⟨(Array.getElem?_eq_some_iff.1 ho).1,fun x hx hxk=>?_⟩
    obtain⟨o',ho',hoc'⟩:=hc x hx W (H.res x hx).1 k hxk
    rw[ho] at ho';cases ho';rw[hoc] at hoc';cases hoc'
end
section
variable {P:Program}{Q:Exit→Act→World→Prop}{a:Act}{w:World}{n:Nat}{L:List (Nat×Value)}{ds:List Deferred}
theorem w_regionM {id:Nat}{l:List Oper}(h:wpList P l.toArray (fun e a w=>Q e (moreD ds a) w) l a w):(Code.region id l.toArray false).wp P Q (moreD ds a) w:=w_region (wpList_D _ _ _ h)
theorem w_iftM {x y:Code}{t:Nat}(H:Sl n L a) (hl:look t L=some (.bool true)) (h:x.wp P Q (moreD ds a) w):(Code.cond (.tmp t) x y).wp P Q (moreD ds a) w:=
  wp_cond_true (by simp only[Act.eval];exact H.get t _ hl) h
theorem moreD_of (d:Deferred) (h:a.defers=[]):({ a with defers:=d::a.defers}:Act)=moreD [d] a:=by simp[moreD,h]
end
abbrev strC (x:List UInt8):Array Value:=#[.string (bstr x)]
theorem strC_size (x:List UInt8):(strC x).size=1:=rfl
abbrev chC (c:Ch):Array Value:=#[.int .i64 c.item,.int .i64 c.index,.int .i64 c.full,.int .i64 c.taken,.int .i64 c.number,.int .i64 c.num,.int .i64 c.den]
theorem chC_size (c:Ch):(chC c).size=7:=rfl
abbrev unC (u:Un):Array Value:=u.cells
theorem unC_size (u:Un):(unC u).size=13:=rfl
theorem Hp.rowMade {α:Type}{cs:α→Array Value}{size:Nat}{e:TypeId}{w0 w:World}{L:List HB}{K:List FK}(H:Hp w0 w L K) (i:Nat) {g c:Nat}{vs:List Value}(hi:L[i]? =some (bx g e vs true)) (hv:vs.length=c*size) (hm:c≤maxLen) (L':List HB) (hL:L.set i (rowsR w0.heap.size e size cs okT feF (.slice (some ⟨g,0,none⟩) 0 c) [])=L'):Hp w0 w L' K:=by
  have hbb:=H.fresh _ (List.mem_of_getElem? hi) rfl g rfl;have hx:=H.at_ i hi;refine H.mut i hi _ L' hL (Agree.of_below (Below.refl _ _)) ⟨⟨by simp,.inr ⟨g,c,vs.toArray,rfl,hbb,hx,Nat.zero_le _,hm,by simpa using hv,by simp⟩⟩,fun a ha=>by cases ha⟩ (rowsR_ok elOk_flat) (fun q hq=>?_) (fun q hq=>?_) (fun q hq hq'=>?_) rfl
  · rcases hq with hq|⟨_,ha,_⟩
    · cases hq;exact hx.lt
    · cases ha
  · rcases hq with hq|⟨_,ha,_⟩
    · cases hq;exact .inl rfl
    · cases ha
  · have:=H.fresh _ (List.mem_of_getElem? hi) rfl q hq';omega
theorem ex_makeC {P:Program}{ρ:Operand→Value}{w:World}{t e:TypeId}{x y:Operand}{dst:Option Tmp}{ty:TypeId}{pos:String}{af:Array Edge}{g:Option (Nat×Bool)}{c size bytes:Nat}{z:Value}{kl kc:IntKind}(hx:ρ x=.int kl 0) (hy:ρ y=.int kc (c:Int)) (hu:P.underlying t=some (.slice e)) (hinf:infoB P e=some (some z,size,bytes)) (h1:c*size≤16777216) (h2:bytes*c≤281474976710656) (h3:c≤1000000):
    (execOp ρ ⟨dst,.makeSlice t x y,ty,pos,af,g⟩).run P w=.ok (.value (.slice (some ⟨w.heap.size,0,none⟩) 0 c)) (w.alloc (.cells (madeCells z.cells (c*size)).toList.toArray e)):=by
  obtain⟨i,hi,hz,hs,hb⟩:=infoB_spec hinf;have:=run_makeSlice (P:=P) w t e i z hu hi hz kl kc 0 (c:Int) om om (by rw[hs,Int.toNat_natCast];exact h1) (by rw[hb];have h4:((bytes*c:Nat):Int)≤((281474976710656:Nat):Int):=Int.ofNat_le.2 h2;rw[Int.natCast_mul] at h4;exact h4) om;simp only[execOp,hx,hy,Sem.run_bind,this,Result.andThen_ok,Sem.run_pure,hs];simp
abbrev allC (lib:List AstA) (fl:Option Int) (chs:List Ch) (fr:Int) (a b:List (List UInt8)):List (Un×Ch):=chs.zipIdx.map fun p=>chooseC lib fl p.1 fr (a.getD p.2 []) (b.getD p.2 [])
theorem allC_len (lib fl chs fr a b):(allC lib fl chs fr a b).length=chs.length:=by simp[allC]
theorem allC_get {lib:List AstA}{fl:Option Int}{chs:List Ch}{fr:Int}{a b:List (List UInt8)}{i:Nat}{c:Ch}(h:chs[i]? =some c):(allC lib fl chs fr a b)[i]? =some (chooseC lib fl c fr (a.getD i []) (b.getD i [])):=by
  simp[allC,List.getElem?_zipIdx,h]
abbrev chsAt (all:List (Un×Ch)) (chs:List Ch) (i:Nat):List Ch:=(all.take i).map (·.2)++chs.drop i
theorem chsAt_zero (all:List (Un×Ch)) (chs:List Ch):chsAt all chs 0=chs:=by simp[chsAt]
theorem chsAt_end {all:List (Un×Ch)}{chs:List Ch}(h:all.length=chs.length):chsAt all chs chs.length=all.map (·.2):=by simp[chsAt,←h]
theorem chsAt_at {all:List (Un×Ch)}{chs:List Ch}{tl:List Value}{i:Nat}{c:Ch}(h:chs[i]? =some c):flat chC (chsAt all chs i)++tl=flat chC ((all.take i).map (·.2))++chL c++(flat chC (chs.drop (i+1))++tl):=by
  obtain⟨hlt,hg⟩:=List.getElem?_eq_some_iff.1 h;rw[chsAt,List.drop_eq_getElem_cons hlt,hg];simp[flat,List.flatMap_append]
theorem chsAt_next {all:List (Un×Ch)}{chs:List Ch}{tl:List Value}{i:Nat}{p:Un×Ch}(h:all[i]? =some p):flat chC ((all.take i).map (·.2))++chL p.2++(flat chC (chs.drop (i+1))++tl)=flat chC (chsAt all chs (i+1))++tl:=by
  obtain⟨hlt,hg⟩:=List.getElem?_eq_some_iff.1 h;rw[chsAt,List.take_succ_eq_append_getElem hlt,hg];simp[flat,List.flatMap_append]
theorem pre_len {all:List (Un×Ch)}{i:Nat}(h:i≤all.length):(flat chC ((all.take i).map (·.2))).length=0+i*7:=by
  rw[flat_len (k:=7) (fun c=>rfl),List.length_map,List.length_take,Nat.min_eq_left h,Nat.zero_add]
def RetChoose (all:List (Un×Ch)) (bc:Nat) (rest:List Value) (w:World) (e:Ending) (w':World):Prop:=
 ∃A c us,e=.returned (.slice A us.length c)∧(rowsR w.heap.size 76 13 unC okT feF (.slice A us.length c) us).F w'∧us.map bareU=all.map (·.1)∧(∀u∈us,u.al=[])∧Box w' bc 115 (flat chC (all.map (·.2))++rest).toArray∧w.grownBy w' (some bc)
theorem getD_len {l:List (List UInt8)}(h:∀s∈l,s.length≤1000000) (i:Nat):(l.getD i []).length≤1000000:=by
 by_cases hi:i<l.length
 ·rw[List.getD_eq_getElem?_getD,List.getElem?_eq_getElem hi];exact h _ (List.getElem_mem hi)
 ·rw[List.getD_eq_getElem?_getD,List.getElem?_eq_none om];exact Nat.zero_le _
theorem madeCells_size (z:Array Value) (n:Nat):(madeCells z n).size=n:=by simp[madeCells]
theorem us_next {us:List Un}{all:List (Un×Ch)}{i:Nat}{p:Un×Ch}{V:Un}(h:us.map bareU=(all.take i).map (·.1)) (ha:all[i]? =some p) (hV:bareU V=p.1):(us++[V]).map bareU=(all.take (i+1)).map (·.1):=by
 obtain⟨hlt,hg⟩:=List.getElem?_eq_some_iff.1 ha;rw[List.map_append,h,List.take_succ_eq_append_getElem hlt,hg,List.map_append];simp[hV]
theorem al_next {us:List Un}{V:Un}(h:∀u∈us,u.al=[]) (hV:V.al=[]):∀u∈us++[V],u.al=[]:=fun u hu=>by
 rcases List.mem_append.1 hu with hu|hu
 ·exact h u hu
 ·rcases List.mem_singleton.1 hu with rfl;exact hV
theorem Hp.some2 {w0 w:World}{L:List HB}{K:List FK}(H:Hp w0 w L K) (i j:Nat) {x y:HB}(hi:L[i]? =some x) (hj:L[j]? =some y) (hij:i<j) (hf:((L.zipIdx.all fun p=>p.1.fresh||Nat.beq p.2 i||Nat.beq p.2 j))=true):Hp w0 w [x,y] K:=by
 have hs:[x,y].Sublist L:=by
  obtain⟨hil,hi2⟩:=List.getElem?_eq_some_iff.1 hi;obtain⟨hjl,hj2⟩:=List.getElem?_eq_some_iff.1 hj;have h1:[y].Sublist (L.drop (i+1)):=by
   rw[List.singleton_sublist,List.mem_iff_getElem?];exact⟨j-(i+1),by rw[List.getElem?_drop,show i+1+(j-(i+1))=j from om];exact hj⟩
  have h2:(x::L.drop (i+1)).Sublist L:=by
   have:L.drop i=x::L.drop (i+1):=by rw[List.drop_eq_getElem_cons hil,hi2]
   rw[←this];exact List.drop_sublist _ _
  exact(h1.cons_cons x).trans h2
 refine H.some_ hs fun z hz=>?_;obtain⟨k,hk⟩:=List.mem_iff_getElem?.1 hz;have hm:(z,k)∈L.zipIdx:=List.mem_zipIdx_iff_getElem?.2 hk;have:=List.all_eq_true.1 hf _ hm;simp only[Bool.or_eq_true] at this;rcases this with(h|h)|h
 ·exact .inl h
 ·have h:=Nat.eq_of_beq_eq_true h;subst h;rw[hi] at hk;cases hk;exact .inr (List.mem_cons_self ..)
 ·have h:=Nat.eq_of_beq_eq_true h;subst h;rw[hj] at hk;cases hk;exact .inr (List.mem_cons_of_mem _ (List.mem_cons_self ..))
theorem sent_any (A:Option Addr) (c i:Nat) (l:List (List UInt8)) (w:World) (h:IsRow 1 strC w A l):
  Calls Tryz.prog 45 #[.slice A l.length c,.int .i64 (i:Int)] w fun e w'=>e=.returned (sS (l.getD i []))∧Below w.heap.size w w':=by
 have HP:=(Hp.start w).keepF (rowF 1 strC A l) h (rowF_ok _ _ _ _) fun k hk=>⟨h.lt k hk,fun x hx=>by cases hx⟩;refine w_enter 13 [(0,(sL A l.length c)),(1,(ii i))] Tryz.func45 rfl Tryz.ntmps45 kr kr fun a H=>zq<|H.gz HP [(4,zS)] fun a H=>zsq<|zq<|H.gz HP [(5,(ii i)),(6,(sL A l.length c)),(8,(.bool (decide ((i:Int)<(l.length:Int)))))] fun a H=>w_if H rfl (fun g8=>?_) (fun g8=>?_)
 ·have g8p:=of_decide_eq_true g8;refine zq<|H.gn HP 2 [(9,(sL A l.length c)),(10,(ii i))] fun a H=>?_;obtain⟨bu,ou,x,hA,_,_,hx,_,_⟩:=IsRow.get strC_size (HP.fact 0 rfl) (i:=i) om;refine H.u 11 (.pointer (some ⟨bu,ou+i*1,none⟩)) (ex_indexA (b:=bu) (off:=ou) (len:=l.length) (cap:=c) (e:=9) (k:=1) (ik:=.i64) (i:=(i:Int)) (m:=i) hA kr kr rfl om kr kr) fun a H=>H.u 12 (sS x) (ex_l1 (by have hh:=IsRow.cells strC_size (HP.fact 0 rfl) hA hx 0 _ rfl;rwa [Nat.add_zero] at hh)) fun a H=>H.gz HP [(4,(sS x))] fun a H=>zrt<|ztr<|H.r1 (sS x) Tryz.results45 ?_;exact⟨congrArg (fun s=>Ending.returned (sS s)) (by simp[List.getD,hx]),HP.bl⟩
 have g8p:=of_decide_eq_false g8;refine zsk<|zt<|H.gz HP [(4,zS)] fun a H=>zrt<|H.r1 zS Tryz.results45 ?_;exact⟨congrArg (fun s=>Ending.returned (sS s)) (by rw[List.getD_eq_getElem?_getD,List.getElem?_eq_none om];rfl),HP.bl⟩
theorem chooseN_any (fr:Int) (w:World):
  Calls Tryz.prog 20 #[.pointer none,.int .i64 fr,.slice none 0 0,.slice none 0 0] w fun e w'=>e=.returned zN∧Below w.heap.size w w':=by
 have HP:=Hp.start w;refine w_enter 47 [(0,(.pointer none)),(1,(ii fr)),(2,zN),(3,zN)] Tryz.func20 rfl Tryz.ntmps20 kr kr fun a H=>zq<|H.gz HP [(8,zN)] fun a H=>zsq<|zq<|H.gn HP 1 [(11,(.pointer none))] fun a H=>H.cb HP 12 (Tryz.call41 _ _) (absentN_any w) fun w_1 hb a H HP=>znl<|ztn<|w_ift H rfl<|zq<|H.gz HP [(8,zN)] fun a H=>zrt<|ztr<|H.r1 zN Tryz.results20 ?_;exact⟨rfl,HP.bl⟩
theorem chooseA_any (bs bc cc:Nat) (lc:Nat) (LA:Option Addr) (lib:List AstA) (hd:Bool) (at_ od fr:Int) (rest:List Value) (chs:List Ch) (AA AB:Option Addr) (ca cb:Nat) (la lb:List (List UInt8)) (w:World) (hn:0<chs.length) (hn2:chs.length≤40) (hat:0≤at_∧at_≤9223372036854775807) (hfr:-9223372036854775808≤fr∧fr≤9223372036854775807) (hlla:∀s∈la,s.length≤1000000) (hllb:∀s∈lb,s.length≤1000000) (hch:∀i c,chs[i]? =some c→(-1≤c.index∧c.index≤1000000000)∧(∀u,unpackP c.num c.den (la.getD i [])=some u→u.al=[])∧∀u,unpackP c.num c.den (lb.getD i [])=some u→u.al=[]) (hne:bs≠bc) (hcl:¬libFp LA lib bc) (h2c:2≤bc) (hca:¬rowFp la.length AA bc) (hcb:¬rowFp lb.length AB bc) (hL:Laid w) (hlib:IsAsts w LA lib.length lib) (hln:lib.length≤maxLen) (hlp:∀a∈lib,a.pics.length≤2000000) (hS:Box w bs 111 (selL bc chs.length cc LA lib.length lc hd at_ od).toArray) (hC:Box w bc 115 (flat chC chs++rest).toArray) (hsa:IsRow 1 strC w AA la) (hsb:IsRow 1 strC w AB lb):
  Calls Tryz.prog 20 #[.pointer (some ⟨bs,0,none⟩),.int .i64 fr,.slice AA la.length ca,.slice AB lb.length cb] w fun e w'=>RetChoose (allC lib (floorP hd at_ od fr) chs fr la lb) bc rest w e w':=by
 have HP:=(((((Hp.own (vs:=flat chC chs++rest) hC).keepF (rowF 1 strC AB lb) hsb (rowF_ok _ _ _ _) (fun k hk=>⟨hsb.lt k hk,fun x hx=>by simp only[List.mem_cons,List.not_mem_nil,or_false] at hx;rcases hx with rfl;exact fun e=>hcb (e ▸ hk)⟩)).keepF (rowF 1 strC AA la) hsa (rowF_ok _ _ _ _) (fun k hk=>⟨hsa.lt k hk,fun x hx=>by simp only[List.mem_cons,List.not_mem_nil,or_false] at hx;rcases hx with rfl;exact fun e=>hca (e ▸ hk)⟩)).keepF (boxK bs 111 (selL bc chs.length cc LA lib.length lc hd at_ od)) hS (boxK_ok _ _ _) (fun k hk=>⟨boxK_lt hS hk,fun x hx=>by simp only[List.mem_cons,List.not_mem_nil,or_false] at hx;rcases hx with rfl;exact fun e=>hne (hk.symm.trans e)⟩)).keepF (astsK LA lib) hlib (fun _ _ h hk hs=>IsAsts.keep h hk hs) (fun k hk=>⟨IsAsts.lt hlib hk,fun x hx=>by simp only[List.mem_cons,List.not_mem_nil,or_false] at hx;rcases hx with rfl;exact fun e=>hcl (e ▸ hk)⟩)).keepF laidK hL laidK_ok (fun k hk=>⟨hL.lt k hk,fun x hx=>by simp only[List.mem_cons,List.not_mem_nil,or_false] at hx;rcases hx with rfl;exact fun e=>by rcases hk with hk|hk<;>(have:k=bc:=e;omega)⟩)
 refine w_enter 47 [(0,(pt bs 0)),(1,(ii fr)),(2,(sL AA la.length ca)),(3,(sL AB lb.length cb))] Tryz.func20 rfl Tryz.ntmps20 kr kr fun a H=>zq<|H.gz HP [(8,zN)] fun a H=>zsq<|zq<|H.gn HP 1 [(11,(pt bs 0))] fun a H=>H.call 12 kr (Eq.trans (kr:_=(callFunc 41 #[(pt bs 0)]).run Tryz.prog w) (Tryz.call41 _ _)) (absent_any bs bc chs.length cc _ _ _ _ w (HP.fact 2 rfl) om) ?_;rintro e w_1 ⟨rfl,hb⟩;refine⟨_,rfl,?_⟩;intro a H;have HP:=HP.next hb
 refine znl<|ztn<|w_iff H rfl<|zsk<|zt<|H.gn HP 3 [(15,(pt bs 0))] fun a H=>H.u 16 (sB bc chs.length cc) (ex_l1 (Box.cell (i:=0) (HP.fact 2 rfl:Box _ bs 111 _) rfl)) fun a H=>H.gn HP 1 [(17,(ii chs.length))] fun a H=>H.alloc HP 18 (fun b=>(sB b 0 chs.length)) 76 (madeCells ((.agg zc1):Value).cells (chs.length*13)).toList kr (fun w=>ex_makeC (c:=chs.length) (size:=13) (bytes:=136) (z:=(.agg zc1)) (e:=76) (kl:=.i64) (kc:=.i64) kr kr kr kr om om om) fun g_ w_2 a H HP=>?_;have HP:Hp w w_2 [(rowsR w.heap.size 76 13 unC okT feF (sB g_ 0 chs.length) ([]:List Un)),bx bc 115 (flat chC chs++rest) false] [laidK,astsK LA lib,boxK bs 111 (selL bc chs.length cc LA lib.length lc hd at_ od),rowF 1 strC AA la,rowF 1 strC AB lb]:=HP.rowMade 0 rfl (by simp[madeCells_size]) (by unfold maxLen;omega) _ rfl
 refine H.gz HP [(9,(sB g_ 0 chs.length))] fun a H=>zsq<|zq<|H.gn HP 3 [(21,(pt bs 0))] fun a H=>H.u 22 (sB bc chs.length cc) (ex_l1 (Box.cell (i:=0) (HP.fact 2 rfl:Box _ bs 111 _) rfl)) fun a H=>H.gz HP [(23,(ii chs.length)),(24,zO)] fun a H=>zbk<|w_loop (fun mm a wv=>∃(i:Nat),∃(us:List Un),∃(UA:Option Addr),∃(uc:Nat),chs.length-i=mm∧Sl 47 [(24,(ii i)),(9,(sL UA us.length uc)),(0,(pt bs 0)),(1,(ii fr)),(2,(sL AA la.length ca)),(3,(sL AB lb.length cb)),(22,(sB bc chs.length cc)),(23,(ii chs.length))] a∧Hp w wv [(rowsR w.heap.size 76 13 unC okT feF (sL UA us.length uc) us),bx bc 115 (flat chC (chsAt (allC lib (floorP hd at_ od fr) chs fr la lb) chs i)++rest) false] [laidK,astsK LA lib,boxK bs 111 (selL bc chs.length cc LA lib.length lc hd at_ od),rowF 1 strC AA la,rowF 1 strC AB lb]∧(i≤chs.length)∧(us.length=i)∧(us.map bareU=((allC lib (floorP hd at_ od fr) chs fr la lb).take i).map (·.1))∧(∀u∈us,u.al=[])) (chs.length-0) ?_ ?_
 ·exact⟨0,[],some ⟨g_,0,none⟩,chs.length,om,H.keep kr,(by rw[chsAt_zero];exact HP),(Nat.zero_le _),rfl,rfl,(fun _ h=>by cases h)⟩
 rintro mm a w_3 ⟨i,us,UA,uc,hmeas,H,HP,hi,hul,hus,hua⟩;refine zq<|H.gz HP [(25,(.bool (decide ((i:Int)<(chs.length:Int)))))] fun a H=>zsq<|w_if H rfl (fun g25=>?_) (fun g25=>?_)
 ·have g25p:=of_decide_eq_true g25;refine zsk<|ztn<|zsq<|zbk<|zq<|H.ge HP [(10,(ii i))] [] fun a H=>ztn ?_;obtain⟨c,hci⟩:∃c,chs[i]? =some c:=⟨_,List.getElem?_eq_getElem om⟩;have hall:=allC_get (lib:=lib) (fl:=(floorP hd at_ od fr)) (fr:=fr) (a:=la) (b:=lb) hci;have hpl:=pre_len (all:=(allC lib (floorP hd at_ od fr) chs fr la lb)) (i:=i) (by rw[allC_len];omega);obtain⟨hcx,hca,hcb⟩:=hch i c hci;have HP:=HP.front 0 rfl _ rfl;have HP:=HP.front 1 rfl _ rfl
  refine An.start (fun v=>Hp (bareW w) v [] [laidK,astsK LA lib,boxK bs 111 (selL bc chs.length cc LA lib.length lc hd at_ od),rowF 1 strC AA la,rowF 1 strC AB lb]) 19 19 HP wide_follows rfl fun w_4 HP=>An.go H (.inr (HP.bareN 2)) 14 [0,1,2,3,4] [(27,(sL UA us.length uc)),(28,(pt bs 0)),(31,(pt bs 0))] [] fun a H=>An.vw H (HP.bareN 2) 5 32 (sB bc chs.length cc) (fun _ hS=>ex_l1 (Box.cell (i:=0) (hS.fact 2 rfl:Box _ bs 111 _) rfl)) fun a H=>An.go H (.inr (HP.bareN 2)) 12 [6] [(33,(ii i))] [] fun a H=>An.q H (.inr (HP.bareN 2)) 7 34 (.pointer (some ⟨bc,0+i*7,none⟩)) (fun _=>ex_index (b:=bc) (off:=0) (len:=chs.length) (cap:=cc) (e:=115) (k:=7) (ik:=.i64) (i:=(i:Int)) (m:=i) kr kr rfl om kr kr) fun a H=>An.go H (.inr (HP.bareN 2)) 6 [8,9,10,12,13] [(35,(ii fr)),(36,(sL AA la.length ca)),(37,(ii i)),(39,(sL AB lb.length cb)),(40,(ii i))] [] fun a H=>An.one 11 kr<|Op.cb H HP 38 (Tryz.call45 _ _) (sent_any AA ca i la w_4 (HP.fact 3 rfl)) fun w_5 hb a H HP=>⟨.inr (HP.bareN 2),?_⟩
  refine An.one 14 kr<|Op.cb H HP 41 (Tryz.call45 _ _) (sent_any AB cb i lb w_5 (HP.fact 4 rfl)) fun w_6 hb a H HP=>⟨.inr (HP.bareN 2),?_⟩;refine An.one 15 kr<|Op.cl H 42 (Tryz.call44 _ _) (choose_any bs bc chs.length cc (0+i*7) lc LA lib hd at_ od fr (flat chC (((allC lib (floorP hd at_ od fr) chs fr la lb).take i).map (·.2))) (flat chC (chs.drop (i+1))++rest) c (la.getD i []) (lb.getD i []) w_6 hpl om hat hfr hcx (getD_len hlla i) (getD_len hllb i) hca hcb hne hcl h2c (HP.fact 0 rfl) (HP.fact 1 rfl) hln hlp (HP.fact 2 rfl) (by have hh:=HP.at_ 0 rfl;rw[chsAt_at hci] at hh;exact hh)) ?_;rintro e w_7 ⟨V,rfl,hVa,hVb,hbx,hgr⟩;refine⟨_,rfl,?_⟩;intro a H
  have HP:=(HP.changed 0 rfl (flat chC (chsAt (allC lib (floorP hd at_ od fr) chs fr la lb) chs (i+1))++rest) [bx bc 115 (flat chC (chsAt (allC lib (floorP hd at_ od fr) chs fr la lb) chs (i+1))++rest) false,(rowsR w.heap.size 76 13 unC okT feF (sL UA us.length uc) us)] kr hgr (by rw[←chsAt_next hall];exact hbx));refine⟨.inr (HP.bareN 2),?_⟩;refine An.one 16 kr<|Op.alloc H HP 43 (fun b=>(sB b 1 1)) 76 (ul V V.A V.c) rfl kr (fun w=>kr) fun b_8 w_9 a H HP=>⟨.inr (HP.bareN 3),?_⟩;refine An.one 17 kr ?_
  have HP:=HP.pend0 2 rfl elOk_flat V [bx b_8 76 (ul V V.A V.c) true,bx bc 115 (flat chC (chsAt (allC lib (floorP hd at_ od fr) chs fr la lb) chs (i+1))++rest) false,(rowsP w.heap.size 76 13 unC okT feF (sL UA us.length uc) us V)] kr trivial (fun _ h=>h);refine Op.push H HP 44 2 0 (v:=(sL UA us.length uc)) (e:=76) (p:=V) (l:=us) (cs:=unC) (ok:=okT) (fe:=feF) (size:=13) (z:=(.agg zc1)) (bytes:=136) (bb:=b_8) (tb:=76) (fb:=true) rfl kr elOk_flat kr kr rfl kr kr kr kr kr rfl kr (by unfold maxLen;omega) om fun B_10 c_11 w_12 a H HP=>?_
  have HP:Hp w w_12 [bx b_8 76 (ul V V.A V.c) true,bx bc 115 (flat chC (chsAt (allC lib (floorP hd at_ od fr) chs fr la lb) chs (i+1))++rest) false,(rowsR w.heap.size 76 13 unC okT feF (sL B_10 (us.length+1) c_11) (us++[V]))] [laidK,astsK LA lib,boxK bs 111 (selL bc chs.length cc LA lib.length lc hd at_ od),rowF 1 strC AA la,rowF 1 strC AB lb]:=HP;refine⟨.inr (HP.bareN 3),?_⟩;refine An.go H (.inr (HP.bareN 3)) 0 [18] [(9,(sL B_10 (us.length+1) c_11))] [] fun a H=>An.done kr<|zibn<|ztn<|zrg<|H.wi 45 ((i:Int)+1) fun a H=>H.ge HP [(24,(ii ((i:Int)+1)))] [] fun a H=>ztn ?_;have H:=H.as 9 (sL B_10 ((us++[V]).length) c_11) rfl (congrArg (fun n=>Value.slice _ n _) (by rw[List.length_append];rfl))
  have H:=H.as 24 (ii ((i+1:Nat):Int)) rfl rfl;refine⟨_,?_,i+1,us++[V],B_10,c_11,rfl,H.keep kr,(by have hh:Hp w _ [(rowsR w.heap.size 76 13 unC okT feF (sL B_10 (us.length+1) c_11) (us++[V])),bx bc 115 (flat chC (chsAt (allC lib (floorP hd at_ od fr) chs fr la lb) chs (i+1))++rest) false] [laidK,astsK LA lib,boxK bs 111 (selL bc chs.length cc LA lib.length lc hd at_ od),rowF 1 strC AA la,rowF 1 strC AB lb]:=(HP.some2 1 2 rfl rfl (by decide) kr).front 1 rfl [(rowsR w.heap.size 76 13 unC okT feF (sL B_10 (us.length+1) c_11) (us++[V])),bx bc 115 (flat chC (chsAt (allC lib (floorP hd at_ od fr) chs fr la lb) chs (i+1))++rest) false] kr;rw[show us.length+1=(us++[V]).length from(by rw[List.length_append];rfl)] at hh;exact hh),om,(by rw[List.length_append,hul];rfl),(us_next hus hall hVb),(al_next hua hVa)⟩;omega
 have g25p:=of_decide_eq_false g25;refine wp_exit<|then_exit<|then_exit<|w_exit_here<|zt<|H.gz HP [(8,(sL UA us.length uc))] fun a H=>zrt<|H.r1 (sL UA us.length uc) Tryz.results20 ?_;have hie:i=chs.length:=om;subst hie;exact⟨UA,uc,us,rfl,HP.held 0 rfl,by rw[hus,List.take_of_length_le (by rw[allC_len];omega)],hua,by have hh:=HP.at_ 1 rfl;rw[chsAt_end (allC_len ..)] at hh;exact hh,HP.only bc (by intro x hx;simp only[List.mem_cons,List.not_mem_nil,or_false] at hx;rcases hx with rfl|rfl;exact .inl rfl;exact .inr (fun k hk=>hk))⟩
abbrev msgC (tto fr n:Int):Array Value:=#[(.int .i64 3),(.int .i64 tto),(.int .i64 0),(.int .i64 fr),(.int .i64 n),(.int .i64 0),(.int .i64 0),(.int .i64 0),(.int .i64 0),(.int .i64 0),(.int .i64 0),(.int .i64 0),(.int .i64 0),(.int .i64 0),(.int .i64 0),(.int .i64 0),(.int .i64 0),(.slice none 0 0),(.int .i64 0),(.int .i64 0),(.int .i64 0),(.int .i64 0),(.int .i64 0),(.int .i64 0),(.int .i64 0),(.int .i64 0),(.int .i64 0),(.int .i64 0),(.int .i64 0),(.int .i64 0),(.string (bstr ([])))]
def recvP (s:Bool×Int×Int) (fr n:Int):Bool×Int×Int:=if 0≤fr∧0≤n∧(s.1=false∨s.2.1<fr) then(true,fr,n) else s
theorem recv_new {hd:Bool}{at_ od fr n:Int}(h1:0≤fr) (h2:0≤n) (h:hd=false∨at_<fr):recvP (hd,at_,od) fr n=(true,fr,n):=if_pos ⟨h1,h2,h⟩
theorem recv_old {hd:Bool}{at_ od fr n:Int}(h:fr<0∨n<0∨(hd=true∧fr≤at_)):recvP (hd,at_,od) fr n=(hd,at_,od):=by
 refine if_neg fun hh=>?_;obtain⟨h1,h2,h3⟩:=hh;rcases h with h|h|⟨h,h'⟩
 ·omega
 ·omega
 ·rcases h3 with h3|h3
  ·simp only at h3;rw[h] at h3;cases h3
  ·simp only at h3;omega
def fullP (ch:Int):List Ch→Int
 | []=>0
 |c::l=>if c.number=ch then c.full else fullP ch l
theorem receiveN_any (tto fr n:Int) (w:World):
  Calls Tryz.prog 16 #[.pointer none,.agg (msgC tto fr n)] w fun e w'=>e=.returned (.tuple #[])∧Below w.heap.size w w':=by
 have HP:=Hp.start w;refine w_enter 48 [(0,(.pointer none)),(1,(.agg #[(ii 3),(ii tto),zO,(ii fr),(ii n),zO,zO,zO,zO,zO,zO,zO,zO,zO,zO,zO,zO,zN,zO,zO,zO,zO,zO,zO,zO,zO,zO,zO,zO,zO,zS]))] Tryz.func16 rfl Tryz.ntmps16 kr kr fun a H=>zq<|H.al HP 3 47 [(ii 3),(ii tto),zO,(ii fr),(ii n),zO,zO,zO,zO,zO,zO,zO,zO,zO,zO,zO,zO,zN,zO,zO,zO,zO,zO,zO,zO,zO,zO,zO,zO,zO,zS] fun b_1 w_2 a H HP=>znl<|ztn<|zsq<|zq<|H.gn HP 1 [(4,(.pointer none))] fun a H=>H.cb HP 5 (Tryz.call41 _ _) (absentN_any w_2) fun w_3 hb a H HP=>H.gz HP [(6,zT),(20,zT)] fun a H=>w_ift H rfl<|zrt<|ztr<|H.ret0 (fn:=Tryz.f16) Tryz.results16  ?_;exact⟨rfl,HP.bl⟩
theorem receive_any (bs bc cn cc:Nat) (LA:Option Addr) (lln lc:Nat) (hd:Bool) (at_ od tto fr n:Int) (w:World) (hS:Box w bs 111 ([Value.slice (some ⟨bc,0,none⟩) cn cc,.slice LA lln lc,.bool hd,.int .i64 at_,.int .i64 od]).toArray) (hn:0<cn):
  Calls Tryz.prog 16 #[.pointer (some ⟨bs,0,none⟩),.agg (msgC tto fr n)] w fun e w'=>e=.returned (.tuple #[])∧Box w' bs 111 ([Value.slice (some ⟨bc,0,none⟩) cn cc,.slice LA lln lc,.bool (recvP (hd,at_,od) fr n).1,.int .i64 (recvP (hd,at_,od) fr n).2.1,.int .i64 (recvP (hd,at_,od) fr n).2.2]).toArray∧w.grownBy w' (some bs):=by
 have HP:=Hp.own (vs:=[Value.slice (some ⟨bc,0,none⟩) cn cc,.slice LA lln lc,.bool hd,.int .i64 at_,.int .i64 od]) hS;refine w_enter 48 [(0,(pt bs 0)),(1,(.agg #[(ii 3),(ii tto),zO,(ii fr),(ii n),zO,zO,zO,zO,zO,zO,zO,zO,zO,zO,zO,zO,zN,zO,zO,zO,zO,zO,zO,zO,zO,zO,zO,zO,zO,zS]))] Tryz.func16 rfl Tryz.ntmps16 kr kr fun a H=>zq<|H.al HP 3 47 [(ii 3),(ii tto),zO,(ii fr),(ii n),zO,zO,zO,zO,zO,zO,zO,zO,zO,zO,zO,zO,zN,zO,zO,zO,zO,zO,zO,zO,zO,zO,zO,zO,zO,zS] fun b_1 w_2 a H HP=>znl<|ztn<|zsq<|zq<|H.gn HP 1 [(4,(pt bs 0))] fun a H=>H.call 5 kr (Eq.trans (kr:_=(callFunc 41 #[(pt bs 0)]).run Tryz.prog w_2) (Tryz.call41 _ _)) (absent_any bs bc cn cc _ _ _ _ w_2 (HP.at_ 1 rfl) hn) ?_;rintro e w_3 ⟨rfl,hb⟩;refine⟨_,rfl,?_⟩;intro a H;have HP:=HP.next hb
 refine H.go HP 11 [(6,zF),(16,(.bool (decide (fr<0))))] [0,0] fun a H=>H.split 16 rfl (fun g16 H=>?_) (fun g16 H=>?_)
 ·have g16p:=of_decide_eq_true g16;refine H.gz HP [(20,zT)] fun a H=>w_ift H rfl<|zrt<|ztr<|H.ret0 (fn:=Tryz.f16) Tryz.results16  ?_;have HP:Hp w w_3 [bx b_1 47 [(ii 3),(ii tto),zO,(ii fr),(ii n),zO,zO,zO,zO,zO,zO,zO,zO,zO,zO,zO,zO,zN,zO,zO,zO,zO,zO,zO,zO,zO,zO,zO,zO,zO,zS] true,bx bs 111 [(sB bc cn cc),(sL LA lln lc),(.bool hd),(ii at_),(ii od)] false] []:=HP;exact⟨rfl,by rw[recv_old (.inl om)];exact HP.at_ 1 rfl,HP.only bs (by intro x hx;simp only[List.mem_cons,List.not_mem_nil,or_false] at hx;rcases hx with rfl|rfl;exact .inl rfl;exact .inr (fun k hk=>hk))⟩
 have g16p:=of_decide_eq_false g16;refine H.gy HP [(20,(.bool (decide (n<0))))] [0] fun a H=>w_if H rfl (fun g20=>?_) (fun g20=>?_)
 ·have g20p:=of_decide_eq_true g20;refine zrt<|ztr<|H.ret0 (fn:=Tryz.f16) Tryz.results16  ?_;have HP:Hp w w_3 [bx b_1 47 [(ii 3),(ii tto),zO,(ii fr),(ii n),zO,zO,zO,zO,zO,zO,zO,zO,zO,zO,zO,zO,zN,zO,zO,zO,zO,zO,zO,zO,zO,zO,zO,zO,zO,zS] true,bx bs 111 [(sB bc cn cc),(sL LA lln lc),(.bool hd),(ii at_),(ii od)] false] []:=HP;exact⟨rfl,by rw[recv_old (.inr (.inl om))];exact HP.at_ 1 rfl,HP.only bs (by intro x hx;simp only[List.mem_cons,List.not_mem_nil,or_false] at hx;rcases hx with rfl|rfl;exact .inl rfl;exact .inr (fun k hk=>hk))⟩
 have g20p:=of_decide_eq_false g20;refine zsk<|ztn<|zsq<|An.start (fun v=>Hp w v [bx b_1 47 [(ii 3),(ii tto),zO,(ii fr),(ii n),zO,zO,zO,zO,zO,zO,zO,zO,zO,zO,zO,zO,zN,zO,zO,zO,zO,zO,zO,zO,zO,zO,zO,zO,zO,zS] true,bx bs 111 [(sB bc cn cc),(sL LA lln lc),(.bool hd),(ii at_),(ii od)] false] []) 14 14 HP wide_follows rfl fun w_4 HP=>An.go H (.inr HP) 8 [0,1,2,3,4,5] [(26,(.bool (!hd)))] [1] fun a H=>H.split 26 rfl (fun g26 H=>?_) (fun g26 H=>?_)
 ·have g26p:=not_is_true g26;refine An.go H (.inr HP) 0 [6,7,8,9,10,11,12,13] [(34,zT)] [] fun a H=>An.done kr<|ztn<|w_ift H rfl ?_;have HP:=HP.front 1 rfl _ rfl;refine An.start (fun v=>Hp (bareW w) v [bx b_1 47 [(ii 3),(ii tto),zO,(ii fr),(ii n),zO,zO,zO,zO,zO,zO,zO,zO,zO,zO,zO,zO,zN,zO,zO,zO,zO,zO,zO,zO,zO,zO,zO,zO,zO,zS] true] []) 15 16 HP wide_follows rfl fun w_5 HP=>An.go H (.inr (HP.bareN 1)) 7 [0,1,2,3,4,5,6,7,8] [(36,(pt bs 0)),(37,(pt bs 0)),(39,(ii fr)),(41,(ii n)),(43,(pt bs 2))] [0,0] fun a H=>An.one 9 kr<|Op.sh H HP 0 2 zT rfl rfl fun w_6 a H HP=>⟨.inr (HP.bareN 1),?_⟩;refine An.go H (.inr (HP.bareN 1)) 4 [10,11] [(45,(pt bs 3))] [] fun a H=>An.one 12 kr<|Op.sh H HP 0 3 (ii fr) rfl rfl fun w_7 a H HP=>⟨.inr (HP.bareN 1),?_⟩
  refine An.go H (.inr (HP.bareN 1)) 1 [13,14] [(47,(pt bs 4))] [] fun a H=>An.one 15 kr<|Op.sh H HP 0 4 (ii n) rfl rfl fun w_8 a H HP=>⟨.inl kr,?_⟩;refine An.done kr<|H.end0 (fn:=Tryz.f16) Tryz.results16  ?_;have HP:Hp w w_8 [bx bs 111 [(sB bc cn cc),(sL LA lln lc),zT,(ii fr),(ii n)] false,bx b_1 47 [(ii 3),(ii tto),zO,(ii fr),(ii n),zO,zO,zO,zO,zO,zO,zO,zO,zO,zO,zO,zO,zN,zO,zO,zO,zO,zO,zO,zO,zO,zO,zO,zO,zO,zS] true] []:=HP;exact⟨rfl,by rw[recv_new om om (.inl g26p)];exact HP.at_ 0 rfl,HP.only bs (by intro x hx;simp only[List.mem_cons,List.not_mem_nil,or_false] at hx;rcases hx with rfl|rfl;exact .inr (fun k hk=>hk);exact .inl rfl)⟩
 have g26p:=not_is_false g26;refine An.go H (.inr HP) 0 [6,7,8,9,10,11,12,13] [(34,(.bool (decide (at_<fr))))] [1,0] fun a H=>An.done kr<|ztn<|w_if H rfl (fun g34=>?_) (fun g34=>?_)
 ·have g34p:=of_decide_eq_true g34;have HP:=HP.front 1 rfl _ rfl;refine An.start (fun v=>Hp (bareW w) v [bx b_1 47 [(ii 3),(ii tto),zO,(ii fr),(ii n),zO,zO,zO,zO,zO,zO,zO,zO,zO,zO,zO,zO,zN,zO,zO,zO,zO,zO,zO,zO,zO,zO,zO,zO,zO,zS] true] []) 15 16 HP wide_follows rfl fun w_9 HP=>An.go H (.inr (HP.bareN 1)) 7 [0,1,2,3,4,5,6,7,8] [(36,(pt bs 0)),(37,(pt bs 0)),(39,(ii fr)),(41,(ii n)),(43,(pt bs 2))] [0,0] fun a H=>An.one 9 kr<|Op.sh H HP 0 2 zT rfl rfl fun w_10 a H HP=>⟨.inr (HP.bareN 1),?_⟩;refine An.go H (.inr (HP.bareN 1)) 4 [10,11] [(45,(pt bs 3))] [] fun a H=>An.one 12 kr<|Op.sh H HP 0 3 (ii fr) rfl rfl fun w_11 a H HP=>⟨.inr (HP.bareN 1),?_⟩;refine An.go H (.inr (HP.bareN 1)) 1 [13,14] [(47,(pt bs 4))] [] fun a H=>An.one 15 kr<|Op.sh H HP 0 4 (ii n) rfl rfl fun w_12 a H HP=>⟨.inl kr,?_⟩;refine An.done kr<|H.end0 (fn:=Tryz.f16) Tryz.results16  ?_
  have HP:Hp w w_12 [bx bs 111 [(sB bc cn cc),(sL LA lln lc),zT,(ii fr),(ii n)] false,bx b_1 47 [(ii 3),(ii tto),zO,(ii fr),(ii n),zO,zO,zO,zO,zO,zO,zO,zO,zO,zO,zO,zO,zN,zO,zO,zO,zO,zO,zO,zO,zO,zO,zO,zO,zO,zS] true] []:=HP;exact⟨rfl,by rw[recv_new om om (.inr g34p)];exact HP.at_ 0 rfl,HP.only bs (by intro x hx;simp only[List.mem_cons,List.not_mem_nil,or_false] at hx;rcases hx with rfl|rfl;exact .inr (fun k hk=>hk);exact .inl rfl)⟩
 have g34p:=of_decide_eq_false g34;refine zsk<|H.end0 (fn:=Tryz.f16) Tryz.results16  ?_;have HP:Hp w w_4 [bx b_1 47 [(ii 3),(ii tto),zO,(ii fr),(ii n),zO,zO,zO,zO,zO,zO,zO,zO,zO,zO,zO,zO,zN,zO,zO,zO,zO,zO,zO,zO,zO,zO,zO,zO,zO,zS] true,bx bs 111 [(sB bc cn cc),(sL LA lln lc),(.bool hd),(ii at_),(ii od)] false] []:=HP;exact⟨rfl,by rw[recv_old (.inr (.inr ⟨by simpa using g26p,om⟩))];exact HP.at_ 1 rfl,HP.only bs (by intro x hx;simp only[List.mem_cons,List.not_mem_nil,or_false] at hx;rcases hx with rfl|rfl;exact .inl rfl;exact .inr (fun k hk=>hk))⟩
theorem fullN_any (ch:Int) (w:World):
  Calls Tryz.prog 22 #[.pointer none,.int .i64 ch] w fun e w'=>e=.returned zO∧Below w.heap.size w w':=by
 have HP:=Hp.start w;refine w_enter 26 [(0,(.pointer none)),(1,(ii ch))] Tryz.func22 rfl Tryz.ntmps22 kr kr fun a H=>zq<|H.gz HP [(4,zO)] fun a H=>zsq<|zq<|H.gn HP 1 [(7,(.pointer none))] fun a H=>H.cb HP 8 (Tryz.call41 _ _) (absentN_any w) fun w_1 hb a H HP=>znl<|ztn<|w_ift H rfl<|zq<|H.gz HP [(4,zO)] fun a H=>zrt<|ztr<|H.r1 zO Tryz.results22 ?_;exact⟨rfl,HP.bl⟩
theorem full_any (bs bc cc:Nat) (v1 v2 v3 v4:Value) (chs:List Ch) (rest:List Value) (ch:Int) (w:World) (hn:0<chs.length) (hn2:chs.length≤40) (hS:Box w bs 111 [Value.slice (some ⟨bc,0,none⟩) chs.length cc,v1,v2,v3,v4].toArray) (hC:Box w bc 115 (flat chC chs++rest).toArray):
  Calls Tryz.prog 22 #[.pointer (some ⟨bs,0,none⟩),.int .i64 ch] w fun e w'=>e=.returned (ii (fullP ch chs))∧Below w.heap.size w w':=by
 have HP:=((Hp.start w).keepF (boxK bc 115 (flat chC chs++rest)) hC (boxK_ok _ _ _) (fun k hk=>⟨boxK_lt hC hk,fun x hx=>by cases hx⟩)).keepF (boxK bs 111 [Value.slice (some ⟨bc,0,none⟩) chs.length cc,v1,v2,v3,v4]) hS (boxK_ok _ _ _) (fun k hk=>⟨boxK_lt hS hk,fun x hx=>by cases hx⟩);refine w_enter 26 [(0,(pt bs 0)),(1,(ii ch))] Tryz.func22 rfl Tryz.ntmps22 kr kr fun a H=>zq<|H.gz HP [(4,zO)] fun a H=>zsq<|zq<|H.gn HP 1 [(7,(pt bs 0))] fun a H=>H.call 8 kr (Eq.trans (kr:_=(callFunc 41 #[(pt bs 0)]).run Tryz.prog w) (Tryz.call41 _ _)) (absent_any bs bc chs.length cc _ _ _ _ w (HP.fact 0 rfl) hn) ?_;rintro e w_1 ⟨rfl,hb⟩;refine⟨_,rfl,?_⟩;intro a H;have HP:=HP.next hb
 refine znl<|ztn<|w_iff H rfl<|zsk<|ztn<|zsq<|zq<|H.gn HP 3 [(11,(pt bs 0))] fun a H=>H.u 12 (sB bc chs.length cc) (ex_l1 (Box.cell (i:=0) (HP.fact 0 rfl:Box _ bs 111 _) rfl)) fun a H=>H.gz HP [(13,(ii chs.length)),(14,zO)] fun a H=>zbk<|w_loop (fun mm a wv=>∃(i:Nat),chs.length-i=mm∧Sl 26 [(14,(ii i)),(1,(ii ch)),(12,(sB bc chs.length cc)),(13,(ii chs.length))] a∧Hp w wv [] [boxK bs 111 [Value.slice (some ⟨bc,0,none⟩) chs.length cc,v1,v2,v3,v4],boxK bc 115 (flat chC chs++rest)]∧(i≤chs.length)∧(fullP ch chs=fullP ch (chs.drop i))) (chs.length-0) ?_ ?_
 ·exact⟨0,om,H.keep kr,HP,(Nat.zero_le _),rfl⟩
 rintro mm a w_2 ⟨i,hmeas,H,HP,hi,hfu⟩;refine zq<|H.gz HP [(15,(.bool (decide ((i:Int)<(chs.length:Int)))))] fun a H=>zsq<|w_if H rfl (fun g15=>?_) (fun g15=>?_)
 ·have g15p:=of_decide_eq_true g15;refine zsk (ztn (zsq (zbk (zsq (zrg ?_)))));obtain⟨bu,ou,x,hA,_,hdx,hx,_,_⟩:=IsRow.get chC_size (IsRow.ofBox chC_size (HP.fact 1 rfl:Box _ bc 115 (flat chC chs++rest).toArray)) (i:=i) om
  refine H.u 16 (.pointer (some ⟨bu,ou+i*7,none⟩)) (ex_indexA (b:=bu) (off:=ou) (len:=chs.length) (cap:=cc) (e:=115) (k:=7) (ik:=.i64) (i:=(i:Int)) (m:=i) hA kr kr rfl om kr kr) fun a H=>H.u 17 (.agg #[(ii x.item),(ii x.index),(ii x.full),(ii x.taken),(ii x.number),(ii x.num),(ii x.den)]) (ex_lN [(ii x.item),(ii x.index),(ii x.full),(ii x.taken),(ii x.number),(ii x.num),(ii x.den)] (IsRow.cells chC_size (IsRow.ofBox chC_size (HP.fact 1 rfl:Box _ bc 115 (flat chC chs++rest).toArray)) hA hx)) fun a H=>H.al HP 6 115 [zO,zO,zO,zO,zO,zO,zO] fun b_3 w_4 a H HP=>H.sh HP 0 0 (.agg #[(ii x.item),(ii x.index),(ii x.full),(ii x.taken),(ii x.number),(ii x.num),(ii x.den)]) rfl fun w_5 a H HP=>znl<|zt<|H.gy HP [(21,(.bool (x.number == ch)))] [0] fun a H=>w_if H rfl (fun g21=>?_) (fun g21=>?_)
  ·have g21p:=eq_of_beq g21;refine zq<|H.gy HP [(4,(ii x.full))] [0] fun a H=>zrt<|zibr<|ztr<|ztr<|zibr<|ztr<|H.r1 (ii x.full) Tryz.results22 ?_;exact⟨by rw[hfu,hdx,fullP,if_pos g21p],HP.bl⟩
  have g21p:=ne_of_beq_false g21;refine zsk<|zibn<|ztn<|zrg<|H.wi 25 ((i:Int)+1) fun a H=>H.ge HP [(14,(ii ((i:Int)+1)))] [] fun a H=>ztn ?_;have H:=H.as 14 (ii ((i+1:Nat):Int)) rfl rfl;refine⟨_,?_,i+1,rfl,H.keep kr,HP.t1,om,(by rw[hfu,hdx,fullP,if_neg g21p])⟩;omega
 have g15p:=of_decide_eq_false g15;refine wp_exit<|then_exit<|then_exit<|w_exit_here<|zt<|H.gz HP [(4,zO)] fun a H=>zrt<|H.r1 zO Tryz.results22 ?_;exact⟨by rw[hfu,List.drop_of_length_le om];rfl,HP.bl⟩
structure Itm where
  id:Int
  kind:Int
  frames:Int
  sponsor:Int
  rating:Int
structure Bkg where
  id:Int
  item:Int
  region:Int
  from_:Int
  to_:Int
  until_:Int
  price:Int
structure Cls where
  kind:Int
  item:Int
  from_:Int
  to_:Int
  regions:Int
  n:Int
  a:Int
  b:Int
structure Ent where
  id:Int
  item:Int
  frames:Int
  earliest:Int
  latest:Int
  booking:Int
  A:Option Addr
  c:Nat
  al:Alts
structure Pln where
  channel:Int
  num:Int
  den:Int
  offset:Int
  SA:Option Addr
  sc:Nat
  sh:Alts
  epoch:Int
  regions:Int
  length:Int
  fill:Int
  IA:Option Addr
  ic:Nat
  its:List Itm
  EA:Option Addr
  ec:Nat
  es:List Ent
  BA:Option Addr
  bc:Nat
  bs:List Bkg
  CA:Option Addr
  cc:Nat
  cs:List Cls
def altC (a:Int×Int):Array Value:=#[.int .i64 a.1,.int .i64 a.2]
def itC (x:Itm):Array Value:=#[.int .i64 x.id,.int .i64 x.kind,.int .i64 x.frames,.int .i64 x.sponsor,.int .i64 x.rating]
def bkC (x:Bkg):Array Value:=#[.int .i64 x.id,.int .i64 x.item,.int .i64 x.region,.int .i64 x.from_,.int .i64 x.to_,.int .i64 x.until_,.int .i64 x.price]
def clC (x:Cls):Array Value:=#[.int .i64 x.kind,.int .i64 x.item,.int .i64 x.from_,.int .i64 x.to_,.int .i64 x.regions,.int .i64 x.n,.int .i64 x.a,.int .i64 x.b]
def enC (x:Ent):Array Value:=#[.int .i64 x.id,.int .i64 x.item,.int .i64 x.frames,.int .i64 x.earliest,.int .i64 x.latest,.int .i64 x.booking,.slice x.A x.al.length x.c]
theorem flat_alt (al:Alts):flat altC al=pairs al:=rfl
abbrev IsAl (w:World) (A:Option Addr) (l:Alts):Prop:=IsRow 2 altC w A l
abbrev IsIt (w:World) (A:Option Addr) (l:List Itm):Prop:=IsRow 5 itC w A l
abbrev IsBk (w:World) (A:Option Addr) (l:List Bkg):Prop:=IsRow 7 bkC w A l
abbrev IsCl (w:World) (A:Option Addr) (l:List Cls):Prop:=IsRow 8 clC w A l
theorem itC_size (e:Itm):(itC e).size=5:=rfl
theorem bkC_size (e:Bkg):(bkC e).size=7:=rfl
def Ent.ok (e:Ent) (w:World):Prop:=IsAl w e.A e.al∧e.al.length≤maxLen
def Ent.fp (e:Ent) (k:Nat):Prop:=rowFp e.al.length e.A k
structure IsEn (w:World) (A:Option Addr) (l:List Ent):Prop where
  row:IsRow 7 enC w A l
  ok:∀e∈l,e.ok w
def enFp (A:Option Addr) (l:List Ent) (k:Nat):Prop:=rowFp l.length A k∨∃e∈l,e.fp k
theorem Ent.ok.keep {e:Ent}{w w':World}(h:e.ok w) (hk:∀b,e.fp b→w'.heap[b]? =w.heap[b]?) (hs:w.heap.size≤w'.heap.size):e.ok w':=⟨h.1.keep hk hs,h.2⟩
theorem IsEn.keep {w w':World}{A:Option Addr}{l:List Ent}(h:IsEn w A l) (hk:∀b,enFp A l b→w'.heap[b]? =w.heap[b]?) (hs:w.heap.size≤w'.heap.size):IsEn w' A l:=
  ⟨h.row.keep (fun b hb=>hk b (.inl hb)) hs,fun e he=>(h.ok e he).keep (fun b hb=>hk b (.inr ⟨e,he,hb⟩)) hs⟩
theorem IsEn.lt {w:World}{A:Option Addr}{l:List Ent}(h:IsEn w A l):∀b,enFp A l b→b<w.heap.size:=by
  rintro b (hb|⟨e,he,hb⟩)
  · exact h.row.lt b hb
  · exact(h.ok e he).1.lt b hb
theorem IsEn.below {w w':World}{A:Option Addr}{l:List Ent}(h:IsEn w A l) (hb:Below w.heap.size w w'):IsEn w' A l:=
  h.keep (fun b hb'=>hb.block b (h.lt b hb')) hb.size
structure IsPln (w:World) (p:Pln):Prop where
  sh:IsAl w p.SA p.sh
  its:IsIt w p.IA p.its
  es:IsEn w p.EA p.es
  bs:IsBk w p.BA p.bs
  cs:IsCl w p.CA p.cs
  lsh:p.sh.length≤maxLen
  lits:p.its.length≤maxLen
  les:p.es.length≤maxLen
  lbs:p.bs.length≤maxLen
  lcs:p.cs.length≤maxLen
def Pln.fp (p:Pln) (k:Nat):Prop:=rowFp p.sh.length p.SA k∨rowFp p.its.length p.IA k∨enFp p.EA p.es k∨rowFp p.bs.length p.BA k∨rowFp p.cs.length p.CA k
theorem IsPln.keep {w w':World}{p:Pln}(h:IsPln w p) (hk:∀b,p.fp b→w'.heap[b]? =w.heap[b]?) (hs:w.heap.size≤w'.heap.size):IsPln w' p:=
  ⟨h.sh.keep (fun b hb=>hk b (.inl hb)) hs,h.its.keep (fun b hb=>hk b (.inr (.inl hb))) hs,h.es.keep (fun b hb=>hk b (.inr (.inr (.inl hb)))) hs,h.bs.keep (fun b hb=>hk b (.inr (.inr (.inr (.inl hb))))) hs,h.cs.keep (fun b hb=>hk b (.inr (.inr (.inr (.inr hb))))) hs,h.lsh,h.lits,h.les,h.lbs,h.lcs⟩
theorem IsPln.lt {w:World}{p:Pln}(h:IsPln w p):∀b,p.fp b→b<w.heap.size:=by
  rintro b (hb|hb|hb|hb|hb)
  · exact h.sh.lt b hb
  · exact h.its.lt b hb
  · exact h.es.lt b hb
  · exact h.bs.lt b hb
  · exact h.cs.lt b hb
theorem IsPln.below {w w':World}{p:Pln}(h:IsPln w p) (hb:Below w.heap.size w w'):IsPln w' p:=
  h.keep (fun b hb'=>hb.block b (h.lt b hb')) hb.size
def mEs (l:List (Int×Value)):List MapEntry:=l.zipIdx.map fun p=>{ key:=.int .i64 p.1.1,val:=p.1.2,born:=p.2}
def mget (k:Int) (l:List (Int×Value)):Option Value:=(l.find? fun p=>p.1 == k).map (·.2)
def MapAt (w:World) (b:Nat) (l:List (Int×Value)):Prop:=w.heap[b]? =some (.map (mEs l).toArray l.length)
theorem mEs_push (l:List (Int×Value)) (k:Int) (v:Value):(mEs l).toArray.push { key:=.int .i64 k,val:=v,born:=l.length}=(mEs (l++[(k,v)])).toArray:=by
  simp[mEs,List.zipIdx_append]
theorem findNow_mEs (k:Int):∀(l:List (Int×Value)) (s i:Nat),∃r,Instr.findNow (.int .i64) (.int .i64 k) ((l.zipIdx s).map fun p=>({ key:=.int .i64 p.1.1,val:=p.1.2,born:=p.2}:MapEntry)) i=some r∧r.map (·.2)=mget k l
  | [],s,i=>⟨none,rfl,rfl⟩
  |(k',v)::l,s,i=>by
    simp only[List.zipIdx_cons,List.map_cons,Instr.findNow,Instr.sameNow,if_true]
    by_cases h:k=k'
    · subst h
      refine⟨some (i,v),by simp,by simp[mget]⟩
    · have hb:(k == k')=false:=by simpa using h
      have hb':(k' == k)=false:=by simpa using fun e=>h e.symm
      rw[hb]
      obtain⟨r,h1,h2⟩:=findNow_mEs k l (s+1) (i+1)
      refine⟨r,h1,h2.trans ?_⟩
      simp only[mget,List.find?_cons,hb']
def mapB (b:Nat) (l:List (Int×Value)) (f:Bool):HB:=⟨fun k=>k=b,fun w=>MapAt w b l,f,none,fun _ _ h=>by cases h⟩
theorem mapB_ok (b:Nat) (l:List (Int×Value)) (f:Bool):(mapB b l f).ok:=fun _ _ h hk _=>(hk b rfl).trans h
theorem MapAt.lt {w:World}{b:Nat}{l:List (Int×Value)}(h:MapAt w b l):b<w.heap.size:=(Array.getElem?_eq_some_iff.1 h).1
theorem MapAt.next {w w':World}{b:Nat}{l:List (Int×Value)}(h:MapAt w b l) (hb:Below w.heap.size w w'):MapAt w' b l:=(hb.block b h.lt).trans h
theorem run_lookupM {P:Program}{w:World}{b:Nat}{l:List (Int×Value)}{t kt et:TypeId}{k:Int}{z:Value}(c:Bool) (ht:P.underlying t=some (.map kt et)) (hk:P.underlying kt=some (.int .i64)) (hz:(zeroValue et).run P w=.ok z w) (h:MapAt w b l):
    (Instr.lookup t (.map (some b)) (.int .i64 k) c).run P w=.ok (if c then .tuple #[(mget k l).getD z,.bool (mget k l).isSome] else(mget k l).getD z) w:=by
  obtain⟨r,h1,h2⟩:=findNow_mEs k l 0 0;have hK:MapKept.IsKey (.int .i64) (.int .i64 k):=by simp[MapKept.IsKey]
  have hf:=MapKept.run_findKey (w:=w) (l:=(mEs l).toArray.toList) hk h1;simp only[Instr.lookup,Sem.run_bind,run_underlying ht,MapKept.run_getObj_map h,Result.andThen,MapKept.run_checkKey hk hK,Sem.run_pure,hf];cases r with
  |none=>simp only[Option.map_none] at h2;simp[←h2,hz]
  |some p=>simp only[Option.map_some] at h2;simp[←h2]
theorem run_mapPush {P:Program}{w:World}{b:Nat}{l:List (Int×Value)}{t kt et:TypeId}{k:Int}{v:Value}(ht:P.underlying t=some (.map kt et)) (hk:P.underlying kt=some (.int .i64)) (h:MapAt w b l) (hn:mget k l=none):
    (Instr.mapUpdate t (.map (some b)) (.int .i64 k) v).run P w=.ok () { w with heap:=w.heap.setIfInBounds b (.map (mEs (l++[(k,v)])).toArray (l.length+1))}:=by
  obtain⟨r,h1,h2⟩:=findNow_mEs k l 0 0;have hr:r=none:=by rw[hn] at h2;cases r with|none=>rfl|some p=>cases h2
  subst hr;have hK:MapKept.IsKey (.int .i64) (.int .i64 k):=by simp[MapKept.IsKey]
  have hf:=MapKept.run_findKey (w:=w) (l:=(mEs l).toArray.toList) hk h1;simp only[Instr.mapUpdate,Sem.run_bind,run_underlying ht,MapKept.run_getObj_map h,Result.andThen,MapKept.run_checkKey hk hK,hf,MapKept.run_setObj_map _ h,mEs_push]
theorem MapAt.pushed {w:World}{b:Nat}{l:List (Int×Value)}{k:Int}{v:Value}(h:MapAt w b l):MapAt { w with heap:=w.heap.setIfInBounds b (.map (mEs (l++[(k,v)])).toArray (l.length+1))} b (l++[(k,v)]):=by
  have:=(MapKept.heap_set (o':=.map (mEs (l++[(k,v)])).toArray (l.length+1)) h).1;unfold MapAt;simpa using this
theorem mget_none {l:List (Int×Value)}{k:Int}(h:∀x∈l,x.1≠k):mget k l=none:=by
  unfold mget;rw[List.find?_eq_none.2 (fun x hx=>by simpa using h x hx)];rfl
theorem mget_map {α:Type}(l:List α) (f:α→Int) (g:α→Value) (k:Int):mget k (l.map fun x=>(f x,g x))=(l.find? fun x=>f x == k).map g:=by
  unfold mget;rw[List.find?_map,Option.map_map];rfl
def inR (n lo hi:Int):Bool:=decide (lo≤n)&&decide (n≤hi)
theorem inR_iff {n lo hi:Int}:inR n lo hi=true↔lo≤n∧n≤hi:=by simp[inR]
theorem inR_not {n lo hi:Int}:inR n lo hi=false↔ ¬(lo≤n∧n≤hi):=by rw[←inR_iff];simp
def asc (last hi:Int):List Int→Bool
  | []=>true
  |n::l=>decide (last<n)&&decide (n≤hi)&&asc n hi l
def itZ:Itm:=⟨0,0,0,0,0⟩
def fI (l:List Itm) (k:Int):Option Itm:=l.find? fun x=>x.id == k
def fB (l:List Bkg) (k:Int):Option Bkg:=l.find? fun x=>x.id == k
def gI (l:List Itm) (k:Int):Itm:=(fI l k).getD itZ
def hI (l:List Itm) (k:Int):Bool:=(fI l k).isSome
def hB (l:List Bkg) (k:Int):Bool:=(fB l k).isSome
def itmP (x:Itm):Bool:=inR x.kind 1 5&&inR x.frames 1 100000000&&inR x.sponsor 0 200&&inR x.rating 0 3
def itM (l:List Itm):List (Int×Value):=l.map fun x=>(x.id,.agg (itC x))
def bkM (l:List Bkg):List (Int×Value):=l.map fun x=>(x.id,.agg (bkC x))
def seM (l:List Int):List (Int×Value):=l.map fun x=>(x,.bool true)
theorem run_zero {P:Program}{w:World}{e:TypeId}{z:Value}{s b:Nat}(h:infoB P e=some (some z,s,b)):(zeroValue e).run P w=.ok z w:=by
  obtain⟨i,h1,h2,_,_⟩:=infoB_spec h;simp[zeroValue,typeInfo,Sem.run_bind,program,Sem.run,h1,h2,Result.andThen]
section
variable {P:Program}{ρ:Operand→Value}{w:World}{t kt et:TypeId}{x y:Operand}{dst:Option Tmp}{ty:TypeId}{pos:String}{af:Array Edge}{g:Option (Nat×Bool)}{b s1 s2:Nat}{k:Int}
theorem ex_lookup {l:List (Int×Value)}{z:Value}(c:Bool) (hx:ρ x=.map (some b)) (hy:ρ y=.int .i64 k) (ht:P.underlying t=some (.map kt et)) (hk:P.underlying kt=some (.int .i64)) (hz:infoB P et=some (some z,s1,s2)) (h:MapAt w b l):
    (execOp ρ ⟨dst,.lookup t x y c,ty,pos,af,g⟩).run P w=.ok (.value (if c then .tuple #[(mget k l).getD z,.bool (mget k l).isSome] else(mget k l).getD z)) w:=by
  simp only[execOp,hx,hy,Sem.run_bind,run_lookupM c ht hk (run_zero hz) h,Result.andThen_ok,Sem.run_pure]
theorem mget_it (l:List Itm) (k:Int):(mget k (itM l)).getD (.agg (itC itZ))=.agg (itC (gI l k))∧(mget k (itM l)).isSome=hI l k:=by
  unfold itM gI hI fI;rw[mget_map];cases l.find? fun x=>x.id == k<;>simp
theorem ex_lookI {l:List Itm}(hx:ρ x=.map (some b)) (hy:ρ y=.int .i64 k) (ht:P.underlying t=some (.map kt et)) (hk:P.underlying kt=some (.int .i64)) (hz:infoB P et=some (some (.agg (itC itZ)),s1,s2)) (h:MapAt w b (itM l)):
    (execOp ρ ⟨dst,.lookup t x y false,ty,pos,af,g⟩).run P w=.ok (.value (.agg (itC (gI l k)))) w:=by
  have:=ex_lookup (dst:=dst) (ty:=ty) (pos:=pos) (af:=af) (g:=g) false hx hy ht hk hz h;rw[(mget_it l k).1] at this;exact this
end
theorem Hp.mapAt {w0 w:World}{L:List HB}{K:List FK}(H:Hp w0 w L K) (i:Nat) {b:Nat}{l:List (Int×Value)}{f:Bool}(hi:L[i]? =some (mapB b l f)):MapAt w b l:=(H.res _ (List.mem_of_getElem? hi)).1
theorem Hp.newMap {w0 w:World}{L:List HB}{K:List FK}(H:Hp w0 w L K):Hp w0 (w.alloc (.map #[] 0)) (mapB w.heap.size [] true::L) K:=
  H.gain (balloc w _) _ (heap_alloc_new w _) (mapB_ok _ _ _) (fun k hk=>by cases hk;simp) (fun k hk=>by cases hk;exact Nat.le_refl _)
theorem Hp.pushM {w0 w:World}{L:List HB}{K:List FK}(H:Hp w0 w L K) (i:Nat) {b:Nat}{l:List (Int×Value)}{f:Bool}(hi:L[i]? =some (mapB b l f)) (k:Int) (v:Value):
    Hp w0 { w with heap:=w.heap.setIfInBounds b (.map (mEs (l++[(k,v)])).toArray (l.length+1))} (L.set i (mapB b (l++[(k,v)]) f)) K:=
  H.mut i hi (mapB b (l++[(k,v)]) f) _ rfl ⟨rfl,rfl,rfl,by simp,fun j _ hj=>(MapKept.heap_set (H.mapAt i hi)).2 j hj⟩ (H.mapAt i hi).pushed (mapB_ok _ _ _) (fun j hj=>by cases hj;simpa using (H.mapAt i hi).lt) (fun j hj=>.inl hj) (fun j _ hj=>hj) rfl
theorem Hp.changedM {w0 w w':World}{L:List HB}{K:List FK}(H:Hp w0 w L K) (i:Nat) {b:Nat}{l:List (Int×Value)}{f:Bool}(hi:L[i]? =some (mapB b l f)) (l':List (Int×Value)) (L':List HB) (hL:L.set i (mapB b l' f)=L') (hg:w.grownBy w' (some b)) (hbx:MapAt w' b l'):Hp w0 w' L' K:=
  H.mut i hi (mapB b l' f) _ hL (Agree.of_grown hg fun k e=>(Option.some.inj e).symm) hbx (mapB_ok _ _ _) (fun k hk=>by cases hk;exact hbx.lt) (fun k hk=>.inl hk) (fun k _ hk=>hk) rfl
theorem Hp.ownM {w:World}{b:Nat}{l:List (Int×Value)}(h:MapAt w b l):Hp w w [mapB b l false] []:=
  (Hp.start w).add (mapB b l false) h (mapB_ok _ _ _) (fun k hk=>by cases hk;exact h.lt) (fun _ _=>⟨(fun _ h=>by cases h),(fun _ h=>by cases h)⟩) fun h=>by cases h
section
variable {P:Program}{ops:Array Oper}{Q:Exit→Act→World→Prop}{a:Act}{w0 w:World}{rest:List Oper}{n:Nat}{L:List (Nat×Value)}{LH:List HB}{K:List FK}{ty:TypeId}{pos:String}{af:Array Edge}{g:Option (Nat×Bool)}{t kt et:TypeId}{x y z:Operand}
theorem Sl.newMap {dd:Option Tmp}(H:Sl n L a) (HP:Hp w0 w LH K) (d:Nat) (hc:chk ops n L ⟨dd,.makeMap t none,ty,pos,af,g⟩ d=true)
    (k:∀b w' a',Sl n ((d,.map (some b))::L) a'→Hp w0 w' (mapB b [] true::LH) K→wpList P ops Q rest a' w'):wpList P ops Q (⟨dd,.makeMap t none,ty,pos,af,g⟩::rest) a w:=
  H.valW d (.map (some w.heap.size)) hc (w':=w.alloc (.map #[] 0)) rfl fun a' H'=>k _ _ a' H' HP.newMap
theorem wp_pushM {KK:Act→World→Prop}(H:Sl n L a) (HP:Hp w0 w LH K) (i:Nat) {b:Nat}{l:List (Int×Value)}{f:Bool}{k:Int}{v:Value}(LH':List HB) (hc:chk0 ops L ⟨none,.mapUpdate t x y z,ty,pos,af,g⟩=true) (hx:ev L x=.map (some b)) (hy:ev L y=.int .i64 k) (hz:ev L z=v)
    (ht:P.underlying t=some (.map kt et)) (hk:P.underlying kt=some (.int .i64)) (hi:LH[i]? =some (mapB b l f)) (hn:mget k l=none) (hL:LH.set i (mapB b (l++[(k,v)]) f)=LH')
    (kk:∀w' a',Sl n L a'→Hp w0 w' LH' K→KK a' w'):(⟨none,.mapUpdate t x y z,ty,pos,af,g⟩:Oper).wp P a w KK Q:=by
  obtain⟨hd,hk',hs',hw⟩:=chk0_spec hc;have hr:=run_mapPush (P:=P) (w:=w) (v:=v) ht hk (HP.mapAt i hi) hn;unfold Oper.wp;rw[H.exec hk' hs'];simp only[execOp,hx,hy,hz,Sem.run_bind,hr,Result.andThen_ok,Sem.run_pure,Oper.upon_skip];exact kk _ _ H (hL ▸ HP.pushM i hi k v)
theorem Sl.pushM (H:Sl n L a) (HP:Hp w0 w LH K) (i:Nat) {b:Nat}{l:List (Int×Value)}{f:Bool}{k:Int}{v:Value}(LH':List HB) (hc:chk0 ops L ⟨none,.mapUpdate t x y z,ty,pos,af,g⟩=true) (hx:ev L x=.map (some b)) (hy:ev L y=.int .i64 k) (hz:ev L z=v)
    (ht:P.underlying t=some (.map kt et)) (hk:P.underlying kt=some (.int .i64)) (hi:LH[i]? =some (mapB b l f)) (hn:mget k l=none) (hL:LH.set i (mapB b (l++[(k,v)]) f)=LH')
    (kk:∀w' a',Sl n L a'→Hp w0 w' LH' K→wpList P ops Q rest a' w'):wpList P ops Q (⟨none,.mapUpdate t x y z,ty,pos,af,g⟩::rest) a w:=
  wpList_wanted (H.wanted (chk0_spec hc).2.2.2) (wp_pushM H HP i LH' hc hx hy hz ht hk hi hn hL kk)
end
section
variable {P:Program}{ops:Array Oper}{Q:Exit→Act→World→Prop}{a:Act}{w0 w:World}{n i:Nat}{L:List (Nat×Value)}{LH:List HB}{K:List FK}{KK:Act→World→Prop}{ty:TypeId}{pos:String}{af:Array Edge}{g:Option (Nat×Bool)}{t kt et:TypeId}{x y z:Operand}
theorem Op.pushM (H:Sl n L a) (HP:Hp w0 w LH K) (im:Nat) {b:Nat}{l:List (Int×Value)}{f:Bool}{k:Int}{v:Value}(LH':List HB) (ho:ops[i]? =some ⟨none,.mapUpdate t x y z,ty,pos,af,g⟩) (hc:chk0 ops L ⟨none,.mapUpdate t x y z,ty,pos,af,g⟩=true) (hx:ev L x=.map (some b)) (hy:ev L y=.int .i64 k) (hz:ev L z=v)
    (ht:P.underlying t=some (.map kt et)) (hk:P.underlying kt=some (.int .i64)) (hi:LH[im]? =some (mapB b l f)) (hn:mget k l=none) (hL:LH.set im (mapB b (l++[(k,v)]) f)=LH')
    (kk:∀w' a',Sl n L a'→Hp w0 w' LH' K→KK a' w'):wpOp P ops Q i KK a w:=
  wpOp_wanted ho (H.wanted (chk0_spec hc).2.2.2) (wp_pushM H HP im LH' hc hx hy hz ht hk hi hn hL kk)
end
end Go.Proofs.YthpbaaadkhdifaaGreatDoor
