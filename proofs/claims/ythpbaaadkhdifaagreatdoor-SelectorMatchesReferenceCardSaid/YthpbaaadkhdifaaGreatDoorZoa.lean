/- Part 1 of the proofs: Base, VbvP, Vbv, VbvN, VbvR. -/
import Derived.Test.YthpbaaadkhdifaaGreatDoorRows
import Derived.WalkKit
import Derived.ProofKit
import Derived.OpenShut
import Derived.Outline
import Derived.LoopTactic
import Derived.WalkMore
import Derived.WalkSpells
import Derived.Lib.Hide
import Derived.IntWalk
import Derived.Deep.DeepCutAuto
import Derived.Deep.AppendLies
import Derived.Deep.RegionLaw
import Derived.Laws.AppendOwnNone
import Derived.Maps.AppendAt
import Derived.RangeFuncBox
import Derived.RangeFuncLeaves
import Derived.Shelf.Abstract
import Derived.OwnWalkIn
import Derived.TacticsInMore
import Derived.LoopNIn
import Derived.LoopIn
import Derived.RangeFuncFrom
import Derived.KernelRfl
namespace Go.Proofs.YthpbaaadkhdifaaGreatDoor
theorem kr {p : Prop} (h : p := by kernel_rfl) : p := h
theorem om {p : Prop} (h : p := by omega) : p := h
set_option maxRecDepth 100000
set_option maxHeartbeats 4000000
open Go.ChangeShapes Go.WideShapes Go.ChangeAt Go.RowKit
set_option linter.unusedVariables false
theorem bnext {w v v':World}(h:Below w.heap.size w v) (hb:Below v.heap.size v v'):Below w.heap.size w v':=h.trans (hb.mono h.size)
theorem bnew {w v v':World}{o:Obj}(h:Below w.heap.size w v) (hb:Below (v.alloc o).heap.size (v.alloc o) v'):Below w.heap.size w v':=
  bnext (h.alloc h.size o) hb
theorem balloc (w:World) (o:Obj):Below w.heap.size w (w.alloc o):=(Below.refl _ _).alloc (Nat.le_refl _) _
def Rd (w:World) (size:Nat) (A:Option Addr) (n:Nat) (xs:List Value):Prop:=
  xs.length=n*size∧(n=0∨∃b off,A=some ⟨b,off,none⟩∧b<w.heap.size∧∀i,i<n*size→w.cell? ⟨b,off+i,none⟩=xs[i]?)
theorem Rd.below {w w':World}{size:Nat}{A:Option Addr}{n:Nat}{xs:List Value}(h:Rd w size A n xs) (hb:Below w.heap.size w w'):Rd w' size A n xs:=by
  obtain⟨h1,h2⟩:=h;refine⟨h1,?_⟩;rcases h2 with h2|⟨b,off,rfl,hlt,hc⟩
  · exact .inl h2
  · exact .inr ⟨b,off,rfl,Nat.lt_of_lt_of_le hlt hb.size,fun i hi=>(hb.cell (p:=⟨b,off+i,none⟩) hlt).trans (hc i hi)⟩
theorem Rd.of_own {w:World}{base size:Nat}{e:TypeId}{A:Option Addr}{n c:Nat}{xs:List Value}(h:w.ownsRow base e size (.slice A n c) n xs):Rd w size A n xs:=by
  refine⟨h.1,?_⟩;by_cases hn:n=0
  · exact .inl hn
  · obtain⟨g,cap,hv,_,hlt⟩:=h.form om;have hA:A=some ⟨g,0,none⟩:=by injection hv
    subst hA;refine .inr ⟨g,0,rfl,hlt,fun i hi=>?_⟩;have hi':i<xs.length:=by rw[h.1];exact hi
    have:=h.cells (g:=g) rfl i _ (List.getElem?_eq_getElem hi');rw[List.getElem?_eq_getElem hi',←this];unfold Addr.add;split
    · subst i;rfl
    · simp
theorem Rd.take {w:World}{size:Nat}{A:Option Addr}{n:Nat}{xs:List Value}(h:Rd w size A n xs) {k:Nat}(hk:k≤n):
    Rd w size A k (xs.take (k*size)):=by
  obtain⟨h1,h2⟩:=h;have hm:k*size≤n*size:=Nat.mul_le_mul_right _ hk;refine⟨by rw[List.length_take,h1];omega,?_⟩;rcases h2 with h2|⟨b,off,rfl,hlt,hcell⟩
  · exact .inl om
  · exact .inr ⟨b,off,rfl,hlt,fun i hi=>by rw[hcell i om,List.getElem?_take,if_pos hi]⟩
theorem Rd.nil (w:World) (size:Nat) (A:Option Addr):Rd w size A 0 []:=⟨by simp,.inl rfl⟩
theorem Rd.cell {w:World}{A:Option Addr}{n:Nat}{xs:List Value}(h:Rd w 1 A n xs) {i:Nat}(hi:i<n):
    ∃b off v,A=some ⟨b,off,none⟩∧b<w.heap.size∧xs[i]? =some v∧w.cell? ⟨b,off+i,none⟩=some v:=by
  obtain⟨h1,h2⟩:=h;obtain⟨b,off,rfl,hb,hc⟩:=h2.resolve_left om;have hl:i<xs.length:=om;exact⟨b,off,xs[i],rfl,hb,List.getElem?_eq_getElem hl,(hc i om).trans (List.getElem?_eq_getElem hl)⟩
section
variable {P:Program}(w:World)
theorem wp_append_rd {o:Oper}{a:Act}{K:Act→World→Prop}{Q:Exit→Act→World→Prop}(s x:Operand) (t:TypeId)
    (ho:o.op=.call { callee:=.builtin .append,args:=#[s,x],argTypes:=#[t,t]})
    (base:Nat) (e:TypeId) (i:TypeInfo) (z:Value) (size bytes:Nat) (ht:P.underlying t=some (.slice e)) (hi:P.info? e=some i) (hz:i.zero=some z)
    (hsize:i.size=size) (hby:i.bytes=bytes) (hzs:z.cells.size=size) (hsz:0<size)
    (v:Value) (n:Nat) (xs:List Value) (hs:a.eval s=v) (hown:w.ownsRow base e size v n xs)
    (A:Option Addr) (m c:Nat) (news:List Value) (hx:a.eval x=.slice A m c) (hA:A=none→m=0∧c=0) (hr:Rd w size A m news) (h1:∀u∈news,u.oneCell'=true)
    (h63:n+m≤maxLen) (hbytes:(n+m)*bytes≤140737488355328) (hbase:base≤w.heap.size)
    (h:∀B c' w',w'.ownsRow base e size (.slice B (n+m) c') (n+m) (xs++news)→w.grownBy w' v.ownBlock→((Value.slice B (n+m) c').ownBlock=v.ownBlock∨(Value.slice B (n+m) c').ownBlock=some w.heap.size)→K (a.put o.dst (.slice B (n+m) c')) w'):o.wp P a w K Q:=by
  have form:∀(v':Value) (w':World) (k:Nat) (ys:List Value),w'.ownsRow base e size v' k ys→∃B c',v'=.slice B k c':=by
    intro v' w' k ys hw;rcases hw.2 with⟨rfl,rfl⟩|⟨g,cap,cur,rfl,_⟩
    · exact⟨_,_,rfl⟩
    · exact⟨_,_,rfl⟩
  cases A with
  |none=>
    obtain⟨rfl,rfl⟩:=hA rfl;have hn:news=[]:=List.eq_nil_of_length_eq_zero (by simpa using hr.1);subst hn;have hrun:=run_append_owned_none (P:=P) (w:=w) base t o.type e i size ht hi v n xs hown;unfold Oper.wp;simp[execOp,ho,resolve,invoke,builtin,hs,hx,hrun,Result.andThen];obtain⟨B,c',rfl⟩:=form v w n xs hown;exact h B c' w (by simpa using hown) ⟨rfl,rfl,rfl,Nat.le_refl _,fun _ _ _=>rfl⟩ (.inl rfl)
  |some ad=>
    have hnews:∀j u,news[j]? =some u→w.cell? (ad.add j)=some u:=by
      intro j u hu;have hj:j<m*size:=by rw[←hr.1];exact(List.getElem?_eq_some_iff.1 hu).1
      rcases hr.2 with h0|⟨b,off,he,hlt,hcell⟩
      · subst h0;omega
      · cases he
        rw[←hu,←hcell j hj];unfold Addr.add;split
        · subst j;rfl
        · rfl
    obtain⟨v',w',hrun,h2,h3,_,h5⟩:=run_append_own_at (P:=P) w base t o.type e i z size bytes ht hi hz hsize hby hzs hsz v n xs hown ad m c news hr.1 hnews h1 h63 hbytes hbase;obtain⟨B,c',rfl⟩:=form v' w' _ _ h2;unfold Oper.wp;simp[execOp,ho,resolve,invoke,builtin,hs,hx,hrun,Result.andThen];exact h B c' w' h2 h3 h5
theorem wpList_append_rd {ops:Array Oper}{rest:List Oper}{o:Oper}{a:Act}{Q:Exit→Act→World→Prop}(hgd:o.guard=none) (s x:Operand) (t:TypeId)
    (ho:o.op=.call { callee:=.builtin .append,args:=#[s,x],argTypes:=#[t,t]})
    (base:Nat) (e:TypeId) (i:TypeInfo) (z:Value) (size bytes:Nat) (ht:P.underlying t=some (.slice e)) (hi:P.info? e=some i) (hz:i.zero=some z)
    (hsize:i.size=size) (hby:i.bytes=bytes) (hzs:z.cells.size=size) (hsz:0<size)
    (v:Value) (n:Nat) (xs:List Value) (hs:a.eval s=v) (hown:w.ownsRow base e size v n xs)
    (A:Option Addr) (m c:Nat) (news:List Value) (hx:a.eval x=.slice A m c) (hA:A=none→m=0∧c=0) (hr:Rd w size A m news) (h1:∀u∈news,u.oneCell'=true)
    (h63:n+m≤maxLen) (hbytes:(n+m)*bytes≤140737488355328) (hbase:base≤w.heap.size)
    (h:∀B c' w',w'.ownsRow base e size (.slice B (n+m) c') (n+m) (xs++news)→w.grownBy w' v.ownBlock→((Value.slice B (n+m) c').ownBlock=v.ownBlock∨(Value.slice B (n+m) c').ownBlock=some w.heap.size)→wpList P ops Q rest (a.put o.dst (.slice B (n+m) c')) w'):wpList P ops Q (o::rest) a w:=
  wpList_plain hgd fun _ hK=>wp_append_rd w s x t ho base e i z size bytes ht hi hz hsize hby hzs hsz v n xs hs hown A m c news hx hA hr h1 h63 hbytes hbase fun B c' w' h2 h3 h4=>hK _ _ (h B c' w' h2 h3 h4)
theorem step_append_rd {ops:Array Oper}{o:Oper}{a:Act}{K:Act→World→Prop}{Q:Exit→Act→World→Prop}{E:Prop}(hgd:o.guard=none) (s x:Operand) (t:TypeId)
    (ho:o.op=.call { callee:=.builtin .append,args:=#[s,x],argTypes:=#[t,t]})
    (base:Nat) (e:TypeId) (i:TypeInfo) (z:Value) (size bytes:Nat) (ht:P.underlying t=some (.slice e)) (hi:P.info? e=some i) (hz:i.zero=some z)
    (hsize:i.size=size) (hby:i.bytes=bytes) (hzs:z.cells.size=size) (hsz:0<size)
    (v:Value) (n:Nat) (xs:List Value) (hs:a.eval s=v) (hown:w.ownsRow base e size v n xs)
    (A:Option Addr) (m c:Nat) (news:List Value) (hx:a.eval x=.slice A m c) (hA:A=none→m=0∧c=0) (hr:Rd w size A m news) (h1:∀u∈news,u.oneCell'=true)
    (h63:n+m≤maxLen) (hbytes:(n+m)*bytes≤140737488355328) (hbase:base≤w.heap.size)
    (h:∀B c' w',w'.ownsRow base e size (.slice B (n+m) c') (n+m) (xs++news)→w.grownBy w' v.ownBlock→((Value.slice B (n+m) c').ownBlock=v.ownBlock∨(Value.slice B (n+m) c').ownBlock=some w.heap.size)→K (a.put o.dst (.slice B (n+m) c')) w'):
    if Region.wanted o (yielded ops a.tmps)=true then Oper.wp P o a w K Q else E:=by
  have hw:Region.wanted o (yielded ops a.tmps)=true:=by simp[Region.wanted,hgd]
  rw[if_pos hw];exact wp_append_rd w s x t ho base e i z size bytes ht hi hz hsize hby hzs hsz v n xs hs hown A m c news hx hA hr h1 h63 hbytes hbase h
end
theorem own_ge {w:World}{base size:Nat}{e:TypeId}{v:Value}{n:Nat}{xs:List Value}(h:w.ownsRow base e size v n xs):∀k,v.ownBlock=some k→base≤k:=by
  intro k hk;rcases h.2 with⟨rfl,_⟩|⟨g,cap,cur,rfl,hb,_⟩
  · simp[Value.ownBlock] at hk
  · have:g=k:=by simpa [Value.ownBlock] using hk
    omega
theorem own_new (w:World) (t:TypeId) (vs:List Value) (hl:vs.length≤maxLen):(w.alloc (.cells vs.toArray t)).ownsRow w.heap.size t 1 (.slice (some ⟨w.heap.size,0,none⟩) vs.length vs.length) vs.length vs:=
  ⟨by simp,.inr ⟨w.heap.size,vs.length,vs.toArray,rfl,Nat.le_refl _,heap_alloc_new w _,Nat.le_refl _,hl,by simp,by simp⟩⟩
def IsInts (w:World) (a:Option Addr) (len:Nat) (zs:List Int):Prop:=
  zs.length=len∧(len=0∨∃b off,a=some ⟨b,off,none⟩∧b<w.heap.size∧∀i,i<len→w.cell? ⟨b,off+i,none⟩=some (.int .i64 (zs.getD i 0)))
theorem IsInts.below {w w':World}{a:Option Addr}{len:Nat}{zs:List Int}(h:IsInts w a len zs) (hb:Below w.heap.size w w'):IsInts w' a len zs:=by
  obtain⟨h1,h2⟩:=h;refine⟨h1,?_⟩;rcases h2 with h2|⟨b,off,rfl,hlt,hc⟩
  · exact .inl h2
  · exact .inr ⟨b,off,rfl,Nat.lt_of_lt_of_le hlt hb.size,fun i hi=>by rw[hb.cell (p:=⟨b,off+i,none⟩) hlt];exact hc i hi⟩
theorem IsInts.nil (w:World) (a:Option Addr):IsInts w a 0 []:=⟨rfl,.inl rfl⟩
abbrev ints (zs:List Int):List Value:=zs.map (Value.int .i64)
theorem ints_ones (zs:List Int):∀u∈ints zs,u.oneCell'=true:=by
  intro u hu;simp only[List.mem_map] at hu;obtain⟨z,_,rfl⟩:=hu;rfl
theorem ofInts {w:World}{A:Option Addr}{n:Nat}{zs:List Int}(h:IsInts w A n zs):Rd w 1 A n (ints zs):=by
  obtain⟨h1,h2⟩:=h;refine⟨by simp[h1],?_⟩;rcases h2 with h2|⟨b,off,rfl,hb,hc⟩
  · exact .inl h2
  · refine .inr ⟨b,off,rfl,hb,fun i hi=>?_⟩;rw[hc i om];simp only[List.getElem?_map,List.getD];rw[List.getElem?_eq_getElem om];rfl
theorem toInts {w:World}{A:Option Addr}{n:Nat}{zs:List Int}(h:Rd w 1 A n (ints zs)):IsInts w A n zs:=by
  obtain⟨h1,h2⟩:=h;have hz:zs.length=n:=by simpa using h1
  refine⟨hz,?_⟩;rcases h2 with h2|⟨b,off,rfl,hb,hc⟩
  · exact .inl h2
  · refine .inr ⟨b,off,rfl,hb,fun i hi=>?_⟩;rw[hc i om];simp only[List.getElem?_map,List.getD];rw[List.getElem?_eq_getElem om];rfl
theorem isInts_new (w:World) (t:TypeId) (zs:List Int) (hl:zs.length≤maxLen):IsInts (w.alloc (.cells (ints zs).toArray t)) (some ⟨w.heap.size,0,none⟩) zs.length zs:=by
  have:=own_new w t (ints zs) (by simpa using hl);rw[List.length_map] at this;exact toInts (Rd.of_own this)
def RetInts (l:List Int) (w:World) (e:Ending) (w':World):Prop:=
  ∃B c,e=.returned (.slice B l.length c)∧IsInts w' B l.length l∧l.length≤c∧c≤maxLen∧(B=none→c=0)∧Below w.heap.size w w'
theorem own_facts {w:World}{base:Nat}{e:TypeId}{size n c:Nat}{B:Option Addr}{xs:List Value}(h:w.ownsRow base e size (.slice B n c) n xs):n≤c∧c≤maxLen∧(B=none→c=0):=by
  rcases h.2 with⟨hv,rfl⟩|⟨g,cap,cur,hv,_,_,h1,h2,_⟩
  · cases hv;exact⟨Nat.le_refl _,Nat.zero_le _,fun _=>rfl⟩
  · cases hv;exact⟨h1,h2,fun e=>by cases e⟩
theorem grown_cell {w w':World}{row:Option Nat}(hg:w.grownBy w' row) {b o:Nat}{v:Value}(h:w.cell? ⟨b,o,none⟩=some v) (hne:row≠some b):w'.cell? ⟨b,o,none⟩=some v:=
  (World.cell?_of_block (w:=w) (hg.block b (World.block_lt_of_cell? w _ h) (fun e=>hne e.symm))).trans h
theorem grown_frozen {w w':World}{row:Option Nat}(hg:w.grownBy w' row) {b o:Nat}{v:Value}(h:w.cell? ⟨b,o,none⟩=some v) (hne:row≠some b):w'.frozen? ⟨b,o,none⟩=w.frozen? ⟨b,o,none⟩:=
  World.frozen?_of_block (w:=w) (hg.block b (World.block_lt_of_cell? w _ h) (fun e=>hne e.symm))
theorem take_getD {zs:List Int}{k:Nat}(hk:k<zs.length):zs.take (k+1)=zs.take k++[zs.getD k 0]:=by
  rw[List.take_succ_eq_append_getElem hk];simp[List.getD,List.getElem?_eq_getElem hk]
theorem drop_getD {zs:List Int}{k:Nat}(hk:k<zs.length):zs.drop k=zs.getD k 0::zs.drop (k+1):=by
  rw[List.drop_eq_getElem_cons hk];simp[List.getD,List.getElem?_eq_getElem hk]
def vstep (f s:Int):Option Int:=if f<0∨1000<f∨s<0 then none else if min 1000 (f+100)<s then none else some (min 1000 (f+100)-s)
def vrun (f:Int):List Int→Option Int
  | []=>some f
  |s::l=>(vstep f s).bind (fun g=>vrun g l)
def runOf (f:Int) (l:List Int):Option Int:=if f<0∨1000<f then none else vrun f l
def pairV (r:Option Int):Value:=.tuple #[.int .i64 (r.getD 0),.bool r.isSome]
theorem vstep_bd {f s g:Int}(h:vstep f s=some g):0≤f∧f≤1000∧0≤s∧s≤1000∧0≤g∧g≤1000∧g=min 1000 (f+100)-s:=by
  unfold vstep at h;split at h
  · cases h
  · split at h
    · cases h
    · cases h;omega
theorem vstep_none {f s:Int}(h0:0≤f) (h1:f≤1000) (h:vstep f s=none):s<0∨min 1000 (f+100)<s:=by
  unfold vstep at h;split at h
  · omega
  · split at h
    · omega
    · cases h
theorem vrun_snoc (f:Int) (l:List Int) (s:Int):vrun f (l++[s])=(vrun f l).bind (fun g=>vstep g s):=by
  induction l generalizing f with
  |nil=>simp[vrun]
  |cons x l ih=>simp only[List.cons_append,vrun];cases vstep f x<;>simp[ih]
theorem vrun_append (f:Int) (l m:List Int):vrun f (l++m)=(vrun f l).bind (fun g=>vrun g m):=by
  induction l generalizing f with
  |nil=>simp[vrun]
  |cons x l ih=>simp only[List.cons_append,vrun];cases vstep f x<;>simp[ih]
theorem vrun_none_append {f:Int}{l:List Int}(m:List Int) (h:vrun f l=none):vrun f (l++m)=none:=by rw[vrun_append,h];rfl
def needOf:List Int→Option Int
  | []=>some 0
  |s::l=>match needOf l with
    |none=>none
    |some n=>if s<0∨1000-n<s then none else some (max 0 (n+s-100))
theorem needOf_bd {l:List Int}{n:Int}(h:needOf l=some n):0≤n∧n≤1000:=by
  induction l generalizing n with
  |nil=>simp[needOf] at h;omega
  |cons s l ih=>
    simp only[needOf] at h;cases hl:needOf l with
    |none=>rw[hl] at h;cases h
    |some m=>
      rw[hl] at h;have:=ih hl;simp only[] at h;split at h
      · cases h
      · cases h;omega
theorem need_law (l:List Int):∀f:Int,0≤f→f≤1000→((vrun f l).isSome=true↔∃n,needOf l=some n∧n≤f):=by
  induction l with
  |nil=>intro f h0 h1;simp[vrun,needOf];exact h0
  |cons s l ih=>
    intro f h0 h1;simp only[vrun,needOf];cases hs:vstep f s with
    |none=>
      have:=vstep_none h0 h1 hs;simp only[Option.bind_none,Option.isSome_none,Bool.false_eq_true,false_iff];rintro⟨n,hn,hle⟩;cases hl:needOf l with
      |none=>rw[hl] at hn;cases hn
      |some m=>
        rw[hl] at hn;have hb:=needOf_bd hl;simp only[] at hn;split at hn
        · cases hn
        · cases hn;omega
    |some g=>
      have hg:=vstep_bd hs;simp only[Option.bind_some];rw[ih g om om];cases hl:needOf l with
      |none=>simp
      |some m=>
        have hb:=needOf_bd hl;simp only[Option.some.injEq,exists_eq_left'];constructor
        · intro hm;rw[if_neg om];exact⟨_,rfl,om⟩
        · rintro⟨n,hn,hle⟩;split at hn
          · cases hn
          · cases hn;omega
theorem vstep_cases (f s:Int):(vstep f s=none∧f<0)∨(vstep f s=none∧0≤f∧1000<f)∨(vstep f s=none∧0≤f∧f≤1000∧s<0) ∨
      (vstep f s=none∧0≤f∧f<900∧0≤s∧f+100<s)∨(vstep f s=some (f+100-s)∧0≤f∧f<900∧0≤s∧s≤f+100) ∨
      (vstep f s=none∧900≤f∧f≤1000∧0≤s∧1000<s)∨(vstep f s=some (1000-s)∧900≤f∧f≤1000∧0≤s∧s≤1000):=by
  unfold vstep;by_cases h1:f<0
  · left;exact⟨by rw[if_pos (.inl h1)],h1⟩
  · by_cases h2:1000<f
    · right;left;exact⟨by rw[if_pos om],om,h2⟩
    · by_cases h3:s<0
      · right;right;left;exact⟨by rw[if_pos om],om,om,h3⟩
      · rw[if_neg om];by_cases h4:f<900
        · by_cases h5:f+100<s
          · right;right;right;left;exact⟨by rw[if_pos om],om,h4,om,h5⟩
          · right;right;right;right;left;exact⟨by rw[if_neg om,show min 1000 (f+100)=f+100 from om],om,h4,om,om⟩
        · by_cases h5:1000<s
          · right;right;right;right;right;left;exact⟨by rw[if_pos om],om,om,om,h5⟩
          · right;right;right;right;right;right;exact⟨by rw[if_neg om,show min 1000 (f+100)=1000 from om],om,om,om,om⟩
set_option maxHeartbeats 400000 in
theorem vbvStep_any (f s:Int) (w:World):
    Calls Tryz.prog 29 #[.int .i64 f,.int .i64 s] w fun e w'=>e=.returned (pairV (vstep f s))∧w=w':=by
  have key:=vstep_cases f s;generalize vstep f s=r at key ⊢;rcases key with⟨rfl,k1⟩|⟨rfl,k0,k1⟩|⟨rfl,k0,k1,k2⟩|⟨rfl,k0,k1,k2,k3⟩|⟨rfl,k0,k1,k2,k3⟩|⟨rfl,k1,k2,k3,k4⟩|⟨rfl,k1,k2,k3,k4⟩;all_goals
    go_enter Tryz.func29,Tryz.ntmps29
    go_wp2
    go_ret2
    exact⟨rfl,rfl⟩
open Go.Shelf
attribute [local go_sem] Oper.semAt_some
def backTo (zs:List Int) (k:Nat):List (Int×Int):=(List.range k).map fun(j:Nat)=>((zs.length:Int)-1-(j:Int),zs.getD (zs.length-1-j) 0)
theorem backTo_succ (zs:List Int) (k:Nat):backTo zs (k+1)=backTo zs k++[((zs.length:Int)-1-k,zs.getD (zs.length-1-k) 0)]:=by
  unfold backTo;rw[List.range_succ,List.map_append];rfl
theorem backTo_len (zs:List Int) (k:Nat):(backTo zs k).length=k:=by simp[backTo]
theorem backTo_snd (zs:List Int) (k:Nat) (hk:k≤zs.length):((backTo zs k).map (·.2)).reverse=zs.drop (zs.length-k):=by
  induction k with
  |zero=>simp[backTo]
  |succ k ih=>
    rw[backTo_succ,List.map_append,List.reverse_append,ih om];rw[drop_getD (k:=zs.length-(k+1)) om,show zs.length-(k+1)+1=zs.length-k from om,show zs.length-1-k=zs.length-(k+1) from om];rfl
def KeepB (n₀ Bs:Nat) (W W':World):Prop:=Below n₀ W W'∧W'.cell? ⟨Bs,0,none⟩=W.cell? ⟨Bs,0,none⟩
theorem KeepB.trans {n₀ Bs:Nat}{A B C:World}(h:KeepB n₀ Bs A B) (k:KeepB n₀ Bs B C):KeepB n₀ Bs A C:=⟨h.1.trans k.1,k.2.trans h.2⟩
theorem KeepB.put {n₀ Bs:Nat}{w:World}(hn:n₀≤w.heap.size) (hs:Bs<w.heap.size) (W:World) (l:Nat) (o o':Obj) (hl:w.heap.size≤l) (h:W.heap[l]? =some o) (h1:o.isCells=false) (h2:o.isWalk=false):KeepB n₀ Bs W (W.putObj l o'):=
  ⟨belowK_b hn W l o o' hl h h1 h2,World.cell?_of_block (World.putObj_heap_other (by show Bs≠l;omega))⟩
set_option maxHeartbeats 1000000 in
theorem back_in (n:Nat) (a:Option Addr) (len cap:Nat) (w:World):
    CallsIn Fence.wide n Tryz.prog 193 #[.slice a len cap] w fun e w'=>e=.returned (.func (.func 205) #[] #[.pointer (some ⟨w.heap.size,0,none⟩)])∧w'=w.alloc (.cells #[.slice a len cap] 22):=by
  refine callsIn_of_wp Tryz.func193 rfl trivial ?_ rfl;simp only[Tryz.ntmps193,List.size_toArray,List.length_cons,List.length_nil,Nat.reduceAdd,Nat.reduceSub,Array.replicate_succ,Array.replicate_zero,List.push_toArray,List.append_toArray,List.nil_append,List.cons_append];gi_wp2;go_ret;exact⟨rfl,rfl⟩
set_option maxRecDepth 100000 in
set_option maxHeartbeats 2000000 in
theorem back1_in (n:Nat) (hn:1≤n) (l Bs n₀:Nat) (a:Option Addr) (len cap:Nat) (zs:List Int) (hreach:len≤9223372036854775807) (J Jx:List (Int×Int)→World→Prop)
    (hY:∀pre x W,J pre W→pre.length<len→YieldAt Fence.wide (n-1) Tryz.prog l #[.int .i64 x.1,.int .i64 x.2] W fun e W'=>
      (e=.returned (.bool true)∧J (pre++[x]) W'∧KeepB n₀ Bs W W')∨(e=.returned (.bool false)∧Jx (pre++[x]) W'))
    (W:World) (hBs:W.cell? ⟨Bs,0,none⟩=some (.slice a len cap)) (hI:IsInts W a len zs) (hlt0:∀b off,a=some ⟨b,off,none⟩→len≠0→b<n₀) (h0:J [] W):
    CallsIn Fence.wide n Tryz.prog 205 #[.func (.yield l) #[] #[],.pointer (some ⟨Bs,0,none⟩)] W fun e W'=>(∃v,e=.returned v) ∧
      ((∃ys,ys=backTo zs len∧J ys W')∨(∃pre,(∃k,k≤len∧pre=backTo zs k)∧Jx pre W')):=by
  have HI:=Lib.hid hI;have HL:=Lib.hid hlt0;clear hI hlt0;refine callsIn_of_wp Tryz.func205 rfl trivial ?_ rfl;simp only[Tryz.ntmps205,List.size_toArray,List.length_cons,List.length_nil,Nat.reduceAdd,Nat.reduceSub,Array.replicate_succ,Array.replicate_zero,List.push_toArray,List.append_toArray,List.nil_append,List.cons_append];gi_wp2;gi_loopw [3] (fun i wr=>∃k:Nat,k≤len∧i=.int .i64 ((len:Int)-1-k)∧J (backTo zs k) wr∧KeepB n₀ Bs W wr)
    (fun i _=>(intOf i+1).toNat)
  case atStart=>exact⟨0,Nat.zero_le _,by simp,h0,Below.refl _ _,rfl⟩
  case round=>
    obtain⟨k,hk,rfl,hJs,hnx⟩:=hrel;have hBs':wr.cell? ⟨Bs,0,none⟩=some (.slice a len cap):=hnx.2.trans hBs;by_cases hlt:k<len
    · obtain⟨b,off,rfl,hbl,hcell⟩:=HI.out.2.resolve_left om;have hb:=HL.out b off rfl om;have hcx:wr.cell? ⟨b,off+(len-1-k),none⟩=some (.int .i64 (zs.getD (len-1-k) 0)):=(hnx.1.cell (p:=⟨b,off+(len-1-k),none⟩) hb).trans (hcell _ om);obtain⟨fn,tmps,assign,body,hy,hR⟩:=hY _ ((len:Int)-1-k,zs.getD (len-1-k) 0) wr hJs (by rw[backTo_len];exact hlt);dsimp only at hy;have hst:backTo zs (k+1)=backTo zs k++[((len:Int)-1-k,zs.getD (len-1-k) 0)]:=by
        rw[backTo_succ,HI.out.1]
      have HS:=Lib.hid hst;clear hst hcell;have hi1:((len:Int)-1-k).toNat=len-1-k:=om;generalize zs.getD (len-1-k) 0=z at *;gi_wp2;refine hR.mono ?_;rintro e W3 (⟨rfl,hJ3,hk3⟩|⟨rfl,hJx3⟩)
      · gi_wp2;go_roundw
        case rel=>exact⟨k+1,om,congrArg (Value.int .i64) om,by rw[HS.out];exact hJ3,hnx.trans hk3⟩
        case measure=>simp[intOf];omega
      · gi_wp2;refine bodyPost_ret (results_none rfl _ _ _) rfl ?_;exact⟨⟨_,rfl⟩,.inr ⟨_,⟨k+1,om,HS.out.symm⟩,hJx3⟩⟩
    · gi_wp2;go_end0;obtain rfl:k=len:=om;exact⟨⟨_,rfl⟩,.inl ⟨_,rfl,hJs⟩⟩
theorem back_stops (n:Nat) (hn:1≤n) (Bs n₀:Nat) (a:Option Addr) (len cap:Nat) (zs:List Int) (hreach:len≤9223372036854775807) (w:World) (hBs:Bs<w.heap.size) (hn₀:n₀≤w.heap.size)
    (hc:w.cell? ⟨Bs,0,none⟩=some (.slice a len cap)) (hI:IsInts w a len zs) (hlt0:∀b off,a=some ⟨b,off,none⟩→len≠0→b<n₀):
    SeqStopsK Fence.wide n Tryz.prog 205 #[.pointer (some ⟨Bs,0,none⟩)] (fun x:Int×Int=>#[Value.int .i64 x.1,Value.int .i64 x.2]) (KeepB n₀ Bs) (fun ys=>ys=backTo zs len) (fun pre=>∃k,k≤len∧pre=backTo zs k) len w:=fun l J Jx W hW _ _ hY h0=>by
  have hc':=(hW.cell (p:=⟨Bs,0,none⟩) hBs).trans hc
  exact back1_in n hn l Bs n₀ a len cap zs hreach J Jx hY W hc' (hI.below hW) hlt0 h0
theorem need_none_append (l m:List Int) (h:needOf m=none):needOf (l++m)=none:=by
  induction l with
  |nil=>exact h
  |cons x l ih=>simp only[List.cons_append,needOf,ih]
def NBox (B:Nat) (W:World) (g:Int):Prop:=W.cell? ⟨B+1+1,0,none⟩=some (.int .i64 g)∧W.frozen? ⟨B+1+1,0,none⟩=false ∧
  W.cell? ⟨B,0,none⟩=some (.int .i64 0)∧W.frozen? ⟨B,0,none⟩=false∧W.cell? ⟨B+1,0,none⟩=some (.bool false)∧W.frozen? ⟨B+1,0,none⟩=false
def NRes (B:Nat) (W:World):Prop:=∃g,NBox B W g
theorem nbox_res {B:Nat}{W:World}{g:Int}(u v:Value) (h:NBox B W g) (hu:u=.int .i64 0:=by rfl) (hv:v=.bool false:=by rfl):NBox B ((W.setCell ⟨B,0,none⟩ u).setCell ⟨B+1,0,none⟩ v) g:=by
  obtain⟨n1,n2,n3,n4,n5,n6⟩:=h;subst hu;subst hv;refine⟨?_,?_,?_,?_,?_,?_⟩
  · rw[World.cell?_setCell_other _ _ _ _ (by simp),World.cell?_setCell_other _ _ _ _ (by simp)];exact n1
  · rw[World.frozen?_setCell,World.frozen?_setCell];exact n2
  · rw[World.cell?_setCell_other _ _ _ _ (by simp),World.cell?_setCell_same' _ _ _ (by rw[n3];rfl)]
  · rw[World.frozen?_setCell,World.frozen?_setCell];exact n4
  · rw[World.cell?_setCell_same' _ _ _ (by rw[World.cell?_setCell_other _ _ _ _ (by simp),n5];rfl)]
  · rw[World.frozen?_setCell,World.frozen?_setCell];exact n6
theorem nbox_res2 {B:Nat}{W:World}{g:Int}(u v:Value) (h:NBox B W g):
    ((W.setCell ⟨B,0,none⟩ u).setCell ⟨B+1,0,none⟩ v).cell? ⟨B,0,none⟩=some u∧((W.setCell ⟨B,0,none⟩ u).setCell ⟨B+1,0,none⟩ v).cell? ⟨B+1,0,none⟩=some v:=by
  obtain⟨n1,n2,n3,n4,n5,n6⟩:=h;refine⟨?_,?_⟩
  · rw[World.cell?_setCell_other _ _ _ _ (by simp),World.cell?_setCell_same' _ _ _ (by rw[n3];rfl)]
  · rw[World.cell?_setCell_same' _ _ _ (by rw[World.cell?_setCell_other _ _ _ _ (by simp),n5];rfl)]
theorem nbox_need {B:Nat}{W:World}{g:Int}(y:Int) (h:NBox B W g):NBox B (W.setCell ⟨B+1+1,0,none⟩ (.int .i64 y)) y:=by
  obtain⟨n1,n2,n3,n4,n5,n6⟩:=h;refine⟨?_,?_,?_,?_,?_,?_⟩
  · rw[World.cell?_setCell_same' _ _ _ (by rw[n1];rfl)]
  · rw[World.frozen?_setCell];exact n2
  · rw[World.cell?_setCell_other _ _ _ _ (by simp)];exact n3
  · rw[World.frozen?_setCell];exact n4
  · rw[World.cell?_setCell_other _ _ _ _ (by simp)];exact n5
  · rw[World.frozen?_setCell];exact n6
set_option maxRecDepth 100000 in
set_option maxHeartbeats 2000000 in
theorem vbvNeed_any (a:Option Addr) (len cap:Nat) (zs:List Int) (w:World) (h:IsInts w a len zs) (hlen:len≤9223372036854775807):
    Calls Tryz.prog 171 #[.slice a len cap] w fun e w'=>e=.returned (pairV (needOf zs))∧Below w.heap.size w w':=by
  have H:=Lib.hid h;clear h;refine(callsIn_wide (n:=8)).1 ?_;refine callsIn_of_wp_marks Tryz.func171 rfl trivial ?_ rfl;simp only[Tryz.ntmps171,List.size_toArray,List.length_cons,List.length_nil,Nat.reduceAdd,Nat.reduceSub,Array.replicate_succ,Array.replicate_zero,List.push_toArray,List.append_toArray,List.nil_append,List.cons_append];gi_wp2_with (refine⟨trivial,?_⟩;gi_at_call 193;refine(back_in _ _ _ _ _).mono ?_;rintro e w' ⟨rfl,rfl⟩);obtain⟨W0,hW0⟩:∃W0,(((w.alloc (Obj.cells #[Value.int IntKind.i64 0] 3)).alloc (Obj.cells #[Value.bool false] 4)).alloc (Obj.cells #[Value.int IntKind.i64 0] 3)).alloc (Obj.cells #[Value.slice a len cap] 22)=W0:=⟨_,rfl⟩;have hB0:Below w.heap.size w W0:=by rw[←hW0];exact((((Below.refl _ w).alloc (Nat.le_refl _) _).alloc (by simp) _).alloc (by simp;omega) _).alloc (by simp;omega) _
  have hs0:W0.heap.size=w.heap.size+1+1+1+1:=by rw[←hW0];simp
  have hN0:NBox w.heap.size W0 0:=by
    refine⟨?_,?_,?_,?_,?_,?_⟩<;>rw[←hW0]
    · rw[World.cell?_alloc_lt _ _ _ (by simp),World.cell?_alloc_at _ _ _ _ (by simp)];rfl
    · rw[World.frozen?_alloc_old _ _ _ (by simp)];exact World.frozen?_alloc_at _ _ _ _ (by simp)
    · rw[World.cell?_alloc_lt _ _ _ (by simp;omega),World.cell?_alloc_lt _ _ _ (by simp;omega)];simp
    · rw[World.frozen?_alloc_old _ _ _ (by simp;omega),World.frozen?_alloc_old _ _ _ (by simp;omega)];simp
    · rw[World.cell?_alloc_lt _ _ _ (by simp),World.cell?_alloc_lt _ _ _ (by simp)];simp
    · rw[World.frozen?_alloc_old _ _ _ (by simp),World.frozen?_alloc_old _ _ _ (by simp)];simp
  have hc3:W0.cell? ⟨w.heap.size+1+1+1,0,none⟩=some (.slice a len cap):=by
    rw[←hW0,World.cell?_alloc_at _ _ _ _ (by simp)];rfl
  rw[hW0];clear hW0;have HN:=Lib.hid hN0;have HC:=Lib.hid hc3;have HI:=Lib.hid (H.out.below hB0);have HL:Hid (∀b off,a=some ⟨b,off,none⟩→len≠0→b<w.heap.size):=Lib.hid (fun b off e hne=>by
    obtain⟨b',off',e',hb',_⟩:=H.out.2.resolve_left hne;rw[e] at e';cases e';exact hb')
  clear hN0 hc3;refine wpIn_rangeFunc_ownF (F:=Fence.wide) rfl om (gf:=205) (lb:=#[.pointer (some ⟨w.heap.size+1+1+1,0,none⟩)]) rfl trivial (enters_of Tryz.func205 kr rfl)
    (back_stops _ om (w.heap.size+1+1+1) w.heap.size a len cap zs hlen W0 om om HC.out HI.out HL.out) KeepB.trans (KeepB.put om om) (Below.refl _ _) (fun _=>rfl)
    (fun pre W=>(∃g,(0≤g∧g≤1000)∧needOf (pre.map (·.2)).reverse=some g∧NBox w.heap.size W g)∧Below w.heap.size w W)
    (fun c pre W=>(c=.ret∧needOf (pre.map (·.2)).reverse=none∧NRes w.heap.size W)∧Below w.heap.size w W)
    (OwnFrom.and (Own.from (fun s A B row hs hg hr=>by
      obtain⟨g,h1,h2,n1,n2,n3,n4,n5,n6⟩:=hs;exact⟨g,h1,h2,cell_kept n1 hg hr,(frozen_kept n1 hg hr).trans n2,cell_kept n3 hg hr,(frozen_kept n3 hg hr).trans n4,cell_kept n5 hg hr,(frozen_kept n5 hg hr).trans n6⟩) _) (ownFrom_below (Nat.le_refl _) om))
    (fun c=>OwnFrom.and (Own.from (fun s A B row hs hg hr=>by
      obtain⟨h1,h2,g,n1,n2,n3,n4,n5,n6⟩:=hs;exact⟨h1,h2,g,cell_kept n1 hg hr,(frozen_kept n1 hg hr).trans n2,cell_kept n3 hg hr,(frozen_kept n3 hg hr).trans n4,cell_kept n5 hg hr,(frozen_kept n5 hg hr).trans n6⟩) _) (ownFrom_below (Nat.le_refl _) om))
    ⟨⟨0,⟨om,om⟩,rfl,HN.out⟩,hB0⟩
    (fun x=>{ tmps:=#[.slice a len cap,undef,.pointer (some ⟨w.heap.size,0,none⟩),.pointer (some ⟨w.heap.size+1,0,none⟩),.pointer (some ⟨w.heap.size+1+1,0,none⟩),undef,.int .i64 x.2,.slice a len cap,.func (.func 205) #[] #[.pointer (some ⟨w.heap.size+1+1+1,0,none⟩)],.int .i64 x.1,.int .i64 x.2,undef,undef,undef,undef,undef,undef,undef,undef,undef,undef,undef,undef,undef,undef],defers:=[]}) ?assign ?body ?done ?stop
  case assign=>
    intro l x W K hK;gi_wp2;exact hK
  case body=>
    rintro l pre ⟨i,s⟩ W ⟨⟨g,hg,hn,n1,n2,n3,n4,n5,n6⟩,hB⟩ hpre;have hst:needOf ((pre++[(i,s)]).map (·.2)).reverse=if s<0∨1000-g<s then none else some (max 0 (g+s-100)):=by
      rw[List.map_append,List.reverse_append];simp only[List.map_cons,List.map_nil,List.reverse_cons,List.reverse_nil,List.nil_append,List.cons_append];simp only[needOf,hn]
    have HS:=Lib.hid hst;have HNB:Hid (NBox w.heap.size W g):=Lib.hid ⟨n1,n2,n3,n4,n5,n6⟩;clear hst hn;dsimp only;by_cases c1:s<0∨1000-g<s
    · have hr:=HS.out;rw[if_pos c1] at hr;have HR:=Lib.hid hr;have HK:=Lib.hid ((KeepsOthers.setCell W ⟨w.heap.size,0,none⟩ (.int .i64 0)).trans (KeepsOthers.setCell _ ⟨w.heap.size+1,0,none⟩ (.bool false)));have HB:=Lib.hid ((hB.setCell (p:=⟨w.heap.size,0,none⟩) (Nat.le_refl _) (.int .i64 0)).setCell (p:=⟨w.heap.size+1,0,none⟩) (by simp) (.bool false));have HX:=Lib.hid (nbox_res (.int .i64 0) (.bool false) HNB.out);clear hr HS;by_cases c2:s<0
      · clear c1;gi_wp2;exact⟨HK.out,⟨rfl,HR.out,⟨g,HX.out⟩⟩,HB.out⟩
      · have c3:1000-g<s:=om;have c4:decide (s<0)=false:=by simpa using c2
        clear c1;gi_wp2;exact⟨HK.out,⟨rfl,HR.out,⟨g,HX.out⟩⟩,HB.out⟩
    · have hr:=HS.out;rw[if_neg c1] at hr;have HR:=Lib.hid hr;have c2:0≤s:=om;have c3:s≤1000-g:=om;have c4:decide (s<0)=false:=by simp;omega
      clear hr HS c1;by_cases c5:0<g+s-100
      · have e:max 0 (g+s-100)=g+s-100:=om;rw[e] at HR;clear e;gi_wp2;refine⟨KeepsOthers.setCell _ _ _,⟨(Below.refl w.heap.size W).setCell (p:=⟨w.heap.size+1+1,0,none⟩) (by simp;omega) _,World.cell?_setCell_other _ _ _ _ (by simp)⟩,⟨g+s-100,om,HR.out,nbox_need _ HNB.out⟩,hB.setCell (p:=⟨w.heap.size+1+1,0,none⟩) (by simp;omega) _⟩
      · have e:max 0 (g+s-100)=0:=om;rw[e] at HR;clear e;gi_wp2;refine⟨KeepsOthers.setCell _ _ _,⟨(Below.refl w.heap.size W).setCell (p:=⟨w.heap.size+1+1,0,none⟩) (by simp;omega) _,World.cell?_setCell_other _ _ _ _ (by simp)⟩,⟨0,om,HR.out,nbox_need _ HNB.out⟩,hB.setCell (p:=⟨w.heap.size+1+1,0,none⟩) (by simp;omega) _⟩
  case done=>
    rintro D ys W hD rfl ⟨⟨g,hg,hn,n1,n2,n3,n4,n5,n6⟩,hB⟩ hK;rw[←H.out.1,backTo_snd zs _ (Nat.le_refl _),Nat.sub_self] at hn;have HN2:Hid (needOf zs=some g):=Lib.hid hn;have HK2:=Lib.hid (((KeepsOthers.setCell W ⟨w.heap.size,0,none⟩ (.int .i64 g)).trans (KeepsOthers.setCell _ ⟨w.heap.size+1,0,none⟩ (.bool true))).same D _ hK rfl);have HB:=Lib.hid ((hB.setCell (p:=⟨w.heap.size,0,none⟩) (Nat.le_refl _) (.int .i64 g)).setCell (p:=⟨w.heap.size+1,0,none⟩) (by simp) (.bool true));have HX:=Lib.hid (nbox_res2 (.int .i64 g) (.bool true) ⟨n1,n2,n3,n4,n5,n6⟩);clear hn hK;gi_wp2;refine⟨by simp,.inl ⟨_,_,rfl,run_takeDeferred HK2.out,?_⟩⟩;have r0:=cell_kept HX.out.1 (grownBy_putObj' _ D (.deferred none)) (fun r e=>by cases e;exact⟨_,HK2.out,rfl⟩);have r1:=cell_kept HX.out.2 (grownBy_putObj' _ D (.deferred none)) (fun r e=>by cases e;exact⟨_,HK2.out,rfl⟩)
    refine⟨pairV (some g),?_,by rw[HN2.out],HB.out.trans (belowK_b (w:=w) (Nat.le_refl _) _ D _ _ om HK2.out rfl rfl)⟩;simp[results,Tryz.f171,go_sem,r0,r1,pairV]
  case stop=>
    rintro D c pre W hD ⟨k,hk,rfl⟩ ⟨⟨rfl,hn,g,n1,n2,n3,n4,n5,n6⟩,hB⟩ hK;rw[←H.out.1] at hk;rw[backTo_snd zs _ hk] at hn;have hz:needOf zs=none:=by
      have:=need_none_append (zs.take (zs.length-k)) _ hn;rwa [List.take_append_drop] at this
    have HZ:=Lib.hid hz;clear hn hz;gi_wp2;refine⟨by simp,.inl ⟨_,_,rfl,run_takeDeferred hK,?_⟩⟩;have r0:=cell_kept n3 (grownBy_putObj' _ D (.deferred none)) (fun r e=>by cases e;exact⟨_,hK,rfl⟩);have r1:=cell_kept n5 (grownBy_putObj' _ D (.deferred none)) (fun r e=>by cases e;exact⟨_,hK,rfl⟩);refine⟨pairV none,?_,by rw[HZ.out],hB.trans (belowK_b (w:=w) (Nat.le_refl _) W D _ _ om hK rfl rfl)⟩;simp[results,Tryz.f171,go_sem,r0,r1,pairV]
set_option maxHeartbeats 400000 in
theorem refStep_any (f s:Int) (w:World):
    Calls Tryz.prog 47 #[.int .i64 f,.int .i64 s] w fun e w'=>e=.returned (pairV (vstep f s))∧w=w':=by
  have key:=vstep_cases f s;generalize vstep f s=r at key ⊢;rcases key with⟨rfl,k1⟩|⟨rfl,k0,k1⟩|⟨rfl,k0,k1,k2⟩|⟨rfl,k0,k1,k2,k3⟩|⟨rfl,k0,k1,k2,k3⟩|⟨rfl,k1,k2,k3,k4⟩|⟨rfl,k1,k2,k3,k4⟩;all_goals
    go_enter Tryz.func47,Tryz.ntmps47
    go_wp2
    go_ret2
    exact⟨rfl,rfl⟩
set_option maxHeartbeats 1000000 in
theorem refRun_any (f:Int) (a:Option Addr) (len cap:Nat) (zs:List Int) (w:World) (h:IsInts w a len zs) (hlen:len≤9223372036854775807):
    Calls Tryz.prog 56 #[.int .i64 f,.slice a len cap] w fun e w'=>e=.returned (pairV (runOf f zs))∧w=w':=by
  have H:=Lib.hid h;clear h;by_cases hf0:f<0
  · have:runOf f zs=none:=by unfold runOf;rw[if_pos (.inl hf0)]
    rw[this];clear this;go_enter Tryz.func56,Tryz.ntmps56;go_wp2_with fail;go_ret2;exact⟨rfl,rfl⟩
  · by_cases hf1:1000<f
    · have:runOf f zs=none:=by unfold runOf;rw[if_pos (.inr hf1)]
      rw[this];clear this;go_enter Tryz.func56,Tryz.ntmps56;go_wp2_with fail;go_ret2;exact⟨rfl,rfl⟩
    · have e0:runOf f zs=vrun f zs:=by unfold runOf;rw[if_neg om]
      rw[e0];clear e0;have hb0:0≤f∧f≤1000:=om;have d0:decide (f<0)=false:=by simpa using hf0
      have d1:decide (1000<f)=false:=by simpa using hf1
      go_enter Tryz.func56,Tryz.ntmps56;go_wp2_with fail;go_loop [0,6] (fun x i=>∃(k:Nat) (g:Int),k≤len∧i=.int .i64 k∧x=.int .i64 g∧(0≤g∧g≤1000)∧vrun f (zs.take k)=some g) (fun _ i=>len-(intOf i).toNat)
      case atStart=>exact⟨0,f,Nat.zero_le _,rfl,rfl,hb0,rfl⟩
      case round=>
        obtain⟨k,g,hk,rfl,rfl,hg,hrun⟩:=hrel;have HR:=Lib.hid hrun;clear hrun;by_cases hlt:k<len
        · obtain⟨b,off,rfl,hbl,hcell⟩:=H.out.2.resolve_left om;have hc:=hcell k hlt;have hkl:k<zs.length:=by have:=H.out.1;omega
          have hsn:vrun f (zs.take (k+1))=vstep g (zs.getD k 0):=by
            rw[take_getD hkl,vrun_snoc,HR.out];rfl
          have HS:=Lib.hid hsn;clear hsn hcell;generalize zs.getD k 0=s at *;cases hv:vstep g s with
          |none=>
            have hfin:vrun f zs=none:=by
              have e1:=HS.out;rw[hv] at e1;have:=vrun_none_append (zs.drop (k+1)) e1;rwa [List.take_append_drop] at this
            have HF:=Lib.hid hfin;have HV:=Lib.hid hv;clear hfin hv HS;go_wp2_with (go_at_call 47;refine(refStep_any _ _ _).mono ?_;rintro e w' ⟨rfl,rfl⟩;rw[HV.out];unfold pairV);go_ret2;exact⟨by rw[HF.out];rfl,rfl⟩
          |some y=>
            have hy:=vstep_bd hv;have HV:=Lib.hid hv;rw[hv] at HS;clear hv;have hy2:0≤y∧y≤1000:=⟨om,om⟩;clear hy;go_wp2_with (go_at_call 47;refine(refStep_any _ _ _).mono ?_;rintro e w' ⟨rfl,rfl⟩;rw[HV.out];unfold pairV);go_round
            case rel=>exact⟨k+1,y,om,by go_num,rfl,hy2,HS.out⟩
            case measure=>simp[intOf];omega
        · have hz:zs.take k=zs:=List.take_of_length_le (by have:=H.out.1;omega);rw[hz] at HR;clear hz;go_wp2_with fail;go_ret2;exact⟨by rw[HR.out];rfl,rfl⟩
theorem need_found (zs:List Int) (k:Nat) (hk:k≤1000) (hno:∀j:Nat,j<k→(vrun j zs).isSome=false):
    ((vrun k zs).isSome=true→needOf zs=some (k:Int)):=by
  intro h;obtain⟨n,hn,hle⟩:=(need_law zs k om om).1 h;have hb:=needOf_bd hn;rw[hn];congr 1;by_cases he:n=k
  · exact he
  · have h2:=hno n.toNat om;have h3:=(need_law zs n om om).2 ⟨n,hn,Int.le_refl _⟩;rw[show (n.toNat:Int)=n from om] at h2;rw[h2] at h3;cases h3
theorem need_not_found (zs:List Int) (hno:∀j:Nat,j<1001→(vrun j zs).isSome=false):needOf zs=none:=by
  cases hn:needOf zs with
  |none=>rfl
  |some n=>
    have hb:=needOf_bd hn;have h2:=hno n.toNat om;have h3:=(need_law zs n om om).2 ⟨n,hn,Int.le_refl _⟩;rw[show (n.toNat:Int)=n from om] at h2;rw[h2] at h3;cases h3
set_option maxHeartbeats 1000000 in
theorem refNeed_any (a:Option Addr) (len cap:Nat) (zs:List Int) (w:World) (h:IsInts w a len zs) (hlen:len≤9223372036854775807):
    Calls Tryz.prog 31 #[.slice a len cap] w fun e w'=>e=.returned (pairV (needOf zs))∧w=w':=by
  have H:=Lib.hid h;clear h;go_enter Tryz.func31,Tryz.ntmps31;go_wp2_with fail;go_loop [4] (fun i=>∃k:Nat,k≤1001∧i=.int .i64 k∧∀j:Nat,j<k→(vrun j zs).isSome=false) (fun i=>1001-(intOf i).toNat)
  case atStart=>exact⟨0,om,rfl,fun j hj=>om⟩
  case round=>
    obtain⟨k,hk,rfl,hno⟩:=hrel;have HNo:=Lib.hid hno;clear hno;by_cases hlt:k≤1000
    · have hro:runOf k zs=vrun k zs:=by unfold runOf;rw[if_neg om]
      cases hv:vrun k zs with
      |none=>
        have HV:=Lib.hid (hro.trans hv);have HNo2:Hid (∀j:Nat,j<k+1→(vrun j zs).isSome=false):=Lib.hid (fun j hj=>by
          by_cases e:j=k
          · rw[e,hv];rfl
          · exact HNo.out j om)
        clear hv hro;go_wp2_with (go_at_call 56;refine(refRun_any _ _ _ _ zs _ H.out hlen).mono ?_;rintro e w' ⟨rfl,rfl⟩;rw[HV.out];unfold pairV);go_round
        case rel=>exact⟨k+1,om,by go_num,HNo2.out⟩
        case measure=>simp[intOf];omega
      |some g=>
        have HV:=Lib.hid (hro.trans hv);have HF:=Lib.hid (need_found zs k hlt HNo.out (by rw[hv];rfl));clear hv hro;go_wp2_with (go_at_call 56;refine(refRun_any _ _ _ _ zs _ H.out hlen).mono ?_;rintro e w' ⟨rfl,rfl⟩;rw[HV.out];unfold pairV);go_ret2;exact⟨by rw[HF.out];rfl,rfl⟩
    · have hk1:k=1001:=om;have HF:=Lib.hid (need_not_found zs (fun j hj=>HNo.out j om));clear hk1;go_wp2_with fail;go_ret2;exact⟨by rw[HF.out];rfl,rfl⟩
end Go.Proofs.YthpbaaadkhdifaaGreatDoor
