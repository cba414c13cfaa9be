/- Part 2 of the proofs: WireP, TrC, Base2, Sym, SymD, SymQ, SymA, SymB, SymC, SymS, SymR, SymW, SymK, TrA, Crd, Iter, SymE, WireI, OptE, Shelf, Build, WireW, OptA, OptB, OptD, OptF. -/
import Derived.Laws.BitsAllLaws
import Derived.OrdersHeld
import Derived.KernelRfl
import Derived.Laws.Strings2
import Derived.Laws.Concat
import Derived.Laws.BytesString
import Derived.Laws.IdiomStrings
import Derived.Test.YthpbaaadkhdifaaGreatDoorRows
import Derived.ProofKit
import Derived.LaidMore
import Derived.OpenShut
import Derived.Stop.Joined
import Derived.Deep.Strs
import Derived.RangeFuncNested
import Derived.RangeFuncBound
import Derived.RangeFuncCalls
import Derived.RangeFuncLeaves
import Derived.Shelf.Abstract
import Derived.Shelf.RegionOpen
import Derived.WalkKit
import Derived.OwnWalkIn
import Derived.TacticsInMore
import Derived.LoopNIn
import Derived.LoopIn
import Derived.Scope
import Derived.Lib.BufferWrite
import Derived.Laws.CopyOwn
import Derived.WalkLawsBesides
import Derived.Handy
import Derived.Shelf.Strings.Builder1
import Derived.Shelf.Strings.Builder2
import Derived.Shelf.Strings.OnBuilder
import Derived.Shelf.Strings.BuilderF
import Derived.Shelf.Strings.BuilderK
import Derived.Test.YthpbaaadkhdifaaGreatDoorProg
import Derived.Lib.Builder
import Derived.RangeFuncBox
import Derived.RangeFuncFrom
import Derived.Test.YthpbaaadkhdifaaGreatDoorZoa
namespace Go.Proofs.YthpbaaadkhdifaaGreatDoor
set_option maxRecDepth 100000
set_option maxHeartbeats 4000000
set_option linter.unusedVariables false
def wmax:Int:=4611686018427387903
def vput:Nat→Nat→List Nat
  |0,_=>[]
  |f+1,z=>if z<128 then[z] else(z%128+128)::vput f (z/128)
def zig (n:Int):Nat:=if n<0 then((-n)*2-1).toNat else(n*2).toNat
def unzig (z:Nat):Int:=if z%2=1 then -((z/2:Nat):Int)-1 else((z/2:Nat):Int)
def encInt (n:Int):List UInt8:=(vput 9 (zig n)).map UInt8.ofNat
def vget:Nat→Nat→Nat→List UInt8→Option (Int×Nat)
  |0,_,_,_=>none
  |_+1,_,_,[]=>none
  |f+1,j,y,b::r=>
    if 128≤b.toNat then vget f (j+1) (y+b.toNat%128*128^j) r
    else if b.toNat=0∧0<j then none
    else if unzig (y+b.toNat%128*128^j)< -wmax then none
    else some (unzig (y+b.toNat%128*128^j),j+1)
def rdInt (l:List UInt8) (k:Nat):Option (Int×Nat):=(vget 9 0 0 (l.drop k)).map fun p=>(p.1,k+p.2)
theorem zig_unzig (n:Int):unzig (zig n)=n:=by
  unfold zig unzig;split<;>split<;>omega
theorem unzig_zig (z:Nat):zig (unzig z)=z:=by
  unfold zig unzig;split<;>split<;>omega
theorem zig_lt (n:Int) (h1:-wmax≤n) (h2:n≤wmax):zig n<9223372036854775808:=by
  unfold wmax at *;unfold zig;split<;>omega
theorem vput_bytes (f z:Nat):∀x∈vput f z,x<256:=by
  induction f generalizing z with
  |zero=>intro x hx;cases hx
  |succ f ih=>
    intro x hx;unfold vput at hx;split at hx
    · simp at hx;omega
    · rw[List.mem_cons] at hx;rcases hx with rfl|hx
      · omega
      · exact ih _ x hx
theorem ofNat_toNat {x:Nat}(h:x<256):(UInt8.ofNat x).toNat=x:=by
  rw[UInt8.toNat_ofNat'];exact Nat.mod_eq_of_lt h
theorem vget_put (f:Nat):∀(j y z:Nat) (r:List UInt8),z<128^f→0<f→(0<j→0<z)→-wmax≤unzig (y+z*128^j) →
    vget f j y ((vput f z).map UInt8.ofNat++r)=some (unzig (y+z*128^j),j+(vput f z).length):=by
  induction f with
  |zero=>intro j y z r hz hf;omega
  |succ f ih=>
    intro j y z r hz _ hj hu;unfold vput;by_cases h:z<128
    · rw[if_pos h];simp only[List.map_cons,List.map_nil,List.cons_append,List.nil_append,vget];rw[ofNat_toNat om,if_neg om,if_neg om,Nat.mod_eq_of_lt h,if_neg om];simp
    · rw[if_neg h];simp only[List.map_cons,List.cons_append,vget];rw[ofNat_toNat om,if_pos om];have hm:(z%128+128)%128=z%128:=om;have hval:y+z%128*128^j+z/128*128^(j+1)=y+z*128^j:=by
        have:z*128^j=(z%128+z/128*128)*128^j:=by congr 1;omega
        rw[this,Nat.add_mul,Nat.pow_succ];have e:z/128*128*128^j=z/128*(128^j*128):=by rw[Nat.mul_assoc,Nat.mul_comm 128 (128^j)]
        omega
      have hf:0<f:=by
        rcases Nat.eq_zero_or_pos f with h0|h0
        · subst h0;simp at hz;omega
        · exact h0
      rw[hm,ih (j+1) _ (z/128) r (by rw[Nat.pow_succ] at hz;omega) hf (fun _=>om) (by rw[hval];exact hu),hval];simp only[List.length_cons];congr 2;omega
theorem rdInt_enc (p r:List UInt8) (n:Int) (h1:-wmax≤n) (h2:n≤wmax):rdInt (p++encInt n++r) p.length=some (n,p.length+(encInt n).length):=by
  unfold rdInt encInt;rw[List.append_assoc,List.drop_left];have hz:=zig_lt n h1 h2;rw[vget_put 9 0 0 (zig n) r om om om (by simp[zig_unzig];exact h1)];simp[zig_unzig]
theorem vget_canon (f:Nat):∀(j y:Nat) (l:List UInt8) (n:Int) (k:Nat),y<128^j→vget f j y l=some (n,k) →
    ∃z,z<128^f∧n=unzig (y+z*128^j)∧-wmax≤n∧k=j+(vput f z).length∧(0<j→0<z)∧(vput f z).map UInt8.ofNat++l.drop (k-j)=l∧k-j≤l.length:=by
  induction f with
  |zero=>intro j y l n k _ h;cases l<;>cases h
  |succ f ih=>
    intro j y l n k hy h;cases l with
    |nil=>cases h
    |cons b r=>
      simp only[vget] at h;have hb:=b.toNat_lt;by_cases h1:128≤b.toNat
      · rw[if_pos h1] at h;obtain⟨z,hz,hn,hw,hk,hp,hl,hkl⟩:=ih (j+1) _ r n k (by
          rw[Nat.pow_succ];have:b.toNat%128*128^j≤127*128^j:=Nat.mul_le_mul_right _ om;omega) h
        have hz0:=hp om;refine⟨b.toNat%128+z*128,by rw[Nat.pow_succ];omega,?_,hw,?_,fun _=>om,?_,by simp;omega⟩
        · rw[hn];congr 1;rw[Nat.add_mul,Nat.pow_succ,Nat.mul_assoc z 128,Nat.mul_comm 128 (128^j)];omega
        · rw[vput,if_neg om,List.length_cons,show(b.toNat%128+z*128)/128=z from om];omega
        · rw[vput,if_neg om,show(b.toNat%128+z*128)/128=z from om,show(b.toNat%128+z*128)%128+128=b.toNat from om];have e:k-j=(k-(j+1))+1:=om;rw[e,List.drop_succ_cons,List.map_cons,List.cons_append,hl];congr 1;exact UInt8.toNat_inj.1 (ofNat_toNat hb)
      · rw[if_neg h1] at h;by_cases h2:b.toNat=0∧0<j
        · rw[if_pos h2] at h;cases h
        · rw[if_neg h2] at h;by_cases h3:unzig (y+b.toNat%128*128^j)< -wmax
          · rw[if_pos h3] at h;cases h
          · rw[if_neg h3] at h;cases h
            rw[Nat.mod_eq_of_lt om] at h3 ⊢;refine⟨b.toNat,by rw[Nat.pow_succ];have:=Nat.one_le_pow f 128 om;omega,rfl,om,?_,fun hj=>om,?_,by simp⟩
            · rw[vput,if_pos om];rfl
            · rw[vput,if_pos om,show j+1-j=1 from om];simp only[List.map_cons,List.map_nil,List.cons_append,List.nil_append,List.drop_succ_cons,List.drop_zero];congr 1;exact UInt8.toNat_inj.1 (ofNat_toNat hb)
theorem unzig_le (z:Nat) (h:z<9223372036854775808):unzig z≤wmax:=by
  unfold wmax unzig;split<;>omega
theorem rdInt_canon {l:List UInt8}{k e:Nat}{n:Int}(hk:k≤l.length) (h:rdInt l k=some (n,e)):
    -wmax≤n∧n≤wmax∧e=k+(encInt n).length∧e≤l.length∧l.drop k=encInt n++l.drop e:=by
  unfold rdInt at h;cases hv:vget 9 0 0 (l.drop k) with
  |none=>rw[hv] at h;cases h
  |some p=>
    obtain⟨n',c⟩:=p;rw[hv] at h;simp only[Option.map_some,Option.some.injEq,Prod.mk.injEq] at h;obtain⟨rfl,rfl⟩:=h;obtain⟨z,hz,hn,hw,hk',_,hl,hkl⟩:=vget_canon 9 0 0 _ _ _ (by decide) hv;simp only[Nat.pow_zero,Nat.mul_one,Nat.zero_add,Nat.sub_zero] at hn hk' hl hkl;have hz2:z<9223372036854775808:=om;have he:encInt n'=(vput 9 z).map UInt8.ofNat:=by unfold encInt;rw[hn,unzig_zig]
    refine⟨hw,by rw[hn];exact unzig_le z hz2,by rw[he,List.length_map,hk'],by rw[List.length_drop] at hkl;omega,?_⟩;rw[List.drop_drop] at hl;rw[he,hl]
theorem vput_len (f z:Nat) (hf:0<f):1≤(vput f z).length∧(vput f z).length≤f:=by
  induction f generalizing z with
  |zero=>omega
  |succ f ih=>
    unfold vput;split
    · simp
    · simp only[List.length_cons];rcases Nat.eq_zero_or_pos f with h0|h0
      · subst h0;simp[vput]
      · have:=ih (z/128) h0;omega
theorem encInt_len (n:Int):1≤(encInt n).length∧(encInt n).length≤9:=by
  unfold encInt;rw[List.length_map];exact vput_len 9 _ om
set_option linter.unusedSimpArgs false
def crcBit (r:Nat):Nat:=if r%2=1 then(r/2) ^^^ 2197175160 else r/2
def crcBits:Nat→Nat→Nat
  |0,r=>r
  |k+1,r=>crcBits k (crcBit r)
def crcTab:List Nat:=[0,274646895,549293790,820201905,1098587580,1361435347,1640403810,1905808397,2197175160,2460548119,2722870694,2987750089,3280807620,3553878443,3811616794,4084100981]
def crcNib (r:Nat):Nat:=(r/16) ^^^ crcTab.getD (r%16) 0
def crcByte (r:Nat) (b:UInt8):Nat:=crcBits 8 (r ^^^ b.toNat)
def crcRun (r:Nat) (l:List UInt8):Nat:=l.foldl crcByte r
def sumP (l:List UInt8):Nat:=4294967295 ^^^ crcRun 4294967295 l
theorem crcBit_xor (a b:Nat):crcBit (a ^^^ b)=crcBit a ^^^ crcBit b:=by
  unfold crcBit;have h2:(a ^^^ b)/2=a/2 ^^^ b/2:=Nat.xor_div_two;have h1:(a ^^^ b)%2=(a%2) ^^^ (b%2):=Nat.xor_mod_two_pow (a:=a) (b:=b) (n:=1);rw[h2];rcases Nat.mod_two_eq_zero_or_one a with ha|ha<;>rcases Nat.mod_two_eq_zero_or_one b with hb|hb<;>simp only[h1,ha,hb]<;>simp
  · rw[Nat.xor_assoc]
  · rw[Nat.xor_assoc,Nat.xor_assoc,Nat.xor_comm (b/2)]
  · rw[Nat.xor_assoc,←Nat.xor_assoc 2197175160,Nat.xor_comm 2197175160,Nat.xor_assoc,Nat.xor_self,Nat.xor_zero]
theorem crcBits_xor:∀(k a b:Nat),crcBits k (a ^^^ b)=crcBits k a ^^^ crcBits k b
  |0,_,_=>rfl
  |k+1,a,b=>by simp only[crcBits];rw[crcBit_xor,crcBits_xor]
theorem crcBits_add:∀(j k r:Nat),crcBits (j+k) r=crcBits k (crcBits j r)
  |0,k,r=>by rw[Nat.zero_add];rfl
  |j+1,k,r=>by rw[Nat.succ_add];simp only[crcBits];exact crcBits_add j k _
theorem crcBit_even (q:Nat):crcBit (2*q)=q:=by
  unfold crcBit;rw[if_neg om];omega
theorem split16 (r:Nat):r=(16*(r/16)) ^^^ (r%16):=by
  apply Nat.eq_of_testBit_eq;intro i;rw[Nat.testBit_xor,show 16=2^4 from rfl,Nat.testBit_two_pow_mul,Nat.testBit_mod_two_pow,Nat.testBit_div_two_pow];by_cases h:4≤i
  · simp[h,Nat.not_lt.2 h,Nat.sub_add_cancel h]
  · have h':i<4:=om;simp[h,h']
theorem crcNib_eq (r:Nat):crcNib r=crcBits 4 r:=by
  have e:crcBits 4 r=crcBits 4 ((16*(r/16)) ^^^ (r%16)):=congrArg _ (split16 r);rw[e,crcBits_xor];have e1:crcBits 4 (16*(r/16))=r/16:=by
    simp only[crcBits];rw[show 16*(r/16)=2*(8*(r/16)) from om,crcBit_even,show 8*(r/16)=2*(4*(r/16)) from om,crcBit_even,show 4*(r/16)=2*(2*(r/16)) from om,crcBit_even,crcBit_even]
  have e2:∀m,m<16→crcBits 4 m=crcTab.getD m 0:=by decide
  rw[e1,e2 _ (Nat.mod_lt _ om)];rfl
theorem crcByte_nib (r:Nat) (b:UInt8):crcByte r b=crcNib (crcNib (r ^^^ b.toNat)):=by
  rw[crcNib_eq,crcNib_eq];exact crcBits_add 4 4 _
theorem crcBit_lt {r:Nat}(h:r<4294967296):crcBit r<4294967296:=by
  unfold crcBit;split
  · exact Nat.xor_lt_two_pow (n:=32) om om
  · omega
theorem crcBits_lt:∀{k r:Nat},r<4294967296→crcBits k r<4294967296
  |0,_,h=>h
  |k+1,_,h=>crcBits_lt (k:=k) (crcBit_lt h)
theorem byte_lt (b:UInt8):b.toNat<256:=b.toNat_lt
theorem crcByte_lt {r:Nat}(b:UInt8) (h:r<4294967296):crcByte r b<4294967296:=
  crcBits_lt (Nat.xor_lt_two_pow (n:=32) om (by have:=byte_lt b;omega))
theorem crcNib_lt {r:Nat}(h:r<4294967296):crcNib r<4294967296:=by rw[crcNib_eq];exact crcBits_lt h
theorem crcRun_lt:∀{l:List UInt8}{r:Nat},r<4294967296→crcRun r l<4294967296
  | [],_,h=>h
  |b::l,_,h=>crcRun_lt (l:=l) (crcByte_lt b h)
theorem sumP_lt (l:List UInt8):sumP l<4294967296:=Nat.xor_lt_two_pow (n:=32) om (crcRun_lt om)
theorem crcRun_snoc (r:Nat) (l:List UInt8) (b:UInt8):crcRun r (l++[b])=crcByte (crcRun r l) b:=by simp[crcRun]
open Go.ChangeShapes Go.WideShapes Go.ChangeAt Go.RowKit
theorem own_below {w w':World}{base:Nat}{t:TypeId}{size n:Nat}{v:Value}{xs:List Value}(h:w.ownsRow base t size v n xs) (hb:Below w.heap.size w w'):w'.ownsRow base t size v n xs:=by
  obtain⟨h1,h2⟩:=h;refine⟨h1,?_⟩;rcases h2 with h2|⟨g,cap,cur,hv,hg,hh,r⟩
  · exact .inl h2
  · refine .inr ⟨g,cap,cur,hv,hg,?_,r⟩;rw[hb.block g (Array.getElem?_eq_some_iff.1 hh).1];exact hh
abbrev pairs (al:List (Int×Int)):List Value:=al.flatMap fun a=>[.int .i64 a.1,.int .i64 a.2]
theorem pairs_get (al:List (Int×Int)) (i:Nat) (h:i<al.length):(pairs al)[i*2]? =some (.int .i64 al[i].1)∧(pairs al)[i*2+1]? =some (.int .i64 al[i].2):=by
  induction al generalizing i with
  |nil=>simp at h
  |cons a al ih=>
    cases i with
    |zero=>exact⟨rfl,rfl⟩
    |succ i=>
      have:=ih i (by simpa using h);rw[show (i+1)*2=i*2+1+1 from om];exact this
def IsAlts (w:World) (A:Option Addr) (n:Nat) (al:List (Int×Int)):Prop:=al.length=n∧Rd w 2 A n (pairs al)
theorem IsAlts.below {w w':World}{A:Option Addr}{n:Nat}{al:List (Int×Int)}(h:IsAlts w A n al) (hb:Below w.heap.size w w'):IsAlts w' A n al:=⟨h.1,h.2.below hb⟩
theorem IsAlts.nil (w:World) (A:Option Addr):IsAlts w A 0 []:=⟨rfl,Rd.nil _ _ _⟩
theorem IsAlts.at_ {w:World}{A:Option Addr}{n:Nat}{al:List (Int×Int)}(h:IsAlts w A n al) {i:Nat}(hi:i<n):
    ∃b off,A=some ⟨b,off,none⟩∧b<w.heap.size∧w.cell? ⟨b,off+i*2,none⟩=some (.int .i64 (al.getD i (0,0)).1)∧w.cell? ⟨b,off+i*2+1,none⟩=some (.int .i64 (al.getD i (0,0)).2):=by
  obtain⟨h1,h2,h3⟩:=h;obtain⟨b,off,rfl,hb,hc⟩:=h3.resolve_left om;have hg:=pairs_get al i om;have e:al.getD i (0,0)=al[i]'om:=by simp[List.getD,List.getElem?_eq_getElem (show i<al.length from om)]
  rw[e];exact⟨b,off,rfl,hb,(hc (i*2) om).trans hg.1,by rw[Nat.add_assoc];exact(hc (i*2+1) om).trans hg.2⟩
def Box (w:World) (b:Nat) (t:TypeId) (vs:Array Value):Prop:=w.heap[b]? =some (.cells vs t)
theorem Box.new (w:World) (t:TypeId) (vs:Array Value):Box (w.alloc (.cells vs t)) w.heap.size t vs:=heap_alloc_new w _
theorem Box.lt {w:World}{b:Nat}{t:TypeId}{vs:Array Value}(h:Box w b t vs):b<w.heap.size:=(Array.getElem?_eq_some_iff.1 h).1
theorem Box.below {w w':World}{k b:Nat}{t:TypeId}{vs:Array Value}(h:Box w b t vs) (hb:Below k w w') (hk:b<k):Box w' b t vs:=(hb.block b hk).trans h
theorem Box.next {w w':World}{b:Nat}{t:TypeId}{vs:Array Value}(h:Box w b t vs) (hb:Below w.heap.size w w'):Box w' b t vs:=h.below hb h.lt
theorem Box.grown {w w':World}{b:Nat}{t:TypeId}{vs:Array Value}{row:Option Nat}(h:Box w b t vs) (hg:w.grownBy w' row) (hne:row≠some b):Box w' b t vs:=(hg.block b h.lt (fun e=>hne e.symm)).trans h
theorem Box.cell {w:World}{b:Nat}{t:TypeId}{vs:Array Value}(h:Box w b t vs) {i:Nat}{v:Value}(hv:vs[i]? =some v):w.cell? ⟨b,i,none⟩=some v:=by
  unfold Box at h;unfold World.cell?;simp[h,hv]
theorem Box.set {w:World}{b i:Nat}{t:TypeId}{vs:Array Value}(h:Box w b t vs) (v:Value):Box (w.setCell ⟨b,i,none⟩ v) b t (vs.setIfInBounds i v):=by
  unfold Box at *;simp only[World.setCell,Array.getElem?_modify,if_true,h,Option.map_some];simp
theorem Box.set_ne {w:World}{b b' i:Nat}{t:TypeId}{vs:Array Value}(h:Box w b t vs) (v:Value) (hne:b≠b'):Box (w.setCell ⟨b',i,none⟩ v) b t vs:=
  (Below.heap_setCell w ⟨b',i,none⟩ v b hne).trans h
theorem Box.frozen {w:World}{b:Nat}{t:TypeId}{vs:Array Value}(h:Box w b t vs) (i:Nat):w.frozen? ⟨b,i,none⟩=false:=by
  unfold Box at h;simp[World.frozen?,h]
def look (k:Nat):List (Nat×Value)→Option Value
  | []=>none
  |p::L=>bif Nat.beq p.1 k then some p.2 else look k L
def ev (L:List (Nat×Value)):Operand→Value
  | .tmp t=>(look t L).getD undef
  | .const v=>v
  | .global g=>.pointer (some ⟨g,0,none⟩)
  | .func f=>.func (.func f) #[] #[]
def knows (L:List (Nat×Value)):Operand→Bool
  | .tmp t=>(look t L).isSome
  |_=>true
def knowsAll (L:List (Nat×Value)):List Operand→Bool
  | []=>true
  |x::xs=>knows L x&&knowsAll L xs
def notSelect:Op→Bool
  | .select _ _=>false
  |_=>true
structure Sl (n:Nat) (L:List (Nat×Value)) (a:Act):Prop where
  defers:a.defers=[]
  size:a.tmps.size=n
  get:∀k v,look k L=some v→a.tmps.getD k undef=v
theorem look_cons (d k:Nat) (v:Value) (L:List (Nat×Value)):look k ((d,v)::L)=if d=k then some v else look k L:=by
  simp only[look];by_cases h:d=k
  · subst h;simp
  · have:Nat.beq d k=false:=by
      cases hb:Nat.beq d k with
      |false=>rfl
      |true=>exact absurd (Nat.eq_of_beq_eq_true hb) h
    simp[this,h]
theorem Sl.put {n d:Nat}{L:List (Nat×Value)}{a:Act}(H:Sl n L a) (v:Value) (hd:Nat.blt d n=true):Sl n ((d,v)::L) (a.put (some d) v):=by
  have hd':d<n:=by simp[Nat.blt] at hd;omega
  refine⟨H.defers,by simp[Act.put,H.size],fun k u hk=>?_⟩;rw[look_cons] at hk;by_cases h:d=k
  · subst h;simp only[if_true,Option.some.injEq] at hk;subst hk;simp[Act.put,H.size,hd']
  · rw[if_neg h] at hk;have:=H.get k u hk;simp only[Act.put];rw[Array.getD_eq_getD_getElem?] at this ⊢;rw[Array.getElem?_setIfInBounds_ne h];exact this
theorem Sl.eval {n:Nat}{L:List (Nat×Value)}{a:Act}(H:Sl n L a) {x:Operand}(h:knows L x=true):a.eval x=ev L x:=by
  cases x with
  |tmp t=>
    simp only[knows] at h;cases hl:look t L with
    |none=>rw[hl] at h;cases h
    |some v=>simp only[Act.eval,ev,hl,Option.getD_some];exact H.get t v hl
  |_=>rfl
theorem knowsAll_spec {L:List (Nat×Value)}:∀{xs:List Operand},knowsAll L xs=true→∀x∈xs,knows L x=true
  | [],_,x,hx=>by cases hx
  |y::ys,h,x,hx=>by
    simp only[knowsAll,Bool.and_eq_true] at h
    rcases List.mem_cons.1 hx with rfl|hx
    · exact h.1
    · exact knowsAll_spec h.2 x hx
theorem Sl.exec {n:Nat}{L:List (Nat×Value)}{a:Act}(H:Sl n L a) {o:Oper}(hk:knowsAll L o.op.operands.toList=true) (hs:notSelect o.op=true):execOp a.eval o=execOp (ev L) o:=
  execOp_congr o (fun cs b e=>by rw[e] at hs;cases hs) fun x hx=>H.eval (knowsAll_spec hk x (by simpa using hx))
def keeps (L L':List (Nat×Value)):Prop:=(L'.map fun p=>look p.1 L)=L'.map fun p=>some p.2
theorem keeps_spec {L:List (Nat×Value)}:∀{L':List (Nat×Value)},keeps L L'→∀k v,look k L'=some v→look k L=some v
  | [],_,k,v,h=>by cases h
  |(d,u)::L',hk,k,v,h=>by
    simp only[keeps,List.map_cons,List.cons.injEq] at hk
    rw[look_cons] at h
    by_cases e:d=k
    · subst e;rw[if_pos rfl] at h;cases h;exact hk.1
    · rw[if_neg e] at h;exact keeps_spec (L':=L') hk.2 k v h
theorem Sl.keep {n:Nat}{L L':List (Nat×Value)}{a:Act}(H:Sl n L a) (h:(L'.map fun p=>look p.1 L)=L'.map fun p=>some p.2):Sl n L' a:=⟨H.defers,H.size,fun k v hk=>H.get k v (keeps_spec h k v hk)⟩
theorem Sl.enter (args:List Value) (n:Nat) (L:List (Nat×Value)) (hn:Nat.ble args.length n=true) (h:keeps (args.zipIdx.map fun p=>(p.2,p.1)) L):Sl n L ⟨args.toArray++Array.replicate (n-args.toArray.size) undef,[]⟩:=by
  have hn':args.length≤n:=by simpa [Nat.ble_eq] using hn
  refine⟨rfl,by simp;omega,fun k v hk=>?_⟩;have h1:=keeps_spec h k v hk;have aux:∀(l:List Value) (i:Nat),look k ((l.zipIdx i).map fun p=>(p.2,p.1))=some v→i≤k∧l[k-i]? =some v:=by
    intro l;induction l with
    |nil=>intro i hh;cases hh
    |cons x l ih=>
      intro i hh;simp only[List.zipIdx_cons,List.map_cons] at hh;rw[look_cons] at hh;by_cases e:i=k
      · subst e;rw[if_pos rfl] at hh;cases hh;simp
      · rw[if_neg e] at hh;have:=ih (i+1) hh;refine⟨om,?_⟩;rw[show k-i=(k-(i+1))+1 from om];simpa using this.2
  have h2:=aux args 0 (by simpa using h1);simp only[Nat.sub_zero] at h2;have hlt:=(List.getElem?_eq_some_iff.1 h2.2).1;rw[Array.getD_eq_getD_getElem?,Array.getElem?_append_left (by simpa using hlt)];simp[h2.2]
def wantedL (ops:Array Oper) (L:List (Nat×Value)) (o:Oper):Option Bool:=
  match o.guard with
  |none=>some true
  |some (j,want)=>match (ops[j]?).bind (·.dst) with
    |none=>none
    |some d=>match look d L with
      |none=>none
      |some (.bool b)=>some (b == want)
      |some _=>some false
theorem Sl.wanted {n:Nat}{L:List (Nat×Value)}{a:Act}(H:Sl n L a) {ops:Array Oper}{o:Oper}{b:Bool}(h:wantedL ops L o=some b):Region.wanted o (yielded ops a.tmps)=b:=by
  unfold wantedL at h;unfold Region.wanted;cases hg:o.guard with
  |none=>rw[hg] at h;simpa using h
  |some jw=>
    obtain⟨j,want⟩:=jw;rw[hg] at h;simp only at h ⊢;unfold yielded;cases hd:(ops[j]?).bind (·.dst) with
    |none=>rw[hd] at h;cases h
    |some d=>
      rw[hd] at h;simp only at h;cases hl:look d L with
      |none=>rw[hl] at h;cases h
      |some v=>
        rw[hl] at h;have hv:=H.get d v hl;have hv':a.tmps[d]? =some v∨(a.tmps[d]? =none∧v=undef):=by
          rw[Array.getD_eq_getD_getElem?] at hv;cases hh:a.tmps[d]? with
          |none=>rw[hh] at hv;exact .inr ⟨rfl,hv.symm⟩
          |some u=>rw[hh] at hv;exact .inl (by simpa using hv)
        cases v with
        |bool c=>
          rcases hv' with hv'|⟨_,hv'⟩
          · simp[hv'] at h ⊢;exact h
          · cases hv'
        |_=>
          simp only[Option.some.injEq] at h;subst h;rcases hv' with hv'|⟨hv',_⟩<;>simp[hv']
structure HB where
  fp:Nat→Prop
  F:World→Prop
  fresh:Bool
  data:Option (Nat×List Value)
  is:∀b vs,data=some (b,vs)→∀w,F w→∃t,Box w b t vs.toArray
abbrev HB.of (fp:Nat→Prop) (F:World→Prop) (fresh:Bool):HB:=⟨fp,F,fresh,none,fun _ _ h=>by cases h⟩
def HB.ok (x:HB):Prop:=∀w1 w2,x.F w1→(∀k,x.fp k→w2.heap[k]? =w1.heap[k]?)→w1.heap.size≤w2.heap.size→x.F w2
def bx (b:Nat) (t:TypeId) (vs:List Value) (f:Bool):HB:=⟨fun k=>k=b,fun w=>Box w b t vs.toArray,f,some (b,vs),fun b' vs' h w hF=>by cases h;exact⟨t,hF⟩⟩
theorem bx_ok (b:Nat) (t:TypeId) (vs:List Value) (f:Bool):(bx b t vs f).ok:=fun _ _ h hk _=>(hk b rfl).trans h
structure FK where
  fp:Nat→Prop
  F:World→Prop
def FK.ok (p:FK):Prop:=∀w1 w2,p.F w1→(∀k,p.fp k→w2.heap[k]? =w1.heap[k]?)→w1.heap.size≤w2.heap.size→p.F w2
structure Hp (w0 w:World) (L:List HB) (K:List FK):Prop where
  os:w.os=w0.os
  tape:w.tape=w0.tape
  output:w.output=w0.output
  size:w0.heap.size≤w.heap.size
  old:∀k,k<w0.heap.size→(∀x∈L,¬x.fp k)→w.heap[k]? =w0.heap[k]?
  res:∀x∈L,x.F w∧x.ok∧∀k,x.fp k→k<w.heap.size
  apart:L.Pairwise fun x y=>∀k,x.fp k→¬y.fp k
  fresh:∀x∈L,x.fresh=true→∀k,x.fp k→w0.heap.size≤k
  kept:∀p∈K,p.F w∧p.ok∧∀k,p.fp k→k<w.heap.size∧∀x∈L,¬x.fp k
theorem Hp.start (w:World):Hp w w [] []:=⟨rfl,rfl,rfl,Nat.le_refl _,fun _ _ _=>rfl,(fun _ h=>by cases h),.nil,(fun _ h=>by cases h),(fun _ h=>by cases h)⟩
theorem Hp.next {w0 w w':World}{L:List HB}{K:List FK}(H:Hp w0 w L K) (hb:Below w.heap.size w w'):Hp w0 w' L K:=
  ⟨hb.os.trans H.os,hb.tape.trans H.tape,hb.output.trans H.output,Nat.le_trans H.size hb.size,
    fun k hk hn=>(hb.block k (Nat.lt_of_lt_of_le hk H.size)).trans (H.old k hk hn),
    fun x hx=>let ⟨h1,h2,h3⟩:=H.res x hx;⟨h2 _ _ h1 (fun k hk=>hb.block k (h3 k hk)) hb.size,h2,fun k hk=>Nat.lt_of_lt_of_le (h3 k hk) hb.size⟩,H.apart,H.fresh,
    fun p hp=>let ⟨h1,h2,h3⟩:=H.kept p hp;⟨h2 _ _ h1 (fun k hk=>hb.block k (h3 k hk).1) hb.size,h2,fun k hk=>⟨Nat.lt_of_lt_of_le (h3 k hk).1 hb.size,(h3 k hk).2⟩⟩⟩
theorem Hp.add {w0 w:World}{L:List HB}{K:List FK}(H:Hp w0 w L K) (x:HB) (hF:x.F w) (hok:x.ok) (hlt:∀k,x.fp k→k<w.heap.size) (hs:∀k,x.fp k→(∀y∈L,¬y.fp k)∧∀p∈K,¬p.fp k) (hf:x.fresh=true→∀k,x.fp k→w0.heap.size≤k):Hp w0 w (x::L) K:=by
  refine⟨H.os,H.tape,H.output,H.size,fun k hk hn=>H.old k hk fun y hy=>hn y (List.mem_cons_of_mem _ hy),fun y hy=>?_,.cons (fun y hy k hk=>(hs k hk).1 y hy) H.apart,fun y hy hfy=>?_,fun p hp=>?_⟩
  · rcases List.mem_cons.1 hy with rfl|hy
    · exact⟨hF,hok,hlt⟩
    · exact H.res y hy
  · rcases List.mem_cons.1 hy with rfl|hy
    · exact hf hfy
    · exact H.fresh y hy hfy
  · obtain⟨k1,k2,k3⟩:=H.kept p hp;refine⟨k1,k2,fun k hk=>⟨(k3 k hk).1,fun y hy=>?_⟩⟩;rcases List.mem_cons.1 hy with rfl|hy
    · exact fun hx=>(hs k hx).2 p hp hk
    · exact(k3 k hk).2 y hy
theorem Hp.apart_new {w0 w:World}{L:List HB}{K:List FK}(H:Hp w0 w L K) {k:Nat}(hk:w.heap.size≤k):(∀y∈L,¬y.fp k)∧∀p∈K,¬p.fp k:=
  ⟨fun y hy h=>by have:=(H.res y hy).2.2 k h;omega,fun p hp h=>by have:=((H.kept p hp).2.2 k h).1;omega⟩
theorem Hp.gain {w0 w w':World}{L:List HB}{K:List FK}(H:Hp w0 w L K) (hb:Below w.heap.size w w') (x:HB) (hF:x.F w') (hok:x.ok) (hlt:∀k,x.fp k→k<w'.heap.size) (hn:∀k,x.fp k→w.heap.size≤k):Hp w0 w' (x::L) K:=
  (H.next hb).add x hF hok hlt (fun k hk=>H.apart_new (hn k hk)) fun _ k hk=>Nat.le_trans H.size (hn k hk)
theorem Hp.own {w:World}{b:Nat}{t:TypeId}{vs:List Value}(h:Box w b t vs.toArray):Hp w w [bx b t vs false] []:=
  (Hp.start w).add (bx b t vs false) h (bx_ok _ _ _ _) (fun k hk=>by cases hk;exact h.lt) (fun _ _=>⟨(fun _ h=>by cases h),(fun _ h=>by cases h)⟩) fun h=>by cases h
theorem Hp.alloc {w0 w:World}{L:List HB}{K:List FK}(H:Hp w0 w L K) (t:TypeId) (vs:List Value):Hp w0 (w.alloc (.cells vs.toArray t)) (bx w.heap.size t vs true::L) K:=
  H.gain (balloc w (.cells vs.toArray t)) (bx w.heap.size t vs true) (Box.new w t vs.toArray) (bx_ok _ _ _ _) (fun k hk=>by cases hk;simp) (fun k hk=>by cases hk;exact Nat.le_refl _)
theorem Hp.below {w0 w:World}{L:List HB}{K:List FK}(H:Hp w0 w L K) (hf:(L.all fun x=>x.fresh)=true):Below w0.heap.size w0 w:=
  ⟨H.os,H.tape,H.output,H.size,fun k hk=>H.old k hk fun x hx h=>by have:=H.fresh x hx (List.all_eq_true.1 hf x hx) k h;omega⟩
theorem Hp.at_ {w0 w:World}{L:List HB}{K:List FK}(H:Hp w0 w L K) (i:Nat) {b:Nat}{t:TypeId}{vs:List Value}{f:Bool}(hi:L[i]? =some (bx b t vs f)):Box w b t vs.toArray:=(H.res _ (List.mem_of_getElem? hi)).1
theorem Hp.cell {w0 w:World}{L:List HB}{K:List FK}(H:Hp w0 w L K) (i:Nat) {b:Nat}{t:TypeId}{vs:List Value}{f:Bool}(hi:L[i]? =some (bx b t vs f)) (j:Nat) {v:Value}(hv:vs[j]? =some v):w.cell? ⟨b,j,none⟩=some v:=
  (H.at_ i hi).cell (by simpa using hv)
theorem pairwise_set {α:Type}{R:α→α→Prop}:∀{L:List α}{i:Nat}{x y:α},L.Pairwise R→L[i]? =some x→(∀z∈L,R z x→R z y)→(∀z∈L,R x z→R y z)→(L.set i y).Pairwise R
  | [],_,_,_,_,h,_,_=>by cases h
  |a::L,0,x,y,hp,h,h1,h2=>by
    simp only[List.getElem?_cons_zero,Option.some.injEq] at h
    subst h
    cases hp with
    |cons p q=>exact .cons (fun z hz=>h2 z (List.mem_cons_of_mem _ hz) (p z hz)) q
  |a::L,i+1,x,y,hp,h,h1,h2=>by
    simp only[List.getElem?_cons_succ] at h
    cases hp with
    |cons p q=>
      refine .cons (fun z hz=>?_) (pairwise_set q h (fun z hz=>h1 z (List.mem_cons_of_mem _ hz)) (fun z hz=>h2 z (List.mem_cons_of_mem _ hz)))
      rcases List.mem_or_eq_of_mem_set hz with hz|rfl
      · exact p z hz
      · exact h1 a (List.mem_cons_self ..) (p x (List.mem_of_getElem? h))
theorem pairwise_at {L:List HB}(h:L.Pairwise fun x y=>∀k,x.fp k→¬y.fp k) {i j:Nat}{x y:HB}(hi:L[i]? =some x) (hj:L[j]? =some y) (hne:i≠j):∀k,x.fp k→¬y.fp k:=by
  induction h generalizing i j with
  |nil=>cases hi
  | @cons a L p q ih=>
    cases i with
    |zero=>
      cases j with
      |zero=>exact absurd rfl hne
      |succ j=>simp only[List.getElem?_cons_zero,Option.some.injEq] at hi;subst hi;exact p y (List.mem_of_getElem? hj)
    |succ i=>
      cases j with
      |zero=>simp only[List.getElem?_cons_zero,Option.some.injEq] at hj;subst hj;exact fun k hk hk'=>p x (List.mem_of_getElem? hi) k hk' hk
      |succ j=>exact ih hi hj (fun e=>hne (by rw[e]))
structure Agree (w w':World) (fp:Nat→Prop):Prop where
  os:w'.os=w.os
  tape:w'.tape=w.tape
  output:w'.output=w.output
  size:w.heap.size≤w'.heap.size
  block:∀k,k<w.heap.size→¬fp k→w'.heap[k]? =w.heap[k]?
theorem Agree.of_below {w w':World}{fp:Nat→Prop}(h:Below w.heap.size w w'):Agree w w' fp:=⟨h.os,h.tape,h.output,h.size,fun k hk _=>h.block k hk⟩
theorem Agree.of_grown {w w':World}{row:Option Nat}{fp:Nat→Prop}(h:w.grownBy w' row) (hr:∀k,row=some k→fp k):Agree w w' fp:=⟨h.os,h.tape,h.output,h.size,fun k hk hn=>h.block k hk fun e=>hn (hr k e.symm)⟩
theorem mem_set {L:List HB}(h:L.Pairwise fun x y=>∀k,x.fp k→¬y.fp k) {i:Nat}{x x':HB}(hi:L[i]? =some x):∀y∈L.set i x',y=x'∨(y∈L∧∀k,x.fp k→¬y.fp k):=by
  intro y hy;obtain⟨k,hk⟩:=List.mem_iff_getElem?.1 hy;by_cases e:i=k
  · subst e;rw[List.getElem?_set] at hk;simp[(List.getElem?_eq_some_iff.1 hi).1] at hk;exact .inl hk.symm
  · rw[List.getElem?_set_ne e] at hk;exact .inr ⟨List.mem_of_getElem? hk,pairwise_at h hi hk e⟩
theorem Hp.mut {w0 w w':World}{L:List HB}{K:List FK}(H:Hp w0 w L K) (i:Nat) {x:HB}(hi:L[i]? =some x) (x':HB) (L':List HB) (hL:L.set i x'=L') (hag:Agree w w' x.fp) (hF:x'.F w') (hok:x'.ok) (hlt:∀k,x'.fp k→k<w'.heap.size) (hfp:∀k,x'.fp k→x.fp k∨w.heap.size≤k)
    (hall:∀k,k<w0.heap.size→x.fp k→x'.fp k) (hfr:x'.fresh=x.fresh):Hp w0 w' L' K:=by
  subst hL;have hm:=mem_set H.apart (x':=x') hi;have hxm:=List.mem_of_getElem? hi;have hil:=(List.getElem?_eq_some_iff.1 hi).1;have hx'm:x'∈L.set i x':=List.mem_iff_getElem?.2 ⟨i,by rw[List.getElem?_set];simp[hil]⟩;have hback:∀y∈L,y=x∨y∈L.set i x':=by
    intro y hy;obtain⟨k,hk⟩:=List.mem_iff_getElem?.1 hy;by_cases e:i=k
    · subst e;rw[hi] at hk;cases hk;exact .inl rfl
    · exact .inr (List.mem_iff_getElem?.2 ⟨k,by rw[List.getElem?_set_ne e];exact hk⟩)
  have hnot:∀y∈L,∀k,x'.fp k→y.fp k→x.fp k:=fun y hy k hk hy'=>(hfp k hk).resolve_right fun h=>by have:=(H.res y hy).2.2 k hy';omega
  refine⟨hag.os.trans H.os,hag.tape.trans H.tape,hag.output.trans H.output,Nat.le_trans H.size hag.size,fun k hk hn=>?_,fun y hy=>?_,?_,fun y hy hfy k hk=>?_,fun p hp=>?_⟩
  · have hx:¬x.fp k:=fun h=>hn x' hx'm (hall k hk h);rw[hag.block k (Nat.lt_of_lt_of_le hk H.size) hx];refine H.old k hk fun y hy=>?_;rcases hback y hy with rfl|hy
    · exact hx
    · exact hn y hy
  · rcases hm y hy with rfl|⟨hy,hne⟩
    · exact⟨hF,hok,hlt⟩
    · obtain⟨h1,h2,h3⟩:=H.res y hy;exact⟨h2 _ _ h1 (fun k hk=>hag.block k (h3 k hk) fun hx=>hne k hx hk) hag.size,h2,fun k hk=>Nat.lt_of_lt_of_le (h3 k hk) hag.size⟩
  · exact pairwise_set H.apart hi (fun z hz h k hk hk'=>h k hk (hnot z hz k hk' hk)) (fun z hz h k hk hk'=>h k (hnot z hz k hk hk') hk')
  · rcases hm y hy with rfl|⟨hy,_⟩
    · rcases hfp k hk with h|h
      · exact H.fresh x hxm (hfr ▸ hfy) k h
      · exact Nat.le_trans H.size h
    · exact H.fresh y hy hfy k hk
  · obtain⟨k1,k2,k3⟩:=H.kept p hp;refine⟨k2 _ _ k1 (fun k hk=>hag.block k (k3 k hk).1 ((k3 k hk).2 x hxm)) hag.size,k2,fun k hk=>⟨Nat.lt_of_lt_of_le (k3 k hk).1 hag.size,fun y hy hy'=>?_⟩⟩;rcases hm y hy with rfl|⟨hy,_⟩
    · rcases hfp k hy' with h|h
      · exact(k3 k hk).2 x hxm h
      · have:=(k3 k hk).1;omega
    · exact(k3 k hk).2 y hy hy'
theorem Hp.set {w0 w:World}{L:List HB}{K:List FK}(H:Hp w0 w L K) (i:Nat) {b:Nat}{t:TypeId}{vs:List Value}{f:Bool}(hi:L[i]? =some (bx b t vs f)) (j:Nat) (v:Value):
    Hp w0 (w.setCell ⟨b,j,none⟩ v) (L.set i (bx b t (vs.set j v) f)) K:=
  H.mut i hi (bx b t (vs.set j v) f) _ rfl ⟨rfl,rfl,rfl,by simp[World.setCell],fun k _ hk=>Below.heap_setCell _ _ _ _ hk⟩ (by
      have:=(H.at_ i hi).set (i:=j) v
      simpa [bx] using this) (bx_ok _ _ _ _) (fun k hk=>by cases hk;simpa [World.setCell] using (H.at_ i hi).lt) (fun k hk=>.inl hk) (fun k _ hk=>hk) rfl
theorem Hp.changed {w0 w w':World}{L:List HB}{K:List FK}(H:Hp w0 w L K) (i:Nat) {b:Nat}{t:TypeId}{vs:List Value}{f:Bool}(hi:L[i]? =some (bx b t vs f)) (vs':List Value) (L':List HB) (hL:L.set i (bx b t vs' f)=L') (hg:w.grownBy w' (some b)) (hbx:Box w' b t vs'.toArray):Hp w0 w' L' K:=
  H.mut i hi (bx b t vs' f) _ hL (Agree.of_grown hg fun k e=>(Option.some.inj e).symm) hbx (bx_ok _ _ _ _) (fun k hk=>by cases hk;exact hbx.lt) (fun k hk=>.inl hk) (fun k _ hk=>hk) rfl
theorem Hp.only {w0 w:World}{L:List HB}{K:List FK}(H:Hp w0 w L K) (b:Nat) (hf:∀x∈L,x.fresh=true∨∀k,x.fp k→k=b):w0.grownBy w (some b):=
  ⟨H.os,H.tape,H.output,H.size,fun k hk hne=>H.old k hk fun x hx e=>by
    rcases hf x hx with h|h
    · have:=H.fresh x hx h k e;omega
    · exact hne (by rw[h k e])⟩
theorem Hp.some_ {w0 w:World}{L L':List HB}{K:List FK}(H:Hp w0 w L K) (hs:L'.Sublist L) (hf:∀x∈L,x.fresh=true∨x∈L'):Hp w0 w L' K:=by
  refine⟨H.os,H.tape,H.output,H.size,fun k hk hn=>H.old k hk fun x hx h=>?_,fun x hx=>H.res x (hs.subset hx),H.apart.sublist hs,fun x hx=>H.fresh x (hs.subset hx),fun p hp=>let ⟨h1,h2,h3⟩:=H.kept p hp;⟨h1,h2,fun k hk=>⟨(h3 k hk).1,fun x hx=>(h3 k hk).2 x (hs.subset hx)⟩⟩⟩;rcases hf x hx with h'|h'
  · have:=H.fresh x hx h' k h;omega
  · exact hn x h' h
theorem Hp.tail {w0 w:World}{x:HB}{L:List HB}{K:List FK}(H:Hp w0 w (x::L) K) (hx:x.fresh=true):Hp w0 w L K:=
  H.some_ (List.sublist_cons_self _ _) fun y hy=>by
    rcases List.mem_cons.1 hy with rfl|hy
    · exact .inl hx
    · exact .inr hy
theorem Hp.keepF {w0 w:World}{L:List HB}{K:List FK}(H:Hp w0 w L K) (p:FK) (hp:p.F w) (hok:p.ok) (hn:∀k,p.fp k→k<w.heap.size∧∀x∈L,¬x.fp k):Hp w0 w L (p::K):=
  ⟨H.os,H.tape,H.output,H.size,H.old,H.res,H.apart,H.fresh,fun q hq=>by
    rcases List.mem_cons.1 hq with rfl|hq
    · exact⟨hp,hok,hn⟩
    · exact H.kept q hq⟩
theorem Hp.fact {w0 w:World}{L:List HB}{K:List FK}(H:Hp w0 w L K) (i:Nat) {p:FK}(hi:K[i]? =some p):p.F w:=(H.kept p (List.mem_of_getElem? hi)).1
theorem Hp.held {w0 w:World}{L:List HB}{K:List FK}(H:Hp w0 w L K) (i:Nat) {x:HB}(hi:L[i]? =some x):x.F w:=(H.res x (List.mem_of_getElem? hi)).1
theorem Hp.keeps {w0 w:World}{L:List HB}{K K':List FK}(H:Hp w0 w L K) (h:K' ⊆ K):Hp w0 w L K':=⟨H.os,H.tape,H.output,H.size,H.old,H.res,H.apart,H.fresh,fun p hp=>H.kept p (h hp)⟩
theorem Hp.lt {w0 w:World}{L:List HB}{K:List FK}(H:Hp w0 w L K):∀x∈L,∀k,x.fp k→k<w.heap.size:=fun x hx=>(H.res x hx).2.2
def rowFp (n:Nat) (A:Option Addr) (k:Nat):Prop:=0<n∧∃off,A=some ⟨k,off,none⟩
theorem Rd.keep {w1 w2:World}{size:Nat}{A:Option Addr}{n:Nat}{xs:List Value}(h:Rd w1 size A n xs) (hk:∀k,rowFp n A k→w2.heap[k]? =w1.heap[k]?) (hs:w1.heap.size≤w2.heap.size):Rd w2 size A n xs:=by
  obtain⟨h1,h2⟩:=h;refine⟨h1,?_⟩;by_cases hn:n=0
  · exact .inl hn
  rcases h2 with h2|⟨b,off,rfl,hlt,hc⟩
  · exact .inl h2
  · exact .inr ⟨b,off,rfl,Nat.lt_of_lt_of_le hlt hs,fun i hi=>(World.cell?_of_block (w:=w1) (hk b ⟨om,off,rfl⟩)).trans (hc i hi)⟩
theorem row_sep {w0 w w':World}{L:List HB}{K:List FK}{A:Option Addr}{size n:Nat}{xs:List Value}(HP:Hp w0 w L K) (h:Rd w' size A n xs) (hq:∀b off,A=some ⟨b,off,none⟩→w.heap.size≤b) {j:Nat}(hj:rowFp n A j):j<w'.heap.size∧∀x∈L,¬x.fp j:=by
  obtain⟨hn,off,rfl⟩:=hj;have h1:=hq j off rfl;obtain⟨b,off',e,hlt,_⟩:=h.2.resolve_left om;cases e
  exact⟨hlt,fun x hx e=>by have:=HP.lt x hx j e;omega⟩
theorem Rd.of_box {w:World}{b t n:Nat}{vs:List Value}(h:Box w b t vs.toArray) (hl:vs.length=n*1):Rd w 1 (some ⟨b,0,none⟩) n vs:=
  ⟨hl,.inr ⟨b,0,rfl,h.lt,fun i hi=>by
    have hi':i<vs.length:=om
    rw[Nat.zero_add,List.getElem?_eq_getElem hi']
    exact h.cell (by simp[List.getElem?_eq_getElem hi'])⟩⟩
def aggB (P:Program) (t:TypeId):Option Bool:=
  match P.underlying t with
  |some (.struct _)|some (.array _ _)=>some true
  |some _=>some false
  |none=>none
def sizeB (P:Program) (t:TypeId):Option Nat:=(P.info? t).map (·.size)
def cellsAt (w:World) (b off:Nat) (vs:List Value):Prop:=∀i v,vs[i]? =some v→w.cell? ⟨b,off+i,none⟩=some v
theorem Hp.cells {w0 w:World}{L:List HB}{K:List FK}(H:Hp w0 w L K) (i:Nat) {b:Nat}{t:TypeId}{us:List Value}{f:Bool}(hi:L[i]? =some (bx b t us f)) (off n:Nat) {vs:List Value}(hv:(us.drop off).take n=vs):cellsAt w b off vs:=by
  intro j v hj;subst hv;rw[List.getElem?_take] at hj;split at hj
  · rw[List.getElem?_drop] at hj;exact H.cell i hi _ hj
  · cases hj
def one:Value→Bool
  | .agg _| .tuple _=>false
  |_=>true
def oneCells:List Value→Bool
  | []=>true
  |v::vs=>one v&&oneCells vs
def setAll (us:List Value) (off:Nat):List Value→List Value
  | []=>us
  |v::vs=>setAll (us.set off v) (off+1) vs
theorem add_plain (b off i:Nat):(⟨b,off,none⟩:Addr).add i=⟨b,off+i,none⟩:=by
  unfold Addr.add;split
  · subst i;rfl
  · rfl
section
variable {P:Program}{ρ:Operand→Value}{w:World}{t:TypeId}{x y:Operand}{dst:Option Tmp}{ty:TypeId}{pos:String}{af:Array Edge}{g:Option (Nat×Bool)}
theorem run_isAgg {c:Bool}(h:aggB P t=some c):(isAgg t).run P w=.ok c w:=by
  unfold aggB at h;unfold isAgg underlying;cases hu:P.underlying t with
  |none=>rw[hu] at h;cases h
  |some d=>rw[hu] at h;cases d<;>simp at h<;>subst h<;>simp[Sem.run_bind,hu,program,Sem.run]
theorem run_sizeOf {k:Nat}(h:sizeB P t=some k):(sizeOf t).run P w=.ok k w:=by
  unfold sizeB at h;unfold sizeOf typeInfo;cases hu:P.info? t with
  |none=>rw[hu] at h;cases h
  |some d=>rw[hu] at h;simp at h;subst h;simp[Sem.run_bind,hu,program,Sem.run]
theorem run_load {p:Addr}{v:Value}(hc:w.cell? p=some v):(load p).run P w=.ok v w:=by
  simp[load,Sem.run,hc]
theorem run_loadCellsFrom {b off:Nat}:∀(vs:List Value) (i:Nat) (acc:Array Value),(∀j v,vs[j]? =some v→w.cell? ⟨b,off+(i+j),none⟩=some v) →
    (loadCellsFrom ⟨b,off,none⟩ i vs.length acc).run P w=.ok (acc++vs.toArray) w
  | [],i,acc,_=>by simp[loadCellsFrom]
  |v::vs,i,acc,h=>by
    have h0:=h 0 v rfl
    simp only[List.length_cons,loadCellsFrom,Sem.run_bind,add_plain]
    rw[run_load (by simpa using h0)]
    simp only[Result.andThen_ok]
    rw[run_loadCellsFrom vs (i+1) _ fun j u hj=>by
      have:=h (j+1) u (by simpa using hj)
      rw[show i+1+j=i+(j+1) from om]
      exact this]
    simp
theorem run_loadVarN {b off k:Nat}{vs:List Value}(ha:aggB P t=some true) (hs:sizeB P t=some k) (hl:vs.length=k) (hc:cellsAt w b off vs):(loadVar t ⟨b,off,none⟩).run P w=.ok (.agg vs.toArray) w:=by
  subst hl;have h2:=run_loadCellsFrom (P:=P) (w:=w) (b:=b) (off:=off) vs 0 #[] fun j v hj=>by have:=hc j v hj;simpa using this
  simp only[loadVar,Sem.run_bind,run_isAgg ha,Result.andThen_ok,if_true,run_sizeOf hs,loadCells,h2];simp
theorem run_loadVar1 {p:Addr}{v:Value}(ha:aggB P t=some false) (hc:w.cell? p=some v):(loadVar t p).run P w=.ok v w:=by
  simp only[loadVar,Sem.run_bind,run_isAgg ha,Result.andThen_ok,Bool.false_eq_true,if_false,run_load hc]
theorem ex_load1 {p:Addr}{v:Value}(hx:ρ x=.pointer (some p)) (ha:aggB P t=some false) (hc:w.cell? p=some v):(execOp ρ ⟨dst,.load t x,ty,pos,af,g⟩).run P w=.ok (.value v) w:=by
  simp only[execOp,hx,Instr.loadAt,Instr.sureAddr,Sem.run_bind,Sem.run_pure,Result.andThen_ok,run_loadVar1 ha hc]
theorem ex_loadN {b off k:Nat}{vs:List Value}(hx:ρ x=.pointer (some ⟨b,off,none⟩)) (ha:aggB P t=some true) (hs:sizeB P t=some k) (hl:vs.length=k) (hc:cellsAt w b off vs):(execOp ρ ⟨dst,.load t x,ty,pos,af,g⟩).run P w=.ok (.value (.agg vs.toArray)) w:=by
  simp only[execOp,hx,Instr.loadAt,Instr.sureAddr,Sem.run_bind,Sem.run_pure,Result.andThen_ok,run_loadVarN ha hs hl hc]
theorem run_store {p:Addr}{v u:Value}(h1:one v=true) (hc:w.cell? p=some u) (hf:w.frozen? p=false):(store p v).run P w=.ok () (w.setCell p v):=by
  cases v<;>first|(simp[store,Sem.run,hc,hf];done)|cases h1
theorem run_storeCells {w0:World}{b off i:Nat}{tb:TypeId}{f:Bool}:∀(vs us:List Value) (j:Nat) (w:World) (L:List HB) (K:List FK),Hp w0 w L K→L[i]? =some (bx b tb us f)→oneCells vs=true→off+j+vs.length≤us.length →
    ∃w',(storeCells ⟨b,off,none⟩ vs j).run P w=.ok () w'∧Hp w0 w' (L.set i (bx b tb (setAll us (off+j) vs) f)) K
  | [],us,j,w,L,K,H,hi,_,_=>⟨w,by simp[storeCells],by
      have:L.set i (bx b tb us f)=L:=by
        apply List.ext_getElem?;intro k;by_cases e:i=k
        · subst e;rw[List.getElem?_set,hi];simp[(List.getElem?_eq_some_iff.1 hi).1]
        · rw[List.getElem?_set_ne e]
      simp only[setAll]
      rw[this]
      exact H⟩
  |v::vs,us,j,w,L,K,H,hi,h1,hl=>by
    simp only[oneCells,Bool.and_eq_true] at h1;simp only[List.length_cons] at hl;have hlt:off+j<us.length:=om;have hc:=H.cell i hi (off+j) (List.getElem?_eq_getElem hlt);have hf:=(H.at_ i hi).frozen (off+j);have H':=H.set i hi (off+j) v;have hil:=(List.getElem?_eq_some_iff.1 hi).1;obtain⟨w',hr,hw'⟩:=run_storeCells (b:=b) (off:=off) (i:=i) (tb:=tb) (f:=f) vs (us.set (off+j) v) (j+1) (w.setCell ⟨b,off+j,none⟩ v) (L.set i (bx b tb (us.set (off+j) v) f)) K H' (by rw[List.getElem?_set];simp[hil]) h1.2 (by simp;omega);refine⟨w',?_,?_⟩
    · simp only[storeCells,Sem.run_bind,add_plain];rw[run_store h1.1 hc hf];simp only[Result.andThen_ok];exact hr
    · rw[List.set_set] at hw';exact hw'
end
def chk (ops:Array Oper) (n:Nat) (L:List (Nat×Value)) (o:Oper) (d:Nat):Bool:=
  match o.dst with
  |some d'=>Nat.beq d' d&&(Nat.blt d n&&(knowsAll L o.op.operands.toList&&(notSelect o.op&&(match wantedL ops L o with|some b=>b|none=>false))))
  |none=>false
def chk0 (ops:Array Oper) (L:List (Nat×Value)) (o:Oper):Bool:=
  match o.dst with
  |some _=>false
  |none=>knowsAll L o.op.operands.toList&&(notSelect o.op&&(match wantedL ops L o with|some b=>b|none=>false))
def chkSkip (ops:Array Oper) (n:Nat) (L:List (Nat×Value)) (o:Oper) (d:Nat):Bool:=
  match o.dst with
  |some d'=>Nat.beq d' d&&(Nat.blt d n&&(match wantedL ops L o with|some b=>!b|none=>false))
  |none=>false
section
variable {P:Program}{ops:Array Oper}{Q:Exit→Act→World→Prop}{a:Act}{w w':World}{rest:List Oper}{o:Oper}{n:Nat}{L:List (Nat×Value)}{v:Value}
theorem chk_spec {d:Nat}(h:chk ops n L o d=true):o.dst=some d∧Nat.blt d n=true∧knowsAll L o.op.operands.toList=true∧notSelect o.op=true∧wantedL ops L o=some true:=by
  unfold chk at h;cases hd:o.dst with
  |none=>rw[hd] at h;cases h
  |some d'=>
    rw[hd] at h;simp only[Bool.and_eq_true] at h;refine⟨by rw[Nat.eq_of_beq_eq_true h.1],h.2.1,h.2.2.1,h.2.2.2.1,?_⟩;have:=h.2.2.2.2;cases hw:wantedL ops L o with
    |none=>rw[hw] at this;cases this
    |some b=>rw[hw] at this;simp at this;rw[this]
theorem chk0_spec (h:chk0 ops L o=true):o.dst=none∧knowsAll L o.op.operands.toList=true∧notSelect o.op=true∧wantedL ops L o=some true:=by
  unfold chk0 at h;cases hd:o.dst with
  |some _=>rw[hd] at h;cases h
  |none=>
    rw[hd] at h;simp only[Bool.and_eq_true] at h;refine⟨rfl,h.1,h.2.1,?_⟩;have:=h.2.2;cases hw:wantedL ops L o with
    |none=>rw[hw] at this;cases this
    |some b=>rw[hw] at this;simp at this;rw[this]
theorem chkSkip_spec {d:Nat}(h:chkSkip ops n L o d=true):o.dst=some d∧Nat.blt d n=true∧wantedL ops L o=some false:=by
  unfold chkSkip at h;cases hd:o.dst with
  |none=>rw[hd] at h;cases h
  |some d'=>
    rw[hd] at h;simp only[Bool.and_eq_true] at h;refine⟨by rw[Nat.eq_of_beq_eq_true h.1],h.2.1,?_⟩;have:=h.2.2;cases hw:wantedL ops L o with
    |none=>rw[hw] at this;cases this
    |some b=>rw[hw] at this;simp at this;rw[this]
theorem wpList_wanted (hw:Region.wanted o (yielded ops a.tmps)=true) (h:o.wp P a w (wpList P ops Q rest) Q):wpList P ops Q (o::rest) a w:=by
  unfold wpList;rw[if_pos hw];exact .inl h
theorem Sl.valW (H:Sl n L a) (d:Nat) (v:Value) (hc:chk ops n L o d=true)
    (hx:(execOp (ev L) o).run P w=.ok (.value v) w') (k:∀a',Sl n ((d,v)::L) a'→wpList P ops Q rest a' w'):wpList P ops Q (o::rest) a w:=by
  obtain⟨hd,hn,hk,hs,hw⟩:=chk_spec hc;refine wpList_wanted (H.wanted hw) ?_;unfold Oper.wp;rw[H.exec hk hs,hx,Oper.upon_value,hd];exact k _ (H.put v hn)
theorem Sl.val (H:Sl n L a) (d:Nat) (v:Value) (hc:chk ops n L o d=true)
    (hx:(execOp (ev L) o).run P w=.ok (.value v) w) (k:∀a',Sl n ((d,v)::L) a'→wpList P ops Q rest a' w):wpList P ops Q (o::rest) a w:=H.valW d v hc hx k
theorem Sl.valE (H:Sl n L a) (d:Nat) (u v:Value) (hc:chk ops n L o d=true)
    (hx:(execOp (ev L) o).run P w=.ok (.value u) w) (hv:u=v) (k:∀a',Sl n ((d,v)::L) a'→wpList P ops Q rest a' w):wpList P ops Q (o::rest) a w:=by
  subst hv;exact H.val d u hc hx k
theorem Sl.skip (H:Sl n L a) (d:Nat) (hc:chkSkip ops n L o d=true) (k:∀a',Sl n ((d,undef)::L) a'→wpList P ops Q rest a' w):wpList P ops Q (o::rest) a w:=by
  obtain⟨hd,hn,hw⟩:=chkSkip_spec hc;unfold wpList;rw[if_neg (by rw[H.wanted hw];simp),hd];exact k _ (H.put undef hn)
theorem Sl.alloc {w0:World}{LH:List HB}{K:List FK}(H:Sl n L a) (HP:Hp w0 w LH K) (d:Nat) (V:Nat→Value) (t:TypeId) (vs:List Value) (hc:chk ops n L o d=true)
    (hx:∀w,(execOp (ev L) o).run P w=.ok (.value (V w.heap.size)) (w.alloc (.cells vs.toArray t)))
    (k:∀b w' a',Sl n ((d,V b)::L) a'→Hp w0 w' (bx b t vs true::LH) K→wpList P ops Q rest a' w'):wpList P ops Q (o::rest) a w:=
  H.valW d _ hc (hx w) fun a' H'=>k _ _ a' H' (HP.alloc t vs)
theorem Sl.store {w0:World}{LH:List HB}{K:List FK}{t:TypeId}{x y:Operand}{ty:TypeId}{pos:String}{af:Array Edge}{g:Option (Nat×Bool)}(H:Sl n L a) (HP:Hp w0 w LH K) (i b off k:Nat) (tb:TypeId) (us:List Value) (f:Bool) (v:Value) (LH':List HB)
    (hc:chk0 ops L ⟨none,.store t x y,ty,pos,af,g⟩=true) (hx:ev L x=.pointer (some ⟨b,off,none⟩)) (hy:ev L y=v) (hi:LH[i]? =some (bx b tb us f)) (hs:sizeB P t=some k) (hv:v.cells.size=k) (h1:oneCells v.cells.toList=true) (hl:Nat.ble (off+v.cells.toList.length) us.length=true)
    (hL:LH.set i (bx b tb (setAll us off v.cells.toList) f)=LH')
    (kk:∀w' a',Sl n L a'→Hp w0 w' LH' K→wpList P ops Q rest a' w'):wpList P ops Q (⟨none,.store t x y,ty,pos,af,g⟩::rest) a w:=by
  obtain⟨hd,hk,hs',hw⟩:=chk0_spec hc;refine wpList_wanted (H.wanted hw) ?_;obtain⟨w',hr,hw'⟩:=run_storeCells (P:=P) (off:=off) v.cells.toList us 0 w LH K HP hi h1 (by simpa [Nat.ble_eq] using hl);unfold Oper.wp;rw[H.exec hk hs'];simp only[execOp,hx,hy,Instr.storeAt,Instr.sureAddr,storeVar,Sem.run_bind,Sem.run_pure,Result.andThen_ok,run_sizeOf hs,hv];simp only[ne_eq,not_true_eq_false,if_false,hr,Result.andThen_ok,Oper.upon_skip];exact kk w' _ H (hL ▸ hw')
theorem Sl.call (H:Sl n L a) (d:Nat) {f:FuncId}{args:Array Value}{R:Ending→World→Prop}(hc:chk ops n L o d=true)
    (hx:(execOp (ev L) o).run P w=.ok (.enter f args) w') (hC:Calls P f args w' R) (k:∀e w'',R e w''→∃v,e=.returned v∧∀a',Sl n ((d,v)::L) a'→wpList P ops Q rest a' w''):wpList P ops Q (o::rest) a w:=by
  obtain⟨hd,hn,hk,hs,hw⟩:=chk_spec hc;refine wpList_wanted (H.wanted hw) ?_;unfold Oper.wp;rw[H.exec hk hs,hx,Oper.upon_enter];refine hC.mono fun e w'' he=>?_;obtain⟨v,rfl,hv⟩:=k e w'' he;rw[hd];exact hv _ (H.put v hn)
end
theorem Sl.split {n:Nat}{L:List (Nat×Value)}{a:Act}{e:Bool}{G:Prop}(H:Sl n L a) (d:Nat) (hl:look d L=some (.bool e)) (ht:e=true→Sl n ((d,.bool true)::L) a→G) (hf:e=false→Sl n ((d,.bool false)::L) a→G):G:=by
  have aux:∀b,e=b→Sl n ((d,.bool b)::L) a:=fun b hb=>⟨H.defers,H.size,fun k v hk=>by
    rw[look_cons] at hk;by_cases h:d=k
    · subst h;rw[if_pos rfl] at hk;cases hk;rw[←hb];exact H.get _ _ hl
    · rw[if_neg h] at hk;exact H.get k v hk⟩
  cases he:e with
  |true=>exact ht he (aux true he)
  |false=>exact hf he (aux false he)
theorem Sl.as {n:Nat}{L:List (Nat×Value)}{a:Act}{u:Value}(H:Sl n L a) (d:Nat) (v:Value) (hl:look d L=some u) (hv:u=v):Sl n ((d,v)::L) a:=
  ⟨H.defers,H.size,fun k x hk=>by
    rw[look_cons] at hk
    by_cases h:d=k
    · subst h;rw[if_pos rfl] at hk;cases hk;rw[←hv];exact H.get _ _ hl
    · rw[if_neg h] at hk;exact H.get k x hk⟩
section
variable {P:Program}{Q:Exit→Act→World→Prop}{a:Act}{w:World}{n:Nat}{L:List (Nat×Value)}
theorem w_cut {x y:Code}(M:Act→World→Prop) (h:x.wp P (Exit.then M Q) a w) (k:∀a w,M a w→y.wp P Q a w):(Code.seq x y).wp P Q a w:=
  wp_seq (Code.wp_mono (fun e a w q=>by cases e<;>first|exact k _ _ q|exact q) h)
theorem w_region {id:Nat}{l:List Oper}(h:wpList P l.toArray Q l a w):(Code.region id l.toArray false).wp P Q a w:=wp_region_lit h
theorem w_if {x y:Code}{t:Nat}{e:Bool}(H:Sl n L a) (hl:look t L=some (.bool e)) (ht:e=true→x.wp P Q a w) (hf:e=false→y.wp P Q a w):(Code.cond (.tmp t) x y).wp P Q a w:=
  wp_cond_split (t:=e) (by simp only[Act.eval];exact H.get t _ hl) ht hf
theorem w_ift {x y:Code}{t:Nat}(H:Sl n L a) (hl:look t L=some (.bool true)) (h:x.wp P Q a w):(Code.cond (.tmp t) x y).wp P Q a w:=
  wp_cond_true (by simp only[Act.eval];exact H.get t _ hl) h
theorem w_iff {x y:Code}{t:Nat}(H:Sl n L a) (hl:look t L=some (.bool false)) (h:y.wp P Q a w):(Code.cond (.tmp t) x y).wp P Q a w:=
  wp_cond_false (by simp only[Act.eval];exact H.get t _ hl) h
theorem then_normal {K:Act→World→Prop}(h:K a w):Exit.then K Q .normal a w:=h
theorem then_ret {K:Act→World→Prop}(h:Q .ret a w):Exit.then K Q .ret a w:=h
theorem then_exit {K:Act→World→Prop}{id:Nat}(h:Q (.exit id) a w):Exit.then K Q (.exit id) a w:=h
theorem inb_normal {id:Nat}(h:Q .normal a w):Exit.inBlock id Q .normal a w:=h
theorem inb_ret {id:Nat}(h:Q .ret a w):Exit.inBlock id Q .ret a w:=h
theorem w_enter {f:FuncId}{fn:Func}{c:Code}{args:List Value}{R:Ending→World→Prop}(n:Nat) (L:List (Nat×Value)) (hf:P.funcs[f]? =some fn) (hb:fn.body=some c) (hn:fn.ntmps=n)
    (hle:Nat.ble args.length n=true) (hk:(L.map fun p=>look p.1 (args.zipIdx.map fun p=>(p.2,p.1)))=L.map fun p=>some p.2) (k:∀a,Sl n L a→c.wp P (bodyPost P fn R) a w):Calls P f args.toArray w R:=by
 refine calls_of_wp hf hb ?_;rw[hn];exact k _ (Sl.enter args n L hle hk)
theorem w_exit_here {id:Nat}(h:Q .normal a w):Exit.inBlock id Q (.exit id) a w:=by simp only[Exit.inBlock,if_true];exact h
theorem w_exit_far {id id':Nat}(hne:Nat.beq id' id=false) (h:Q (.exit id') a w):Exit.inBlock id Q (.exit id') a w:=by
  have:¬id'=id:=fun e=>by subst e;simp at hne
  simp only[Exit.inBlock,this,if_false];exact h
theorem w_loop {c:Code}(I:Nat→Act→World→Prop) (m:Nat) (h0:I m a w) (round:∀m a w,I m a w→c.wp P (Exit.then (fun a' w'=>∃m',m'<m∧I m' a' w') Q) a w):(Code.loop c).wp P Q a w:=by
  classical
  have hex:∀a w,(∃m,I m a w)→∃m,I m a w∧∀k,I k a w→m≤k:=by
    intro a w ⟨m,hm⟩;induction m using Nat.strongRecOn with
    |_ m ih=>
      by_cases h:∃k,k<m∧I k a w
      · obtain⟨k,hk,hI⟩:=h;exact ih k hk hI
      · exact⟨m,hm,fun k hk=>Nat.le_of_not_lt fun hlt=>h ⟨k,hlt,hk⟩⟩
  let μ:Act→World→Nat:=fun a w=>if h:∃m,I m a w then Classical.choose (hex a w h) else 0
  refine wp_loop (fun a w=>∃m,I m a w) μ ⟨m,h0⟩ fun a w hI=>?_;have hμ:μ a w=Classical.choose (hex a w hI):=by simp only[μ,dif_pos hI]
  have hs:=Classical.choose_spec (hex a w hI);rw[←hμ] at hs;refine Code.wp_mono (fun e a' w' q=>?_) (round (μ a w) a w hs.1);cases e with
  |normal=>
    obtain⟨m',hlt,hI'⟩:=q;refine⟨⟨m',hI'⟩,?_⟩;have hμ':μ a' w'=Classical.choose (hex a' w' ⟨m',hI'⟩):=by simp only[μ,dif_pos (show ∃m,I m a' w' from⟨m',hI'⟩)]
    have hs':=(Classical.choose_spec (hex a' w' ⟨m',hI'⟩)).2 m' hI';rw[←hμ'] at hs';exact Nat.lt_of_le_of_lt hs' hlt
  |_=>exact q
end
theorem wrap_ini64 (n:Int) (h:-9223372036854775808≤n∧n≤9223372036854775807):IntKind.i64.wrap n=n:=IntWalk.i64_in n om
theorem wrap_inu64 (n:Int) (h:0≤n∧n≤18446744073709551615):IntKind.u64.wrap n=n:=by
  simp only[IntKind.wrap,IntKind.bits,IntKind.signed,Bool.false_and,Bool.false_eq_true,if_false];omega
theorem wrap_inu8 (n:Int) (h:0≤n∧n≤255):IntKind.u8.wrap n=n:=by
  simp only[IntKind.wrap,IntKind.bits,IntKind.signed,Bool.false_and,Bool.false_eq_true,if_false];omega
theorem tdiv_nn (a b:Int) (h:0≤a):a.tdiv b=a/b:=Int.tdiv_eq_ediv_of_nonneg h
theorem tmod_nn (a b:Int) (h:0≤a):a.tmod b=a%b:=Int.tmod_eq_emod_of_nonneg h
theorem eq_of_bne_false {a b:Int}(h:(a != b)=false):a=b:=by simpa using h
theorem not_is_true {b:Bool}(h:(!b)=true):b=false:=by simpa using h
theorem not_is_false {b:Bool}(h:(!b)=false):b=true:=by simpa using h
theorem Hp.oldc {w0 w:World}{L:List HB}{K:List FK}(H:Hp w0 w L K) (hf:(L.all fun x=>x.fresh)=true) {p:Addr}{v:Value}(h:w0.cell? p=some v):w.cell? p=some v:=
  ((H.below hf).cell (World.block_lt_of_cell? _ _ h)).trans h
theorem cells2 {w:World}{b off:Nat}{u v:Value}(h0:w.cell? ⟨b,off,none⟩=some u) (h1:w.cell? ⟨b,off+1,none⟩=some v):cellsAt w b off [u,v]:=fun i x hx=>by
  match i,hx with
  |0,hx=>cases hx;exact h0
  |1,hx=>cases hx;exact h1
  |i+2,hx=>cases hx
theorem cells3 {w:World}{b off:Nat}{u v y:Value}(h0:w.cell? ⟨b,off,none⟩=some u) (h1:w.cell? ⟨b,off+1,none⟩=some v) (h2:w.cell? ⟨b,off+2,none⟩=some y):cellsAt w b off [u,v,y]:=fun i x hx=>by
  match i,hx with
  |0,hx=>cases hx;exact h0
  |1,hx=>cases hx;exact h1
  |2,hx=>cases hx;exact h2
  |i+3,hx=>cases hx
theorem ex_index {P:Program}{ρ:Operand→Value}{w:World}{t e:TypeId}{x y:Operand}{dst:Option Tmp}{ty:TypeId}{pos:String}{af:Array Edge}{g:Option (Nat×Bool)}{b off len cap m k:Nat}{i:Int}{ik:IntKind}
    (hx:ρ x=.slice (some ⟨b,off,none⟩) len cap) (hy:ρ y=.int ik i) (hm:i=m) (hlt:m<len) (hu:P.underlying t=some (.slice e)) (hs:sizeB P e=some k):(execOp ρ ⟨dst,.indexAddr t x y,ty,pos,af,g⟩).run P w=.ok (.value (.pointer (some ⟨b,off+m*k,none⟩))) w:=by
  subst hm;have h1:(0:Int)≤m∧(m:Int)<len:=om;simp only[execOp,hx,hy,Instr.indexAt,asIntOf,underlying,program,Sem.run_bind,Sem.run_pure,Result.andThen_ok,Sem.run,hu,h1,and_self,if_true,run_sizeOf hs,add_plain,Int.toNat_natCast]
section
variable {P:Program}{fn:Func}{R:Ending→World→Prop}{a:Act}{w:World}{n:Nat}{L:List (Nat×Value)}
def RV (P:Program) (w:World) (L:List (Nat×Value)):ResultVar→Value→Prop
  | .tmp t,v=>look t L=some v
  | .cell p t,v=>∃q,look p L=some (.pointer (some q))∧(loadVar t q).run P w=.ok v w
def resOf (tmps:Array Value):ResultVar→Sem Value
  | .tmp t=>pure (tmps.getD t undef)
  | .cell p t=>do loadVar t (←asAddr (tmps.getD p undef))
theorem results_of (fn:Func) (tmps:Array Value):results fn tmps=(do let vs ←fn.results.mapM (resOf tmps);pure (if h:vs.size=1 then vs[0] else .tuple vs)):=by
  have:resOf tmps=(fun| .tmp t=>pure (tmps.getD t undef)| .cell a t=>do loadVar t (←asAddr (tmps.getD a undef))):=by
    funext r;cases r<;>rfl
  rw[this];rfl
theorem RV.run (H:Sl n L a) {r:ResultVar}{v:Value}(h:RV P w L r v):(resOf a.tmps r).run P w=.ok v w:=by
  cases r with
  |tmp t=>simp only[resOf,H.get t v h,Sem.run_pure]
  |cell p t=>
    obtain⟨q,hq,hl⟩:=h;simp only[resOf,H.get p _ hq,asAddr,Sem.run_bind,Sem.run_pure,Result.andThen_ok,hl]
theorem Sl.ret1 (H:Sl n L a) {r:ResultVar}{v:Value}(hr:fn.results=#[r]) (h:RV P w L r v) (hR:R (.returned v) w):bodyPost P fn R .ret a w:=by
  refine⟨H.defers,v,?_,hR⟩;rw[results_of,hr];simp[h.run H]
theorem Sl.ret2 (H:Sl n L a) {r s:ResultVar}{v u:Value}(hr:fn.results=#[r,s]) (h:RV P w L r v) (h':RV P w L s u) (hR:R (.returned (.tuple #[v,u])) w):bodyPost P fn R .ret a w:=by
  refine⟨H.defers,_,?_,hR⟩;rw[results_of,hr];simp[h.run H,h'.run H]
theorem Sl.ret3 (H:Sl n L a) {r s t:ResultVar}{v u x:Value}(hr:fn.results=#[r,s,t]) (h:RV P w L r v) (h':RV P w L s u) (h'':RV P w L t x) (hR:R (.returned (.tuple #[v,u,x])) w):bodyPost P fn R .ret a w:=by
  refine⟨H.defers,_,?_,hR⟩;rw[results_of,hr];simp[h.run H,h'.run H,h''.run H]
theorem Sl.ret0 (H:Sl n L a) (hr:fn.results=#[]) (hR:R (.returned (.tuple #[])) w):bodyPost P fn R .ret a w:=by
  refine⟨H.defers,_,?_,hR⟩;unfold results;rw[hr];simp
theorem Sl.end0 (H:Sl n L a) (hr:fn.results=#[]) (hR:R (.returned (.tuple #[])) w):bodyPost P fn R .normal a w:=by
  refine⟨H.defers,_,?_,hR⟩;unfold results;rw[hr];simp
theorem RV.tmp_ {t:Nat}{v:Value}(h:look t L=some v):RV P w L (.tmp t) v:=h
theorem RV.cellN {p t b off k:Nat}{vs:List Value}(hl:look p L=some (.pointer (some ⟨b,off,none⟩))) (ha:aggB P t=some true) (hs:sizeB P t=some k) (hk:vs.length=k) (hc:cellsAt w b off vs):RV P w L (.cell p t) (.agg vs.toArray):=
  ⟨_,hl,run_loadVarN ha hs hk hc⟩
end
section
variable {P:Program}{ops:Array Oper}{Q:Exit→Act→World→Prop}{md:Region.Mode}{S:World→Prop}
def upM (m:Nat) (listed:Array Bool):Prop:=listed.getD m false=true
theorem upM_set {m i:Nat}{listed:Array Bool}(h:i≠m):upM m (listed.setIfInBounds i true)↔upM m listed:=by
  unfold upM;rw[Array.getD_eq_getD_getElem?,Array.getD_eq_getD_getElem?,Array.getElem?_setIfInBounds_ne h]
def wpAnyM (P:Program) (md:Region.Mode) (ops:Array Oper) (Q:Exit→Act→World→Prop) (S:World→Prop) (m:Nat):Nat→Array Bool→Act→World→Prop
  |0,listed,a,w=>Region.ready md ops listed=[]∧Q .normal a w
  |fuel+1,listed,a,w=>
    (Region.ready md ops listed=[]→Q .normal a w) ∧
    ∀i∈Region.ready md ops listed,wpOp P ops Q i (fun a' w'=>(upM m (listed.setIfInBounds i true)∨S w')∧wpAnyM P md ops Q S m fuel (listed.setIfInBounds i true) a' w') a w
theorem wpAny_of_M {m:Nat}:∀(fuel:Nat) (listed:Array Bool) (a:Act) (w:World),wpAnyM P md ops Q S m fuel listed a w→wpAny P md ops Q fuel listed a w
  |0,_,_,_,h=>h
  |fuel+1,_,_,_,h=>⟨h.1,fun i hi=>wpOp_mono (fun a' w' h'=>wpAny_of_M fuel _ a' w' h'.2) (h.2 i hi)⟩
def waitsFor (md:Region.Mode) (ops:Array Oper) (m i:Nat):Bool:=
  match ops[m]? with
  |none=>true
  |some om=>om.after.any fun e=>Region.binds md e&&e.on == i
theorem not_waits {i j m:Nat}{oj:Oper}{listed:Array Bool}(hwm:waitsFor md ops m i=true) (hoj:ops[j]? =some oj) (hnot:∀e∈oj.after,Region.binds md e=true→e.on≠i):j≠m:=fun e=>by
  subst e
  unfold waitsFor at hwm
  rw[hoj] at hwm
  simp only[Array.any_eq_true] at hwm
  obtain⟨q,hq,hb⟩:=hwm
  simp only[Bool.and_eq_true,beq_iff_eq] at hb
  exact hnot _ (Array.getElem_mem hq) hb.1 hb.2
theorem not_on {i j:Nat}{oj:Oper}{listed:Array Bool}(hr:i∈Region.ready md ops listed) (hj:j∈Region.ready md ops listed) (hoj:ops[j]? =some oj):∀e∈oj.after,Region.binds md e=true→e.on≠i:=fun e he hb heq=>by
  obtain⟨_,oj',hoj',hall⟩:=mem_ready.1 hj
  rw[hoj] at hoj'
  cases hoj'
  have h1:=hall e he hb
  have h0:=(mem_ready.1 hr).1
  rw[heq] at h1
  rcases Nat.lt_or_ge i listed.size with h'|h'
  · simp[h'] at h0 h1;rw[h0] at h1;cases h1
  · simp[Array.getElem?_eq_none h'] at h1
theorem wpAnyM_first {m i:Nat}{oi:Oper}{v:Value}(r:Bool) (hi:ops[i]? =some oi) (hsel:∀(j:Nat) (o:Oper) cs b,ops[j]? =some o→o.op≠.select cs b) (him:i≠m)
    (hU:r=true→waitsFor md ops m i=true)
    (hQ:∀c a w,Q (.panic c) (a.put oi.dst v) w→Q (.panic c) a w):
    ∀(fuel:Nat) (listed:Array Bool) (a:Act) (w:World),
      (∀j oj,ops[j]? =some oj→j≠i→listed.getD j true=false→(∀e∈oj.after,Region.binds md e=true→e.on≠i)→oi.apart ops oj=true) →
      i∈Region.ready md ops listed→YieldsIf P ops (fun w=>r=true→S w) oi v a→(r=true→¬upM m listed)→(upM m listed∨S w) →
      wpAnyM P md ops Q S m fuel (listed.setIfInBounds i true) (a.put oi.dst v) w→wpAnyM P md ops Q S m (fuel+1) listed a w:=by
  have hUw:∀(listed:Array Bool) (w:World),(r=true→¬upM m listed)→(upM m listed∨S w)→(r=true→S w):=fun listed w h h' hr=>h'.resolve_left (h hr);intro fuel;induction fuel with
  |zero=>
    intro listed a w _ hr hy hm hS H;refine⟨fun h=>(by rw[h] at hr;cases hr),fun j hj=>?_⟩;by_cases hji:j=i
    · subst hji;exact hy.wpOp hi (hUw _ _ hm hS) ⟨by rw[upM_set him];exact hS,H⟩
    · have:=ready_mono hj hji;rw[H.1] at this;cases this
  |succ fuel ih=>
    intro listed a w hfree hr hy hm hS H;refine⟨fun h=>(by rw[h] at hr;cases hr),fun j hj=>?_⟩;by_cases hji:j=i
    · subst hji;exact hy.wpOp hi (hUw _ _ hm hS) ⟨by rw[upM_set him];exact hS,H⟩
    · have h1:=H.2 j (ready_mono hj hji);obtain⟨hjun,oj,hoj,_⟩:=mem_ready.1 hj;have hnot:=not_on hr hj hoj;have h2:=wpOp_putIf hoj (hfree j oj hoj hji hjun hnot) (fun cs b=>hsel i oi cs b hi) (fun cs b=>hsel j oj cs b hoj) hQ hy h1;have hfree':∀k ok,ops[k]? =some ok→k≠i→(listed.setIfInBounds j true).getD k true=false →
          (∀e∈ok.after,Region.binds md e=true→e.on≠i)→oi.apart ops ok=true:=fun k ok hk hki hun hno=>by
        refine hfree k ok hk hki ?_ hno;by_cases hjk:j=k
        · subst hjk;exact hjun
        · rw[getD_set_ne true hjk] at hun;exact hun
      refine wpOp_mono (fun a' w' h3=>?_) h2;have hS':upM m (listed.setIfInBounds j true)∨S w':=by
        have:=h3.2.1;rw[Array.setIfInBounds_comm _ _ (Ne.symm hji),upM_set him] at this;exact this
      refine⟨hS',ih (listed.setIfInBounds j true) a' w' hfree' (ready_mono hr (Ne.symm hji)) h3.1 (fun e=>?_) hS' ?_⟩
      · rw[upM_set (not_waits (listed:=listed) (hU e) hoj hnot)];exact hm e
      · rw[Array.setIfInBounds_comm _ _ hji];exact h3.2.2
end
section
variable {P:Program}{ops:Array Oper}{Q:Exit→Act→World→Prop}{S:World→Prop}{a:Act}{w w':World}{o:Oper}{n m:Nat}{L:List (Nat×Value)}{v:Value}{i fuel:Nat}{listed:Array Bool}{K:Act→World→Prop}{KB:List FK}
theorem An.start {w0:World}{LH:List HB}{id:Nat}{l:List Oper}(S:World→Prop) (m c:Nat) (HP:Hp w0 w LH KB) (hf:P.follows .mixedOrders=true) (hm:l.length=c)
    (k:∀w',Hp w0 w' LH KB→wpAnyM P .any l.toArray Q S m c (Array.replicate c false) a w'):(Code.region id l.toArray true).wp P Q a w:=by
  refine wp_region_any hf (wpAny_of_M (S:=S) (m:=m) _ _ _ _ ?_);have:=k w.drew (HP.next ((Below.refl _ _).drew));subst hm;simpa using this
def chkP (ops:Array Oper) (listed:Array Bool) (m i:Nat):Bool:=Region.noSelect ops&&(Region.free .any ops listed i&&((Region.ready .any ops listed).contains i&& !Nat.beq i m))
def chkT (ops:Array Oper) (listed:Array Bool) (m i:Nat):Bool:=waitsFor .any ops m i&&(!(listed.getD m false)&&chkP ops listed m i)
theorem chkP_ne {ops:Array Oper}(h:(!Nat.beq i m)=true):i≠m:=fun e=>by subst e;simp at h
theorem An.val (H:Sl n L a) (hS:S w) (i d:Nat) (v:Value) (ho:ops[i]? =some o) (hc:chk ops n L o d=true) (ht:chkT ops listed m i=true) (hQ:∀c a w,Q (.panic c) (a.put o.dst v) w→Q (.panic c) a w)
    (hx:∀w,S w→(execOp (ev L) o).run P w=.ok (.value v) w) (k:∀a',Sl n ((d,v)::L) a'→wpAnyM P .any ops Q S m fuel (listed.setIfInBounds i true) a' w):wpAnyM P .any ops Q S m (fuel+1) listed a w:=by
  obtain⟨hd,hn,hk,hs,hw⟩:=chk_spec hc;simp only[chkT,chkP,Bool.and_eq_true] at ht;obtain⟨t1,t2,t3,t4,t5,t6⟩:=ht;refine wpAnyM_first true ho (Region.noSelect_spec t3) (chkP_ne (ops:=ops) t6) (fun _=>t1) hQ fuel listed a w (Region.free_spec ho t4) (by simpa using t5) (.inl ⟨H.wanted hw,fun w hw=>by rw[H.exec hk hs];exact hx w (hw rfl)⟩) (fun _ h=>by unfold upM at h;rw[h] at t2;cases t2) (.inr hS) ?_;rw[hd];exact k _ (H.put v hn)
theorem An.valE (H:Sl n L a) (hS:S w) (i d:Nat) (u v:Value) (ho:ops[i]? =some o) (hc:chk ops n L o d=true) (ht:chkT ops listed m i=true) (hQ:∀c a w,Q (.panic c) (a.put o.dst v) w→Q (.panic c) a w)
    (hx:∀w,S w→(execOp (ev L) o).run P w=.ok (.value u) w) (hv:u=v) (k:∀a',Sl n ((d,v)::L) a'→wpAnyM P .any ops Q S m fuel (listed.setIfInBounds i true) a' w):wpAnyM P .any ops Q S m (fuel+1) listed a w:=by
  subst hv;exact An.val H hS i d u ho hc ht hQ hx k
theorem An.pure (H:Sl n L a) (hS:listed.getD m false=true∨S w) (i d:Nat) (v:Value) (ho:ops[i]? =some o) (hc:chk ops n L o d=true) (ht:chkP ops listed m i=true) (hQ:∀c a w,Q (.panic c) (a.put o.dst v) w→Q (.panic c) a w)
    (hx:∀w,(execOp (ev L) o).run P w=.ok (.value v) w) (k:∀a',Sl n ((d,v)::L) a'→wpAnyM P .any ops Q S m fuel (listed.setIfInBounds i true) a' w):wpAnyM P .any ops Q S m (fuel+1) listed a w:=by
  obtain⟨hd,hn,hk,hs,hw⟩:=chk_spec hc;simp only[chkP,Bool.and_eq_true] at ht;obtain⟨t3,t4,t5,t6⟩:=ht;refine wpAnyM_first false ho (Region.noSelect_spec t3) (chkP_ne (ops:=ops) t6) (fun h=>by cases h) hQ fuel listed a w (Region.free_spec ho t4) (by simpa using t5) (.inl ⟨H.wanted hw,fun w _=>by rw[H.exec hk hs];exact hx w⟩) (fun h=>by cases h) hS ?_;rw[hd];exact k _ (H.put v hn)
theorem An.pureE (H:Sl n L a) (hS:listed.getD m false=true∨S w) (i d:Nat) (u v:Value) (ho:ops[i]? =some o) (hc:chk ops n L o d=true) (ht:chkP ops listed m i=true) (hQ:∀c a w,Q (.panic c) (a.put o.dst v) w→Q (.panic c) a w)
    (hx:∀w,(execOp (ev L) o).run P w=.ok (.value u) w) (hv:u=v) (k:∀a',Sl n ((d,v)::L) a'→wpAnyM P .any ops Q S m fuel (listed.setIfInBounds i true) a' w):wpAnyM P .any ops Q S m (fuel+1) listed a w:=by
  subst hv;exact An.pure H hS i d u ho hc ht hQ hx k
theorem An.skip (H:Sl n L a) (hS:listed.getD m false=true∨S w) (i d:Nat) (ho:ops[i]? =some o) (hc:chkSkip ops n L o d=true) (ht:chkP ops listed m i=true) (hQ:∀c a w,Q (.panic c) (a.put o.dst undef) w→Q (.panic c) a w)
    (k:∀a',Sl n ((d,undef)::L) a'→wpAnyM P .any ops Q S m fuel (listed.setIfInBounds i true) a' w):wpAnyM P .any ops Q S m (fuel+1) listed a w:=by
  obtain⟨hd,hn,hw⟩:=chkSkip_spec hc;simp only[chkP,Bool.and_eq_true] at ht;obtain⟨t3,t4,t5,t6⟩:=ht;refine wpAnyM_first false ho (Region.noSelect_spec t3) (chkP_ne (ops:=ops) t6) (fun h=>by cases h) hQ fuel listed a w (Region.free_spec ho t4) (by simpa using t5) (.inr ⟨H.wanted hw,rfl⟩) (fun h=>by cases h) hS ?_;rw[hd];exact k _ (H.put undef hn)
theorem wpAnyM_all {rs:List Nat}(hr:Region.ready .any ops listed=rs) (hne:rs≠[])
    (h:∀i∈rs,wpOp P ops Q i (fun a' w'=>((listed.setIfInBounds i true).getD m false=true∨S w')∧wpAnyM P .any ops Q S m fuel (listed.setIfInBounds i true) a' w') a w):wpAnyM P .any ops Q S m (fuel+1) listed a w:=
  ⟨fun h0=>absurd (hr ▸ h0) hne,hr ▸ h⟩
theorem An.one (i:Nat) (hr:Region.ready .any ops listed=[i]) (h:wpOp P ops Q i (fun a' w'=>((listed.setIfInBounds i true).getD m false=true∨S w')∧wpAnyM P .any ops Q S m fuel (listed.setIfInBounds i true) a' w') a w):wpAnyM P .any ops Q S m (fuel+1) listed a w:=
  wpAnyM_all hr (by simp) fun j hj=>by rcases List.mem_singleton.1 hj with rfl;exact h
theorem An.two (i j:Nat) (hr:Region.ready .any ops listed=[i,j]) (h:wpOp P ops Q i (fun a' w'=>((listed.setIfInBounds i true).getD m false=true∨S w')∧wpAnyM P .any ops Q S m fuel (listed.setIfInBounds i true) a' w') a w)
    (h':wpOp P ops Q j (fun a' w'=>((listed.setIfInBounds j true).getD m false=true∨S w')∧wpAnyM P .any ops Q S m fuel (listed.setIfInBounds j true) a' w') a w):wpAnyM P .any ops Q S m (fuel+1) listed a w:=
  wpAnyM_all hr (by simp) fun k hk=>by
    rcases List.mem_cons.1 hk with rfl|hk
    · exact h
    · rcases List.mem_singleton.1 hk with rfl;exact h'
theorem An.done (hr:Region.ready .any ops listed=[]) (h:Q .normal a w):wpAnyM P .any ops Q S m fuel listed a w:=by
  cases fuel with
  |zero=>exact⟨hr,h⟩
  |succ fuel=>exact⟨fun _=>h,by rw[hr];simp⟩
theorem wpOp_wanted (ho:ops[i]? =some o) (hw:Region.wanted o (yielded ops a.tmps)=true) (h:o.wp P a w K Q):wpOp P ops Q i K a w:=by
  unfold wpOp;simp only[ho,hw,if_true];exact .inl h
theorem Op.call (H:Sl n L a) (d:Nat) {f:FuncId}{args:Array Value}{R:Ending→World→Prop}(ho:ops[i]? =some o) (hc:chk ops n L o d=true)
    (hx:(execOp (ev L) o).run P w=.ok (.enter f args) w') (hC:Calls P f args w' R) (k:∀e w'',R e w''→∃v,e=.returned v∧∀a',Sl n ((d,v)::L) a'→K a' w''):wpOp P ops Q i K a w:=by
  obtain⟨hd,hn,hk,hs,hw⟩:=chk_spec hc;refine wpOp_wanted ho (H.wanted hw) ?_;unfold Oper.wp;rw[H.exec hk hs,hx,Oper.upon_enter];refine hC.mono fun e w'' he=>?_;obtain⟨v,rfl,hv⟩:=k e w'' he;rw[hd];exact hv _ (H.put v hn)
theorem Op.val (H:Sl n L a) (d:Nat) (v:Value) (ho:ops[i]? =some o) (hc:chk ops n L o d=true) (hx:(execOp (ev L) o).run P w=.ok (.value v) w') (k:∀a',Sl n ((d,v)::L) a'→K a' w'):wpOp P ops Q i K a w:=by
  obtain⟨hd,hn,hk,hs,hw⟩:=chk_spec hc;refine wpOp_wanted ho (H.wanted hw) ?_;unfold Oper.wp;rw[H.exec hk hs,hx,Oper.upon_value,hd];exact k _ (H.put v hn)
theorem Op.alloc {w0:World}{LH:List HB}(H:Sl n L a) (HP:Hp w0 w LH KB) (d:Nat) (V:Nat→Value) (t:TypeId) (vs:List Value) (ho:ops[i]? =some o) (hc:chk ops n L o d=true)
    (hx:∀w,(execOp (ev L) o).run P w=.ok (.value (V w.heap.size)) (w.alloc (.cells vs.toArray t)))
    (k:∀b w' a',Sl n ((d,V b)::L) a'→Hp w0 w' (bx b t vs true::LH) KB→K a' w'):wpOp P ops Q i K a w:=
  Op.val H d _ ho hc (hx w) fun a' H'=>k _ _ a' H' (HP.alloc t vs)
theorem Op.store {w0:World}{LH:List HB}{t:TypeId}{x y:Operand}{ty:TypeId}{pos:String}{af:Array Edge}{g:Option (Nat×Bool)}(H:Sl n L a) (HP:Hp w0 w LH KB) (ib b off k:Nat) (tb:TypeId) (us:List Value) (f:Bool) (v:Value) (LH':List HB)
    (ho:ops[i]? =some ⟨none,.store t x y,ty,pos,af,g⟩) (hc:chk0 ops L ⟨none,.store t x y,ty,pos,af,g⟩=true) (hx:ev L x=.pointer (some ⟨b,off,none⟩)) (hy:ev L y=v) (hi:LH[ib]? =some (bx b tb us f)) (hs:sizeB P t=some k) (hv:v.cells.size=k) (h1:oneCells v.cells.toList=true) (hl:Nat.ble (off+v.cells.toList.length) us.length=true)
    (hL:LH.set ib (bx b tb (setAll us off v.cells.toList) f)=LH')
    (kk:∀w' a',Sl n L a'→Hp w0 w' LH' KB→K a' w'):wpOp P ops Q i K a w:=by
  obtain⟨hd,hk,hs',hw⟩:=chk0_spec hc;refine wpOp_wanted ho (H.wanted hw) ?_;obtain⟨w',hr,hw'⟩:=run_storeCells (P:=P) (off:=off) v.cells.toList us 0 w LH KB HP hi h1 (by simpa [Nat.ble_eq] using hl);unfold Oper.wp;rw[H.exec hk hs'];simp only[execOp,hx,hy,Instr.storeAt,Instr.sureAddr,storeVar,Sem.run_bind,Sem.run_pure,Result.andThen_ok,run_sizeOf hs,hv];simp only[ne_eq,not_true_eq_false,if_false,hr,Result.andThen_ok,Oper.upon_skip];exact kk w' _ H (hL ▸ hw')
end
theorem ng_ret {Q:Exit→Act→World→Prop}{a:Act}{w:World}(h:Q .ret a w):Exit.noGoto Q .ret a w:=h
theorem wide_follows:Tryz.prog.follows .mixedOrders=true:=kr
section
variable {P:Program}{ops:Array Oper}{Q:Exit→Act→World→Prop}{a:Act}{w:World}{rest:List Oper}{o:Oper}{n:Nat}{L:List (Nat×Value)}
theorem Sl.v (H:Sl n L a) (d:Nat) (v:Value) (k:∀a',Sl n ((d,v)::L) a'→wpList P ops Q rest a' w) (hc:chk ops n L o d=true:=by kernel_rfl) (hx:(execOp (ev L) o).run P w=.ok (.value v) w:=by kernel_rfl):wpList P ops Q (o::rest) a w:=H.val d v hc hx k
theorem Sl.u (H:Sl n L a) (d:Nat) (v:Value) (hx:(execOp (ev L) o).run P w=.ok (.value v) w) (k:∀a',Sl n ((d,v)::L) a'→wpList P ops Q rest a' w) (hc:chk ops n L o d=true:=by kernel_rfl):wpList P ops Q (o::rest) a w:=H.val d v hc hx k
theorem Sl.s (H:Sl n L a) (d:Nat) (k:∀a',Sl n ((d,undef)::L) a'→wpList P ops Q rest a' w) (hc:chkSkip ops n L o d=true:=by kernel_rfl):wpList P ops Q (o::rest) a w:=H.skip d hc k
end
section
variable {P:Program}{ops:Array Oper}{Q:Exit→Act→World→Prop}{S:World→Prop}{a:Act}{w:World}{o:Oper}{n m fuel:Nat}{L:List (Nat×Value)}{listed:Array Bool}
theorem An.p (H:Sl n L a) (hS:listed.getD m false=true∨S w) (i d:Nat) (v:Value) (k:∀a',Sl n ((d,v)::L) a'→wpAnyM P .any ops Q S m fuel (listed.setIfInBounds i true) a' w) (ho:ops[i]? =some o:=by rfl) (hc:chk ops n L o d=true:=by kernel_rfl) (ht:chkP ops listed m i=true:=by kernel_rfl) (hQ:∀c a w,Q (.panic c) (a.put o.dst v) w→Q (.panic c) a w:=by exact fun _ _ _ h=>h)
    (hx:∀w,(execOp (ev L) o).run P w=.ok (.value v) w:=by exact fun _=>kr):wpAnyM P .any ops Q S m (fuel+1) listed a w:=An.pure H hS i d v ho hc ht hQ hx k
theorem An.s (H:Sl n L a) (hS:listed.getD m false=true∨S w) (i d:Nat) (k:∀a',Sl n ((d,undef)::L) a'→wpAnyM P .any ops Q S m fuel (listed.setIfInBounds i true) a' w) (ho:ops[i]? =some o:=by rfl) (hc:chkSkip ops n L o d=true:=by kernel_rfl) (ht:chkP ops listed m i=true:=by kernel_rfl) (hQ:∀c a w,Q (.panic c) (a.put o.dst undef) w→Q (.panic c) a w:=by exact fun _ _ _ h=>h):wpAnyM P .any ops Q S m (fuel+1) listed a w:=An.skip H hS i d ho hc ht hQ k
end
theorem Hp.perm {w0 w:World}{L L':List HB}{K:List FK}(H:Hp w0 w L K) (h:L.Perm L'):Hp w0 w L' K:=
  ⟨H.os,H.tape,H.output,H.size,fun k hk hn=>H.old k hk fun x hx=>hn x (h.subset hx),fun x hx=>H.res x (h.symm.subset hx),h.pairwise H.apart (fun{x y} hxy k hk hk'=>hxy k hk' hk),fun x hx=>H.fresh x (h.symm.subset hx),fun p hp=>let ⟨h1,h2,h3⟩:=H.kept p hp;⟨h1,h2,fun k hk=>⟨(h3 k hk).1,fun x hx=>(h3 k hk).2 x (h.symm.subset hx)⟩⟩⟩
theorem Hp.untop {w0 w:World}{L:List HB}{p:FK}{K:List FK}(H:Hp w0 w L (p::K)):Hp w0 w L K:=H.keeps (List.subset_cons_self _ _)
theorem perm_front {α:Type}:∀{L:List α}{i:Nat}{x:α},L[i]? =some x→L.Perm (x::L.eraseIdx i)
  | [],_,_,h=>by cases h
  |a::L,0,x,h=>by simp only[List.getElem?_cons_zero,Option.some.injEq] at h;subst h;exact .refl _
  |a::L,i+1,x,h=>by
    simp only[List.getElem?_cons_succ] at h
    simp only[List.eraseIdx_cons_succ]
    exact((perm_front h).cons a).trans (.swap _ _ _)
theorem Hp.front {w0 w:World}{L:List HB}{K:List FK}(H:Hp w0 w L K) (i:Nat) {x:HB}(hi:L[i]? =some x) (L':List HB) (hL:x::L.eraseIdx i=L'):Hp w0 w L' K:=by
  subst hL;exact H.perm (perm_front hi)
def placed (L:List HB):List Nat→List HB
  | []=>[]
  |i::is=>match L[i]? with
    |some x=>x::placed L is
    |none=>placed L is
theorem Rd.of_boxN {w:World}{b t size:Nat}{vs:List Value}(h:Box w b t vs.toArray) (hl:vs.length=1*size):Rd w size (some ⟨b,0,none⟩) 1 vs:=
  ⟨hl,.inr ⟨b,0,rfl,h.lt,fun i hi=>by
    have hi':i<vs.length:=om
    rw[Nat.zero_add,List.getElem?_eq_getElem hi']
    exact h.cell (by simp[List.getElem?_eq_getElem hi'])⟩⟩
theorem oneCells_spec:∀{vs:List Value},oneCells vs=true→∀u∈vs,u.oneCell'=true
  | [],_,u,h=>by cases h
  |v::vs,h,u,hu=>by
    simp only[oneCells,Bool.and_eq_true] at h
    rcases List.mem_cons.1 hu with rfl|hu
    · have h1:=h.1
      cases u<;>first|rfl|cases h1
    · exact oneCells_spec h.2 u hu
def infoB (P:Program) (e:TypeId):Option (Option Value×Nat×Nat):=(P.info? e).map fun i=>(i.zero,i.size,i.bytes)
theorem infoB_spec {P:Program}{e:TypeId}{z:Value}{size bytes:Nat}(h:infoB P e=some (some z,size,bytes)):∃i,P.info? e=some i∧i.zero=some z∧i.size=size∧i.bytes=bytes:=by
  unfold infoB at h;cases hi:P.info? e with
  |none=>rw[hi] at h;cases h
  |some i=>
    rw[hi] at h;simp only[Option.map_some,Option.some.injEq,Prod.mk.injEq] at h;exact⟨i,rfl,h⟩
section
variable {α:Type}
def ElOk (ok:α→World→Prop) (fe:α→Nat→Prop):Prop:=∀a w1 w2,ok a w1→(∀k,fe a k→w2.heap[k]? =w1.heap[k]?)→w1.heap.size≤w2.heap.size→ok a w2
theorem elOk_flat:ElOk (α:=α) (fun _ _=>True) (fun _ _=>False):=fun _ _ _ _ _ _=>trivial
abbrev flat (cs:α→Array Value) (l:List α):List Value:=l.flatMap fun a=>(cs a).toList
def rowsR (base:Nat) (e:TypeId) (size:Nat) (cs:α→Array Value) (ok:α→World→Prop) (fe:α→Nat→Prop) (v:Value) (l:List α):HB:=
  ⟨fun k=>v.ownBlock=some k∨∃a∈l,fe a k,fun w=>w.ownsRow base e size v l.length (flat cs l)∧∀a∈l,ok a w∧∀k,fe a k→k<w.heap.size∧v.ownBlock≠some k,true,none,fun _ _ h=>by cases h⟩
def rowsP (base:Nat) (e:TypeId) (size:Nat) (cs:α→Array Value) (ok:α→World→Prop) (fe:α→Nat→Prop) (v:Value) (l:List α) (p:α):HB:=
  ⟨fun k=>(v.ownBlock=some k∨∃a∈l,fe a k)∨fe p k,fun w=>(w.ownsRow base e size v l.length (flat cs l)∧∀a∈l,ok a w∧∀k,fe a k→k<w.heap.size∧v.ownBlock≠some k)∧ok p w∧∀k,fe p k→k<w.heap.size∧v.ownBlock≠some k,true,none,fun _ _ h=>by cases h⟩
variable {base:Nat}{e:TypeId}{size:Nat}{cs:α→Array Value}{ok:α→World→Prop}{fe:α→Nat→Prop}{v:Value}{l:List α}{p:α}
theorem own_keep {w1 w2:World}{n:Nat}{xs:List Value}(h:w1.ownsRow base e size v n xs) (hk:∀k,v.ownBlock=some k→w2.heap[k]? =w1.heap[k]?):w2.ownsRow base e size v n xs:=by
  obtain⟨h1,h2⟩:=h;refine⟨h1,?_⟩;rcases h2 with h2|⟨g,cap,cur,hv,hg,hh,r⟩
  · exact .inl h2
  · exact .inr ⟨g,cap,cur,hv,hg,(hk g (by rw[hv];rfl)).trans hh,r⟩
theorem own_lt {w:World}{n:Nat}{xs:List Value}(h:w.ownsRow base e size v n xs):∀k,v.ownBlock=some k→k<w.heap.size∧base≤k:=by
  intro k hk;rcases h.2 with⟨rfl,_⟩|⟨g,cap,cur,rfl,hb,hh,_⟩
  · cases hk
  · cases hk;exact⟨(Array.getElem?_eq_some_iff.1 hh).1,hb⟩
theorem rowsR_ok (hel:ElOk ok fe):(rowsR base e size cs ok fe v l).ok:=fun w1 w2 h hk hs=>
  ⟨own_keep h.1 fun k hv=>hk k (.inl hv),fun a ha=>⟨hel a w1 w2 (h.2 a ha).1 (fun k hf=>hk k (.inr ⟨a,ha,hf⟩)) hs,fun k hf=>⟨Nat.lt_of_lt_of_le ((h.2 a ha).2 k hf).1 hs,((h.2 a ha).2 k hf).2⟩⟩⟩
theorem rowsP_ok (hel:ElOk ok fe):(rowsP base e size cs ok fe v l p).ok:=fun w1 w2 h hk hs=>
  ⟨⟨own_keep h.1.1 fun k hv=>hk k (.inl (.inl hv)),fun a ha=>⟨hel a w1 w2 (h.1.2 a ha).1 (fun k hf=>hk k (.inl (.inr ⟨a,ha,hf⟩))) hs,fun k hf=>⟨Nat.lt_of_lt_of_le ((h.1.2 a ha).2 k hf).1 hs,((h.1.2 a ha).2 k hf).2⟩⟩⟩,
    hel p w1 w2 h.2.1 (fun k hf=>hk k (.inr hf)) hs,fun k hf=>⟨Nat.lt_of_lt_of_le (h.2.2 k hf).1 hs,(h.2.2 k hf).2⟩⟩
theorem Hp.nilRow {w0 w:World}{L:List HB}{K:List FK}(H:Hp w0 w L K) (base:Nat) (e:TypeId) (size:Nat) (cs:α→Array Value) (ok:α→World→Prop) (fe:α→Nat→Prop) (hel:ElOk ok fe):Hp w0 w (rowsR base e size cs ok fe (.slice none 0 0) []::L) K:=
  have hno:∀k,¬(rowsR base e size cs ok fe (.slice none 0 0) []).fp k:=fun k hk=>by
    rcases hk with h|⟨a,ha,_⟩
    · cases h
    · cases ha
  H.add _ ⟨World.ownsRow_nil _ _ _ _,fun a ha=>by cases ha⟩ (rowsR_ok hel) (fun k hk=>(hno k hk).elim) (fun k hk=>(hno k hk).elim) (fun _ k hk=>(hno k hk).elim)
theorem Hp.pend {w0 w w':World}{L:List HB}{K:List FK}(H:Hp w0 w L K) (i:Nat) (hi:L[i]? =some (rowsR base e size cs ok fe v l)) (hel:ElOk ok fe) (p:α) (L':List HB) (hL:L.set i (rowsP base e size cs ok fe v l p)=L') (hb:Below w.heap.size w w') (hp:ok p w') (hn:∀k,fe p k→w.heap.size≤k∧k<w'.heap.size):Hp w0 w' L' K:=by
  have hx:=H.held i hi;have hr:=(H.res _ (List.mem_of_getElem? hi)).2.2;have hx':=rowsR_ok (base:=base) (e:=e) (size:=size) (cs:=cs) (v:=v) (l:=l) hel w w' hx (fun k hk=>hb.block k (hr k hk)) hb.size;refine H.mut i hi (rowsP base e size cs ok fe v l p) L' hL (Agree.of_below hb) ⟨hx',hp,fun k hk=>⟨(hn k hk).2,fun e=>?_⟩⟩ (rowsP_ok hel) (fun k hk=>?_) (fun k hk=>?_) (fun k _ hk=>.inl hk) rfl
  · have:=hr k (.inl e);have:=(hn k hk).1;omega
  · rcases hk with hk|hk
    · exact Nat.lt_of_lt_of_le (hr k hk) hb.size
    · exact(hn k hk).2
  · rcases hk with hk|hk
    · exact .inl hk
    · exact .inr (hn k hk).1
theorem Hp.pend0 {w0 w:World}{L:List HB}{K:List FK}(H:Hp w0 w L K) (i:Nat) (hi:L[i]? =some (rowsR base e size cs ok fe v l)) (hel:ElOk ok fe) (p:α) (L':List HB) (hL:L.set i (rowsP base e size cs ok fe v l p)=L') (hp:ok p w) (hn:∀k,¬fe p k):Hp w0 w L' K:=
  H.pend i hi hel p L' hL (Below.refl _ _) hp fun k hk=>(hn k hk).elim
theorem flat_snoc (cs:α→Array Value) (l:List α) (p:α):flat cs (l++[p])=flat cs l++(cs p).toList:=by simp[flat]
theorem wp_push {P:Program}{w0 w:World}{LH:List HB}{K:List FK}{o:Oper}{a:Act}{KK:Act→World→Prop}{Q:Exit→Act→World→Prop}(HP:Hp w0 w LH K) (ir ib:Nat) {bb tb:Nat}{fb:Bool}(s x:Operand) (t:TypeId)
    (ho:o.op=.call { callee:=.builtin .append,args:=#[s,x],argTypes:=#[t,t]}) (hel:ElOk ok fe) {z:Value}{bytes:Nat}(ht:P.underlying t=some (.slice e)) (hinf:infoB P e=some (some z,size,bytes)) (hzs:z.cells.size=size) (hsz:0<size)
    (hs:a.eval s=v) (hx:a.eval x=.slice (some ⟨bb,0,none⟩) 1 1) (hi:LH[ir]? =some (rowsP w0.heap.size e size cs ok fe v l p)) (hb:LH[ib]? =some (bx bb tb (cs p).toList fb)) (hl:(cs p).toList.length=size) (h1:oneCells (cs p).toList=true)
    (h63:l.length+1≤maxLen) (hbytes:(l.length+1)*bytes≤140737488355328)
    (h:∀B c' w',Hp w0 w' (LH.set ir (rowsR w0.heap.size e size cs ok fe (.slice B (l.length+1) c') (l++[p]))) K→KK (a.put o.dst (.slice B (l.length+1) c')) w'):o.wp P a w KK Q:=by
  obtain⟨i,hi0,hi1,hi2,hi3⟩:=infoB_spec hinf;have hF:=HP.held ir hi;have hres:=(HP.res _ (List.mem_of_getElem? hi)).2.2;refine wp_append_rd w s x t ho w0.heap.size e i z size bytes ht hi0 hi1 hi2 hi3 hzs hsz v l.length (flat cs l) hs hF.1.1 (some ⟨bb,0,none⟩) 1 1 (cs p).toList hx (fun e=>by cases e) (Rd.of_boxN (HP.at_ ib hb) om) (oneCells_spec h1) h63 hbytes HP.size ?_;intro B c' w' hown hg hat;refine h B c' w' ?_;have hkeep:∀a,(∀k,fe a k→k<w.heap.size∧v.ownBlock≠some k)→∀k,fe a k→w'.heap[k]? =w.heap[k]? :=fun a hf k hk=>hg.block k (hf k hk).1 fun e=>(hf k hk).2 e.symm;have hsep:∀a,(∀k,fe a k→k<w.heap.size∧v.ownBlock≠some k)→∀k,fe a k→k<w'.heap.size∧(Value.slice B (l.length+1) c').ownBlock≠some k:=fun a hf k hk=>⟨Nat.lt_of_lt_of_le (hf k hk).1 hg.size,fun e=>by
    rcases hat with h'|h'
    · exact(hf k hk).2 (h' ▸ e)
    · rw[h'] at e;have:=(hf k hk).1;have e':=Option.some.inj e;omega⟩
  refine HP.mut ir hi _ _ rfl (Agree.of_grown hg fun k hk=>.inl (.inl hk)) ⟨?_,?_⟩ (rowsR_ok hel) (fun k hk=>?_) (fun k hk=>?_) (fun k hk hk'=>?_) rfl
  · rw[flat_snoc,List.length_append];exact hown
  · intro a ha;rcases List.mem_append.1 ha with ha|ha
    · exact⟨hel a w w' (hF.1.2 a ha).1 (hkeep a (hF.1.2 a ha).2) hg.size,hsep a (hF.1.2 a ha).2⟩
    · rcases List.mem_singleton.1 ha with rfl;exact⟨hel a w w' hF.2.1 (hkeep a hF.2.2) hg.size,hsep a hF.2.2⟩
  · rcases hk with hk|⟨a,ha,hk⟩
    · exact(own_lt hown k hk).1
    · rcases List.mem_append.1 ha with ha|ha
      · exact(hsep a (hF.1.2 a ha).2 k hk).1
      · rcases List.mem_singleton.1 ha with rfl;exact(hsep a hF.2.2 k hk).1
  · rcases hk with hk|⟨a,ha,hk⟩
    · rcases hat with h'|h'
      · exact .inl (.inl (.inl (h' ▸ hk)))
      · rw[h'] at hk;have:=Option.some.inj hk;exact .inr om
    · rcases List.mem_append.1 ha with ha|ha
      · exact .inl (.inl (.inr ⟨a,ha,hk⟩))
      · rcases List.mem_singleton.1 ha with rfl;exact .inl (.inr hk)
  · have:=HP.fresh _ (List.mem_of_getElem? hi) rfl k hk';omega
theorem Sl.push {P:Program}{ops:Array Oper}{Q:Exit→Act→World→Prop}{a:Act}{w0 w:World}{LH:List HB}{K:List FK}{rest:List Oper}{n:Nat}{L:List (Nat×Value)}{s x:Operand}{t ty:TypeId}{pos:String}{af:Array Edge}{g:Option (Nat×Bool)}(H:Sl n L a) (HP:Hp w0 w LH K) (d ir ib:Nat) {bb tb:Nat}{fb:Bool}{z:Value}{bytes:Nat}
    (hc:chk ops n L ⟨some d,.call { callee:=.builtin .append,args:=#[s,x],argTypes:=#[t,t]},ty,pos,af,g⟩ d=true) (hel:ElOk ok fe) (ht:P.underlying t=some (.slice e)) (hinf:infoB P e=some (some z,size,bytes)) (hzs:z.cells.size=size) (hsz:Nat.blt 0 size=true)
    (hs:ev L s=v) (hx:ev L x=.slice (some ⟨bb,0,none⟩) 1 1) (hi:LH[ir]? =some (rowsP w0.heap.size e size cs ok fe v l p)) (hb:LH[ib]? =some (bx bb tb (cs p).toList fb)) (hl:(cs p).toList.length=size) (h1:oneCells (cs p).toList=true)
    (h63:l.length+1≤maxLen) (hbytes:(l.length+1)*bytes≤140737488355328)
    (k:∀B c' w' a',Sl n ((d,.slice B (l.length+1) c')::L) a'→Hp w0 w' (LH.set ir (rowsR w0.heap.size e size cs ok fe (.slice B (l.length+1) c') (l++[p]))) K→wpList P ops Q rest a' w'):
    wpList P ops Q (⟨some d,.call { callee:=.builtin .append,args:=#[s,x],argTypes:=#[t,t]},ty,pos,af,g⟩::rest) a w:=by
  obtain⟨hd,hn,hk,hs',hw⟩:=chk_spec hc;have k1:=knowsAll_spec hk s (by simp[Op.operands,Call.operands]);have k2:=knowsAll_spec hk x (by simp[Op.operands,Call.operands]);exact wpList_wanted (H.wanted hw) (wp_push HP ir ib s x t rfl hel ht hinf hzs (by simp[Nat.blt] at hsz;omega) ((H.eval k1).trans hs) ((H.eval k2).trans hx) hi hb hl h1 h63 hbytes fun B c' w' h'=>k B c' w' _ (H.put _ hn) h')
theorem Op.push {P:Program}{ops:Array Oper}{Q:Exit→Act→World→Prop}{a:Act}{w0 w:World}{LH:List HB}{K:List FK}{KK:Act→World→Prop}{i n:Nat}{L:List (Nat×Value)}{s x:Operand}{t ty:TypeId}{pos:String}{af:Array Edge}{g:Option (Nat×Bool)}(H:Sl n L a) (HP:Hp w0 w LH K) (d ir ib:Nat) {bb tb:Nat}{fb:Bool}{z:Value}{bytes:Nat}
    (hop:ops[i]? =some ⟨some d,.call { callee:=.builtin .append,args:=#[s,x],argTypes:=#[t,t]},ty,pos,af,g⟩)
    (hc:chk ops n L ⟨some d,.call { callee:=.builtin .append,args:=#[s,x],argTypes:=#[t,t]},ty,pos,af,g⟩ d=true) (hel:ElOk ok fe) (ht:P.underlying t=some (.slice e)) (hinf:infoB P e=some (some z,size,bytes)) (hzs:z.cells.size=size) (hsz:Nat.blt 0 size=true)
    (hs:ev L s=v) (hx:ev L x=.slice (some ⟨bb,0,none⟩) 1 1) (hi:LH[ir]? =some (rowsP w0.heap.size e size cs ok fe v l p)) (hb:LH[ib]? =some (bx bb tb (cs p).toList fb)) (hl:(cs p).toList.length=size) (h1:oneCells (cs p).toList=true)
    (h63:l.length+1≤maxLen) (hbytes:(l.length+1)*bytes≤140737488355328)
    (k:∀B c' w' a',Sl n ((d,.slice B (l.length+1) c')::L) a'→Hp w0 w' (LH.set ir (rowsR w0.heap.size e size cs ok fe (.slice B (l.length+1) c') (l++[p]))) K→KK a' w'):wpOp P ops Q i KK a w:=by
  obtain⟨hd,hn,hk,hs',hw⟩:=chk_spec hc;have k1:=knowsAll_spec hk s (by simp[Op.operands,Call.operands]);have k2:=knowsAll_spec hk x (by simp[Op.operands,Call.operands]);exact wpOp_wanted hop (H.wanted hw) (wp_push HP ir ib s x t rfl hel ht hinf hzs (by simp[Nat.blt] at hsz;omega) ((H.eval k1).trans hs) ((H.eval k2).trans hx) hi hb hl h1 h63 hbytes fun B c' w' h'=>k B c' w' _ (H.put _ hn) h')
end
section
variable {P:Program}{ρ:Operand→Value}{w:World}{t e:TypeId}{x y z:Operand}{dst:Option Tmp}{ty:TypeId}{pos:String}{af:Array Edge}{g:Option (Nat×Bool)}{k kk:IntKind}{ats:Array TypeId}
theorem min_if (m n:Int):(if n<m then n else m)=min m n:=om
theorem max_if (m n:Int):(if n>m then n else m)=max m n:=om
theorem sliced_h (A:Option Addr) (m cap s:Nat):sliced A 0 m cap s=.slice A m cap:=by
  unfold sliced;have e:A.map (·.add (0*s))=A:=by cases A<;>simp[Addr.add_zero']
  rw[e];simp
theorem ex_sliceH {A:Option Addr}{len cap m:Nat}{n:Int}{sz:Nat}(hx:ρ x=.slice A len cap) (hy:ρ y=.int k n) (hu:P.underlying t=some (.slice (P.elem t))) (hs:sizeB P (P.elem t)=some sz) (hn:n=(m:Int)) (hm:m≤cap):
    (execOp ρ ⟨dst,.slice t x none (some y) none,ty,pos,af,g⟩).run P w=.ok (.value (.slice A m cap)) w:=by
  subst hn;simp only[execOp,hx,hy,Option.map_none,Option.map_some,run_sliceAt_slice w t _ _ _ _ hu,run_slice_h w t A len cap hu k (m:Int) om om,run_sizeOf hs,Sem.run_bind,Result.andThen_ok,Sem.run_pure,Int.toNat_natCast,sliced_h]
end
section
variable {α:Type}{base:Nat}{e:TypeId}{size:Nat}{cs:α→Array Value}{ok:α→World→Prop}{fe:α→Nat→Prop}
theorem one_cells {v:Value}(h:one v=true):v.cells.size=1∧v.cells.toList=[v]:=by
  cases v<;>first|exact⟨rfl,rfl⟩|cases h
end
abbrev bstr (l:List UInt8):ByteArray:=ByteArray.mk l.toArray
theorem bstr_size (l:List UInt8):(bstr l).size=l.length:=rfl
theorem bstr_eq (a b:List UInt8):((bstr a).toList == (bstr b).toList)=(a == b):=by rw[ByteArray.toList_mk,ByteArray.toList_mk]
section
variable {P:Program}{ρ:Operand→Value}{w:World}{t e:TypeId}{x y z:Operand}{dst:Option Tmp}{ty:TypeId}{pos:String}{af:Array Edge}{g:Option (Nat×Bool)}{k kk:IntKind}
theorem bstr_get (l:List UInt8) (m:Nat):∀(q:Nat) (hq:q<(bstr l).size),q=m→((bstr l)[q]'hq).toNat=(l.getD m 0).toNat:=by
  rintro q hq rfl;have hm:q<l.length:=hq;show(l.toArray[q]'(by simpa using hm)).toNat=_;simp[List.getD,List.getElem?_eq_getElem hm]
theorem ex_sindex {l:List UInt8}{i:Int}{m:Nat}(hx:ρ x=.string (bstr l)) (hy:ρ y=.int k i) (hu:P.underlying t=some .string) (hi:i=(m:Int)) (hm:m<l.length):
    (execOp ρ ⟨dst,.index t x y,ty,pos,af,g⟩).run P w=.ok (.value (.int .u8 (((l.getD m 0).toNat:Nat):Int))) w:=by
  subst hi;have h1:(0:Int)≤(m:Int)∧(m:Int)<((bstr l).size:Int):=⟨om,by rw[bstr_size];omega⟩;have h2:=run_index_string (P:=P) w t (bstr l) k (m:Int) hu;rw[dif_pos h1,bstr_get l m _ _ (Int.toNat_natCast m)] at h2;simp only[execOp,hx,hy,h2,Sem.run_bind,Result.andThen_ok,Sem.run_pure]
theorem extract_bstr (l:List UInt8) (a b:Nat):(bstr l).extract a b=bstr ((l.drop a).take (b-a)):=ByteArray.extract_mk l a b
theorem ex_sslice {l:List UInt8}{i j:Int}{a b:Nat}(hx:ρ x=.string (bstr l)) (hy:ρ y=.int k i) (hz:ρ z=.int kk j) (hu:P.underlying t=some .string) (hi:i=(a:Int)) (hj:j=(b:Int)) (hab:a≤b) (hb:b≤l.length):
    (execOp ρ ⟨dst,.slice t x (some y) (some z) none,ty,pos,af,g⟩).run P w=.ok (.value (.string (bstr ((l.drop a).take (b-a))))) w:=by
  subst hi;subst hj;have h2:=run_slice_string (P:=P) w t (bstr l) k kk (a:Int) (b:Int) hu om om (by rw[bstr_size];omega);simp only[execOp,hx,hy,hz,Option.map_none,Option.map_some,run_sliceAt_string w t _ _ _ _ hu,h2,Sem.run_bind,Result.andThen_ok,Sem.run_pure,Int.toNat_natCast,extract_bstr]
theorem ex_ssliceH {l:List UInt8}{j:Int}{b:Nat}(hx:ρ x=.string (bstr l)) (hz:ρ z=.int kk j) (hu:P.underlying t=some .string) (hj:j=(b:Int)) (hb:b≤l.length):
    (execOp ρ ⟨dst,.slice t x none (some z) none,ty,pos,af,g⟩).run P w=.ok (.value (.string (bstr (l.take b)))) w:=by
  subst hj;have h2:=run_slice_string_h (P:=P) w t (bstr l) hu kk (b:Int) om (by rw[bstr_size];omega);simp only[execOp,hx,hz,Option.map_none,Option.map_some,run_sliceAt_string w t _ _ _ _ hu,h2,Sem.run_bind,Result.andThen_ok,Sem.run_pure,Int.toNat_natCast,extract_bstr,List.drop_zero,Nat.sub_zero]
theorem ex_ssliceL {l:List UInt8}{i:Int}{a:Nat}(hx:ρ x=.string (bstr l)) (hy:ρ y=.int k i) (hu:P.underlying t=some .string) (hi:i=(a:Int)) (ha:a≤l.length):
    (execOp ρ ⟨dst,.slice t x (some y) none none,ty,pos,af,g⟩).run P w=.ok (.value (.string (bstr (l.drop a)))) w:=by
  subst hi;have h2:=run_slice_string_l (P:=P) w t (bstr l) hu k (a:Int) om (by rw[bstr_size];omega);rw[Int.toNat_natCast,extract_bstr,List.take_of_length_le (by rw[List.length_drop,bstr_size];exact Nat.le_refl _)] at h2;simp only[execOp,hx,hy,Option.map_none,Option.map_some,run_sliceAt_string w t _ _ _ _ hu,h2,Sem.run_bind,Result.andThen_ok,Sem.run_pure]
theorem bstr_append (a b:List UInt8):bstr a++bstr b=bstr (a++b):=by
  apply ByteArray.ext;simp
theorem ex_sadd {a b:List UInt8}(hx:ρ x=.string (bstr a)) (hy:ρ y=.string (bstr b)) (h:a.length+b.length≤9223372036854775807):
    (execOp ρ ⟨dst,.binOp .add t x y ty,ty,pos,af,g⟩).run P w=.ok (.value (.string (bstr (a++b)))) w:=by
  have:=run_string_add_sum (P:=P) w (bstr a) (bstr b) (by rw[bstr_size,bstr_size];exact h);simp[execOp,hx,hy,binOp,eqGuard,this,bstr_append]
end
theorem ex_aindex {P:Program}{ρ:Operand→Value}{w:World}{t e:TypeId}{x y:Operand}{dst:Option Tmp}{ty:TypeId}{pos:String}{af:Array Edge}{g:Option (Nat×Bool)}{b off n m k:Nat}{i:Int}{ik:IntKind}
    (hx:ρ x=.pointer (some ⟨b,off,none⟩)) (hy:ρ y=.int ik i) (hm:i=(m:Int)) (hlt:m<n) (hu:P.underlying t=some (.array n e)) (hs:sizeB P e=some k):(execOp ρ ⟨dst,.indexAddr t x y,ty,pos,af,g⟩).run P w=.ok (.value (.pointer (some ⟨b,off+m*k,none⟩))) w:=by
  subst hm;have h1:(0:Int)≤m∧(m:Int)<n:=om;have h2:P.arrayLen t=n:=by simp[Program.arrayLen,hu]
  have h3:P.elem t=e:=by simp[Program.elem,hu]
  have hu':P.underlying t=some (.array (P.arrayLen t) (P.elem t)):=by rw[h2,h3];exact hu
  simp only[execOp,hx,hy,run_indexAt_array w t ⟨b,off,none⟩ ik (m:Int) hu',h2,h3,h1,and_self,if_true,run_sizeOf hs,Sem.run_bind,Result.andThen_ok,Sem.run_pure,add_plain,Int.toNat_natCast]
theorem wrap_inu32 (n:Int) (h:0≤n∧n≤4294967295):IntKind.u32.wrap n=n:=by
  simp[IntKind.wrap,IntKind.min,IntKind.max,IntKind.signed,IntKind.bits];omega
theorem shr_nat {a c:Nat}:((a:Nat):Int).fdiv (2^c)=((a/2^c:Nat):Int):=by
  rw[Int.fdiv_eq_ediv_of_nonneg _ (by exact_mod_cast Nat.zero_le (2^c))];norm_cast
theorem bits_xor_u32 {a b:Nat}(ha:a<4294967296) (hb:b<4294967296):bits .xor .u32 (a:Int) (b:Int)=((a ^^^ b:Nat):Int):=by
  have h:=Nat.xor_lt_two_pow (n:=32) (x:=a) (y:=b) om om;have ha':a%2^IntKind.u32.bits=a:=Nat.mod_eq_of_lt ha;have hb':b%2^IntKind.u32.bits=b:=Nat.mod_eq_of_lt hb;simp only[bits,BitVec.ofInt_natCast,BitVec.toNat_xor,BitVec.toNat_ofNat,ha',hb'];exact wrap_inu32 _ om
theorem bits_and_u32 {a b:Nat}(ha:a<4294967296) (hb:b<4294967296):bits .and .u32 (a:Int) (b:Int)=((a&&&b:Nat):Int):=
  (bits_nat .u32 32 (by decide) (fun n h0 h1=>wrap_inu32 n om) a b om om).1
def nth {α:Type}:List α→Nat→Option α
  | [],_=>none
  |x::_,0=>some x
  |_::l,i+1=>nth l i
theorem nth_eq {α:Type}:∀(l:List α) (i:Nat),nth l i=l[i]?
  | [],i=>by simp[nth]
  |x::l,0=>by simp[nth]
  |x::l,i+1=>by simp[nth,nth_eq l i]
def ldV (P:Program) (LH:List HB) (L:List (Nat×Value)) (t:TypeId) (x:Operand) (i:Nat):Option (Value×Nat×Nat):=
  match ev L x with
  | .pointer (some ⟨b',off,none⟩)=>match (nth LH i).bind HB.data with
    |some (b,vs)=>match aggB P t with
      |some false=>match nth vs off with
        |some v=>some (v,b',b)
        |none=>none
      |some true=>match sizeB P t with
        |some k=>bif Nat.beq ((vs.drop off).take k).length k then some (.agg ((vs.drop off).take k).toArray,b',b) else none
        |none=>none
      |none=>none
    |none=>none
  |_=>none
abbrev GoR:=List (Nat×Value)×List (World×World)×List (Nat×Nat)
def goV (P:Program) (ops:Array Oper) (n:Nat) (LH:List HB) (w:World):Nat→List Oper→List Nat→List (Nat×Value)→List (World×World)→List (Nat×Nat)→Option GoR
  |0,_,_,L,ws,es=>some (L,ws,es)
  |_+1,[],_,_,_,_=>none
  |k+1,o::rest,hs,L,ws,es=>match o.dst with
    |none=>none
    |some d=>match Nat.blt d n,wantedL ops L o with
      |true,some false=>goV P ops n LH w k rest hs ((d,undef)::L) ws es
      |true,some true=>match knowsAll L o.op.operands.toList&&notSelect o.op with
        |true=>match o.op with
          | .load t x=>match hs with
            |i::hs'=>match ldV P LH L t x i with
              |some (v,e)=>goV P ops n LH w k rest hs' ((d,v)::L) ws (e::es)
              |none=>none
            | []=>none
          |_=>match (execOp (ev L) o).run P w with
            | .ok (.value v) w'=>goV P ops n LH w k rest hs ((d,v)::L) ((w',w)::ws) es
            |_=>none
        |false=>none
      |_,_=>none
def newL (New L:List (Nat×Value)):List (Nat×Value)→Nat→List (Nat×Value)→Bool
  |_,0,_=>true
  |_,_+1,[]=>true
  |_,k+1,p::L1=>(match look p.1 New with|some _=>true|none=>match look p.1 L with|some _=>false|none=>true)&&newL New L [] k L1
def goA (P:Program) (ops:Array Oper) (n:Nat) (LH:List HB) (w:World) (k:Nat) (l:List Oper) (hs:List Nat) (L New:List (Nat×Value)):Option (List (Option Value)×List World×List Nat×Bool):=
  (goV P ops n LH w k l hs L [] []).map (fun r=>(New.map (fun p=>look p.1 r.1),r.2.1.map (·.1),r.2.2.map (·.1),newL New L [] k r.1))
def goB (P:Program) (ops:Array Oper) (n:Nat) (LH:List HB) (w:World) (k:Nat) (l:List Oper) (hs:List Nat) (L New:List (Nat×Value)):Option (List (Option Value)×List World×List Nat×Bool):=
  (match goV P ops n LH w k l hs L [] [] with|some r=>some (New.map (fun p=>some p.2),r.2.1.map (·.2),r.2.2.map (·.2),true)|none=>some ([],[],[],false))
section
variable {P:Program}{ops:Array Oper}{Q:Exit→Act→World→Prop}{w0 w:World}{n:Nat}{LH:List HB}{K:List FK}
theorem cellsAt_box {b:Nat}{t:TypeId}{vs:List Value}(h:Box w b t vs.toArray) (off k:Nat):cellsAt w b off ((vs.drop off).take k):=fun i v hv=>by
  refine h.cell ?_
  rw[List.getElem?_take] at hv
  split at hv
  · rw[List.getElem?_drop] at hv
    simpa using hv
  · cases hv
theorem ldV_spec {L:List (Nat×Value)}{t:TypeId}{x:Operand}{i b' b:Nat}{v:Value}{dst:Option Tmp}{ty:TypeId}{pos:String}{af:Array Edge}{g:Option (Nat×Bool)}(HP:Hp w0 w LH K) (h:ldV P LH L t x i=some (v,b',b)) (hb:b'=b):
    (execOp (ev L) ⟨dst,.load t x,ty,pos,af,g⟩).run P w=.ok (.value v) w:=by
  unfold ldV at h;split at h
  · rename_i b1 off hx;split at h
    · rename_i b2 vs hd;rw[nth_eq] at hd;obtain⟨y,hy,hd⟩:=Option.bind_eq_some_iff.1 hd;obtain⟨T,hbox⟩:=y.is _ _ hd w (HP.held i hy);split at h
      · rename_i ha;split at h
        · rename_i u hu;simp only[Option.some.injEq,Prod.mk.injEq] at h;obtain⟨rfl,rfl,rfl⟩:=h;subst hb;exact ex_load1 hx ha (hbox.cell (by rw[nth_eq] at hu;simpa using hu))
        · cases h
      · rename_i ha;split at h
        · rename_i k hk;cases hl:Nat.beq ((vs.drop off).take k).length k with
          |false=>rw[hl] at h;cases h
          |true=>
            rw[hl] at h;simp only[cond_true,Option.some.injEq,Prod.mk.injEq] at h;obtain⟨rfl,rfl,rfl⟩:=h;subst hb;exact ex_loadN hx ha hk (Nat.eq_of_beq_eq_true hl) (cellsAt_box hbox off k)
        · cases h
      · cases h
    · cases h
  · cases h
theorem goV_spec (HP:Hp w0 w LH K):∀(k:Nat) (l:List Oper) (hs:List Nat) (L:List (Nat×Value)) (ws:List (World×World)) (es:List (Nat×Nat)) (r:GoR),goV P ops n LH w k l hs L ws es=some r →
    (∀p∈r.2.1,p.1=p.2)→(∀p∈r.2.2,p.1=p.2)→(∃Lw,r.1=Lw++L∧Lw.length=k)∧(∀p∈ws,p∈r.2.1)∧(∀p∈es,p∈r.2.2)∧∀a,Sl n L a→(∀a',Sl n r.1 a'→wpList P ops Q (l.drop k) a' w)→wpList P ops Q l a w
  |0,l,hs,L,ws,es,r,h,_,_=>by
    simp only[goV,Option.some.injEq] at h
    subst h
    exact⟨⟨[],rfl,rfl⟩,fun _ h=>h,fun _ h=>h,fun a H kk=>kk a H⟩
  |k+1,[],hs,L,ws,es,r,h,_,_=>by simp[goV] at h
  |k+1,o::rest,hs,L,ws,es,r,h,hw,he=>by
    rw[goV] at h
    cases hd:o.dst with
    |none=>rw[hd] at h;cases h
    |some d=>
      rw[hd] at h
      simp only at h
      split at h
      · rename_i hn hwa
        obtain⟨⟨Lw,h1,h1'⟩,h2,h3,h4⟩:=goV_spec HP k rest hs _ ws es r h hw he
        refine⟨⟨Lw++[(d,undef)],by rw[h1];simp,by simp[h1']⟩,h2,h3,fun a H kk=>?_⟩
        exact H.skip d (by simp[chkSkip,hd,hn,hwa]) fun a' H'=>h4 a' H' kk
      · rename_i hn hwa
        split at h
        · rename_i hk
          rw[Bool.and_eq_true] at hk
          have hc:chk ops n L o d=true:=by simp[chk,hd,hn,hwa,hk.1,hk.2]
          split at h
          · rename_i t x ho
            split at h
            · rename_i i hs'
              split at h
              · rename_i v e hl
                obtain⟨⟨Lw,h1,h1'⟩,h2,h3,h4⟩:=goV_spec HP k rest _ _ ws _ r h hw he
                refine⟨⟨Lw++[(d,v)],by rw[h1];simp,by simp[h1']⟩,h2,fun p hp=>h3 p (List.mem_cons_of_mem _ hp),fun a H kk=>?_⟩
                refine H.val d v hc ?_ fun a' H'=>h4 a' H' kk
                obtain⟨dst,op,ty,pos,af,g⟩:=o
                simp only at ho
                subst ho
                exact ldV_spec HP hl (he e (h3 e (List.mem_cons_self ..)))
              · cases h
            · cases h
          · split at h
            · rename_i v w' hx
              obtain⟨⟨Lw,h1,h1'⟩,h2,h3,h4⟩:=goV_spec HP k rest hs _ _ es r h hw he
              refine⟨⟨Lw++[(d,v)],by rw[h1];simp,by simp[h1']⟩,fun p hp=>h2 p (List.mem_cons_of_mem _ hp),h3,fun a H kk=>?_⟩
              have hww:=hw (w',w) (h2 _ (List.mem_cons_self ..))
              simp only at hww
              subst hww
              exact H.val d v hc hx fun a' H'=>h4 a' H' kk
            · cases h
        · cases h
      · cases h
theorem map_pairs {α:Type}:∀{l:List (α×α)},l.map (·.1)=l.map (·.2)→∀p∈l,p.1=p.2
  | [],_,p,hp=>by cases hp
  |q::l,h,p,hp=>by
    simp only[List.map_cons,List.cons.injEq] at h
    rcases List.mem_cons.1 hp with rfl|hp
    · exact h.1
    · exact map_pairs h.2 p hp
theorem look_append (k:Nat):∀(A B:List (Nat×Value)),look k (A++B)=match look k A with|some v=>some v|none=>look k B
  | [],B=>by simp[look]
  |p::A,B=>by
    obtain⟨d,v⟩:=p
    rw[List.cons_append,look_cons,look_cons]
    by_cases h:d=k
    · simp[h]
    · simp only[if_neg h];exact look_append k A B
theorem newL_spec {New L:List (Nat×Value)}:∀(Lw L2 X:List (Nat×Value)),newL New L X Lw.length (Lw++L2)=true→∀p∈Lw,(look p.1 New).isSome=true∨look p.1 L=none
  | [],_,_,_,p,hp=>by cases hp
  |q::Lw,L2,X,h,p,hp=>by
    rw[List.cons_append,List.length_cons,newL,Bool.and_eq_true] at h
    rcases List.mem_cons.1 hp with rfl|hp
    · have:=h.1
      split at this
      · rename_i hh;exact .inl (by rw[hh];rfl)
      · split at this
        · cases this
        · rename_i hh;exact .inr hh
    · exact newL_spec Lw L2 [] h.2 p hp
theorem look_some_mem {k:Nat}{v:Value}:∀{A:List (Nat×Value)},look k A=some v→∃p∈A,p.1=k
  | [],h=>by cases h
  |(d,u)::A,h=>by
    rw[look_cons] at h
    by_cases e:d=k
    · exact⟨(d,u),List.mem_cons_self ..,e⟩
    · rw[if_neg e] at h
      obtain⟨p,hp,hk⟩:=look_some_mem h
      exact⟨p,List.mem_cons_of_mem _ hp,hk⟩
theorem new_keep {New L Lw:List (Nat×Value)}{a:Act}(H:Sl n (Lw++L) a) (h1:New.map (fun p=>look p.1 (Lw++L))=New.map fun p=>some p.2) (h2:newL New L [] Lw.length (Lw++L)=true):Sl n (New++L) a:=by
  refine⟨H.defers,H.size,fun k v hk=>H.get k v ?_⟩;rw[look_append] at hk;have aux:∀{N:List (Nat×Value)}{u:Value},N.map (fun p=>look p.1 (Lw++L))=N.map (fun p=>some p.2)→look k N=some u→look k (Lw++L)=some u:=by
    intro N;induction N with
    |nil=>intro u _ h;cases h
    |cons q N ih=>
      intro u hm h;obtain⟨d,y⟩:=q;simp only[List.map_cons,List.cons.injEq] at hm;rw[look_cons] at h;by_cases e:d=k
      · subst e;rw[if_pos rfl] at h;cases h;exact hm.1
      · rw[if_neg e] at h;exact ih hm.2 h
  cases hN:look k New with
  |some u=>rw[hN] at hk;cases hk;exact aux h1 hN
  |none=>
    rw[hN] at hk;simp only at hk;rw[look_append];cases hL:look k Lw with
    |none=>exact hk
    |some u=>
      obtain⟨p,hp,rfl⟩:=look_some_mem hL;rcases newL_spec Lw L [] h2 p hp with h|h
      · rw[hN] at h;cases h
      · rw[h] at hk;cases hk
theorem Sl.go {L:List (Nat×Value)}{l:List Oper}{a:Act}(H:Sl n L a) (HP:Hp w0 w LH K) (k:Nat) (New:List (Nat×Value)) (hs:List Nat) (kk:∀a',Sl n (New++L) a'→wpList P ops Q (l.drop k) a' w)
    (hc:goA P ops n LH w k l hs L New=goB P ops n LH w k l hs L New:=by kernel_rfl):wpList P ops Q l a w:=by
  unfold goA goB at hc;cases hg:goV P ops n LH w k l hs L [] [] with
  |none=>rw[hg] at hc;simp at hc
  |some r=>
    rw[hg] at hc;simp only[Option.map_some,Option.some.injEq,Prod.mk.injEq] at hc;obtain⟨c1,c2,c3,c4⟩:=hc;obtain⟨⟨Lw,e1,e2⟩,_,_,h4⟩:=goV_spec HP k l hs L [] [] r hg (map_pairs c2) (map_pairs c3);refine h4 a H fun a' H'=>kk a' ?_;rw[e1] at H' c1 c4;rw[←e2] at c4;exact new_keep H' c1 c4
theorem Sl.ge {L:List (Nat×Value)}{l:List Oper}{a:Act}(H:Sl n L a) (HP:Hp w0 w LH K) (New:List (Nat×Value)) (hs:List Nat) (kk:∀a',Sl n (New++L) a'→Q .normal a' w)
    (hc:goA P ops n LH w l.length l hs L New=goB P ops n LH w l.length l hs L New:=by kernel_rfl):wpList P ops Q l a w:=
  H.go HP l.length New hs (fun a' H'=>by rw[List.drop_length];exact wpList_nil (kk a' H')) hc
theorem Sl.sh {L:List (Nat×Value)}{rest:List Oper}{a:Act}{t:TypeId}{x y:Operand}{ty:TypeId}{pos:String}{af:Array Edge}{g:Option (Nat×Bool)}(H:Sl n L a) (HP:Hp w0 w LH K) (i off:Nat) {b:Nat}{tb:TypeId}{us:List Value}{f:Bool}(v:Value) (hi:LH[i]? =some (bx b tb us f))
    (kk:∀w' a',Sl n L a'→Hp w0 w' (LH.set i (bx b tb (setAll us off v.cells.toList) f)) K→wpList P ops Q rest a' w')
    (hc:chk0 ops L ⟨none,.store t x y,ty,pos,af,g⟩=true:=by kernel_rfl) (hx:ev L x=.pointer (some ⟨b,off,none⟩):=by kernel_rfl) (hy:ev L y=v:=by kernel_rfl) (hs:sizeB P t=some v.cells.size:=by kernel_rfl) (h1:oneCells v.cells.toList=true:=by kernel_rfl) (hl:Nat.ble (off+v.cells.toList.length) us.length=true:=by kernel_rfl):
    wpList P ops Q (⟨none,.store t x y,ty,pos,af,g⟩::rest) a w:=H.store HP i b off _ tb us f v _ hc hx hy hi hs rfl h1 hl rfl kk
end
structure AnR where
  L:List (Nat×Value)
  vs:List (Value×Value)
  ws:List (World×World)
  es:List (Nat×Nat)
def listAll:List Nat→Array Bool→Array Bool
  | [],l=>l
  |i::is,l=>listAll is (l.setIfInBounds i true)
def anV (P:Program) (ops:Array Oper) (n m:Nat) (LH:List HB) (w w2:World):List Nat→Array Bool→List Nat→List (Nat×Value)→Option AnR
  | [],_,_,L=>some ⟨L,[],[],[]⟩
  |i::is,listed,hs,L=>match ops[i]?,chkP ops listed m i with
    |some o,true=>match o.dst with
      |none=>none
      |some d=>match Nat.blt d n,wantedL ops L o with
        |true,some false=>anV P ops n m LH w w2 is (listed.setIfInBounds i true) hs ((d,undef)::L)
        |true,some true=>match knowsAll L o.op.operands.toList&&notSelect o.op with
          |true=>match o.op with
            | .load t x=>match hs,chkT ops listed m i with
              |j::hs',true=>match ldV P LH L t x j with
                |some (v,e)=>(anV P ops n m LH w w2 is (listed.setIfInBounds i true) hs' ((d,v)::L)).map fun r=>{ r with es:=e::r.es}
                |none=>none
              |_,_=>none
            |_=>match (execOp (ev L) o).run P w,(execOp (ev L) o).run P w2 with
              | .ok (.value v) _,.ok (.value v2) w'=>(anV P ops n m LH w w2 is (listed.setIfInBounds i true) hs ((d,v)::L)).map fun r=>{ r with vs:=(v2,v)::r.vs,ws:=(w',w2)::r.ws}
              |_,_=>none
          |false=>none
        |_,_=>none
    |_,_=>none
def anA (P:Program) (ops:Array Oper) (n m:Nat) (LH:List HB) (w w2:World) (is:List Nat) (listed:Array Bool) (hs:List Nat) (L New:List (Nat×Value)):Option (List (Option Value)×List Value×List World×List Nat×Bool):=
  (anV P ops n m LH w w2 is listed hs L).map (fun r=>(New.map (fun p=>look p.1 r.L),r.vs.map (·.1),r.ws.map (·.1),r.es.map (·.1),newL New L [] is.length r.L))
def anB (P:Program) (ops:Array Oper) (n m:Nat) (LH:List HB) (w w2:World) (is:List Nat) (listed:Array Bool) (hs:List Nat) (L New:List (Nat×Value)):Option (List (Option Value)×List Value×List World×List Nat×Bool):=
  (match anV P ops n m LH w w2 is listed hs L with|some r=>some (New.map (fun p=>some p.2),r.vs.map (·.2),r.ws.map (·.2),r.es.map (·.2),true)|none=>some ([],[],[],[],false))
section
variable {P:Program}{ops:Array Oper}{Q:Exit→Act→World→Prop}{w0 w:World}{n m:Nat}{LH:List HB}{K:List FK}
theorem put_panic (hQ:∀c (a:Act) t w,Q (.panic c) { a with tmps:=t} w→Q (.panic c) a w) {d:Option Tmp}{v:Value}:∀c a w,Q (.panic c) (a.put d v) w→Q (.panic c) a w:=fun c a w h=>by
  cases d with
  |none=>exact h
  |some d=>exact hQ c a _ w h
def AnR.good (r:AnR):Prop:=(∀p∈r.vs,p.1=p.2)∧(∀p∈r.ws,p.1=p.2)∧∀p∈r.es,p.1=p.2
theorem anV_spec (hQ:∀c (a:Act) t w,Q (.panic c) { a with tmps:=t} w→Q (.panic c) a w):∀(is:List Nat) (listed:Array Bool) (hs:List Nat) (L:List (Nat×Value)) (fuel:Nat) (a:Act),(∀w2,∃r,anV P ops n m LH w w2 is listed hs L=some r∧r.good) →
    ∀r,anV P ops n m LH w w is listed hs L=some r→(∃Lw,r.L=Lw++L∧Lw.length=is.length)∧((listed.getD m false=true∨Hp w0 w LH K)→Sl n L a→(∀a',Sl n r.L a'→wpAnyM P .any ops Q (fun v=>Hp w0 v LH K) m fuel (listAll is listed) a' w) →
      wpAnyM P .any ops Q (fun v=>Hp w0 v LH K) m (fuel+is.length) listed a w)
  | [],listed,hs,L,fuel,a,hall,r,h=>by
    simp only[anV,Option.some.injEq] at h
    subst h
    exact⟨⟨[],rfl,rfl⟩,fun _ H kk=>kk a H⟩
  |i::is,listed,hs,L,fuel,a,hall,r,h=>by
    have hmono:∀{S:World→Prop},(listed.getD m false=true∨S w)→((listed.setIfInBounds i true).getD m false=true∨S w):=fun{S} h=>by
      rcases h with h|h
      · left
        rw[Array.getD_eq_getD_getElem?] at h ⊢
        by_cases e:i=m
        · subst e
          cases hh:listed[i]? with
          |none=>rw[hh] at h;cases h
          |some b=>rw[Array.getElem?_setIfInBounds];simp[(Array.getElem?_eq_some_iff.1 hh).1]
        · rw[Array.getElem?_setIfInBounds_ne e];exact h
      · exact .inr h
    rw[anV] at h
    split at h
    · rename_i o ho hcp
      split at h
      · cases h
      · rename_i d hd
        split at h
        · rename_i hn hwa
          have hall':∀w2,∃r,anV P ops n m LH w w2 is (listed.setIfInBounds i true) hs ((d,undef)::L)=some r∧r.good:=fun w2=>by
            obtain⟨r2,e2,g2⟩:=hall w2
            rw[anV] at e2
            simp only[ho,hcp,hd,hn,hwa] at e2
            exact⟨r2,e2,g2⟩
          refine⟨?_,fun hS H kk=>?_⟩
          · obtain⟨⟨Lw,h1,h1'⟩,_⟩:=anV_spec hQ is _ hs _ fuel a hall' r h
            exact⟨Lw++[(d,undef)],by rw[h1];simp,by simp[h1']⟩
          · exact An.skip (S:=fun v=>Hp w0 v LH K) H hS i d ho (by simp[chkSkip,hd,hn,hwa]) hcp (put_panic hQ) fun a' H'=>(anV_spec hQ is _ hs _ fuel a' hall' r h).2 (hmono (S:=fun v=>Hp w0 v LH K) hS) H' kk
        · rename_i hn hwa
          split at h
          · rename_i hk
            rw[Bool.and_eq_true] at hk
            have hc:chk ops n L o d=true:=by simp[chk,hd,hn,hwa,hk.1,hk.2]
            split at h
            · rename_i t x hop
              split at h
              · rename_i j hs' hct
                split at h
                · rename_i v e hl
                  have key:∀w2,∃r,anV P ops n m LH w w2 is (listed.setIfInBounds i true) hs' ((d,v)::L)=some r∧r.good∧e.1=e.2:=fun w2=>by
                    obtain⟨r2,e2,g2⟩:=hall w2
                    rw[anV] at e2
                    simp only[ho,hcp,hd,hn,hwa,hop,hct,hl] at e2
                    rw[show (knowsAll L (Op.load t x).operands.toList&&notSelect (Op.load t x))=true by rw[←hop,hk.1,hk.2];rfl] at e2
                    simp only at e2
                    obtain⟨r3,e3,rfl⟩:=Option.map_eq_some_iff.1 e2
                    exact⟨r3,e3,⟨g2.1,g2.2.1,fun p hp=>g2.2.2 p (List.mem_cons_of_mem _ hp)⟩,g2.2.2 e (List.mem_cons_self ..)⟩
                  obtain⟨r3,e3,hr3⟩:=Option.map_eq_some_iff.1 h
                  have hall':∀w2,∃r,anV P ops n m LH w w2 is (listed.setIfInBounds i true) hs' ((d,v)::L)=some r∧r.good:=fun w2=>by
                    obtain⟨r,h1,h2,_⟩:=key w2
                    exact⟨r,h1,h2⟩
                  obtain⟨_,_,_,he⟩:=key w
                  have hrL:r.L=r3.L:=by rw[←hr3]
                  refine⟨?_,fun hS H kk=>?_⟩
                  · obtain⟨⟨Lw,h1,h1'⟩,_⟩:=anV_spec hQ is _ hs' _ fuel a hall' r3 e3
                    exact⟨Lw++[(d,v)],by rw[hrL,h1];simp,by simp[h1']⟩
                  · have hct':=hct
                    simp only[chkT,Bool.and_eq_true] at hct'
                    have hnl:¬listed.getD m false=true:=fun e=>by rw[e] at hct';simp at hct'
                    refine An.val (S:=fun v=>Hp w0 v LH K) H (hS.resolve_left hnl) i d v ho hc hct (put_panic hQ) (fun w1 HP=>?_) fun a' H'=>(anV_spec hQ is _ hs' _ fuel a' hall' r3 e3).2 (hmono (S:=fun v=>Hp w0 v LH K) hS) H' (by rw[←hrL];exact kk)
                    obtain⟨dst,op,ty,pos,af,g⟩:=o
                    simp only at hop
                    subst hop
                    exact ldV_spec HP hl he
                · cases h
              · cases h
            · rename_i hnl
              split at h
              · rename_i v w1 v2 w' hx hx2
                have key:∀w2,(execOp (ev L) o).run P w2=.ok (.value v) w2∧∃r,anV P ops n m LH w w2 is (listed.setIfInBounds i true) hs ((d,v)::L)=some r∧r.good:=fun w2=>by
                  obtain⟨r2,e2,g2⟩:=hall w2
                  rw[anV] at e2
                  simp only[ho,hcp,hd,hn,hwa,hk.1,hk.2,Bool.and_self] at e2
                  rw[hx] at e2
                  split at e2
                  · rename_i v0 w00 v3 w4 he hx3
                    cases he
                    obtain⟨r3,e3,rfl⟩:=Option.map_eq_some_iff.1 e2
                    have q1:=g2.1 (v3,v) (List.mem_cons_self ..)
                    have q2:=g2.2.1 (w4,w2) (List.mem_cons_self ..)
                    simp only at q1 q2
                    subst q1;subst q2
                    exact⟨hx3,r3,e3,fun p hp=>g2.1 p (List.mem_cons_of_mem _ hp),fun p hp=>g2.2.1 p (List.mem_cons_of_mem _ hp),g2.2.2⟩
                  · cases e2
                obtain⟨r3,e3,hr3⟩:=Option.map_eq_some_iff.1 h
                have hrL:r.L=r3.L:=by rw[←hr3]
                refine⟨?_,fun hS H kk=>?_⟩
                · obtain⟨⟨Lw,h1,h1'⟩,_⟩:=anV_spec hQ is _ hs _ fuel a (fun w2=>(key w2).2) r3 e3
                  exact⟨Lw++[(d,v)],by rw[hrL,h1];simp,by simp[h1']⟩
                · exact An.pure (S:=fun v=>Hp w0 v LH K) H hS i d v ho hc hcp (put_panic hQ) (fun w2=>(key w2).1) fun a' H'=>(anV_spec hQ is _ hs _ fuel a' (fun w2=>(key w2).2) r3 e3).2 (hmono (S:=fun v=>Hp w0 v LH K) hS) H' (by rw[←hrL];exact kk)
              · cases h
          · cases h
        · cases h
    · cases h
theorem An.go {L:List (Nat×Value)}{listed:Array Bool}{fuel':Nat}{a:Act}(H:Sl n L a) (hS:listed.getD m false=true∨Hp w0 w LH K) (fuel:Nat) (is:List Nat) (New:List (Nat×Value)) (hs:List Nat)
    (kk:∀a',Sl n (New++L) a'→wpAnyM P .any ops Q (fun v=>Hp w0 v LH K) m fuel (listAll is listed) a' w) (hf:fuel'=fuel+is.length:=by rfl)
    (hQ:∀c (a:Act) t w,Q (.panic c) { a with tmps:=t} w→Q (.panic c) a w:=by exact fun _ _ _ _ h=>h)
    (hc:∀w2,anA P ops n m LH w w2 is listed hs L New=anB P ops n m LH w w2 is listed hs L New:=by intro _;kernel_rfl):wpAnyM P .any ops Q (fun v=>Hp w0 v LH K) m fuel' listed a w:=by
  subst hf;have key:∀w2,∃r,anV P ops n m LH w w2 is listed hs L=some r∧r.good∧New.map (fun p=>look p.1 r.L)=New.map (fun p=>some p.2)∧newL New L [] is.length r.L=true:=fun w2=>by
    have h:=hc w2;unfold anA anB at h;cases hg:anV P ops n m LH w w2 is listed hs L with
    |none=>rw[hg] at h;simp at h
    |some r=>
      rw[hg] at h;simp only[Option.map_some,Option.some.injEq,Prod.mk.injEq] at h;exact⟨r,rfl,⟨map_pairs h.2.1,map_pairs h.2.2.1,map_pairs h.2.2.2.1⟩,h.1,h.2.2.2.2⟩
  obtain⟨r,hr,_,h1,h2⟩:=key w;obtain⟨⟨Lw,e1,e2⟩,hh⟩:=anV_spec (w0:=w0) (K:=K) hQ is listed hs L fuel a (fun w2=>let ⟨r,h,g,_⟩:=key w2;⟨r,h,g⟩) r hr;refine hh hS H fun a' H'=>kk a' ?_;rw[e1] at H' h1 h2;rw[←e2] at h2;exact new_keep H' h1 h2
end
section
variable {P:Program}{ops:Array Oper}{Q:Exit→Act→World→Prop}{w0 w:World}{n:Nat}{LH:List HB}{K:List FK}{a:Act}{L:List (Nat×Value)}{rest:List Oper}{o:Oper}
theorem Sl.wi (H:Sl n L a) (d:Nat) (x:Int) (k:∀a',Sl n ((d,.int .i64 x)::L) a'→wpList P ops Q rest a' w) (hc:chk ops n L o d=true:=by kernel_rfl) (hx:(execOp (ev L) o).run P w=.ok (.value (.int .i64 (IntKind.i64.wrap x))) w:=by kernel_rfl)
    (hb:-9223372036854775808≤x∧x≤9223372036854775807:=by omega):wpList P ops Q (o::rest) a w:=H.valE d _ _ hc hx (by rw[wrap_ini64 _ hb]) k
theorem Op.sh {KK:Act→World→Prop}{i:Nat}{t:TypeId}{x y:Operand}{ty:TypeId}{pos:String}{af:Array Edge}{g:Option (Nat×Bool)}(H:Sl n L a) (HP:Hp w0 w LH K) (ib off:Nat) {b:Nat}{tb:TypeId}{us:List Value}{f:Bool}(v:Value)
    (ho:ops[i]? =some ⟨none,.store t x y,ty,pos,af,g⟩) (hi:LH[ib]? =some (bx b tb us f)) (kk:∀w' a',Sl n L a'→Hp w0 w' (LH.set ib (bx b tb (setAll us off v.cells.toList) f)) K→KK a' w')
    (hc:chk0 ops L ⟨none,.store t x y,ty,pos,af,g⟩=true:=by kernel_rfl) (hx:ev L x=.pointer (some ⟨b,off,none⟩):=by kernel_rfl) (hy:ev L y=v:=by kernel_rfl) (hs:sizeB P t=some v.cells.size:=by kernel_rfl) (h1:oneCells v.cells.toList=true:=by kernel_rfl) (hl:Nat.ble (off+v.cells.toList.length) us.length=true:=by kernel_rfl):
    wpOp P ops Q i KK a w:=Op.store H HP ib b off _ tb us f v _ ho hc hx hy hi hs rfl h1 hl rfl kk
end
abbrev ii (x:Int):Value:=.int .i64 x
abbrev pt (b k:Nat):Value:=.pointer (some ⟨b,k,none⟩)
theorem Hp.bl {w0 w:World}{L:List HB}{K:List FK}(H:Hp w0 w L K) (hf:(L.all fun x=>x.fresh)=true:=by kernel_rfl):Below w0.heap.size w0 w:=H.below hf
section
variable {P:Program}{ρ:Operand→Value}{w:World}{t:TypeId}{x y:Operand}{dst:Option Tmp}{ty:TypeId}{pos:String}{af:Array Edge}{g:Option (Nat×Bool)}
theorem ex_l1 {p:Addr}{v:Value}(hc:w.cell? p=some v) (hx:ρ x=.pointer (some p):=by kernel_rfl) (ha:aggB P t=some false:=by kernel_rfl):(execOp ρ ⟨dst,.load t x,ty,pos,af,g⟩).run P w=.ok (.value v) w:=ex_load1 hx ha hc
end
abbrev znl:=@wpList_nil
abbrev ztn:=@then_normal
abbrev zsq:=@wp_seq
abbrev zrg:=@w_region
abbrev zsk:=@wp_skip
abbrev zrt:=@wp_ret
abbrev ztr:=@then_ret
abbrev zibn:=@inb_normal
abbrev zibr:=@inb_ret
abbrev zbk:=@wp_block
section
variable {P:Program}{ops:Array Oper}{Q:Exit→Act→World→Prop}{a:Act}{w w0:World}{rest:List Oper}{o:Oper}{n:Nat}{L:List (Nat×Value)}{LH:List HB}{K:List FK}
theorem Sl.cl (H:Sl n L a) (d:Nat) {f:FuncId}{args:Array Value}{R:Ending→World→Prop}(hcall:(callFunc f args).run P w=.ok (.enter f args) w) (hC:Calls P f args w R) (k:∀e w'',R e w''→∃v,e=.returned v∧∀a',Sl n ((d,v)::L) a'→wpList P ops Q rest a' w'')
    (hc:chk ops n L o d=true:=by kernel_rfl) (hx:(execOp (ev L) o).run P w=(callFunc f args).run P w:=by kernel_rfl):wpList P ops Q (o::rest) a w:=H.call d hc (hx.trans hcall) hC k
theorem Sl.cb (H:Sl n L a) (HP:Hp w0 w LH K) (d:Nat) {f:FuncId}{args:Array Value}{v:Value}(hcall:(callFunc f args).run P w=.ok (.enter f args) w) (hC:Calls P f args w fun e w'=>e=.returned v∧Below w.heap.size w w') (k:∀w'',Below w.heap.size w w''→∀a',Sl n ((d,v)::L) a'→Hp w0 w'' LH K→wpList P ops Q rest a' w'')
    (hc:chk ops n L o d=true:=by kernel_rfl) (hx:(execOp (ev L) o).run P w=(callFunc f args).run P w:=by kernel_rfl):wpList P ops Q (o::rest) a w:=
  H.call d hc (hx.trans hcall) hC fun e w'' he=>⟨v,he.1,fun a' H'=>k w'' he.2 a' H' (HP.next he.2)⟩
theorem Sl.al (H:Sl n L a) (HP:Hp w0 w LH K) (d:Nat) (t:TypeId) (vs:List Value) (k:∀b w' a',Sl n ((d,pt b 0)::L) a'→Hp w0 w' (bx b t vs true::LH) K→wpList P ops Q rest a' w') (hc:chk ops n L o d=true:=by kernel_rfl)
    (hx:∀w,(execOp (ev L) o).run P w=.ok (.value (pt w.heap.size 0)) (w.alloc (.cells vs.toArray t)):=by exact fun _=>kr):wpList P ops Q (o::rest) a w:=H.alloc HP d (fun b=>pt b 0) t vs hc hx k
theorem Sl.st {t:TypeId}{x y:Operand}{ty:TypeId}{pos:String}{af:Array Edge}{g:Option (Nat×Bool)}(H:Sl n L a) (HP:Hp w0 w LH K) (i b off k:Nat) (tb:TypeId) {us:List Value}(f:Bool) (v:Value) (LH':List HB)
    (hi:LH[i]? =some (bx b tb us f)) (kk:∀w' a',Sl n L a'→Hp w0 w' LH' K→wpList P ops Q rest a' w')
    (hc:chk0 ops L ⟨none,.store t x y,ty,pos,af,g⟩=true:=by kernel_rfl) (hx:ev L x=.pointer (some ⟨b,off,none⟩):=by kernel_rfl) (hy:ev L y=v:=by kernel_rfl) (hs:sizeB P t=some k:=by kernel_rfl) (hv:v.cells.size=k:=by kernel_rfl) (h1:oneCells v.cells.toList=true:=by kernel_rfl) (hl:Nat.ble (off+v.cells.toList.length) us.length=true:=by kernel_rfl)
    (hL:LH.set i (bx b tb (setAll us off v.cells.toList) f)=LH':=by kernel_rfl):wpList P ops Q (⟨none,.store t x y,ty,pos,af,g⟩::rest) a w:=
  H.store HP i b off k tb us f v LH' hc hx hy hi hs hv h1 hl hL kk
end
section
variable {P:Program}{fn:Func}{R:Ending→World→Prop}{a:Act}{w:World}{n:Nat}{L:List (Nat×Value)}
theorem Sl.r1 (H:Sl n L a) {t:Nat}(v:Value) (hr:fn.results=#[.tmp t]) (hR:R (.returned v) w) (h:look t L=some v:=by kernel_rfl):bodyPost P fn R .ret a w:=H.ret1 hr (RV.tmp_ h) hR
end
section
variable {P:Program}{ρ:Operand→Value}{w:World}{t:TypeId}{x y:Operand}{dst:Option Tmp}{ty:TypeId}{pos:String}{af:Array Edge}{g:Option (Nat×Bool)}
theorem ex_lN {b off k:Nat}(vs:List Value) (hc:cellsAt w b off vs) (hx:ρ x=.pointer (some ⟨b,off,none⟩):=by kernel_rfl) (ha:aggB P t=some true:=by kernel_rfl) (hs:sizeB P t=some k:=by kernel_rfl) (hl:vs.length=k:=by rfl):(execOp ρ ⟨dst,.load t x,ty,pos,af,g⟩).run P w=.ok (.value (.agg vs.toArray)) w:=ex_loadN hx ha hs hl hc
end
section
variable {P:Program}{ops:Array Oper}{Q:Exit→Act→World→Prop}{S:World→Prop}{a:Act}{w:World}{o:Oper}{n m fuel:Nat}{L:List (Nat×Value)}{listed:Array Bool}
theorem An.vw (H:Sl n L a) (hS:S w) (i d:Nat) (v:Value) (hx:∀w,S w→(execOp (ev L) o).run P w=.ok (.value v) w) (k:∀a',Sl n ((d,v)::L) a'→wpAnyM P .any ops Q S m fuel (listed.setIfInBounds i true) a' w) (ho:ops[i]? =some o:=by rfl) (hc:chk ops n L o d=true:=by kernel_rfl) (ht:chkT ops listed m i=true:=by kernel_rfl) (hQ:∀c a w,Q (.panic c) (a.put o.dst v) w→Q (.panic c) a w:=by exact fun _ _ _ h=>h):wpAnyM P .any ops Q S m (fuel+1) listed a w:=An.val H hS i d v ho hc ht hQ hx k
theorem An.q (H:Sl n L a) (hS:listed.getD m false=true∨S w) (i d:Nat) (v:Value) (hx:∀w,(execOp (ev L) o).run P w=.ok (.value v) w) (k:∀a',Sl n ((d,v)::L) a'→wpAnyM P .any ops Q S m fuel (listed.setIfInBounds i true) a' w) (ho:ops[i]? =some o:=by rfl) (hc:chk ops n L o d=true:=by kernel_rfl) (ht:chkP ops listed m i=true:=by kernel_rfl) (hQ:∀c a w,Q (.panic c) (a.put o.dst v) w→Q (.panic c) a w:=by exact fun _ _ _ h=>h):wpAnyM P .any ops Q S m (fuel+1) listed a w:=An.pure H hS i d v ho hc ht hQ hx k
end
theorem zq {P:Program}{Q:Exit→Act→World→Prop}{a:Act}{w:World}{y:Code}{id:Nat}{l:List Oper}(h:wpList P l.toArray (Exit.then (y.wp P Q) Q) l a w):(Code.seq (Code.region id l.toArray false) y).wp P Q a w:=wp_seq (w_region h)
theorem zt {P:Program}{Q Q1:Exit→Act→World→Prop}{a:Act}{w:World}{y:Code}{id:Nat}{l:List Oper}(h:wpList P l.toArray (Exit.then (y.wp P Q) Q) l a w):Exit.then ((Code.seq (Code.region id l.toArray false) y).wp P Q) Q1 .normal a w:=wp_seq (w_region h)
theorem Sl.gz {P:Program}{ops:Array Oper}{K:Act→World→Prop}{Q:Exit→Act→World→Prop}{a:Act}{w w0:World}{n:Nat}{LH:List HB}{KB:List FK}{L:List (Nat×Value)}{l:List Oper}(H:Sl n L a) (HP:Hp w0 w LH KB) (New:List (Nat×Value)) (kk:∀a',Sl n (New++L) a'→K a' w) (hc:goA P ops n LH w l.length l [] L New=goB P ops n LH w l.length l [] L New:=by kernel_rfl):wpList P ops (Exit.then K Q) l a w:=H.ge HP New [] kk hc
theorem Sl.gy {P:Program}{ops:Array Oper}{K:Act→World→Prop}{Q:Exit→Act→World→Prop}{a:Act}{w w0:World}{n:Nat}{LH:List HB}{KB:List FK}{L:List (Nat×Value)}{l:List Oper}(H:Sl n L a) (HP:Hp w0 w LH KB) (New:List (Nat×Value)) (hs:List Nat) (kk:∀a',Sl n (New++L) a'→K a' w) (hc:goA P ops n LH w l.length l hs L New=goB P ops n LH w l.length l hs L New:=by kernel_rfl):wpList P ops (Exit.then K Q) l a w:=H.ge HP New hs kk hc
theorem Sl.gn {P:Program}{ops:Array Oper}{Q:Exit→Act→World→Prop}{a:Act}{w w0:World}{n:Nat}{LH:List HB}{KB:List FK}{L:List (Nat×Value)}{l:List Oper}(H:Sl n L a) (HP:Hp w0 w LH KB) (k:Nat) (New:List (Nat×Value)) (kk:∀a',Sl n (New++L) a'→wpList P ops Q (l.drop k) a' w) (hc:goA P ops n LH w k l [] L New=goB P ops n LH w k l [] L New:=by kernel_rfl):wpList P ops Q l a w:=H.go HP k New [] kk hc
theorem Hp.t1 {w0 w:World}{x:HB}{L:List HB}{K:List FK}(H:Hp w0 w (x::L) K) (hx:x.fresh=true:=by rfl):Hp w0 w L K:=H.tail hx
theorem Hp.t2 {w0 w:World}{x y:HB}{L:List HB}{K:List FK}(H:Hp w0 w (x::y::L) K) (hx:x.fresh=true:=by rfl) (hy:y.fresh=true:=by rfl):Hp w0 w L K:=(H.tail hx).tail hy
theorem Hp.t3 {w0 w:World}{x y z:HB}{L:List HB}{K:List FK}(H:Hp w0 w (x::y::z::L) K) (hx:x.fresh=true:=by rfl) (hy:y.fresh=true:=by rfl) (hz:z.fresh=true:=by rfl):Hp w0 w L K:=((H.tail hx).tail hy).tail hz
theorem Hp.t4 {w0 w:World}{x y z u:HB}{L:List HB}{K:List FK}(H:Hp w0 w (x::y::z::u::L) K) (hx:x.fresh=true:=by rfl) (hy:y.fresh=true:=by rfl) (hz:z.fresh=true:=by rfl) (hu:u.fresh=true:=by rfl):Hp w0 w L K:=(((H.tail hx).tail hy).tail hz).tail hu
theorem Hp.t5 {w0 w:World}{x y z u v:HB}{L:List HB}{K:List FK}(H:Hp w0 w (x::y::z::u::v::L) K) (hx:x.fresh=true:=by rfl) (hy:y.fresh=true:=by rfl) (hz:z.fresh=true:=by rfl) (hu:u.fresh=true:=by rfl) (hv:v.fresh=true:=by rfl):Hp w0 w L K:=((((H.tail hx).tail hy).tail hz).tail hu).tail hv
theorem Op.cl {P:Program}{ops:Array Oper}{Q:Exit→Act→World→Prop}{a:Act}{w:World}{o:Oper}{n i:Nat}{L:List (Nat×Value)}{K:Act→World→Prop}(H:Sl n L a) (d:Nat) {f:FuncId}{args:Array Value}{R:Ending→World→Prop}(hcall:(callFunc f args).run P w=.ok (.enter f args) w) (hC:Calls P f args w R) (k:∀e w'',R e w''→∃v,e=.returned v∧∀a',Sl n ((d,v)::L) a'→K a' w'') (ho:ops[i]? =some o:=by rfl) (hc:chk ops n L o d=true:=by kernel_rfl) (hx:(execOp (ev L) o).run P w=(callFunc f args).run P w:=by kernel_rfl):wpOp P ops Q i K a w:=Op.call H d ho hc (hx.trans hcall) hC k
theorem Op.cb {P:Program}{ops:Array Oper}{Q:Exit→Act→World→Prop}{a:Act}{w w0:World}{o:Oper}{n i:Nat}{L:List (Nat×Value)}{K:Act→World→Prop}{LH:List HB}{KB:List FK}(H:Sl n L a) (HP:Hp w0 w LH KB) (d:Nat) {f:FuncId}{args:Array Value}{v:Value}(hcall:(callFunc f args).run P w=.ok (.enter f args) w) (hC:Calls P f args w fun e w'=>e=.returned v∧Below w.heap.size w w') (k:∀w'',Below w.heap.size w w''→∀a',Sl n ((d,v)::L) a'→Hp w0 w'' LH KB→K a' w'') (ho:ops[i]? =some o:=by rfl) (hc:chk ops n L o d=true:=by kernel_rfl) (hx:(execOp (ev L) o).run P w=(callFunc f args).run P w:=by kernel_rfl):wpOp P ops Q i K a w:=Op.call H d ho hc (hx.trans hcall) hC fun e w'' he=>⟨v,he.1,fun a' H'=>k w'' he.2 a' H' (HP.next he.2)⟩
abbrev zN:Value:=.slice none 0 0
abbrev zO:Value:=.int .i64 0
abbrev zT:Value:=.bool true
abbrev zF:Value:=.bool false
abbrev zS:Value:=.string (bstr [])
abbrev sS (l:List UInt8):Value:=.string (bstr l)
abbrev sB (b n c:Nat):Value:=.slice (some ⟨b,0,none⟩) n c
abbrev sL (A:Option Addr) (n c:Nat):Value:=.slice A n c
abbrev zc0:List Value:=[zO,zO,zO,zO,zO,zF,zS,zO,zO,zS,zO,zO,zN]
abbrev zc1:Array Value:=#[zO,zO,zO,zO,zO,zF,zS,zO,zO,zS,zO,zO,zN]
abbrev zc2:List Value:=[(ii 1),(ii 7),(ii 5),(ii 2),zO,(ii 3),zN]
abbrev zc3:Array Value:=#[(ii 1),(ii 7),(ii 5),(ii 2),zO,(ii 3),zN]
abbrev zc4:List Value:=[(ii 24000),(ii 1001),(ii 24),zO,(ii 24),(ii 1),(ii 24),zO,(ii 25),(ii 1),(ii 25),zO,(ii 30000),(ii 1001),(ii 30),(ii 2),(ii 30),(ii 1),(ii 30),zO,(ii 50),(ii 1),(ii 50),zO,(ii 60000),(ii 1001),(ii 60),(ii 4),(ii 60),(ii 1),(ii 60),zO]
abbrev zc5:List Value:=[(ii 1),(ii 7),(ii 8)]
abbrev zc6:List Value:=[zO,zO,zO,zO,zO,zO,zO,zO,zO,zO,zO,zO,zO,zO,zO,zO,zO,zN,zO,zO,zO,zO,zO,zO,zO,zO,zO,zO,zO,zO,zS]
abbrev zc7:Array Value:=#[(ii 24000),(ii 1001),(ii 24),zO,(ii 24),(ii 1),(ii 24),zO,(ii 25),(ii 1),(ii 25),zO,(ii 30000),(ii 1001),(ii 30),(ii 2),(ii 30),(ii 1),(ii 30),zO,(ii 50),(ii 1),(ii 50),zO,(ii 60000),(ii 1001),(ii 60),(ii 4),(ii 60),(ii 1),(ii 60),zO]
abbrev zc8:List Value:=[zO,zO,zO,zO,zO,zO,zN]
abbrev zc9:Array Value:=#[(ii 5),(ii 2),zN]
abbrev zca:List Value:=[zO,zO,zO,zO,zS]
abbrev zcb:List Value:=[zO,zO,zO,zO]
abbrev zcc:Array Value:=#[(ii 1),(ii 5),(ii 30),zO,zO]
def rateCells:List Int:=[24000,1001,24,0,24,1,24,0,25,1,25,0,30000,1001,30,2,30,1,30,0,50,1,50,0,60000,1001,60,4,60,1,60,0]
structure Laid (w:World):Prop where
 tab:∀i,i<16→w.cell? ⟨1,0+i*1,none⟩=some (.int .u32 ((crcTab.getD i 0:Nat):Int))
 rates:∀i,i<32→w.cell? ⟨0,i,none⟩=some (.int .i64 (rateCells.getD i 0))
theorem Laid.below {w w':World}(h:Laid w) (hb:Below w.heap.size w w'):Laid w':=
 ⟨fun i hi=>(hb.cell (p:=⟨1,0+i*1,none⟩) (World.block_lt_of_cell? w _ (h.tab i hi))).trans (h.tab i hi),fun i hi=>(hb.cell (p:=⟨0,i,none⟩) (World.block_lt_of_cell? w _ (h.rates i hi))).trans (h.rates i hi)⟩
theorem take_byte {l:List UInt8}{j:Nat}(h:j<l.length):l.take (j+1)=l.take j++[l.getD j 0]:=by
 rw[List.take_add_one,List.getElem?_eq_getElem h];simp[List.getD,List.getElem?_eq_getElem h]
theorem crcTab_lt (i:Nat):crcTab.getD i 0<4294967296:=by
 by_cases h:i<16
 ·have:∀i,i<16→crcTab.getD i 0<4294967296:=by decide
  exact this i h
 ·rw[show crcTab.getD i 0=0 from by simp[List.getD,crcTab,List.getElem?_eq_none (show[0,274646895,549293790,820201905,1098587580,1361435347,1640403810,1905808397,2197175160,2460548119,2722870694,2987750089,3280807620,3553878443,3811616794,4084100981].length≤i by simp;omega)]];omega
theorem crcBits_succ (i r:Nat):crcBits (i+1) r=crcBit (crcBits i r):=crcBits_add i 1 r
theorem sum_any (l:List UInt8) (w:World) (hL:Laid w) (hl:l.length≤9000000000000000000):
  Calls Tryz.prog 143 #[.string (bstr l)] w fun e w'=>e=.returned (ii ((sumP l:Nat):Int))∧Below w.heap.size w w':=by
 have HP:=Hp.start w;refine w_enter 34 [(0,(sS l))] Tryz.func143 rfl Tryz.ntmps143 kr kr fun a H=>zq<|H.gz HP [(2,zO)] fun a H=>zq<|H.gz HP [(3,(.int .u32 4294967295))] fun a H=>zsq<|zq<|H.gz HP [(4,zO)] fun a H=>zbk<|w_loop (fun mm a wv=>∃(j:Nat),∃(r:Nat),l.length-j=mm∧Sl 34 [(4,(ii j)),(3,(.int .u32 (r:Int))),(0,(sS l)),(2,zO)] a∧Hp w wv [] []∧(j≤l.length)∧(r<4294967296)∧(r=crcRun 4294967295 (l.take j))) (l.length-0) ?_ ?_
 ·exact⟨0,4294967295,om,H.keep kr,HP,om,om,rfl⟩
 rintro mm a w_1 ⟨j,r,hmeas,H,HP,hj,hr,hrun⟩;refine zsq<|zq<|H.gz HP [(5,(ii j)),(8,(.bool (decide ((j:Int)<(l.length:Int)))))] fun a H=>w_if H rfl (fun g8=>?_) (fun g8=>?_)
 ·have g8p:=of_decide_eq_true g8;refine zsk (ztn (zsq (zbk (zsq ?_))));have hj2:j<l.length:=om;have hb:=byte_lt (l.getD j 0);refine zrg<|H.gn HP 3 [(11,(.int .u32 (r:Int))),(12,(sS l)),(13,(ii j))] fun a H=>H.u 14 (.int .u8 (((l.getD j 0).toNat:Nat):Int)) (ex_sindex (k:=.i64) (l:=l) (i:=(j:Int)) (m:=j) kr kr kr om om) fun a H=>H.valE 15 (.int .u32 (IntKind.u32.wrap (((l.getD j 0).toNat:Nat):Int))) (.int .u32 (((l.getD j 0).toNat:Nat):Int)) kr kr (by rw[wrap_inu32 _ om]) fun a H=>H.valE 16 (.int .u32 (bits .xor .u32 (r:Int) (((l.getD j 0).toNat:Nat):Int))) (.int .u32 ((r ^^^ ((l.getD j 0).toNat):Nat):Int)) kr kr (congrArg (Value.int .u32) (bits_xor_u32 (a:=r) (b:=((l.getD j 0).toNat)) om om)) fun a H=>H.ge HP [(3,(.int .u32 ((r ^^^ ((l.getD j 0).toNat):Nat):Int)))] [] fun a H=>?_;obtain⟨r1,hr1⟩:∃r1,r ^^^ (l.getD j 0).toNat=r1:=⟨_,rfl⟩
  have hr1l:r1<4294967296:=by rw[←hr1];exact Nat.xor_lt_two_pow (n:=32) om om
  rw[hr1] at H;have H:=H.keep (L':=[(3,(.int .u32 (r1:Int))),(15,(.int .u32 (((l.getD j 0).toNat:Nat):Int))),(14,(.int .u8 (((l.getD j 0).toNat:Nat):Int))),(11,(.int .u32 (r:Int))),(12,(sS l)),(13,(ii j)),(5,(ii j)),(8,(.bool (decide ((j:Int)<(l.length:Int))))),(4,(ii j)),(0,(sS l)),(2,zO)]) kr;refine ztn (zsq ?_);have hm6:r1%16<16:=Nat.mod_lt _ om;have hmask6:r1&&&15=r1%16:=Nat.and_two_pow_sub_one_eq_mod r1 4;have htb6:=crcTab_lt (r1%16)
  refine zrg<|H.gn HP 1 [(17,(.int .u32 (r1:Int)))] fun a H=>H.valE 18 (.int .u32 ((r1:Int).fdiv (2^4))) (.int .u32 ((r1/2^4:Nat):Int)) kr kr (congrArg (Value.int .u32) (shr_nat (a:=r1) (c:=4))) fun a H=>H.gn HP 1 [(19,(.int .u32 (r1:Int)))] fun a H=>H.valE 20 (.int .u32 (bits .and .u32 (r1:Int) 15)) (.int .u32 ((r1%16:Nat):Int)) kr kr (congrArg (Value.int .u32) ((bits_and_u32 (a:=r1) (b:=15) om om).trans (congrArg _ hmask6))) fun a H=>H.u 21 (.pointer (some ⟨1,0+r1%16*1,none⟩)) (ex_aindex (e:=291) (b:=1) (off:=0) (n:=16) (m:=r1%16) (k:=1) (ik:=.u32) kr kr rfl hm6 kr kr) fun a H=>H.u 22 (.int .u32 ((crcTab.getD (r1%16) 0:Nat):Int)) (ex_l1 ((hL.below HP.bl).tab _ hm6)) fun a H=>H.valE 23 (.int .u32 (bits .xor .u32 ((r1/2^4:Nat):Int) ((crcTab.getD (r1%16) 0:Nat):Int))) (.int .u32 (((r1/2^4) ^^^ (crcTab.getD (r1%16) 0):Nat):Int)) kr kr (congrArg (Value.int .u32) (bits_xor_u32 (a:=(r1/2^4)) (b:=(crcTab.getD (r1%16) 0)) om om)) fun a H=>H.ge HP [(3,(.int .u32 (((r1/2^4) ^^^ (crcTab.getD (r1%16) 0):Nat):Int)))] [] fun a H=>?_
  obtain⟨r2,hr2⟩:∃r2,crcNib r1=r2:=⟨_,rfl⟩;have hr2l:r2<4294967296:=by rw[←hr2];exact crcNib_lt hr1l
  have hq2:r1/2^4 ^^^ crcTab.getD (r1%16) 0=r2:=hr2;rw[hq2] at H;have H:=H.keep (L':=[(3,(.int .u32 (r2:Int))),(4,(ii j)),(0,(sS l)),(2,zO)]) kr;refine ztn ?_;have hm7:r2%16<16:=Nat.mod_lt _ om;have hmask7:r2&&&15=r2%16:=Nat.and_two_pow_sub_one_eq_mod r2 4;have htb7:=crcTab_lt (r2%16)
  refine zrg<|H.gn HP 1 [(24,(.int .u32 (r2:Int)))] fun a H=>H.valE 25 (.int .u32 ((r2:Int).fdiv (2^4))) (.int .u32 ((r2/2^4:Nat):Int)) kr kr (congrArg (Value.int .u32) (shr_nat (a:=r2) (c:=4))) fun a H=>H.gn HP 1 [(26,(.int .u32 (r2:Int)))] fun a H=>H.valE 27 (.int .u32 (bits .and .u32 (r2:Int) 15)) (.int .u32 ((r2%16:Nat):Int)) kr kr (congrArg (Value.int .u32) ((bits_and_u32 (a:=r2) (b:=15) om om).trans (congrArg _ hmask7))) fun a H=>H.u 28 (.pointer (some ⟨1,0+r2%16*1,none⟩)) (ex_aindex (e:=291) (b:=1) (off:=0) (n:=16) (m:=r2%16) (k:=1) (ik:=.u32) kr kr rfl hm7 kr kr) fun a H=>H.u 29 (.int .u32 ((crcTab.getD (r2%16) 0:Nat):Int)) (ex_l1 ((hL.below HP.bl).tab _ hm7)) fun a H=>H.valE 30 (.int .u32 (bits .xor .u32 ((r2/2^4:Nat):Int) ((crcTab.getD (r2%16) 0:Nat):Int))) (.int .u32 (((r2/2^4) ^^^ (crcTab.getD (r2%16) 0):Nat):Int)) kr kr (congrArg (Value.int .u32) (bits_xor_u32 (a:=(r2/2^4)) (b:=(crcTab.getD (r2%16) 0)) om om)) fun a H=>H.ge HP [(3,(.int .u32 (((r2/2^4) ^^^ (crcTab.getD (r2%16) 0):Nat):Int)))] [] fun a H=>?_
  have hn2:r2/2^4 ^^^ crcTab.getD (r2%16) 0=crcNib (crcNib (r ^^^ (l.getD j 0).toNat)):=by rw[hr1,hr2];rfl
  refine zibn<|ztn<|zrg<|H.gn HP 1 [(9,(ii j))] fun a H=>H.wi 10 ((j:Int)+1) fun a H=>H.ge HP [(4,(ii ((j:Int)+1)))] [] fun a H=>ztn ?_;have H:=H.as 4 (ii ((j+1:Nat):Int)) rfl rfl;have H:=H.as 3 (.int .u32 ((crcByte r (l.getD j 0):Nat):Int)) rfl (by rw[crcByte_nib];exact congrArg (fun n:Nat=>Value.int .u32 (n:Int)) hn2);refine⟨_,?_,j+1,crcByte r (l.getD j 0),rfl,H.keep kr,HP,om,crcByte_lt _ hr,by rw[take_byte hj2,crcRun_snoc,←hrun]⟩;omega
 have g8p:=of_decide_eq_false g8;refine wp_exit<|then_exit<|then_exit<|w_exit_here<|ztn (zsq ?_);have hfin:=Nat.xor_lt_two_pow (n:=32) (x:=4294967295) (y:=r) om om;refine zrg<|H.gn HP 1 [(31,(.int .u32 (r:Int)))] fun a H=>H.valE 32 (.int .u32 (bits .xor .u32 4294967295 (r:Int))) (.int .u32 ((4294967295 ^^^ r:Nat):Int)) kr kr (congrArg (Value.int .u32) (bits_xor_u32 (a:=4294967295) (b:=r) om om)) fun a H=>H.valE 33 (ii (IntKind.i64.wrap ((4294967295 ^^^ r:Nat):Int))) (ii ((4294967295 ^^^ r:Nat):Int)) kr kr (by rw[wrap_ini64 _ om]) fun a H=>H.gz HP [(2,(ii ((4294967295 ^^^ r:Nat):Int)))] fun a H=>zrt<|H.r1 (ii ((4294967295 ^^^ r:Nat):Int)) Tryz.results143 ?_;exact⟨by rw[hrun,List.take_of_length_le om];rfl,HP.bl⟩
theorem rsum_any (l:List UInt8) (w:World) (hl:l.length≤9000000000000000000):
  Calls Tryz.prog 199 #[.string (bstr l)] w fun e w'=>e=.returned (ii ((sumP l:Nat):Int))∧Below w.heap.size w w':=by
 have HP:=Hp.start w;refine w_enter 34 [(0,(sS l))] Tryz.func199 rfl Tryz.ntmps199 kr kr fun a H=>zq<|H.gz HP [(2,zO)] fun a H=>zq<|H.gz HP [(3,(.int .u32 4294967295))] fun a H=>zsq<|zq<|H.gz HP [(4,zO)] fun a H=>zbk<|w_loop (fun mm a wv=>∃(j:Nat),∃(r:Nat),l.length-j=mm∧Sl 34 [(4,(ii j)),(3,(.int .u32 (r:Int))),(0,(sS l)),(2,zO)] a∧Hp w wv [] []∧(j≤l.length)∧(r<4294967296)∧(r=crcRun 4294967295 (l.take j))) (l.length-0) ?_ ?_
 ·exact⟨0,4294967295,om,H.keep kr,HP,om,om,rfl⟩
 rintro mm a w_1 ⟨j,r,hmeas,H,HP,hj,hr,hrun⟩;refine zsq<|zq<|H.gz HP [(10,(.bool (decide ((j:Int)<(l.length:Int)))))] fun a H=>w_if H rfl (fun g10=>?_) (fun g10=>?_)
 ·have g10p:=of_decide_eq_true g10;refine zsk (ztn (zsq (zbk (zsq ?_))));have hj2:j<l.length:=om;have hb:=byte_lt (l.getD j 0)
  refine zrg<|H.gn HP 3 [(13,(.int .u32 (r:Int))),(14,(sS l)),(15,(ii j))] fun a H=>H.u 16 (.int .u8 (((l.getD j 0).toNat:Nat):Int)) (ex_sindex (k:=.i64) (l:=l) (i:=(j:Int)) (m:=j) kr kr kr om om) fun a H=>H.valE 17 (.int .u32 (IntKind.u32.wrap (((l.getD j 0).toNat:Nat):Int))) (.int .u32 (((l.getD j 0).toNat:Nat):Int)) kr kr (by rw[wrap_inu32 _ om]) fun a H=>H.valE 18 (.int .u32 (bits .xor .u32 (r:Int) (((l.getD j 0).toNat:Nat):Int))) (.int .u32 ((r ^^^ ((l.getD j 0).toNat):Nat):Int)) kr kr (congrArg (Value.int .u32) (bits_xor_u32 (a:=r) (b:=((l.getD j 0).toNat)) om om)) fun a H=>H.gz HP [(3,(.int .u32 ((r ^^^ ((l.getD j 0).toNat):Nat):Int)))] fun a H=>zq<|H.gz HP [(5,zO)] fun a H=>zbk<|w_loop (fun mm a wv=>∃(i:Nat),∃(s:Nat),8-i=mm∧Sl 34 [(5,(ii i)),(3,(.int .u32 (s:Int))),(4,(ii j)),(0,(sS l)),(2,zO)] a∧Hp w wv [] []∧(i≤8)∧(s<4294967296)∧(s=crcBits i (r ^^^ (l.getD j 0).toNat))) (8-0) ?_ ?_
  ·exact⟨0,r ^^^ (l.getD j 0).toNat,om,H.keep kr,HP,om,Nat.xor_lt_two_pow (n:=32) om om,rfl⟩
  rintro mm a w_2 ⟨i,s,hmeas,H,HP,hi,hs,hsr⟩;refine zsq<|zq<|H.gz HP [(20,(.bool (decide ((i:Int)<8))))] fun a H=>w_if H rfl (fun g20=>?_) (fun g20=>?_)
  ·have g20p:=of_decide_eq_true g20;refine zsk<|ztn<|zsq<|zbk<|zq<|H.gn HP 1 [(23,(.int .u32 (s:Int)))] fun a H=>H.valE 24 (.int .u32 ((s:Int).tmod 2)) (.int .u32 ((s:Int)%2)) kr kr (by rw[tmod_nn _ _ om]) fun a H=>H.gz HP [(6,(.bool (((s:Int)%2) == 1)))] fun a H=>zq<|H.gn HP 1 [(26,(.int .u32 (s:Int)))] fun a H=>H.valE 27 (.int .u32 (IntKind.u32.wrap ((s:Int).tdiv 2))) (.int .u32 ((s/2:Nat):Int)) kr kr (by rw[tdiv_nn _ _ om,wrap_inu32 _ om];congr 1) fun a H=>H.gz HP [(3,(.int .u32 ((s/2:Nat):Int)))] fun a H=>zq<|H.gz HP [(28,(.bool (((s:Int)%2) == 1)))] fun a H=>w_if H rfl (fun g28=>?_) (fun g28=>?_)
   ·have g28p:=eq_of_beq g28;refine zrg<|H.gn HP 1 [(29,(.int .u32 ((s/2:Nat):Int)))] fun a H=>H.valE 30 (.int .u32 (bits .xor .u32 ((s/2:Nat):Int) 2197175160)) (.int .u32 (((s/2) ^^^ 2197175160:Nat):Int)) kr kr (congrArg (Value.int .u32) (bits_xor_u32 (a:=(s/2)) (b:=2197175160) om om)) fun a H=>H.ge HP [(3,(.int .u32 (((s/2) ^^^ 2197175160:Nat):Int)))] [] fun a H=>zibn<|ztn<|zrg<|H.gn HP 1 [(21,(ii i))] fun a H=>H.wi 22 ((i:Int)+1) fun a H=>H.ge HP [(5,(ii ((i:Int)+1)))] [] fun a H=>ztn ?_;have H:=H.as 5 (ii ((i+1:Nat):Int)) rfl rfl;refine⟨_,?_,i+1,s/2 ^^^ 2197175160,rfl,H.keep kr,HP,om,by have:=crcBit_lt hs;unfold crcBit at this;rw[if_pos om] at this;exact this,by rw[crcBits_succ,←hsr];unfold crcBit;rw[if_pos om]⟩;omega
   have g28p:=ne_of_beq_false g28;refine zsk<|zibn<|ztn<|zrg<|H.gn HP 1 [(21,(ii i))] fun a H=>H.wi 22 ((i:Int)+1) fun a H=>H.ge HP [(5,(ii ((i:Int)+1)))] [] fun a H=>ztn ?_;have H:=H.as 5 (ii ((i+1:Nat):Int)) rfl rfl;have H:=H.as 3 (.int .u32 ((s/2:Nat):Int)) rfl (congrArg (Value.int .u32) om);refine⟨_,?_,i+1,s/2,rfl,H.keep kr,HP,om,by have:=crcBit_lt hs;unfold crcBit at this;rw[if_neg om] at this;exact this,by rw[crcBits_succ,←hsr];unfold crcBit;rw[if_neg om]⟩;omega
  have g20p:=of_decide_eq_false g20;refine wp_exit<|then_exit<|then_exit<|w_exit_here<|zibn<|ztn<|zrg<|H.gn HP 1 [(11,(ii j))] fun a H=>H.wi 12 ((j:Int)+1) fun a H=>H.ge HP [(4,(ii ((j:Int)+1)))] [] fun a H=>ztn ?_;have H:=H.as 4 (ii ((j+1:Nat):Int)) rfl rfl;refine⟨_,?_,j+1,s,rfl,H.keep kr,HP,om,hs,by rw[take_byte hj2,crcRun_snoc,←hrun];have hi8:i=8:=om;rw[hi8] at hsr;exact hsr⟩;omega
 have g10p:=of_decide_eq_false g10;refine wp_exit<|then_exit<|then_exit<|w_exit_here<|ztn (zsq ?_);have hfin:=Nat.xor_lt_two_pow (n:=32) (x:=4294967295) (y:=r) om om;refine zrg<|H.gn HP 1 [(31,(.int .u32 (r:Int)))] fun a H=>H.valE 32 (.int .u32 (bits .xor .u32 4294967295 (r:Int))) (.int .u32 ((4294967295 ^^^ r:Nat):Int)) kr kr (congrArg (Value.int .u32) (bits_xor_u32 (a:=4294967295) (b:=r) om om)) fun a H=>H.valE 33 (ii (IntKind.i64.wrap ((4294967295 ^^^ r:Nat):Int))) (ii ((4294967295 ^^^ r:Nat):Int)) kr kr (by rw[wrap_ini64 _ om]) fun a H=>H.gz HP [(2,(ii ((4294967295 ^^^ r:Nat):Int)))] fun a H=>zrt<|H.r1 (ii ((4294967295 ^^^ r:Nat):Int)) Tryz.results199 ?_;exact⟨by rw[hrun,List.take_of_length_le om];rfl,HP.bl⟩
open Go.WideMaps Go.WideElems
def laid2:List (String×DataW Unit):=[("onair/timecode.rates",Rows.laid_onair_timecode_rates),("onair/wire.remainders",Rows.laid_onair_wire_remainders)]
theorem gRates:Tryz.prog.globalNamed "onair/timecode.rates" =some 0:=kr
theorem gRem:Tryz.prog.globalNamed "onair/wire.remainders" =some 1:=kr
theorem door_met (os:Os) (args:Array Value):laidMetH Tryz.prog laid2 ((World.doorLaid Tryz.prog 4000 os).forCall (fun _ _=>0) ⟨#[],args,[]⟩).memory:=
  laidMetH_of_parts3 (fuel:=12) (laidMet_of_run' 12 kr kr) kr kr
theorem int_cell {H:Type}{enc:TypeId×Value→H}{P:Program}{w:World}{base:Nat}{spare:Nat→Bool}{held:Bool}{fuel:Nat}{t:TypeId}{cs:List Value}{x:DataW H×List MemPlace}{k:IntKind}(ht:P.underlying t=some (.int k)) (h:DataW.trod enc P w base spare held fuel t cs=some x):
    ∃n,cs=[.int k n]∧x.1=.lit (.int k n):=by
  obtain⟨n,rfl,rfl,_⟩:=DataW.trod_int ht h;exact⟨n,rfl,rfl⟩
theorem seg_get {cs l:List Value}{o n:Nat}(h:(cs.drop o).take n=l) {j:Nat}{v:Value}(hv:l[j]? =some v):cs[o+j]? =some v:=by
  subst h;have hj:j<n:=by
    have:=(List.getElem?_eq_some_iff.1 hv).1;simp at this;omega
  rw[List.getElem?_take_of_lt hj,List.getElem?_drop] at hv;exact hv
def litI {H:Type}:DataW H→Int
  | .lit (.int _ n)=>n
  |_=>0
def rowI {H:Type}:DataW H→List Int
  | .agg [.agg [a,b],c,d]=>[litI a,litI b,litI c,litI d]
  |_=>[]
def ofAgg {H:Type}:DataW H→List (DataW H)
  | .agg l=>l
  |_=>[]
set_option maxRecDepth 100000 in
theorem laid_of {W:World}(h:laidMetH Tryz.prog laid2 W):Laid W:=by
  rw[MakeChecks.laidMetH_plain _ _ _ kr] at h;obtain⟨ps,⟨g0,t0,cs0,f0,p0,q0,hg0,ht0,hv0,hd0,⟨g1,t1,cs1,f1,p1,q1,hg1,ht1,hv1,hd1,_,_⟩,_⟩,_,_⟩:=h;obtain rfl:=Option.some.inj (gRates.symm.trans hg0);obtain rfl:=Option.some.inj (gRem.symm.trans hg1);obtain rfl:=Option.some.inj ((show(Tryz.prog.globals[0]?).map (·.type)=some 244 from kr).symm.trans ht0);obtain rfl:=Option.some.inj ((show(Tryz.prog.globals[1]?).map (·.type)=some 293 from kr).symm.trans ht1);obtain⟨xs0,m0,_,hx0,_,hn0,hel0⟩:=DataW.trod_array (n:=8) (e:=175) kr hd0;obtain⟨xs1,m1,_,hx1,_,hn1,hel1⟩:=DataW.trod_array (n:=16) (e:=291) kr hd1;rw[show Tryz.prog.cellsOf 175=4 from kr] at hel0;rw[show Tryz.prog.cellsOf 291=1 from kr] at hel1;have e0:xs0.map (fun x=>rowI x.1)=(ofAgg (Rows.laid_onair_timecode_rates (H:=Unit))).map rowI:=by
    have:=congrArg (fun x=>(ofAgg x.1).map rowI) hx0;simpa [ofAgg,Function.comp_def] using this.symm
  have e1:xs1.map (fun x=>litI x.1)=(ofAgg (Rows.laid_onair_wire_remainders (H:=Unit))).map litI:=by
    have:=congrArg (fun x=>(ofAgg x.1).map litI) hx1;simpa [ofAgg,Function.comp_def] using this.symm
  refine⟨fun i hi=>?_,fun i hi=>?_⟩
  · have hxi:xs1[i]? =some xs1[i]:=List.getElem?_eq_getElem om;obtain⟨n,hseg,hlit⟩:=int_cell (k:=.u32) kr ((hel1 i hi).trans hxi);have hc:=seg_get hseg (j:=0) rfl;have hl:(xs1.map (fun x=>litI x.1))[i]? =some n:=by rw[List.getElem?_map,hxi];simp[hlit,litI]
    rw[e1] at hl;have hn:n=((crcTab.getD i 0:Nat):Int):=by
      have:∀j,j<16→((ofAgg (Rows.laid_onair_wire_remainders (H:=Unit))).map litI)[j]? =some ((crcTab.getD j 0:Nat):Int):=by decide
      rw[this i hi] at hl;exact(Option.some.inj hl).symm
    rw[←hn,show 0+i*1=i*1+0 from om];have:=World.var?_cell hg1 hv1 (i*1+0);rw[this];simpa using hc
  · have hr:i/4<8:=om;have hxi:xs0[i/4]? =some xs0[i/4]:=List.getElem?_eq_getElem om;obtain⟨y0,y1,y2,n',hy,_,h0,h1,h2⟩:=Deep.trod_struct3 Tryz.underlying175 ((hel0 (i/4) hr).trans hxi);obtain⟨z0,z1,n2,hz,_,k0,k1⟩:=trod_struct2 Tryz.underlying58 h0;obtain⟨a,sa,la⟩:=int_cell (k:=.i64) Tryz.underlying3 k0;obtain⟨b,sb,lb⟩:=int_cell (k:=.i64) Tryz.underlying3 k1;obtain⟨c,sc,lc⟩:=int_cell (k:=.i64) Tryz.underlying3 h1;obtain⟨d,sd,ld⟩:=int_cell (k:=.i64) Tryz.underlying3 h2;have a3:=seg_get rfl (seg_get rfl (seg_get sa (j:=0) rfl));have b3:=seg_get rfl (seg_get rfl (seg_get sb (j:=0) rfl));have c3:=seg_get rfl (seg_get sc (j:=0) rfl);have d3:=seg_get rfl (seg_get sd (j:=0) rfl);have hl:(xs0.map (fun x=>rowI x.1))[i/4]? =some [a,b,c,d]:=by
      rw[List.getElem?_map,hxi,hy,hz];simp only[Option.map_some,rowI,la,lb,lc,ld,litI]
    rw[e0] at hl;have key:∀r,r<8→((ofAgg (Rows.laid_onair_timecode_rates (H:=Unit))).map rowI)[r]? =some [rateCells.getD (4*r) 0,rateCells.getD (4*r+1) 0,rateCells.getD (4*r+2) 0,rateCells.getD (4*r+3) 0]:=by decide
    rw[key _ hr] at hl;simp only[Option.some.injEq,List.cons.injEq,and_true] at hl;obtain⟨rfl,rfl,rfl,rfl⟩:=hl;have hv:=World.var?_cell hg0 hv0 i;rw[hv];obtain⟨r,hr2⟩:∃r,i/4=r:=⟨_,rfl⟩;rw[hr2] at a3 b3 c3 d3;have hi4:i=4*r∨i=4*r+1∨i=4*r+2∨i=4*r+3:=om;rw[←Array.getElem?_toList];rcases hi4 with rfl|rfl|rfl|rfl
    · refine Eq.trans ?_ a3;congr 1;simp;try omega
    · refine Eq.trans ?_ b3;congr 1;simp;try omega
    · refine Eq.trans ?_ c3;congr 1;simp;try omega
    · refine Eq.trans ?_ d3;congr 1;simp;try omega
open Go.Shelf
def KeepC (n₀ n₁ n₂:Nat) (W W':World):Prop:=Below n₀ W W'∧∀(b:Nat) (o:Obj),n₁≤b→W.heap[b]? =some o→(o.isCells=true∨n₂≤b)→W'.heap[b]? =some o
theorem KeepC.refl (n₀ n₁ n₂:Nat) (W:World):KeepC n₀ n₁ n₂ W W:=⟨Below.refl _ _,fun _ _ _ h _=>h⟩
theorem KeepC.trans {n₀ n₁ n₂:Nat}{A B C:World}(h:KeepC n₀ n₁ n₂ A B) (k:KeepC n₀ n₁ n₂ B C):KeepC n₀ n₁ n₂ A C:=⟨h.1.trans k.1,fun b o hb ho hc=>k.2 b o hb (h.2 b o hb ho hc) hc⟩
theorem KeepC.put {n₀ n₁ n₂:Nat}{w:World}(hn:n₀≤w.heap.size) (hn₂:n₂=w.heap.size+2) (W:World) (l:Nat) (o o':Obj) (hl:w.heap.size≤l) (hl2:l<w.heap.size+2) (h:W.heap[l]? =some o) (h1:o.isCells=false) (h2:o.isWalk=false):KeepC n₀ n₁ n₂ W (W.putObj l o'):=
  ⟨belowK_b hn W l o o' hl h h1 h2,fun b o2 _ hb hc=>by
    refine(World.putObj_heap_other ?_).trans hb
    intro e
    subst e
    rcases hc with hc|hc
    · rw[h] at hb
      cases hb
      rw[h1] at hc
      cases hc
    · omega⟩
theorem KeepC.below {n₀ n₁ n₂:Nat}{W W':World}(h:Below W.heap.size W W') (hn:n₀≤W.heap.size):KeepC n₀ n₁ n₂ W W':=
  ⟨h.mono hn,fun b o _ ho _=>(h.block b (Array.getElem?_eq_some_iff.1 ho).1).trans ho⟩
theorem KeepC.set {n₀ n₁ n₂:Nat}(W:World) {b i:Nat}(v:Value) (h0:n₀≤b) (h1:b<n₁):KeepC n₀ n₁ n₂ W (W.setCell ⟨b,i,none⟩ v):=
  ⟨(Below.refl _ _).setCell h0 _,fun b' o hb ho _=>(Below.heap_setCell W ⟨b,i,none⟩ v b' (by show b'≠b;omega)).trans ho⟩
theorem KeepC.mono {n₀ n₁ n₂ m₁ m₂:Nat}{W W':World}(h:KeepC n₀ n₁ n₂ W W') (hm:n₁≤m₁) (hm2:n₂≤m₂):KeepC n₀ m₁ m₂ W W':=⟨h.1,fun b o hb ho hc=>h.2 b o (Nat.le_trans hm hb) ho (hc.imp id (Nat.le_trans hm2))⟩
theorem KeepC.box {n₀ n₁ n₂:Nat}{W W':World}(h:KeepC n₀ n₁ n₂ W W') {b:Nat}{t:TypeId}{vs:Array Value}(hb:n₁≤b) (hx:Box W b t vs):Box W' b t vs:=h.2 b _ hb hx (.inl rfl)
theorem KeepC.from {n₀ n₁ n₂ B:Nat}{W W':World}(h:KeepC n₀ n₁ n₂ W W') (h1:n₁≤B) (h2:n₂≤B):KeepsFrom B W W':=⟨h.1.size,fun k o hk ho _=>h.2 k o om ho (.inr om)⟩
theorem keepsFrom_below {B:Nat}{W W':World}(h:Below W.heap.size W W'):KeepsFrom B W W':=⟨h.size,fun k o _ hk _=>(h.block k (Array.getElem?_eq_some_iff.1 hk).1).trans hk⟩
theorem box_own {β:Type}(B b:Nat) (t:TypeId) (f:β→Array Value):OwnFrom B (fun s W=>Box W b t (f s)):=fun s X Y row hs hg hr=>
  hs.grown hg (fun e=>by
    obtain⟨_,o,ho,hc⟩:=hr b e
    rw[show X.heap[b]? =_ from hs] at ho
    cases ho
    cases hc)
theorem OwnFrom.imp {β:Type}{B B':Nat}{I:β→World→Prop}(h:OwnFrom B I) (hb:B≤B'):OwnFrom B' I:=fun s W W' row hs hg hr=>h s W W' row hs hg (fun r e=>⟨Nat.le_trans hb (hr r e).1,(hr r e).2⟩)
theorem OwnFrom.ex {β γ:Type}{B:Nat}{I:γ→β→World→Prop}(h:∀c,OwnFrom B (I c)):OwnFrom B (fun s W=>∃c,I c s W):=fun s W W' row hs hg hr=>by
  obtain⟨c,hc⟩:=hs
  exact⟨c,h c s W W' row hc hg hr⟩
def SeqO {α:Type}(F:Fence) (n:Nat) (P:Program) (g:Nat) (lb:Array Value) (encs:α→Array Value) (Kp:World→World→Prop) (S Sp:List α→Prop) (N:Nat) (w:World):Prop:=
  ∀(l:Nat) (J Jx:List α→World→Prop) (W:World),Below w.heap.size w W→w.heap.size+2≤W.heap.size→OwnFrom W.heap.size J→OwnFrom W.heap.size Jx →
    (∀pre x W1,J pre W1→pre.length<N→YieldAt F (n-1) P l (encs x) W1 fun e W'=>
      (e=.returned (.bool true)∧J (pre++[x]) W'∧Kp W1 W')∨(e=.returned (.bool false)∧Jx (pre++[x]) W'∧Kp W1 W')) →
    J [] W →
    CallsIn F n P g (#[.func (.yield l) #[] #[]]++lb) W fun e W'=>(∃v,e=.returned v)∧((∃xs,S xs∧J xs W')∨(∃pre,Sp pre∧Jx pre W'))
def rdPost {α:Type}(B:Nat) (Kp:World→World→Prop) (I:List α→World→Prop) (Ix:Code→List α→World→Prop) (xs:List α) (W:World):Exit→Act→World→Prop
  | .normal,_,W'=>KeepsFrom B W W'∧Kp W W'∧I xs W'
  | .ret,_,W'=>KeepsFrom B W W'∧Kp W W'∧Ix .ret xs W'
  | .exit id,_,W'=>KeepsFrom B W W'∧Kp W W'∧Ix (.exit id) xs W'
  | .goto t,_,W'=>KeepsFrom B W W'∧Kp W W'∧Ix (.goto t) xs W'
  | .panic _,_,_=>False
  | .outgrown,_,_=>False
theorem OwnFrom.at {β γ:Type}{B:Nat}{I:β→World→Prop}(h:OwnFrom B I) (s:β):OwnFrom B (fun(_:γ) W=>I s W):=fun _ W W' row hs hg hr=>h s W W' row hs hg hr
theorem OwnFrom.below {β:Type}{B:Nat}{I:β→World→Prop}(h:OwnFrom B I) {s:β}{W W':World}(hs:I s W) (hb:Below W.heap.size W W'):I s W':=
  h s W W' none hs ⟨hb.os,hb.tape,hb.output,hb.size,fun k hk _=>hb.block k hk⟩ (fun r e=>by cases e)
section
variable {F:Fence}{n:Nat}{P:Program}
theorem own_block {β:Type}{B b:Nat}{o:Obj}(hb:b<B):OwnFrom B (fun(_:β) W=>W.heap[b]? =some o):=fun _ X Y row hs hg hr=>
  (hg.block b (Array.getElem?_eq_some_iff.1 hs).1 (fun e=>by have:=(hr b e.symm).1;omega)).trans hs
theorem yieldO {α:Type}{ps:Array Tmp}{assign body:Code}{tmps:Array Value}{fn:FuncId}{encs:α→Array Value}{Kp:World→World→Prop}{D l B:Nat}(hD:B=D) (hl:l=D+1)
    (hfn:F.fn fn) (hKt:∀{A B C:World},Kp A B→Kp B C→Kp A C) (hKb:∀(W:World) (l:Nat) (o o':Obj),B≤l→l<B+2→W.heap[l]? =some o→o.isCells=false→o.isWalk=false→Kp W (W.putObj l o')) (hps:∀x,(encs x).size=ps.size)
    {I:List α→World→Prop}{Ix:Code→List α→World→Prop}(hI:OwnFrom B I) (hIx:∀c,OwnFrom B (Ix c)) {Ax:α→Act→World→Prop}(hAx:∀x a',OwnFrom B (fun(_:Unit) W=>Ax x a' W))
    (rec:LoopState→Option Code→Loop) (hrec:rec=fun st pe=>{ state:=st,pending:=pe,fn,tmps,params:=ps,assign,body,defers:=D})
    {pre:List α}{x:α}{W:World}
    (hassign:∀(K:Act→World→Prop),I pre W→(∀a' W',KeepsFrom B W W'→Kp W W'→I pre W'→Ax x a' W'→K a' W') →
      assign.wpIn (F.inRound l) n P (Exit.then K (fun _ _ _=>False)) { tmps:=(ps.zip (encs x)).foldl (fun t (p,v)=>t.setIfInBounds p v) tmps,defers:=[]} W)
    (hbody:∀(a':Act) (W:World),I pre W→Ax x a' W→body.wpIn (F.inRound l) n P (rdPost B Kp I Ix (pre++[x]) W) a' W)
    (hi:I pre W) (hr:W.heap[l]? =some (.loop (rec .ready none))) (hd:W.heap[D]? =some (.deferred (some []))):
    YieldAt F n P l (encs x) W fun e W'=>(e=.returned (.bool true)∧(I (pre++[x]) W'∧W'.heap[l]? =some (.loop (rec .ready none))∧W'.heap[D]? =some (.deferred (some [])))∧Kp W W') ∨
      (e=.returned (.bool false)∧(∃c,Ix c (pre++[x]) W'∧W'.heap[l]? =some (.loop (rec .done (some c)))∧W'.heap[D]? =some (.deferred (some [])))∧Kp W W'):=by
  have hy:=run_yield (P:=P) (args:=encs x) hr (by rw[hrec];exact hps x);rw[hrec] at hy;refine⟨fn,_,assign,body,hy,roundIn_of_wpIn hfn (hassign _ hi ?_)⟩;intro a' Wa kf kp ia ax;have r1:=kf.same l _ om hr rfl;have d1:=kf.same D _ om hd rfl;have hlt:=(Array.getElem?_eq_some_iff.1 r1).1;refine⟨_,run_beginRound r1 (by rw[hrec]),?_⟩;have k1:Kp Wa (Wa.putObj l (.loop { rec .ready none with state:=.busy})):=hKb _ _ _ _ om om r1 rfl rfl;have r2:(Wa.putObj l (.loop { rec .ready none with state:=.busy})).heap[l]? =some (.loop { rec .ready none with state:=.busy}):=World.putObj_heap_same hlt;have d2:(Wa.putObj l (.loop { rec .ready none with state:=.busy})).heap[D]? =some (.deferred (some [])):=(World.putObj_heap_other om).trans d1;refine wpIn_mono (hbody a' _ (hI.putObj _ ia om r1 rfl) ((hAx x a').putObj (s:=()) _ ax om r1 rfl)) ?_
  generalize Wa.putObj l (.loop { rec .ready none with state:=.busy})=Wc at k1 r2 d2 ⊢;have fin:∀(jump:Option Code) (W3:World),KeepsFrom B Wc W3 →
      (Instr.endRound l jump).run P W3=.ok (.bool jump.isNone) (W3.putObj l (.loop (rec (if jump.isNone then .ready else .done) jump))) ∧
      W3.heap[l]? =some (.loop { rec .ready none with state:=.busy}) ∧
      (W3.putObj l (.loop (rec (if jump.isNone then .ready else .done) jump))).heap[l]? =some (.loop (rec (if jump.isNone then .ready else .done) jump)) ∧
      (W3.putObj l (.loop (rec (if jump.isNone then .ready else .done) jump))).heap[D]? =some (.deferred (some [])):=fun jump W3 k3=>by
    have r3:=k3.same l _ om r2 rfl;have:=run_endRound (P:=P) jump r3;rw[hrec] at this ⊢;exact⟨this,by rw[hrec] at r3;exact r3,World.putObj_heap_same (Array.getElem?_eq_some_iff.1 r3).1,(World.putObj_heap_other om).trans (k3.same D _ om d2 rfl)⟩
  rintro e a3 W3 hp;cases e with
  |normal=>
    obtain⟨k3,kp3,i3⟩:=hp;obtain⟨hrun,r3,r4,d4⟩:=fin none W3 k3;exact⟨_,_,hrun,.inl ⟨rfl,⟨hI.putObj _ i3 om r3 rfl,r4,d4⟩,hKt kp (hKt (hKt k1 kp3) (hKb _ _ _ _ om om r3 rfl rfl))⟩⟩
  |ret=>
    obtain⟨k3,kp3,i3⟩:=hp;obtain⟨hrun,r3,r4,d4⟩:=fin (some .ret) W3 k3;exact⟨_,_,hrun,.inr ⟨rfl,⟨.ret,(hIx _).putObj _ i3 om r3 rfl,r4,d4⟩,hKt kp (hKt (hKt k1 kp3) (hKb _ _ _ _ om om r3 rfl rfl))⟩⟩
  |exit id=>
    obtain⟨k3,kp3,i3⟩:=hp;obtain⟨hrun,r3,r4,d4⟩:=fin (some (.exit id)) W3 k3;exact⟨_,_,hrun,.inr ⟨rfl,⟨.exit id,(hIx _).putObj _ i3 om r3 rfl,r4,d4⟩,hKt kp (hKt (hKt k1 kp3) (hKb _ _ _ _ om om r3 rfl rfl))⟩⟩
  |goto t=>
    obtain⟨k3,kp3,i3⟩:=hp;obtain⟨hrun,r3,r4,d4⟩:=fin (some (.goto t)) W3 k3;exact⟨_,_,hrun,.inr ⟨rfl,⟨.goto t,(hIx _).putObj _ i3 om r3 rfl,r4,d4⟩,hKt kp (hKt (hKt k1 kp3) (hKb _ _ _ _ om om r3 rfl rfl))⟩⟩
  |panic ch=>exact hp.elim
  |outgrown=>exact hp.elim
theorem wpIn_rangeO {α:Type}{g:Operand}{ps:Array Tmp}{assign body:Code}{Q:Exit→Act→World→Prop}{a:Act}{w:World}
    (hro:F.round=none) (h1:1≤n) {gf:Nat}{lb:Array Value}(hg:a.eval g=.func (.func gf) #[] lb) (hFg:F.fn gf) (eg:∀args w,(callFunc gf args).run P w=.ok (.enter gf args) w)
    {encs:α→Array Value}{Kp:World→World→Prop}{S Sp:List α→Prop}{N:Nat}(hseq:SeqO F (n-1) P gf lb encs Kp S Sp N w)
    (hKt:∀{A B C:World},Kp A B→Kp B C→Kp A C) (hKb:∀(W:World) (l:Nat) (o o':Obj),w.heap.size≤l→l<w.heap.size+2→W.heap[l]? =some o→o.isCells=false→o.isWalk=false→Kp W (W.putObj l o')) (hps:∀x,(encs x).size=ps.size)
    (I:List α→World→Prop) (Ix:Code→List α→World→Prop) (hI:OwnFrom w.heap.size I) (hIx:∀c,OwnFrom w.heap.size (Ix c)) (h0:I [] w) (Ax:α→Act→World→Prop) (hAx:∀x a',OwnFrom w.heap.size (fun(_:Unit) W=>Ax x a' W))
    (hassign:∀(l:Nat) (pre:List α) (x:α) (W:World) (K:Act→World→Prop),I pre W→(∀a' W',KeepsFrom w.heap.size W W'→Kp W W'→I pre W'→Ax x a' W'→K a' W') →
      assign.wpIn (F.inRound l) (n-1-1) P (Exit.then K (fun _ _ _=>False)) { tmps:=(ps.zip (encs x)).foldl (fun t (p,v)=>t.setIfInBounds p v) a.tmps,defers:=[]} W)
    (hbody:∀(l:Nat) (pre:List α) (x:α) (a':Act) (W:World),I pre W→Ax x a' W→pre.length<N→body.wpIn (F.inRound l) (n-1-1) P (rdPost w.heap.size Kp I Ix (pre++[x]) W) a' W)
    (hdone:∀(D:Nat) (xs:List α) (W:World),w.heap.size≤D→S xs→I xs W→W.heap[D]? =some (.deferred (some []))→Q .normal { a with defers:={ target:=.collected D,args:=#[]} ::a.defers} W)
    (hstop:∀(D:Nat) (c:Code) (pre:List α) (W:World),w.heap.size≤D→Sp pre→Ix c pre W→W.heap[D]? =some (.deferred (some []))→c.wpIn F n P Q { a with defers:={ target:=.collected D,args:=#[]} ::a.defers} W):
    (Code.rangeFunc g ps assign body).wpIn F n P Q a w:=by
  refine wpIn_rangeFunc ?_;intro fn hfn;rw[hro];obtain⟨rec,hrec⟩:∃rec:LoopState→Option Code→Loop,rec=fun st pe=>{ state:=st,pending:=pe,fn,tmps:=a.tmps,params:=ps,assign,body,defers:=w.heap.size}:=⟨_,rfl⟩;obtain⟨W1,hW1⟩:∃W1,(w.alloc (.deferred (some []))).alloc (.loop (rec .ready none))=W1:=⟨_,rfl⟩;have r1:W1.heap[w.heap.size+1]? =some (.loop (rec .ready none)):=by
    rw[←hW1];have:=heap_alloc_new (w.alloc (.deferred (some []))) (.loop (rec .ready none));rwa [World.size_alloc] at this
  have d1:W1.heap[w.heap.size]? =some (.deferred (some [])):=by
    rw[←hW1];exact(Below.heap_alloc _ _ _ (by simp)).trans (heap_alloc_new w _)
  have s1:W1.heap.size=w.heap.size+2:=by rw[←hW1];simp
  have i1:I [] W1:=by rw[←hW1];exact hI.alloc _ (hI.alloc _ h0)
  have b1:Below w.heap.size w W1:=by
    rw[←hW1];exact((Below.refl _ w).alloc (Nat.le_refl _) _).alloc (by simp) _
  refine⟨w.heap.size+1,[{ target:=.collected w.heap.size,args:=#[]}],W1,{ target:=.fn (.func gf) lb,args:=#[.func (.yield (w.heap.size+1)) #[] #[]]},W1,gf,
    #[.func (.yield (w.heap.size+1)) #[] #[]]++lb,W1,?_,?_,?_,?_,fun _=>h1,?_⟩
  · rw[←hW1,hrec];exact run_enterLoop_outer _ _ _ _ _
  · simp only[resolve,hg];simp[go_sem]
  · intro f' hf';simp[Target.leads] at hf';subst hf';exact hFg
  · simp[invoke,go_sem,eg]
  · refine(hseq (w.heap.size+1)
      (fun pre W=>I pre W∧W.heap[w.heap.size+1]? =some (.loop (rec .ready none))∧W.heap[w.heap.size]? =some (.deferred (some [])))
      (fun pre W=>∃c,Ix c pre W∧W.heap[w.heap.size+1]? =some (.loop (rec .done (some c)))∧W.heap[w.heap.size]? =some (.deferred (some [])))
      W1 b1 om
      (OwnFrom.and (OwnFrom.imp hI om) (OwnFrom.and (own_block om) (own_block om)))
      (OwnFrom.ex fun c=>OwnFrom.and (OwnFrom.imp (hIx c) om) (OwnFrom.and (own_block om) (own_block om)))
      (fun pre x W hJ hlen=>yieldO (Kp:=Kp) (B:=w.heap.size) rfl rfl hfn (fun h k=>hKt h k) hKb hps hI hIx hAx rec hrec (fun K hi hK=>hassign _ pre x W K hi hK) (fun a' W' hi hax=>hbody _ pre x a' W' hi hax hlen) hJ.1 hJ.2.1 hJ.2.2)
      ⟨i1,r1,d1⟩).mono ?_
    rintro e W2 ⟨⟨v,rfl⟩,(⟨xs,hS,hi,hl,hk⟩|⟨pre,hSp,c,hi,hl,hk⟩)⟩
    · exact⟨none,_,by have:=run_endLoop (P:=P) hl (by rw[hrec];simp);rw[hrec] at this;exact this,hdone _ xs _ (Nat.le_refl _) hS (hI.putObj _ hi om hl rfl) ((World.putObj_heap_other om).trans hk)⟩
    · exact⟨some c,_,by have:=run_endLoop (P:=P) hl (by rw[hrec];simp);rw[hrec] at this;exact this,hstop _ c pre _ (Nat.le_refl _) hSp ((hIx c).putObj _ hi om hl rfl) ((World.putObj_heap_other om).trans hk)⟩
end
section
variable {P:Program}{ops:Array Oper}{Q:Exit→Act→World→Prop}{a:Act}{w w':World}{rest:List Oper}{o:Oper}{n m:Nat}{L:List (Nat×Value)}
theorem wpListIn_wantedW (hw:Region.wanted o (yielded ops a.tmps)=true) (h:o.uponIn Fence.wide m P a (wpListIn Fence.wide m P ops Q rest) Q ((execOp a.eval o).run P w)):wpListIn Fence.wide m P ops Q (o::rest) a w:=by
  unfold wpListIn;rw[if_pos hw];exact⟨fun _ _=>trivial,h⟩
theorem Sl.valI (H:Sl n L a) (d:Nat) (v:Value) (hc:chk ops n L o d=true)
    (hx:(execOp (ev L) o).run P w=.ok (.value v) w) (k:∀a',Sl n ((d,v)::L) a'→wpListIn Fence.wide m P ops Q rest a' w):wpListIn Fence.wide m P ops Q (o::rest) a w:=by
  obtain⟨hd,hn,hk,hs,hw⟩:=chk_spec hc;refine wpListIn_wantedW (H.wanted hw) ?_;rw[H.exec hk hs,hx];show wpListIn Fence.wide m P ops Q rest (a.put o.dst v) w;rw[hd];exact k _ (H.put v hn)
theorem Sl.callY (H:Sl n L a) (d:Nat) {l:Nat}{args:Array Value}{R:Ending→World→Prop}(hc:chk ops n L o d=true)
    (hx:(execOp (ev L) o).run P w=(Instr.yield l args).run P w) (hY:YieldAt Fence.wide m P l args w R)
    (k:∀e w'',R e w''→∃v,e=.returned v∧∀a',Sl n ((d,v)::L) a'→wpListIn Fence.wide (m+1) P ops Q rest a' w''):wpListIn Fence.wide (m+1) P ops Q (o::rest) a w:=by
  obtain⟨hd,hn,hk,hs,hw⟩:=chk_spec hc;obtain⟨fn,tmps,assign,body,hy,hR⟩:=hY;refine wpListIn_wantedW (H.wanted hw) ?_;rw[H.exec hk hs,hx,hy];refine⟨fun _=>om,hR.mono fun e w'' he=>?_⟩;obtain⟨v,rfl,hv⟩:=k e w'' he;show wpListIn Fence.wide (m+1) P ops Q rest (a.put o.dst v) w'';rw[hd];exact hv _ (H.put v hn)
theorem w_regionI (m:Nat) {id:Nat}{l:List Oper}(h:wpListIn Fence.wide m P l.toArray Q l a w):(Code.region id l.toArray false).wp P Q a w:=wpIn_wide.1 (wpIn_region_lit h)
end
theorem bstr_dataE (l:List UInt8):(bstr l).data.toList=l:=by simp[bstr]
theorem Op.copyS {P:Program}{ops:Array Oper}{Q:Exit→Act→World→Prop}{a:Act}{w:World}{o:Oper}{n i:Nat}{L:List (Nat×Value)}{K:Act→World→Prop}{KB:List FK}{w0:World}{LH:List HB}(H:Sl n L a) (HP:Hp w0 w LH KB) (ib d b off m c:Nat) (tb:TypeId) (us:List Value) (s:List UInt8) (f:Bool) (LH':List HB) {dT sT ty e:TypeId}
    (ho:ops[i]? =some o) (hc:chk ops n L o d=true)
    (hx:execOp (ev L) o=(do pure (.value (←Builtin.copy_ #[dT,sT] ty #[.slice (some ⟨b,off,none⟩) m c,.string (bstr s)]))))
    (hu:P.underlying dT=some (.slice e)) (hs:sizeB P e=some 1) (hi:LH[ib]? =some (bx b tb us f)) (hle:s.length≤m) (hfit:off+s.length≤us.length)
    (hL:LH.set ib (bx b tb (us.take off++Lib.byteCells s++us.drop (off+s.length)) f)=LH')
    (kk:∀w' a',Sl n ((d,.int .i64 (s.length:Int))::L) a'→Hp w0 w' LH' KB→K a' w'):wpOp P ops Q i K a w:=by
  obtain⟨hd,hn,hk,hs',hw⟩:=chk_spec hc;refine wpOp_wanted ho (H.wanted hw) ?_;have hb:=HP.at_ ib hi;have hrun:=Lib.run_copy_row_string (P:=P) w dT sT ty e b off m c (bstr s) us.toArray tb hu hs hb (by rw[bstr_size];exact hle) (by rw[bstr_size];simpa using hfit);rw[bstr_size,bstr_dataE] at hrun;unfold Oper.wp;rw[H.exec hk hs',hx];simp only[Sem.run_bind,hrun,Result.andThen_ok,Sem.run_pure];rw[Oper.upon_value,hd];refine kk _ _ (H.put _ hn) (HP.mut ib hi (bx b tb (us.take off++Lib.byteCells s++us.drop (off+s.length)) f) _ hL ⟨rfl,rfl,rfl,by simp,fun k hkl hne=>?_⟩ ?_ (bx_ok _ _ _ _) (fun k hk=>?_) (fun k hk=>.inl hk) (fun k _ hk=>hk) rfl)
  · have:k≠b:=hne;simp[World.setRow,Array.getElem?_modify,Ne.symm this]
  · have:=setRow_heap w b us.toArray (us.take off++Lib.byteCells s++us.drop (off+s.length)).toArray tb (0,0) hb;exact this
  · cases hk
    simpa using hb.lt
theorem byteCells_len (s:List UInt8):(Lib.byteCells s).length=s.length:=by simp[Lib.byteCells]
theorem byteCells_get (s:List UInt8) (k:Nat):(Lib.byteCells s)[k]? =(s[k]?).map fun b=>Value.int .u8 (b.toNat:Int):=by simp[Lib.byteCells]
def int3:Option (Int×Nat)→Value
  |none=>.tuple #[.int .i64 0,.int .i64 0,.int .i64 10]
  |some (n,e)=>.tuple #[.int .i64 n,.int .i64 e,.int .i64 0]
theorem pow128 (j:Nat):(2:Nat)^(7*j)=128^j:=by rw[Nat.pow_mul]
theorem pow128_lt {j:Nat}(h:j<9):128^j≤72057594037927936:=by
  have:128^j≤128^8:=Nat.pow_le_pow_right om om;simpa using this
theorem u8_wrap64 (x:Nat) (h:x<256):IntKind.u64.wrap (x:Int)=x:=by
  rw[IntKind.wrap_u64];omega
theorem join_eq (y j b:Nat) (hy:y<128^j) (hj:j<9) (hb:b<256):
    bits BinOp.or IntKind.u64 (y:Int) (IntKind.u64.wrap (IntKind.u64.wrap (bits BinOp.and IntKind.u8 (b:Int) 127)*2^(7*j)))=((y+b%128*128^j:Nat):Int):=by
  have hp:=pow128_lt hj;have h1:bits BinOp.and IntKind.u8 (b:Int) 127=((b%128:Nat):Int):=by
    rw[show (127:Int)=((127:Nat):Int) from rfl,u8_and_nat b 127 hb om];congr 1;exact Nat.and_two_pow_sub_one_eq_mod b 7
  rw[h1,u8_wrap64 _ om];have h2:((b%128:Nat):Int)*2^(7*j)=((b%128*128^j:Nat):Int):=by
    rw[←pow128];push_cast;rfl
  have h3:b%128*128^j≤127*128^j:=Nat.mul_le_mul_right _ om;rw[h2,IntKind.wrap_u64,show((b%128*128^j:Nat):Int)%18446744073709551616=((b%128*128^j:Nat):Int) from om];rw[u64_or_nat _ _ om om,Nat.or_comm,nat_join (7*j) _ _ (by rw[pow128];exact Nat.mul_mod_left _ _) (by rw[pow128];exact hy)];congr 1;omega
set_option maxRecDepth 100000 in
set_option maxHeartbeats 4000000 in
theorem wint_any (s:ByteArray) (k:Nat) (w:World) (hs:s.size≤9000000000000000000) (hk:k≤s.size):
    Calls Tryz.prog 190 #[.string s,.int .i64 k] w fun e w'=>e=.returned (int3 (rdInt s.data.toList k))∧w=w':=by
  have d0:decide ((k:Int)<0)=false:=by simp
  have d1:decide (s.size<k)=false:=by simp;omega
  go_enter Tryz.func190,Tryz.ntmps190;go_wp2_with fail;go_loop [7,8] (fun z i=>∃(j y:Nat),j≤9∧k+j≤s.size∧i=.int .i64 j∧z=.int .u64 y∧y<128^j∧vget 9 0 0 (s.data.toList.drop k)=vget (9-j) j y (s.data.toList.drop (k+j))) (fun _ i=>9-(intOf i).toNat)
  case atStart=>exact⟨0,0,om,om,rfl,rfl,by decide,rfl⟩
  case round=>
    obtain⟨j,y,hj,hkj,rfl,rfl,hy,hv⟩:=hrel;have HY:=Lib.hid hy;have HV:=Lib.hid hv;clear hy hv;have dk:0≤(k:Int)+j:=om;by_cases h9:j<9
    · by_cases hl:k+j<s.size
      · have hl1:(k:Int)+j<s.size:=om;have hb:=(s[k+j]'hl).toNat_lt;have hdrop:s.data.toList.drop (k+j)=s[k+j]::s.data.toList.drop (k+(j+1)):=by
          have hl':k+j<s.data.toList.length:=by simpa using hl
          rw[List.drop_eq_getElem_cons hl'];rfl
        have HJ:=Lib.hid (join_eq y j (s[k+j]'hl).toNat HY.out h9 hb);have HP:=Lib.hid (pow128_lt h9);have hst:vget (9-j) j y (s.data.toList.drop (k+j))=(if 128≤(s[k+j]'hl).toNat then vget (9-(j+1)) (j+1) (y+(s[k+j]'hl).toNat%128*128^j) (s.data.toList.drop (k+(j+1)))
            else if(s[k+j]'hl).toNat=0∧0<j then none
            else if unzig (y+(s[k+j]'hl).toNat%128*128^j)< -wmax then none
            else some (unzig (y+(s[k+j]'hl).toNat%128*128^j),j+1)):=by
          rw[hdrop,show 9-j=(9-(j+1))+1 from om,vget]
        have HS:=Lib.hid hst;have hz:y+(s[k+j]'hl).toNat%128*128^j<128^(j+1):=by
          rw[Nat.pow_succ];have h3:(s[k+j]'hl).toNat%128*128^j≤127*128^j:=Nat.mul_le_mul_right _ om;have:=HY.out;omega
        have HZ:=Lib.hid hz;clear hst hz hdrop;go_upto_region 8 with(fail);go_cut [7] (fun z wx=>z=.int .u64 ((y+(s[k+j]'hl).toNat%128*128^j:Nat):Int)∧w=wx)
        case first=>
          go_wp2_with fail;go_meet;exact⟨congrArg _ HJ.out,rfl⟩
        case rest=>
          obtain⟨rfl,rfl⟩:=hcut;generalize y+(s[k+j]'hl).toNat%128*128^j=Z at *;have hZb:Z<9223372036854775808:=by
            have h1:=HZ.out;have h2:128^(j+1)≤128^9:=Nat.pow_le_pow_right om om;have h3:(128:Nat)^9=9223372036854775808:=by decide
            omega
          generalize hbb:(s[k+j]'hl).toNat=b at *;clear hbb;have fin:∀r,vget (9-j) j y (s.data.toList.drop (k+j))=r→rdInt s.data.toList k=r.map (fun p=>(p.1,k+p.2)):=by
            intro r hr;unfold rdInt;rw[HV.out,hr]
          have FIN:=Lib.hid fin;clear fin;by_cases h1:128≤b
          · have hs1:=HS.out;rw[if_pos h1] at hs1;have HS1:=Lib.hid hs1;have h1i:(128:Int)≤b:=om;clear hs1 HS;go_wp2_with fail;go_round
            case rel=>exact⟨j+1,Z,om,om,by go_num,rfl,HZ.out,HV.out.trans HS1.out⟩
            case measure=>simp[intOf];omega
          · have hs1:=HS.out;rw[if_neg h1] at hs1;have h1i:(b:Int)<128:=om;by_cases h2:b=0∧0<j
            · rw[if_pos h2] at hs1;have HF:=Lib.hid (FIN.out _ hs1);obtain⟨rfl,h2j⟩:=h2;have h2i:(0:Int)<j:=om;clear hs1 HS;go_wp2_with fail;go_ret3;exact⟨by rw[HF.out];rfl,rfl⟩
            · rw[if_neg h2] at hs1;have hodd:Z%2=1→unzig Z=-((Z:Int)/2)-1:=by intro ho;unfold unzig;rw[if_pos ho];omega
              have heven:Z%2≠1→unzig Z=(Z:Int)/2:=by intro ho;unfold unzig;rw[if_neg ho];omega
              have F1:unzig Z< -4611686018427387903→Hid (rdInt s.data.toList k=none):=fun h3=>Lib.hid (by
                have h3':unzig Z< -wmax:=h3;have:=FIN.out _ hs1;rw[if_pos h3'] at this;exact this)
              have F2:¬unzig Z< -4611686018427387903→Hid (rdInt s.data.toList k=some (unzig Z,k+(j+1))):=fun h3=>Lib.hid (by
                have h3':¬unzig Z< -wmax:=h3;have:=FIN.out _ hs1;rw[if_neg h3'] at this;exact this)
              have hbj:(((b:Int) == 0)=false)∨(b=0∧j=0):=by
                by_cases h:b=0
                · right;omega
                · left;simp;exact h
              have hz2:(Z%2=1∧((Z:Int)%2 == 1)=true∧(Z%2 == 1)=true)∨(Z%2≠1∧((Z:Int)%2 == 1)=false∧(Z%2 == 1)=false):=by
                by_cases h:Z%2=1
                · left;refine⟨h,?_,?_⟩<;>simp<;>omega
                · right;refine⟨h,?_,?_⟩<;>simp<;>omega
              clear hs1 HS h2 FIN;rcases hz2 with⟨ho,ho1,ho2⟩|⟨ho,ho1,ho2⟩
              · have hu:=hodd ho;rw[hu] at F1 F2;have HU:=Lib.hid hu;clear hodd heven hu ho;by_cases h3:-((Z:Int)/2)-1< -4611686018427387903
                · have HF:=F1 h3;clear F1 F2;rcases hbj with hb1|⟨rfl,rfl⟩;all_goals
                    go_wp2_with fail
                    go_ret3
                    exact⟨by rw[HF.out];rfl,rfl⟩
                · have HF:=F2 h3;clear F1 F2;rcases hbj with hb1|⟨rfl,rfl⟩;all_goals
                    go_wp2_with fail
                    go_ret3
                    exact⟨by rw[HF.out];unfold int3;push_cast;simp[Int.add_assoc],rfl⟩
              · have hu:=heven ho;rw[hu] at F1 F2;have h3:¬(Z:Int)/2< -4611686018427387903:=om;have HF:=F2 h3;clear hodd heven hu ho F1 F2;rcases hbj with hb1|⟨rfl,rfl⟩;all_goals
                  go_wp2_with fail
                  go_ret3
                  exact⟨by rw[HF.out];unfold int3;push_cast;simp[Int.add_assoc],rfl⟩
      · have hr:rdInt s.data.toList k=none:=by
          unfold rdInt;rw[HV.out,List.drop_eq_nil_of_le (by simp;omega),show 9-j=(9-(j+1))+1 from om,vget];rfl
        have HR:=Lib.hid hr;have hl1:¬(k:Int)+j<s.size:=om;clear hr;go_wp2_with fail;go_ret3;exact⟨by rw[HR.out];rfl,rfl⟩
    · have hr:rdInt s.data.toList k=none:=by
        unfold rdInt;rw[HV.out,show 9-j=0 from om,vget];rfl
      have HR:=Lib.hid hr;have h9d:decide ((j:Int)<9)=false:=by simp;omega
      clear hr;go_wp2_with fail;go_ret3;exact⟨by rw[HR.out];rfl,rfl⟩
def rdN (l:List UInt8):Nat→Nat→List Int×Option Nat
  |0,k=>([],some k)
  |m+1,k=>match rdInt l k with
    |none=>([],none)
    |some (n,e)=>(n::(rdN l m e).1,(rdN l m e).2)
def takeV:Option Nat→Value
  |none=>.tuple #[.int .i64 0,.bool false]
  |some k=>.tuple #[.int .i64 k,.bool true]
def wrs (w:World) (l:List ((Nat×Nat)×Int)):World:=l.foldl (fun w x=>w.setCell ⟨x.1.1,x.1.2,none⟩ (.int .i64 x.2)) w
theorem wrs_block (l:List ((Nat×Nat)×Int)) (b:Nat) (h:∀x∈l,x.1.1≠b):∀w:World,(wrs w l).heap[b]? =w.heap[b]? :=by
  induction l with
  |nil=>intro w;rfl
  |cons x l ih=>
    intro w;simp only[wrs,List.foldl_cons];exact(ih (fun y hy=>h y (List.mem_cons_of_mem _ hy)) _).trans (Below.heap_setCell _ _ _ _ (fun e=>h x (List.mem_cons_self ..) e.symm))
theorem wrs_snoc (w:World) (l:List ((Nat×Nat)×Int)) (b o:Nat) (n:Int):wrs w (l++[((b,o),n)])=(wrs w l).setCell ⟨b,o,none⟩ (.int .i64 n):=by simp[wrs]
theorem wrs_below (l:List ((Nat×Nat)×Int)) (B:Nat) (h:∀x∈l,B≤x.1.1):∀(a w:World),Below B a w→Below B a (wrs w l):=by
  induction l with
  |nil=>intro a w hw;exact hw
  |cons x l ih=>
    intro a w hw;simp only[wrs,List.foldl_cons];exact ih (fun y hy=>h y (List.mem_cons_of_mem _ hy)) _ _ (hw.setCell (h x (List.mem_cons_self ..)) _)
def Place (w:World) (b o:Nat):Prop:=∃t vs,Box w b t vs∧o<vs.size
theorem Place.set {w:World}{b o:Nat}(h:Place w b o) (b' o':Nat) (v:Value):Place (w.setCell ⟨b',o',none⟩ v) b o:=by
  obtain⟨t,vs,h1,h2⟩:=h;by_cases hb:b=b'
  · subst hb;exact⟨t,_,h1.set v,by simpa using h2⟩
  · exact⟨t,vs,h1.set_ne v hb,h2⟩
theorem Place.wrs (l:List ((Nat×Nat)×Int)) {b o:Nat}:∀{w:World},Place w b o→Place (wrs w l) b o:=by
  induction l with
  |nil=>intro w h;exact h
  |cons x l ih=>intro w h;simp only[Proofs.YthpbaaadkhdifaaGreatDoor.wrs,List.foldl_cons];exact ih (h.set _ _ _)
theorem rdInt_le {l:List UInt8}{k e:Nat}{n:Int}(hk:k≤l.length) (h:rdInt l k=some (n,e)):k<e∧e≤l.length:=by
  obtain⟨_,_,h3,h4,_⟩:=rdInt_canon hk h;have:=(encInt_len n).1;omega
theorem zip_take_len {α β:Type}(a:List α) (b:List β):(a.take b.length).zip b=a.zip b:=by
  induction a generalizing b with
  |nil=>simp
  |cons x a ih=>
    cases b with
    |nil=>simp
    |cons y b=>simp[ih]
abbrev ptrs (ps:List (Nat×Nat)):List Value:=ps.map fun p=>.pointer (some ⟨p.1,p.2,none⟩)
set_option maxRecDepth 100000 in
set_option maxHeartbeats 2000000 in
theorem take_any (s:ByteArray) (k:Nat) (P:Option Addr) (m c:Nat) (ps:List (Nat×Nat)) (w:World) (hs:s.size≤9000000000000000000) (hk:k≤s.size) (hm:m≤1000)
    (hp:Rd w 1 P m (ptrs ps)) (hpl:∀p∈ps,Place w p.1 p.2) (hne:∀b off,P=some ⟨b,off,none⟩→∀p∈ps,p.1≠b):
    Calls Tryz.prog 192 #[.string s,.int .i64 k,.slice P m c] w fun e w'=>e=.returned (takeV (rdN s.data.toList m k).2)∧w'=wrs w (ps.zip (rdN s.data.toList m k).1):=by
  have HP:=Lib.hid hp;have HPL:=Lib.hid hpl;have HNE:=Lib.hid hne;have hlen:ps.length=m:=by simpa using hp.1
  clear hp hpl hne;go_enter Tryz.func192,Tryz.ntmps192;go_wp2_with fail;go_loopw [1,15] (fun q i wr=>∃(j kj:Nat) (vs:List Int),j≤m∧kj≤s.size∧i=.int .i64 j∧q=.int .i64 kj∧vs.length=j ∧
      rdN s.data.toList m k=(vs++(rdN s.data.toList (m-j) kj).1,(rdN s.data.toList (m-j) kj).2)∧wr=wrs w ((ps.take j).zip vs)) (fun _ i _=>m-(intOf i).toNat)
  case atStart=>exact⟨0,k,[],Nat.zero_le _,hk,rfl,rfl,rfl,by simp,by simp[wrs]⟩
  case round=>
    obtain⟨j,kj,vs,hj,hkj,rfl,rfl,hvs,hst,hwr⟩:=hrel;have HST:=Lib.hid hst;have HWR:=Lib.hid hwr;clear hst hwr;by_cases hlt:j<m
    · obtain⟨pb,off,v,rfl,hpb,hv,hcell⟩:=HP.out.cell hlt;have hjl:j<ps.length:=om;obtain⟨⟨b,o⟩,hpj⟩:∃p,ps[j]? =some p:=⟨ps[j],List.getElem?_eq_getElem hjl⟩;have hmem:(b,o)∈ps:=List.mem_of_getElem? hpj;have hv':v=.pointer (some ⟨b,o,none⟩):=by rw[List.getElem?_map,hpj] at hv;simpa using hv.symm
      subst hv';have hcr:wr.cell? ⟨pb,off+j,none⟩=some (.pointer (some ⟨b,o,none⟩)):=by
        rw[HWR.out];refine(World.cell?_of_block ?_).trans hcell;refine wrs_block _ _ (fun x hx=>?_) _;have:=List.of_mem_zip (a:=x.1) (b:=x.2) hx;exact HNE.out pb off rfl _ (List.mem_of_mem_take this.1)
      obtain⟨t,cs,hbox,hsz⟩:Place wr b o:=by rw[HWR.out];exact(HPL.out _ hmem).wrs _
      have hcb:=hbox.cell (i:=o) (Array.getElem?_eq_getElem hsz);have hfb:=hbox.frozen o;have HT:=Lib.hid (show ps.take (j+1)=ps.take j++[(b,o)] by rw[List.take_add_one,hpj];rfl);have e1:m-j=(m-(j+1))+1:=om;rw[e1] at HST;clear hcell hbox hv hmem hpj;cases hr:rdInt s.data.toList kj with
      |none=>
        have HR:=Lib.hid hr;have HST':Hid (rdN s.data.toList m k=(vs,none)):=Lib.hid (by rw[HST.out];simp[rdN,hr]);clear hr;go_wp2_with fail;refine(wint_any s kj _ hs hkj).mono ?_;rintro e w1 ⟨rfl,rfl⟩;rw[HR.out];unfold int3;go_wp2_with fail;go_ret2;refine⟨by rw[HST'.out];rfl,?_⟩;rw[HST'.out,HWR.out];have:ps.zip vs=(ps.take j).zip vs:=by
          rw[←hvs];exact(zip_take_len _ _).symm
        rw[this]
      |some p=>
        obtain⟨n,e2⟩:=p;obtain⟨l1,l2⟩:=rdInt_le (by simpa using hkj) hr;have HR:=Lib.hid hr;have HST':Hid (rdN s.data.toList m k=((vs++[n])++(rdN s.data.toList (m-(j+1)) e2).1,(rdN s.data.toList (m-(j+1)) e2).2)):=Lib.hid (by rw[HST.out];simp[rdN,hr]);clear hr;go_wp2_with fail;refine(wint_any s kj _ hs hkj).mono ?_;rintro e w1 ⟨rfl,rfl⟩;rw[HR.out];unfold int3;go_wp2_with fail;go_roundw
        case rel=>
          refine⟨j+1,e2,vs++[n],om,by simpa using l2,by go_num,rfl,by simp[hvs],HST'.out,?_⟩;rw[HT.out,List.zip_append (by simp;omega),HWR.out];exact(wrs_snoc _ _ _ _ _).symm
        case measure=>simp[intOf];omega
    · obtain rfl:j=m:=om;go_wp2_with fail;go_ret2;have e0:rdN s.data.toList j k=(vs,some kj):=by rw[HST.out];simp[rdN]
      rw[e0];refine⟨rfl,?_⟩;rw[HWR.out,List.take_of_length_le om]
end Go.Proofs.YthpbaaadkhdifaaGreatDoor
namespace Go.Proofs
set_option maxRecDepth 100000
set_option maxHeartbeats 4000000
open Go.Shelf
def Tryz.lays169_ren:Go.Shelf.Ren:=⟨fun|169=>53|n=>n,fun|70=>136|9=>9|0=>0|72=>138|37=>106|127=>183|3=>3|5=>5|n=>n,fun|n=>n⟩
theorem Tryz.lays169:Go.Proofs.Lays.n169 Tryz.prog Tryz.lays169_ren:={
  mixed:=by kernel_rfl
  f169:=Tryz.func53.trans (congrArg some (by kernel_rfl))
  t0:=Tryz.underlying0
  a0:=Tryz.isAgg0
  z0:=Tryz.sizeOf0
  v0:=Tryz.zeroValue0
  t3:=Tryz.underlying3
  a3:=Tryz.isAgg3
  z3:=Tryz.sizeOf3
  v3:=Tryz.zeroValue3
  t9:=Tryz.underlying9
  a9:=Tryz.isAgg9
  z9:=Tryz.sizeOf9
  v9:=Tryz.zeroValue9
  t37:=Tryz.underlying106
  a37:=Tryz.isAgg106
  z37:=Tryz.sizeOf106
  v37:=Tryz.zeroValue106
  t70:=Tryz.underlying136
  a70:=Tryz.isAgg136
  z70:=Tryz.sizeOf136
  v70:=Tryz.zeroValue136
  t72:=Tryz.underlying138
  a72:=Tryz.isAgg138
  z72:=Tryz.sizeOf138
  v72:=Tryz.zeroValue138
  t127:=Tryz.underlying183
  a127:=Tryz.isAgg183
  z127:=Tryz.sizeOf183
  v127:=Tryz.zeroValue183}
theorem Tryz.Builder_Extra_169:Builder.Extra Tryz.prog Tryz.lays169_ren:={
  sizeBuilder:=by kernel_rfl
  liesBuilder:=by kernel_rfl
  t5:=Tryz.underlying5
  a5:=Tryz.isAgg5
  z5:=Tryz.sizeOf5
  v5:=Tryz.zeroValue5
  infoByte:=by kernel_rfl
  cellsByte:=by kernel_rfl
  sizeByte:=by kernel_rfl
  neB5:=by decide}
open Go.RowKit in
theorem Tryz.Builder_String_any (B b:Nat) (l:List UInt8) (w:World) (h:Lib.IsBuilder 138 5 B b (Lib.byteCells l) w) (hBw:B≤w.heap.size):
    Calls Tryz.prog 53 #[.pointer (some ⟨b,0,none⟩)] w fun e w'=>e=.returned (.string ⟨l.toArray⟩)∧Below B w w':=Any.Builder_String_any Tryz.lays169 Tryz.Builder_Extra_169 B b l w h hBw
end Go.Proofs
namespace Go.Proofs.YthpbaaadkhdifaaGreatDoor
set_option maxRecDepth 100000
set_option maxHeartbeats 4000000
open Go.ChangeShapes Go.WideShapes Go.ChangeAt Go.RowKit
set_option linter.unusedVariables false
theorem sizeBuilder:(Tryz.prog.info? 138).map (·.size)=some 2:=kr
theorem infoByte:(Tryz.prog.info? 5).map (fun i=>(i.zero,i.size,i.bytes))=some (some (.int .u8 0),1,1):=kr
set_option maxHeartbeats 1000000 in
set_option maxRecDepth 100000 in
theorem copyCheck_used (b:Nat) (w:World) (h0:w.cell? ⟨b,0,none⟩=some (.pointer (some ⟨b,0,none⟩))):
    Calls Tryz.prog 89 #[.pointer (some ⟨b,0,none⟩)] w fun e w'=>e=.returned (.tuple #[])∧w=w':=by
  obtain⟨j,hj,_⟩:=Option.map_eq_some_iff.1 sizeBuilder;go_enter Tryz.func89,Tryz.ntmps89;go_wp2;rw[Lib.run_neq_ptr_same w _ Tryz.underlying136 hj];go_wp2;go_end0;exact⟨rfl,rfl⟩
set_option maxHeartbeats 1000000 in
set_option maxRecDepth 100000 in
theorem copyCheck_fresh (b:Nat) (w:World) (h0:w.cell? ⟨b,0,none⟩=some (.pointer none)) (hsh:w.shape? b=some (138,2)) (hfz:w.frozen? ⟨b,0,none⟩=false):
    Calls Tryz.prog 89 #[.pointer (some ⟨b,0,none⟩)] w fun e w'=>e=.returned (.tuple #[])∧w.setCell ⟨b,0,none⟩ (.pointer (some ⟨b,0,none⟩))=w':=by
  obtain⟨j,hj,hjs⟩:=Option.map_eq_some_iff.1 sizeBuilder;go_enter Tryz.func89,Tryz.ntmps89;go_wp2;rw[Lib.run_to_unsafe w ⟨b,0,none⟩ Tryz.underlying136 Tryz.underlying253 hj (by rw[hjs];decide) hsh (Nat.zero_lt_succ 1)];simp only[Result.andThen];rw[Oper.upon_value];go_wp2;rw[run_callFunc_extern Tryz.func144 kr kr kr (e:=Extern.AbiNoEscape.same) kr];rw[Lib.run_noEscape];simp only[Result.andThen];rw[Oper.upon_value];go_wp2;rw[Lib.run_from_unsafe w ⟨b,0,none⟩ Tryz.underlying253 Tryz.underlying136 hj hsh kr];simp only[Result.andThen];rw[Oper.upon_value];go_wp2;go_end0;exact⟨rfl,rfl⟩
theorem copyCheck_any (B b:Nat) (bs:List Value) (w:World) (h:Lib.IsBuilder 138 5 B b bs w):
    Calls Tryz.prog 89 #[.pointer (some ⟨b,0,none⟩)] w fun e w'=>e=.returned (.tuple #[])∧(Lib.BuilderAt 138 5 B b (.pointer (some ⟨b,0,none⟩)) bs w'∧Below B w w'):=by
  rcases h with h|h
  · refine(copyCheck_fresh b w h.cell0 h.shape h.frozen0).mono ?_;rintro e w' ⟨rfl,rfl⟩;exact⟨rfl,h.used _,(Below.refl B w).setCell (p:=⟨b,0,none⟩) h.1 _⟩
  · refine(copyCheck_used b w h.cell0).mono ?_;rintro e w' ⟨rfl,rfl⟩;exact⟨rfl,h,Below.refl B _⟩
set_option maxHeartbeats 1000000 in
set_option maxRecDepth 100000 in
theorem writeString_any (B b:Nat) (bs:List Value) (s:ByteArray) (w:World) (h:Lib.IsBuilder 138 5 B b bs w) (hlen:bs.length+s.size≤140737488355328) (hBw:B≤w.heap.size):
    Calls Tryz.prog 139 #[.pointer (some ⟨b,0,none⟩),.string s] w fun e w'=>e=.returned (.tuple #[.int .i64 s.size,.nilIface])∧(Lib.BuilderAt 138 5 B b (.pointer (some ⟨b,0,none⟩)) (bs++Lib.strCells s) w'∧Below B w w'):=by
  obtain⟨i0,hi,hz0,hz1,hz2⟩:=info_parts infoByte;go_enter Tryz.func139,Tryz.ntmps139;go_wp2_with fail;refine(copyCheck_any B b bs _ h).mono ?_;rintro e w1 ⟨rfl,h1,hb1⟩;obtain⟨hB,v,hbk,hown,hne⟩:=h1;have c0:w1.cell? ⟨b,0,none⟩=some (.pointer (some ⟨b,0,none⟩)):=by rw[Lib.cell_of_heap hbk];rfl
  have c1:w1.cell? ⟨b,1,none⟩=some v:=by rw[Lib.cell_of_heap hbk];rfl
  go_wp2_with (at_builtin;refine Lib.wpList_append_own_string _ rfl _ _ 106 9 rfl B 5 i0 Tryz.underlying106 Tryz.underlying9 hi hz0 hz1 hz2 _ _ _ rfl hown s rfl ?c3 ?c4 ?c5 ?_)
  case c3=>unfold maxLen;omega
  case c4=>omega
  case c5=>have:=hb1.size;omega
  intro v' w2 hown' hgrow _;have hlt:b<w1.heap.size:=by
    rcases Nat.lt_or_ge b w1.heap.size with h'|h'
    · exact h'
    · simp[Array.getElem?_eq_none h'] at hbk
  have hb2:w2.heap[b]? =some (.cells #[.pointer (some ⟨b,0,none⟩),v] 138 (0,0)):=by
    rw[hgrow.block b hlt (fun e=>hne e.symm)];exact hbk
  have d0:w2.cell? ⟨b,0,none⟩=some (.pointer (some ⟨b,0,none⟩)):=by rw[Lib.cell_of_heap hb2];rfl
  have d1:w2.cell? ⟨b,1,none⟩=some v:=by rw[Lib.cell_of_heap hb2];rfl
  have f1:w2.frozen? ⟨b,1,none⟩=false:=Lib.frozen_of_heap hb2 1;obtain⟨ao,n',cap,rfl⟩:∃ao n' cap,v'=.slice ao n' cap:=by
    rcases hown'.2 with⟨hv,_⟩|⟨g,cap,cur,hv,_⟩
    · exact⟨_,_,_,hv⟩
    · exact⟨_,_,_,hv⟩
  go_wp2;go_ret2;refine⟨rfl,?_,?_⟩
  · exact Lib.BuilderAt.put (T:=138) (e:=5) hB hb2 (bs':=bs++Lib.strCells s) (by simpa [Lib.strCells_length] using hown') (by decide)
  · exact(hb1.grown hgrow (by have:=hb1.size;omega) (fun k hk=>(hown.lt k hk).1)).setCell (p:=⟨b,1,none⟩) hB _
theorem bString_any (B b:Nat) (l:List UInt8) (w:World) (h:Lib.IsBuilder 138 5 B b (Lib.byteCells l) w) (hBw:B≤w.heap.size):
    Calls Tryz.prog 53 #[.pointer (some ⟨b,0,none⟩)] w fun e w'=>e=.returned (.string ⟨l.toArray⟩)∧Below B w w':=Tryz.Builder_String_any B b l w h hBw
open Go.Shelf
attribute [local go_sem] Oper.semAt_some
abbrev Grp:={ p:Nat×Bool // p.1<128}
def grps:Nat→Nat→List Grp
  |0,_=>[]
  |f+1,z=>if h:z<128 then[⟨(z,false),h⟩] else⟨(z%128,true),om⟩::grps f (z/128)
def grpByte (g:Grp):Nat:=if g.1.2 then g.1.1+128 else g.1.1
theorem grps_put (f z:Nat):(grps f z).map grpByte=vput f z:=by
  induction f generalizing z with
  |zero=>rfl
  |succ f ih=>
    unfold grps vput;by_cases h:z<128
    · rw[dif_pos h,if_pos h];rfl
    · rw[dif_neg h,if_neg h,List.map_cons,ih];rfl
theorem grps_len (f z:Nat):(grps f z).length=(vput f z).length:=by rw[←grps_put,List.length_map]
set_option maxHeartbeats 1000000 in
theorem groups_in (n:Nat) (z:Int) (w:World):
    CallsIn Fence.wide n Tryz.prog 180 #[.int .u64 z] w fun e w'=>e=.returned (.func (.func 200) #[] #[.pointer (some ⟨w.heap.size,0,none⟩)])∧w'=w.alloc (.cells #[.int .u64 z] 184):=by
  refine callsIn_of_wp Tryz.func180 rfl trivial ?_ rfl;simp only[Tryz.ntmps180,List.size_toArray,List.length_cons,List.length_nil,Nat.reduceAdd,Nat.reduceSub,Array.replicate_succ,Array.replicate_zero,List.push_toArray,List.append_toArray,List.nil_append,List.cons_append];gi_wp2;go_ret;exact⟨rfl,rfl⟩
theorem and127 (z:Nat) (h:z<18446744073709551616):bits BinOp.and IntKind.u64 (z:Int) 127=((z%128:Nat):Int):=by
  rw[show (127:Int)=((127:Nat):Int) from rfl,u64_and_nat z 127 h om];congr 1;exact Nat.and_two_pow_sub_one_eq_mod z 7
set_option maxRecDepth 100000 in
set_option maxHeartbeats 2000000 in
theorem groups1_in (n:Nat) (hn:1≤n) (l Bs:Nat) (z N:Nat) (f:Nat) (hz:z<128^f) (hf:0<f) (hf9:f≤9) (hN:(vput f z).length≤N) (Kp:World→World→Prop) (J Jx:List Grp→World→Prop)
    (hY:∀pre x W,J pre W→pre.length<N→YieldAt Fence.wide (n-1) Tryz.prog l #[.int .u8 (x.1.1:Int),.bool x.1.2] W fun e W'=>
      (e=.returned (.bool true)∧J (pre++[x]) W'∧Kp W W')∨(e=.returned (.bool false)∧Jx (pre++[x]) W'))
    (W:World) (hBs:W.cell? ⟨Bs,0,none⟩=some (.int .u64 (z:Int))) (h0:J [] W):
    CallsIn Fence.wide n Tryz.prog 200 #[.func (.yield l) #[] #[],.pointer (some ⟨Bs,0,none⟩)] W fun e W'=>(∃v,e=.returned v) ∧
      ((∃ys,ys=grps f z∧J ys W')∨(∃pre,True∧Jx pre W')):=by
  have HZ:=Lib.hid hz;have HN:=Lib.hid hN;clear hz hN;refine callsIn_of_wp Tryz.func200 rfl trivial ?_ rfl;simp only[Tryz.ntmps200,List.size_toArray,List.length_cons,List.length_nil,Nat.reduceAdd,Nat.reduceSub,Array.replicate_succ,Array.replicate_zero,List.push_toArray,List.append_toArray,List.nil_append,List.cons_append];gi_wp2;gi_loopw [3] (fun r wr=>∃(pre:List Grp) (g y:Nat),g≤f∧0<g∧r=.int .u64 (y:Int)∧y<128^g∧grps f z=pre++grps g y∧J pre wr)
    (fun r _=>(intOf r).toNat)
  case atStart=>exact⟨[],f,z,Nat.le_refl _,hf,rfl,HZ.out,rfl,h0⟩
  case round=>
    obtain⟨pre,g,y,hgf,hg,rfl,hy,hpre,hJs⟩:=hrel;have hyb:y<9223372036854775808:=by
      have:128^g≤128^9:=Nat.pow_le_pow_right om om;have h3:(128:Nat)^9=9223372036854775808:=by decide
      omega
    have HY:=Lib.hid hy;have hlen:pre.length+(grps g y).length≤N:=by
      have e:=congrArg List.length hpre;rw[grps_len,List.length_append] at e;have:=HN.out;omega
    have hpos:=(vput_len g y hg).1;rw[←grps_len] at hpos;have HP:=Lib.hid hpre;clear hy hpre;obtain⟨g',rfl⟩:∃g',g=g'+1:=⟨g-1,om⟩;by_cases hlt:128≤y
    · have hlti:(128:Int)≤(y:Int):=om;obtain⟨m,hm⟩:∃m:Nat,y%128=m:=⟨_,rfl⟩;have hm1:m<128:=om;have hst:grps (g'+1) y=⟨(m,true),hm1⟩::grps g' (y/128):=by
        rw[grps,dif_neg om];congr 1;exact Subtype.ext (by simp[hm])
      obtain⟨fn,tmps,assign,body,hyy,hR⟩:=hY pre ⟨(m,true),hm1⟩ wr hJs om;dsimp only at hyy;have hA:bits BinOp.and IntKind.u64 (y:Int) 127=(m:Int):=by rw[and127 y om,hm]
      have hA2:(m:Int)%256=m:=om;have hp2:grps f z=(pre++[⟨(m,true),hm1⟩])++grps g' (y/128):=by rw[HP.out,hst];simp
      have HP2:=Lib.hid hp2;have hg2:0<g':=by
        rcases Nat.eq_zero_or_pos g' with h0|h0
        · subst h0;have:=HY.out;simp at this;omega
        · exact h0
      have hy2:y/128<128^g':=by have:=HY.out;rw[Nat.pow_succ] at this;omega
      have HY2:=Lib.hid hy2;clear hst hp2 hy2 hm;gi_wp2;refine hR.mono ?_;rintro e W3 (⟨rfl,hJ3,hk3⟩|⟨rfl,hJx3⟩)
      · clear hA hA2;gi_wp2;go_roundw
        case rel=>exact⟨pre++[⟨(m,true),hm1⟩],g',y/128,om,hg2,congrArg (Value.int .u64) om,HY2.out,HP2.out,hJ3⟩
        case measure=>simp[intOf];omega
      · clear hA hA2;gi_wp2;refine bodyPost_ret (results_none rfl _ _ _) rfl ?_;exact⟨⟨_,rfl⟩,.inr ⟨_,trivial,hJx3⟩⟩
    · have hlti:(y:Int)<128:=om;have hst:grps (g'+1) y=[⟨(y,false),om⟩]:=by
        rw[grps,dif_pos om]
      obtain⟨fn,tmps,assign,body,hyy,hR⟩:=hY pre ⟨(y,false),om⟩ wr hJs om;dsimp only at hyy;have hp2:grps f z=pre++[⟨(y,false),om⟩]:=by rw[HP.out,hst]
      have HP2:=Lib.hid hp2;have hA2:(y:Int)%256=y:=om;clear hst hp2;gi_wp2;refine hR.mono ?_;rintro e W3 (⟨rfl,hJ3,hk3⟩|⟨rfl,hJx3⟩)
      · clear hA2;gi_wp2;go_end0;exact⟨⟨_,rfl⟩,.inl ⟨_,HP2.out.symm,hJ3⟩⟩
      · clear hA2;gi_wp2;go_end0;exact⟨⟨_,rfl⟩,.inr ⟨_,trivial,hJx3⟩⟩
theorem groups_stops (n:Nat) (hn:1≤n) (Bs:Nat) (z N f:Nat) (hz:z<128^f) (hf:0<f) (hf9:f≤9) (hN:(vput f z).length≤N) (Kp:World→World→Prop) (w:World) (hBs:Bs<w.heap.size)
    (hc:w.cell? ⟨Bs,0,none⟩=some (.int .u64 (z:Int))):
    SeqStopsK Fence.wide n Tryz.prog 200 #[.pointer (some ⟨Bs,0,none⟩)] (fun x:Grp=>#[Value.int .u8 (x.1.1:Int),Value.bool x.1.2]) Kp (fun ys=>ys=grps f z) (fun _=>True) N w:=fun l J Jx W hW _ _ hY h0=>
  groups1_in n hn l Bs z N f hz hf hf9 hN Kp J Jx hY W ((hW.cell (p:=⟨Bs,0,none⟩) hBs).trans hc) h0
def putV (n:Int):Value:=.tuple #[.string ⟨(encInt n).toArray⟩,.int .i64 0]
def PBox (B:Nat) (W:World) (pre:List Grp):Prop:=
  (∀i,i<9→W.cell? ⟨B,i,none⟩=some (.int .u8 (((pre.map grpByte).getD i 0:Nat):Int))∧W.frozen? ⟨B,i,none⟩=false)∧W.cell? ⟨B+1,0,none⟩=some (.int .i64 pre.length)∧W.frozen? ⟨B+1,0,none⟩=false
theorem pbox_step {B:Nat}{W:World}{pre:List Grp}{x:Grp}(h:PBox B W pre) (hl:pre.length<9):
    PBox B ((W.setCell ⟨B,pre.length,none⟩ (.int .u8 (grpByte x:Int))).setCell ⟨B+1,0,none⟩ (.int .i64 ((pre.length:Int)+1))) (pre++[x]):=by
  obtain⟨h1,h2,h3⟩:=h;refine⟨fun i hi=>?_,?_,?_⟩
  · rw[World.frozen?_setCell,World.frozen?_setCell,World.cell?_setCell_other _ _ _ _ (by simp)];refine⟨?_,(h1 i hi).2⟩;by_cases e:i=pre.length
    · subst e;rw[World.cell?_setCell_same' _ _ _ (by rw[(h1 _ hl).1];rfl)];simp[List.getD]
    · rw[World.cell?_setCell_other _ _ _ _ (by simp),(h1 i hi).1];congr 3;simp only[List.map_append,List.getD];by_cases hi2:i<pre.length
      · rw[List.getElem?_append_left (by simpa using hi2)]
      · rw[List.getElem?_eq_none (by simp;omega),List.getElem?_eq_none (by simp;omega)]
  · rw[World.cell?_setCell_same' _ _ _ (by rw[World.cell?_setCell_other _ _ _ _ (by simp),h2];rfl)];simp
  · rw[World.frozen?_setCell,World.frozen?_setCell];exact h3
theorem putInt_start (w:World) (z:Nat) (W0:World) (hW0:((w.alloc (Obj.cells #[.int .u8 0,.int .u8 0,.int .u8 0,.int .u8 0,.int .u8 0,.int .u8 0,.int .u8 0,.int .u8 0,.int .u8 0] 286)).alloc (Obj.cells #[Value.int IntKind.i64 0] 3)).alloc (Obj.cells #[Value.int IntKind.u64 (z:Int)] 184)=W0):
    Below w.heap.size w W0∧W0.heap.size=w.heap.size+1+1+1∧PBox w.heap.size W0 []∧W0.cell? ⟨w.heap.size+1+1,0,none⟩=some (.int .u64 (z:Int)):=by
  refine⟨by rw[←hW0];exact(((Below.refl _ w).alloc (Nat.le_refl _) _).alloc (by simp) _).alloc (by simp;omega) _,by rw[←hW0];simp,⟨fun i hi=>?_,?_,?_⟩,?_⟩<;>rw[←hW0]
  · rw[World.cell?_alloc_lt _ _ _ (by simp;omega),World.frozen?_alloc_old _ _ _ (by simp;omega)];match i,hi with
    |0,_=>simp
    |1,_=>simp
    |2,_=>simp
    |3,_=>simp
    |4,_=>simp
    |5,_=>simp
    |6,_=>simp
    |7,_=>simp
    |8,_=>simp
  · rw[World.cell?_alloc_lt _ _ _ (by simp)];simp
  · rw[World.frozen?_alloc_old _ _ _ (by simp)];simp
  · rw[World.cell?_alloc_at _ _ _ _ (by simp)];rfl
theorem conv_put {P:Program}{src dst e:TypeId}(W:World) (B:Nat) (n:Int) (z:Nat) (hz:zig n=z) (h:PBox B W (grps 9 z)) (hs:P.underlying src=some (.slice e)) (he:P.underlying e=some (.int .u8)) (hd:P.underlying dst=some .string) (cap:Nat):
    (convert src dst (.slice (some ⟨B,0,none⟩) (encInt n).length cap)).run P W=.ok (.string ⟨(encInt n).toArray⟩) W:=by
  refine run_convert_bytes_back W src dst e ⟨B,0,none⟩ cap (encInt n) hs he hd (fun j hj=>?_);have h9:=(encInt_len n).2;have hadd:(⟨B,0,none⟩:Addr).add j=⟨B,j,none⟩:=by unfold Addr.add;split<;>simp_all
  rw[hadd,(h.1 j om).1,grps_put];have hj':j<(vput 9 z).length:=by unfold encInt at hj;rw[hz,List.length_map] at hj;exact hj
  have hb:=vput_bytes 9 z (vput 9 z)[j] (List.getElem_mem hj');congr 3;simp only[encInt,hz,List.getElem_map];rw[ofNat_toNat hb];simp[List.getD,List.getElem?_eq_getElem hj']
set_option maxRecDepth 100000 in
set_option maxHeartbeats 4000000 in
theorem putInt_z (n:Int) (z:Nat) (w:World) (h1:-wmax≤n) (h2:n≤wmax) (hz:zig n=z) (hzc:(0≤n∧(z:Int)=n*2)∨(n<0∧(z:Int)=-n*2-1)):
    Calls Tryz.prog 138 #[.int .i64 n] w fun e w'=>e=.returned (putV n)∧Below w.heap.size w w':=by
  unfold wmax at h1 h2
  have hzb : z < 128 ^ 9 := by have h3 : (128 : Nat) ^ 9 = 9223372036854775808 := by decide
                               omega
  have HZB:=Lib.hid hzb;have hzz:z<9223372036854775808:=om;have HZ:=Lib.hid hz;clear hz hzb;refine(callsIn_wide (n:=8)).1 ?_;refine callsIn_of_wp_marks Tryz.func138 rfl trivial ?_ rfl;simp only[Tryz.ntmps138,List.size_toArray,List.length_cons,List.length_nil,Nat.reduceAdd,Nat.reduceSub,Array.replicate_succ,Array.replicate_zero,List.push_toArray,List.append_toArray,List.nil_append,List.cons_append];rcases hzc with⟨hn,hz⟩|⟨hn,hz⟩
  · have d1:decide (n< -4611686018427387903)=false:=by simp;omega
    have d2:decide (4611686018427387903<n)=false:=by simp;omega
    have HZE:=Lib.hid hz;clear hz;gi_wp2_with (refine⟨trivial,?_⟩;gi_at_call 180;refine(groups_in _ _ _).mono ?_;rintro e w' ⟨rfl,rfl⟩);rw[←HZE.out];obtain⟨W0,hW0⟩:∃W0,((w.alloc (Obj.cells #[.int .u8 0,.int .u8 0,.int .u8 0,.int .u8 0,.int .u8 0,.int .u8 0,.int .u8 0,.int .u8 0,.int .u8 0] 286)).alloc (Obj.cells #[Value.int IntKind.i64 0] 3)).alloc (Obj.cells #[Value.int IntKind.u64 (z:Int)] 184)=W0:=⟨_,rfl⟩;obtain⟨hB0,hs0,hP0,hc0⟩:=putInt_start w z W0 hW0;rw[hW0];have HP0:=Lib.hid hP0;have HC0:=Lib.hid hc0;clear hW0 hP0 hc0;refine wpIn_rangeFunc_ownF (F:=Fence.wide) rfl om (gf:=200) (lb:=#[.pointer (some ⟨w.heap.size+1+1,0,none⟩)]) rfl trivial (enters_of Tryz.func200 kr rfl)
      (groups_stops _ om (w.heap.size+1+1) z 9 9 HZB.out om om (vput_len 9 z om).2 (Below w.heap.size) W0 om HC0.out) belowK_t (belowK_b om) (Below.refl _ _) (fun _=>rfl)
      (fun pre W=>PBox w.heap.size W pre∧Below w.heap.size w W)
      (fun _ _ _=>False)
      (OwnFrom.and (Own.from (fun s A B row hs hg hr=>⟨fun i hi=>⟨cell_kept (hs.1 i hi).1 hg hr,(frozen_kept (hs.1 i hi).1 hg hr).trans (hs.1 i hi).2⟩,cell_kept hs.2.1 hg hr,(frozen_kept hs.2.1 hg hr).trans hs.2.2⟩) _) (ownFrom_below (Nat.le_refl _) om))
      (fun _ _ _ _ _ hs _ _=>hs)
      ⟨HP0.out,hB0⟩
      ?act ?assign ?body ?done ?stop
    case assign=>
      intro l x W K hK;gi_wp2;exact hK
    case body=>
      rintro l pre ⟨⟨x,more⟩,hx⟩ W ⟨hP,hB⟩ hpre;have HP:=Lib.hid hP;have hcs:=hP.2.1;have hfs:=hP.2.2;have hcc:=(hP.1 pre.length hpre).1;have hfc:=(hP.1 pre.length hpre).2;have h9i:(pre.length:Int)<9:=om;clear hP;dsimp only;dsimp only at hx;cases more with
      |true=>
        have hst:=Lib.hid (pbox_step (x:=⟨(x,true),hx⟩) HP.out hpre);have hby:(grpByte ⟨(x,true),hx⟩:Int)=(x:Int)+128:=by simp[grpByte]
        rw[hby] at hst;clear hby
        gi_wp2;exact⟨(KeepsOthers.setCell _ _ _).trans (KeepsOthers.setCell _ _ _),((Below.refl w.heap.size W).setCell (p:=⟨w.heap.size,pre.length,none⟩) (Nat.le_refl _) _).setCell (p:=⟨w.heap.size+1,0,none⟩) (by simp) _,hst.out,(hB.setCell (p:=⟨w.heap.size,pre.length,none⟩) (Nat.le_refl _) _).setCell (p:=⟨w.heap.size+1,0,none⟩) (by simp) _⟩
      |false=>
        have hst:=Lib.hid (pbox_step (x:=⟨(x,false),hx⟩) HP.out hpre);have hby:(grpByte ⟨(x,false),hx⟩:Int)=(x:Int):=by simp[grpByte]
        rw[hby] at hst;clear hby
        gi_wp2;exact⟨(KeepsOthers.setCell _ _ _).trans (KeepsOthers.setCell _ _ _),((Below.refl w.heap.size W).setCell (p:=⟨w.heap.size,pre.length,none⟩) (Nat.le_refl _) _).setCell (p:=⟨w.heap.size+1,0,none⟩) (by simp) _,hst.out,(hB.setCell (p:=⟨w.heap.size,pre.length,none⟩) (Nat.le_refl _) _).setCell (p:=⟨w.heap.size+1,0,none⟩) (by simp) _⟩
    case done=>
      rintro D ys W hD rfl ⟨hP,hB⟩ hK;have hcs:=hP.2.1;have hl9:=(vput_len 9 z om).2;have hgl:(grps 9 z).length=(encInt n).length:=by rw[grps_len];unfold encInt;rw[HZ.out,List.length_map]
      have hgl9:(encInt n).length≤9:=(encInt_len n).2;have hgl9i:((encInt n).length:Int)≤9:=om;rw[hgl] at hcs;have hcv:=conv_put (P:=Tryz.prog) W w.heap.size n z HZ.out hP Tryz.underlying106 Tryz.underlying5 Tryz.underlying9;have HK:=Lib.hid hK;clear hK hl9 hgl hP;generalize hL:encInt n=L at *;have HL:=Lib.hid hL;clear hL;gi_wp2;refine⟨by simp,.inl ⟨_,_,rfl,run_takeDeferred HK.out,?_⟩⟩;refine⟨putV n,?_,rfl,hB.trans (belowK_b (w:=w) (Nat.le_refl _) W D _ _ om HK.out rfl rfl)⟩;simp[results,Tryz.f138,go_sem,putV,HL.out]
    case stop=>
      rintro D c pre W _ _ h _;exact h.elim
  · have d1:decide (n< -4611686018427387903)=false:=by simp;omega
    have d2:decide (4611686018427387903<n)=false:=by simp;omega
    have HZE:=Lib.hid hz;clear hz;gi_wp2_with (refine⟨trivial,?_⟩;gi_at_call 180;refine(groups_in _ _ _).mono ?_;rintro e w' ⟨rfl,rfl⟩);rw[←HZE.out];obtain⟨W0,hW0⟩:∃W0,((w.alloc (Obj.cells #[.int .u8 0,.int .u8 0,.int .u8 0,.int .u8 0,.int .u8 0,.int .u8 0,.int .u8 0,.int .u8 0,.int .u8 0] 286)).alloc (Obj.cells #[Value.int IntKind.i64 0] 3)).alloc (Obj.cells #[Value.int IntKind.u64 (z:Int)] 184)=W0:=⟨_,rfl⟩;obtain⟨hB0,hs0,hP0,hc0⟩:=putInt_start w z W0 hW0;rw[hW0];have HP0:=Lib.hid hP0;have HC0:=Lib.hid hc0;clear hW0 hP0 hc0;refine wpIn_rangeFunc_ownF (F:=Fence.wide) rfl om (gf:=200) (lb:=#[.pointer (some ⟨w.heap.size+1+1,0,none⟩)]) rfl trivial (enters_of Tryz.func200 kr rfl)
      (groups_stops _ om (w.heap.size+1+1) z 9 9 HZB.out om om (vput_len 9 z om).2 (Below w.heap.size) W0 om HC0.out) belowK_t (belowK_b om) (Below.refl _ _) (fun _=>rfl)
      (fun pre W=>PBox w.heap.size W pre∧Below w.heap.size w W)
      (fun _ _ _=>False)
      (OwnFrom.and (Own.from (fun s A B row hs hg hr=>⟨fun i hi=>⟨cell_kept (hs.1 i hi).1 hg hr,(frozen_kept (hs.1 i hi).1 hg hr).trans (hs.1 i hi).2⟩,cell_kept hs.2.1 hg hr,(frozen_kept hs.2.1 hg hr).trans hs.2.2⟩) _) (ownFrom_below (Nat.le_refl _) om))
      (fun _ _ _ _ _ hs _ _=>hs)
      ⟨HP0.out,hB0⟩
      ?act2 ?assign2 ?body2 ?done2 ?stop2
    case assign2=>
      intro l x W K hK;gi_wp2;exact hK
    case body2=>
      rintro l pre ⟨⟨x,more⟩,hx⟩ W ⟨hP,hB⟩ hpre;have HP:=Lib.hid hP;have hcs:=hP.2.1;have hfs:=hP.2.2;have hcc:=(hP.1 pre.length hpre).1;have hfc:=(hP.1 pre.length hpre).2;have h9i:(pre.length:Int)<9:=om;clear hP;dsimp only;dsimp only at hx;cases more with
      |true=>
        have hst:=Lib.hid (pbox_step (x:=⟨(x,true),hx⟩) HP.out hpre);have hby:(grpByte ⟨(x,true),hx⟩:Int)=(x:Int)+128:=by simp[grpByte]
        rw[hby] at hst;clear hby
        gi_wp2;exact⟨(KeepsOthers.setCell _ _ _).trans (KeepsOthers.setCell _ _ _),((Below.refl w.heap.size W).setCell (p:=⟨w.heap.size,pre.length,none⟩) (Nat.le_refl _) _).setCell (p:=⟨w.heap.size+1,0,none⟩) (by simp) _,hst.out,(hB.setCell (p:=⟨w.heap.size,pre.length,none⟩) (Nat.le_refl _) _).setCell (p:=⟨w.heap.size+1,0,none⟩) (by simp) _⟩
      |false=>
        have hst:=Lib.hid (pbox_step (x:=⟨(x,false),hx⟩) HP.out hpre);have hby:(grpByte ⟨(x,false),hx⟩:Int)=(x:Int):=by simp[grpByte]
        rw[hby] at hst;clear hby
        gi_wp2;exact⟨(KeepsOthers.setCell _ _ _).trans (KeepsOthers.setCell _ _ _),((Below.refl w.heap.size W).setCell (p:=⟨w.heap.size,pre.length,none⟩) (Nat.le_refl _) _).setCell (p:=⟨w.heap.size+1,0,none⟩) (by simp) _,hst.out,(hB.setCell (p:=⟨w.heap.size,pre.length,none⟩) (Nat.le_refl _) _).setCell (p:=⟨w.heap.size+1,0,none⟩) (by simp) _⟩
    case done2=>
      rintro D ys W hD rfl ⟨hP,hB⟩ hK;have hcs:=hP.2.1;have hl9:=(vput_len 9 z om).2;have hgl:(grps 9 z).length=(encInt n).length:=by rw[grps_len];unfold encInt;rw[HZ.out,List.length_map]
      have hgl9:(encInt n).length≤9:=(encInt_len n).2;have hgl9i:((encInt n).length:Int)≤9:=om;rw[hgl] at hcs;have hcv:=conv_put (P:=Tryz.prog) W w.heap.size n z HZ.out hP Tryz.underlying106 Tryz.underlying5 Tryz.underlying9;have HK:=Lib.hid hK;clear hK hl9 hgl hP;generalize hL:encInt n=L at *;have HL:=Lib.hid hL;clear hL;gi_wp2;refine⟨by simp,.inl ⟨_,_,rfl,run_takeDeferred HK.out,?_⟩⟩;refine⟨putV n,?_,rfl,hB.trans (belowK_b (w:=w) (Nat.le_refl _) W D _ _ om HK.out rfl rfl)⟩;simp[results,Tryz.f138,go_sem,putV,HL.out]
    case stop2=>
      rintro D c pre W _ _ h _;exact h.elim
theorem putInt_any (n:Int) (w:World) (h1:-wmax≤n) (h2:n≤wmax):
    Calls Tryz.prog 138 #[.int .i64 n] w fun e w'=>e=.returned (putV n)∧Below w.heap.size w w':=
  putInt_z n (zig n) w h1 h2 rfl (by unfold zig;split<;>omega)
def encInts (zs:List Int):List UInt8:=zs.flatMap encInt
theorem encInts_snoc (zs:List Int) (z:Int):encInts (zs++[z])=encInts zs++encInt z:=by simp[encInts]
theorem encInts_len (zs:List Int):(encInts zs).length≤9*zs.length:=by
  induction zs with
  |nil=>simp[encInts]
  |cons z zs ih=>
    have:=(encInt_len z).2;simp only[encInts,List.flatMap_cons,List.length_append,List.length_cons] at *;omega
theorem builder_below {T e:TypeId}{B b:Nat}{bs:List Value}{w w':World}(h:Lib.IsBuilder T e B b bs w) (hb:Below w.heap.size w w'):Lib.IsBuilder T e B b bs w':=by
  have key:∀p,Lib.BuilderAt T e B b p bs w→Lib.BuilderAt T e B b p bs w':=by
    rintro p ⟨h1,v,h2,h3,h4⟩;exact⟨h1,v,by rw[hb.block b (Array.getElem?_eq_some_iff.1 h2).1];exact h2,own_below h3 hb,h4⟩
  exact h.elim (fun h=>.inl (key _ h)) (fun h=>.inr (key _ h))
theorem builder_new (w:World) (T e:TypeId):Lib.IsBuilder T e w.heap.size w.heap.size [] (w.alloc (.cells #[.pointer none,.slice none 0 0] T)):=
  .inl ⟨Nat.le_refl _,.slice none 0 0,heap_alloc_new w _,World.ownsRow_nil _ _ _ _,by simp[Value.ownBlock]⟩
set_option maxRecDepth 100000 in
set_option maxHeartbeats 2000000 in
theorem put_any (a:Option Addr) (len cap:Nat) (zs:List Int) (w:World) (h:IsInts w a len zs) (hlen:len≤1000000) (hz:∀z∈zs,-wmax≤z∧z≤wmax):
    Calls Tryz.prog 181 #[.slice a len cap] w fun e w'=>e=.returned (.string ⟨(encInts zs).toArray⟩)∧Below w.heap.size w w':=by
  have H:=Lib.hid h;have HZ:=Lib.hid hz;have HB0:=Lib.hid (builder_new w 138 5);clear h hz;go_enter Tryz.func181,Tryz.ntmps181;go_wp2_with fail;go_loopw [10] (fun i wr=>∃k:Nat,k≤len∧i=.int .i64 k∧Lib.IsBuilder 138 5 w.heap.size w.heap.size (Lib.byteCells (encInts (zs.take k))) wr∧Below w.heap.size w wr) (fun i _=>len-(intOf i).toNat)
  case atStart=>exact⟨0,Nat.zero_le _,rfl,HB0.out,balloc _ _⟩
  case round=>
    obtain⟨k,hk,rfl,hbu,hB⟩:=hrel;have HBU:=Lib.hid hbu;clear hbu;by_cases hlt:k<len
    · obtain⟨b,off,rfl,hbl,hcell⟩:=H.out.2.resolve_left om;have hc:wr.cell? ⟨b,off+k,none⟩=some (.int .i64 (zs.getD k 0)):=(hB.cell (p:=⟨b,off+k,none⟩) hbl).trans (hcell k hlt);have hkl:k<zs.length:=by have:=H.out.1;omega
      obtain⟨z1,z2⟩:=HZ.out (zs.getD k 0) (by simp[List.getD,List.getElem?_eq_getElem hkl]);have hst:encInts (zs.take (k+1))=encInts (zs.take k)++encInt (zs.getD k 0):=by rw[take_getD hkl,encInts_snoc]
      have HS:=Lib.hid hst;have hl1:=encInts_len (zs.take k);have hl2:(zs.take k).length≤k:=List.length_take_le _ _;have hl3:=(encInt_len (zs.getD k 0)).2;clear hst hcell;generalize zs.getD k 0=z at *;go_wp2_with fail;refine(putInt_any _ _ z1 z2).mono ?_;rintro e w1 ⟨rfl,b1⟩;unfold putV;have HBU1:=Lib.hid (builder_below HBU.out b1);have hB1:=Lib.hid (hB.trans (b1.mono hB.size));go_wp2_with fail;refine(writeString_any _ _ _ _ _ HBU1.out (by rw[Lib.byteCells_length];show _+(encInt z).toArray.size≤_;simp;omega) hB1.out.size).mono ?_;rintro e w2 ⟨rfl,hbu2,b2⟩;go_wp2_with fail;go_roundw
      case rel=>
        refine⟨k+1,om,by go_num,?_,hB1.out.trans b2⟩;rw[HS.out];have e:Lib.byteCells (encInts (zs.take k)++encInt z)=Lib.byteCells (encInts (zs.take k))++Lib.strCells ⟨(encInt z).toArray⟩:=by simp[Lib.byteCells,Lib.strCells]
        rw[e];exact .inr hbu2
      case measure=>simp[intOf];omega
    · have hz:zs.take k=zs:=List.take_of_length_le (by have:=H.out.1;omega);rw[hz] at HBU;clear hz;go_wp2_with fail;refine(bString_any _ _ _ _ HBU.out hB.size).mono ?_;rintro e w1 ⟨rfl,b1⟩;go_wp2_with fail;go_ret;exact⟨rfl,hB.trans b1⟩
abbrev Alts:=List (Int×Int)
abbrev optV (s f:Int) (A:Option Addr) (n c:Nat):Value:=.agg #[.int .i64 s,.int .i64 f,.slice A n c]
def noneP (s f:Int) (al:Alts):Bool:=s == 0&&(f == 0&&((al.length:Int) == 0))
def altBad (last:Int) (a:Int×Int):Bool:=decide (a.1≤last)||(decide (7<a.1)||(decide (a.2<1)||decide (1000000<a.2)))
def altsOk (last:Int):Alts→Bool
  | []=>true
  |a::l=>!altBad last a&&altsOk a.1 l
def spanBad (s f:Int):Bool:=decide (s<0)||(decide (100000000<s)||(decide (f<1)||decide (100000000<f)))
def validP (s f:Int) (al:Alts):Bool:=
  noneP s f al||(!spanBad s f&&(!(decide (al.length<1)||decide (7<al.length))&&altsOk 0 al))
theorem drop_pair {al:Alts}{k:Nat}(hk:k<al.length):al.drop k=al.getD k (0,0)::al.drop (k+1):=by
  rw[List.drop_eq_getElem_cons hk];simp[List.getD,List.getElem?_eq_getElem hk]
set_option maxRecDepth 100000 in
theorem none_any (s f:Int) (A:Option Addr) (n c:Nat) (al:Alts) (w:World) (hl:al.length=n):
    Calls Tryz.prog 135 #[optV s f A n c] w fun e w'=>e=.returned (.bool (noneP s f al))∧Below w.heap.size w w':=by
  unfold noneP;rw[hl];have b0:=Lib.hid (balloc w (.cells #[.int .i64 s,.int .i64 f,.slice A n c] 74));go_enter Tryz.func135,Tryz.ntmps135;by_cases h1:s=0
  · subst h1;by_cases h2:f=0
    · subst h2;go_wp2;all_goals (go_ret;exact⟨by simp,b0.out⟩)
    · have h2':(f == 0)=false:=by simpa using h2
      go_wp2;all_goals (go_ret;exact⟨by simp[h2],b0.out⟩)
  · have h1':(s == 0)=false:=by simpa using h1
    go_wp2;all_goals (go_ret;exact⟨by simp[h1],b0.out⟩)
set_option maxRecDepth 100000 in
set_option maxHeartbeats 2000000 in
theorem valid_any (s f:Int) (A:Option Addr) (n c:Nat) (al:Alts) (w:World) (h:IsAlts w A n al):
    Calls Tryz.prog 84 #[optV s f A n c] w fun e w'=>e=.returned (.bool (validP s f al))∧Below w.heap.size w w':=by
  have b0:=Lib.hid (balloc w (.cells #[.int .i64 s,.int .i64 f,.slice A n c] 74));have H:=Lib.hid h;have hl:=h.1;have HV:=Lib.hid (rfl:validP s f al=validP s f al);clear h;go_enter Tryz.func84,Tryz.ntmps84;go_wp2_with fail;refine(none_any s f A n c al _ hl).mono ?_;rintro e w1 ⟨rfl,b1⟩;have B1:=Lib.hid (bnext b0.out b1);have hbox:=(Box.new w 74 #[.int .i64 s,.int .i64 f,.slice A n c]).next b1
  have hc0:=hbox.cell (i:=0) rfl;have hc1:=hbox.cell (i:=1) rfl;have hc2:=hbox.cell (i:=2) rfl;clear hbox;by_cases hn:noneP s f al=true
  · go_wp2_with fail;go_ret;exact⟨by simp[validP,hn],B1.out⟩
  have hn':noneP s f al=false:=by simpa using hn
  have HN:=Lib.hid hn';rw[hn'];clear hn hn';by_cases h1:s<0
  · go_wp2_with fail;go_ret;exact⟨by simp[validP,HN.out,spanBad,h1],B1.out⟩
  by_cases h2:100000000<s
  · go_wp2_with fail;go_ret;exact⟨by simp[validP,HN.out,spanBad,h2],B1.out⟩
  by_cases h3:f<1
  · go_wp2_with fail;go_ret;exact⟨by simp[validP,HN.out,spanBad,h3],B1.out⟩
  by_cases h4:100000000<f
  · go_wp2_with fail;go_ret;exact⟨by simp[validP,HN.out,spanBad,h4],B1.out⟩
  by_cases h5:n<1
  · go_wp2_with fail;go_ret;exact⟨by simp[validP,HN.out,hl,h5],B1.out⟩
  by_cases h6:7<n
  · go_wp2_with fail;go_ret;exact⟨by simp[validP,HN.out,hl,h6],B1.out⟩
  have HV:=Lib.hid (show validP s f al=altsOk 0 al by simp[validP,HN.out,spanBad,hl,h1,h2,h3,h4,h5,h6]);go_wp2_with fail;go_loopw [3,39] (fun l i wr=>∃(k:Nat) (last:Int),k≤n∧i=.int .i64 k∧l=.int .i64 last∧altsOk 0 al=altsOk last (al.drop k)∧Below w.heap.size w wr) (fun _ i _=>n-(intOf i).toNat)
  case atStart=>exact⟨0,0,Nat.zero_le _,rfl,rfl,rfl,B1.out⟩
  case round=>
    obtain⟨k,last,hk,rfl,rfl,hst,hB⟩:=hrel;have HST:=Lib.hid hst;clear hst;by_cases hlt:k<n
    · obtain⟨b,off,rfl,hbl,ca,cb⟩:=(H.out.below hB).at_ hlt;rw[drop_pair om] at HST;generalize al.getD k (0,0)=a at *;obtain⟨r,i⟩:=a;simp only at ca cb;by_cases j1:r≤last
      · go_wp2_with fail;go_ret;exact⟨by rw[HV.out,HST.out];simp[altsOk,altBad,j1],(hB.alloc hB.size _)⟩
      by_cases j2:7<r
      · go_wp2_with fail;go_ret;exact⟨by rw[HV.out,HST.out];simp[altsOk,altBad,j2],(hB.alloc hB.size _)⟩
      by_cases j3:i<1
      · go_wp2_with fail;go_ret;exact⟨by rw[HV.out,HST.out];simp[altsOk,altBad,j3],(hB.alloc hB.size _)⟩
      by_cases j4:1000000<i
      · go_wp2_with fail;go_ret;exact⟨by rw[HV.out,HST.out];simp[altsOk,altBad,j4],(hB.alloc hB.size _)⟩
      go_wp2_with fail;go_roundw
      case rel=>exact⟨k+1,r,om,by go_num,rfl,by rw[HST.out];simp[altsOk,altBad,j1,j2,j3,j4],(hB.alloc hB.size _)⟩
      case measure=>simp[intOf];omega
    · go_wp2_with fail;go_ret;exact⟨by rw[HV.out,HST.out,List.drop_of_length_le om];rfl,hB⟩
theorem pairs_ones (al:Alts):∀u∈pairs al,u.oneCell'=true:=by
  intro u hu;simp only[List.mem_flatMap] at hu;obtain⟨a,_,hu⟩:=hu;simp only[List.mem_cons,List.not_mem_nil,or_false] at hu;rcases hu with rfl|rfl<;>rfl
theorem ret_opt {fn:Func}{R:Ending→World→Prop}{a:Act}{w:World}{p:Tmp}{b:Nat}{t:TypeId}{v0 v1 v2:Value}(hr:fn.results=#[.cell p 74]) (hp:a.tmps.getD p undef=.pointer (some ⟨b,0,none⟩))
    (hb:Box w b t #[v0,v1,v2]) (hd:a.defers=[]) (h:R (.returned (.agg #[v0,v1,v2])) w):bodyPost Tryz.prog fn R .ret a w:=by
  have c0:=hb.cell (i:=0) rfl;have c1:=hb.cell (i:=1) rfl;have c2:=hb.cell (i:=2) rfl;refine bodyPost_ret (v:=.agg #[v0,v1,v2]) ?_ hd h;rw[Array.getD_eq_getD_getElem?] at hp;simp[results,hr,hp,go_sem,c0,c1,c2]
theorem infoAlt:(Tryz.prog.info? 189).map (fun i=>(i.zero,i.size,i.bytes))=some (some (.agg #[.int .i64 0,.int .i64 0]),2,16):=kr
def RetOpt (s f:Int) (al:Alts) (w:World) (e:Ending) (w':World):Prop:=
  ∃B c,e=.returned (optV s f B al.length c)∧IsAlts w' B al.length al∧al.length≤c∧c≤maxLen∧(B=none→c=0)∧Below w.heap.size w w'∧(∀b off,B=some ⟨b,off,none⟩→w.heap.size≤b)
theorem own_base {w:World}{base:Nat}{t:TypeId}{size n c:Nat}{B:Option Addr}{xs:List Value}(h:w.ownsRow base t size (.slice B n c) n xs):∀b off,B=some ⟨b,off,none⟩→base≤b:=by
  intro b off hb;rcases h.2 with⟨h2,_⟩|⟨g,cap,cur,hv,hg,_⟩
  · cases h2;cases hb
  · cases hv;cases hb;exact hg
set_option maxRecDepth 100000 in
set_option maxHeartbeats 2000000 in
theorem own_any (s f:Int) (A:Option Addr) (n c:Nat) (al:Alts) (w:World) (h:IsAlts w A n al) (hn:n≤7) (hA:A=none→n=0∧c=0):
    Calls Tryz.prog 102 #[optV s f A n c] w (RetOpt s f al w):=by
  obtain⟨i0,hi0,hz0,hz1,hz2⟩:∃i,Tryz.prog.info? 189=some i∧i.zero=some (.agg #[.int .i64 0,.int .i64 0])∧i.size=2∧i.bytes=16:=by
    have:=infoAlt;cases hi:Tryz.prog.info? 189 with
    |none=>rw[hi] at this;cases this
    |some i=>rw[hi] at this;simp at this;exact⟨i,rfl,this.1,this.2.1,this.2.2⟩
  have b0:=balloc w (.cells #[.int .i64 s,.int .i64 f,.slice A n c] 74);have hB:=Lib.hid (b0.alloc b0.size (.cells #[.int .i64 0,.int .i64 0,.slice none 0 0] 74));have H:=Lib.hid h;have HA:=Lib.hid hA;have hl:=h.1;have hx1:=((Box.new w 74 #[.int .i64 s,.int .i64 f,.slice A n c]).next (balloc _ (.cells #[.int .i64 0,.int .i64 0,.slice none 0 0] 74)));have hx2:=Box.new (w.alloc (.cells #[.int .i64 s,.int .i64 f,.slice A n c] 74)) 74 #[.int .i64 0,.int .i64 0,.slice none 0 0];have Hx1:=Lib.hid hx1;have Hx2:=Lib.hid hx2;have hz:∀u∈ [1],u=1:=by simp
  clear h hA hx1 hx2 b0 hz;go_enter Tryz.func102,Tryz.ntmps102
  go_wp2_with (at_builtin;refine wpList_append_rd _ rfl (.const (.slice none 0 0)) (.tmp 4) 37 rfl (w.heap.size+2) 189 i0 (.agg #[.int .i64 0,.int .i64 0]) 2 16 Tryz.underlying37 hi0 hz0 hz1 hz2 rfl (by decide) (.slice none 0 0) 0 [] rfl (World.ownsRow_nil _ _ _ _) A n c (pairs al) rfl HA.out (H.out.below hB.out).2 (pairs_ones _) (by unfold maxLen;omega) om (by simp) ?_;intro B1 c1 w4 hown1 hgrow1 hat1;have Hb1:=Lib.hid (hB.out.grown hgrow1 hB.out.size (fun k e=>by cases e));have Hown1:=Lib.hid hown1;have y1:=Hx1.out.grown hgrow1 (by simp[Value.ownBlock]);have y2:=Hx2.out.grown hgrow1 (by simp[Value.ownBlock]);have y10:=y1.cell (i:=0) rfl;have y11:=y1.cell (i:=1) rfl;have y12:=y1.cell (i:=2) rfl;have y1f:=y1.frozen 2;have y20:=y2.cell (i:=0) rfl;have y21:=y2.cell (i:=1) rfl;have y22:=y2.cell (i:=2) rfl;have y2f0:=y2.frozen 0;have y2f1:=y2.frozen 1;have y2f2:=y2.frozen 2;have Y1:=Lib.hid y1;have Y2:=Lib.hid y2;simp at y20 y21 y22 y2f0 y2f1 y2f2;clear hown1 hgrow1 hat1 y1 y2)
  simp only[Nat.zero_add,List.nil_append] at Hown1;have Hn:=own_facts Hown1.out;have hE:=((((Y2.out.set_ne (b':=w.heap.size) (i:=2) (.slice B1 n c1) (by simp)).set (i:=0) (.int .i64 s)).set (i:=1) (.int .i64 f)).set (i:=2) (.slice B1 n c1));simp at hE;refine ret_opt Tryz.results102 rfl hE rfl ?_;rw[←hl] at *;refine⟨B1,c1,rfl,⟨rfl,?_⟩,Hn.1,Hn.2.1,Hn.2.2,?_,fun b off hb=>Nat.le_trans (Nat.le_add_right _ _) (own_base Hown1.out b off hb)⟩
  · have hw:=Hown1.out;repeat (first|exact Rd.of_own hw|(refine Rd.of_own (base:=w.heap.size+2) (c:=c1) (e:=189) ?_)|(refine ownsRow_setCell_below ?_ (by simp) _)|exact hw)
  · have hw:=Hb1.out;repeat (first|exact hw|(refine Below.setCell ?_ (by simp) _))
theorem bytes_append (a b:List UInt8):(⟨(a++b).toArray⟩:ByteArray)=⟨a.toArray⟩++ ⟨b.toArray⟩:=by
  apply ByteArray.ext;simp[ByteArray.data_append]
def flatA (al:Alts):List Int:=al.flatMap fun a=>[a.1,a.2]
def encOpt (s f:Int) (al:Alts):List UInt8:=encInts ([s,f,(al.length:Int)]++flatA al)
def encV (s f:Int) (al:Alts):Value:=
  if validP s f al=true then .tuple #[.string ⟨(encOpt s f al).toArray⟩,.int .i64 0] else .tuple #[.string ⟨#[]⟩,.int .i64 170]
theorem flatA_take {al:Alts}{k:Nat}(hk:k<al.length):flatA (al.take (k+1))=flatA (al.take k)++[(al.getD k (0,0)).1,(al.getD k (0,0)).2]:=by
  rw[List.take_succ_eq_append_getElem hk];simp only[flatA,List.flatMap_append,List.flatMap_cons,List.flatMap_nil,List.append_nil,List.getD,List.getElem?_eq_getElem hk,Option.getD_some]
theorem encInts_append (a b:List Int):encInts (a++b)=encInts a++encInts b:=by simp[encInts]
theorem altsOk_mem {al:Alts}:∀{last:Int},0≤last→altsOk last al=true→∀a∈al,(0≤a.1∧a.1≤7)∧1≤a.2∧a.2≤1000000:=by
  induction al with
  |nil=>simp
  |cons a al ih=>
    intro last hl h b hb;simp only[altsOk,altBad,Bool.and_eq_true,Bool.not_eq_true',Bool.or_eq_false_iff,decide_eq_false_iff_not] at h;obtain⟨⟨h1,h2,h3,h4⟩,h5⟩:=h;simp only[List.mem_cons] at hb;rcases hb with rfl|hb
    · omega
    · exact ih om h5 b hb
theorem valid_facts {s f:Int}{al:Alts}(h:validP s f al=true):(0≤s∧s≤100000000)∧(0≤f∧f≤100000000)∧al.length≤7∧∀a∈al,(0≤a.1∧a.1≤7)∧1≤a.2∧a.2≤1000000:=by
  unfold validP at h;by_cases hn:noneP s f al=true
  · simp[noneP] at hn;obtain⟨rfl,rfl,rfl⟩:=hn;simp
  · have hn':noneP s f al=false:=by simpa using hn
    simp only[hn',Bool.false_or,Bool.and_eq_true,Bool.not_eq_true',spanBad,Bool.or_eq_false_iff,decide_eq_false_iff_not] at h;obtain⟨⟨h1,h2,h3,h4⟩,⟨h5,h6⟩,h7⟩:=h;exact⟨om,om,om,altsOk_mem (Int.le_refl _) h7⟩
set_option maxRecDepth 100000 in
set_option maxHeartbeats 2000000 in
theorem encode_any (s f:Int) (A:Option Addr) (n c:Nat) (al:Alts) (w:World) (h:IsAlts w A n al):
    Calls Tryz.prog 142 #[optV s f A n c] w fun e w'=>e=.returned (encV s f al)∧Below w.heap.size w w':=by
  have b0:=balloc w (.cells #[.int .i64 s,.int .i64 f,.slice A n c] 74);have hB:=Lib.hid b0;have H:=Lib.hid h;have hl:=h.1;have Hx1:=Lib.hid (Box.new w 74 #[.int .i64 s,.int .i64 f,.slice A n c]);clear h b0;go_enter Tryz.func142,Tryz.ntmps142;go_wp2_with fail;refine(valid_any s f A n c al _ (H.out.below hB.out)).mono ?_;rintro e w1 ⟨rfl,b1⟩;have B1:=Lib.hid (bnext hB.out b1);by_cases hv:validP s f al=true
  · obtain⟨hs,hf,hn,hal⟩:=valid_facts hv;have HAL:=Lib.hid hal;have HV:Hid (encV s f al=.tuple #[.string ⟨(encOpt s f al).toArray⟩,.int .i64 0]):=Lib.hid (by simp[encV,hv]);have hb1:=Hx1.out.next b1
    have c0:=hb1.cell (i:=0) rfl;have c1:=hb1.cell (i:=1) rfl;have c2:=hb1.cell (i:=2) rfl;have HNW:=Lib.hid (isInts_new w1 3 [s,f,(n:Int)] (by unfold maxLen;simp));clear hal hb1;go_wp2_with fail;refine(put_any _ 3 3 [s,f,(n:Int)] _ HNW.out om (by unfold wmax;simp;omega)).mono ?_;rintro e w2 ⟨rfl,b2⟩;have B2:=Lib.hid (bnew B1.out b2);have hb2:=(Hx1.out.next b1).below ((balloc w1 _).trans (b2.mono (by simp))) (Hx1.out.next b1).lt;have c0:=hb2.cell (i:=0) rfl;have c1:=hb2.cell (i:=1) rfl;have c2:=hb2.cell (i:=2) rfl;clear hb2;go_wp2_with fail;go_loopw [4,22] (fun o i wr=>∃(k:Nat),k≤n∧i=.int .i64 k∧o=.string ⟨(encInts ([s,f,(n:Int)]++flatA (al.take k))).toArray⟩∧Below w.heap.size w wr) (fun _ i _=>n-(intOf i).toNat)
    case atStart=>exact⟨0,Nat.zero_le _,rfl,by simp[flatA],B2.out⟩
    case round=>
      obtain⟨k,hk,rfl,rfl,hBr⟩:=hrel;by_cases hlt:k<n
      · obtain⟨b,off,rfl,hbl,ca,cb⟩:=(H.out.below hBr).at_ hlt;have hm:al.getD k (0,0)∈al:=by simp[List.getD,List.getElem?_eq_getElem (show k<al.length from om)]
        obtain⟨q1,q2⟩:=HAL.out _ hm;have HST:=Lib.hid (flatA_take (show k<al.length from om));have hle:=encInts_len ([s,f,(n:Int)]++flatA (al.take k));clear hm;generalize al.getD k (0,0)=a at *;obtain⟨r,i⟩:=a;simp only at ca cb q1 q2 HST;have HNW:Hid (IsInts ((wr.alloc (.cells #[.int .i64 r,.int .i64 i] 189)).alloc (.cells #[.int .i64 r,.int .i64 i] 3)) (some ⟨wr.heap.size+1,0,none⟩) 2 [r,i]):=by
          have:=isInts_new (wr.alloc (.cells #[.int .i64 r,.int .i64 i] 189)) 3 [r,i] (by unfold maxLen;simp);exact Lib.hid (by simpa using this)
        have HW:Hid (∀z∈ [r,i],-wmax≤z∧z≤wmax):=Lib.hid (by unfold wmax;simp;omega);have HST2:Hid (encInts ([s,f,(n:Int)]++flatA (al.take (k+1)))=encInts ([s,f,(n:Int)]++flatA (al.take k))++encInts [r,i]):=Lib.hid (by rw[HST.out,←List.append_assoc,encInts_append _ [r,i]]);have hl4:(flatA (al.take k)).length≤14:=by
          have h1:∀l:Alts,(flatA l).length=2*l.length:=by
            intro l;induction l with
            |nil=>rfl
            |cons a l ih=>simp only[flatA,List.flatMap_cons,List.length_append,List.length_cons,List.length_nil] at *;omega
          have:=h1 (al.take k);have:=List.length_take_le k al;omega
        simp only[List.length_append,List.length_cons,List.length_nil] at hle;clear HST;generalize encInts ([s,f,(n:Int)]++flatA (al.take k))=E at *;have hl5:=encInts_len [r,i];simp only[List.length_cons,List.length_nil] at hl5;go_wp2_with fail;refine(put_any (some ⟨wr.heap.size+1,0,none⟩) 2 2 [r,i] _ HNW.out (by decide) HW.out).mono ?_;rintro e w3 ⟨rfl,b3⟩;have B3:=Lib.hid (bnew (hBr.alloc hBr.size _) b3);generalize encInts [r,i]=F at *;go_wp2_with fail;go_roundw
        case rel=>
          refine⟨k+1,om,by go_num,?_,B3.out⟩;rw[HST2.out,bytes_append]
        case measure=>simp[intOf];omega
      · have ht:al.take k=al:=List.take_of_length_le om;rw[ht];go_wp2_with fail;go_ret2;exact⟨by rw[HV.out];simp[encOpt,hl],hBr⟩
  · have hv':validP s f al=false:=by simpa using hv
    rw[hv'];go_wp2_with fail;go_ret2;exact⟨by simp[encV,hv'],B1.out⟩
def rdAlts (l:List UInt8):Nat→Nat→Option (Alts×Nat)
  |0,k=>some ([],k)
  |n+1,k=>match rdN l 2 k with
    |([r,i],some e)=>(rdAlts l n e).map fun p=>((r,i)::p.1,p.2)
    |_=>none
structure POpt where
  s:Int
  f:Int
  al:Alts
def POpt.zero:POpt:=⟨0,0,[]⟩
def finP (l:List UInt8) (s f:Int):Option (Alts×Nat)→POpt×Int
  |none=>(.zero,10)
  |some (al,e)=>if e≠l.length then(.zero,10) else if validP s f al=true then(⟨s,f,al⟩,0) else(.zero,170)
def decP (l:List UInt8):POpt×Int:=
  match rdN l 3 0 with
  |([s,f,n],some k)=>if n<0∨7<n then(.zero,170) else finP l s f (rdAlts l n.toNat k)
  |_=>(.zero,10)
def RetDec (r:POpt×Int) (w:World) (e:Ending) (w':World):Prop:=
  ∃B c,e=.returned (.tuple #[optV r.1.s r.1.f B r.1.al.length c,.int .i64 r.2])∧IsAlts w' B r.1.al.length r.1.al∧r.1.al.length≤c∧c≤maxLen∧(B=none→c=0)∧Below w.heap.size w w'∧(∀b off,B=some ⟨b,off,none⟩→w.heap.size≤b)
theorem rdN_len (l:List UInt8):∀(m k e:Nat),(rdN l m k).2=some e→(rdN l m k).1.length=m:=by
  intro m;induction m with
  |zero=>intro k e _;rfl
  |succ m ih=>
    intro k e h;unfold rdN at h ⊢;cases hr:rdInt l k with
    |none=>rw[hr] at h;cases h
    |some p=>rw[hr] at h;simp only at h ⊢;simp[ih _ _ h]
theorem ret_dec {fn:Func}{R:Ending→World→Prop}{a:Act}{w:World}{p q:Tmp}{b:Nat}{t:TypeId}{v0 v1 v2 v:Value}(hr:fn.results=#[.cell p 74,.tmp q]) (hp:a.tmps.getD p undef=.pointer (some ⟨b,0,none⟩)) (hq:a.tmps.getD q undef=v)
    (hb:Box w b t #[v0,v1,v2]) (hd:a.defers=[]) (h:R (.returned (.tuple #[.agg #[v0,v1,v2],v])) w):bodyPost Tryz.prog fn R .ret a w:=by
  have c0:=hb.cell (i:=0) rfl;have c1:=hb.cell (i:=1) rfl;have c2:=hb.cell (i:=2) rfl;refine bodyPost_ret (v:=.tuple #[.agg #[v0,v1,v2],v]) ?_ hd h;rw[Array.getD_eq_getD_getElem?] at hp hq;simp[results,hr,hp,hq,go_sem,c0,c1,c2]
theorem rd_ptrs (w:World) (t:TypeId) (ps:List (Nat×Nat)) (hl:ps.length≤maxLen):Rd (w.alloc (.cells (ptrs ps).toArray t)) 1 (some ⟨w.heap.size,0,none⟩) ps.length (ptrs ps):=by
  have:=own_new w t (ptrs ps) (by simpa using hl);rw[List.length_map] at this;exact Rd.of_own this
abbrev zero3:Array Value:=#[.int .i64 0,.int .i64 0,.slice none 0 0]
abbrev ptrAt (b o:Nat):Value:=.pointer (some ⟨b,o,none⟩)
theorem take3 (s:ByteArray) (w:World) (hs:s.size≤9000000000000000000):
    Calls Tryz.prog 192 #[.string s,.int .i64 0,.slice (some ⟨w.heap.size+1+1+1,0,none⟩) 3 3]
      ((((w.alloc (.cells zero3 74)).alloc (.cells zero3 74)).alloc (.cells #[.int .i64 0] 3)).alloc (.cells #[ptrAt (w.heap.size+1) 0,ptrAt (w.heap.size+1) 1,ptrAt (w.heap.size+1+1) 0] 302))
      fun e w'=>e=.returned (takeV (rdN s.data.toList 3 0).2)∧Box w' w.heap.size 74 zero3∧Below w.heap.size w w'∧w.heap.size+4≤w'.heap.size ∧
        ∀e2,(rdN s.data.toList 3 0).2=some e2→∃a b n,rdN s.data.toList 3 0=([a,b,n],some e2)∧Box w' (w.heap.size+1) 74 #[.int .i64 a,.int .i64 b,.slice none 0 0]∧Box w' (w.heap.size+1+1) 3 #[.int .i64 n]:=by
  generalize hW1:w.alloc (.cells zero3 74)=W1;generalize hW2:W1.alloc (.cells zero3 74)=W2;generalize hW3:W2.alloc (.cells #[.int .i64 0] 3)=W3;have s1:W1.heap.size=w.heap.size+1:=by rw[←hW1];simp
  have s2:W2.heap.size=w.heap.size+1+1:=by rw[←hW2];simp[s1]
  have s3:W3.heap.size=w.heap.size+1+1+1:=by rw[←hW3];simp[s2]
  have x1:Box W1 w.heap.size 74 zero3:=by rw[←hW1];exact Box.new _ _ _
  have x2:Box W2 (w.heap.size+1) 74 zero3:=by rw[←hW2,←s1];exact Box.new _ _ _
  have x3:Box W3 (w.heap.size+1+1) 3 #[.int .i64 0]:=by rw[←hW3,←s2];exact Box.new _ _ _
  have l1:Below w.heap.size w W1:=by rw[←hW1];exact balloc _ _
  have l2:Below W1.heap.size W1 W2:=by rw[←hW2];exact balloc _ _
  have l3:Below W2.heap.size W2 W3:=by rw[←hW3];exact balloc _ _
  generalize hps:[(w.heap.size+1,0),(w.heap.size+1,1),(w.heap.size+1+1,0)]=ps;have hpl:ps.length=3:=by rw[←hps];rfl
  have hp:=rd_ptrs W3 302 ps (by rw[hpl];decide);generalize hW4:W3.alloc (.cells (ptrs ps).toArray 302)=W4 at hp;have l4:Below W3.heap.size W3 W4:=by rw[←hW4];exact balloc _ _
  have s4:W4.heap.size=w.heap.size+1+1+1+1:=by rw[←hW4];simp[s3]
  rw[hpl,s3] at hp;have e4:W3.alloc (.cells #[ptrAt (w.heap.size+1) 0,ptrAt (w.heap.size+1) 1,ptrAt (w.heap.size+1+1) 0] 302)=W4:=by rw[←hW4,←hps];rfl
  rw[e4];have x1':=((x1.next l2).next l3).next l4
  have x2':=(x2.next l3).next l4
  have x3':=x3.next l4
  have hmem:∀p∈ps,p.1=w.heap.size+1∨p.1=w.heap.size+1+1:=by rw[←hps];simp
  refine(take_any s 0 _ 3 3 ps W4 hs (Nat.zero_le _) (by decide) hp ?_ ?_).mono ?_
  · rw[←hps];intro p hpm;simp only[List.mem_cons,List.not_mem_nil,or_false] at hpm;rcases hpm with rfl|rfl|rfl
    · exact⟨_,_,x2',by simp⟩
    · exact⟨_,_,x2',by simp⟩
    · exact⟨_,_,x3',by simp⟩
  · intro b off hb p hpm;cases hb
    have:=hmem p hpm;omega
  · rintro e w' ⟨rfl,rfl⟩;have hzip:∀x∈ps.zip (rdN s.data.toList 3 0).1,x.1.1=w.heap.size+1∨x.1.1=w.heap.size+1+1:=fun x hx=>hmem _ (List.of_mem_zip (a:=x.1) (b:=x.2) hx).1;refine⟨rfl,?_,?_,?_,?_⟩
    · exact(wrs_block _ _ (fun x hx=>by have:=hzip x hx;omega) _).trans x1'
    · exact wrs_below _ _ (fun x hx=>by have:=hzip x hx;omega) _ _ (bnext (bnext (bnext l1 l2) l3) l4)
    · have:=(wrs_below (ps.zip (rdN s.data.toList 3 0).1) 0 (fun x hx=>om) W4 W4 (Below.refl _ _)).size;omega
    · intro e2 he;have hlen:=rdN_len _ _ _ _ he;clear hzip;generalize rdN s.data.toList 3 0=q at *;obtain⟨vs,o⟩:=q;simp only at he hlen ⊢;subst he;match vs,hlen with
      | [a,b,n],_=>
        refine⟨a,b,n,rfl,?_,?_⟩
        · have:=((x2'.set (i:=0) (.int .i64 a)).set (i:=1) (.int .i64 b)).set_ne (b':=w.heap.size+1+1) (i:=0) (.int .i64 n) om;rw[←hps];simpa [wrs] using this
        · have:=((x3'.set_ne (b':=w.heap.size+1) (i:=0) (.int .i64 a) om).set_ne (b':=w.heap.size+1) (i:=1) (.int .i64 b) om).set (i:=0) (.int .i64 n);rw[←hps];simpa [wrs] using this
theorem take2 (s:ByteArray) (k:Nat) (w:World) (hs:s.size≤9000000000000000000) (hk:k≤s.size):
    Calls Tryz.prog 192 #[.string s,.int .i64 k,.slice (some ⟨w.heap.size+1,0,none⟩) 2 2]
      ((w.alloc (.cells #[.int .i64 0,.int .i64 0] 189)).alloc (.cells #[ptrAt w.heap.size 0,ptrAt w.heap.size 1] 302))
      fun e w'=>e=.returned (takeV (rdN s.data.toList 2 k).2)∧Below w.heap.size w w' ∧
        ∀e2,(rdN s.data.toList 2 k).2=some e2→∃a b,rdN s.data.toList 2 k=([a,b],some e2)∧Box w' w.heap.size 189 #[.int .i64 a,.int .i64 b]:=by
  generalize hW3:w.alloc (.cells #[.int .i64 0,.int .i64 0] 189)=W3;have s3:W3.heap.size=w.heap.size+1:=by rw[←hW3];simp
  have x1:Box W3 w.heap.size 189 #[.int .i64 0,.int .i64 0]:=by rw[←hW3];exact Box.new _ _ _
  have l1:Below w.heap.size w W3:=by rw[←hW3];exact balloc _ _
  generalize hps:[(w.heap.size,0),(w.heap.size,1)]=ps;have hpl:ps.length=2:=by rw[←hps];rfl
  have hp:=rd_ptrs W3 302 ps (by rw[hpl];decide);generalize hW4:W3.alloc (.cells (ptrs ps).toArray 302)=W4 at hp;have l4:Below W3.heap.size W3 W4:=by rw[←hW4];exact balloc _ _
  rw[hpl,s3] at hp;have e4:W3.alloc (.cells #[ptrAt w.heap.size 0,ptrAt w.heap.size 1] 302)=W4:=by rw[←hW4,←hps];rfl
  rw[e4];have x1':=x1.next l4
  have hmem:∀p∈ps,p.1=w.heap.size:=by rw[←hps];simp
  refine(take_any s k _ 2 2 ps W4 hs hk (by decide) hp ?_ ?_).mono ?_
  · rw[←hps];intro p hpm;simp only[List.mem_cons,List.not_mem_nil,or_false] at hpm;rcases hpm with rfl|rfl
    · exact⟨_,_,x1',by simp⟩
    · exact⟨_,_,x1',by simp⟩
  · intro b off hb p hpm;cases hb
    have:=hmem p hpm;omega
  · rintro e w' ⟨rfl,rfl⟩;have hzip:∀x∈ps.zip (rdN s.data.toList 2 k).1,x.1.1=w.heap.size:=fun x hx=>hmem _ (List.of_mem_zip (a:=x.1) (b:=x.2) hx).1;refine⟨rfl,?_,?_⟩
    · exact wrs_below _ _ (fun x hx=>by have:=hzip x hx;omega) _ _ (bnext l1 l4)
    · intro e2 he;have hlen:=rdN_len _ _ _ _ he;clear hzip;generalize rdN s.data.toList 2 k=q at *;obtain⟨vs,o⟩:=q;simp only at he hlen ⊢;subst he;match vs,hlen with
      | [a,b],_=>
        refine⟨a,b,rfl,?_⟩;have:=(x1'.set (i:=0) (.int .i64 a)).set (i:=1) (.int .i64 b);rw[←hps];simpa [wrs] using this
end Go.Proofs.YthpbaaadkhdifaaGreatDoor
