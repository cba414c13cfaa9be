/- Part 3 of the proofs: OptG, TrB, BldF, OptC, OptRefT, TrD, TrE, TrF, TrG, TrH, SymF, TrI, TrJ, OptPlT, TrL. -/
import Derived.Lib.FrozenHead
import Derived.Shelf.Strings.BuilderK
import Derived.Deep.QuietTactic
import Derived.BigQuiet
import Derived.Laws.StructEq
import Derived.Test.YthpbaaadkhdifaaGreatDoorZob
namespace Go.Proofs.YthpbaaadkhdifaaGreatDoor
set_option maxRecDepth 100000
set_option maxHeartbeats 4000000
open Go.ChangeShapes Go.WideShapes Go.ChangeAt Go.RowKit
set_option linter.unusedVariables false
theorem rdN_le (l:List UInt8):∀(m k e:Nat),k≤l.length→(rdN l m k).2=some e→e≤l.length:=by
  intro m;induction m with
  |zero=>intro k e hk h;simp[rdN] at h;omega
  |succ m ih=>
    intro k e hk h;unfold rdN at h;cases hr:rdInt l k with
    |none=>rw[hr] at h;cases h
    |some p=>rw[hr] at h;simp only at h;exact ih _ _ (rdInt_le hk hr).2 h
theorem retDec_zero {l:List UInt8}{code:Int}{w w':World}(h:decP l=(.zero,code)) (hb:Below w.heap.size w w'):
    RetDec (decP l) w (.returned (.tuple #[.agg #[.int .i64 0,.int .i64 0,.slice none 0 0],.int .i64 code])) w':=by
  rw[h];exact⟨none,0,rfl,IsAlts.nil _ _,Nat.le_refl _,Nat.zero_le _,fun _=>rfl,hb,fun _ _ h=>by cases h⟩
theorem rdAlts_none {l:List UInt8}{n k:Nat}(h:(rdN l 2 k).2=none):rdAlts l (n+1) k=none:=by
  unfold rdAlts;split
  · next hq=>rw[hq] at h;cases h
  · rfl
theorem rdAlts_some {l:List UInt8}{n k e:Nat}{r x:Int}(h:rdN l 2 k=([r,x],some e)):rdAlts l (n+1) k=(rdAlts l n e).map fun p=>((r,x)::p.1,p.2):=by
  rw[rdAlts,h]
theorem alt_new (w:World) (t:TypeId) (r x:Int):Rd (w.alloc (.cells #[.int .i64 r,.int .i64 x] t)) 2 (some ⟨w.heap.size,0,none⟩) 1 (pairs [(r,x)]):=by
  have hb:=Box.new w t #[.int .i64 r,.int .i64 x];refine⟨rfl,.inr ⟨w.heap.size,0,rfl,hb.lt,fun i hi=>?_⟩⟩;rw[Nat.zero_add];match i,hi with
  |0,_=>exact hb.cell rfl
  |1,_=>exact hb.cell rfl
set_option maxRecDepth 100000 in
set_option maxHeartbeats 4000000 in
theorem decode_any (s:ByteArray) (w:World) (hs:s.size≤9000000000000000000):
    Calls Tryz.prog 170 #[.string s] w (RetDec (decP s.data.toList) w):=by
  obtain⟨i0,hi0,hz0,hz1,hz2⟩:∃i,Tryz.prog.info? 189=some i∧i.zero=some (.agg #[.int .i64 0,.int .i64 0])∧i.size=2∧i.bytes=16:=by
    have:=infoAlt;cases hi:Tryz.prog.info? 189 with
    |none=>rw[hi] at this;cases this
    |some i=>rw[hi] at this;simp at this;exact⟨i,rfl,this.1,this.2.1,this.2.2⟩
  go_enter Tryz.func170,Tryz.ntmps170;go_wp2_with fail;refine(take3 s w hs).mono ?_;rintro e w1 ⟨rfl,hx0,b1,hsz,hrest⟩;have d0:=hx0.cell (i:=0) rfl;have d1:=hx0.cell (i:=1) rfl;have d2:=hx0.cell (i:=2) rfl;have f0:=hx0.frozen 0;have f1:=hx0.frozen 1;have f2:=hx0.frozen 2;have HX0:=Lib.hid hx0;have B1:=Lib.hid b1;clear hx0;cases hr:(rdN s.data.toList 3 0).2 with
  |none=>
    have HD:Hid (decP s.data.toList=(.zero,10)):=Lib.hid (by
      unfold decP;generalize rdN s.data.toList 3 0=q at *;obtain⟨vs,o⟩:=q;simp only at hr;subst hr;split
      · next h=>cases h
      · rfl)
    clear hrest hr;unfold takeV;go_wp2_with fail;refine ret_dec Tryz.results170 rfl rfl (((HX0.out.set (i:=0) (.int .i64 0)).set (i:=1) (.int .i64 0)).set (i:=2) (.slice none 0 0)) rfl ?_;refine retDec_zero HD.out ?_;exact((B1.out.setCell (by simp) _).setCell (by simp) _).setCell (by simp) _
  |some e1=>
    obtain⟨a,b,n,hq,hx1,hx2⟩:=hrest e1 hr;have he1:e1≤s.size:=by have:=rdN_le s.data.toList 3 0 e1 (Nat.zero_le _) hr;simpa using this
    have HQ:=Lib.hid hq;have HX1:=Lib.hid hx1;have k0:=hx1.cell (i:=0) rfl;have k1:=hx1.cell (i:=1) rfl;have k2:=hx1.cell (i:=2) rfl;have k3:=hx2.cell (i:=0) rfl;have HX2:=Lib.hid hx2;clear hrest hr hq hx1 hx2;unfold takeV;by_cases n0:n<0
    · have HD:Hid (decP s.data.toList=(.zero,170)):=Lib.hid (by unfold decP;rw[HQ.out];simp[n0]);go_wp2_with fail;refine ret_dec Tryz.results170 rfl rfl (((HX0.out.set (i:=0) (.int .i64 0)).set (i:=1) (.int .i64 0)).set (i:=2) (.slice none 0 0)) rfl ?_;refine retDec_zero HD.out ?_;exact((B1.out.setCell (by simp) _).setCell (by simp) _).setCell (by simp) _
    by_cases n7:7<n
    · have HD:Hid (decP s.data.toList=(.zero,170)):=Lib.hid (by unfold decP;rw[HQ.out];simp[n7]);go_wp2_with fail;refine ret_dec Tryz.results170 rfl rfl (((HX0.out.set (i:=0) (.int .i64 0)).set (i:=1) (.int .i64 0)).set (i:=2) (.slice none 0 0)) rfl ?_;refine retDec_zero HD.out ?_;exact((B1.out.setCell (by simp) _).setCell (by simp) _).setCell (by simp) _
    obtain⟨m,rfl⟩:∃m:Nat,n=m:=⟨n.toNat,om⟩;have HD:Hid (decP s.data.toList=finP s.data.toList a b (rdAlts s.data.toList m e1)):=Lib.hid (by
        unfold decP;rw[HQ.out];simp only[if_neg (show ¬((m:Int)<0∨7<(m:Int)) from om),Int.toNat_natCast])
    clear d0 d1 d2 f0 f1 f2;go_wp2_with fail;go_loopw [6,28] (fun q i wr=>∃(k kq:Nat) (al:Alts) (B:Option Addr) (c:Nat),k≤m∧kq≤s.size∧i=.int .i64 k∧q=.int .i64 kq∧al.length=k ∧
        rdAlts s.data.toList m e1=(rdAlts s.data.toList (m-k) kq).map (fun p=>(al++p.1,p.2)) ∧
        Box wr w.heap.size 74 zero3∧Box wr (w.heap.size+1) 74 #[.int .i64 a,.int .i64 b,.slice B k c]∧wr.ownsRow (w.heap.size+4) 189 2 (.slice B k c) k (pairs al)∧w.heap.size+4≤wr.heap.size∧Below w.heap.size w wr) (fun _ i _=>m-(intOf i).toNat)
    case atStart=>
      refine⟨0,e1,[],none,0,Nat.zero_le _,he1,rfl,rfl,rfl,?_,HX0.out,HX1.out,World.ownsRow_nil _ _ _ _,hsz,B1.out⟩;cases rdAlts s.data.toList m e1<;>simp
    case round=>
      obtain⟨k,kq,al,B,c,hk,hkq,rfl,rfl,hal,hst,hy0,hy1,hown,hsz',hBr⟩:=hrel;have HST:=Lib.hid hst;have HOW:=Lib.hid hown;clear hst hown k0 k1 k2 k3;by_cases hlt:k<m
      · have e1':m-k=(m-(k+1))+1:=om;rw[e1'] at HST;have HY0:=Lib.hid hy0;have HY1:=Lib.hid hy1;clear hy0 hy1 e1';go_wp2_with fail;refine(take2 s kq wr hs hkq).mono ?_;rintro e w2 ⟨rfl,b2,hrest⟩;have HZ0:=Lib.hid (HY0.out.next b2);have HZ1:=Lib.hid (HY1.out.next b2);have B2:=Lib.hid (bnext hBr b2);have HO2:=Lib.hid (own_below HOW.out b2);have hs2:w.heap.size+4≤w2.heap.size:=Nat.le_trans hsz' b2.size;cases hr:(rdN s.data.toList 2 kq).2 with
        |none=>
          have HE:Hid (decP s.data.toList=(.zero,10)):=Lib.hid (by
            rw[HD.out,HST.out,rdAlts_none hr];rfl)
          have d0:=HZ0.out.cell (i:=0) rfl;have d1:=HZ0.out.cell (i:=1) rfl;have d2:=HZ0.out.cell (i:=2) rfl;have f0:=HZ0.out.frozen 0;have f1:=HZ0.out.frozen 1;have f2:=HZ0.out.frozen 2;clear hrest hr;unfold takeV;go_wp2_with fail;refine ret_dec Tryz.results170 rfl rfl (((HZ0.out.set (i:=0) (.int .i64 0)).set (i:=1) (.int .i64 0)).set (i:=2) (.slice none 0 0)) rfl ?_;refine retDec_zero HE.out ?_;exact((B2.out.setCell (by simp) _).setCell (by simp) _).setCell (by simp) _
        |some e2=>
          obtain⟨r,x,hq,hx⟩:=hrest e2 hr;have he2:e2≤s.size:=by have:=rdN_le s.data.toList 2 kq e2 (by simpa using hkq) hr;simpa using this
          have HSU:Hid (rdAlts s.data.toList m e1=(rdAlts s.data.toList (m-(k+1)) e2).map (fun p=>((al++[(r,x)])++p.1,p.2))):=Lib.hid (by
            rw[HST.out,rdAlts_some hq,Option.map_map];congr 1;funext p;simp)
          have x0:=hx.cell (i:=0) rfl;have x1:=hx.cell (i:=1) rfl;have k2:=HZ1.out.cell (i:=2) rfl;have HN:=Lib.hid (alt_new w2 189 r x);have HOa:=Lib.hid (own_below HO2.out (balloc w2 (.cells #[.int .i64 r,.int .i64 x] 189)));have HBa:=Lib.hid (B2.out.alloc B2.out.size (.cells #[.int .i64 r,.int .i64 x] 189));have HZ1a:=Lib.hid (HZ1.out.next (balloc w2 (.cells #[.int .i64 r,.int .i64 x] 189)));have HZ0a:=Lib.hid (HZ0.out.next (balloc w2 (.cells #[.int .i64 r,.int .i64 x] 189)));clear hrest hr hq hx;unfold takeV
          go_wp2_with (at_builtin;refine wpList_append_rd (w2.alloc (.cells #[.int .i64 r,.int .i64 x] 189)) rfl (.tmp 43) (.tmp 45) 37 rfl (w.heap.size+4) 189 i0 (.agg #[.int .i64 0,.int .i64 0]) 2 16 Tryz.underlying37 hi0 hz0 hz1 hz2 rfl (by decide) (.slice B k c) k (pairs al) rfl HOa.out (some ⟨w2.heap.size,0,none⟩) 1 1 (pairs [(r,x)]) rfl (fun e=>by cases e) HN.out (pairs_ones _) (by unfold maxLen;omega) om (Nat.le_trans hs2 (by simp)) ?_;intro B1 c1 w3 hown1 hgrow1 hat1;have Hb1:=Lib.hid (HBa.out.grown hgrow1 HBa.out.size (fun k e=>Nat.le_trans (Nat.le_add_right _ _) (own_ge HOa.out k e)));have y1:=HZ1a.out.grown hgrow1 (fun e=>by have:=own_ge HOa.out _ e;omega);have y0:=HZ0a.out.grown hgrow1 (fun e=>by have:=own_ge HOa.out _ e;omega);have hs3:w.heap.size+4≤w3.heap.size:=Nat.le_trans hs2 (Nat.le_trans (by simp) hgrow1.size);have y12:=y1.cell (i:=2) rfl;have y1f:=y1.frozen 2;have Hown1:=Lib.hid hown1;have Y1:=Lib.hid y1;have Y0:=Lib.hid y0;clear hown1 hgrow1 hat1 y1 y0)
          go_roundw
          case rel=>
            refine⟨k+1,e2,al++[(r,x)],B1,c1,om,he2,by go_num,rfl,by simp[hal],HSU.out,Y0.out.set_ne _ (by simp),?_,?_,?_,Hb1.out.setCell (by simp) _⟩
            · have:=Y1.out.set (i:=2) (.slice B1 (k+1) c1);simpa using this
            · refine ownsRow_setCell_below ?_ (by simp) _;have:=Hown1.out;simpa [pairs] using this
            · simpa [World.setCell] using hs3
          case measure=>simp[intOf];omega
      · obtain rfl:k=m:=om;have HF:Hid (decP s.data.toList=if kq≠s.data.toList.length then(.zero,10) else if validP a b al=true then(⟨a,b,al⟩,0) else(.zero,170)):=Lib.hid (by
          rw[HD.out,HST.out,Nat.sub_self];simp[rdAlts,finP])
        have hA:IsAlts wr B k al:=⟨hal,Rd.of_own HOW.out⟩;have HA:=Lib.hid hA;have hfc:=own_facts HOW.out;have d0:=hy0.cell (i:=0) rfl;have d1:=hy0.cell (i:=1) rfl;have d2:=hy0.cell (i:=2) rfl;have f0:=hy0.frozen 0;have f1:=hy0.frozen 1;have f2:=hy0.frozen 2;have k0:=hy1.cell (i:=0) rfl;have k1:=hy1.cell (i:=1) rfl;have k2:=hy1.cell (i:=2) rfl;have HY0:=Lib.hid hy0;have HY1:=Lib.hid hy1;clear hy0 hy1 hA;by_cases hend:kq=s.size
        · subst hend;have HG:Hid (decP s.data.toList=if validP a b al=true then(⟨a,b,al⟩,0) else(.zero,170)):=Lib.hid (by rw[HF.out];simp);go_wp2_with fail;refine(valid_any a b B k c al wr HA.out).mono ?_;rintro e w2 ⟨rfl,b2⟩;have HZ0:=Lib.hid (HY0.out.next b2);have HZ1:=Lib.hid (HY1.out.next b2);have B2:=Lib.hid (bnext hBr b2);have HO2:=Lib.hid (own_below HOW.out b2);have d0:=HZ0.out.cell (i:=0) rfl;have d1:=HZ0.out.cell (i:=1) rfl;have d2:=HZ0.out.cell (i:=2) rfl;have f0:=HZ0.out.frozen 0;have f1:=HZ0.out.frozen 1;have f2:=HZ0.out.frozen 2;have k0:=HZ1.out.cell (i:=0) rfl;have k1:=HZ1.out.cell (i:=1) rfl;have k2:=HZ1.out.cell (i:=2) rfl;by_cases hv:validP a b al=true
          · have HE:Hid (decP s.data.toList=(⟨a,b,al⟩,0)):=Lib.hid (by rw[HG.out,if_pos hv]);rw[hv];go_wp2_with fail;refine ret_dec Tryz.results170 rfl rfl (((HZ0.out.set (i:=0) (.int .i64 a)).set (i:=1) (.int .i64 b)).set (i:=2) (.slice B k c)) rfl ?_;rw[HE.out];subst hal;refine⟨B,c,rfl,⟨rfl,?_⟩,hfc.1,hfc.2.1,hfc.2.2,((B2.out.setCell (by simp) _).setCell (by simp) _).setCell (by simp) _,fun b' off h=>by have:=own_base HO2.out b' off h;omega⟩;refine Rd.of_own (base:=w.heap.size+4) (c:=c) (e:=189) ?_;exact ownsRow_setCell_below (ownsRow_setCell_below (ownsRow_setCell_below HO2.out (by simp) _) (by simp) _) (by simp) _
          · have hv':validP a b al=false:=by simpa using hv
            have HE:Hid (decP s.data.toList=(.zero,170)):=Lib.hid (by rw[HG.out,if_neg hv]);rw[hv'];go_wp2_with fail;refine ret_dec Tryz.results170 rfl rfl (((HZ0.out.set (i:=0) (.int .i64 0)).set (i:=1) (.int .i64 0)).set (i:=2) (.slice none 0 0)) rfl ?_;refine retDec_zero HE.out ?_;exact((B2.out.setCell (by simp) _).setCell (by simp) _).setCell (by simp) _
        · have HE:Hid (decP s.data.toList=(.zero,10)):=Lib.hid (by rw[HF.out,if_pos (by simpa using hend)]);have hend':((kq:Int) == (s.size:Int))=false:=by simp;omega
          go_wp2_with fail;refine ret_dec Tryz.results170 rfl rfl (((HY0.out.set (i:=0) (.int .i64 0)).set (i:=1) (.int .i64 0)).set (i:=2) (.slice none 0 0)) rfl ?_;refine retDec_zero HE.out ?_;exact((hBr.setCell (by simp) _).setCell (by simp) _).setCell (by simp) _
set_option linter.unusedSimpArgs false
section
variable {P:Program}{ρ:Operand→Value}{w:World}{t t':TypeId}{x y:Operand}{dst:Option Tmp}{ty:TypeId}{pos:String}{af:Array Edge}{g:Option (Nat×Bool)}{a b:Int}{k:IntKind}
theorem ex_rem (hx:ρ x=.int k a) (hy:ρ y=.int k b) (hb:b≠0):(execOp ρ ⟨dst,.binOp .rem t x y t',ty,pos,af,g⟩).run P w=.ok (.value (.int k (a.tmod b))) w:=by
 simp[execOp,hx,hy,eqGuard,binOp,Op.intDiv,hb,Sem.run_bind]
theorem ex_quo (hx:ρ x=.int k a) (hy:ρ y=.int k b) (hb:b≠0):(execOp ρ ⟨dst,.binOp .quo t x y t',ty,pos,af,g⟩).run P w=.ok (.value (.int k (k.wrap (a.tdiv b)))) w:=by
 simp[execOp,hx,hy,eqGuard,binOp,Op.intDiv,hb,Sem.run_bind]
end
theorem ex_eq2 {ρ:Operand→Value}{w:World}{x y:Operand}{dst:Option Tmp}{ty:TypeId}{pos:String}{af:Array Edge}{g:Option (Nat×Bool)}{a0 a1 b0 b1:Int}
  (hx:ρ x=.agg #[.int .i64 a0,.int .i64 a1]) (hy:ρ y=.agg #[.int .i64 b0,.int .i64 b1]):(execOp ρ ⟨dst,.binOp .eql 58 x y 58,ty,pos,af,g⟩).run Tryz.prog w=.ok (.value (.bool ((a0 == b0)&&(a1 == b1)))) w:=by
 by_cases h0:a0=b0<;>by_cases h1:a1=b1<;>simp[execOp,hx,hy,go_sem,h0,h1]
def pickI (c n:Int):Int:=(if c<0 then -(c+1) else c)%n
theorem pickI_lt (c n:Int) (hn:0<n):0≤pickI c n∧pickI c n<n:=⟨Int.emod_nonneg _ om,Int.emod_lt_of_pos _ hn⟩
def rateTab:List (Int×Int):=[(24000,1001),(24,1),(25,1),(30000,1001),(30,1),(50,1),(60000,1001),(60,1)]
def rateBase:List (Int×Int):=[(24,0),(24,0),(25,0),(30,2),(30,0),(50,0),(60,4),(60,0)]
def rateOk (n d:Int):Bool:=rateTab.any fun p=>p.1 == n&&p.2 == d
def frameOk (fr:Int):Bool:=decide (0≤fr)&&decide (fr≤100000000)
theorem frameOk_of {fr:Int}(h:0≤fr∧fr≤100000000):frameOk fr=true:=by simp[frameOk,h]
def ticksP (n d fr:Int):Int:=fr*90000*d/n%8589934592
theorem rateOk_bd {n d:Int}(h:rateOk n d=true):24≤n∧n≤60000∧1≤d∧d≤1001:=by
 simp[rateOk,rateTab] at h;omega
theorem take_tab:∀j,j<8→rateTab.take (j+1)=rateTab.take j++[rateTab.getD j (0,0)]:=by decide
theorem any_snoc {n d:Int}{j:Nat}(hj:j<8) (h:(rateTab.take j).any (fun p=>p.1 == n&&p.2 == d)=false) (hx:(((rateTab.getD j (0,0)).1 == n)&&((rateTab.getD j (0,0)).2 == d))=false):(rateTab.take (j+1)).any (fun p=>p.1 == n&&p.2 == d)=false:=by
 rw[take_tab j hj,List.any_append,h];simpa using hx
theorem rateOk_hit {n d:Int}{j:Nat}(hj:j<8) (hx:(((rateTab.getD j (0,0)).1 == n)&&((rateTab.getD j (0,0)).2 == d))=true):rateOk n d=true:=by
 unfold rateOk;rw[List.any_eq_true];have:∀j,j<8→rateTab.getD j (0,0)∈rateTab:=by decide
 exact⟨_,this j hj,hx⟩
theorem rateOk_no {n d:Int}{j:Nat}(hj:8≤j) (h:(rateTab.take j).any (fun p=>p.1 == n&&p.2 == d)=false):rateOk n d=false:=by
 rw[List.take_of_length_le (show rateTab.length≤j from hj)] at h;exact h
theorem laid_rates {w:World}(h:Laid w):cellsAt w 0 0 [(.int .i64 24000),(.int .i64 1001),(.int .i64 24),(.int .i64 0),(.int .i64 24),(.int .i64 1),(.int .i64 24),(.int .i64 0),(.int .i64 25),(.int .i64 1),(.int .i64 25),(.int .i64 0),(.int .i64 30000),(.int .i64 1001),(.int .i64 30),(.int .i64 2),(.int .i64 30),(.int .i64 1),(.int .i64 30),(.int .i64 0),(.int .i64 50),(.int .i64 1),(.int .i64 50),(.int .i64 0),(.int .i64 60000),(.int .i64 1001),(.int .i64 60),(.int .i64 4),(.int .i64 60),(.int .i64 1),(.int .i64 60),(.int .i64 0)]:=fun i x hx=>by
 match i,hx with
 |0,hx=>cases hx;exact h.rates 0 om
 |1,hx=>cases hx;exact h.rates 1 om
 |2,hx=>cases hx;exact h.rates 2 om
 |3,hx=>cases hx;exact h.rates 3 om
 |4,hx=>cases hx;exact h.rates 4 om
 |5,hx=>cases hx;exact h.rates 5 om
 |6,hx=>cases hx;exact h.rates 6 om
 |7,hx=>cases hx;exact h.rates 7 om
 |8,hx=>cases hx;exact h.rates 8 om
 |9,hx=>cases hx;exact h.rates 9 om
 |10,hx=>cases hx;exact h.rates 10 om
 |11,hx=>cases hx;exact h.rates 11 om
 |12,hx=>cases hx;exact h.rates 12 om
 |13,hx=>cases hx;exact h.rates 13 om
 |14,hx=>cases hx;exact h.rates 14 om
 |15,hx=>cases hx;exact h.rates 15 om
 |16,hx=>cases hx;exact h.rates 16 om
 |17,hx=>cases hx;exact h.rates 17 om
 |18,hx=>cases hx;exact h.rates 18 om
 |19,hx=>cases hx;exact h.rates 19 om
 |20,hx=>cases hx;exact h.rates 20 om
 |21,hx=>cases hx;exact h.rates 21 om
 |22,hx=>cases hx;exact h.rates 22 om
 |23,hx=>cases hx;exact h.rates 23 om
 |24,hx=>cases hx;exact h.rates 24 om
 |25,hx=>cases hx;exact h.rates 25 om
 |26,hx=>cases hx;exact h.rates 26 om
 |27,hx=>cases hx;exact h.rates 27 om
 |28,hx=>cases hx;exact h.rates 28 om
 |29,hx=>cases hx;exact h.rates 29 om
 |30,hx=>cases hx;exact h.rates 30 om
 |31,hx=>cases hx;exact h.rates 31 om
 |i+32,hx=>simp at hx
def encStr (l:List UInt8):List UInt8:=encInt ((l.length:Nat):Int)++l
def rdStr (l:List UInt8) (k:Nat):Option (List UInt8×Nat):=
 match rdInt l k with
 |none=>none
 |some (n,e)=>if n<0∨65536<n∨((l.length:Nat):Int)-((e:Nat):Int)<n then none else some ((l.drop e).take n.toNat,e+n.toNat)
def str3:Option (List UInt8×Nat)→Value
 |none=>.tuple #[.string (bstr []),.int .i64 0,.int .i64 10]
 |some (t,e)=>.tuple #[.string (bstr t),.int .i64 ((e:Nat):Int),.int .i64 0]
theorem pick_any (c n:Int) (w:World) (hc:-9223372036854775808≤c∧c≤9223372036854775807) (hn:0<n):
  Calls Tryz.prog 18 #[.int .i64 c,.int .i64 n] w fun e w'=>e=.returned (ii (pickI c n))∧w=w':=by
 have HP:=Hp.start w;refine w_enter 13 [(0,(ii c)),(1,(ii n))] Tryz.func18 rfl Tryz.ntmps18 kr kr fun a H=>zq<|H.gz HP [(4,zO)] fun a H=>zsq<|zq<|H.gz HP [(5,(ii c)),(6,(.bool (decide (c<0))))] fun a H=>w_if H rfl (fun g6=>?_) (fun g6=>?_)
 ·have g6p:=of_decide_eq_true g6;refine zrg<|H.gn HP 1 [(7,(ii c))] fun a H=>H.wi 8 (c+1) fun a H=>H.valE 9 (ii (IntKind.i64.wrap (0-(c+1)))) (ii (-(c+1))) kr kr (by rw[Int.zero_sub,wrap_ini64 _ om]) fun a H=>H.gz HP [(0,(ii (-(c+1))))] fun a H=>zq<|H.gn HP 2 [(10,(ii (-(c+1)))),(11,(ii n))] fun a H=>H.valE 12 (ii ((-(c+1)).tmod n)) (ii ((-(c+1))%n)) kr (ex_rem (k:=.i64) kr kr om) (by rw[tmod_nn _ _ om]) fun a H=>H.gz HP [(4,(ii ((-(c+1))%n)))] fun a H=>zrt<|H.r1 (ii ((-(c+1))%n)) Tryz.results18 ?_;exact⟨by unfold pickI;rw[if_pos om],rfl⟩
 have g6p:=of_decide_eq_false g6;refine zsk<|zt<|H.gn HP 2 [(10,(ii c)),(11,(ii n))] fun a H=>H.valE 12 (ii (c.tmod n)) (ii (c%n)) kr (ex_rem (k:=.i64) kr kr om) (by rw[tmod_nn _ _ om]) fun a H=>H.gz HP [(4,(ii (c%n)))] fun a H=>zrt<|H.r1 (ii (c%n)) Tryz.results18 ?_;exact⟨by unfold pickI;rw[if_neg om],rfl⟩
theorem isFrame_any (fr:Int) (w:World):
  Calls Tryz.prog 136 #[.int .i64 fr] w fun e w'=>e=.returned (.bool (frameOk fr))∧w=w':=by
 have HP:=Hp.start w;refine w_enter 9 [(0,(ii fr))] Tryz.func136 rfl Tryz.ntmps136 kr kr fun a H=>zq<|H.gz HP [(2,zF)] fun a H=>zq<|H.gn HP 3 [(3,(ii fr)),(4,(.bool (decide (fr≥0)))),(5,(.bool (decide (fr≥0))))] fun a H=>H.split 5 rfl (fun g5 H=>?_) (fun g5 H=>?_)
 ·have g5p:=of_decide_eq_true g5;refine H.gz HP [(2,(.bool (decide (fr≤100000000))))] fun a H=>zrt<|H.r1 (.bool (decide (fr≤100000000))) Tryz.results136 ?_;exact⟨by unfold frameOk;simp;omega,rfl⟩
 have g5p:=of_decide_eq_false g5;refine H.gz HP [(2,zF)] fun a H=>zrt<|H.r1 zF Tryz.results136 ?_;exact⟨by unfold frameOk;simp;omega,rfl⟩
theorem risFrame_any (fr:Int) (w:World):
  Calls Tryz.prog 195 #[.int .i64 fr] w fun e w'=>e=.returned (.bool (frameOk fr))∧w=w':=by
 have HP:=Hp.start w;refine w_enter 9 [(0,(ii fr))] Tryz.func195 rfl Tryz.ntmps195 kr kr fun a H=>zq<|H.gz HP [(2,zF)] fun a H=>zq<|H.gn HP 3 [(3,(ii fr)),(4,(.bool (decide (fr≥0)))),(5,(.bool (decide (fr≥0))))] fun a H=>H.split 5 rfl (fun g5 H=>?_) (fun g5 H=>?_)
 ·have g5p:=of_decide_eq_true g5;refine H.gz HP [(2,(.bool (decide (fr≤100000000))))] fun a H=>zrt<|H.r1 (.bool (decide (fr≤100000000))) Tryz.results195 ?_;exact⟨by unfold frameOk;simp;omega,rfl⟩
 have g5p:=of_decide_eq_false g5;refine H.gz HP [(2,zF)] fun a H=>zrt<|H.r1 zF Tryz.results195 ?_;exact⟨by unfold frameOk;simp;omega,rfl⟩
theorem find_any (n d:Int) (w:World) (hL:Laid w):
  Calls Tryz.prog 83 #[.agg #[.int .i64 n,.int .i64 d]] w fun e w'=>∃i0 i1 i2 i3,e=.returned (.tuple #[.agg #[.int .i64 i0,.int .i64 i1,.int .i64 i2,.int .i64 i3],.bool (rateOk n d)])∧Below w.heap.size w w':=by
 have HP:=Hp.start w
 refine w_enter 17 [(0,(.agg #[(ii n),(ii d)]))] Tryz.func83 rfl Tryz.ntmps83 kr kr fun a H=>zq<|H.al HP 1 58 [(ii n),(ii d)] fun b_1 w_2 a H HP=>H.al HP 2 175 zcb fun b_3 w_4 a H HP=>H.gz HP [(3,zF)] fun a H=>zsq<|zq<|H.u 6 (.agg zc7) (ex_lN zc4 (laid_rates (hL.below HP.bl))) fun a H=>H.gz HP [(7,zO)] fun a H=>zbk<|w_loop (fun mm a wv=>∃(j:Nat),8-j=mm∧Sl 17 [(7,(ii j)),(6,(.agg zc7)),(1,(pt b_1 0)),(2,(pt b_3 0)),(3,zF)] a∧Hp w wv [bx b_3 175 zcb true,bx b_1 58 [(ii n),(ii d)] true] []∧(j≤8)∧((rateTab.take j).any (fun p=>p.1 == n&&p.2 == d)=false)) (8-0) ?_ ?_
 ·exact⟨0,om,H.keep kr,HP,om,rfl⟩
 rintro mm a w_5 ⟨j,hmeas,H,HP,hj,hno⟩;refine zq<|H.gz HP [(8,(.bool (decide ((j:Int)<8))))] fun a H=>zsq<|w_if H rfl (fun g8=>?_) (fun g8=>?_)
 ·have g8p:=of_decide_eq_true g8;refine zsk (ztn (zsq (zbk (zsq ?_))));have hj8:j=0∨j=1∨j=2∨j=3∨j=4∨j=5∨j=6∨j=7:=om
  refine zrg<|H.u 9 (.agg #[(ii ((rateTab.getD j (0,0)).1)),(ii ((rateTab.getD j (0,0)).2)),(ii ((rateBase.getD j (0,0)).1)),(ii ((rateBase.getD j (0,0)).2))]) (by rcases hj8 with rfl|rfl|rfl|rfl|rfl|rfl|rfl|rfl<;>kernel_rfl) fun a H=>H.al HP 5 175 zcb fun b_6 w_7 a H HP=>H.sh HP 0 0 (.agg #[(ii ((rateTab.getD j (0,0)).1)),(ii ((rateTab.getD j (0,0)).2)),(ii ((rateBase.getD j (0,0)).1)),(ii ((rateBase.getD j (0,0)).2))]) rfl fun w_8 a H HP=>znl<|zt<|H.go HP 3 [(11,(.agg #[(ii ((rateTab.getD j (0,0)).1)),(ii ((rateTab.getD j (0,0)).2))])),(12,(.agg #[(ii n),(ii d)]))] [0,2] fun a H=>H.u 13 (.bool ((((rateTab.getD j (0,0)).1) == n)&&(((rateTab.getD j (0,0)).2) == d))) (ex_eq2 (a0:=((rateTab.getD j (0,0)).1)) (a1:=((rateTab.getD j (0,0)).2)) (b0:=n) (b1:=d) kr kr) fun a H=>znl<|ztn<|w_if H rfl (fun g13=>?_) (fun g13=>?_)
  ·have g13p:=g13;refine zq<|H.go HP 1 [(14,(.agg #[(ii ((rateTab.getD j (0,0)).1)),(ii ((rateTab.getD j (0,0)).2)),(ii ((rateBase.getD j (0,0)).1)),(ii ((rateBase.getD j (0,0)).2))]))] [0] fun a H=>H.sh HP 1 0 (.agg #[(ii ((rateTab.getD j (0,0)).1)),(ii ((rateTab.getD j (0,0)).2)),(ii ((rateBase.getD j (0,0)).1)),(ii ((rateBase.getD j (0,0)).2))]) rfl fun w_9 a H HP=>H.gz HP [(3,zT)] fun a H=>zrt<|zibr<|ztr<|ztr<|zibr<|ztr<|H.ret2 (fn:=Tryz.f83) Tryz.results83 (RV.cellN (vs:=[(ii ((rateTab.getD j (0,0)).1)),(ii ((rateTab.getD j (0,0)).2)),(ii ((rateBase.getD j (0,0)).1)),(ii ((rateBase.getD j (0,0)).2))]) (b:=b_3) (off:=0) (k:=4) kr kr kr rfl (HP.cells 1 rfl 0 4 kr)) (RV.tmp_ (v:=zT) kr) ?_;exact⟨_,_,_,_,by rw[rateOk_hit (j:=j) om g13],HP.bl⟩
  have g13p:=g13;refine zsk<|zibn<|ztn<|zrg<|H.wi 15 ((j:Int)+1) fun a H=>H.ge HP [(7,(ii ((j:Int)+1)))] [] fun a H=>ztn ?_;have H:=H.as 7 (ii ((j+1:Nat):Int)) rfl rfl;refine⟨_,?_,j+1,rfl,H.keep kr,HP.t1,om,any_snoc om hno g13⟩;omega
 have g8p:=of_decide_eq_false g8;refine wp_exit<|then_exit<|then_exit<|w_exit_here<|zt<|H.gn HP 1 [(16,(.agg #[zO,zO,zO,zO]))] fun a H=>H.sh HP 0 0 (.agg #[zO,zO,zO,zO]) rfl fun w_10 a H HP=>H.gz HP [(3,zF)] fun a H=>zrt<|H.ret2 (fn:=Tryz.f83) Tryz.results83 (RV.cellN (vs:=zcb) (b:=b_3) (off:=0) (k:=4) kr kr kr rfl (HP.cells 0 rfl 0 4 kr)) (RV.tmp_ (v:=zF) kr) ?_;exact⟨_,_,_,_,by rw[rateOk_no (j:=j) om hno],HP.bl⟩
theorem tvalid_any (n d:Int) (w:World) (hL:Laid w):
  Calls Tryz.prog 49 #[.agg #[.int .i64 n,.int .i64 d]] w fun e w'=>e=.returned (.bool (rateOk n d))∧Below w.heap.size w w':=by
 have HP:=Hp.start w;refine w_enter 11 [(0,(.agg #[(ii n),(ii d)]))] Tryz.func49 rfl Tryz.ntmps49 kr kr fun a H=>zq<|H.al HP 1 58 [(ii n),(ii d)] fun b_1 w_2 a H HP=>H.gz HP [(2,zF)] fun a H=>zq<|H.go HP 1 [(6,(.agg #[(ii n),(ii d)]))] [0] fun a H=>H.cl 7 (Tryz.call83 _ _) (find_any n d w_2 (hL.below HP.bl)) ?_;rintro e w_3 ⟨i0,i1,i2,i3,rfl,hb⟩;refine⟨_,rfl,?_⟩;intro a H;have HP:=HP.next hb
 refine H.gn HP 3 [(5,(.tuple #[(.agg #[(ii i0),(ii i1),(ii i2),(ii i3)]),(.bool (rateOk n d))])),(8,(.agg #[(ii i0),(ii i1),(ii i2),(ii i3)])),(9,(.bool (rateOk n d)))] fun a H=>H.al HP 3 175 zcb fun b_4 w_5 a H HP=>H.sh HP 0 0 (.agg #[(ii i0),(ii i1),(ii i2),(ii i3)]) rfl fun w_6 a H HP=>H.gz HP [(4,(.bool (rateOk n d)))] fun a H=>zq<|H.gz HP [(2,(.bool (rateOk n d)))] fun a H=>zrt<|H.r1 (.bool (rateOk n d)) Tryz.results49 ?_;exact⟨rfl,HP.bl⟩
theorem ticks_any (n d fr:Int) (w:World) (hL:Laid w) (hv:rateOk n d=true) (hf:0≤fr∧fr≤100000000):
  Calls Tryz.prog 87 #[.agg #[.int .i64 n,.int .i64 d],.int .i64 fr] w fun e w'=>e=.returned (ii (ticksP n d fr))∧Below w.heap.size w w':=by
 have HP:=Hp.start w;refine w_enter 22 [(0,(.agg #[(ii n),(ii d)])),(1,(ii fr))] Tryz.func87 rfl Tryz.ntmps87 kr kr fun a H=>zq<|H.al HP 2 58 [(ii n),(ii d)] fun b_1 w_2 a H HP=>H.gz HP [(4,zO)] fun a H=>zsq<|zq<|H.go HP 1 [(5,(.agg #[(ii n),(ii d)]))] [0] fun a H=>H.cb HP 6 (Tryz.call49 _ _) (by have hh:=tvalid_any n d w_2 (hL.below HP.bl);rw[hv] at hh;exact hh) fun w_3 hb a H HP=>H.gn HP 3 [(8,zF),(9,(ii fr))] fun a H=>H.cl 10 (Tryz.call136 _ _) (by have hh:=isFrame_any fr w_3;rw[frameOk_of hf] at hh;exact hh) ?_;rintro e w_4 ⟨rfl,hw⟩;refine⟨_,rfl,?_⟩;intro a H;have HP:=hw ▸ HP;refine H.gz HP [(12,zF)] fun a H=>w_iff H rfl<|zsk (ztn (zsq ?_));obtain⟨rn1,rn2,rd1,rd2⟩:=rateOk_bd hv;have hm1:0≤fr*90000*d:=Int.mul_nonneg om om;have hm2:fr*90000*d≤9000000000000*1001:=Int.mul_le_mul om om om om;have hm3:0≤fr*90000*d/n:=Int.ediv_nonneg hm1 om
 have hm4:fr*90000*d/n≤fr*90000*d:=Int.ediv_le_self _ hm1;refine zrg<|H.gn HP 1 [(13,(ii fr))] fun a H=>H.wi 14 (fr*90000) fun a H=>H.go HP 2 [(16,(ii d))] [0] fun a H=>H.valE 17 (ii (IntKind.i64.wrap ((fr*90000)*d))) (ii (fr*90000*d)) kr kr (by rw[wrap_ini64 _ om]) fun a H=>H.go HP 2 [(19,(ii n))] [0] fun a H=>H.valE 20 (ii (IntKind.i64.wrap ((fr*90000*d).tdiv n))) (ii (fr*90000*d/n)) kr (ex_quo (k:=.i64) kr kr om) (congrArg (Value.int .i64) (by rw[tdiv_nn _ _ om,wrap_ini64 _ om])) fun a H=>H.valE 21 (ii ((fr*90000*d/n).tmod 8589934592)) (ii ((fr*90000*d/n)%8589934592)) kr kr (by rw[tmod_nn _ _ om]) fun a H=>H.gz HP [(4,(ii ((fr*90000*d/n)%8589934592)))] fun a H=>zrt<|H.r1 (ii ((fr*90000*d/n)%8589934592)) Tryz.results87 ?_;exact⟨rfl,HP.bl⟩
theorem table_any (w:World):
  Calls Tryz.prog 166 #[] w fun e w'=>∃b,e=.returned (sB b 8 8)∧w.heap.size≤b∧Box w' b 224 zc4.toArray∧Below w.heap.size w w':=by
 have HP:=Hp.start w
 refine w_enter 18 [] Tryz.func166 rfl Tryz.ntmps166 kr kr fun a H=>zq<|H.gz HP [(0,zN)] fun a H=>zq<|H.gn HP 16 [(1,(.agg #[(ii 24000),(ii 1001)])),(2,(.agg #[(ii 24000),(ii 1001),(ii 24),zO])),(3,(.agg #[(ii 24),(ii 1)])),(4,(.agg #[(ii 24),(ii 1),(ii 24),zO])),(6,(.agg #[(ii 25),(ii 1),(ii 25),zO])),(8,(.agg #[(ii 30000),(ii 1001),(ii 30),(ii 2)])),(10,(.agg #[(ii 30),(ii 1),(ii 30),zO])),(12,(.agg #[(ii 50),(ii 1),(ii 50),zO])),(14,(.agg #[(ii 60000),(ii 1001),(ii 60),(ii 4)])),(16,(.agg #[(ii 60),(ii 1),(ii 60),zO]))] fun a H=>H.alloc HP 17 (fun b=>(sB b 8 8)) 224 zc4 kr (fun w=>kr) fun b_1 w_2 a H HP=>H.gz HP [(0,(sB b_1 8 8))] fun a H=>zrt<|H.r1 (sB b_1 8 8) Tryz.results166 ?_
 exact⟨b_1,rfl,HP.fresh _ (List.mem_of_getElem? (i:=0) rfl) rfl _ rfl,HP.at_ 0 rfl,HP.bl⟩
theorem putString_any (l:List UInt8) (w:World) (hl:l.length≤65536):
  Calls Tryz.prog 141 #[.string (bstr l)] w fun e w'=>e=.returned (.tuple #[.string (bstr (encStr l)),.int .i64 0])∧Below w.heap.size w w':=by
 have HP:=Hp.start w;refine w_enter 21 [(0,(sS l))] Tryz.func141 rfl Tryz.ntmps141 kr kr fun a H=>zq<|H.gz HP [(2,zS),(3,zO)] fun a H=>zsq<|zq<|H.gz HP [(8,(.bool (decide ((l.length:Int)>65536))))] fun a H=>w_if H rfl (fun g8=>?_) (fun g8=>?_)
 ·have g8p:=of_decide_eq_true g8;exfalso;omega
 have g8p:=of_decide_eq_false g8;refine zsk<|zt<|H.gn HP 2 [(11,(ii l.length))] fun a H=>H.cb HP 12 (Tryz.call138 _ _) (putInt_any (l.length:Int) w (by unfold wmax;omega) (by unfold wmax;omega)) fun w_1 hb a H HP=>H.gz HP [(4,(sS (encInt (l.length:Int)))),(5,zO)] fun a H=>zsq<|zq<|H.gz HP [(16,zF)] fun a H=>w_iff H rfl<|zsk<|zt<|H.gn HP 2 [(18,(sS (encInt (l.length:Int)))),(19,(sS l))] fun a H=>H.u 20 (sS ((encInt (l.length:Int))++l)) (ex_sadd kr kr (by have:=(encInt_len (l.length:Int)).2;omega)) fun a H=>H.gz HP [(2,(sS ((encInt (l.length:Int))++l))),(3,zO)] fun a H=>zrt<|H.ret2 (fn:=Tryz.f141) Tryz.results141 (RV.tmp_ (v:=(sS ((encInt (l.length:Int))++l))) kr) (RV.tmp_ (v:=zO) kr) ?_;exact⟨rfl,HP.bl⟩
theorem string_none (l:List UInt8) (k:Nat) (w:World) (hl:l.length≤9000000000000000000) (hk:k≤l.length) (hR:rdInt l k=none):
  Calls Tryz.prog 191 #[.string (bstr l),.int .i64 k] w fun e w'=>e=.returned (str3 none)∧w=w':=by
 have HP:=Hp.start w;refine w_enter 43 [(0,(sS l)),(1,(ii k))] Tryz.func191 rfl Tryz.ntmps191 kr kr fun a H=>zq<|H.gz HP [(4,zS),(5,zO),(6,zO)] fun a H=>zq<|H.gn HP 2 [(11,(sS l)),(12,(ii k))] fun a H=>H.cl 13 (Tryz.call190 _ _) (by have hh:=wint_any (bstr l) k w hl hk;rw[show (bstr l).data.toList=l from rfl,hR] at hh;exact hh) ?_;rintro e w_1 ⟨rfl,hw⟩;refine⟨_,rfl,?_⟩;intro a H;have HP:=hw ▸ HP;refine H.gz HP [(7,zO),(8,zO),(9,(ii 10))] fun a H=>zsq<|zq<|H.gz HP [(18,zT)] fun a H=>w_ift H rfl<|zq<|H.gz HP [(4,zS),(5,zO),(6,(ii 10))] fun a H=>zrt<|ztr<|H.ret3 (fn:=Tryz.f191) Tryz.results191 (RV.tmp_ (v:=zS) kr) (RV.tmp_ (v:=zO) kr) (RV.tmp_ (v:=(ii 10)) kr) ?_;exact⟨rfl,hw⟩
theorem string_some (l:List UInt8) (k:Nat) (w:World) (hl:l.length≤9000000000000000000) (hk:k≤l.length) (n:Int) (e:Nat) (hR:rdInt l k=some (n,e)):
  Calls Tryz.prog 191 #[.string (bstr l),.int .i64 k] w fun e w'=>e=.returned (str3 (rdStr l k))∧w=w':=by
 obtain⟨hc1,hc2,hc3,hc4,_⟩:=rdInt_canon hk hR;unfold wmax at hc1 hc2;have HP:=Hp.start w;refine w_enter 43 [(0,(sS l)),(1,(ii k))] Tryz.func191 rfl Tryz.ntmps191 kr kr fun a H=>zq<|H.gz HP [(4,zS),(5,zO),(6,zO)] fun a H=>zq<|H.gn HP 2 [(11,(sS l)),(12,(ii k))] fun a H=>H.cl 13 (Tryz.call190 _ _) (by have hh:=wint_any (bstr l) k w hl hk;rw[show (bstr l).data.toList=l from rfl,hR] at hh;exact hh) ?_;rintro e w_1 ⟨rfl,hw⟩;refine⟨_,rfl,?_⟩;intro a H;have HP:=hw ▸ HP;refine H.gz HP [(7,(ii n)),(8,(ii e)),(9,zO)] fun a H=>zsq<|zq<|H.gz HP [(18,zF)] fun a H=>w_iff H rfl<|zsk<|ztn<|zsq<|zq<|H.gn HP 3 [(22,(.bool (decide (n<0))))] fun a H=>H.split 22 rfl (fun g22 H=>?_) (fun g22 H=>?_)
 ·have g22p:=of_decide_eq_true g22;refine H.gz HP [(33,zT)] fun a H=>w_ift H rfl<|zq<|H.gz HP [(4,zS),(5,zO),(6,(ii 10))] fun a H=>zrt<|ztr<|H.ret3 (fn:=Tryz.f191) Tryz.results191 (RV.tmp_ (v:=zS) kr) (RV.tmp_ (v:=zO) kr) (RV.tmp_ (v:=(ii 10)) kr) ?_;exact⟨by unfold rdStr;rw[hR];simp only;rw[if_pos om];rfl,hw⟩
 have g22p:=of_decide_eq_false g22;refine H.gn HP 4 [(26,(.bool (decide (n>65536))))] fun a H=>H.split 26 rfl (fun g26 H=>?_) (fun g26 H=>?_)
 ·have g26p:=of_decide_eq_true g26;refine H.gz HP [(33,zT)] fun a H=>w_ift H rfl<|zq<|H.gz HP [(4,zS),(5,zO),(6,(ii 10))] fun a H=>zrt<|ztr<|H.ret3 (fn:=Tryz.f191) Tryz.results191 (RV.tmp_ (v:=zS) kr) (RV.tmp_ (v:=zO) kr) (RV.tmp_ (v:=(ii 10)) kr) ?_;exact⟨by unfold rdStr;rw[hR];simp only;rw[if_pos om];rfl,hw⟩
 have g26p:=of_decide_eq_false g26;refine H.gn HP 4 [(27,(ii n)),(29,(ii l.length)),(30,(ii e))] fun a H=>H.wi 31 ((l.length:Int)-(e:Int)) fun a H=>H.gz HP [(33,(.bool (decide (n>((l.length:Int)-(e:Int))))))] fun a H=>w_if H rfl (fun g33=>?_) (fun g33=>?_)
 ·have g33p:=of_decide_eq_true g33;refine zq<|H.gz HP [(4,zS),(5,zO),(6,(ii 10))] fun a H=>zrt<|ztr<|H.ret3 (fn:=Tryz.f191) Tryz.results191 (RV.tmp_ (v:=zS) kr) (RV.tmp_ (v:=zO) kr) (RV.tmp_ (v:=(ii 10)) kr) ?_;exact⟨by unfold rdStr;rw[hR];simp only;rw[if_pos om];rfl,hw⟩
 have g33p:=of_decide_eq_false g33;refine zsk (ztn (zsq ?_));obtain⟨m,rfl⟩:∃m:Nat,n=m:=⟨n.toNat,om⟩
 refine zrg<|H.gn HP 4 [(34,(sS l)),(35,(ii e)),(36,(ii e)),(37,(ii m))] fun a H=>H.valE 38 (ii (IntKind.i64.wrap ((e:Int)+(m:Int)))) (ii ((e+m:Nat):Int)) kr kr (congrArg (Value.int .i64) (by rw[wrap_ini64 _ om];omega)) fun a H=>H.u 39 (sS ((l.drop e).take ((e+m)-e))) (ex_sslice (k:=.i64) (kk:=.i64) (l:=l) (i:=(e:Int)) (j:=((e+m:Nat):Int)) (a:=e) (b:=(e+m)) kr kr kr kr om om om om) fun a H=>H.gn HP 2 [(40,(ii e)),(41,(ii m))] fun a H=>H.valE 42 (ii (IntKind.i64.wrap ((e:Int)+(m:Int)))) (ii ((e+m:Nat):Int)) kr kr (congrArg (Value.int .i64) (by rw[wrap_ini64 _ om];omega)) fun a H=>H.gz HP [(4,(sS ((l.drop e).take ((e+m)-e)))),(5,(ii ((e+m:Nat):Int))),(6,zO)] fun a H=>zrt<|H.ret3 (fn:=Tryz.f191) Tryz.results191 (RV.tmp_ (v:=(sS ((l.drop e).take ((e+m)-e)))) kr) (RV.tmp_ (v:=(ii ((e+m:Nat):Int))) kr) (RV.tmp_ (v:=zO) kr) ?_
 exact⟨by unfold rdStr;rw[hR];simp only;rw[if_neg om];simp only[Int.toNat_natCast,Nat.add_sub_cancel_left,str3],hw⟩
theorem string_any (l:List UInt8) (k:Nat) (w:World) (hl:l.length≤9000000000000000000) (hk:k≤l.length):
  Calls Tryz.prog 191 #[.string (bstr l),.int .i64 k] w fun e w'=>e=.returned (str3 (rdStr l k))∧w=w':=by
 cases hR:rdInt l k with
 |none=>
  have e:rdStr l k=none:=by unfold rdStr;rw[hR]
  rw[e];exact string_none l k w hl hk hR
 |some p=>exact string_some l k w hl hk p.1 p.2 hR
open Go.Shelf
def bldG (T e:TypeId) (base b:Nat) (v:Value) (bs:List UInt8):HB:=
  ⟨fun k=>k=b∨v.ownBlock=some k,fun w=>base≤b∧(∃p,(p=.pointer none∨p=.pointer (some ⟨b,0,none⟩))∧w.heap[b]? =some (.cells #[p,v] T (0,0)))∧w.ownsRowF base e 1 v bs.length (Lib.byteCells bs)∧v.ownBlock≠some b,true,none,fun _ _ h=>by cases h⟩
abbrev bldR (base b:Nat) (v:Value) (bs:List UInt8):HB:=bldG 138 5 base b v bs
theorem ownF_keep {w1 w2:World}{base:Nat}{e:TypeId}{size n:Nat}{v:Value}{xs:List Value}(h:w1.ownsRowF base e size v n xs) (hk:∀k,v.ownBlock=some k→w2.heap[k]? =w1.heap[k]?):w2.ownsRowF base e size v n xs:=by
  refine⟨h.1,?_⟩;rcases h.2 with h2|⟨g,cap,cur,fz,hv,hb,hg,r⟩
  · exact .inl h2
  · exact .inr ⟨g,cap,cur,fz,hv,hb,(hk g (by rw[hv];rfl)).trans hg,r⟩
theorem bldG_ok (T e:TypeId) (base b:Nat) (v:Value) (bs:List UInt8):(bldG T e base b v bs).ok:=fun w1 w2 h hk _=>by
  obtain⟨h1,⟨p,hp,hb⟩,h3,h4⟩:=h
  exact⟨h1,⟨p,hp,(hk b (.inl rfl)).trans hb⟩,ownF_keep h3 fun k hv=>hk k (.inr hv),h4⟩
theorem bldG_lt {T e:TypeId}{base b:Nat}{v:Value}{bs:List UInt8}{w:World}(h:(bldG T e base b v bs).F w):∀k,(bldG T e base b v bs).fp k→k<w.heap.size:=by
  obtain⟨h1,⟨p,hp,hb⟩,h3,h4⟩:=h;intro k hk;rcases hk with rfl|hk
  · exact(Array.getElem?_eq_some_iff.1 hb).1
  · exact(h3.lt k hk).2
theorem Hp.toBld {w0 w:World}{L:List HB}{K:List FK}(H:Hp w0 w L K) (i:Nat) {b:Nat}{T:TypeId}(e:TypeId) (hi:L[i]? =some (bx b T [.pointer none,.slice none 0 0] true)) (L':List HB) (hL:L.set i (bldG T e w0.heap.size b (.slice none 0 0) [])=L'):Hp w0 w L' K:=by
  have hb:=H.at_ i hi;have hf:=H.fresh _ (List.mem_of_getElem? hi) rfl b rfl;refine H.mut i hi _ L' hL ⟨rfl,rfl,rfl,Nat.le_refl _,fun _ _ _=>rfl⟩ ⟨hf,⟨_,.inl rfl,hb⟩,World.ownsRowF_nil _ _ _ _,by simp[Value.ownBlock]⟩ (bldG_ok _ _ _ _ _ _) (fun k hk=>?_) (fun k hk=>?_) (fun k hk _=>.inl (by
    rename_i hx;exact hx)) rfl
  · rcases hk with rfl|hk
    · exact hb.lt
    · cases hk
  · rcases hk with rfl|hk
    · exact .inl rfl
    · cases hk
theorem Hp.wrote {w0 w w':World}{L:List HB}{K:List FK}(H:Hp w0 w L K) (i:Nat) {T e:TypeId}{b:Nat}{v v':Value}{bs bs':List UInt8}(hi:L[i]? =some (bldG T e w0.heap.size b v bs)) (L':List HB) (hL:L.set i (bldG T e w0.heap.size b v' bs')=L') (hF:(bldG T e w0.heap.size b v' bs').F w') (hag:Agree w w' (bldG T e w0.heap.size b v bs).fp) (hv:∀k,v'.ownBlock=some k→v.ownBlock=some k∨w.heap.size≤k):Hp w0 w' L' K:=by
  refine H.mut i hi _ L' hL hag hF (bldG_ok _ _ _ _ _ _) (bldG_lt hF) (fun k hk=>?_) (fun k hk hx=>?_) rfl
  · rcases hk with rfl|hk
    · exact .inl (.inl rfl)
    · rcases hv k hk with h|h
      · exact .inl (.inr h)
      · exact .inr h
  · have:=H.fresh _ (List.mem_of_getElem? hi) rfl k hx;omega
section
variable {P:Program}(w:World)
theorem run_append_strF (base:Nat) (t u ty e:TypeId) (i:TypeInfo) (ht:P.underlying t=some (.slice e)) (hu:P.underlying u=some .string) (hi:P.info? e=some i) (hz:i.zero=some (.int .u8 0))
    (hsize:i.size=1) (hby:i.bytes=1)
    (v:Value) (n:Nat) (xs:List Value) (hown:w.ownsRowF base e 1 v n xs) (s:ByteArray)
    (h63:n+s.size≤maxLen) (hbytes:n+s.size≤140737488355328) (hbase:base≤w.heap.size):
    ∃v' w',(Builtin.append_ #[t,u] ty #[v,.string s]).run P w=.ok v' w'∧w'.ownsRowF base e 1 v' (n+s.size) (xs++Lib.strCells s)∧w.grownBy w' v.ownBlock∧∀k,v'.ownBlock=some k→v.ownBlock=some k∨w.heap.size≤k:=by
  rcases hown.2 with⟨rfl,rfl⟩|⟨g,cap,cur,fz,rfl,hbg,hg,hfz,hnc,hcm,hcs,htake⟩
  · obtain⟨v',w',h1,h2,h3,h4⟩:=Lib.run_append_own_stringF (P:=P) w w.heap.size t u ty e i ht hu hi hz hsize hby (.slice none 0 0) 0 xs ⟨hown.1,.inl ⟨rfl,rfl⟩⟩ s h63 hbytes (Nat.le_refl _);refine⟨v',w',h1,⟨h2.1,?_⟩,h3,fun k hk=>.inr (h2.lt k hk).1⟩;rcases h2.2 with h2|⟨g,cap,cur,fz,hv,hb,r⟩
    · exact .inl h2
    · exact .inr ⟨g,cap,cur,fz,hv,Nat.le_trans hbase hb,r⟩
  · have hsmall:n+s.size≤9223372036854775807:=by simp only[maxLen] at h63;omega
    have hxl:xs.length=n:=by simpa using hown.1
    have hlen:(xs++Lib.strCells s).length=(n+s.size)*1:=by rw[List.length_append,hxl,Lib.strCells_length,Nat.mul_one]
    by_cases hroom:n+s.size≤cap
    · have hcs':cur.size=cap:=by simpa using hcs
      have hr:=Lib.run_append_room_stringF (P:=P) w t u ty e i ht hu hi hsize g n cap cur fz hg (by simpa using hfz) s hroom om;refine⟨_,_,hr,⟨hlen,.inr ⟨g,cap,_,fz,rfl,hbg,setRow_heap w g cur _ e _ hg,om,hroom,hcm,?_,?_⟩⟩,⟨rfl,rfl,rfl,by simp,fun k _ hk=>setRow_other w g k _ (fun e=>hk (by simp[Value.ownBlock,e]))⟩,fun k hk=>.inl hk⟩
      · simp only[List.size_toArray,List.length_append,List.length_take,List.length_drop,Array.length_toList,Lib.strCells_length];omega
      · have ht':cur.toList.take n=xs:=by simpa using htake
        rw[ht',←hlen];exact List.take_left
    · have holds:∀j u,xs[j]? =some u→w.cell? ((⟨g,0,none⟩:Addr).add j)=some u:=hown.cells (g:=g) rfl;have hr:=Lib.run_append_grow_string (P:=P) w t u ty e i (.int .u8 0) ht hu hi hz ⟨g,0,none⟩ n cap xs (by rw[hsize];simpa using hxl) holds s om om (by rw[hby];exact growslice_fits om om);have hge:=grownCap_ge w (n+s.size) cap e;have hcm2:grownCap w (n+s.size) cap e≤maxLen:=grownCap_le_maxLen w (n+s.size) cap e h63;refine⟨_,_,hr,⟨hlen,.inr ⟨w.heap.size,_,_,(0,0),rfl,hbase,heap_alloc_new w.drew _,Nat.zero_le _,hge,hcm2,?_,?_⟩⟩,⟨rfl,rfl,rfl,by simp,fun k hk _=>heap_alloc_old w.drew _ hk⟩,fun k hk=>.inr (by cases hk;exact Nat.le_refl _)⟩
      · have hz1:(Value.int IntKind.u8 0).cells.size=1:=rfl;simp only[Array.size_append,List.size_toArray,size_zeroCells,hz1,hxl,Lib.strCells_length];omega
      · simp only[Array.toList_append,List.append_assoc];rw[←List.append_assoc,←hlen];exact List.take_left
theorem wpList_append_strF {ops:Array Oper}{rest:List Oper}{o:Oper}{a:Act}{Q:Exit→Act→World→Prop}(hgd:o.guard=none) (sl x:Operand) (t u:TypeId)
    (ho:o.op=.call { callee:=.builtin .append,args:=#[sl,x],argTypes:=#[t,u]})
    (base:Nat) (e:TypeId) (i:TypeInfo) (ht:P.underlying t=some (.slice e)) (hu:P.underlying u=some .string) (hi:P.info? e=some i) (hz:i.zero=some (.int .u8 0))
    (hsize:i.size=1) (hby:i.bytes=1)
    (v:Value) (n:Nat) (xs:List Value) (hs:a.eval sl=v) (hown:w.ownsRowF base e 1 v n xs) (s:ByteArray) (hx:a.eval x=.string s)
    (h63:n+s.size≤maxLen) (hbytes:n+s.size≤140737488355328) (hbase:base≤w.heap.size)
    (h:∀v' w',w'.ownsRowF base e 1 v' (n+s.size) (xs++Lib.strCells s)→w.grownBy w' v.ownBlock→(∀k,v'.ownBlock=some k→v.ownBlock=some k∨w.heap.size≤k)→wpList P ops Q rest (a.put o.dst v') w'):wpList P ops Q (o::rest) a w:=by
  refine wpList_plain hgd fun K hK=>?_;obtain⟨v',w',hr,h2,h3,h4⟩:=run_append_strF (P:=P) w base t u o.type e i ht hu hi hz hsize hby v n xs hown s h63 hbytes hbase;unfold Oper.wp execOp;simp only[ho,resolve,invoke,builtin,Sem.run_bind,Sem.run_pure,Result.andThen_ok,List.map_toArray,List.map_cons,List.map_nil,hs,hx,hr];exact hK _ _ (h v' w' h2 h3 h4)
end
theorem byteCells_append (a b:List UInt8):Lib.byteCells (a++b)=Lib.byteCells a++Lib.byteCells b:=by simp[Lib.byteCells]
theorem strCells_bstr (s:List UInt8):Lib.strCells (bstr s)=Lib.byteCells s:=by
  simp[Lib.strCells,Lib.byteCells]
set_option maxHeartbeats 2000000 in
set_option maxRecDepth 100000 in
theorem copyCheckF (b:Nat) (p v:Value) (w:World) (hp:p=.pointer none∨p=.pointer (some ⟨b,0,none⟩)) (hbk:w.heap[b]? =some (.cells #[p,v] 138 (0,0))):
    Calls Tryz.prog 89 #[.pointer (some ⟨b,0,none⟩)] w fun e w'=>e=.returned (.tuple #[])∧w'.heap[b]? =some (.cells #[.pointer (some ⟨b,0,none⟩),v] 138 (0,0))∧Agree w w' (fun k=>k=b)∧w'.heap.size=w.heap.size:=by
  have hx:Box w b 138 #[p,v]:=hbk;rcases hp with rfl|rfl
  · refine(copyCheck_fresh b w (hx.cell rfl) (by simp[World.shape?,hbk]) (hx.frozen 0)).mono ?_;rintro e w' ⟨rfl,rfl⟩;exact⟨rfl,by have:=hx.set (i:=0) (.pointer (some ⟨b,0,none⟩));simp at this;exact this,⟨rfl,rfl,rfl,by simp[World.setCell],fun k _ hk=>Below.heap_setCell _ _ _ _ hk⟩,by simp[World.setCell]⟩
  · refine(copyCheck_used b w (hx.cell rfl)).mono ?_;rintro e w' ⟨rfl,rfl⟩;exact⟨rfl,hbk,⟨rfl,rfl,rfl,Nat.le_refl _,fun _ _ _=>rfl⟩,rfl⟩
set_option maxHeartbeats 2000000 in
set_option maxRecDepth 100000 in
theorem writeStr_any (base b:Nat) (v:Value) (bs s:List UInt8) (w:World) (h:(bldR base b v bs).F w) (hlen:bs.length+s.length≤140737488355328) (hbase:base≤w.heap.size):
    Calls Tryz.prog 139 #[.pointer (some ⟨b,0,none⟩),.string (bstr s)] w fun e w'=>e=.returned (.tuple #[.int .i64 s.length,.nilIface])∧∃v',(bldR base b v' (bs++s)).F w'∧Agree w w' (bldR base b v bs).fp∧∀k,v'.ownBlock=some k→v.ownBlock=some k∨w.heap.size≤k:=by
  obtain⟨hB,⟨p,hp,hbk⟩,hown,hne⟩:=h;obtain⟨i0,hi,hz0,hz1,hz2⟩:=info_parts infoByte;have hlt:b<w.heap.size:=(Array.getElem?_eq_some_iff.1 hbk).1;go_enter Tryz.func139,Tryz.ntmps139;go_wp2_with fail;refine(copyCheckF b p v _ hp hbk).mono ?_;rintro e w1 ⟨rfl,hb1,ha1,hs1⟩;have hown1:w1.ownsRowF base 5 1 v bs.length (Lib.byteCells bs):=ownF_keep hown fun k hk=>ha1.block k (hown.lt k hk).2 (fun e=>hne (by rw[hk,e]));have c0:w1.cell? ⟨b,0,none⟩=some (.pointer (some ⟨b,0,none⟩)):=by rw[Lib.cell_of_heap hb1];rfl
  have c1:w1.cell? ⟨b,1,none⟩=some v:=by rw[Lib.cell_of_heap hb1];rfl
  go_wp2_with (at_builtin;refine wpList_append_strF _ rfl _ _ 106 9 rfl base 5 i0 Tryz.underlying106 Tryz.underlying9 hi hz0 hz1 hz2 _ _ _ rfl hown1 (bstr s) rfl ?c3 ?c4 ?c5 ?_)
  case c3=>rw[bstr_size];unfold maxLen;omega
  case c4=>rw[bstr_size];exact hlen
  case c5=>omega
  intro v' w2 hown' hgrow hat;have hlt1:b<w1.heap.size:=om;have hb2:w2.heap[b]? =some (.cells #[.pointer (some ⟨b,0,none⟩),v] 138 (0,0)):=by
    rw[hgrow.block b hlt1 (fun e=>hne e.symm)];exact hb1
  have d0:w2.cell? ⟨b,0,none⟩=some (.pointer (some ⟨b,0,none⟩)):=by rw[Lib.cell_of_heap hb2];rfl
  have d1:w2.cell? ⟨b,1,none⟩=some v:=by rw[Lib.cell_of_heap hb2];rfl
  have f1:w2.frozen? ⟨b,1,none⟩=false:=Lib.frozen_of_heap hb2 1;have hvb:v'.ownBlock≠some b:=fun e=>by
    rcases hat b e with h|h
    · exact hne h
    · omega
  obtain⟨ao,n',cap,rfl⟩:∃ao n' cap,v'=.slice ao n' cap:=by
    rcases hown'.2 with⟨hv,_⟩|⟨g,cap,cur,fz,hv,_⟩
    · exact⟨_,_,_,hv⟩
    · exact⟨_,_,_,hv⟩
  go_wp2;go_ret2;have hx2:Box w2 b 138 #[.pointer (some ⟨b,0,none⟩),v]:=hb2;refine⟨rfl,_,⟨hB,⟨_,.inr rfl,by have:=hx2.set (i:=1) (.slice ao n' cap);simp at this;exact this⟩,ownF_keep (w1:=w2) ?_ fun k hk=>Below.heap_setCell _ _ _ _ (fun e=>hvb (by rw[hk,e])),hvb⟩,⟨?_,?_,?_,?_,fun k hk hf=>?_⟩,fun k hk=>?_⟩
  · rw[byteCells_append,List.length_append];rw[strCells_bstr] at hown';exact hown'
  · exact hgrow.os.trans ha1.os
  · exact hgrow.tape.trans ha1.tape
  · exact hgrow.output.trans ha1.output
  · have:=hgrow.size;simp[World.setCell];omega
  · rw[Below.heap_setCell _ _ _ _ (fun e=>hf (.inl e)),hgrow.block k om (fun e=>hf (.inr e.symm)),ha1.block k hk (fun e=>hf (.inl e))]
  · rcases hat k hk with h|h
    · exact .inl h
    · exact .inr om
def bldU (base b:Nat) (v:Value) (bs:List UInt8):HB:=
  ⟨fun k=>k=b∨v.ownBlock=some k,fun w=>base≤b∧(∃p,(p=.pointer none∨p=.pointer (some ⟨b,0,none⟩))∧w.heap[b]? =some (.cells #[p,v] 138 (0,0)))∧w.ownsRow base 5 1 v bs.length (Lib.byteCells bs)∧v.ownBlock≠some b,true,none,fun _ _ h=>by cases h⟩
theorem bldU_ok (base b:Nat) (v:Value) (bs:List UInt8):(bldU base b v bs).ok:=fun w1 w2 h hk _=>by
  obtain⟨h1,⟨p,hp,hb⟩,h3,h4⟩:=h
  exact⟨h1,⟨p,hp,(hk b (.inl rfl)).trans hb⟩,own_keep h3 fun k hv=>hk k (.inr hv),h4⟩
theorem bldU_R {base b:Nat}{v:Value}{bs:List UInt8}{w:World}(h:(bldU base b v bs).F w):(bldR base b v bs).F w:=⟨h.1,h.2.1,World.ownsRowF_of h.2.2.1,h.2.2.2⟩
theorem byte_ones (s:List UInt8):∀u∈Lib.byteCells s,u.oneCell'=true:=by
  intro u hu;simp[Lib.byteCells] at hu;obtain⟨a,_,rfl⟩:=hu;rfl
theorem row_lt0 {w:World}{size n j:Nat}{A:Option Addr}{xs:List Value}(h:Rd w size A n xs) (hj:rowFp n A j):j<w.heap.size:=by
  obtain⟨h1,h2⟩:=h;obtain⟨hn,off,rfl⟩:=hj;rcases h2 with h2|⟨b,o,he,hlt,_⟩
  · omega
  · cases he;exact hlt
theorem rd_agree {w w1:World}{size n b:Nat}{A:Option Addr}{xs:List Value}(h:Rd w size A n xs) (ha:Agree w w1 (fun k=>k=b)) (hA:∀g o,A=some ⟨g,o,none⟩→g≠b):Rd w1 size A n xs:=
  h.keep (fun k hk=>by obtain⟨_,off,e⟩:=hk;exact ha.block k (row_lt0 h ⟨by assumption,off,e⟩) (hA k off e)) ha.size
set_option maxHeartbeats 2000000 in
set_option maxRecDepth 100000 in
theorem write_any (base b:Nat) (v:Value) (bs s:List UInt8) (A:Option Addr) (c:Nat) (w:World) (h:(bldU base b v bs).F w) (hA:A=none→s.length=0∧c=0) (hr:Rd w 1 A s.length (Lib.byteCells s)) (hAb:∀g o,A=some ⟨g,o,none⟩→g≠b) (hlen:bs.length+s.length≤140737488355328) (hbase:base≤w.heap.size):
    Calls Tryz.prog 52 #[.pointer (some ⟨b,0,none⟩),.slice A s.length c] w fun e w'=>e=.returned (.tuple #[.int .i64 s.length,.nilIface])∧∃v',(bldU base b v' (bs++s)).F w'∧Agree w w' (bldU base b v bs).fp∧∀k,v'.ownBlock=some k→v.ownBlock=some k∨w.heap.size≤k:=by
  obtain⟨hB,⟨p,hp,hbk⟩,hown,hne⟩:=h;obtain⟨i0,hi,hz0,hz1,hz2⟩:=info_parts infoByte;have hlt:b<w.heap.size:=(Array.getElem?_eq_some_iff.1 hbk).1;go_enter Tryz.func52,Tryz.ntmps52;go_wp2_with fail;refine(copyCheckF b p v _ hp hbk).mono ?_;rintro e w1 ⟨rfl,hb1,ha1,hs1⟩;have hr1:Rd w1 1 A s.length (Lib.byteCells s):=rd_agree hr ha1 hAb;have hown1:w1.ownsRow base 5 1 v bs.length (Lib.byteCells bs):=own_keep hown fun k hk=>ha1.block k (own_lt hown k hk).1 (fun e=>hne (by rw[hk,e]));have c0:w1.cell? ⟨b,0,none⟩=some (.pointer (some ⟨b,0,none⟩)):=by rw[Lib.cell_of_heap hb1];rfl
  have c1:w1.cell? ⟨b,1,none⟩=some v:=by rw[Lib.cell_of_heap hb1];rfl
  go_wp2_with (at_builtin;refine wpList_append_rd _ rfl _ _ 106 rfl base 5 i0 (.int .u8 0) 1 1 Tryz.underlying106 hi hz0 hz1 hz2 rfl (by decide) v bs.length (Lib.byteCells bs) rfl hown1 A s.length c (Lib.byteCells s) rfl hA hr1 (byte_ones s) ?c3 ?c4 ?c5 ?_)
  case c3=>unfold maxLen;omega
  case c4=>omega
  case c5=>omega
  intro ao n' w2 hown' hgrow hat;have hlt1:b<w1.heap.size:=om;have hb2:w2.heap[b]? =some (.cells #[.pointer (some ⟨b,0,none⟩),v] 138 (0,0)):=by
    rw[hgrow.block b hlt1 (fun e=>hne e.symm)];exact hb1
  have d0:w2.cell? ⟨b,0,none⟩=some (.pointer (some ⟨b,0,none⟩)):=by rw[Lib.cell_of_heap hb2];rfl
  have d1:w2.cell? ⟨b,1,none⟩=some v:=by rw[Lib.cell_of_heap hb2];rfl
  have f1:w2.frozen? ⟨b,1,none⟩=false:=Lib.frozen_of_heap hb2 1;have hvb:(Value.slice ao (bs.length+s.length) n').ownBlock≠some b:=fun e=>by
    rcases hat with h|h
    · rw[h] at e;exact hne e
    · rw[h] at e;cases e;omega
  go_wp2;go_ret2;have hx2:Box w2 b 138 #[.pointer (some ⟨b,0,none⟩),v]:=hb2;refine⟨rfl,_,⟨hB,⟨_,.inr rfl,by have:=hx2.set (i:=1) (.slice ao (bs.length+s.length) n');simp at this;exact this⟩,own_keep (w1:=w2) ?_ fun k hk=>Below.heap_setCell _ _ _ _ (fun e=>hvb (by rw[hk,e])),hvb⟩,⟨?_,?_,?_,?_,fun k hk hf=>?_⟩,fun k hk=>?_⟩
  · rw[byteCells_append,List.length_append];exact hown'
  · exact hgrow.os.trans ha1.os
  · exact hgrow.tape.trans ha1.tape
  · exact hgrow.output.trans ha1.output
  · have:=hgrow.size;simp[World.setCell];omega
  · rw[Below.heap_setCell _ _ _ _ (fun e=>hf (.inl e)),hgrow.block k om (fun e=>hf (.inr e.symm)),ha1.block k hk (fun e=>hf (.inl e))]
  · rcases hat with h|h
    · rw[h] at hk;exact .inl hk
    · rw[h] at hk;cases hk;exact .inr om
set_option maxHeartbeats 2000000 in
set_option maxRecDepth 100000 in
theorem strG_any {P:Program}{ρ:Ren}(L:Lays.n169 P ρ) (X:Builder.Extra P ρ) (base b:Nat) (v:Value) (l:List UInt8) (w:World) (h:(bldG (ρ.t 72) (ρ.t 5) base b v l).F w) (h0:l≠[]):
    Calls P (ρ.f 169) #[.pointer (some ⟨b,0,none⟩)] w fun e w'=>e=.returned (.string (bstr l))∧(bldG (ρ.t 72) (ρ.t 5) base b v l).F w'∧Agree w w' (bldG (ρ.t 72) (ρ.t 5) base b v l).fp:=by
  obtain⟨hB,⟨p,hp,hbk⟩,hown,hne⟩:=h;have hl0:l.length≠0:=by simpa using h0
  obtain⟨g,cap,cur,fz,rfl,hbg,hg,hfz,hnc,hcm,hcs,htake⟩:∃g cap cur fz,v=.slice (some ⟨g,0,none⟩) l.length cap∧base≤g∧w.heap[g]? =some (.cells cur (ρ.t 5) fz)∧fz.2≤l.length*1∧l.length≤cap∧cap≤maxLen∧cur.size=cap*1∧cur.toList.take (l.length*1)=Lib.byteCells l:=by
    rcases hown.2 with⟨_,hz⟩|⟨g,cap,cur,fz,hv,r⟩
    · exact absurd hz hl0
    · exact⟨g,cap,cur,fz,hv,r⟩
  have c1:w.drew.cell? ⟨b,1,none⟩=some (.slice (some ⟨g,0,none⟩) l.length cap):=by
    have:w.drew.heap[b]? =some (.cells #[p,.slice (some ⟨g,0,none⟩) l.length cap] (ρ.t 72) (0,0)):=hbk;rw[Lib.cell_of_heap this];rfl
  have hSD:(Builtin.unsafeSliceData_ #[(ρ.t 37)] (ρ.t 127) #[.slice (some ⟨g,0,none⟩) l.length cap]).run P w.drew=.ok (.pointer (some ⟨g,0,none⟩)) w.drew:=
    Lib.run_unsafeSliceData_row _ _ _ _ _ _ om
  have hUS:(Builtin.unsafeString_ #[(ρ.t 127),(ρ.t 3)] (ρ.t 9) #[.pointer (some ⟨g,0,none⟩),.int .i64 l.length]).run P w.drew=.ok (.string ⟨l.toArray⟩) (w.drew.freeze ⟨g,0,none⟩ l.length):=by
    refine Lib.run_unsafeString_row w.drew (ρ.t 127) (ρ.t 3) (ρ.t 9) (ρ.t 5) L.t127 X.cellsByte g cur.size (by have hg':w.drew.heap[g]? =some (.cells cur (ρ.t 5) fz):=hg;simp[World.shape?,hg']) l h0 om (by unfold maxLen at hcm;omega) ?_;intro j x hx;have:=hown.cells (g:=g) rfl j (.int .u8 x.toNat) (by simp[Lib.byteCells,hx]);exact this
  have hA:Lib.BuilderAtF (ρ.t 72) (ρ.t 5) base b p (Lib.byteCells l) w.drew:=⟨hB,_,hbk,by rw[Lib.byteCells_length];exact hown,hne⟩;have hF:=hA.froze (g:=g) (cap:=cap) (by rw[Lib.byteCells_length];exact c1);rw[Lib.byteCells_length] at hF;have hgb:b≠g:=fun e=>hne (by rw[e];rfl);have hother:∀k,k≠g→(w.drew.freeze ⟨g,0,none⟩ l.length).heap[k]? =w.heap[k]? :=by
    intro k hk;unfold World.freeze;rw[if_neg hl0];simp only[Array.getElem?_modify];rw[if_neg (fun e=>hk e.symm)];rfl
  have hkeep:(bldG (ρ.t 72) (ρ.t 5) base b (.slice (some ⟨g,0,none⟩) l.length cap) l).F (w.drew.freeze ⟨g,0,none⟩ l.length):=by
    obtain⟨_,v2,hb2,hown2,hne2⟩:=hF;have e:v2=.slice (some ⟨g,0,none⟩) l.length cap:=by
      rw[hother b hgb,hbk] at hb2;simp at hb2;exact hb2.symm
    subst e;rw[Lib.byteCells_length] at hown2;exact⟨hB,⟨p,hp,hb2⟩,hown2,hne2⟩
  have hag:Agree w (w.drew.freeze ⟨g,0,none⟩ l.length) (bldG (ρ.t 72) (ρ.t 5) base b (.slice (some ⟨g,0,none⟩) l.length cap) l).fp:=by
    have hb:=Lib.below_freeze (Below.drew (Below.refl 0 w)) (p:=⟨g,0,none⟩) (Nat.zero_le _) l.length;exact⟨hb.os,hb.tape,hb.output,hb.size,fun k hk hf=>hother k fun e=>hf (.inr (by rw[e];rfl))⟩
  have mixed:=L.mixed;have t72:=L.t72;have a72:=L.a72;have z72:=L.z72;have v72:=L.v72;have u72:=run_underlying L.t72;have t70:=L.t70;have a70:=L.a70;have z70:=L.z70;have v70:=L.v70;have u70:=run_underlying L.t70;have t37:=L.t37;have a37:=L.a37;have z37:=L.z37;have v37:=L.v37;have u37:=run_underlying L.t37;have t127:=L.t127;have a127:=L.a127;have z127:=L.z127;have v127:=L.v127;have u127:=run_underlying L.t127;have t3:=L.t3;have a3:=L.a3;have z3:=L.z3;have v3:=L.v3;have u3:=run_underlying L.t3;have t9:=L.t9;have a9:=L.a9;have z9:=L.z9;have v9:=L.v9;have u9:=run_underlying L.t9;have t5:=X.t5;have a5:=X.a5;have z5:=X.z5;have v5:=X.v5;have u5:=run_underlying X.t5;go_enter L.f169,Body.n169_ntmps ρ;go_wp2;go_region_o;all_goals (go_wp2;go_ret;exact⟨rfl,hkeep,hag⟩)
theorem str_any (base b:Nat) (v:Value) (l:List UInt8) (w:World) (h:(bldR base b v l).F w) (h0:l≠[]):
    Calls Tryz.prog 53 #[.pointer (some ⟨b,0,none⟩)] w fun e w'=>e=.returned (.string (bstr l))∧(bldR base b v l).F w'∧Agree w w' (bldR base b v l).fp:=
  strG_any Tryz.lays169 Tryz.Builder_Extra_169 base b v l w h h0
theorem below_drewN {B:Nat}{a w:World}(h:Below B a w) (n:Nat):Below B a (w.drewN n):=⟨h.os,h.tape,h.output,h.size,h.block⟩
theorem dropEq_cons {al bl:Alts}{k:Nat}(h1:k<al.length) (h2:k<bl.length):
    decide (al.drop k=bl.drop k)=(decide (al.getD k (0,0)=bl.getD k (0,0))&&decide (al.drop (k+1)=bl.drop (k+1))):=by
  rw[drop_pair h1,drop_pair h2];simp
def sameP (s f:Int) (al:Alts) (t g:Int) (bl:Alts):Bool:=s == t&&(f == g&&decide (al=bl))
theorem altsOk_len {al:Alts}:∀{last:Int},0≤last→altsOk last al=true→al=[]∨(al.length:Int)+last≤7:=by
  induction al with
  |nil=>intro last _ _;exact .inl rfl
  |cons a al ih=>
    intro last hl h;simp only[altsOk,altBad,Bool.and_eq_true,Bool.not_eq_true',Bool.or_eq_false_iff,decide_eq_false_iff_not] at h;obtain⟨⟨h1,h2,h3,h4⟩,h5⟩:=h;refine .inr ?_;rcases ih om h5 with rfl|h
    · simp;omega
    · simp only[List.length_cons];omega
theorem valid_ref (s f:Int) (al:Alts):validP s f al=(noneP s f al||(!spanBad s f&&(!decide (al.length<1)&&altsOk 0 al))):=by
  unfold validP;by_cases h:altsOk 0 al=true
  · have h7:¬7<al.length:=by
      rcases altsOk_len (Int.le_refl _) h with rfl|h
      · simp
      · omega
    simp[h,h7]
  · have h':altsOk 0 al=false:=by simpa using h
    simp[h']
set_option maxRecDepth 100000 in
set_option maxHeartbeats 2000000 in
theorem rvalid_any (s f:Int) (A:Option Addr) (n c:Nat) (al:Alts) (w:World) (h:IsAlts w A n al) (hm:n≤maxLen):
    Calls Tryz.prog 176 #[optV s f A n c] w fun e w'=>e=.returned (.bool (validP s f al))∧Below w.heap.size w w':=by
  have b0:=Lib.hid (balloc w (.cells #[.int .i64 s,.int .i64 f,.slice A n c] 74));have H:=Lib.hid h;have hl:=h.1;have hm':n≤9223372036854775807:=hm;have HV:=Lib.hid (valid_ref s f al);clear h;go_enter Tryz.func176,Tryz.ntmps176;by_cases hn:noneP s f al=true
  · have hn2:=hn;simp only[noneP,Bool.and_eq_true,beq_iff_eq] at hn2;obtain⟨rfl,rfl,h0⟩:=hn2;obtain rfl:n=0:=om;go_wp2_with fail;go_ret;exact⟨by simp[validP,hn],b0.out⟩
  have hn':noneP s f al=false:=by simpa using hn
  have HN:=Lib.hid hn';have hcase:(s == 0)=false∨(s=0∧((f == 0)=false∨(f=0∧((n:Int) == 0)=false))):=by
    simp only[noneP,hl] at hn';by_cases e1:s=0
    · by_cases e2:f=0
      · subst e1;subst e2;right;refine⟨rfl,.inr ⟨rfl,by simpa using hn'⟩⟩
      · exact .inr ⟨e1,.inl (by simpa using e2)⟩
    · exact .inl (by simpa using e1)
  clear hn hn';rcases hcase with hc1|⟨rfl,hc2|⟨rfl,hc3⟩⟩
  · by_cases h1:s<0
    · go_wp2_with fail;go_ret;exact⟨by rw[HV.out];simp[HN.out,spanBad,hl,h1],b0.out⟩
    by_cases h2:100000000<s
    · go_wp2_with fail;go_ret;exact⟨by rw[HV.out];simp[HN.out,spanBad,hl,h2],b0.out⟩
    by_cases h3:f<1
    · go_wp2_with fail;go_ret;exact⟨by rw[HV.out];simp[HN.out,spanBad,hl,h3],b0.out⟩
    by_cases h4:100000000<f
    · go_wp2_with fail;go_ret;exact⟨by rw[HV.out];simp[HN.out,spanBad,hl,h4],b0.out⟩
    by_cases h5:n<1
    · go_wp2_with fail;go_ret;exact⟨by rw[HV.out];simp[HN.out,spanBad,hl,h5],b0.out⟩
    have HW:=Lib.hid (show validP s f al=altsOk 0 al by rw[HV.out];simp[HN.out,spanBad,hl,h1,h2,h3,h4,h5]);go_wp2_with fail;go_loopw [3,4] (fun l i wr=>∃(k:Nat) (last:Int),k≤n∧i=.int .i64 k∧l=.int .i64 last∧altsOk 0 al=altsOk last (al.drop k)∧Below w.heap.size w wr∧Box wr w.heap.size 74 #[.int .i64 s,.int .i64 f,.slice A n c]) (fun _ i _=>n-(intOf i).toNat)
    case atStart=>exact⟨0,0,Nat.zero_le _,rfl,rfl,rfl,b0.out,Box.new _ _ _⟩
    case round=>
      obtain⟨k,last,hk,rfl,rfl,hst,hB,hx⟩:=hrel;have HST:=Lib.hid hst;have HX:=Lib.hid hx;have c0:=hx.cell (i:=2) rfl;have hlx:=hx.lt;clear hst hx;by_cases hlt:k<n
      · obtain⟨b,off,rfl,hbl,ca,cb⟩:=(H.out.below hB).at_ hlt;rw[drop_pair om] at HST;generalize al.getD k (0,0)=a at *;obtain⟨r,i⟩:=a;simp only at ca cb;by_cases j1:r≤last
        · go_wp2_with fail;go_ret;exact⟨by rw[HW.out,HST.out];simp[altsOk,altBad,j1],(hB.alloc hB.size _)⟩
        by_cases j2:7<r
        · go_wp2_with fail;go_ret;exact⟨by rw[HW.out,HST.out];simp[altsOk,altBad,j2],(hB.alloc hB.size _)⟩
        by_cases j3:i<1
        · go_wp2_with fail;go_ret;exact⟨by rw[HW.out,HST.out];simp[altsOk,altBad,j3],(hB.alloc hB.size _)⟩
        by_cases j4:1000000<i
        · go_wp2_with fail;go_ret;exact⟨by rw[HW.out,HST.out];simp[altsOk,altBad,j4],(hB.alloc hB.size _)⟩
        go_wp2_with fail;go_roundw
        case rel=>exact⟨k+1,r,om,by go_num,rfl,by rw[HST.out];simp[altsOk,altBad,j1,j2,j3,j4],(hB.alloc hB.size _),HX.out.next (balloc _ _)⟩
        case measure=>simp[intOf];omega
      · go_wp2_with fail;go_ret;exact⟨by rw[HW.out,HST.out,List.drop_of_length_le om];rfl,hB⟩
  · have h1:¬(0:Int)<0:=om;have h2:¬(100000000:Int)<0:=om;by_cases h3:f<1
    · go_wp2_with fail;go_ret;exact⟨by rw[HV.out];simp[HN.out,spanBad,hl,h3],b0.out⟩
    by_cases h4:100000000<f
    · go_wp2_with fail;go_ret;exact⟨by rw[HV.out];simp[HN.out,spanBad,hl,h4],b0.out⟩
    by_cases h5:n<1
    · go_wp2_with fail;go_ret;exact⟨by rw[HV.out];simp[HN.out,spanBad,hl,h5],b0.out⟩
    have HW:=Lib.hid (show validP 0 f al=altsOk 0 al by rw[HV.out];simp[HN.out,spanBad,hl,h1,h2,h3,h4,h5]);go_wp2_with fail;go_loopw [3,4] (fun l i wr=>∃(k:Nat) (last:Int),k≤n∧i=.int .i64 k∧l=.int .i64 last∧altsOk 0 al=altsOk last (al.drop k)∧Below w.heap.size w wr∧Box wr w.heap.size 74 #[.int .i64 0,.int .i64 f,.slice A n c]) (fun _ i _=>n-(intOf i).toNat)
    case atStart=>exact⟨0,0,Nat.zero_le _,rfl,rfl,rfl,b0.out,Box.new _ _ _⟩
    case round=>
      obtain⟨k,last,hk,rfl,rfl,hst,hB,hx⟩:=hrel;have HST:=Lib.hid hst;have HX:=Lib.hid hx;have c0:=hx.cell (i:=2) rfl;have hlx:=hx.lt;clear hst hx;by_cases hlt:k<n
      · obtain⟨b,off,rfl,hbl,ca,cb⟩:=(H.out.below hB).at_ hlt;rw[drop_pair om] at HST;generalize al.getD k (0,0)=a at *;obtain⟨r,i⟩:=a;simp only at ca cb;by_cases j1:r≤last
        · go_wp2_with fail;go_ret;exact⟨by rw[HW.out,HST.out];simp[altsOk,altBad,j1],(hB.alloc hB.size _)⟩
        by_cases j2:7<r
        · go_wp2_with fail;go_ret;exact⟨by rw[HW.out,HST.out];simp[altsOk,altBad,j2],(hB.alloc hB.size _)⟩
        by_cases j3:i<1
        · go_wp2_with fail;go_ret;exact⟨by rw[HW.out,HST.out];simp[altsOk,altBad,j3],(hB.alloc hB.size _)⟩
        by_cases j4:1000000<i
        · go_wp2_with fail;go_ret;exact⟨by rw[HW.out,HST.out];simp[altsOk,altBad,j4],(hB.alloc hB.size _)⟩
        go_wp2_with fail;go_roundw
        case rel=>exact⟨k+1,r,om,by go_num,rfl,by rw[HST.out];simp[altsOk,altBad,j1,j2,j3,j4],(hB.alloc hB.size _),HX.out.next (balloc _ _)⟩
        case measure=>simp[intOf];omega
      · go_wp2_with fail;go_ret;exact⟨by rw[HW.out,HST.out,List.drop_of_length_le om];rfl,hB⟩
  · go_wp2_with fail;go_ret;exact⟨by rw[HV.out];simp[HN.out,spanBad],b0.out⟩
set_option maxRecDepth 100000 in
set_option maxHeartbeats 2000000 in
theorem rsameAlts_any (A B:Option Addr) (n m c d:Nat) (al bl:Alts) (w:World) (ha:IsAlts w A n al) (hb:IsAlts w B m bl) (hm:n≤maxLen):
    Calls Tryz.prog 82 #[.slice A n c,.slice B m d] w fun e w'=>e=.returned (.bool (decide (al=bl)))∧Below w.heap.size w w':=by
  have HA:=Lib.hid ha;have HB:=Lib.hid hb;have hl:=ha.1;have hl':=hb.1;have hm':n≤9223372036854775807:=hm;clear ha hb;go_enter Tryz.func82,Tryz.ntmps82;by_cases hnm:n=m
  · subst hnm;go_wp2_with fail;go_loopw [5] (fun i wr=>∃(k:Nat),k≤n∧i=.int .i64 k∧decide (al=bl)=decide (al.drop k=bl.drop k)∧Below w.heap.size w wr) (fun i _=>n-(intOf i).toNat)
    case atStart=>exact⟨0,Nat.zero_le _,rfl,rfl,Below.refl _ _⟩
    case round=>
      obtain⟨k,hk,rfl,hst,hB⟩:=hrel;have HST:=Lib.hid hst;clear hst;by_cases hlt:k<n
      · obtain⟨b,off,rfl,hbl,ca,cb⟩:=(HA.out.below hB).at_ hlt;obtain⟨b',off',rfl,hbl',ca',cb'⟩:=(HB.out.below hB).at_ hlt;rw[dropEq_cons om om] at HST;generalize al.getD k (0,0)=x at *;generalize bl.getD k (0,0)=y at *;obtain⟨x1,x2⟩:=x;obtain⟨y1,y2⟩:=y;simp only at ca cb ca' cb';by_cases h1:x1=y1
        · subst h1;by_cases h2:x2=y2
          · subst h2;go_upto_region 6 with(fail);go_quiet (fail);go_wp2_with fail;go_roundw
            case rel=>exact⟨k+1,om,by go_num,by rw[HST.out];simp,below_drewN hB _⟩
            case measure=>simp[intOf];omega
          · have h2':(x2 == y2)=false:=by simpa using h2
            go_upto_region 6 with(fail);go_quiet (fail);go_wp2_with fail;go_ret;exact⟨by rw[HST.out];simp[h2],below_drewN hB _⟩
        · have h1':(x1 == y1)=false:=by simpa using h1
          go_upto_region 6 with(fail);go_quiet (fail);go_wp2_with fail;go_ret;exact⟨by rw[HST.out];simp[h1],below_drewN hB _⟩
      · go_wp2_with fail;go_ret;exact⟨by rw[HST.out,List.drop_of_length_le om,List.drop_of_length_le om];rfl,hB⟩
  · have h':((n:Int) == (m:Int))=false:=by simp;omega
    have h'':((n:Int) != (m:Int))=true:=by simp;omega
    go_wp2_with fail;go_ret;refine⟨?_,Below.refl _ _⟩;have:al≠bl:=fun e=>hnm (by rw[←hl,←hl',e]);simp[this]
set_option maxRecDepth 100000 in
set_option maxHeartbeats 2000000 in
theorem rsame_any (s f:Int) (A:Option Addr) (n c:Nat) (al:Alts) (t g:Int) (B:Option Addr) (m d:Nat) (bl:Alts) (w:World) (ha:IsAlts w A n al) (hb:IsAlts w B m bl) (hm:n≤maxLen):
    Calls Tryz.prog 48 #[optV s f A n c,optV t g B m d] w fun e w'=>e=.returned (.bool (sameP s f al t g bl))∧Below w.heap.size w w':=by
  have HA:=Lib.hid ha;have HB:=Lib.hid hb;have b0:=balloc w (.cells #[.int .i64 s,.int .i64 f,.slice A n c] 74);have b1:=Lib.hid (b0.alloc b0.size (.cells #[.int .i64 t,.int .i64 g,.slice B m d] 74));have x1:=Lib.hid ((Box.new w 74 #[.int .i64 s,.int .i64 f,.slice A n c]).next (balloc _ (.cells #[.int .i64 t,.int .i64 g,.slice B m d] 74)));have x2:=Lib.hid (Box.new (w.alloc (.cells #[.int .i64 s,.int .i64 f,.slice A n c] 74)) 74 #[.int .i64 t,.int .i64 g,.slice B m d]);rw[World.size_alloc] at x2;clear ha hb b0;go_enter Tryz.func48,Tryz.ntmps48;go_wp2_with fail;refine(rsameAlts_any A B n m c d al bl _ (HA.out.below b1.out) (HB.out.below b1.out) hm).mono ?_;rintro e w1 ⟨rfl,b2⟩;have u1:=x1.out.next b2
  have u2:=x2.out.next b2
  have c0:=u1.cell (i:=0) rfl;have c1:=u1.cell (i:=1) rfl;have d0:=u2.cell (i:=0) rfl;have d1:=u2.cell (i:=1) rfl;have B2:=Lib.hid (bnext b1.out b2);clear u1 u2;by_cases h0:al=bl
  · have e0:decide (al=bl)=true:=by simp[h0]
    rw[e0];by_cases h1:s=t
    · subst h1;by_cases h2:f=g
      · subst h2;go_wp2_with fail;go_ret;exact⟨by simp[sameP,h0],B2.out⟩
      · have h2':(f == g)=false:=by simpa using h2
        go_wp2_with fail;go_ret;exact⟨by simp[sameP,h2],B2.out⟩
    · have h1':(s == t)=false:=by simpa using h1
      go_wp2_with fail;go_ret;exact⟨by simp[sameP,h1],B2.out⟩
  · have e0:decide (al=bl)=false:=by simp[h0]
    rw[e0];go_wp2_with fail;go_ret;exact⟨by simp[sameP,h0],B2.out⟩
structure Un where
 channel:Int
 frame:Int
 version:Int
 item:Int
 index:Int
 key:Bool
 data:List UInt8
 regions:Int
 gain:Int
 caption:List UInt8
 os:Int
 of:Int
 A:Option Addr
 c:Nat
 al:Alts
abbrev Un.cells (u:Un):Array Value:=#[.int .i64 u.channel,.int .i64 u.frame,.int .i64 u.version,.int .i64 u.item,.int .i64 u.index,.bool u.key,.string (bstr u.data),.int .i64 u.regions,.int .i64 u.gain,.string (bstr u.caption),.int .i64 u.os,.int .i64 u.of,.slice u.A u.al.length u.c]
abbrev Un.val (u:Un):Value:=.agg u.cells
abbrev ua (u:Un) (B:Option Addr) (c:Nat):Array Value:=#[.int .i64 u.channel,.int .i64 u.frame,.int .i64 u.version,.int .i64 u.item,.int .i64 u.index,.bool u.key,.string (bstr u.data),.int .i64 u.regions,.int .i64 u.gain,.string (bstr u.caption),.int .i64 u.os,.int .i64 u.of,.slice B u.al.length c]
abbrev ul (u:Un) (B:Option Addr) (c:Nat):List Value:=[.int .i64 u.channel,.int .i64 u.frame,.int .i64 u.version,.int .i64 u.item,.int .i64 u.index,.bool u.key,.string (bstr u.data),.int .i64 u.regions,.int .i64 u.gain,.string (bstr u.caption),.int .i64 u.os,.int .i64 u.of,.slice B u.al.length c]
def fieldsP (u:Un):Prop:=0≤u.channel∧u.channel<40∧0≤u.frame∧u.frame≤100000000∧0≤u.index∧u.index≤100000000∧0≤u.version∧u.version≤4611686018427387903∧0≤u.item∧u.item≤4611686018427387903∧u.data.length≤400∧u.caption.length=3∧0≤u.regions∧u.regions≤255∧250≤u.gain∧u.gain≤4000
instance (u:Un):Decidable (fieldsP u):=by unfold fieldsP;infer_instance
def fieldsOk (u:Un):Bool:=decide (0≤u.channel∧u.channel<40∧0≤u.frame∧u.frame≤100000000∧0≤u.index∧u.index≤100000000∧0≤u.version∧u.version≤4611686018427387903∧0≤u.item∧u.item≤4611686018427387903∧u.data.length≤400∧u.caption.length=3∧0≤u.regions∧u.regions≤255∧250≤u.gain∧u.gain≤4000)
def validU (u:Un):Bool:=fieldsOk u&&validP u.os u.of u.al
theorem validU_facts {u:Un}(h:validU u=true):(0≤u.channel∧u.channel<40∧0≤u.frame∧u.frame≤100000000∧0≤u.index∧u.index≤100000000∧0≤u.version∧u.version≤4611686018427387903∧0≤u.item∧u.item≤4611686018427387903∧u.data.length≤400∧u.caption.length=3∧0≤u.regions∧u.regions≤255∧250≤u.gain∧u.gain≤4000)∧validP u.os u.of u.al=true:=by
 unfold validU fieldsOk at h;rw[Bool.and_eq_true,decide_eq_true_eq] at h;exact h
theorem encOpt_len {s f:Int}{al:Alts}(h:validP s f al=true):(encOpt s f al).length≤200:=by
 have h1:=encInts_len ([s,f,(al.length:Int)]++flatA al);have h2:(flatA al).length=2*al.length:=by
  clear h h1;induction al with
  |nil=>rfl
  |cons a al ih=>simp only[flatA,List.flatMap_cons,List.length_append,List.length_cons,List.length_nil] at *;omega
 have h3:al.length≤7:=by
  unfold validP noneP at h;simp only[Bool.or_eq_true,Bool.and_eq_true,Bool.not_eq_true',Bool.or_eq_false_iff,decide_eq_false_iff_not,beq_iff_eq] at h;omega
 unfold encOpt;simp only[List.length_append,List.length_cons,List.length_nil] at *;omega
def contentP (u:Un):List UInt8:=encInts [u.channel,u.frame,u.version,u.item,u.index,if u.key=true then 1 else 0]++encStr u.data++encInts [u.regions,u.gain]++encStr u.caption++encStr (encOpt u.os u.of u.al)
def bodyP (u:Un):List UInt8:=contentP u++encInt ((sumP (contentP u):Nat):Int)
theorem bodyP_eq {u:Un}{kz:Int}(h:kz=if u.key=true then 1 else 0):
  (Ending.returned (.string (bstr ([]++encInts [u.channel,u.frame,u.version,u.item,u.index,kz]++encStr u.data++encInts [u.regions,u.gain]++encStr u.caption++encStr (encOpt u.os u.of u.al)++encInts [((sumP ([]++encInts [u.channel,u.frame,u.version,u.item,u.index,kz]++encStr u.data++encInts [u.regions,u.gain]++encStr u.caption++encStr (encOpt u.os u.of u.al)):Nat):Int)]))))=.returned (.string (bstr (bodyP u))):=by
 subst h;unfold bodyP contentP;simp only[List.nil_append,encInts,List.flatMap_cons,List.flatMap_nil,List.append_nil]
def clockP (t:Nat):List UInt8:=[UInt8.ofNat (t/2^32%256),UInt8.ofNat (t/2^24%256),UInt8.ofNat (t/2^16%256),UInt8.ofNat (t/2^8%256),UInt8.ofNat (t/2^0%256)]
theorem clock_rd {w:World}{b t:Nat}{tt:TypeId}(h:Box w b tt [Value.int .u8 ((t/2^32%256:Nat):Int),.int .u8 ((t/2^24%256:Nat):Int),.int .u8 ((t/2^16%256:Nat):Int),.int .u8 ((t/2^8%256:Nat):Int),.int .u8 ((t/2^0%256:Nat):Int)].toArray):Rd w 1 (some ⟨b,0,none⟩) 5 (Lib.byteCells (clockP t)):=by
 have h1:∀n:Nat,(UInt8.ofNat (n%256)).toNat=n%256:=fun n=>ofNat_toNat (Nat.mod_lt _ om);have:=Rd.of_box (n:=5) h rfl;simpa only[Lib.byteCells,clockP,List.map_cons,List.map_nil,h1] using this
theorem wrap_u8_nat (n:Nat):IntKind.u8.wrap ((n:Nat):Int)=((n%256:Nat):Int):=by
 simp only[IntKind.wrap,IntKind.bits,IntKind.signed,Bool.false_and,Bool.false_eq_true,if_false];omega
section
variable {P:Program}{ρ:Operand→Value}{w:World}{t e:TypeId}{x y:Operand}{dst:Option Tmp}{ty:TypeId}{pos:String}{af:Array Edge}{g:Option (Nat×Bool)}{n:Nat}
theorem ex_b2sR {src td:TypeId}{b off c m:Nat}{l:List UInt8}(hx:ρ x=.slice (some ⟨b,off,none⟩) m c) (hr:Rd w 1 (some ⟨b,off,none⟩) m (Lib.byteCells l)) (hs:P.underlying src=some (.slice e)) (he:P.underlying e=some (.int .u8)) (hd:P.underlying td=some .string):
  (execOp ρ ⟨dst,.convert src td x,ty,pos,af,g⟩).run P w=.ok (.value (.string (bstr l))) w:=by
 have hl:l.length=m:=by have:=hr.1;simpa [Lib.byteCells] using this
 subst hl;have hc:∀j (hj:j<l.length),w.cell? ((⟨b,off,none⟩:Addr).add j)=some (.int .u8 (l[j].toNat:Int)):=by
  intro j hj;rcases hr.2 with h0|⟨b',o',h1,_,h3⟩
  ·omega
  ·cases h1
   rw[add_plain,h3 j om];simp[Lib.byteCells,hj]
 have:=run_convert_bytes_back (P:=P) w src td e ⟨b,off,none⟩ c l hs he hd hc;simp only[execOp,hx,this,Sem.run_bind,Result.andThen_ok,Sem.run_pure]
theorem ex_arrslice {b off:Nat}(hx:ρ x=.pointer (some ⟨b,off,none⟩)) (hu:P.underlying t=some (.array n e)) (hn:0<n) {sz:Nat}(hs:sizeB P e=some sz):
  (execOp ρ ⟨dst,.slice t x none none none,ty,pos,af,g⟩).run P w=.ok (.value (.slice (some ⟨b,off,none⟩) n n)) w:=by
 have h2:P.arrayLen t=n:=by simp[Program.arrayLen,hu]
 have h3:P.elem t=e:=by simp[Program.elem,hu]
 have hu':P.underlying t=some (.array (P.arrayLen t) (P.elem t)):=by rw[h2,h3];exact hu
 have:=run_sliceAt_array_all (P:=P) w t ⟨b,off,none⟩ hu';rw[h2,h3,run_sizeOf hs] at this;simp only[execOp,hx,Option.map_none,this,Sem.run_bind,Result.andThen_ok,Sem.run_pure,slicedAt];rw[if_neg om];simp[add_plain]
end
theorem take_int {zs:List Int}{j:Nat}(h:j<zs.length):zs.take (j+1)=zs.take j++[zs.getD j 0]:=by
 rw[List.take_add_one,List.getElem?_eq_getElem h];simp[List.getD,List.getElem?_eq_getElem h]
theorem int_mem {zs:List Int}{j:Nat}(h:j<zs.length):zs.getD j 0∈zs:=by simp[List.getD,List.getElem?_eq_getElem h]
theorem ints_getD {zs:List Int}{j:Nat}(h:j<zs.length):(ints zs)[j]? =some (.int .i64 (zs.getD j 0)):=by simp[ints,List.getD,List.getElem?_eq_getElem h]
def bldV (v0:Value) (base b:Nat) (v:Value) (bs:List UInt8):HB:=⟨fun k=>(k=b∨v.ownBlock=some k)∨v0.ownBlock=some k,(bldR base b v bs).F,false,none,fun _ _ h=>by cases h⟩
theorem bldV_ok (v0:Value) (base b:Nat) (v:Value) (bs:List UInt8):(bldV v0 base b v bs).ok:=fun w1 w2 h hk hs=>bldG_ok _ _ _ _ _ _ w1 w2 h (fun k hf=>hk k (.inl hf)) hs
theorem Hp.takeBld {w:World}{base b:Nat}{v:Value}{bs:List UInt8}(h:(bldR base b v bs).F w):Hp w w [bldV v base b v bs] []:=
 (Hp.start w).add (bldV v base b v bs) h (bldV_ok _ _ _ _ _) (fun k hk=>bldG_lt h k (hk.elim id fun h=>.inr h)) (fun _ _=>⟨(fun _ h=>by cases h),(fun _ h=>by cases h)⟩) fun h=>by cases h
theorem Hp.wroteV {w0 w w':World}{L:List HB}{K:List FK}(H:Hp w0 w L K) (i:Nat) {base b:Nat}{v0 v v':Value}{bs bs':List UInt8}(hi:L[i]? =some (bldV v0 base b v bs)) (L':List HB) (hL:L.set i (bldV v0 base b v' bs')=L') (hF:(bldR base b v' bs').F w') (hag:Agree w w' (bldR base b v bs).fp) (hv:∀k,v'.ownBlock=some k→v.ownBlock=some k∨w.heap.size≤k) (hvv:∀k,v.ownBlock=some k→v0.ownBlock=some k∨w0.heap.size≤k):Hp w0 w' L' K:=by
 have hr:=(H.res _ (List.mem_of_getElem? hi)).2.2;refine H.mut i hi _ L' hL ⟨hag.os,hag.tape,hag.output,hag.size,fun k hk hf=>hag.block k hk fun h=>hf (.inl h)⟩ hF (bldV_ok _ _ _ _ _) (fun k hk=>?_) (fun k hk=>?_) (fun k hk hx=>?_) rfl
 ·rcases hk with hk|hk
  ·exact bldG_lt hF k hk
  ·exact Nat.lt_of_lt_of_le (hr k (.inr hk)) hag.size
 ·rcases hk with(hk|hk)|hk
  ·exact .inl (.inl (.inl hk))
  ·rcases hv k hk with h|h
   ·exact .inl (.inl (.inr h))
   ·exact .inr h
  ·exact .inl (.inr hk)
 ·rcases hx with(hx|hx)|hx
  ·exact .inl (.inl hx)
  ·rcases hvv k hx with h|h
   ·exact .inr h
   ·omega
  ·exact .inr hx
theorem Hp.endBld {w w':World}{K:List FK}{base b:Nat}{v0 v:Value}{bs bs':List UInt8}(H:Hp w w' [bldV v0 base b v bs'] K) (hvv:∀k,v.ownBlock=some k→v0.ownBlock=some k∨w.heap.size≤k):Agree w w' (bldR base b v0 bs).fp:=
 ⟨H.os,H.tape,H.output,H.size,fun k hk hf=>H.old k hk fun x hx=>by
  simp only[List.mem_singleton] at hx
  subst hx
  rintro((h|h)|h)
  ·exact hf (.inl h)
  ·rcases hvv k h with h'|h'
   ·exact hf (.inr h')
   ·omega
  ·exact hf (.inr h)⟩
theorem uvalid_any (u:Un) (w:World) (hu:IsAlts w u.A u.al.length u.al) (hm:u.al.length≤maxLen):
  Calls Tryz.prog 50 #[u.val] w fun e w'=>e=.returned (.bool (validU u))∧Below w.heap.size w w':=by
 have HP:=Hp.start w;refine w_enter 82 [(0,(.agg (ua u u.A u.c)))] Tryz.func50 rfl Tryz.ntmps50 kr kr fun a H=>zq<|H.al HP 1 76 (ul u u.A u.c) fun b_1 w_2 a H HP=>H.gz HP [(2,zF)] fun a H=>zsq<|zbk<|zq<|H.go HP 4 [(4,(pt b_1 0)),(5,(ii u.channel)),(7,(.bool (decide (u.channel<0))))] [0] fun a H=>H.split 7 rfl (fun g7 H=>?_) (fun g7 H=>?_)
 ·have g7p:=of_decide_eq_true g7;refine H.gz HP [(3,zT)] fun a H=>w_ift H rfl<|zq<|H.gz HP [(2,zF)] fun a H=>zrt<|zibr<|ztr<|H.r1 zF Tryz.results50 ?_;exact⟨by unfold validU;rw[show fieldsOk u=false from decide_eq_false om];rfl,HP.bl⟩
 have g7p:=of_decide_eq_false g7;refine H.gy HP [(3,(.bool (decide (u.channel≥40))))] [0] fun a H=>w_if H rfl (fun g3=>?_) (fun g3=>?_)
 ·have g3p:=of_decide_eq_true g3;refine zq<|H.gz HP [(2,zF)] fun a H=>zrt<|zibr<|ztr<|H.r1 zF Tryz.results50 ?_;exact⟨by unfold validU;rw[show fieldsOk u=false from decide_eq_false om];rfl,HP.bl⟩
 have g3p:=of_decide_eq_false g3;refine zq<|H.go HP 4 [(16,(.bool (decide (u.frame<0))))] [0] fun a H=>H.split 16 rfl (fun g16 H=>?_) (fun g16 H=>?_)
 ·have g16p:=of_decide_eq_true g16;refine H.gz HP [(12,zT)] fun a H=>w_ift H rfl<|zq<|H.gz HP [(2,zF)] fun a H=>zrt<|zibr<|ztr<|H.r1 zF Tryz.results50 ?_;exact⟨by unfold validU;rw[show fieldsOk u=false from decide_eq_false om];rfl,HP.bl⟩
 have g16p:=of_decide_eq_false g16;refine H.go HP 5 [(21,(.bool (decide (u.frame>100000000))))] [0] fun a H=>H.split 21 rfl (fun g21 H=>?_) (fun g21 H=>?_)
 ·have g21p:=of_decide_eq_true g21;refine H.gz HP [(12,zT)] fun a H=>w_ift H rfl<|zq<|H.gz HP [(2,zF)] fun a H=>zrt<|zibr<|ztr<|H.r1 zF Tryz.results50 ?_;exact⟨by unfold validU;rw[show fieldsOk u=false from decide_eq_false om];rfl,HP.bl⟩
 have g21p:=of_decide_eq_false g21;refine H.go HP 5 [(26,(.bool (decide (u.index<0))))] [0] fun a H=>H.split 26 rfl (fun g26 H=>?_) (fun g26 H=>?_)
 ·have g26p:=of_decide_eq_true g26;refine H.gz HP [(12,zT)] fun a H=>w_ift H rfl<|zq<|H.gz HP [(2,zF)] fun a H=>zrt<|zibr<|ztr<|H.r1 zF Tryz.results50 ?_;exact⟨by unfold validU;rw[show fieldsOk u=false from decide_eq_false om];rfl,HP.bl⟩
 have g26p:=of_decide_eq_false g26;refine H.gy HP [(12,(.bool (decide (u.index>100000000))))] [0] fun a H=>w_if H rfl (fun g12=>?_) (fun g12=>?_)
 ·have g12p:=of_decide_eq_true g12;refine zq<|H.gz HP [(2,zF)] fun a H=>zrt<|zibr<|ztr<|H.r1 zF Tryz.results50 ?_;exact⟨by unfold validU;rw[show fieldsOk u=false from decide_eq_false om];rfl,HP.bl⟩
 have g12p:=of_decide_eq_false g12;refine zq<|H.go HP 4 [(35,(.bool (decide (u.version<0))))] [0] fun a H=>H.split 35 rfl (fun g35 H=>?_) (fun g35 H=>?_)
 ·have g35p:=of_decide_eq_true g35;refine H.gz HP [(31,zT)] fun a H=>w_ift H rfl<|zq<|H.gz HP [(2,zF)] fun a H=>zrt<|zibr<|ztr<|H.r1 zF Tryz.results50 ?_;exact⟨by unfold validU;rw[show fieldsOk u=false from decide_eq_false om];rfl,HP.bl⟩
 have g35p:=of_decide_eq_false g35;refine H.go HP 5 [(40,(.bool (decide (u.version>4611686018427387903))))] [0] fun a H=>H.split 40 rfl (fun g40 H=>?_) (fun g40 H=>?_)
 ·have g40p:=of_decide_eq_true g40;refine H.gz HP [(31,zT)] fun a H=>w_ift H rfl<|zq<|H.gz HP [(2,zF)] fun a H=>zrt<|zibr<|ztr<|H.r1 zF Tryz.results50 ?_;exact⟨by unfold validU;rw[show fieldsOk u=false from decide_eq_false om];rfl,HP.bl⟩
 have g40p:=of_decide_eq_false g40;refine H.go HP 5 [(45,(.bool (decide (u.item<0))))] [0] fun a H=>H.split 45 rfl (fun g45 H=>?_) (fun g45 H=>?_)
 ·have g45p:=of_decide_eq_true g45;refine H.gz HP [(31,zT)] fun a H=>w_ift H rfl<|zq<|H.gz HP [(2,zF)] fun a H=>zrt<|zibr<|ztr<|H.r1 zF Tryz.results50 ?_;exact⟨by unfold validU;rw[show fieldsOk u=false from decide_eq_false om];rfl,HP.bl⟩
 have g45p:=of_decide_eq_false g45;refine H.gy HP [(31,(.bool (decide (u.item>4611686018427387903))))] [0] fun a H=>w_if H rfl (fun g31=>?_) (fun g31=>?_)
 ·have g31p:=of_decide_eq_true g31;refine zq<|H.gz HP [(2,zF)] fun a H=>zrt<|zibr<|ztr<|H.r1 zF Tryz.results50 ?_;exact⟨by unfold validU;rw[show fieldsOk u=false from decide_eq_false om];rfl,HP.bl⟩
 have g31p:=of_decide_eq_false g31;refine zq<|H.go HP 5 [(55,(.bool (decide ((u.data.length:Int)>400))))] [0] fun a H=>H.split 55 rfl (fun g55 H=>?_) (fun g55 H=>?_)
 ·have g55p:=of_decide_eq_true g55;refine H.gz HP [(50,zT)] fun a H=>w_ift H rfl<|zq<|H.gz HP [(2,zF)] fun a H=>zrt<|zibr<|ztr<|H.r1 zF Tryz.results50 ?_;exact⟨by unfold validU;rw[show fieldsOk u=false from decide_eq_false om];rfl,HP.bl⟩
 have g55p:=of_decide_eq_false g55;refine H.gy HP [(50,(.bool ((u.caption.length:Int) != 3)))] [0] fun a H=>w_if H rfl (fun g50=>?_) (fun g50=>?_)
 ·have g50p:=bne_iff_ne.1 g50;refine zq<|H.gz HP [(2,zF)] fun a H=>zrt<|zibr<|ztr<|H.r1 zF Tryz.results50 ?_;exact⟨by unfold validU;rw[show fieldsOk u=false from decide_eq_false om];rfl,HP.bl⟩
 have g50p:=eq_of_bne_false g50;refine zq<|H.go HP 4 [(65,(.bool (decide (u.regions<0))))] [0] fun a H=>H.split 65 rfl (fun g65 H=>?_) (fun g65 H=>?_)
 ·have g65p:=of_decide_eq_true g65;refine H.gz HP [(61,zT)] fun a H=>w_ift H rfl<|zq<|H.gz HP [(2,zF)] fun a H=>zrt<|zibr<|ztr<|H.r1 zF Tryz.results50 ?_;exact⟨by unfold validU;rw[show fieldsOk u=false from decide_eq_false om];rfl,HP.bl⟩
 have g65p:=of_decide_eq_false g65;refine H.gy HP [(61,(.bool (decide (u.regions>255))))] [0] fun a H=>w_if H rfl (fun g61=>?_) (fun g61=>?_)
 ·have g61p:=of_decide_eq_true g61;refine zq<|H.gz HP [(2,zF)] fun a H=>zrt<|zibr<|ztr<|H.r1 zF Tryz.results50 ?_;exact⟨by unfold validU;rw[show fieldsOk u=false from decide_eq_false om];rfl,HP.bl⟩
 have g61p:=of_decide_eq_false g61;refine zq<|H.go HP 4 [(74,(.bool (decide (u.gain<250))))] [0] fun a H=>H.split 74 rfl (fun g74 H=>?_) (fun g74 H=>?_)
 ·have g74p:=of_decide_eq_true g74;refine H.gz HP [(70,zT)] fun a H=>w_ift H rfl<|zq<|H.gz HP [(2,zF)] fun a H=>zrt<|zibr<|ztr<|H.r1 zF Tryz.results50 ?_;exact⟨by unfold validU;rw[show fieldsOk u=false from decide_eq_false om];rfl,HP.bl⟩
 have g74p:=of_decide_eq_false g74;refine H.gy HP [(70,(.bool (decide (u.gain>4000))))] [0] fun a H=>w_if H rfl (fun g70=>?_) (fun g70=>?_)
 ·have g70p:=of_decide_eq_true g70;refine zq<|H.gz HP [(2,zF)] fun a H=>zrt<|zibr<|ztr<|H.r1 zF Tryz.results50 ?_;exact⟨by unfold validU;rw[show fieldsOk u=false from decide_eq_false om];rfl,HP.bl⟩
 have g70p:=of_decide_eq_false g70;refine zsk<|zibn<|zt<|H.go HP 2 [(80,(.agg #[(ii u.os),(ii u.of),(sL u.A u.al.length u.c)]))] [0] fun a H=>H.cb HP 81 (Tryz.call84 _ _) (valid_any u.os u.of u.A u.al.length u.c u.al w_2 (hu.below HP.bl)) fun w_3 hb a H HP=>H.gz HP [(2,(.bool (validP u.os u.of u.al)))] fun a H=>zrt<|H.r1 (.bool (validP u.os u.of u.al)) Tryz.results50 ?_;exact⟨by unfold validU;rw[show fieldsOk u=true from decide_eq_true om];rfl,HP.bl⟩
theorem ruvalid_any (u:Un) (w:World) (hu:IsAlts w u.A u.al.length u.al) (hm:u.al.length≤maxLen):
  Calls Tryz.prog 177 #[u.val] w fun e w'=>e=.returned (.bool (validU u))∧Below w.heap.size w w':=by
 have HP:=Hp.start w;refine w_enter 84 [(0,(.agg (ua u u.A u.c)))] Tryz.func177 rfl Tryz.ntmps177 kr kr fun a H=>zq<|H.al HP 1 76 (ul u u.A u.c) fun b_1 w_2 a H HP=>H.gz HP [(2,zF)] fun a H=>zsq<|zq<|H.go HP 4 [(3,(pt b_1 0)),(4,(ii u.channel)),(5,(.bool (decide (u.channel<0)))),(6,(.bool (decide (u.channel<0))))] [0] fun a H=>H.split 6 rfl (fun g6 H=>?_) (fun g6 H=>?_)
 ·have g6p:=of_decide_eq_true g6;refine H.gz HP [(30,zT)] fun a H=>w_ift H rfl<|zq<|H.gz HP [(2,zF)] fun a H=>zrt<|ztr<|H.r1 zF Tryz.results177 ?_;exact⟨by unfold validU;rw[show fieldsOk u=false from decide_eq_false om];rfl,HP.bl⟩
 have g6p:=of_decide_eq_false g6;refine H.go HP 5 [(11,(.bool (decide (u.channel≥40))))] [0] fun a H=>H.split 11 rfl (fun g11 H=>?_) (fun g11 H=>?_)
 ·have g11p:=of_decide_eq_true g11;refine H.gz HP [(30,zT)] fun a H=>w_ift H rfl<|zq<|H.gz HP [(2,zF)] fun a H=>zrt<|ztr<|H.r1 zF Tryz.results177 ?_;exact⟨by unfold validU;rw[show fieldsOk u=false from decide_eq_false om];rfl,HP.bl⟩
 have g11p:=of_decide_eq_false g11;refine H.go HP 5 [(16,(.bool (decide (u.frame<0))))] [0] fun a H=>H.split 16 rfl (fun g16 H=>?_) (fun g16 H=>?_)
 ·have g16p:=of_decide_eq_true g16;refine H.gz HP [(30,zT)] fun a H=>w_ift H rfl<|zq<|H.gz HP [(2,zF)] fun a H=>zrt<|ztr<|H.r1 zF Tryz.results177 ?_;exact⟨by unfold validU;rw[show fieldsOk u=false from decide_eq_false om];rfl,HP.bl⟩
 have g16p:=of_decide_eq_false g16;refine H.go HP 5 [(21,(.bool (decide (u.frame>100000000))))] [0] fun a H=>H.split 21 rfl (fun g21 H=>?_) (fun g21 H=>?_)
 ·have g21p:=of_decide_eq_true g21;refine H.gz HP [(30,zT)] fun a H=>w_ift H rfl<|zq<|H.gz HP [(2,zF)] fun a H=>zrt<|ztr<|H.r1 zF Tryz.results177 ?_;exact⟨by unfold validU;rw[show fieldsOk u=false from decide_eq_false om];rfl,HP.bl⟩
 have g21p:=of_decide_eq_false g21;refine H.go HP 5 [(26,(.bool (decide (u.index<0))))] [0] fun a H=>H.split 26 rfl (fun g26 H=>?_) (fun g26 H=>?_)
 ·have g26p:=of_decide_eq_true g26;refine H.gz HP [(30,zT)] fun a H=>w_ift H rfl<|zq<|H.gz HP [(2,zF)] fun a H=>zrt<|ztr<|H.r1 zF Tryz.results177 ?_;exact⟨by unfold validU;rw[show fieldsOk u=false from decide_eq_false om];rfl,HP.bl⟩
 have g26p:=of_decide_eq_false g26;refine H.gy HP [(30,(.bool (decide (u.index>100000000))))] [0] fun a H=>w_if H rfl (fun g30=>?_) (fun g30=>?_)
 ·have g30p:=of_decide_eq_true g30;refine zq<|H.gz HP [(2,zF)] fun a H=>zrt<|ztr<|H.r1 zF Tryz.results177 ?_;exact⟨by unfold validU;rw[show fieldsOk u=false from decide_eq_false om];rfl,HP.bl⟩
 have g30p:=of_decide_eq_false g30;refine zsk<|ztn<|zsq<|zq<|H.go HP 4 [(34,(.bool (decide (u.version<0))))] [0] fun a H=>H.split 34 rfl (fun g34 H=>?_) (fun g34 H=>?_)
 ·have g34p:=of_decide_eq_true g34;refine H.gz HP [(64,zT)] fun a H=>w_ift H rfl<|zq<|H.gz HP [(2,zF)] fun a H=>zrt<|ztr<|H.r1 zF Tryz.results177 ?_;exact⟨by unfold validU;rw[show fieldsOk u=false from decide_eq_false om];rfl,HP.bl⟩
 have g34p:=of_decide_eq_false g34;refine H.go HP 5 [(39,(.bool (decide (u.version>4611686018427387903))))] [0] fun a H=>H.split 39 rfl (fun g39 H=>?_) (fun g39 H=>?_)
 ·have g39p:=of_decide_eq_true g39;refine H.gz HP [(64,zT)] fun a H=>w_ift H rfl<|zq<|H.gz HP [(2,zF)] fun a H=>zrt<|ztr<|H.r1 zF Tryz.results177 ?_;exact⟨by unfold validU;rw[show fieldsOk u=false from decide_eq_false om];rfl,HP.bl⟩
 have g39p:=of_decide_eq_false g39;refine H.go HP 5 [(44,(.bool (decide (u.item<0))))] [0] fun a H=>H.split 44 rfl (fun g44 H=>?_) (fun g44 H=>?_)
 ·have g44p:=of_decide_eq_true g44;refine H.gz HP [(64,zT)] fun a H=>w_ift H rfl<|zq<|H.gz HP [(2,zF)] fun a H=>zrt<|ztr<|H.r1 zF Tryz.results177 ?_;exact⟨by unfold validU;rw[show fieldsOk u=false from decide_eq_false om];rfl,HP.bl⟩
 have g44p:=of_decide_eq_false g44;refine H.go HP 5 [(49,(.bool (decide (u.item>4611686018427387903))))] [0] fun a H=>H.split 49 rfl (fun g49 H=>?_) (fun g49 H=>?_)
 ·have g49p:=of_decide_eq_true g49;refine H.gz HP [(64,zT)] fun a H=>w_ift H rfl<|zq<|H.gz HP [(2,zF)] fun a H=>zrt<|ztr<|H.r1 zF Tryz.results177 ?_;exact⟨by unfold validU;rw[show fieldsOk u=false from decide_eq_false om];rfl,HP.bl⟩
 have g49p:=of_decide_eq_false g49;refine H.go HP 6 [(55,(.bool (decide ((u.data.length:Int)>400))))] [0] fun a H=>H.split 55 rfl (fun g55 H=>?_) (fun g55 H=>?_)
 ·have g55p:=of_decide_eq_true g55;refine H.gz HP [(64,zT)] fun a H=>w_ift H rfl<|zq<|H.gz HP [(2,zF)] fun a H=>zrt<|ztr<|H.r1 zF Tryz.results177 ?_;exact⟨by unfold validU;rw[show fieldsOk u=false from decide_eq_false om];rfl,HP.bl⟩
 have g55p:=of_decide_eq_false g55;refine H.go HP 5 [(60,(.bool (decide (u.regions<0))))] [0] fun a H=>H.split 60 rfl (fun g60 H=>?_) (fun g60 H=>?_)
 ·have g60p:=of_decide_eq_true g60;refine H.gz HP [(64,zT)] fun a H=>w_ift H rfl<|zq<|H.gz HP [(2,zF)] fun a H=>zrt<|ztr<|H.r1 zF Tryz.results177 ?_;exact⟨by unfold validU;rw[show fieldsOk u=false from decide_eq_false om];rfl,HP.bl⟩
 have g60p:=of_decide_eq_false g60;refine H.gy HP [(64,(.bool (decide (u.regions>255))))] [0] fun a H=>w_if H rfl (fun g64=>?_) (fun g64=>?_)
 ·have g64p:=of_decide_eq_true g64;refine zq<|H.gz HP [(2,zF)] fun a H=>zrt<|ztr<|H.r1 zF Tryz.results177 ?_;exact⟨by unfold validU;rw[show fieldsOk u=false from decide_eq_false om];rfl,HP.bl⟩
 have g64p:=of_decide_eq_false g64;refine zsk<|zt<|H.go HP 4 [(68,(.bool (decide (u.gain≥250))))] [0] fun a H=>H.split 68 rfl (fun g68 H=>?_) (fun g68 H=>?_)
 ·have g68p:=of_decide_eq_true g68;refine H.go HP 5 [(73,(.bool (decide (u.gain≤4000))))] [0] fun a H=>H.split 73 rfl (fun g73 H=>?_) (fun g73 H=>?_)
  ·have g73p:=of_decide_eq_true g73;refine H.go HP 6 [(79,(.bool ((u.caption.length:Int) == 3)))] [0] fun a H=>H.split 79 rfl (fun g79 H=>?_) (fun g79 H=>?_)
   ·have g79p:=eq_of_beq g79;refine H.go HP 2 [(81,(.agg #[(ii u.os),(ii u.of),(sL u.A u.al.length u.c)]))] [0] fun a H=>H.cb HP 82 (Tryz.call176 _ _) (rvalid_any u.os u.of u.A u.al.length u.c u.al w_2 (hu.below HP.bl) hm) fun w_3 hb a H HP=>H.gz HP [(2,(.bool (validP u.os u.of u.al)))] fun a H=>zrt<|H.r1 (.bool (validP u.os u.of u.al)) Tryz.results177 ?_;exact⟨by unfold validU;rw[show fieldsOk u=true from decide_eq_true om];rfl,HP.bl⟩
   have g79p:=ne_of_beq_false g79;refine H.gz HP [(2,zF)] fun a H=>zrt<|H.r1 zF Tryz.results177 ?_;exact⟨by unfold validU;rw[show fieldsOk u=false from decide_eq_false om];rfl,HP.bl⟩
  have g73p:=of_decide_eq_false g73;refine H.gz HP [(2,zF)] fun a H=>zrt<|H.r1 zF Tryz.results177 ?_;exact⟨by unfold validU;rw[show fieldsOk u=false from decide_eq_false om];rfl,HP.bl⟩
 have g68p:=of_decide_eq_false g68;refine H.gz HP [(2,zF)] fun a H=>zrt<|H.r1 zF Tryz.results177 ?_;exact⟨by unfold validU;rw[show fieldsOk u=false from decide_eq_false om];rfl,HP.bl⟩
theorem clock_any (t:Nat) (w:World) (ht:t<9223372036854775808):
  Calls Tryz.prog 86 #[.int .i64 (t:Int)] w fun e w'=>e=.returned (sS (clockP t))∧Below w.heap.size w w':=by
 have HP:=Hp.start w
 refine w_enter 19 [(0,(ii t))] Tryz.func86 rfl Tryz.ntmps86 kr kr fun a H=>zq<|H.gz HP [(2,zS)] fun a H=>zq<|H.al HP 3 245 [(.int .u8 0),(.int .u8 0),(.int .u8 0),(.int .u8 0),(.int .u8 0)] fun b_1 w_2 a H HP=>znl<|ztn<|zsq<|zq<|H.gz HP [(5,zO)] fun a H=>zbk<|w_loop (fun mm a wv=>(mm=5∧Sl 19 [(5,zO),(3,(pt b_1 0)),(0,(ii t)),(2,zS)] a∧Hp w wv [bx b_1 245 [(.int .u8 0),(.int .u8 0),(.int .u8 0),(.int .u8 0),(.int .u8 0)] true] [])∨(mm=4∧Sl 19 [(5,(ii 1)),(3,(pt b_1 0)),(0,(ii t)),(2,zS)] a∧Hp w wv [bx b_1 245 [(.int .u8 0),(.int .u8 0),(.int .u8 0),(.int .u8 0),(.int .u8 ((t/2^0%256:Nat):Int))] true] [])∨(mm=3∧Sl 19 [(5,(ii 2)),(3,(pt b_1 0)),(0,(ii t)),(2,zS)] a∧Hp w wv [bx b_1 245 [(.int .u8 0),(.int .u8 0),(.int .u8 0),(.int .u8 ((t/2^8%256:Nat):Int)),(.int .u8 ((t/2^0%256:Nat):Int))] true] [])∨(mm=2∧Sl 19 [(5,(ii 3)),(3,(pt b_1 0)),(0,(ii t)),(2,zS)] a∧Hp w wv [bx b_1 245 [(.int .u8 0),(.int .u8 0),(.int .u8 ((t/2^16%256:Nat):Int)),(.int .u8 ((t/2^8%256:Nat):Int)),(.int .u8 ((t/2^0%256:Nat):Int))] true] [])∨(mm=1∧Sl 19 [(5,(ii 4)),(3,(pt b_1 0)),(0,(ii t)),(2,zS)] a∧Hp w wv [bx b_1 245 [(.int .u8 0),(.int .u8 ((t/2^24%256:Nat):Int)),(.int .u8 ((t/2^16%256:Nat):Int)),(.int .u8 ((t/2^8%256:Nat):Int)),(.int .u8 ((t/2^0%256:Nat):Int))] true] [])∨(mm=0∧Sl 19 [(5,(ii 5)),(3,(pt b_1 0)),(0,(ii t)),(2,zS)] a∧Hp w wv [bx b_1 245 [(.int .u8 ((t/2^32%256:Nat):Int)),(.int .u8 ((t/2^24%256:Nat):Int)),(.int .u8 ((t/2^16%256:Nat):Int)),(.int .u8 ((t/2^8%256:Nat):Int)),(.int .u8 ((t/2^0%256:Nat):Int))] true] [])) 5 (.inl ⟨rfl,H.keep kr,HP⟩) ?_
 rintro mm a w_3 (⟨rfl,H,HP⟩|⟨rfl,H,HP⟩|⟨rfl,H,HP⟩|⟨rfl,H,HP⟩|⟨rfl,H,HP⟩|⟨rfl,H,HP⟩)
 ·refine zq<|H.gz HP [(6,zT)] fun a H=>zsq<|w_ift H rfl<|zsk<|ztn<|zsq<|zbk<|zq<|H.gz HP [(4,zO)] fun a H=>zrg<|H.gn HP 1 [(8,zO)] fun a H=>H.valE 9 (ii (IntKind.i64.wrap (4-0))) (ii 4) kr kr kr fun a H=>H.gn HP 2 [(10,(ii t)),(11,zO)] fun a H=>H.valE 12 (ii (IntKind.i64.wrap (8*0))) zO kr kr kr fun a H=>H.valE 13 (ii ((t:Int).fdiv (2^0))) (ii ((t/2^0:Nat):Int)) kr kr (congrArg (Value.int .i64) (shr_nat (a:=t) (c:=0))) fun a H=>H.valE 14 (.int .u8 (IntKind.u8.wrap ((t/2^0:Nat):Int))) (.int .u8 ((t/2^0%256:Nat):Int)) kr kr (congrArg (Value.int .u8) (wrap_u8_nat _)) fun a H=>H.v 15 (pt b_1 4) fun a H=>H.sh HP 0 4 (.int .u8 ((t/2^0%256:Nat):Int)) rfl fun w_4 a H HP=>znl<|zibn<|ztn<|zrg<|H.valE 16 (ii (IntKind.i64.wrap (0+1))) (ii 1) kr kr kr fun a H=>H.ge HP [(5,(ii 1))] [] fun a H=>ztn ?_;exact⟨4,om,.inr (.inl ⟨rfl,H.keep kr,HP⟩)⟩
 ·refine zq<|H.gz HP [(6,zT)] fun a H=>zsq<|w_ift H rfl<|zsk<|ztn<|zsq<|zbk<|zq<|H.gz HP [(4,(ii 1))] fun a H=>zrg<|H.gn HP 1 [(8,(ii 1))] fun a H=>H.valE 9 (ii (IntKind.i64.wrap (4-1))) (ii 3) kr kr kr fun a H=>H.gn HP 2 [(10,(ii t)),(11,(ii 1))] fun a H=>H.valE 12 (ii (IntKind.i64.wrap (8*1))) (ii 8) kr kr kr fun a H=>H.valE 13 (ii ((t:Int).fdiv (2^8))) (ii ((t/2^8:Nat):Int)) kr kr (congrArg (Value.int .i64) (shr_nat (a:=t) (c:=8))) fun a H=>H.valE 14 (.int .u8 (IntKind.u8.wrap ((t/2^8:Nat):Int))) (.int .u8 ((t/2^8%256:Nat):Int)) kr kr (congrArg (Value.int .u8) (wrap_u8_nat _)) fun a H=>H.v 15 (pt b_1 3) fun a H=>H.sh HP 0 3 (.int .u8 ((t/2^8%256:Nat):Int)) rfl fun w_5 a H HP=>znl<|zibn<|ztn<|zrg<|H.valE 16 (ii (IntKind.i64.wrap (1+1))) (ii 2) kr kr kr fun a H=>H.ge HP [(5,(ii 2))] [] fun a H=>ztn ?_
  exact⟨3,om,.inr (.inr (.inl ⟨rfl,H.keep kr,HP⟩))⟩
 ·refine zq<|H.gz HP [(6,zT)] fun a H=>zsq<|w_ift H rfl<|zsk<|ztn<|zsq<|zbk<|zq<|H.gz HP [(4,(ii 2))] fun a H=>zrg<|H.gn HP 1 [(8,(ii 2))] fun a H=>H.valE 9 (ii (IntKind.i64.wrap (4-2))) (ii 2) kr kr kr fun a H=>H.gn HP 2 [(10,(ii t)),(11,(ii 2))] fun a H=>H.valE 12 (ii (IntKind.i64.wrap (8*2))) (ii 16) kr kr kr fun a H=>H.valE 13 (ii ((t:Int).fdiv (2^16))) (ii ((t/2^16:Nat):Int)) kr kr (congrArg (Value.int .i64) (shr_nat (a:=t) (c:=16))) fun a H=>H.valE 14 (.int .u8 (IntKind.u8.wrap ((t/2^16:Nat):Int))) (.int .u8 ((t/2^16%256:Nat):Int)) kr kr (congrArg (Value.int .u8) (wrap_u8_nat _)) fun a H=>H.v 15 (pt b_1 2) fun a H=>H.sh HP 0 2 (.int .u8 ((t/2^16%256:Nat):Int)) rfl fun w_6 a H HP=>znl<|zibn<|ztn<|zrg<|H.valE 16 (ii (IntKind.i64.wrap (2+1))) (ii 3) kr kr kr fun a H=>H.ge HP [(5,(ii 3))] [] fun a H=>ztn ?_
  exact⟨2,om,.inr (.inr (.inr (.inl ⟨rfl,H.keep kr,HP⟩)))⟩
 ·refine zq<|H.gz HP [(6,zT)] fun a H=>zsq<|w_ift H rfl<|zsk<|ztn<|zsq<|zbk<|zq<|H.gz HP [(4,(ii 3))] fun a H=>zrg<|H.gn HP 1 [(8,(ii 3))] fun a H=>H.valE 9 (ii (IntKind.i64.wrap (4-3))) (ii 1) kr kr kr fun a H=>H.gn HP 2 [(10,(ii t)),(11,(ii 3))] fun a H=>H.valE 12 (ii (IntKind.i64.wrap (8*3))) (ii 24) kr kr kr fun a H=>H.valE 13 (ii ((t:Int).fdiv (2^24))) (ii ((t/2^24:Nat):Int)) kr kr (congrArg (Value.int .i64) (shr_nat (a:=t) (c:=24))) fun a H=>H.valE 14 (.int .u8 (IntKind.u8.wrap ((t/2^24:Nat):Int))) (.int .u8 ((t/2^24%256:Nat):Int)) kr kr (congrArg (Value.int .u8) (wrap_u8_nat _)) fun a H=>H.v 15 (pt b_1 1) fun a H=>H.sh HP 0 1 (.int .u8 ((t/2^24%256:Nat):Int)) rfl fun w_7 a H HP=>znl<|zibn<|ztn<|zrg<|H.valE 16 (ii (IntKind.i64.wrap (3+1))) (ii 4) kr kr kr fun a H=>H.ge HP [(5,(ii 4))] [] fun a H=>ztn ?_
  exact⟨1,om,.inr (.inr (.inr (.inr (.inl ⟨rfl,H.keep kr,HP⟩))))⟩
 ·refine zq<|H.gz HP [(6,zT)] fun a H=>zsq<|w_ift H rfl<|zsk<|ztn<|zsq<|zbk<|zq<|H.gz HP [(4,(ii 4))] fun a H=>zrg<|H.gn HP 1 [(8,(ii 4))] fun a H=>H.valE 9 (ii (IntKind.i64.wrap (4-4))) zO kr kr kr fun a H=>H.gn HP 2 [(10,(ii t)),(11,(ii 4))] fun a H=>H.valE 12 (ii (IntKind.i64.wrap (8*4))) (ii 32) kr kr kr fun a H=>H.valE 13 (ii ((t:Int).fdiv (2^32))) (ii ((t/2^32:Nat):Int)) kr kr (congrArg (Value.int .i64) (shr_nat (a:=t) (c:=32))) fun a H=>H.valE 14 (.int .u8 (IntKind.u8.wrap ((t/2^32:Nat):Int))) (.int .u8 ((t/2^32%256:Nat):Int)) kr kr (congrArg (Value.int .u8) (wrap_u8_nat _)) fun a H=>H.v 15 (pt b_1 0) fun a H=>H.sh HP 0 0 (.int .u8 ((t/2^32%256:Nat):Int)) rfl fun w_8 a H HP=>znl<|zibn<|ztn<|zrg<|H.valE 16 (ii (IntKind.i64.wrap (4+1))) (ii 5) kr kr kr fun a H=>H.ge HP [(5,(ii 5))] [] fun a H=>ztn ?_
  exact⟨0,om,.inr (.inr (.inr (.inr (.inr (⟨rfl,H.keep kr,HP⟩)))))⟩
 refine zq<|H.gz HP [(6,zF)] fun a H=>zsq<|w_iff H rfl<|wp_exit<|then_exit<|then_exit<|w_exit_here<|zt<|H.u 17 (sB b_1 5 5) (ex_arrslice (n:=5) (e:=5) (sz:=1) kr kr om kr) fun a H=>H.u 18 (sS (clockP t)) (ex_b2sR (l:=(clockP t)) (e:=5) (m:=5) (c:=5) kr (clock_rd (HP.at_ 0 rfl)) kr kr kr) fun a H=>H.gz HP [(2,(sS (clockP t)))] fun a H=>zrt<|H.r1 (sS (clockP t)) Tryz.results86 ?_;exact⟨rfl,HP.bl⟩
theorem number_any (base b:Nat) (v:Value) (bs:List UInt8) (A:Option Addr) (n c:Nat) (zs:List Int) (w:World) (hB:(bldR base b v bs).F w) (hz:Rd w 1 A n (ints zs)) (hd:∀k,rowFp n A k→k≠b∧v.ownBlock≠some k) (hzb:∀z∈zs,-wmax≤z∧z≤wmax) (hn:n≤1000) (hlen:bs.length≤1000000) (hbase:base≤w.heap.size):
  Calls Tryz.prog 137 #[.slice A n c,.pointer (some ⟨b,0,none⟩)] w fun e w'=>e=.returned (.tuple #[])∧∃v',(bldR base b v' (bs++encInts zs)).F w'∧Agree w w' (bldR base b v bs).fp∧∀k,v'.ownBlock=some k→v.ownBlock=some k∨w.heap.size≤k:=by
 have hzl:zs.length=n:=by have:=hz.1;simp[ints] at this;exact this
 have HP:=(Hp.takeBld hB).keepF ⟨rowFp n A,fun w=>Rd w 1 A n (ints zs)⟩ hz (fun _ _ h hk hs=>h.keep hk hs) (fun k hk=>⟨row_lt0 hz hk,by
  intro x hx;simp only[List.mem_singleton] at hx;subst hx;rintro((h|h)|h)
  ·exact(hd k hk).1 h
  ·exact(hd k hk).2 h
  ·exact(hd k hk).2 h⟩)
 refine w_enter 21 [(0,(sL A n c)),(1,(pt b 0))] Tryz.func137 rfl Tryz.ntmps137 kr kr fun a H=>zq<|H.gz HP [(7,(sL A n c)),(8,(ii n)),(9,zO)] fun a H=>zbk<|w_loop (fun mm a wv=>∃(j:Nat),∃(v1:Value),n-j=mm∧Sl 21 [(9,(ii j)),(8,(ii n)),(7,(sL A n c)),(1,(pt b 0))] a∧Hp w wv [(bldV v base b v1 (bs++encInts (zs.take j)))] [⟨rowFp n A,fun w=>Rd w 1 A n (ints zs)⟩]∧(j≤n)∧(∀k,v1.ownBlock=some k→v.ownBlock=some k∨w.heap.size≤k)) (n-0) ?_ ?_
 ·exact⟨0,v,om,H.keep kr,(by rw[List.take_zero,show encInts []=[] from rfl,List.append_nil];exact HP),om,(fun k hk=>.inl hk)⟩
 rintro mm a w_1 ⟨j,v1,hmeas,H,HP,hj,hvv⟩;refine zq<|H.gz HP [(10,(.bool (decide ((j:Int)<(n:Int)))))] fun a H=>zsq<|w_if H rfl (fun g10=>?_) (fun g10=>?_)
 ·have g10p:=of_decide_eq_true g10;refine zsk (ztn (zsq (zbk (zsq ?_))));have hRD:=HP.fact 0 rfl;obtain⟨b0,off,hA,hbl,hcell⟩:=hRD.2.resolve_left om;subst hA;have pa:w_1.cell? ⟨b0,off+j*1,none⟩=some (ii (zs.getD j 0)):=by rw[Nat.mul_one,hcell j om];exact ints_getD om
  have hzj:=hzb (zs.getD j 0) (int_mem om);refine zrg<|H.u 11 (.pointer (some ⟨b0,off+j*1,none⟩)) (ex_index (b:=b0) (off:=off) (len:=n) (cap:=c) (e:=3) (k:=1) (ik:=.i64) (i:=(j:Int)) (m:=j) kr kr om om kr kr) fun a H=>H.u 12 (ii (zs.getD j 0)) (ex_l1 pa) fun a H=>H.gz HP [(4,(ii (zs.getD j 0)))] fun a H=>zq<|H.gn HP 1 [(14,(ii (zs.getD j 0)))] fun a H=>H.cb HP 15 (Tryz.call138 _ _) (putInt_any (zs.getD j 0) w_1 hzj.1 hzj.2) fun w_2 hb a H HP=>?_;have HP0:=HP
  refine H.gz HP [(5,(sS (encInt (zs.getD j 0))))] fun a H=>zrg<|H.gn HP 1 [(18,(sS (encInt (zs.getD j 0))))] fun a H=>H.cl 19 (Tryz.call139 _ _) (writeStr_any base b v1 (bs++encInts (zs.take j)) (encInt (zs.getD j 0)) w_2 (HP.held (x:=bldV v base b v1 (bs++encInts (zs.take j))) 0 rfl) (by have h1:=encInts_len (zs.take j);have h2:=(encInt_len (zs.getD j 0)).2;rw[List.length_append];rw[List.length_take] at h1;omega) (Nat.le_trans hbase HP.size)) ?_;rintro e w_4 ⟨rfl,v_3,hF,hag,hvn⟩;refine⟨_,rfl,?_⟩;intro a H;have HP:=HP.wroteV 0 rfl [(bldV v base b v_3 ((bs++encInts (zs.take j))++(encInt (zs.getD j 0))))] kr hF hag hvn hvv;have hvv_v_3:∀k,(v_3).ownBlock=some k→v.ownBlock=some k∨w.heap.size≤k:=fun k hk=>(hvn k hk).elim (fun h=>hvv k h) (fun h=>.inr (Nat.le_trans HP0.size h))
  refine znl<|zibn<|ztn<|zrg<|H.wi 20 ((j:Int)+1) fun a H=>H.ge HP [(9,(ii ((j:Int)+1)))] [] fun a H=>ztn ?_;have H:=H.as 9 (ii ((j+1:Nat):Int)) rfl rfl;refine⟨_,?_,j+1,v_3,rfl,H.keep kr,(by rw[take_int om,encInts_snoc,←List.append_assoc];exact HP),om,hvv_v_3⟩;omega
 have g10p:=of_decide_eq_false g10;refine wp_exit<|then_exit<|then_exit<|w_exit_here<|H.end0 (fn:=Tryz.f137) Tryz.results137  ?_;exact⟨rfl,v1,by rw[List.take_of_length_le om] at HP;exact HP.held (x:=bldV v base b v1 (bs++encInts zs)) 0 rfl,HP.endBld hvv,hvv⟩
theorem text_any (base b:Nat) (v:Value) (bs l:List UInt8) (w:World) (hB:(bldR base b v bs).F w) (hl:l.length≤65536) (hlen:bs.length≤1000000) (hbase:base≤w.heap.size):
  Calls Tryz.prog 140 #[.string (bstr l),.pointer (some ⟨b,0,none⟩)] w fun e w'=>e=.returned (.tuple #[])∧∃v',(bldR base b v' (bs++encStr l)).F w'∧Agree w w' (bldR base b v bs).fp∧∀k,v'.ownBlock=some k→v.ownBlock=some k∨w.heap.size≤k:=by
 have hvv:∀k,v.ownBlock=some k→v.ownBlock=some k∨w.heap.size≤k:=fun k h=>.inl h;have HP:=Hp.takeBld hB;refine w_enter 12 [(0,(sS l)),(1,(pt b 0))] Tryz.func140 rfl Tryz.ntmps140 kr kr fun a H=>zq<|H.gn HP 1 [(6,(sS l))] fun a H=>H.cb HP 7 (Tryz.call141 _ _) (putString_any l w hl) fun w_1 hb a H HP=>?_;have HP0:=HP;refine H.gz HP [(5,(.tuple #[(sS (encStr l)),zO])),(3,(sS (encStr l))),(4,zO)] fun a H=>zrg<|H.gn HP 1 [(10,(sS (encStr l)))] fun a H=>H.cl 11 (Tryz.call139 _ _) (writeStr_any base b v bs (encStr l) w_1 (HP.held (x:=bldV v base b v bs) 0 rfl) (by unfold encStr;have h2:=(encInt_len (l.length:Int)).2;rw[List.length_append];omega) (Nat.le_trans hbase HP.size)) ?_;rintro e w_3 ⟨rfl,v_2,hF,hag,hvn⟩;refine⟨_,rfl,?_⟩;intro a H;have HP:=HP.wroteV 0 rfl [(bldV v base b v_2 (bs++(encStr l)))] kr hF hag hvn hvv
 have hvv_v_2:∀k,(v_2).ownBlock=some k→v.ownBlock=some k∨w.heap.size≤k:=fun k hk=>(hvn k hk).elim (fun h=>hvv k h) (fun h=>.inr (Nat.le_trans HP0.size h));refine znl<|H.end0 (fn:=Tryz.f140) Tryz.results140  ?_;exact⟨rfl,v_2,HP.held (x:=bldV v base b v_2 (bs++encStr l)) 0 rfl,HP.endBld hvv_v_2,hvv_v_2⟩
theorem body_any (u:Un) (w:World) (hL:Laid w) (hu:IsAlts w u.A u.al.length u.al) (hv:validU u=true):
  Calls Tryz.prog 88 #[u.val] w fun e w'=>e=.returned (sS (bodyP u))∧Below w.heap.size w w':=by
 obtain⟨hvf,hvo⟩:=validU_facts hv;obtain⟨f1,f2,f3,f4,f5,f6,f7,f8,f9,f10,f11,f12,f13,f14,f15,f16⟩:=hvf;have hol:=encOpt_len hvo;have HP:=Hp.start w;refine w_enter 57 [(0,(.agg (ua u u.A u.c)))] Tryz.func88 rfl Tryz.ntmps88 kr kr fun a H=>zq<|H.al HP 1 76 (ul u u.A u.c) fun b_1 w_2 a H HP=>H.gz HP [(2,zS)] fun a H=>zq<|H.al HP 3 138 [(.pointer none),zN] fun b_3 w_4 a H HP=>znl ?_;have HP:=HP.toBld 0 5 rfl [(bldR w.heap.size b_3 zN []),bx b_1 76 (ul u u.A u.c) true] kr
 refine zt<|H.gz HP [(4,(.func (.func 137) #[] #[(pt b_3 0)]))] fun a H=>zq<|H.gz HP [(5,(.func (.func 140) #[] #[(pt b_3 0)]))] fun a H=>zq<|H.gz HP [(6,zO)] fun a H=>w_cut (fun a wv=>∃(kz:Int),Sl 57 [(6,(ii kz)),(1,(pt b_1 0)),(2,zS),(3,(pt b_3 0)),(4,(.func (.func 137) #[] #[(pt b_3 0)])),(5,(.func (.func 140) #[] #[(pt b_3 0)]))] a∧Hp w wv [(bldR w.heap.size b_3 zN []),bx b_1 76 (ul u u.A u.c) true] []∧(kz=if u.key=true then 1 else 0)) ?_ ?_
 ·refine zq<|H.gy HP [(12,(.bool u.key))] [1] fun a H=>w_if H rfl (fun g12=>?_) (fun g12=>?_)
  ·have g12p:=g12;refine zrg<|H.ge HP [(6,(ii 1))] [] fun a H=>ztn ?_;exact⟨1,H.keep kr,HP,(by rw[g12];rfl)⟩
  have g12p:=g12;refine zsk (ztn ?_);exact⟨0,H.keep kr,HP,(by rw[g12];rfl)⟩
 
 rintro a w_5 ⟨kz,H,HP,hkz⟩;refine zsq ?_;have hkz1:0≤kz∧kz≤1:=by rw[hkz];split<;>omega
 refine zrg<|H.go HP 12 [(13,(.func (.func 137) #[] #[(pt b_3 0)])),(15,(ii u.channel)),(17,(ii u.frame)),(19,(ii u.version)),(21,(ii u.item)),(23,(ii u.index)),(24,(ii kz))] [1,1,1,1,1] fun a H=>H.alloc HP 25 (fun b=>(sB b 6 6)) 3 [(ii u.channel),(ii u.frame),(ii u.version),(ii u.item),(ii u.index),(ii kz)] kr (fun w=>kr) fun b_6 w_7 a H HP=>H.call 26 kr (Eq.trans (kr:_=(callFunc 137 #[(sB b_6 6 6),(pt b_3 0)]).run Tryz.prog w_7) (Tryz.call137 _ _)) (number_any w.heap.size b_3 zN ([]) (some ⟨b_6,0,none⟩) 6 6 [u.channel,u.frame,u.version,u.item,u.index,kz] w_7 (HP.held 1 rfl) (Rd.of_box (HP.at_ 0 rfl) rfl) (fun q hq=>by obtain⟨_,o,e⟩:=hq;cases e;exact⟨fun e=>pairwise_at HP.apart (i:=0) (j:=1) rfl rfl om _ rfl (.inl e),fun e=>pairwise_at HP.apart (i:=0) (j:=1) rfl rfl om _ rfl (.inr e)⟩) (by intro z hz;simp only[List.mem_cons,List.not_mem_nil,or_false] at hz;unfold wmax;rcases hz with rfl|rfl|rfl|rfl|rfl|rfl<;>omega) om (by have e1:=encInts_len [u.channel,u.frame,u.version,u.item,u.index,kz];have e2:=encInts_len [u.regions,u.gain];have:=(encInt_len (u.data.length:Int)).2;have:=(encInt_len (u.caption.length:Int)).2;have:=(encInt_len (((encOpt u.os u.of u.al).length:Nat):Int)).2;simp only[List.length_cons,List.length_nil] at e1 e2;first|(simp only[List.length_append,encStr,List.length_nil];omega)|simp) HP.size) ?_
 rintro e w_9 ⟨rfl,v_8,hF,hag,hvn⟩;refine⟨_,rfl,?_⟩;intro a H;have HP:=HP.wrote 1 rfl [bx b_6 3 [(ii u.channel),(ii u.frame),(ii u.version),(ii u.item),(ii u.index),(ii kz)] true,(bldR w.heap.size b_3 v_8 ([]++encInts [u.channel,u.frame,u.version,u.item,u.index,kz])),bx b_1 76 (ul u u.A u.c) true] kr hF hag hvn
 refine znl<|zt<|H.go HP 3 [(27,(.func (.func 140) #[] #[(pt b_3 0)])),(29,(sS u.data))] [2] fun a H=>H.cl 30 (Tryz.call140 _ _) (text_any w.heap.size b_3 v_8 ([]++encInts [u.channel,u.frame,u.version,u.item,u.index,kz]) u.data w_9 (HP.held 1 rfl) om (by have e1:=encInts_len [u.channel,u.frame,u.version,u.item,u.index,kz];have e2:=encInts_len [u.regions,u.gain];have:=(encInt_len (u.data.length:Int)).2;have:=(encInt_len (u.caption.length:Int)).2;have:=(encInt_len (((encOpt u.os u.of u.al).length:Nat):Int)).2;simp only[List.length_cons,List.length_nil] at e1 e2;first|(simp only[List.length_append,encStr,List.length_nil];omega)|simp) HP.size) ?_;rintro e w_11 ⟨rfl,v_10,hF,hag,hvn⟩;refine⟨_,rfl,?_⟩;intro a H
 have HP:=HP.wrote 1 rfl [bx b_6 3 [(ii u.channel),(ii u.frame),(ii u.version),(ii u.item),(ii u.index),(ii kz)] true,(bldR w.heap.size b_3 v_10 (([]++encInts [u.channel,u.frame,u.version,u.item,u.index,kz])++encStr u.data)),bx b_1 76 (ul u u.A u.c) true] kr hF hag hvn
 refine znl<|zt<|H.go HP 5 [(31,(.func (.func 137) #[] #[(pt b_3 0)])),(33,(ii u.regions)),(35,(ii u.gain))] [2,2] fun a H=>H.alloc HP 36 (fun b=>(sB b 2 2)) 3 [(ii u.regions),(ii u.gain)] kr (fun w=>kr) fun b_12 w_13 a H HP=>H.call 37 kr (Eq.trans (kr:_=(callFunc 137 #[(sB b_12 2 2),(pt b_3 0)]).run Tryz.prog w_13) (Tryz.call137 _ _)) (number_any w.heap.size b_3 v_10 (([]++encInts [u.channel,u.frame,u.version,u.item,u.index,kz])++encStr u.data) (some ⟨b_12,0,none⟩) 2 2 [u.regions,u.gain] w_13 (HP.held 2 rfl) (Rd.of_box (HP.at_ 0 rfl) rfl) (fun q hq=>by obtain⟨_,o,e⟩:=hq;cases e;exact⟨fun e=>pairwise_at HP.apart (i:=0) (j:=2) rfl rfl om _ rfl (.inl e),fun e=>pairwise_at HP.apart (i:=0) (j:=2) rfl rfl om _ rfl (.inr e)⟩) (by intro z hz;simp only[List.mem_cons,List.not_mem_nil,or_false] at hz;unfold wmax;rcases hz with rfl|rfl<;>omega) om (by have e1:=encInts_len [u.channel,u.frame,u.version,u.item,u.index,kz];have e2:=encInts_len [u.regions,u.gain];have:=(encInt_len (u.data.length:Int)).2;have:=(encInt_len (u.caption.length:Int)).2;have:=(encInt_len (((encOpt u.os u.of u.al).length:Nat):Int)).2;simp only[List.length_cons,List.length_nil] at e1 e2;first|(simp only[List.length_append,encStr,List.length_nil];omega)|simp) HP.size) ?_
 rintro e w_15 ⟨rfl,v_14,hF,hag,hvn⟩;refine⟨_,rfl,?_⟩;intro a H;have HP:=HP.wrote 2 rfl [bx b_12 3 [(ii u.regions),(ii u.gain)] true,bx b_6 3 [(ii u.channel),(ii u.frame),(ii u.version),(ii u.item),(ii u.index),(ii kz)] true,(bldR w.heap.size b_3 v_14 ((([]++encInts [u.channel,u.frame,u.version,u.item,u.index,kz])++encStr u.data)++encInts [u.regions,u.gain])),bx b_1 76 (ul u u.A u.c) true] kr hF hag hvn
 refine znl<|zt<|H.go HP 3 [(38,(.func (.func 140) #[] #[(pt b_3 0)])),(40,(sS u.caption))] [3] fun a H=>H.cl 41 (Tryz.call140 _ _) (text_any w.heap.size b_3 v_14 ((([]++encInts [u.channel,u.frame,u.version,u.item,u.index,kz])++encStr u.data)++encInts [u.regions,u.gain]) u.caption w_15 (HP.held 2 rfl) om (by have e1:=encInts_len [u.channel,u.frame,u.version,u.item,u.index,kz];have e2:=encInts_len [u.regions,u.gain];have:=(encInt_len (u.data.length:Int)).2;have:=(encInt_len (u.caption.length:Int)).2;have:=(encInt_len (((encOpt u.os u.of u.al).length:Nat):Int)).2;simp only[List.length_cons,List.length_nil] at e1 e2;first|(simp only[List.length_append,encStr,List.length_nil];omega)|simp) HP.size) ?_;rintro e w_17 ⟨rfl,v_16,hF,hag,hvn⟩;refine⟨_,rfl,?_⟩;intro a H
 have HP:=HP.wrote 2 rfl [bx b_12 3 [(ii u.regions),(ii u.gain)] true,bx b_6 3 [(ii u.channel),(ii u.frame),(ii u.version),(ii u.item),(ii u.index),(ii kz)] true,(bldR w.heap.size b_3 v_16 (((([]++encInts [u.channel,u.frame,u.version,u.item,u.index,kz])++encStr u.data)++encInts [u.regions,u.gain])++encStr u.caption)),bx b_1 76 (ul u u.A u.c) true] kr hF hag hvn
 refine znl<|zt<|H.go HP 2 [(44,(.agg #[(ii u.os),(ii u.of),(sL u.A u.al.length u.c)]))] [3] fun a H=>H.cb HP 45 (Tryz.call142 _ _) (by have hh:=encode_any u.os u.of u.A u.al.length u.c u.al w_17 (hu.below HP.bl);unfold encV at hh;rw[if_pos hvo] at hh;exact hh) fun w_18 hb a H HP=>H.gz HP [(7,(sS (encOpt u.os u.of u.al)))] fun a H=>zq<|H.gn HP 2 [(48,(.func (.func 140) #[] #[(pt b_3 0)])),(49,(sS (encOpt u.os u.of u.al)))] fun a H=>H.cl 50 (Tryz.call140 _ _) (text_any w.heap.size b_3 v_16 (((([]++encInts [u.channel,u.frame,u.version,u.item,u.index,kz])++encStr u.data)++encInts [u.regions,u.gain])++encStr u.caption) (encOpt u.os u.of u.al) w_18 (HP.held 2 rfl) om (by have e1:=encInts_len [u.channel,u.frame,u.version,u.item,u.index,kz];have e2:=encInts_len [u.regions,u.gain];have:=(encInt_len (u.data.length:Int)).2;have:=(encInt_len (u.caption.length:Int)).2;have:=(encInt_len (((encOpt u.os u.of u.al).length:Nat):Int)).2;simp only[List.length_cons,List.length_nil] at e1 e2;first|(simp only[List.length_append,encStr,List.length_nil];omega)|simp) HP.size) ?_
 rintro e w_20 ⟨rfl,v_19,hF,hag,hvn⟩;refine⟨_,rfl,?_⟩;intro a H;have HP:=HP.wrote 2 rfl [bx b_12 3 [(ii u.regions),(ii u.gain)] true,bx b_6 3 [(ii u.channel),(ii u.frame),(ii u.version),(ii u.item),(ii u.index),(ii kz)] true,(bldR w.heap.size b_3 v_19 ((((([]++encInts [u.channel,u.frame,u.version,u.item,u.index,kz])++encStr u.data)++encInts [u.regions,u.gain])++encStr u.caption)++encStr (encOpt u.os u.of u.al))),bx b_1 76 (ul u u.A u.c) true] kr hF hag hvn
 refine znl<|zt<|H.gn HP 1 [(51,(.func (.func 137) #[] #[(pt b_3 0)]))] fun a H=>H.cl 52 (Tryz.call53 _ _) (str_any w.heap.size b_3 v_19 ((((([]++encInts [u.channel,u.frame,u.version,u.item,u.index,kz])++encStr u.data)++encInts [u.regions,u.gain])++encStr u.caption)++encStr (encOpt u.os u.of u.al)) w_20 (HP.held 2 rfl) (by intro h;have e1:=congrArg List.length h;have e2:=(encInt_len (u.data.length:Int)).1;simp only[List.length_append,List.length_nil,encStr] at e1;omega)) ?_;rintro e w_21 ⟨rfl,hF,hag⟩;refine⟨_,rfl,?_⟩;intro a H
 have HP:=HP.wrote 2 rfl [bx b_12 3 [(ii u.regions),(ii u.gain)] true,bx b_6 3 [(ii u.channel),(ii u.frame),(ii u.version),(ii u.item),(ii u.index),(ii kz)] true,(bldR w.heap.size b_3 v_19 ((((([]++encInts [u.channel,u.frame,u.version,u.item,u.index,kz])++encStr u.data)++encInts [u.regions,u.gain])++encStr u.caption)++encStr (encOpt u.os u.of u.al))),bx b_1 76 (ul u u.A u.c) true] kr hF hag (fun k hk=>.inl hk)
 refine H.cb HP 53 (Tryz.call143 _ _) (sum_any ((((([]++encInts [u.channel,u.frame,u.version,u.item,u.index,kz])++encStr u.data)++encInts [u.regions,u.gain])++encStr u.caption)++encStr (encOpt u.os u.of u.al)) w_21 (hL.below HP.bl) (by have:((((([]++encInts [u.channel,u.frame,u.version,u.item,u.index,kz])++encStr u.data)++encInts [u.regions,u.gain])++encStr u.caption)++encStr (encOpt u.os u.of u.al)).length≤1000000:=(by have e1:=encInts_len [u.channel,u.frame,u.version,u.item,u.index,kz];have e2:=encInts_len [u.regions,u.gain];have:=(encInt_len (u.data.length:Int)).2;have:=(encInt_len (u.caption.length:Int)).2;have:=(encInt_len (((encOpt u.os u.of u.al).length:Nat):Int)).2;simp only[List.length_cons,List.length_nil] at e1 e2;first|(simp only[List.length_append,encStr,List.length_nil];omega)|simp);omega)) fun w_22 hb a H HP=>?_
 have hsl:=sumP_lt ((((([]++encInts [u.channel,u.frame,u.version,u.item,u.index,kz])++encStr u.data)++encInts [u.regions,u.gain])++encStr u.caption)++encStr (encOpt u.os u.of u.al))
 refine H.alloc HP 54 (fun b=>(sB b 1 1)) 3 [(ii ((sumP ((((([]++encInts [u.channel,u.frame,u.version,u.item,u.index,kz])++encStr u.data)++encInts [u.regions,u.gain])++encStr u.caption)++encStr (encOpt u.os u.of u.al)):Nat):Int))] kr (fun w=>kr) fun b_23 w_24 a H HP=>H.call 55 kr (Eq.trans (kr:_=(callFunc 137 #[(sB b_23 1 1),(pt b_3 0)]).run Tryz.prog w_24) (Tryz.call137 _ _)) (number_any w.heap.size b_3 v_19 ((((([]++encInts [u.channel,u.frame,u.version,u.item,u.index,kz])++encStr u.data)++encInts [u.regions,u.gain])++encStr u.caption)++encStr (encOpt u.os u.of u.al)) (some ⟨b_23,0,none⟩) 1 1 [((sumP ((((([]++encInts [u.channel,u.frame,u.version,u.item,u.index,kz])++encStr u.data)++encInts [u.regions,u.gain])++encStr u.caption)++encStr (encOpt u.os u.of u.al)):Nat):Int)] w_24 (HP.held 3 rfl) (Rd.of_box (HP.at_ 0 rfl) rfl) (fun q hq=>by obtain⟨_,o,e⟩:=hq;cases e;exact⟨fun e=>pairwise_at HP.apart (i:=0) (j:=3) rfl rfl om _ rfl (.inl e),fun e=>pairwise_at HP.apart (i:=0) (j:=3) rfl rfl om _ rfl (.inr e)⟩) (by intro z hz;simp only[List.mem_cons,List.not_mem_nil,or_false] at hz;unfold wmax;rcases hz with rfl<;>omega) om (by have e1:=encInts_len [u.channel,u.frame,u.version,u.item,u.index,kz];have e2:=encInts_len [u.regions,u.gain];have:=(encInt_len (u.data.length:Int)).2;have:=(encInt_len (u.caption.length:Int)).2;have:=(encInt_len (((encOpt u.os u.of u.al).length:Nat):Int)).2;simp only[List.length_cons,List.length_nil] at e1 e2;first|(simp only[List.length_append,encStr,List.length_nil];omega)|simp) HP.size) ?_
 rintro e w_26 ⟨rfl,v_25,hF,hag,hvn⟩;refine⟨_,rfl,?_⟩;intro a H;have HP:=HP.wrote 3 rfl [bx b_23 3 [(ii ((sumP ((((([]++encInts [u.channel,u.frame,u.version,u.item,u.index,kz])++encStr u.data)++encInts [u.regions,u.gain])++encStr u.caption)++encStr (encOpt u.os u.of u.al)):Nat):Int))] true,bx b_12 3 [(ii u.regions),(ii u.gain)] true,bx b_6 3 [(ii u.channel),(ii u.frame),(ii u.version),(ii u.item),(ii u.index),(ii kz)] true,(bldR w.heap.size b_3 v_25 (((((([]++encInts [u.channel,u.frame,u.version,u.item,u.index,kz])++encStr u.data)++encInts [u.regions,u.gain])++encStr u.caption)++encStr (encOpt u.os u.of u.al))++encInts [((sumP ((((([]++encInts [u.channel,u.frame,u.version,u.item,u.index,kz])++encStr u.data)++encInts [u.regions,u.gain])++encStr u.caption)++encStr (encOpt u.os u.of u.al)):Nat):Int)])),bx b_1 76 (ul u u.A u.c) true] kr hF hag hvn
 refine znl<|zt<|H.cl 56 (Tryz.call53 _ _) (str_any w.heap.size b_3 v_25 (((((([]++encInts [u.channel,u.frame,u.version,u.item,u.index,kz])++encStr u.data)++encInts [u.regions,u.gain])++encStr u.caption)++encStr (encOpt u.os u.of u.al))++encInts [((sumP ((((([]++encInts [u.channel,u.frame,u.version,u.item,u.index,kz])++encStr u.data)++encInts [u.regions,u.gain])++encStr u.caption)++encStr (encOpt u.os u.of u.al)):Nat):Int)]) w_26 (HP.held 3 rfl) (by intro h;have e1:=congrArg List.length h;have e2:=(encInt_len (u.data.length:Int)).1;simp only[List.length_append,List.length_nil,encStr] at e1;omega)) ?_;rintro e w_27 ⟨rfl,hF,hag⟩;refine⟨_,rfl,?_⟩;intro a H
 have HP:=HP.wrote 3 rfl [bx b_23 3 [(ii ((sumP ((((([]++encInts [u.channel,u.frame,u.version,u.item,u.index,kz])++encStr u.data)++encInts [u.regions,u.gain])++encStr u.caption)++encStr (encOpt u.os u.of u.al)):Nat):Int))] true,bx b_12 3 [(ii u.regions),(ii u.gain)] true,bx b_6 3 [(ii u.channel),(ii u.frame),(ii u.version),(ii u.item),(ii u.index),(ii kz)] true,(bldR w.heap.size b_3 v_25 (((((([]++encInts [u.channel,u.frame,u.version,u.item,u.index,kz])++encStr u.data)++encInts [u.regions,u.gain])++encStr u.caption)++encStr (encOpt u.os u.of u.al))++encInts [((sumP ((((([]++encInts [u.channel,u.frame,u.version,u.item,u.index,kz])++encStr u.data)++encInts [u.regions,u.gain])++encStr u.caption)++encStr (encOpt u.os u.of u.al)):Nat):Int)])),bx b_1 76 (ul u u.A u.c) true] kr hF hag (fun k hk=>.inl hk)
 refine H.gz HP [(2,(.string (bstr (((((([]++encInts [u.channel,u.frame,u.version,u.item,u.index,kz])++encStr u.data)++encInts [u.regions,u.gain])++encStr u.caption)++encStr (encOpt u.os u.of u.al))++encInts [((sumP ((((([]++encInts [u.channel,u.frame,u.version,u.item,u.index,kz])++encStr u.data)++encInts [u.regions,u.gain])++encStr u.caption)++encStr (encOpt u.os u.of u.al)):Nat):Int)]))))] fun a H=>zrt<|H.r1 (.string (bstr (((((([]++encInts [u.channel,u.frame,u.version,u.item,u.index,kz])++encStr u.data)++encInts [u.regions,u.gain])++encStr u.caption)++encStr (encOpt u.os u.of u.al))++encInts [((sumP ((((([]++encInts [u.channel,u.frame,u.version,u.item,u.index,kz])++encStr u.data)++encInts [u.regions,u.gain])++encStr u.caption)++encStr (encOpt u.os u.of u.al)):Nat):Int)]))) Tryz.results88 ?_;exact⟨by rw[bodyP_eq hkz],HP.bl⟩
def sameU (u v:Un):Bool:=(u.channel == v.channel)&&((u.frame == v.frame)&&((u.version == v.version)&&((u.item == v.item)&&((u.index == v.index)&&((u.key == v.key)&&((u.data == v.data)&&((u.regions == v.regions)&&((u.gain == v.gain)&&((u.caption == v.caption)&&sameP u.os u.of u.al v.os v.of v.al)))))))))
def payN (l:List UInt8) (i:Nat):Nat:=(l.getD (64*i+4) 0).toNat
def payAt (l:List UInt8) (i:Nat):List UInt8:=(l.drop (64*i+5)).take (payN l i)
def payOk (l:List UInt8) (j:Nat):Bool:=(List.range j).all fun i=>decide (1≤payN l i)&&decide (payN l i≤59)
def payTo (l:List UInt8) (j:Nat):List UInt8:=(List.range j).flatMap (payAt l)
def streamP (l:List UInt8):Option (List UInt8):=if l.length=0∨l.length%64≠0∨payOk l (l.length/64)=false then none else some (payTo l (l.length/64))
def strmV:Option (List UInt8)→Value
 |none=>.tuple #[.string (bstr []),.bool false]
 |some x=>.tuple #[.string (bstr x),.bool true]
theorem payTo_succ (l:List UInt8) (j:Nat):payTo l (j+1)=payTo l j++payAt l j:=by simp[payTo,List.range_succ]
theorem payOk_succ {l:List UInt8}{j:Nat}(h:payOk l j=true) (hn:1≤payN l j∧payN l j≤59):payOk l (j+1)=true:=by
 unfold payOk at *;rw[List.range_succ,List.all_append,h];simp[hn]
theorem payOk_bad {l:List UInt8}{j N:Nat}(hj:j<N) (hn:payN l j<1∨59<payN l j):payOk l N=false:=by
 unfold payOk;rw[List.all_eq_false];refine⟨j,List.mem_range.2 hj,?_⟩;simp;omega
theorem payOk_at {l:List UInt8}{N j:Nat}(h:payOk l N=true) (hj:j<N):1≤payN l j∧payN l j≤59:=by
 unfold payOk at h;rw[List.all_eq_true] at h;have:=h j (List.mem_range.2 hj);simpa using this
theorem payTo_len {l:List UInt8}:∀{j:Nat},payOk l j=true→(payTo l j).length≤59*j
 |0,_=>by simp[payTo]
 |j+1,h=>by
  have h0:payOk l j=true:=by
   unfold payOk at *;rw[List.range_succ,List.all_append] at h;simp only[Bool.and_eq_true] at h;exact h.1
  have h1:=payOk_at h (Nat.lt_succ_self j)
  have:=payTo_len h0
  rw[payTo_succ,List.length_append]
  unfold payAt
  rw[List.length_take]
  omega
theorem cut_getD {l:List UInt8}{a k m:Nat}(hk:k<m) (hl:a+k<l.length) {d:UInt8}:(((l.drop a).take (a+m-a)).getD k d)=l.getD (a+k) d:=by
 rw[show a+m-a=m from om];simp only[List.getD,List.getElem?_take,hk,if_true,List.getElem?_drop]
theorem cut_pay {l:List UInt8}{a n:Nat}(hn:n≤59) (hl:a+64≤l.length):(l.drop (a+5)).take n=((((l.drop a).take (a+64-a)).drop 5).take (5+n-5)):=by
 rw[show a+64-a=64 from om,show 5+n-5=n from om,List.drop_take,List.drop_drop,List.take_take,show min n (64-5)=n from om]
theorem payTo_ge {l:List UInt8}:∀{j:Nat},payOk l j=true→64*j≤l.length→j≤(payTo l j).length
 |0,_,_=>by simp
 |j+1,h,hl=>by
  have h0:payOk l j=true:=by
   unfold payOk at *;rw[List.range_succ,List.all_append] at h;simp only[Bool.and_eq_true] at h;exact h.1
  have h1:=payOk_at h (Nat.lt_succ_self j)
  have:=payTo_ge h0 om
  rw[payTo_succ,List.length_append]
  unfold payAt
  rw[List.length_take,List.length_drop]
  omega
def rdCells (s:List UInt8) (q:Nat×Bool):List Value:=[.string (bstr s),.int .i64 ((q.1:Nat):Int),.bool q.2]
def rnum (s:List UInt8) (q:Nat×Bool):Int×(Nat×Bool):=if q.2=true then(0,q) else match rdInt s q.1 with
 |none=>(0,q.1,true)
 |some (n,e)=>(n,e,false)
def rtxt (s:List UInt8) (q:Nat×Bool):List UInt8×(Nat×Bool):=if q.2=true then([],q) else match rdStr s q.1 with
 |none=>([],q.1,true)
 |some (t,e)=>(t,e,false)
theorem rusame_any (u v:Un) (w:World) (hu:IsAlts w u.A u.al.length u.al) (hv:IsAlts w v.A v.al.length v.al) (hm:u.al.length≤maxLen):
  Calls Tryz.prog 24 #[u.val,v.val] w fun e w'=>e=.returned (.bool (sameU u v))∧Below w.heap.size w w':=by
 have HP:=Hp.start w;refine w_enter 80 [(0,(.agg (ua u u.A u.c))),(1,(.agg (ua v v.A v.c)))] Tryz.func24 rfl Tryz.ntmps24 kr kr fun a H=>zq<|H.al HP 2 76 (ul u u.A u.c) fun b_1 w_2 a H HP=>H.al HP 3 76 (ul v v.A v.c) fun b_3 w_4 a H HP=>H.gz HP [(4,zF)] fun a H=>zq<|H.go HP 6 [(5,(pt b_1 0)),(6,(ii u.channel)),(10,(.bool (u.channel == v.channel)))] [1,0] fun a H=>H.split 10 rfl (fun g10 H=>?_) (fun g10 H=>?_)
 ·have g10p:=eq_of_beq g10;refine H.go HP 7 [(17,(.bool (u.frame == v.frame)))] [1,0] fun a H=>H.split 17 rfl (fun g17 H=>?_) (fun g17 H=>?_)
  ·have g17p:=eq_of_beq g17;refine H.go HP 7 [(24,(.bool (u.version == v.version)))] [1,0] fun a H=>H.split 24 rfl (fun g24 H=>?_) (fun g24 H=>?_)
   ·have g24p:=eq_of_beq g24;refine H.go HP 7 [(31,(.bool (u.item == v.item)))] [1,0] fun a H=>H.split 31 rfl (fun g31 H=>?_) (fun g31 H=>?_)
    ·have g31p:=eq_of_beq g31;refine H.go HP 7 [(38,(.bool (u.index == v.index)))] [1,0] fun a H=>H.split 38 rfl (fun g38 H=>?_) (fun g38 H=>?_)
     ·have g38p:=eq_of_beq g38;refine H.go HP 7 [(45,(.bool (u.key == v.key)))] [1,0] fun a H=>H.split 45 rfl (fun g45 H=>?_) (fun g45 H=>?_)
      ·have g45p:=eq_of_beq g45;refine H.go HP 4 [(47,(sS u.data)),(49,(sS v.data))] [1,0] fun a H=>H.valE 50 (.bool ((bstr u.data).toList == (bstr v.data).toList)) (.bool (u.data == v.data)) kr kr (congrArg Value.bool (bstr_eq _ _)) fun a H=>H.gn HP 2 [(52,(.bool (u.data == v.data)))] fun a H=>H.split 52 rfl (fun g52 H=>?_) (fun g52 H=>?_)
       ·have g52p:=eq_of_beq g52;refine H.go HP 7 [(59,(.bool (u.regions == v.regions)))] [1,0] fun a H=>H.split 59 rfl (fun g59 H=>?_) (fun g59 H=>?_)
        ·have g59p:=eq_of_beq g59;refine H.go HP 7 [(66,(.bool (u.gain == v.gain)))] [1,0] fun a H=>H.split 66 rfl (fun g66 H=>?_) (fun g66 H=>?_)
         ·have g66p:=eq_of_beq g66;refine H.go HP 4 [(68,(sS u.caption)),(70,(sS v.caption))] [1,0] fun a H=>H.valE 71 (.bool ((bstr u.caption).toList == (bstr v.caption).toList)) (.bool (u.caption == v.caption)) kr kr (congrArg Value.bool (bstr_eq _ _)) fun a H=>H.gn HP 2 [(73,(.bool (u.caption == v.caption)))] fun a H=>H.split 73 rfl (fun g73 H=>?_) (fun g73 H=>?_)
          ·have g73p:=eq_of_beq g73;refine H.go HP 4 [(75,(.agg #[(ii u.os),(ii u.of),(sL u.A u.al.length u.c)])),(77,(.agg #[(ii v.os),(ii v.of),(sL v.A v.al.length v.c)]))] [1,0] fun a H=>H.cb HP 78 (Tryz.call48 _ _) (rsame_any u.os u.of u.A u.al.length u.c u.al v.os v.of v.A v.al.length v.c v.al w_4 (hu.below HP.bl) (hv.below HP.bl) hm) fun w_5 hb a H HP=>H.gz HP [(4,(.bool (sameP u.os u.of u.al v.os v.of v.al)))] fun a H=>zrt<|H.r1 (.bool (sameP u.os u.of u.al v.os v.of v.al)) Tryz.results24 ?_;exact⟨by unfold sameU;simp only[g10,g17,g24,g31,g38,g45,g52,g59,g66,g73,Bool.true_and,Bool.false_and,Bool.and_true],HP.bl⟩
          have g73p:=ne_of_beq_false g73;refine H.gz HP [(4,zF)] fun a H=>zrt<|H.r1 zF Tryz.results24 ?_;exact⟨by unfold sameU;simp only[g10,g17,g24,g31,g38,g45,g52,g59,g66,g73,Bool.true_and,Bool.false_and,Bool.and_true],HP.bl⟩
         have g66p:=ne_of_beq_false g66;refine H.gz HP [(4,zF)] fun a H=>zrt<|H.r1 zF Tryz.results24 ?_;exact⟨by unfold sameU;simp only[g10,g17,g24,g31,g38,g45,g52,g59,g66,Bool.true_and,Bool.false_and,Bool.and_true],HP.bl⟩
        have g59p:=ne_of_beq_false g59;refine H.gz HP [(4,zF)] fun a H=>zrt<|H.r1 zF Tryz.results24 ?_;exact⟨by unfold sameU;simp only[g10,g17,g24,g31,g38,g45,g52,g59,Bool.true_and,Bool.false_and,Bool.and_true],HP.bl⟩
       have g52p:=ne_of_beq_false g52;refine H.gz HP [(4,zF)] fun a H=>zrt<|H.r1 zF Tryz.results24 ?_;exact⟨by unfold sameU;simp only[g10,g17,g24,g31,g38,g45,g52,Bool.true_and,Bool.false_and,Bool.and_true],HP.bl⟩
      have g45p:=ne_of_beq_false g45;refine H.gz HP [(4,zF)] fun a H=>zrt<|H.r1 zF Tryz.results24 ?_;exact⟨by unfold sameU;simp only[g10,g17,g24,g31,g38,g45,Bool.true_and,Bool.false_and,Bool.and_true],HP.bl⟩
     have g38p:=ne_of_beq_false g38;refine H.gz HP [(4,zF)] fun a H=>zrt<|H.r1 zF Tryz.results24 ?_;exact⟨by unfold sameU;simp only[g10,g17,g24,g31,g38,Bool.true_and,Bool.false_and,Bool.and_true],HP.bl⟩
    have g31p:=ne_of_beq_false g31;refine H.gz HP [(4,zF)] fun a H=>zrt<|H.r1 zF Tryz.results24 ?_;exact⟨by unfold sameU;simp only[g10,g17,g24,g31,Bool.true_and,Bool.false_and,Bool.and_true],HP.bl⟩
   have g24p:=ne_of_beq_false g24;refine H.gz HP [(4,zF)] fun a H=>zrt<|H.r1 zF Tryz.results24 ?_;exact⟨by unfold sameU;simp only[g10,g17,g24,Bool.true_and,Bool.false_and,Bool.and_true],HP.bl⟩
  have g17p:=ne_of_beq_false g17;refine H.gz HP [(4,zF)] fun a H=>zrt<|H.r1 zF Tryz.results24 ?_;exact⟨by unfold sameU;simp only[g10,g17,Bool.true_and,Bool.false_and,Bool.and_true],HP.bl⟩
 have g10p:=ne_of_beq_false g10;refine H.gz HP [(4,zF)] fun a H=>zrt<|H.r1 zF Tryz.results24 ?_;exact⟨by unfold sameU;simp only[g10,Bool.true_and,Bool.false_and,Bool.and_true],HP.bl⟩
theorem stream_any (l:List UInt8) (w:World) (hl:l.length≤1000000):
  Calls Tryz.prog 167 #[.string (bstr l)] w fun e w'=>e=.returned (strmV (streamP l))∧Below w.heap.size w w':=by
 have HP:=Hp.start w;refine w_enter 46 [(0,(sS l))] Tryz.func167 rfl Tryz.ntmps167 kr kr fun a H=>zq<|H.gz HP [(2,zS),(3,zF)] fun a H=>zsq<|zq<|H.gn HP 4 [(11,(.bool ((l.length:Int) == 0)))] fun a H=>H.split 11 rfl (fun g11 H=>?_) (fun g11 H=>?_)
 ·have g11p:=eq_of_beq g11;refine H.gz HP [(16,zT)] fun a H=>w_ift H rfl<|zq<|H.gz HP [(2,zS),(3,zF)] fun a H=>zrt<|ztr<|H.ret2 (fn:=Tryz.f167) Tryz.results167 (RV.tmp_ (v:=zS) kr) (RV.tmp_ (v:=zF) kr) ?_;exact⟨by unfold streamP;rw[if_pos om];rfl,HP.bl⟩
 have g11p:=ne_of_beq_false g11;refine H.gn HP 2 [(13,(ii l.length))] fun a H=>H.valE 14 (ii ((l.length:Int).tmod 64)) (ii ((l.length:Int)%64)) kr kr (by rw[tmod_nn _ _ om]) fun a H=>H.gz HP [(16,(.bool (((l.length:Int)%64) != 0)))] fun a H=>w_if H rfl (fun g16=>?_) (fun g16=>?_)
 ·have g16p:=bne_iff_ne.1 g16;refine zq<|H.gz HP [(2,zS),(3,zF)] fun a H=>zrt<|ztr<|H.ret2 (fn:=Tryz.f167) Tryz.results167 (RV.tmp_ (v:=zS) kr) (RV.tmp_ (v:=zF) kr) ?_;exact⟨by unfold streamP;rw[if_pos om];rfl,HP.bl⟩
 have g16p:=eq_of_bne_false g16;refine zsk<|zt<|H.al HP 4 138 [(.pointer none),zN] fun b_1 w_2 a H HP=>znl ?_;have HP:=HP.toBld 0 5 rfl [(bldR w.heap.size b_1 zN [])] kr;obtain⟨N,hN⟩:∃N,l.length/64=N:=⟨_,rfl⟩;have hlN:l.length=64*N:=om;refine ztn<|zsq<|zq<|H.gn HP 2 [(18,(ii l.length))] fun a H=>H.valE 19 (ii (IntKind.i64.wrap ((l.length:Int).tdiv 64))) (ii N) kr kr (by rw[tdiv_nn _ _ om,wrap_ini64 _ om];exact congrArg (Value.int .i64) om) fun a H=>H.gz HP [(20,zO)] fun a H=>zbk<|w_loop (fun mm a wv=>∃(j:Nat),∃(v1:Value),N-j=mm∧Sl 46 [(20,(ii j)),(19,(ii N)),(4,(pt b_1 0)),(0,(sS l)),(2,zS),(3,zF)] a∧Hp w wv [(bldR w.heap.size b_1 v1 (payTo l j))] []∧(j≤N)∧(payOk l j=true)) (N-0) ?_ ?_
 ·exact⟨0,zN,om,H.keep kr,HP,om,rfl⟩
 rintro mm a w_3 ⟨j,v1,hmeas,H,HP,hj,hok⟩;refine zq<|H.gz HP [(21,(.bool (decide ((j:Int)<(N:Int)))))] fun a H=>zsq<|w_if H rfl (fun g21=>?_) (fun g21=>?_)
 ·have g21p:=of_decide_eq_true g21;refine zsk<|ztn<|zsq<|zbk<|zq<|H.gz HP [(5,(ii j))] fun a H=>zq<|H.gn HP 2 [(23,(sS l)),(24,(ii j))] fun a H=>H.valE 25 (ii (IntKind.i64.wrap ((j:Int)*64))) (ii ((64*j:Nat):Int)) kr kr (by rw[wrap_ini64 _ om];exact congrArg (Value.int .i64) om) fun a H=>H.gn HP 1 [(26,(ii j))] fun a H=>H.wi 27 ((j:Int)+1) fun a H=>H.valE 28 (ii (IntKind.i64.wrap (((j:Int)+1)*64))) (ii ((64*j+64:Nat):Int)) kr kr (by rw[wrap_ini64 _ om];exact congrArg (Value.int .i64) om) fun a H=>H.u 29 (sS ((l.drop (64*j)).take ((64*j+64)-(64*j)))) (ex_sslice (k:=.i64) (kk:=.i64) (l:=l) (i:=((64*j:Nat):Int)) (j:=((64*j+64:Nat):Int)) (a:=(64*j)) (b:=(64*j+64)) kr kr kr kr om om om om) fun a H=>H.ge HP [(6,(sS ((l.drop (64*j)).take ((64*j+64)-(64*j)))))] [] fun a H=>?_;obtain⟨p,hp⟩:∃p,(l.drop (64*j)).take (64*j+64-(64*j))=p:=⟨_,rfl⟩
  have hpl:p.length=64:=by rw[←hp,List.length_take,List.length_drop];omega
  have hp4:p.getD 4 0=l.getD (64*j+4) 0:=by rw[←hp];exact cut_getD om om
  rw[hp] at H;have H:=H.keep (L':=[(6,(sS p)),(5,(ii j)),(20,(ii j)),(19,(ii N)),(4,(pt b_1 0)),(0,(sS l)),(2,zS),(3,zF)]) kr;refine ztn (zsq ?_);have hp4b:=byte_lt (p.getD 4 0);refine zrg<|H.gn HP 1 [(30,(sS p))] fun a H=>H.u 31 (.int .u8 (((p.getD 4 0).toNat:Nat):Int)) (ex_sindex (k:=.i64) (l:=p) (i:=4) (m:=4) kr kr kr om om) fun a H=>H.valE 32 (ii (IntKind.i64.wrap (((p.getD 4 0).toNat:Nat):Int))) (ii (((p.getD 4 0).toNat:Nat):Int)) kr kr (by rw[wrap_ini64 _ om]) fun a H=>H.ge HP [(7,(ii (((p.getD 4 0).toNat:Nat):Int)))] [] fun a H=>?_;obtain⟨n,hn⟩:∃n,(p.getD 4 0).toNat=n:=⟨_,rfl⟩;have hnb:n<256:=by rw[←hn];exact byte_lt _
  have hpn:payN l j=n:=by unfold payN;rw[←hp4];exact hn
  rw[hn] at H;have H:=H.keep (L':=[(7,(ii n)),(6,(sS p)),(5,(ii j)),(20,(ii j)),(19,(ii N)),(4,(pt b_1 0)),(0,(sS l)),(2,zS),(3,zF)]) kr;refine ztn<|zsq<|zq<|H.gn HP 3 [(35,(.bool (decide ((n:Int)<1))))] fun a H=>H.split 35 rfl (fun g35 H=>?_) (fun g35 H=>?_)
  ·have g35p:=of_decide_eq_true g35;refine H.gz HP [(38,zT)] fun a H=>w_ift H rfl<|zq<|H.gz HP [(2,zS),(3,zF)] fun a H=>zrt<|ztr<|zibr<|ztr<|ztr<|zibr<|ztr<|H.ret2 (fn:=Tryz.f167) Tryz.results167 (RV.tmp_ (v:=zS) kr) (RV.tmp_ (v:=zF) kr) ?_;exact⟨by unfold streamP;rw[hN,if_pos (.inr (.inr (payOk_bad (j:=j) om om)))];rfl,HP.bl⟩
  have g35p:=of_decide_eq_false g35;refine H.gz HP [(38,(.bool (decide ((n:Int)>59))))] fun a H=>w_if H rfl (fun g38=>?_) (fun g38=>?_)
  ·have g38p:=of_decide_eq_true g38;refine zq<|H.gz HP [(2,zS),(3,zF)] fun a H=>zrt<|ztr<|zibr<|ztr<|ztr<|zibr<|ztr<|H.ret2 (fn:=Tryz.f167) Tryz.results167 (RV.tmp_ (v:=zS) kr) (RV.tmp_ (v:=zF) kr) ?_;exact⟨by unfold streamP;rw[hN,if_pos (.inr (.inr (payOk_bad (j:=j) om om)))];rfl,HP.bl⟩
  have g38p:=of_decide_eq_false g38;refine zsk<|ztn<|zrg<|H.gn HP 2 [(39,(sS p)),(40,(ii n))] fun a H=>H.valE 41 (ii (IntKind.i64.wrap (5+(n:Int)))) (ii ((5+n:Nat):Int)) kr kr (by rw[wrap_ini64 _ om];exact congrArg (Value.int .i64) om) fun a H=>H.u 42 (sS ((p.drop 5).take ((5+n)-5))) (ex_sslice (k:=.i64) (kk:=.i64) (l:=p) (i:=5) (j:=((5+n:Nat):Int)) (a:=5) (b:=(5+n)) kr kr kr kr om om om om) fun a H=>?_;have hpay:payAt l j=(p.drop 5).take ((5+n)-5):=by unfold payAt;rw[hpn,←hp];exact cut_pay om om
  refine H.cl 43 (Tryz.call139 _ _) (writeStr_any w.heap.size b_1 v1 (payTo l j) ((p.drop 5).take ((5+n)-5)) w_3 (HP.held 0 rfl) (by have h1:=payTo_len hok;rw[List.length_take,List.length_drop];omega) HP.size) ?_;rintro e w_5 ⟨rfl,v_4,hF,hag,hvn⟩;refine⟨_,rfl,?_⟩;intro a H;have HP:=HP.wrote 0 rfl [(bldR w.heap.size b_1 v_4 ((payTo l j)++((p.drop 5).take ((5+n)-5))))] kr hF hag hvn;refine znl<|zibn<|ztn<|zrg<|H.wi 44 ((j:Int)+1) fun a H=>H.ge HP [(20,(ii ((j:Int)+1)))] [] fun a H=>ztn ?_;have H:=H.as 20 (ii ((j+1:Nat):Int)) rfl rfl;refine⟨_,?_,j+1,v_4,rfl,H.keep kr,(by rw[payTo_succ,hpay];exact HP),om,payOk_succ hok om⟩;omega
 have g21p:=of_decide_eq_false g21;refine wp_exit<|then_exit<|then_exit<|w_exit_here<|zt<|H.cl 45 (Tryz.call53 _ _) (str_any w.heap.size b_1 v1 (payTo l j) w_3 (HP.held 0 rfl) (by intro h;have h1:=payTo_ge hok om;rw[h] at h1;simp at h1;omega)) ?_;rintro e w_6 ⟨rfl,hF,hag⟩;refine⟨_,rfl,?_⟩;intro a H;have HP:=HP.wrote 0 rfl [(bldR w.heap.size b_1 v1 (payTo l j))] kr hF hag (fun k hk=>.inl hk);refine H.gz HP [(2,(sS (payTo l j))),(3,zT)] fun a H=>zrt<|H.ret2 (fn:=Tryz.f167) Tryz.results167 (RV.tmp_ (v:=(sS (payTo l j))) kr) (RV.tmp_ (v:=zT) kr) ?_;exact⟨by unfold streamP;have hjN:j=N:=om;subst hjN;rw[hN,if_neg (by rintro(h|h|h);omega;omega;rw[hok] at h;cases h)];rfl,HP.bl⟩
theorem num_bad (b:Nat) (s:List UInt8) (k:Nat) (w:World) (h:Box w b 277 [Value.string (bstr s),.int .i64 (k:Int),.bool true].toArray) (hl:s.length≤9000000000000000000) (hk:k≤s.length)  :
  Calls Tryz.prog 168 #[.pointer (some ⟨b,0,none⟩)] w fun e w'=>e=.returned (ii (rnum s (k,true)).1)∧Box w' b 277 (rdCells s (rnum s (k,true)).2).toArray∧w.grownBy w' (some b):=by
 have HP:=Hp.own (vs:=[.string (bstr s),.int .i64 (k:Int),.bool true]) h;refine w_enter 33 [(0,(pt b 0))] Tryz.func168 rfl Tryz.ntmps168 kr kr fun a H=>zq<|H.gz HP [(2,zO)] fun a H=>zsq<|zq<|H.gy HP [(9,zT)] [0] fun a H=>w_ift H rfl<|zq<|H.gz HP [(2,zO)] fun a H=>zrt<|ztr<|H.r1 zO Tryz.results168 ?_;have HP:Hp w w [bx b 277 [(sS s),(ii k),zT] false] []:=HP;exact⟨by unfold rnum;rw[if_pos rfl]<;>rfl,by unfold rnum;rw[if_pos rfl];exact HP.at_ 0 rfl,HP.only b (by intro x hx;simp only[List.mem_cons,List.not_mem_nil,or_false] at hx;rcases hx with rfl<;>simp[bx])⟩
theorem num_none (b:Nat) (s:List UInt8) (k:Nat) (w:World) (h:Box w b 277 [Value.string (bstr s),.int .i64 (k:Int),.bool false].toArray) (hl:s.length≤9000000000000000000) (hk:k≤s.length) (hR:rdInt s k=none):
  Calls Tryz.prog 168 #[.pointer (some ⟨b,0,none⟩)] w fun e w'=>e=.returned (ii (rnum s (k,false)).1)∧Box w' b 277 (rdCells s (rnum s (k,false)).2).toArray∧w.grownBy w' (some b):=by
 have HP:=Hp.own (vs:=[.string (bstr s),.int .i64 (k:Int),.bool false]) h;refine w_enter 33 [(0,(pt b 0))] Tryz.func168 rfl Tryz.ntmps168 kr kr fun a H=>zq<|H.gz HP [(2,zO)] fun a H=>zsq<|zq<|H.gy HP [(9,zF)] [0] fun a H=>w_iff H rfl<|zsk<|ztn<|zsq<|An.start (fun v=>Hp w v [bx b 277 [(sS s),(ii k),zF] false] []) 16 16 HP wide_follows rfl fun w_1 HP=>An.go H (.inr HP) 8 [0,1,2,3,4,5,6,7] [(14,(sS s)),(18,(ii k))] [0,0] fun a H=>An.one 8 kr<|Op.call H 19 rfl kr (Eq.trans (kr:_=(callFunc 190 #[(sS s),(ii k)]).run Tryz.prog w_1) (Tryz.call190 _ _)) (by have hh:=wint_any (bstr s) k w_1 hl hk;rw[show (bstr s).data.toList=s from rfl,hR] at hh;exact hh) ?_;rintro e w_2 ⟨rfl,hw⟩;refine⟨_,rfl,?_⟩;intro a H;have HP:=hw ▸ HP;refine⟨.inr HP,?_⟩
 refine An.go H (.inr HP) 0 [9,10,11,12,13,14,15] [(3,zO),(4,zO),(5,(ii 10))] [] fun a H=>An.done kr<|ztn<|zsq<|zq<|H.gz HP [(24,zT)] fun a H=>w_ift H rfl<|zq<|H.gn HP 3 [(27,(pt b 2))] fun a H=>H.sh HP 0 2 zT rfl fun w_3 a H HP=>znl<|zt<|H.gz HP [(2,zO)] fun a H=>zrt<|ztr<|H.r1 zO Tryz.results168 ?_;have HP:Hp w w_3 [bx b 277 [(sS s),(ii k),zT] false] []:=HP;exact⟨by unfold rnum;simp only[Bool.false_eq_true,if_false];rw[hR]<;>rfl,by unfold rnum;simp only[Bool.false_eq_true,if_false];rw[hR];exact HP.at_ 0 rfl,HP.only b (by intro x hx;simp only[List.mem_cons,List.not_mem_nil,or_false] at hx;rcases hx with rfl<;>simp[bx])⟩
theorem num_some (b:Nat) (s:List UInt8) (k:Nat) (w:World) (h:Box w b 277 [Value.string (bstr s),.int .i64 (k:Int),.bool false].toArray) (hl:s.length≤9000000000000000000) (hk:k≤s.length) (n:Int) (e:Nat) (hR:rdInt s k=some (n,e)):
  Calls Tryz.prog 168 #[.pointer (some ⟨b,0,none⟩)] w fun e w'=>e=.returned (ii (rnum s (k,false)).1)∧Box w' b 277 (rdCells s (rnum s (k,false)).2).toArray∧w.grownBy w' (some b):=by
 have HP:=Hp.own (vs:=[.string (bstr s),.int .i64 (k:Int),.bool false]) h;refine w_enter 33 [(0,(pt b 0))] Tryz.func168 rfl Tryz.ntmps168 kr kr fun a H=>zq<|H.gz HP [(2,zO)] fun a H=>zsq<|zq<|H.gy HP [(9,zF)] [0] fun a H=>w_iff H rfl<|zsk<|ztn<|zsq<|An.start (fun v=>Hp w v [bx b 277 [(sS s),(ii k),zF] false] []) 16 16 HP wide_follows rfl fun w_1 HP=>An.go H (.inr HP) 8 [0,1,2,3,4,5,6,7] [(14,(sS s)),(18,(ii k))] [0,0] fun a H=>An.one 8 kr<|Op.call H 19 rfl kr (Eq.trans (kr:_=(callFunc 190 #[(sS s),(ii k)]).run Tryz.prog w_1) (Tryz.call190 _ _)) (by have hh:=wint_any (bstr s) k w_1 hl hk;rw[show (bstr s).data.toList=s from rfl,hR] at hh;exact hh) ?_;rintro e w_2 ⟨rfl,hw⟩;refine⟨_,rfl,?_⟩;intro a H;have HP:=hw ▸ HP;refine⟨.inr HP,?_⟩
 refine An.go H (.inr HP) 0 [9,10,11,12,13,14,15] [(3,(ii n)),(4,(ii e)),(5,zO)] [] fun a H=>An.done kr<|ztn<|zsq<|zq<|H.gz HP [(24,zF)] fun a H=>w_iff H rfl<|zsk<|zt<|H.gn HP 4 [(29,(ii e)),(31,(pt b 1))] fun a H=>H.sh HP 0 1 (ii e) rfl fun w_3 a H HP=>znl<|zt<|H.gz HP [(2,(ii n))] fun a H=>zrt<|H.r1 (ii n) Tryz.results168 ?_;have HP:Hp w w_3 [bx b 277 [(sS s),(ii e),zF] false] []:=HP;exact⟨by unfold rnum;simp only[Bool.false_eq_true,if_false];rw[hR]<;>rfl,by unfold rnum;simp only[Bool.false_eq_true,if_false];rw[hR];exact HP.at_ 0 rfl,HP.only b (by intro x hx;simp only[List.mem_cons,List.not_mem_nil,or_false] at hx;rcases hx with rfl<;>simp[bx])⟩
theorem num_any (b:Nat) (s:List UInt8) (q:Nat×Bool) (w:World) (h:Box w b 277 (rdCells s q).toArray) (hl:s.length≤9000000000000000000) (hk:q.1≤s.length):
  Calls Tryz.prog 168 #[.pointer (some ⟨b,0,none⟩)] w fun e w'=>e=.returned (ii (rnum s q).1)∧Box w' b 277 (rdCells s (rnum s q).2).toArray∧w.grownBy w' (some b):=by
 obtain⟨k,fl⟩:=q;cases fl with
 |true=>exact num_bad b s k w h hl hk
 |false=>
  cases hR:rdInt s k with
  |none=>exact num_none b s k w h hl hk hR
  |some p=>exact num_some b s k w h hl hk p.1 p.2 hR
theorem txt_bad (b:Nat) (s:List UInt8) (k:Nat) (w:World) (h:Box w b 277 [Value.string (bstr s),.int .i64 (k:Int),.bool true].toArray) (hl:s.length≤9000000000000000000) (hk:k≤s.length)  :
  Calls Tryz.prog 169 #[.pointer (some ⟨b,0,none⟩)] w fun e w'=>e=.returned (.string (bstr (rtxt s (k,true)).1))∧Box w' b 277 (rdCells s (rtxt s (k,true)).2).toArray∧w.grownBy w' (some b):=by
 have HP:=Hp.own (vs:=[.string (bstr s),.int .i64 (k:Int),.bool true]) h;refine w_enter 33 [(0,(pt b 0))] Tryz.func169 rfl Tryz.ntmps169 kr kr fun a H=>zq<|H.gz HP [(2,zS)] fun a H=>zsq<|zq<|H.gy HP [(9,zT)] [0] fun a H=>w_ift H rfl<|zq<|H.gz HP [(2,zS)] fun a H=>zrt<|ztr<|H.r1 zS Tryz.results169 ?_;have HP:Hp w w [bx b 277 [(sS s),(ii k),zT] false] []:=HP;exact⟨by unfold rtxt;rw[if_pos rfl]<;>rfl,by unfold rtxt;rw[if_pos rfl];exact HP.at_ 0 rfl,HP.only b (by intro x hx;simp only[List.mem_cons,List.not_mem_nil,or_false] at hx;rcases hx with rfl<;>simp[bx])⟩
theorem txt_none (b:Nat) (s:List UInt8) (k:Nat) (w:World) (h:Box w b 277 [Value.string (bstr s),.int .i64 (k:Int),.bool false].toArray) (hl:s.length≤9000000000000000000) (hk:k≤s.length) (hR:rdStr s k=none):
  Calls Tryz.prog 169 #[.pointer (some ⟨b,0,none⟩)] w fun e w'=>e=.returned (.string (bstr (rtxt s (k,false)).1))∧Box w' b 277 (rdCells s (rtxt s (k,false)).2).toArray∧w.grownBy w' (some b):=by
 have HP:=Hp.own (vs:=[.string (bstr s),.int .i64 (k:Int),.bool false]) h;refine w_enter 33 [(0,(pt b 0))] Tryz.func169 rfl Tryz.ntmps169 kr kr fun a H=>zq<|H.gz HP [(2,zS)] fun a H=>zsq<|zq<|H.gy HP [(9,zF)] [0] fun a H=>w_iff H rfl<|zsk<|ztn<|zsq<|An.start (fun v=>Hp w v [bx b 277 [(sS s),(ii k),zF] false] []) 16 16 HP wide_follows rfl fun w_1 HP=>An.go H (.inr HP) 8 [0,1,2,3,4,5,6,7] [(14,(sS s)),(18,(ii k))] [0,0] fun a H=>An.one 8 kr<|Op.call H 19 rfl kr (Eq.trans (kr:_=(callFunc 191 #[(sS s),(ii k)]).run Tryz.prog w_1) (Tryz.call191 _ _)) (by have hh:=string_any s k w_1 hl hk;rw[hR] at hh;exact hh) ?_;rintro e w_2 ⟨rfl,hw⟩;refine⟨_,rfl,?_⟩;intro a H;have HP:=hw ▸ HP;refine⟨.inr HP,?_⟩
 refine An.go H (.inr HP) 0 [9,10,11,12,13,14,15] [(3,zS),(4,zO),(5,(ii 10))] [] fun a H=>An.done kr<|ztn<|zsq<|zq<|H.gz HP [(24,zT)] fun a H=>w_ift H rfl<|zq<|H.gn HP 3 [(27,(pt b 2))] fun a H=>H.sh HP 0 2 zT rfl fun w_3 a H HP=>znl<|zt<|H.gz HP [(2,zS)] fun a H=>zrt<|ztr<|H.r1 zS Tryz.results169 ?_;have HP:Hp w w_3 [bx b 277 [(sS s),(ii k),zT] false] []:=HP;exact⟨by unfold rtxt;simp only[Bool.false_eq_true,if_false];rw[hR]<;>rfl,by unfold rtxt;simp only[Bool.false_eq_true,if_false];rw[hR];exact HP.at_ 0 rfl,HP.only b (by intro x hx;simp only[List.mem_cons,List.not_mem_nil,or_false] at hx;rcases hx with rfl<;>simp[bx])⟩
theorem txt_some (b:Nat) (s:List UInt8) (k:Nat) (w:World) (h:Box w b 277 [Value.string (bstr s),.int .i64 (k:Int),.bool false].toArray) (hl:s.length≤9000000000000000000) (hk:k≤s.length) (n:List UInt8) (e:Nat) (hR:rdStr s k=some (n,e)):
  Calls Tryz.prog 169 #[.pointer (some ⟨b,0,none⟩)] w fun e w'=>e=.returned (.string (bstr (rtxt s (k,false)).1))∧Box w' b 277 (rdCells s (rtxt s (k,false)).2).toArray∧w.grownBy w' (some b):=by
 have HP:=Hp.own (vs:=[.string (bstr s),.int .i64 (k:Int),.bool false]) h;refine w_enter 33 [(0,(pt b 0))] Tryz.func169 rfl Tryz.ntmps169 kr kr fun a H=>zq<|H.gz HP [(2,zS)] fun a H=>zsq<|zq<|H.gy HP [(9,zF)] [0] fun a H=>w_iff H rfl<|zsk<|ztn<|zsq<|An.start (fun v=>Hp w v [bx b 277 [(sS s),(ii k),zF] false] []) 16 16 HP wide_follows rfl fun w_1 HP=>An.go H (.inr HP) 8 [0,1,2,3,4,5,6,7] [(14,(sS s)),(18,(ii k))] [0,0] fun a H=>An.one 8 kr<|Op.call H 19 rfl kr (Eq.trans (kr:_=(callFunc 191 #[(sS s),(ii k)]).run Tryz.prog w_1) (Tryz.call191 _ _)) (by have hh:=string_any s k w_1 hl hk;rw[hR] at hh;exact hh) ?_;rintro e w_2 ⟨rfl,hw⟩;refine⟨_,rfl,?_⟩;intro a H;have HP:=hw ▸ HP;refine⟨.inr HP,?_⟩
 refine An.go H (.inr HP) 0 [9,10,11,12,13,14,15] [(3,(sS n)),(4,(ii e)),(5,zO)] [] fun a H=>An.done kr<|ztn<|zsq<|zq<|H.gz HP [(24,zF)] fun a H=>w_iff H rfl<|zsk<|zt<|H.gn HP 4 [(29,(ii e)),(31,(pt b 1))] fun a H=>H.sh HP 0 1 (ii e) rfl fun w_3 a H HP=>znl<|zt<|H.gz HP [(2,(sS n))] fun a H=>zrt<|H.r1 (sS n) Tryz.results169 ?_;have HP:Hp w w_3 [bx b 277 [(sS s),(ii e),zF] false] []:=HP;exact⟨by unfold rtxt;simp only[Bool.false_eq_true,if_false];rw[hR]<;>rfl,by unfold rtxt;simp only[Bool.false_eq_true,if_false];rw[hR];exact HP.at_ 0 rfl,HP.only b (by intro x hx;simp only[List.mem_cons,List.not_mem_nil,or_false] at hx;rcases hx with rfl<;>simp[bx])⟩
theorem txt_any (b:Nat) (s:List UInt8) (q:Nat×Bool) (w:World) (h:Box w b 277 (rdCells s q).toArray) (hl:s.length≤9000000000000000000) (hk:q.1≤s.length):
  Calls Tryz.prog 169 #[.pointer (some ⟨b,0,none⟩)] w fun e w'=>e=.returned (.string (bstr (rtxt s q).1))∧Box w' b 277 (rdCells s (rtxt s q).2).toArray∧w.grownBy w' (some b):=by
 obtain⟨k,fl⟩:=q;cases fl with
 |true=>exact txt_bad b s k w h hl hk
 |false=>
  cases hR:rdStr s k with
  |none=>exact txt_none b s k w h hl hk hR
  |some p=>exact txt_some b s k w h hl hk p.1 p.2 hR
theorem dropGetD {l:List UInt8}{a k:Nat}{d:UInt8}:(l.drop a).getD k d=l.getD (a+k) d:=by simp only[List.getD,List.getElem?_drop]
def flagsP (N i:Nat):Nat:=(if i=0 then 1 else 0)+(if i+1=N then 2 else 0)
abbrev Pk:={x:List UInt8 // x.length=64}
def pktN (S:List UInt8):Nat:=(S.length+58)/59
def pktAt (S:List UInt8) (ch fr N j:Nat):List UInt8:=[71,UInt8.ofNat ch,UInt8.ofNat (16*(fr%16)+j%16),UInt8.ofNat (flagsP N j),UInt8.ofNat (min 59 (S.length-59*j))]++(S.drop (59*j)).take 59++List.replicate (59-(S.length-59*j)) 255
theorem pktAt_len {S:List UInt8}{ch fr N j:Nat}(h:59*j≤S.length):(pktAt S ch fr N j).length=64:=by
 unfold pktAt;simp only[List.length_append,List.length_cons,List.length_nil,List.length_take,List.length_drop,List.length_replicate];omega
def streamU (rn rd:Int) (u:Un):List UInt8:=clockP (ticksP rn rd u.frame).toNat++bodyP u
def pktsU (rn rd:Int) (u:Un):List (List UInt8):=(List.range (pktN (streamU rn rd u))).map (pktAt (streamU rn rd u) u.channel.toNat u.frame.toNat (pktN (streamU rn rd u)))
theorem ticks_nat (rn rd fr:Int):∃tk:Nat,ticksP rn rd fr=((tk:Nat):Int)∧tk<8589934592:=by
 unfold ticksP;generalize fr*90000*rd/rn=x;exact⟨(x%8589934592).toNat,om,om⟩
theorem encStr_len (l:List UInt8):(encStr l).length≤9+l.length:=by
 unfold encStr;rw[List.length_append];have:=(encInt_len ((l.length:Nat):Int)).2;omega
theorem streamU_len {rn rd:Int}{u:Un}(h:validU u=true):(streamU rn rd u).length≤720:=by
 obtain⟨hvf,hvo⟩:=validU_facts h;have h1:=encOpt_len hvo;have h2:=encStr_len (encOpt u.os u.of u.al);have h3:=encStr_len u.data;have h4:=encStr_len u.caption;have h5:=encInts_len [u.channel,u.frame,u.version,u.item,u.index,if u.key=true then 1 else 0];have h6:=encInts_len [u.regions,u.gain];have h7:=(encInt_len ((sumP (contentP u):Nat):Int)).2;have h8:(clockP (ticksP rn rd u.frame).toNat).length=5:=rfl;unfold streamU bodyP;rw[List.length_append,List.length_append,h8];have h9:(contentP u).length=(encInts [u.channel,u.frame,u.version,u.item,u.index,if u.key=true then 1 else 0]).length+(encStr u.data).length+(encInts [u.regions,u.gain]).length+(encStr u.caption).length+(encStr (encOpt u.os u.of u.al)).length:=by
  unfold contentP;simp only[List.length_append]
 simp only[List.length_cons,List.length_nil] at h5 h6;omega
def KpU (b:Nat) (W W':World):Prop:=W.heap.size≤W'.heap.size∧W'.heap[b]? =W.heap[b]?
theorem KpU.trans {b:Nat}{A B C:World}(h:KpU b A B) (k:KpU b B C):KpU b A C:=⟨Nat.le_trans h.1 k.1,k.2.trans h.2⟩
theorem KpU.below {b:Nat}{W W':World}(h:Below W.heap.size W W') (hb:b<W.heap.size):KpU b W W':=⟨h.size,h.block b hb⟩
theorem KpU.box {b:Nat}{W W':World}{t:TypeId}{vs:Array Value}(h:KpU b W W') (hx:Box W b t vs):Box W' b t vs:=h.2.trans hx
theorem KpU.put {b:Nat}(W:World) (l:Nat) (o o':Obj) (hl:b≠l):KpU b W (W.putObj l o'):=⟨by simp,World.putObj_heap_other hl⟩
theorem boxCells {w:World}{b:Nat}{t:TypeId}{vs:List Value}(h:Box w b t vs.toArray):cellsAt w b 0 vs:=fun i v hv=>by
 rw[Nat.zero_add]
 exact h.cell (by simpa using hv)
theorem pk_cells {c1 c2 c3 n:Nat}{s:List UInt8}(h1:c1<256) (h2:c2<256) (h3:c3<256) (h4:n<256) (hs:s.length=n) (hn:n≤59):
  (Value.int .u8 71:: .int .u8 ((c1:Nat):Int):: .int .u8 ((c2:Nat):Int):: .int .u8 ((c3:Nat):Int):: .int .u8 ((n:Nat):Int)::List.replicate 59 (Value.int .u8 0)).take 5++Lib.byteCells s++(Value.int .u8 71:: .int .u8 ((c1:Nat):Int):: .int .u8 ((c2:Nat):Int):: .int .u8 ((c3:Nat):Int):: .int .u8 ((n:Nat):Int)::List.replicate 59 (Value.int .u8 0)).drop (5+s.length) =
   Lib.byteCells ([71,UInt8.ofNat c1,UInt8.ofNat c2,UInt8.ofNat c3,UInt8.ofNat n]++s++(List.replicate 0 255++List.replicate (59-n-0) 0)):=by
 subst hs;have e:∀k,k<256→(UInt8.ofNat k).toNat=k:=fun k h=>ofNat_toNat h;rw[show ∀(a b c d e:Value) (l:List Value),(a::b::c::d::e::l).drop (5+s.length)=l.drop s.length from fun a b c d e l=>by rw[Nat.add_comm];rfl];simp only[Lib.byteCells,List.map_append,List.map_cons,List.map_nil,List.map_replicate,e _ h1,e _ h2,e _ h3,e _ h4,List.drop_replicate,List.take_succ_cons,List.take_zero,List.replicate_zero,List.nil_append,Nat.sub_zero];rfl
theorem pk_set {s:List UInt8}{a b c d e:UInt8}{n i:Nat}(hs:s.length=n) (hi:i<59-n):
  (Lib.byteCells ([a,b,c,d,e]++s++(List.replicate i 255++List.replicate (59-n-i) 0))).set (0+(5+n+i)*1) (.int .u8 255)=Lib.byteCells ([a,b,c,d,e]++s++(List.replicate (i+1) 255++List.replicate (59-n-(i+1)) 0)):=by
 rw[show 59-n-i=(59-n-(i+1))+1 from om,List.replicate_succ,List.replicate_succ'];rw[show [a,b,c,d,e]++s++(List.replicate i 255++(0::List.replicate (59-n-(i+1)) 0))=([a,b,c,d,e]++s++List.replicate i 255)++(0::List.replicate (59-n-(i+1)) 0) by simp];rw[byteCells_append,List.set_append_right _ _ (by rw[byteCells_len];simp;omega)];rw[show 0+(5+n+i)*1-(Lib.byteCells ([a,b,c,d,e]++s++List.replicate i 255)).length=0 by rw[byteCells_len];simp;omega];simp[Lib.byteCells]
theorem drop_next {S s:List UInt8}{j n:Nat}(hs:S.drop (59*j)=s) (hn:n=s.length∨n=59∧59≤s.length) (hn3:n≤59):s.drop n=S.drop (59*(j+1)):=by
 rw[Nat.mul_add,←List.drop_drop,hs];rcases hn with h|⟨h,_⟩
 ·rw[List.drop_of_length_le om,List.drop_of_length_le om]
 ·rw[h]
theorem pkt_eq {S s:List UInt8}{ch fr N j n fl:Nat}(hs:S.drop (59*j)=s) (hsl:s.length=S.length-59*j) (hn:n=s.length∨n=59∧59≤s.length) (hn3:n≤59) (hfl:fl=flagsP N j):
  [71,UInt8.ofNat ch,UInt8.ofNat (16*(fr%16)+j%16),UInt8.ofNat fl,UInt8.ofNat n]++s.take n++(List.replicate (59-n) 255++List.replicate (59-n-(59-n)) 0)=pktAt S ch fr N j:=by
 unfold pktAt;rw[Nat.sub_self,List.replicate_zero,List.append_nil,hs,hfl,←hsl,show min 59 s.length=n from om,show 59-n=59-s.length from om];congr 2;rcases hn with h|⟨h,_⟩
 ·rw[List.take_of_length_le om,List.take_of_length_le om]
 ·rw[h]
theorem packets1_any (m l Br Bu:Nat) (rn rd:Int) (u:Un) (J Jx:List Pk→World→Prop) (w:World) (hL:Laid w) (hrv:rateOk rn rd=true) (hu:IsAlts w u.A u.al.length u.al) (hv:validU u=true)
  (hB1:Box w Br 58 #[.int .i64 rn,.int .i64 rd]) (hB2:Box w Bu 76 u.cells) (hJo:OwnFrom w.heap.size J) (h0:J [] w)
  (hY:∀pre x W1,J pre W1→pre.length<pktN (streamU rn rd u)→YieldAt Fence.wide m Tryz.prog l #[.agg (Lib.byteCells x.1).toArray] W1 fun e W'=>∃b,e=.returned (.bool b)∧(b=true→J (pre++[x]) W')∧(b=false→Jx (pre++[x]) W')∧KpU Bu W1 W'):
  Calls Tryz.prog 85 #[.func (.yield l) #[] #[],.pointer (some ⟨Br,0,none⟩),.pointer (some ⟨Bu,0,none⟩)] w fun e W'=>(∃v,e=.returned v)∧((∃xs:List Pk,xs.map (·.1)=pktsU rn rd u∧J xs W')∨∃pre,Jx pre W'):=by
 have hvf:=(validU_facts hv).1;have hfr:0≤u.frame∧u.frame≤100000000:=om;obtain⟨tk,htk,htb⟩:=ticks_nat rn rd u.frame;obtain⟨ch,hch⟩:∃ch:Nat,u.channel=(ch:Int):=⟨u.channel.toNat,om⟩;obtain⟨fr,hfrn⟩:∃fr:Nat,u.frame=(fr:Int):=⟨u.frame.toNat,om⟩;have hchb:ch<40:=om;have hfrb:fr≤100000000:=om;obtain⟨S,hS⟩:∃S,streamU rn rd u=S:=⟨_,rfl⟩;have hS0:clockP tk++bodyP u=S:=by rw[←hS];unfold streamU;rw[htk];rfl
 have hpk:pktsU rn rd u=(List.range (pktN S)).map (pktAt S ch fr (pktN S)):=by unfold pktsU;rw[hS,hch,hfrn];rfl
 rw[hpk];rw[hS] at hY;obtain⟨N,hN⟩:∃N,pktN S=N:=⟨_,rfl⟩;rw[hN] at hY ⊢;have hNN:S.length≤59*N∧59*N<S.length+59:=by unfold pktN at hN;omega
 have hSl:S.length≤720:=by rw[←hS];exact streamU_len hv
 have hSl2:(clockP tk).length+(bodyP u).length≤720:=by have:=hSl;rw[←hS0,List.length_append] at this;exact this
 clear hvf hS hN hpk;have HP:=Hp.start w;refine w_enter 79 [(0,(.func (.yield l) #[] #[])),(1,(pt Br 0)),(2,(pt Bu 0))] Tryz.func85 rfl Tryz.ntmps85 kr kr fun a H=>zsq<|An.start (fun v=>Hp w v [] []) 9 9 HP wide_follows rfl fun w_1 HP=>An.vw H HP 0 9 (.agg #[(ii rn),(ii rd)]) (fun _ hS=>ex_lN [(ii rn),(ii rd)] (boxCells (hB1.next (hS.below kr)))) fun a H=>An.go H (.inr HP) 7 [1] [(10,(pt Bu 1))] [] fun a H=>An.vw H HP 2 11 (ii u.frame) (fun _ hS=>ex_l1 (hS.oldc kr (hB2.cell (i:=1) rfl))) fun a H=>An.vw H HP 5 14 (.agg (ua u u.A u.c)) (fun _ hS=>ex_lN (ul u u.A u.c) (boxCells (hB2.next (hS.below kr)))) fun a H=>An.one 3 kr<|Op.call H 12 rfl kr (Eq.trans (kr:_=(callFunc 87 #[(.agg #[(ii rn),(ii rd)]),(ii u.frame)]).run Tryz.prog w_1) (Tryz.call87 _ _)) (by have hh:=ticks_any rn rd u.frame w_1 (hL.below HP.bl) hrv hfr;rw[htk] at hh;exact hh) ?_;rintro e w_2 ⟨rfl,hb⟩
 refine⟨_,rfl,?_⟩;intro a H;have HP:=HP.next hb
 refine⟨.inr HP,?_⟩;refine An.one 4 kr<|Op.cb H HP 13 (Tryz.call86 _ _) (clock_any tk w_2 om) fun w_3 hb a H HP=>⟨.inr HP,?_⟩;refine An.one 6 kr<|Op.cb H HP 15 (Tryz.call88 _ _) (body_any u w_3 (hL.below HP.bl) (hu.below HP.bl) hv) fun w_4 hb a H HP=>⟨.inr HP,?_⟩;refine An.q H (.inr HP) 7 16 (sS ((clockP tk)++(bodyP u))) (fun _=>ex_sadd kr kr om) fun a H=>An.go H (.inr HP) 0 [8] [(4,(sS ((clockP tk)++(bodyP u))))] [] fun a H=>An.done kr ?_;rw[hS0] at H;have H:=H.keep (L':=[(4,(sS S)),(0,(.func (.yield l) #[] #[])),(1,(pt Br 0)),(2,(pt Bu 0))]) kr;have hbel:=HP.bl;refine zt<|H.gz HP [(5,zO)] fun a H=>zbk<|w_loop (fun mm a wv=>∃(j:Nat),∃(pre:List Pk),N-j=mm∧Sl 79 [(5,(ii j)),(4,(sS (S.drop (59*j)))),(0,(.func (.yield l) #[] #[])),(2,(pt Bu 0))] a∧Hp wv wv [] []∧(j≤N)∧(pre.map (·.1)=(List.range j).map (pktAt S ch fr N))∧(J pre wv)∧(KpU Bu w wv)) (N-0) ?_ ?_
 ·exact⟨0,[],om,H.keep kr,Hp.start _,om,rfl,OwnFrom.below hJo h0 hbel,KpU.below hbel hB2.lt⟩
 rintro mm a w_5 ⟨j,pre,hmeas,H,HP,hj,hpre,hjs,hkc⟩;have hpl:pre.length=j:=by have:=congrArg List.length hpre;simpa using this
 have HU:=hkc.box hB2;have c0:w_5.cell? ⟨Bu,0,none⟩=some (ii ch):=by rw[←hch];exact HU.cell (i:=0) rfl
 have c1:w_5.cell? ⟨Bu,1,none⟩=some (ii fr):=by rw[←hfrn];exact HU.cell (i:=1) rfl
 obtain⟨s,hs⟩:∃s,S.drop (59*j)=s:=⟨_,rfl⟩;have hsl:s.length=S.length-59*j:=by rw[←hs,List.length_drop]
 rw[hs] at H;refine zsq<|zq<|H.gz HP [(19,(.bool (decide ((s.length:Int)>0))))] fun a H=>w_if H rfl (fun g19=>?_) (fun g19=>?_)
 ·have g19p:=of_decide_eq_true g19;refine zsk<|ztn<|zsq<|zbk<|zq<|H.gn HP 2 [(23,(ii s.length))] fun a H=>H.valE 24 (ii (if(s.length:Int)<59 then(s.length:Int) else 59)) (ii (min 59 (s.length:Int))) kr kr (congrArg (Value.int .i64) (min_if _ _)) fun a H=>H.ge HP [(6,(ii (min 59 (s.length:Int))))] [] fun a H=>?_;obtain⟨n,hn1,hn3,hn12⟩:∃n:Nat,min (59:Int) (s.length:Int)=(n:Int)∧n≤59∧(n=s.length∨n=59∧59≤s.length):=⟨min 59 s.length,om,om,om⟩;have H:=H.as 6 (ii n) rfl (congrArg (Value.int .i64) om)
  refine zt<|H.al HP 7 143 [(.int .u8 0),(.int .u8 0),(.int .u8 0),(.int .u8 0),(.int .u8 0),(.int .u8 0),(.int .u8 0),(.int .u8 0),(.int .u8 0),(.int .u8 0),(.int .u8 0),(.int .u8 0),(.int .u8 0),(.int .u8 0),(.int .u8 0),(.int .u8 0),(.int .u8 0),(.int .u8 0),(.int .u8 0),(.int .u8 0),(.int .u8 0),(.int .u8 0),(.int .u8 0),(.int .u8 0),(.int .u8 0),(.int .u8 0),(.int .u8 0),(.int .u8 0),(.int .u8 0),(.int .u8 0),(.int .u8 0),(.int .u8 0),(.int .u8 0),(.int .u8 0),(.int .u8 0),(.int .u8 0),(.int .u8 0),(.int .u8 0),(.int .u8 0),(.int .u8 0),(.int .u8 0),(.int .u8 0),(.int .u8 0),(.int .u8 0),(.int .u8 0),(.int .u8 0),(.int .u8 0),(.int .u8 0),(.int .u8 0),(.int .u8 0),(.int .u8 0),(.int .u8 0),(.int .u8 0),(.int .u8 0),(.int .u8 0),(.int .u8 0),(.int .u8 0),(.int .u8 0),(.int .u8 0),(.int .u8 0),(.int .u8 0),(.int .u8 0),(.int .u8 0),(.int .u8 0)] fun b_6 w_7 a H HP=>znl ?_
  have HP:Hp w_5 w_7 [bx b_6 143 ((.int .u8 0)::(.int .u8 0)::(.int .u8 0)::(.int .u8 0)::(.int .u8 0)::List.replicate 59 (.int .u8 0)) true] []:=HP
  refine zt<|H.v 25 (pt b_6 0) fun a H=>H.st HP 0 b_6 0 1 143 true (.int .u8 71) [bx b_6 143 ((.int .u8 71)::(.int .u8 0)::(.int .u8 0)::(.int .u8 0)::(.int .u8 0)::List.replicate 59 (.int .u8 0)) true] rfl fun w_8 a H HP=>znl<|zt<|H.gn HP 1 [(26,(pt Bu 0))] fun a H=>H.u 27 (ii ch) (ex_l1 (HP.oldc kr c0)) fun a H=>H.valE 28 (.int .u8 (IntKind.u8.wrap (ch:Int))) (.int .u8 (ch:Int)) kr kr (by rw[wrap_inu8 _ om]) fun a H=>H.v 29 (pt b_6 1) fun a H=>H.st HP 0 b_6 1 1 143 true (.int .u8 (ch:Int)) [bx b_6 143 ((.int .u8 71)::(.int .u8 (ch:Int))::(.int .u8 0)::(.int .u8 0)::(.int .u8 0)::List.replicate 59 (.int .u8 0)) true] rfl fun w_9 a H HP=>znl<|zt<|H.gn HP 1 [(30,(pt Bu 1))] fun a H=>H.u 31 (ii fr) (ex_l1 (HP.oldc kr c1)) fun a H=>H.valE 32 (ii ((fr:Int).tmod 16)) (ii ((fr%16:Nat):Int)) kr kr (by rw[tmod_nn _ _ om];exact congrArg (Value.int .i64) om) fun a H=>H.valE 33 (ii (IntKind.i64.wrap (16*((fr%16:Nat):Int)))) (ii ((16*(fr%16):Nat):Int)) kr kr (by rw[wrap_ini64 _ om];exact congrArg (Value.int .i64) om) fun a H=>H.gn HP 1 [(34,(ii j))] fun a H=>H.valE 35 (ii ((j:Int).tmod 16)) (ii ((j%16:Nat):Int)) kr kr (by rw[tmod_nn _ _ om];exact congrArg (Value.int .i64) om) fun a H=>H.valE 36 (ii (IntKind.i64.wrap (((16*(fr%16):Nat):Int)+((j%16:Nat):Int)))) (ii ((16*(fr%16)+j%16:Nat):Int)) kr kr (by rw[wrap_ini64 _ om];exact congrArg (Value.int .i64) om) fun a H=>H.valE 37 (.int .u8 (IntKind.u8.wrap ((16*(fr%16)+j%16:Nat):Int))) (.int .u8 ((16*(fr%16)+j%16:Nat):Int)) kr kr (by rw[wrap_inu8 _ om]) fun a H=>H.v 38 (pt b_6 2) fun a H=>H.st HP 0 b_6 2 1 143 true (.int .u8 ((16*(fr%16)+j%16:Nat):Int)) [bx b_6 143 ((.int .u8 71)::(.int .u8 (ch:Int))::(.int .u8 ((16*(fr%16)+j%16:Nat):Int))::(.int .u8 0)::(.int .u8 0)::List.replicate 59 (.int .u8 0)) true] rfl fun w_10 a H HP=>znl<|ztn<|w_cut (fun a wv=>∃(f0:Nat),Sl 79 [(5,(ii j)),(4,(sS s)),(0,(.func (.yield l) #[] #[])),(2,(pt Bu 0)),(6,(ii n)),(7,(pt b_6 0))] a∧Hp w_5 wv [bx b_6 143 ((.int .u8 71)::(.int .u8 (ch:Int))::(.int .u8 ((16*(fr%16)+j%16:Nat):Int))::(.int .u8 (f0:Int))::(.int .u8 0)::List.replicate 59 (.int .u8 0)) true] []∧((f0=0∧j≠0)∨(f0=1∧j=0))) ?_ ?_
  ·refine zq<|H.gz HP [(40,(.bool ((j:Int) == 0)))] fun a H=>w_if H rfl (fun g40=>?_) (fun g40=>?_)
   ·have g40p:=eq_of_beq g40;refine zrg<|H.v 41 (pt b_6 3) fun a H=>H.go HP 1 [(42,(.int .u8 0))] [0] fun a H=>H.v 43 (.int .u8 1) fun a H=>H.v 44 (pt b_6 3) fun a H=>H.st HP 0 b_6 3 1 143 true (.int .u8 1) [bx b_6 143 ((.int .u8 71)::(.int .u8 (ch:Int))::(.int .u8 ((16*(fr%16)+j%16:Nat):Int))::(.int .u8 1)::(.int .u8 0)::List.replicate 59 (.int .u8 0)) true] rfl fun w_11 a H HP=>znl (ztn ?_);exact⟨1,H.keep kr,HP,om⟩
   have g40p:=ne_of_beq_false g40;refine zsk (ztn ?_);exact⟨0,H.keep kr,HP,om⟩
  
  rintro a w_12 ⟨f0,H,HP,hf0⟩;refine w_cut (fun a wv=>∃(fl:Nat),Sl 79 [(5,(ii j)),(4,(sS s)),(0,(.func (.yield l) #[] #[])),(2,(pt Bu 0)),(6,(ii n)),(7,(pt b_6 0))] a∧Hp w_5 wv [bx b_6 143 ((.int .u8 71)::(.int .u8 (ch:Int))::(.int .u8 ((16*(fr%16)+j%16:Nat):Int))::(.int .u8 (fl:Int))::(.int .u8 0)::List.replicate 59 (.int .u8 0)) true] []∧(fl=flagsP N j)∧(fl<256)) ?_ ?_
  ·refine zq<|H.gz HP [(48,(.bool ((n:Int) == (s.length:Int))))] fun a H=>w_if H rfl (fun g48=>?_) (fun g48=>?_)
   ·have g48p:=eq_of_beq g48;refine zrg<|H.v 49 (pt b_6 3) fun a H=>H.go HP 1 [(50,(.int .u8 (f0:Int)))] [0] fun a H=>H.valE 51 (.int .u8 (bits .or .u8 (f0:Int) 2)) (.int .u8 ((f0+2:Nat):Int)) kr kr (by rcases hf0 with⟨rfl,_⟩|⟨rfl,_⟩<;>rfl) fun a H=>H.v 52 (pt b_6 3) fun a H=>H.st HP 0 b_6 3 1 143 true (.int .u8 ((f0+2:Nat):Int)) [bx b_6 143 ((.int .u8 71)::(.int .u8 (ch:Int))::(.int .u8 ((16*(fr%16)+j%16:Nat):Int))::(.int .u8 ((f0+2:Nat):Int))::(.int .u8 0)::List.replicate 59 (.int .u8 0)) true] rfl fun w_13 a H HP=>znl (ztn ?_);exact⟨f0+2,H.keep kr,HP,(by unfold flagsP;split<;>split<;>omega),om⟩
   have g48p:=ne_of_beq_false g48;refine zsk (ztn ?_);exact⟨f0,H.keep kr,HP,(by unfold flagsP;split<;>split<;>omega),om⟩
  
  rintro a w_14 ⟨fl,H,HP,hfl,hflb⟩
  refine zq<|H.gn HP 1 [(53,(ii n))] fun a H=>H.valE 54 (.int .u8 (IntKind.u8.wrap (n:Int))) (.int .u8 (n:Int)) kr kr (by rw[wrap_inu8 _ om]) fun a H=>H.v 55 (pt b_6 4) fun a H=>H.st HP 0 b_6 4 1 143 true (.int .u8 (n:Int)) [bx b_6 143 ((.int .u8 71)::(.int .u8 (ch:Int))::(.int .u8 ((16*(fr%16)+j%16:Nat):Int))::(.int .u8 (fl:Int))::(.int .u8 (n:Int))::List.replicate 59 (.int .u8 0)) true] rfl fun w_15 a H HP=>znl<|ztn<|zsq<|An.start (fun v=>Hp w_5 v [bx b_6 143 ((.int .u8 71)::(.int .u8 (ch:Int))::(.int .u8 ((16*(fr%16)+j%16:Nat):Int))::(.int .u8 (fl:Int))::(.int .u8 (n:Int))::List.replicate 59 (.int .u8 0)) true] []) 4 5 HP wide_follows rfl fun w_16 HP=>An.p H (.inr HP) 0 56 (sL (some ⟨b_6,5,none⟩) 59 59) fun a H=>An.go H (.inr HP) 2 [1,2] [(57,(sS s)),(58,(ii n))] [] fun a H=>An.q H (.inr HP) 3 59 (sS (s.take n)) (fun _=>ex_ssliceH (kk:=.i64) (l:=s) (j:=(n:Int)) (b:=n) kr kr kr om om) fun a H=>An.one 4 kr<|Op.copyS H HP 0 60 b_6 5 59 59 143 ((.int .u8 71)::(.int .u8 (ch:Int))::(.int .u8 ((16*(fr%16)+j%16:Nat):Int))::(.int .u8 (fl:Int))::(.int .u8 (n:Int))::List.replicate 59 (.int .u8 0)) (s.take n) true [bx b_6 143 (((.int .u8 71)::(.int .u8 (ch:Int))::(.int .u8 ((16*(fr%16)+j%16:Nat):Int))::(.int .u8 (fl:Int))::(.int .u8 (n:Int))::List.replicate 59 (.int .u8 0)).take 5++Lib.byteCells (s.take n)++((.int .u8 71)::(.int .u8 (ch:Int))::(.int .u8 ((16*(fr%16)+j%16:Nat):Int))::(.int .u8 (fl:Int))::(.int .u8 (n:Int))::List.replicate 59 (.int .u8 0)).drop (5+(s.take n).length)) true] (e:=5) rfl kr kr kr kr rfl (by rw[List.length_take];omega) (by rw[List.length_take];show 5+min n s.length≤64;omega) (dT:=106) (sT:=9) (ty:=3) rfl fun w_17 a H HP=>⟨.inl kr,?_⟩
  refine An.done kr ?_;have htn:(s.take n).length=n:=by rw[List.length_take];omega
  have hcs:((.int .u8 71)::(.int .u8 (ch:Int))::(.int .u8 ((16*(fr%16)+j%16:Nat):Int))::(.int .u8 (fl:Int))::(.int .u8 (n:Int))::List.replicate 59 (.int .u8 0)).take 5++Lib.byteCells (s.take n)++((.int .u8 71)::(.int .u8 (ch:Int))::(.int .u8 ((16*(fr%16)+j%16:Nat):Int))::(.int .u8 (fl:Int))::(.int .u8 (n:Int))::List.replicate 59 (.int .u8 0)).drop (5+(s.take n).length)=Lib.byteCells ([71,UInt8.ofNat ch,UInt8.ofNat (16*(fr%16)+j%16),UInt8.ofNat fl,UInt8.ofNat n]++s.take n++(List.replicate 0 255++List.replicate (59-n-0) 0)):=pk_cells om om om om htn hn3;rw[hcs] at HP
  refine ztn<|zsq<|zq<|H.gn HP 1 [(61,(ii n))] fun a H=>H.valE 62 (ii (IntKind.i64.wrap (59-(n:Int)))) (ii ((59-n:Nat):Int)) kr kr (by rw[wrap_ini64 _ om];exact congrArg (Value.int .i64) om) fun a H=>H.gz HP [(63,zO)] fun a H=>zbk<|w_loop (fun mm a wv=>∃(i:Nat),59-n-i=mm∧Sl 79 [(63,(ii i)),(62,(ii ((59-n:Nat):Int))),(5,(ii j)),(4,(sS s)),(0,(.func (.yield l) #[] #[])),(2,(pt Bu 0)),(6,(ii n)),(7,(pt b_6 0))] a∧Hp w_5 wv [bx b_6 143 (Lib.byteCells ([71,UInt8.ofNat ch,UInt8.ofNat (16*(fr%16)+j%16),UInt8.ofNat fl,UInt8.ofNat n]++s.take n++(List.replicate i 255++List.replicate (59-n-i) 0))) true] []∧(i≤59-n)) (59-n-0) ?_ ?_
  ·exact⟨0,om,H.keep kr,HP,om⟩
  rintro mm a w_18 ⟨i,hmeas,H,HP,hi⟩;refine zq<|H.gz HP [(64,(.bool (decide ((i:Int)<((59-n:Nat):Int)))))] fun a H=>zsq<|w_if H rfl (fun g64=>?_) (fun g64=>?_)
  ·have g64p:=of_decide_eq_true g64
   refine zsk<|ztn<|zsq<|zbk<|zq<|H.gz HP [(8,(ii i))] fun a H=>zrg<|H.gn HP 1 [(66,(ii n))] fun a H=>H.valE 67 (ii (IntKind.i64.wrap (5+(n:Int)))) (ii ((5+n:Nat):Int)) kr kr (by rw[wrap_ini64 _ om];exact congrArg (Value.int .i64) om) fun a H=>H.gn HP 1 [(68,(ii i))] fun a H=>H.valE 69 (ii (IntKind.i64.wrap (((5+n:Nat):Int)+(i:Int)))) (ii ((5+n+i:Nat):Int)) kr kr (by rw[wrap_ini64 _ om];exact congrArg (Value.int .i64) om) fun a H=>H.u 70 (.pointer (some ⟨b_6,0+(5+n+i)*1,none⟩)) (ex_aindex (b:=b_6) (off:=0) (n:=64) (e:=5) (m:=5+n+i) (k:=1) (ik:=.i64) (i:=((5+n+i:Nat):Int)) kr kr rfl om kr kr) fun a H=>H.store HP 0 b_6 (0+(5+n+i)*1) 1 143 _ true (.int .u8 255) [bx b_6 143 ((Lib.byteCells ([71,UInt8.ofNat ch,UInt8.ofNat (16*(fr%16)+j%16),UInt8.ofNat fl,UInt8.ofNat n]++s.take n++(List.replicate i 255++List.replicate (59-n-i) 0))).set (0+(5+n+i)*1) (.int .u8 255)) true] kr kr kr rfl kr kr kr (Nat.ble_eq_true_of_le (by rw[byteCells_len];simp only[List.length_append,List.length_replicate,htn];show 0+(5+n+i)*1+1≤5+n+(i+(59-n-i));omega)) rfl fun w_19 a H HP=>znl ?_
   rw[pk_set htn om] at HP;refine zibn<|ztn<|zrg<|H.wi 71 ((i:Int)+1) fun a H=>H.ge HP [(63,(ii ((i:Int)+1)))] [] fun a H=>ztn ?_;have H:=H.as 63 (ii ((i+1:Nat):Int)) rfl rfl;refine⟨_,?_,i+1,rfl,H.keep kr,HP,om⟩;omega
  have g64p:=of_decide_eq_false g64;refine wp_exit<|then_exit<|then_exit<|w_exit_here<|ztn (zsq (zsq ?_));have hj2:59*j≤S.length:=om;have hx:([71,UInt8.ofNat ch,UInt8.ofNat (16*(fr%16)+j%16),UInt8.ofNat fl,UInt8.ofNat n]++s.take n++(List.replicate i 255++List.replicate (59-n-i) 0))=pktAt S ch fr N j:=by rw[show i=59-n from om];exact pkt_eq hs hsl hn12 hn3 hfl
  rw[hx] at HP;refine w_regionI (m+1)<|H.valI 72 (.func (.yield l) #[] #[]) kr kr fun a H=>H.valI 73 (.agg (Lib.byteCells (pktAt S ch fr N j)).toArray) kr (ex_loadN (k:=64) (vs:=Lib.byteCells (pktAt S ch fr N j)) kr kr kr (by rw[byteCells_len];exact pktAt_len hj2) (HP.cells 0 rfl 0 64 (List.take_of_length_le (by rw[List.drop_zero,byteCells_len,pktAt_len hj2];exact Nat.le_refl _)))) fun a H=>H.callY 74 (l:=l) kr kr (hY pre ⟨pktAt S ch fr N j,pktAt_len hj2⟩ _ (OwnFrom.below hJo hjs HP.bl) om) ?_;rintro e w_20 ⟨bb,rfl,hjt,hjf,hkp⟩;refine⟨_,rfl,?_⟩;intro a H;have hkc2:=(hkc.trans (KpU.below HP.bl (Nat.lt_of_lt_of_le hB2.lt hkc.1))).trans hkp;have HP:=Hp.start w_20;refine H.valI 75 (.bool (!bb)) kr kr fun a H=>wpListIn_nil<|ztn<|w_if H rfl (fun g75=>?_) (fun g75=>?_)
  ·have g75p:=not_is_true g75;refine zrt<|ztr<|zibr<|ztr<|ztr<|zibr<|H.ret0 (fn:=Tryz.f85) Tryz.results85  ?_;exact⟨⟨_,rfl⟩,.inr ⟨_,hjf g75p⟩⟩
  have g75p:=not_is_false g75;refine zsk<|ztn<|zrg<|H.gn HP 2 [(76,(sS s)),(77,(ii n))] fun a H=>H.u 78 (sS (s.drop n)) (ex_ssliceL (k:=.i64) (l:=s) (i:=(n:Int)) (a:=n) kr kr kr om om) fun a H=>H.ge HP [(4,(sS (s.drop n)))] [] fun a H=>zibn<|ztn<|zrg<|H.gn HP 1 [(20,(ii j))] fun a H=>H.wi 21 ((j:Int)+1) fun a H=>H.ge HP [(5,(ii ((j:Int)+1)))] [] fun a H=>ztn ?_;have H:=H.as 5 (ii ((j+1:Nat):Int)) rfl rfl;have H:=H.as 4 (sS (S.drop (59*(j+1)))) rfl (congrArg (fun l=>Value.string (bstr l)) (drop_next hs hn12 hn3));refine⟨_,?_,j+1,pre++[⟨pktAt S ch fr N j,pktAt_len hj2⟩],rfl,H.keep kr,HP,om,(by rw[List.map_append,hpre,List.range_succ,List.map_append];rfl),hjt g75p,hkc2⟩;omega
 have g19p:=of_decide_eq_false g19;refine wp_exit<|then_exit<|then_exit<|w_exit_here<|H.end0 (fn:=Tryz.f85) Tryz.results85  ?_;obtain rfl:j=N:=om;exact⟨⟨_,rfl⟩,.inl ⟨pre,hpre,hjs⟩⟩
theorem packets_any (r u:Array Value) (w:World):
    Calls Tryz.prog 51 #[.agg r,.agg u] w fun e w'=>e=.returned (.func (.func 85) #[] #[.pointer (some ⟨w.heap.size,0,none⟩),.pointer (some ⟨w.heap.size+1,0,none⟩)])∧w'=(w.alloc (.cells r 58)).alloc (.cells u 76):=by
  go_enter Tryz.func51,Tryz.ntmps51;go_wp2;go_ret;simp
theorem packets_seq (n:Nat) (Br Bu:Nat) (rn rd:Int) (u:Un) (w:World) (hL:Laid w) (hrv:rateOk rn rd=true) (hu:IsAlts w u.A u.al.length u.al) (hv:validU u=true)
    (hB1:Box w Br 58 #[.int .i64 rn,.int .i64 rd]) (hB2:Box w Bu 76 u.cells):
    SeqO Fence.wide n Tryz.prog 85 #[.pointer (some ⟨Br,0,none⟩),.pointer (some ⟨Bu,0,none⟩)] (fun x:Pk=>#[.agg (Lib.byteCells x.1).toArray]) (KpU Bu) (fun ys=>ys.map (·.1)=pktsU rn rd u) (fun _=>True) (pktN (streamU rn rd u)) w:=fun l J Jx W hW _ hJ hJx hY h0=>
  callsIn_wide.2 ((packets1_any (n-1) l Br Bu rn rd u J Jx W (hL.below hW) hrv (hu.below hW) hv (hB1.next hW) (hB2.next hW) hJ h0 (fun pre x W1 hj hl=>by
    obtain⟨fn,tm,asg,bo,hy,hR⟩:=hY pre x W1 hj hl
    refine⟨fn,tm,asg,bo,hy,hR.mono fun e W' h=>?_⟩
    rcases h with⟨rfl,h1,h2⟩|⟨rfl,h1,h2⟩
    · exact⟨true,rfl,fun _=>h1,fun h=>(by cases h),h2⟩
    · exact⟨false,rfl,fun h=>(by cases h),fun _=>h1,h2⟩)).mono fun e W' h=>⟨h.1,h.2.imp id fun⟨pre,h⟩=>⟨pre,trivial,h⟩⟩)
section
variable {F:Fence}{P:Program}{ops:Array Oper}{Q:Exit→Act→World→Prop}{a:Act}{w w':World}{rest:List Oper}{o:Oper}{n m:Nat}{L:List (Nat×Value)}
theorem wpListIn_wantedF (hF:∀f,F.fn f) (hdef:∀c,o.op≠.defer c) (hw:Region.wanted o (yielded ops a.tmps)=true) (h:o.uponIn F m P a (wpListIn F m P ops Q rest) Q ((execOp a.eval o).run P w)):wpListIn F m P ops Q (o::rest) a w:=by
  unfold wpListIn;rw[if_pos hw];refine⟨fun f _=>hF f,?_⟩;rw[Oper.semAt_eq _ _ _ hdef];exact h
theorem Sl.valF (hF:∀f,F.fn f) (H:Sl n L a) (d:Nat) (v:Value) (hc:chk ops n L o d=true) (hdef:∀c,o.op≠.defer c)
    (hx:(execOp (ev L) o).run P w=.ok (.value v) w') (k:∀a',Sl n ((d,v)::L) a'→wpListIn F m P ops Q rest a' w'):wpListIn F m P ops Q (o::rest) a w:=by
  obtain⟨hd,hn,hk,hs,hw⟩:=chk_spec hc;refine wpListIn_wantedF hF hdef (H.wanted hw) ?_;rw[H.exec hk hs,hx];show wpListIn F m P ops Q rest (a.put o.dst v) w';rw[hd];exact k _ (H.put v hn)
theorem Sl.allocF (hF:∀f,F.fn f) {w0:World}{LH:List HB}{K:List FK}(H:Sl n L a) (HP:Hp w0 w LH K) (d:Nat) (V:Nat→Value) (t:TypeId) (vs:List Value) (hc:chk ops n L o d=true) (hdef:∀c,o.op≠.defer c)
    (hx:∀w,(execOp (ev L) o).run P w=.ok (.value (V w.heap.size)) (w.alloc (.cells vs.toArray t)))
    (k:∀b w' a',Sl n ((d,V b)::L) a'→Hp w0 w' (bx b t vs true::LH) K→wpListIn F m P ops Q rest a' w'):wpListIn F m P ops Q (o::rest) a w:=
  H.valF hF d _ hc hdef (hx w) fun a' H'=>k _ _ a' H' (HP.alloc t vs)
theorem Sl.callF (hF:∀f,F.fn f) (H:Sl n L a) (d:Nat) {f:FuncId}{args:Array Value}{R:Ending→World→Prop}(hc:chk ops n L o d=true) (hdef:∀c,o.op≠.defer c)
    (hx:(execOp (ev L) o).run P w=.ok (.enter f args) w') (hC:CallsIn F m P f args w' R)
    (k:∀e w'',R e w''→∃v,e=.returned v∧∀a',Sl n ((d,v)::L) a'→wpListIn F (m+1) P ops Q rest a' w''):wpListIn F (m+1) P ops Q (o::rest) a w:=by
  obtain⟨hd,hn,hk,hs,hw⟩:=chk_spec hc;refine wpListIn_wantedF hF hdef (H.wanted hw) ?_;rw[H.exec hk hs,hx];refine⟨fun _=>om,hC.mono fun e w'' he=>?_⟩;obtain⟨v,rfl,hv⟩:=k e w'' he;show wpListIn F (m+1) P ops Q rest (a.put o.dst v) w'';rw[hd];exact hv _ (H.put v hn)
theorem Sl.storeF (hF:∀f,F.fn f) {w0:World}{LH:List HB}{K:List FK}{t:TypeId}{x y:Operand}{ty:TypeId}{pos:String}{af:Array Edge}{g:Option (Nat×Bool)}(H:Sl n L a) (HP:Hp w0 w LH K) (i b off k:Nat) (tb:TypeId) (us:List Value) (f:Bool) (v:Value) (LH':List HB)
    (hc:chk0 ops L ⟨none,.store t x y,ty,pos,af,g⟩=true) (hx:ev L x=.pointer (some ⟨b,off,none⟩)) (hy:ev L y=v) (hi:LH[i]? =some (bx b tb us f)) (hs:sizeB P t=some k) (hv:v.cells.size=k) (h1:oneCells v.cells.toList=true) (hl:off+v.cells.toList.length≤us.length)
    (hL:LH.set i (bx b tb (setAll us off v.cells.toList) f)=LH')
    (kk:∀w' a',Sl n L a'→Hp w0 w' LH' K→wpListIn F m P ops Q rest a' w'):wpListIn F m P ops Q (⟨none,.store t x y,ty,pos,af,g⟩::rest) a w:=by
  obtain⟨hd,hk,hs',hw⟩:=chk0_spec hc;refine wpListIn_wantedF hF (fun c h=>by cases h) (H.wanted hw) ?_;obtain⟨w',hr,hw'⟩:=run_storeCells (P:=P) (off:=off) v.cells.toList us 0 w LH K HP hi h1 (by simpa using hl);rw[H.exec hk hs'];simp only[execOp,hx,hy,Instr.storeAt,Instr.sureAddr,storeVar,Sem.run_bind,Sem.run_pure,Result.andThen_ok,run_sizeOf hs,hv];simp only[ne_eq,not_true_eq_false,if_false,hr,Result.andThen_ok];exact kk w' _ H (hL ▸ hw')
end
def moreD (ds:List Deferred) (a:Act):Act:={ a with defers:=a.defers++ds}
theorem moreD_put (ds:List Deferred) (a:Act) (d:Option Tmp) (v:Value):(moreD ds a).put d v=moreD ds (a.put d v):=by cases d<;>rfl
theorem letsOut_D {ds:List Deferred}{Q:Exit→Act→World→Prop}(h:LetsOut fun e a w=>Q e (moreD ds a) w):LetsOut Q:=let ⟨a,w,h⟩:=h;⟨_,w,h⟩
theorem upon_D {P:Program}{ds:List Deferred}{Q:Exit→Act→World→Prop}{o:Oper}{a:Act}{next next':Act→World→Prop}(hn:∀a w,next' a w→next (moreD ds a) w) (r:Result Next)
    (h:o.upon P a next' (fun e a w=>Q e (moreD ds a) w) r):o.upon P (moreD ds a) next Q r:=by
  unfold Oper.upon at h ⊢;split at h
  · rw[moreD_put];exact hn _ _ h
  · rw[moreD_put];exact hn _ _ h
  · have:=hn _ _ h;rw[←moreD_put] at this;exact this
  · refine h.mono fun e w'' he=>?_;cases e with
    |returned v=>simp only at he ⊢;rw[moreD_put];exact hn _ _ he
    |panicked c=>exact he
    |outgrown=>exact letsOut_D he
  · refine h.mono fun v w'' he=>?_;rw[moreD_put];exact hn _ _ he
  · exact h
  · exact h.elim
theorem wpList_D {P:Program}{ops:Array Oper}{ds:List Deferred}{Q:Exit→Act→World→Prop}:∀(l:List Oper) (a:Act) (w:World),wpList P ops (fun e a w=>Q e (moreD ds a) w) l a w→wpList P ops Q l (moreD ds a) w
  | [],a,w,h=>h
  |o::l,a,w,h=>by
    unfold wpList at h ⊢
    by_cases hw:Region.wanted o (yielded ops a.tmps)=true
    · rw[if_pos hw] at h
      rw[if_pos (show Region.wanted o (yielded ops (moreD ds a).tmps)=true from hw)]
      rcases h with h|⟨h1,h2⟩
      · exact .inl (upon_D (fun a w=>wpList_D l a w) _ h)
      · exact .inr ⟨h1,letsOut_D h2⟩
    · rw[if_neg hw] at h
      rw[if_neg (show ¬Region.wanted o (yielded ops (moreD ds a).tmps)=true from hw),moreD_put]
      exact wpList_D l _ w h
section
variable {P:Program}{fn:Func}{R:Ending→World→Prop}{a:Act}{w:World}{n:Nat}{L:List (Nat×Value)}
theorem w_enterM {f:FuncId}{c:Code}{args:List Value}(n:Nat) (L:List (Nat×Value)) (hf:P.funcs[f]? =some fn) (hb:fn.body=some c) (hn:fn.ntmps=n)
    (hle:Nat.ble args.length n=true) (hk:(L.map fun p=>look p.1 (args.zipIdx.map fun p=>(p.2,p.1)))=L.map fun p=>some p.2) (k:∀a,Sl n L a→c.wp P (bodyPostM Fence.wide 20 P fn R) a w):Calls P f args.toArray w R:=by
 refine(callsIn_wide (n:=20)).1 (callsIn_of_wp_marks hf hb trivial (wpIn_wide.2 ?_) rfl);rw[hn];exact k _ (Sl.enter args n L hle hk)
theorem Sl.ret2M (H:Sl n L a) {r s:ResultVar}{v u:Value}(hr:fn.results=#[r,s]) (h:RV P w L r v) (h':RV P w L s u) (hR:R (.returned (.tuple #[v,u])) w):bodyPostM Fence.wide 20 P fn R .ret a w:=by
  show LeavesInM Fence.wide 20 P fn a.tmps R a.defers .returning w;rw[H.defers];refine⟨_,?_,hR⟩;rw[results_of,hr];simp[h.run H,h'.run H]
theorem Sl.ret2D (H:Sl n L a) {r s:ResultVar}{v u:Value}{D:Nat}(hk:w.heap[D]? =some (.deferred (some []))) (hr:fn.results=#[r,s]) (h:RV P (w.putObj D (.deferred none)) L r v) (h':RV P (w.putObj D (.deferred none)) L s u) (hR:R (.returned (.tuple #[v,u])) (w.putObj D (.deferred none))):
    bodyPostM Fence.wide 20 P fn R .ret (moreD [{ target:=.collected D,args:=#[]}] a) w:=by
  show LeavesInM Fence.wide 20 P fn a.tmps R (a.defers++[{ target:=.collected D,args:=#[]}]) .returning w;rw[H.defers];refine⟨by simp,.inl ⟨D,_,rfl,run_takeDeferred hk,?_⟩⟩;refine⟨_,?_,hR⟩;rw[results_of,hr];simp[h.run H,h'.run H]
theorem Sl.assigned (H:Sl n L a) (p:Nat) (x:Value) (hp:Nat.blt p n=true):Sl n ((p,x)::L) { tmps:=((#[p]:Array Tmp).zip #[x]).foldl (fun t (p,v)=>t.setIfInBounds p v) a.tmps,defers:=[]}:=by
  have:=H.put x hp;refine⟨rfl,?_,?_⟩
  · have:=this.size;simpa [Act.put] using this
  · have:=this.get;simpa [Act.put] using this
end
def packP (rn rd:Int) (u:Un):Option (List UInt8):=if rateOk rn rd&&validU u then some (pktsU rn rd u).flatten else none
def packV:Option (List UInt8)→Value
 |none=>.tuple #[.string (bstr []),.int .i64 180]
 |some l=>.tuple #[.string (bstr l),.int .i64 0]
theorem bldU_own {β:Type}{B base b:Nat}{v:Value}{bs:List UInt8}:OwnFrom B (fun(_:β) W=>(bldU base b v bs).F W):=fun s X Y row hs hg hr=>by
 have hs':=hs
 obtain⟨h1,⟨p,hp,hb⟩,h3,h4⟩:=hs
 refine bldU_ok base b v bs X Y hs' (fun k hk=>hg.block k ?_ fun e=>?_) hg.size
 ·rcases hk with rfl|hk
  ·exact(Array.getElem?_eq_some_iff.1 hb).1
  ·exact(own_lt h3 k hk).1
 ·obtain⟨_,o,ho,hc⟩:=hr k e.symm
  rcases hk with rfl|hk
  ·rw[hb] at ho;cases ho;cases hc
  ·rcases h3.2 with⟨rfl,_⟩|⟨g,cap,cur,rfl,_,hh,_⟩
   ·cases hk
   ·cases hk
    rw[hh] at ho;cases ho;cases hc
theorem bldU_no {base b:Nat}{v:Value}{bs:List UInt8}{W:World}(h:(bldU base b v bs).F W) {k:Nat}{o:Obj}(hk:W.heap[k]? =some o) (hc:o.isCells=false):¬(bldU base b v bs).fp k:=fun hf=>by
 obtain⟨h1,⟨p,hp,hb⟩,h3,h4⟩:=h
 rcases hf with rfl|hf
 ·rw[hb] at hk;cases hk;cases hc
 ·rcases h3.2 with⟨rfl,_⟩|⟨g,cap,cur,rfl,_,hh,_⟩
  ·cases hf
  ·cases hf
   rw[hh] at hk;cases hk;cases hc
theorem bldU_lt {base b:Nat}{v:Value}{bs:List UInt8}{w:World}(h:(bldU base b v bs).F w):∀k,(bldU base b v bs).fp k→k<w.heap.size:=by
 obtain⟨h1,⟨p,hp,hb⟩,h3,h4⟩:=h;intro k hk;rcases hk with rfl|hk
 ·exact(Array.getElem?_eq_some_iff.1 hb).1
 ·exact(own_lt h3 k hk).1
theorem packets_in (r u:Array Value) (w:World):
  Calls Tryz.prog 51 #[.agg r,.agg u] w fun e w'=>e=.returned (.func (.func 85) #[] #[.pointer (some ⟨w.heap.size,0,none⟩),.pointer (some ⟨w.heap.size+1,0,none⟩)])∧Below w.heap.size w w'∧Box w' w.heap.size 58 r∧Box w' (w.heap.size+1) 76 u:=
 (packets_any r u w).mono fun e w' h=>by
  obtain⟨rfl,rfl⟩:=h
  refine⟨rfl,((Below.refl _ w).alloc (Nat.le_refl _) _).alloc (by simp) _,(Box.new w _ _).next (Below.alloc (Below.refl _ _) (Nat.le_refl _) _),?_⟩
  have:=Box.new (w.alloc (.cells r 58)) 76 u
  simpa using this
theorem bldU_old {base b:Nat}{v:Value}{bs:List UInt8}{W:World}(h:(bldU base b v bs).F W) {k:Nat}(hk:k<base):¬(bldU base b v bs).fp k:=fun hf=>by
 obtain⟨h1,⟨p,hp,hb⟩,h3,h4⟩:=h
 rcases hf with rfl|hf
 ·omega
 ·have:=(own_lt h3 k hf).2
  omega
def packI (w:World) (bo Bu:Nat) (cs:Array Value) (xs:List Pk) (W:World):Prop:=(∃v,(bldU w.heap.size bo v (xs.flatMap (·.1))).F W∧v.ownBlock≠some Bu)∧Below w.heap.size w W∧Box W Bu 76 cs
theorem packI_own {w:World}{bo B Bu:Nat}{cs:Array Value}(h0:w.heap.size≤B) (h1:w.heap.size≤B):OwnFrom B (packI w bo Bu cs):=fun s X Y row hs hg hr=>
 ⟨by obtain⟨v,hv,hn⟩:=hs.1;exact⟨v,bldU_own (β:=Unit) () X Y row hv hg hr,hn⟩,ownFrom_below (β:=Unit) (Nat.le_refl _) h1 () X Y row hs.2.1 hg hr,box_own (β:=Unit) _ _ _ (fun _=>cs) () X Y row hs.2.2 hg hr⟩
def packA (bo:Nat) (x:Pk) (a:Act) (W:World):Prop:=∃b,Box W b 143 (Lib.byteCells x.1).toArray∧Sl 23 [(7,.pointer (some ⟨b,0,none⟩)),(6,.pointer (some ⟨bo,0,none⟩))] a∧b≠bo
theorem packA_own {B bo:Nat}(x:Pk) (a:Act):OwnFrom B (fun(_:Unit) W=>packA bo x a W):=OwnFrom.ex fun b=>OwnFrom.and (box_own _ _ _ (fun _=>_)) (ownFrom_pure _ _)
theorem pk_flat_len (xs:List Pk):(xs.flatMap (·.1)).length=64*xs.length:=by
 induction xs with
 |nil=>rfl
 |cons x l ih=>rw[List.flatMap_cons,List.length_append,ih,x.2,List.length_cons];omega
theorem pack_flat {rn rd:Int}{u:Un}{xs:List Pk}(h:xs.map (·.1)=pktsU rn rd u):xs.flatMap (·.1)=(pktsU rn rd u).flatten:=by rw[←h];rfl
theorem pktN_pos {rn rd:Int}{u:Un}:1≤pktN (streamU rn rd u):=by
 have h8:(clockP (ticksP rn rd u.frame).toNat).length=5:=rfl;unfold streamU pktN;rw[List.length_append];omega
theorem pktN_le {rn rd:Int}{u:Un}(h:validU u=true):pktN (streamU rn rd u)≤13:=by
 have:=streamU_len (rn:=rn) (rd:=rd) h;unfold pktN;omega
theorem pack_ne {rn rd:Int}{u:Un}(hv:validU u=true) {xs:List Pk}(h:xs.map (·.1)=pktsU rn rd u):xs.flatMap (·.1)≠[]:=fun e=>by
 have h1:=congrArg List.length e
 have h2:=congrArg List.length h
 have h3:=pktN_pos (rn:=rn) (rd:=rd) (u:=u)
 rw[pk_flat_len] at h1
 simp only[pktsU,List.length_map,List.length_range] at h2
 simp only[List.length_nil] at h1
 omega
theorem enc_size (x:Pk):(Value.agg (Lib.byteCells x.1).toArray).cells.size=64:=by
 have:=byteCells_len x.1;have:=x.2;simp[Value.cells];omega
theorem enc_one (x:Pk):oneCells (Value.agg (Lib.byteCells x.1).toArray).cells.toList=true:=by
 have h:∀l:List UInt8,oneCells (Lib.byteCells l)=true:=by
  intro l;induction l with
  |nil=>rfl
  |cons a l ih=>exact ih
 exact h x.1
theorem set_all:∀(us vs:List Value),us.length=vs.length→setAll us 0 vs=vs:=by
 have key:∀(vs pre us:List Value),us.length=vs.length→setAll (pre++us) pre.length vs=pre++vs:=by
  intro vs;induction vs with
  |nil=>intro pre us h;simp at h;subst h;rfl
  |cons v vs ih=>
   intro pre us h;cases us with
   |nil=>cases h
   |cons u us=>
    have:=ih (pre++[v]) us (by simpa using h);rw[List.append_assoc,List.append_assoc,List.length_append] at this;simp only[setAll];rw[show (pre++u::us).set pre.length v=pre++v::us by simp];exact this
 intro us vs h;exact key vs [] us h
theorem pack_any (rn rd:Int) (u:Un) (w:World) (hL:Laid w) (hu:IsAlts w u.A u.al.length u.al) (hm:u.al.length≤maxLen):
  Calls Tryz.prog 28 #[.agg #[.int .i64 rn,.int .i64 rd],u.val] w fun e w'=>e=.returned (packV (packP rn rd u))∧Below w.heap.size w w':=by
 have HP:=Hp.start w;refine w_enterM 23 [(0,(.agg #[(ii rn),(ii rd)])),(1,(.agg (ua u u.A u.c)))] Tryz.func28 rfl Tryz.ntmps28 kr kr fun a H=>zq<|H.al HP 2 58 [(ii rn),(ii rd)] fun b_1 w_2 a H HP=>H.al HP 3 76 (ul u u.A u.c) fun b_3 w_4 a H HP=>H.gz HP [(4,zS),(5,zO)] fun a H=>zsq<|zq<|H.go HP 1 [(8,(.agg #[(ii rn),(ii rd)]))] [1] fun a H=>H.cl 9 (Tryz.call49 _ _) (tvalid_any rn rd w_4 (hL.below HP.bl)) ?_;rintro e w_5 ⟨rfl,hbv⟩;refine⟨_,rfl,?_⟩;intro a H;have HP:=HP.next hbv
 refine H.gn HP 2 [(11,(.bool (!(rateOk rn rd))))] fun a H=>H.split 11 rfl (fun g11 H=>?_) (fun g11 H=>?_)
 ·have g11p:=not_is_true g11;refine H.gz HP [(15,zT)] fun a H=>w_ift H rfl<|zq<|H.gz HP [(4,zS),(5,(ii 180))] fun a H=>zrt<|ztr<|H.ret2M (fn:=Tryz.f28) Tryz.results28 (RV.tmp_ (v:=zS) kr) (RV.tmp_ (v:=(ii 180)) kr) ?_;exact⟨by unfold packP;rw[if_neg (by simp[g11p])];rfl,HP.bl⟩
 have g11p:=not_is_false g11;refine H.go HP 1 [(12,(.agg (ua u u.A u.c)))] [0] fun a H=>H.cl 13 (Tryz.call50 _ _) (uvalid_any u w_5 (hu.below HP.bl) hm) ?_;rintro e w_6 ⟨rfl,hbw⟩;refine⟨_,rfl,?_⟩;intro a H;have HP:=HP.next hbw
 refine H.gz HP [(15,(.bool (!(validU u))))] fun a H=>w_if H rfl (fun g15=>?_) (fun g15=>?_)
 ·have g15p:=not_is_true g15;refine zq<|H.gz HP [(4,zS),(5,(ii 180))] fun a H=>zrt<|ztr<|H.ret2M (fn:=Tryz.f28) Tryz.results28 (RV.tmp_ (v:=zS) kr) (RV.tmp_ (v:=(ii 180)) kr) ?_;exact⟨by unfold packP;rw[if_neg (by simp[g11p,g15p])];rfl,HP.bl⟩
 have g15p:=not_is_false g15;refine zsk<|zt<|H.al HP 6 138 [(.pointer none),zN] fun b_7 w_8 a H HP=>znl<|ztn<|zsq<|zq<|H.go HP 2 [(16,(.agg #[(ii rn),(ii rd)])),(17,(.agg (ua u u.A u.c)))] [2,1] fun a H=>?_;have hbo8:=(HP.at_ 0 rfl).lt;refine H.call 18 kr (Eq.trans (kr:_=(callFunc 51 #[(.agg #[(ii rn),(ii rd)]),(.agg (ua u u.A u.c))]).run Tryz.prog w_8) (Tryz.call51 _ _)) (packets_in _ _ w_8) ?_;rintro e w_9 ⟨rfl,hbp,hBr,hBu⟩;refine⟨_,rfl,?_⟩;intro a H;have HP:=HP.next hbp
 refine znl (ztn (zbk ?_));have hbelW:=HP.bl;have hbo:=HP.at_ 0 rfl;have hbos:=HP.fresh _ (List.mem_of_getElem? (show([bx b_7 138 [(.pointer none),zN] true,bx b_3 76 (ul u u.A u.c) true,bx b_1 58 [(ii rn),(ii rd)] true]:List HB)[0]? =some _ from rfl)) rfl _ rfl;have hrv:rateOk rn rd=true:=by assumption
 have hvv:validU u=true:=by assumption
 have hBul:=hBu.lt;have hsz:=hbp.size;have hfun:a.eval (.tmp 18)=(.func (.func 85) #[] #[(.pointer (some ⟨w_8.heap.size,0,none⟩)),(.pointer (some ⟨w_8.heap.size+1,0,none⟩))]):=H.eval kr;have hbos2:=hbelW.size;have hbow:=hbo.lt;generalize hBue:w_8.heap.size+1=Bu at hBu hfun hBul;generalize hBre:w_8.heap.size=Br at hBr hfun;have H:=H.keep (L':=[(6,(pt b_7 0))]) kr;clear HP;refine(wpIn_wide (n:=20)).1<|wpIn_rangeO (F:=Fence.wide) rfl om (gf:=85) (lb:=#[.pointer (some ⟨Br,0,none⟩),.pointer (some ⟨Bu,0,none⟩)]) hfun trivial (enters_of Tryz.func85 kr rfl) (packets_seq 19 Br Bu rn rd u w_9 (hL.below hbelW) hrv (hu.below hbelW) hvv hBr hBu) KpU.trans (fun W l o o' h1 h2 _ _ _=>KpU.put W l o o' om) (fun _=>rfl)
  (packI w b_7 Bu u.cells) (fun _ _ _=>False) (packI_own om hbelW.size) (fun _ s X Y row h _ _=>h) ⟨⟨.slice none 0 0,⟨hbos,⟨_,.inl rfl,hbo⟩,World.ownsRow_nil _ _ _ _,fun h=>(by cases h)⟩,fun h=>(by cases h)⟩,hbelW,hBu⟩
  (packA b_7) (fun x y=>packA_own x y) ?assign ?body ?done (fun _ _ _ _ _ _ h=>h.elim)
 case assign=>
  rintro l' pre x W K ⟨⟨v,hb,hvB⟩,hbel,hBW⟩ hK;have hbo2:=(Array.getElem?_eq_some_iff.1 hb.2.1.choose_spec.2).1;have hsW:=hbel.size;have H:=H.assigned 19 (.agg (Lib.byteCells x.1).toArray) kr;refine wpIn_region_lit<|H.allocF (fun _=>trivial) (Hp.start W) 7 (fun b=>.pointer (some ⟨b,0,none⟩)) 143 (List.replicate 64 (.int .u8 0)) kr (fun c h=>by cases h) (fun w=>kr) fun b W1 a1 H HP=>?_;have hfr:=HP.fresh _ (List.mem_cons_self ..) rfl _ rfl;have hone:=enc_one x;have hszx:=enc_size x;refine H.storeF (fun _=>trivial) HP 0 b 0 64 143 (List.replicate 64 (.int .u8 0)) true (.agg (Lib.byteCells x.1).toArray) [bx b 143 (Lib.byteCells x.1) true] kr kr kr kr kr hszx hone (by simp[Value.cells,byteCells_len,x.2]) ?_ ?_
  ·rw[show (Value.agg (Lib.byteCells x.1).toArray).cells.toList=Lib.byteCells x.1 from rfl,set_all _ _ (by simp[byteCells_len,x.2])];rfl
  intro W2 a2 H HP;refine wpListIn_nil ?_;have hb2:=HP.below kr;exact hK _ _ (keepsFrom_below hb2) (KpU.below hb2 hBW.lt) ⟨⟨v,bldU_ok _ _ _ _ _ _ hb (fun k hk=>hb2.block k (bldU_lt hb k hk)) hb2.size,hvB⟩,hbel.trans (hb2.mono hsW),hBW.next hb2⟩ ⟨b,HP.at_ 0 rfl,H.keep kr,om⟩
 case body=>
  rintro l' pre x a' W ⟨⟨v,hb,hvB⟩,hbel,hBW⟩ ⟨b,hx,H,hne⟩ hlen;have hn13:=pktN_le (rn:=rn) (rd:=rd) hvv;have hfl:=pk_flat_len pre;have hsW:=hbel.size;refine wpIn_block<|wpIn_region_lit<|H.valF (fun _=>trivial) 20 (sB b 64 64) kr (fun c h=>by cases h) (ex_arrslice (n:=64) (e:=5) (sz:=1) kr kr om kr) fun a H=>?_;have hR:Rd W 1 (some ⟨b,0,none⟩) x.1.length (Lib.byteCells x.1):=Rd.of_box hx (by rw[byteCells_len];omega);have hcall:=write_any w.heap.size b_7 v (pre.flatMap (·.1)) x.1 (some ⟨b,0,none⟩) 64 W hb (fun h=>by cases h) hR (fun g o h=>by cases h;exact hne) (by rw[hfl,x.2];omega) hsW;rw[x.2] at hcall;refine H.callF (m:=17) (fun _=>trivial) 21 kr (fun c h=>by cases h) (Eq.trans (kr:_=(callFunc 52 #[.pointer (some ⟨b_7,0,none⟩),.slice (some ⟨b,0,none⟩) 64 64]).run Tryz.prog W) (Tryz.call52 _ _)) (CallsIn.inRound l' (callsIn_wide.2 hcall)) ?_;rintro e W2 ⟨rfl,v2,hb2,hag,hv2⟩
  refine⟨_,rfl,?_⟩;intro a H;refine wpListIn_nil<|zibn ?_;have hkb:W2.heap[Bu]? =W.heap[Bu]? :=hag.block Bu hBW.lt (fun h=>h.elim (fun h=>om) (fun h=>hvB h));refine⟨⟨hag.size,fun k o _ hk hc=>(hag.block k (Array.getElem?_eq_some_iff.1 hk).1 (bldU_no hb hk hc)).trans hk⟩,⟨hag.size,hkb⟩,⟨v2,by rw[List.flatMap_append,List.flatMap_cons,List.flatMap_nil,List.append_nil];exact hb2,fun h=>(hv2 Bu h).elim hvB (fun h=>by have:=hBW.lt;omega)⟩,hbel.trans ⟨hag.os,hag.tape,hag.output,hag.size,fun k hk=>hag.block k (Nat.lt_of_lt_of_le hk hsW) (bldU_old hb hk)⟩,hkb.trans hBW⟩
 case done=>
  rintro D xs W' hD hS ⟨⟨v,hb,hvB⟩,hbl,_⟩ hdef;rw[show ({ a with defers:={ target:=.collected D,args:=#[]} ::a.defers}:Act)=moreD [{ target:=.collected D,args:=#[]}] a from by simp[moreD,H.defers]];have hnil:xs.flatMap (·.1)≠[]:=pack_ne hvv hS;refine zibn<|zt<|wpList_D _ _ _<|H.call 22 kr (Eq.trans (kr:_=(callFunc 53 #[.pointer (some ⟨b_7,0,none⟩)]).run Tryz.prog W') (Tryz.call53 _ _)) (str_any w.heap.size b_7 v _ W' (bldU_R hb) hnil) ?_;rintro e W2 ⟨rfl,hb2,hag⟩;refine⟨_,rfl,?_⟩;intro a H;refine H.v 4 (sS (xs.flatMap (·.1))) fun a H=>H.v 5 zO fun a H=>znl (ztn (zrt ?_));have hd2:W2.heap[D]? =some (.deferred (some [])):=(hag.block D (Array.getElem?_eq_some_iff.1 hdef).1 (bldU_no hb hdef rfl)).trans hdef;refine H.ret2D hd2 (fn:=Tryz.f28) Tryz.results28 (RV.tmp_ (v:=.string (bstr (xs.flatMap (·.1)))) kr) (RV.tmp_ (v:=.int .i64 0) kr) ?_
  have hfin:Below w.heap.size w W2:=hbl.trans ⟨hag.os,hag.tape,hag.output,hag.size,fun k hk=>hag.block k (Nat.lt_of_lt_of_le hk hbl.size) (bldU_old hb hk)⟩;refine⟨by unfold packP;rw[hrv,hvv,pack_flat hS];rfl,hfin.trans (belowK_b (w:=w) (Nat.le_refl _) _ D _ _ (by have:=hbelW.size;omega) hd2 rfl rfl)⟩
def zeroU:Un:=⟨0,0,0,0,0,false,[],0,0,[],0,0,none,0,[]⟩
theorem packV_eq (Z:Option (List UInt8)):packV Z=.tuple #[.string (bstr (Z.getD [])),.int .i64 (if Z.isSome=true then 0 else 180)]:=by cases Z<;>rfl
def readU (s:List UInt8):Un×Bool×Int:=
 let a1:=rnum s (5,false)
 let a2:=rnum s a1.2
 let a3:=rnum s a2.2
 let a4:=rnum s a3.2
 let a5:=rnum s a4.2
 let a6:=rnum s a5.2
 let a7:=rtxt s a6.2
 let a8:=rnum s a7.2
 let a9:=rnum s a8.2
 let a10:=rtxt s a9.2
 let a11:=rtxt s a10.2
 let o:=decP a11.1
 (⟨a1.1,a2.1,a3.1,a4.1,a5.1,a6.1 == 1,a7.1,a8.1,a9.1,a10.1,o.1.s,o.1.f,none,0,o.1.al⟩,a11.2.2,o.2)
def unpackP (rn rd:Int) (l:List UInt8):Option Un:=match streamP l with
 |none=>none
 |some s=>if s.length<5 then none else if(readU s).2.1=true∨(readU s).2.2≠0 then none else if packP rn rd (readU s).1=some l then some (readU s).1 else none
def RetUn (r:Option Un) (w:World) (e:Ending) (w':World):Prop:=match r with
 |none=>e=.returned (.tuple #[zeroU.val,.int .i64 180])∧Below w.heap.size w w'
 |some u=>∃B c,e=.returned (.tuple #[({ u with A:=B,c:=c}:Un).val,.int .i64 0])∧IsAlts w' B u.al.length u.al∧u.al.length≤c∧c≤maxLen∧(B=none→c=0)∧(∀b off,B=some ⟨b,off,none⟩→w.heap.size≤b)∧Below w.heap.size w w'
theorem retUn_none {r:Option Un}{w w':World}{e:Ending}(hr:r=none) (he:e=.returned (.tuple #[zeroU.val,.int .i64 180])) (hb:Below w.heap.size w w'):RetUn r w e w':=by subst hr;exact⟨he,hb⟩
theorem retUn_some {r:Option Un}{w w':World}{e:Ending}{u:Un}(hr:r=some u) (B:Option Addr) (c:Nat) (he:e=.returned (.tuple #[({ u with A:=B,c:=c}:Un).val,.int .i64 0])) (h1:IsAlts w' B u.al.length u.al) (h2:u.al.length≤c) (h3:c≤maxLen) (h4:B=none→c=0) (h5:∀b off,B=some ⟨b,off,none⟩→w.heap.size≤b) (hb:Below w.heap.size w w'):RetUn r w e w':=by
 subst hr;exact⟨B,c,he,h1,h2,h3,h4,h5,hb⟩
theorem unpack_nos {rn rd:Int}{l:List UInt8}(hX:streamP l=none):unpackP rn rd l=none:=by unfold unpackP;rw[hX]
theorem unpack_short {rn rd:Int}{l s:List UInt8}(hX:streamP l=some s) (h:¬5≤s.length):unpackP rn rd l=none:=by unfold unpackP;rw[hX];simp only;rw[if_pos om]
theorem unpack_bad {rn rd:Int}{l s:List UInt8}{u:Un}{q:Bool}{c:Int}(hX:streamP l=some s) (hR:readU s=(u,q,c)) (h:q=true∨c≠0):unpackP rn rd l=none:=by
 unfold unpackP;rw[hX];simp only[hR];rw[if_pos h,ite_self]
theorem unpack_diff {rn rd:Int}{l s:List UInt8}{u:Un}{q:Bool}{c:Int}(hX:streamP l=some s) (hR:readU s=(u,q,c)) (h:packP rn rd u≠some l):unpackP rn rd l=none:=by
 unfold unpackP;rw[hX];simp only[hR];rw[if_neg h,ite_self,ite_self]
theorem unpack_ok {rn rd:Int}{l s:List UInt8}{u:Un}{q:Bool}{c:Int}(hX:streamP l=some s) (hR:readU s=(u,q,c)) (h5:5≤s.length) (hq:q=false) (hc:c=0) (h:packP rn rd u=some l):unpackP rn rd l=some u:=by
 unfold unpackP;rw[hX];simp only[hR];rw[if_neg om,if_neg (by simp[hq,hc]),if_pos h]
theorem stream_len {l s:List UInt8}(h:streamP l=some s) (hl:l.length≤1000000):s.length≤9000000000000000000:=by
 unfold streamP at h;split at h
 ·cases h
 ·next hc=>
  cases h
  have:=payTo_len (l:=l) (j:=l.length/64) (by simpa using fun hh=>hc (.inr (.inr hh)));omega
theorem rnum_le {s:List UInt8}{q:Nat×Bool}(h:q.1≤s.length):(rnum s q).2.1≤s.length:=by
 unfold rnum;split
 ·exact h
 ·cases hr:rdInt s q.1 with
  |none=>exact h
  |some p=>exact(rdInt_le h hr).2
theorem rtxt_le {s:List UInt8}{q:Nat×Bool}(h:q.1≤s.length):(rtxt s q).2.1≤s.length:=by
 unfold rtxt;split
 ·exact h
 ·cases hr:rdStr s q.1 with
  |none=>exact h
  |some p=>
   unfold rdStr at hr;cases hi:rdInt s q.1 with
   |none=>rw[hi] at hr;cases hr
   |some x=>
    rw[hi] at hr;simp only at hr;split at hr
    ·cases hr
    ·cases hr;simp only;omega
theorem rtxt_len {s:List UInt8}{q:Nat×Bool}:(rtxt s q).1.length≤s.length:=by
 unfold rtxt;split
 ·exact Nat.zero_le _
 ·cases hr:rdStr s q.1 with
  |none=>exact Nat.zero_le _
  |some p=>
   unfold rdStr at hr;cases hi:rdInt s q.1 with
   |none=>rw[hi] at hr;cases hr
   |some x=>
    rw[hi] at hr;simp only at hr;split at hr
    ·cases hr
    ·cases hr;simp only[List.length_take,List.length_drop];omega
theorem unpack_none (rn rd:Int) (l:List UInt8) (w:World) (hL:Laid w) (hl:l.length≤1000000) (hX:streamP l=none):
  Calls Tryz.prog 122 #[.agg #[.int .i64 rn,.int .i64 rd],.string (bstr l)] w (RetUn (unpackP rn rd l) w):=by
 have HP:=Hp.start w
 refine w_enter 78 [(0,(.agg #[(ii rn),(ii rd)])),(1,(sS l))] Tryz.func122 rfl Tryz.ntmps122 kr kr fun a H=>zq<|H.al HP 2 58 [(ii rn),(ii rd)] fun b_1 w_2 a H HP=>H.al HP 4 76 zc0 fun b_3 w_4 a H HP=>H.gz HP [(5,zO)] fun a H=>zq<|H.gn HP 1 [(14,(sS l))] fun a H=>H.cb HP 15 (Tryz.call167 _ _) (by have hh:=stream_any l w_4 hl;rw[hX] at hh;exact hh) fun w_5 hb a H HP=>H.gz HP [(6,zS),(7,zF)] fun a H=>zsq<|zq<|H.gz HP [(24,zT)] fun a H=>w_ift H rfl<|zq<|H.gn HP 1 [(25,(.agg zc1))] fun a H=>H.sh HP 0 0 (.agg zc1) rfl fun w_6 a H HP=>H.gz HP [(5,(ii 180))] fun a H=>zrt<|ztr<|H.ret2 (fn:=Tryz.f122) Tryz.results122 (RV.cellN (vs:=zc0) (b:=b_3) (off:=0) (k:=13) kr kr kr rfl (HP.cells 0 rfl 0 13 kr)) (RV.tmp_ (v:=(ii 180)) kr) ?_
 exact retUn_none (unpack_nos hX) rfl HP.bl
theorem unpack_short1 (rn rd:Int) (l:List UInt8) (w:World) (hL:Laid w) (hl:l.length≤1000000) (s:List UInt8) (hX:streamP l=some s) (hs5:¬5≤s.length):
  Calls Tryz.prog 122 #[.agg #[.int .i64 rn,.int .i64 rd],.string (bstr l)] w (RetUn (unpackP rn rd l) w):=by
 have HP:=Hp.start w
 refine w_enter 78 [(0,(.agg #[(ii rn),(ii rd)])),(1,(sS l))] Tryz.func122 rfl Tryz.ntmps122 kr kr fun a H=>zq<|H.al HP 2 58 [(ii rn),(ii rd)] fun b_1 w_2 a H HP=>H.al HP 4 76 zc0 fun b_3 w_4 a H HP=>H.gz HP [(5,zO)] fun a H=>zq<|H.gn HP 1 [(14,(sS l))] fun a H=>H.cb HP 15 (Tryz.call167 _ _) (by have hh:=stream_any l w_4 hl;rw[hX] at hh;exact hh) fun w_5 hb a H HP=>H.gz HP [(6,(sS s)),(7,zT)] fun a H=>zsq<|zq<|H.gn HP 5 [(20,zF),(22,(ii s.length))] fun a H=>H.valE 23 (.bool (decide ((s.length:Int)<5))) zT kr kr (congrArg Value.bool (decide_eq_true om)) fun a H=>H.gz HP [(24,zT)] fun a H=>w_ift H rfl<|zq<|H.gn HP 1 [(25,(.agg zc1))] fun a H=>H.sh HP 0 0 (.agg zc1) rfl fun w_6 a H HP=>H.gz HP [(5,(ii 180))] fun a H=>zrt<|ztr<|H.ret2 (fn:=Tryz.f122) Tryz.results122 (RV.cellN (vs:=zc0) (b:=b_3) (off:=0) (k:=13) kr kr kr rfl (HP.cells 0 rfl 0 13 kr)) (RV.tmp_ (v:=(ii 180)) kr) ?_
 exact retUn_none (unpack_short hX hs5) rfl HP.bl
theorem unpack_long (rn rd:Int) (l:List UInt8) (w:World) (hL:Laid w) (hl:l.length≤1000000) (s:List UInt8) (hX:streamP l=some s) (hs5:5≤s.length):
  Calls Tryz.prog 122 #[.agg #[.int .i64 rn,.int .i64 rd],.string (bstr l)] w (RetUn (unpackP rn rd l) w):=by
 have HP:=Hp.start w;have hsl:=stream_len hX hl;obtain⟨q0,hq0⟩:∃q:Nat×Bool,q=(5,false):=⟨_,rfl⟩;have hk0:q0.1≤s.length:=by rw[hq0];exact hs5
 obtain⟨n1,q1,h1⟩:∃n q,rnum s q0=(n,q):=⟨_,_,rfl⟩;have hk1:q1.1≤s.length:=by have:=rnum_le hk0;rw[h1] at this;exact this
 obtain⟨n2,q2,h2⟩:∃n q,rnum s q1=(n,q):=⟨_,_,rfl⟩;have hk2:q2.1≤s.length:=by have:=rnum_le hk1;rw[h2] at this;exact this
 obtain⟨n3,q3,h3⟩:∃n q,rnum s q2=(n,q):=⟨_,_,rfl⟩;have hk3:q3.1≤s.length:=by have:=rnum_le hk2;rw[h3] at this;exact this
 obtain⟨n4,q4,h4⟩:∃n q,rnum s q3=(n,q):=⟨_,_,rfl⟩;have hk4:q4.1≤s.length:=by have:=rnum_le hk3;rw[h4] at this;exact this
 obtain⟨n5,q5,h5⟩:∃n q,rnum s q4=(n,q):=⟨_,_,rfl⟩;have hk5:q5.1≤s.length:=by have:=rnum_le hk4;rw[h5] at this;exact this
 obtain⟨n6,q6,h6⟩:∃n q,rnum s q5=(n,q):=⟨_,_,rfl⟩;have hk6:q6.1≤s.length:=by have:=rnum_le hk5;rw[h6] at this;exact this
 obtain⟨n7,q7,h7⟩:∃n q,rtxt s q6=(n,q):=⟨_,_,rfl⟩;have hk7:q7.1≤s.length:=by have:=rtxt_le hk6;rw[h7] at this;exact this
 obtain⟨n8,q8,h8⟩:∃n q,rnum s q7=(n,q):=⟨_,_,rfl⟩;have hk8:q8.1≤s.length:=by have:=rnum_le hk7;rw[h8] at this;exact this
 obtain⟨n9,q9,h9⟩:∃n q,rnum s q8=(n,q):=⟨_,_,rfl⟩;have hk9:q9.1≤s.length:=by have:=rnum_le hk8;rw[h9] at this;exact this
 obtain⟨n10,q10,h10⟩:∃n q,rtxt s q9=(n,q):=⟨_,_,rfl⟩;have hk10:q10.1≤s.length:=by have:=rtxt_le hk9;rw[h10] at this;exact this
 obtain⟨n11,q11,h11⟩:∃n q,rtxt s q10=(n,q):=⟨_,_,rfl⟩;have hk11:q11.1≤s.length:=by have:=rtxt_le hk10;rw[h11] at this;exact this
 have hn11:n11.length≤s.length:=by have:=rtxt_len (s:=s) (q:=q10);rw[h11] at this;exact this
 have hsz11:(bstr n11).size≤9000000000000000000:=by rw[bstr_size];omega
 obtain⟨o,code,ho⟩:∃o c,decP n11=(o,c):=⟨_,_,rfl⟩;obtain⟨Z,hZ0⟩:∃Z,packP rn rd (⟨n1,n2,n3,n4,n5,n6 == 1,n7,n8,n9,n10,o.s,o.f,none,0,o.al⟩:Un)=Z:=⟨_,rfl⟩;have hZ:∀B c,packP rn rd (⟨n1,n2,n3,n4,n5,n6 == 1,n7,n8,n9,n10,o.s,o.f,B,c,o.al⟩:Un)=Z:=fun B c=>hZ0;have hRU:readU s=((⟨n1,n2,n3,n4,n5,n6 == 1,n7,n8,n9,n10,o.s,o.f,none,0,o.al⟩:Un),q11.2,code):=by
  unfold readU;simp only[←hq0,h1,h2,h3,h4,h5,h6,h7,h8,h9,h10,h11,ho]
 refine w_enter 78 [(0,(.agg #[(ii rn),(ii rd)])),(1,(sS l))] Tryz.func122 rfl Tryz.ntmps122 kr kr fun a H=>zq<|H.al HP 2 58 [(ii rn),(ii rd)] fun b_1 w_2 a H HP=>H.al HP 4 76 zc0 fun b_3 w_4 a H HP=>H.gz HP [(5,zO)] fun a H=>zq<|H.gn HP 1 [(14,(sS l))] fun a H=>H.cb HP 15 (Tryz.call167 _ _) (by have hh:=stream_any l w_4 hl;rw[hX] at hh;exact hh) fun w_5 hb a H HP=>H.gz HP [(6,(sS s)),(7,zT)] fun a H=>zsq<|zq<|H.gn HP 5 [(20,zF),(22,(ii s.length))] fun a H=>H.valE 23 (.bool (decide ((s.length:Int)<5))) zF kr kr (congrArg Value.bool (decide_eq_false om)) fun a H=>H.gz HP [(24,zF)] fun a H=>w_iff H rfl<|zsk<|zt<|H.gn HP 2 [(27,(.agg #[(sS s),(ii 5),zF]))] fun a H=>H.al HP 8 277 [zS,zO,zF] fun b_6 w_7 a H HP=>H.sh HP 0 0 (.agg #[(sS s),(ii 5),zF]) rfl fun w_8 a H HP=>znl<|zt<|H.al HP 9 76 zc0 fun b_9 w_10 a H HP=>znl (ztn (zsq ?_))
 have HP:Hp w w_10 [bx b_9 76 zc0 true,bx b_6 277 (rdCells s q0) true,bx b_3 76 zc0 true,bx b_1 58 [(ii rn),(ii rd)] true] []:=by rw[hq0];exact HP
 refine zrg<|H.cl 28 (Tryz.call168 _ _) (by have hh:=num_any b_6 s q0 w_10 (HP.at_ 1 rfl) hsl hk0;simp only[h1] at hh;exact hh) ?_;rintro e w_11 ⟨rfl,hbx,hgr⟩;refine⟨_,rfl,?_⟩;intro a H;have HP:=HP.changed 1 rfl (rdCells s q1) [bx b_9 76 zc0 true,bx b_6 277 (rdCells s q1) true,bx b_3 76 zc0 true,bx b_1 58 [(ii rn),(ii rd)] true] kr hgr hbx;refine H.gn HP 1 [(29,(pt b_9 0))] fun a H=>H.sh HP 0 0 (ii n1) rfl fun w_12 a H HP=>znl<|zt<|H.cl 30 (Tryz.call168 _ _) (by have hh:=num_any b_6 s q1 w_12 (HP.at_ 1 rfl) hsl hk1;simp only[h2] at hh;exact hh) ?_;rintro e w_13 ⟨rfl,hbx,hgr⟩;refine⟨_,rfl,?_⟩;intro a H
 have HP:=HP.changed 1 rfl (rdCells s q2) [bx b_9 76 [(ii n1),zO,zO,zO,zO,zF,zS,zO,zO,zS,zO,zO,zN] true,bx b_6 277 (rdCells s q2) true,bx b_3 76 zc0 true,bx b_1 58 [(ii rn),(ii rd)] true] kr hgr hbx;refine H.gn HP 1 [(31,(pt b_9 1))] fun a H=>H.sh HP 0 1 (ii n2) rfl fun w_14 a H HP=>znl<|zt<|H.cl 32 (Tryz.call168 _ _) (by have hh:=num_any b_6 s q2 w_14 (HP.at_ 1 rfl) hsl hk2;simp only[h3] at hh;exact hh) ?_;rintro e w_15 ⟨rfl,hbx,hgr⟩;refine⟨_,rfl,?_⟩;intro a H;have HP:=HP.changed 1 rfl (rdCells s q3) [bx b_9 76 [(ii n1),(ii n2),zO,zO,zO,zF,zS,zO,zO,zS,zO,zO,zN] true,bx b_6 277 (rdCells s q3) true,bx b_3 76 zc0 true,bx b_1 58 [(ii rn),(ii rd)] true] kr hgr hbx
 refine H.gn HP 1 [(33,(pt b_9 2))] fun a H=>H.sh HP 0 2 (ii n3) rfl fun w_16 a H HP=>znl<|zt<|H.cl 34 (Tryz.call168 _ _) (by have hh:=num_any b_6 s q3 w_16 (HP.at_ 1 rfl) hsl hk3;simp only[h4] at hh;exact hh) ?_;rintro e w_17 ⟨rfl,hbx,hgr⟩;refine⟨_,rfl,?_⟩;intro a H;have HP:=HP.changed 1 rfl (rdCells s q4) [bx b_9 76 [(ii n1),(ii n2),(ii n3),zO,zO,zF,zS,zO,zO,zS,zO,zO,zN] true,bx b_6 277 (rdCells s q4) true,bx b_3 76 zc0 true,bx b_1 58 [(ii rn),(ii rd)] true] kr hgr hbx;refine H.gn HP 1 [(35,(pt b_9 3))] fun a H=>H.sh HP 0 3 (ii n4) rfl fun w_18 a H HP=>znl<|zt<|H.cl 36 (Tryz.call168 _ _) (by have hh:=num_any b_6 s q4 w_18 (HP.at_ 1 rfl) hsl hk4;simp only[h5] at hh;exact hh) ?_;rintro e w_19 ⟨rfl,hbx,hgr⟩;refine⟨_,rfl,?_⟩;intro a H
 have HP:=HP.changed 1 rfl (rdCells s q5) [bx b_9 76 [(ii n1),(ii n2),(ii n3),(ii n4),zO,zF,zS,zO,zO,zS,zO,zO,zN] true,bx b_6 277 (rdCells s q5) true,bx b_3 76 zc0 true,bx b_1 58 [(ii rn),(ii rd)] true] kr hgr hbx;refine H.gn HP 1 [(37,(pt b_9 4))] fun a H=>H.sh HP 0 4 (ii n5) rfl fun w_20 a H HP=>znl<|zt<|H.cl 38 (Tryz.call168 _ _) (by have hh:=num_any b_6 s q5 w_20 (HP.at_ 1 rfl) hsl hk5;simp only[h6] at hh;exact hh) ?_;rintro e w_21 ⟨rfl,hbx,hgr⟩;refine⟨_,rfl,?_⟩;intro a H;have HP:=HP.changed 1 rfl (rdCells s q6) [bx b_9 76 [(ii n1),(ii n2),(ii n3),(ii n4),(ii n5),zF,zS,zO,zO,zS,zO,zO,zN] true,bx b_6 277 (rdCells s q6) true,bx b_3 76 zc0 true,bx b_1 58 [(ii rn),(ii rd)] true] kr hgr hbx
 refine H.gn HP 2 [(39,(.bool (n6 == 1))),(40,(pt b_9 5))] fun a H=>H.sh HP 0 5 (.bool (n6 == 1)) rfl fun w_22 a H HP=>znl<|zt<|H.cl 41 (Tryz.call169 _ _) (by have hh:=txt_any b_6 s q6 w_22 (HP.at_ 1 rfl) hsl hk6;simp only[h7] at hh;exact hh) ?_;rintro e w_23 ⟨rfl,hbx,hgr⟩;refine⟨_,rfl,?_⟩;intro a H;have HP:=HP.changed 1 rfl (rdCells s q7) [bx b_9 76 [(ii n1),(ii n2),(ii n3),(ii n4),(ii n5),(.bool (n6 == 1)),zS,zO,zO,zS,zO,zO,zN] true,bx b_6 277 (rdCells s q7) true,bx b_3 76 zc0 true,bx b_1 58 [(ii rn),(ii rd)] true] kr hgr hbx;refine H.gn HP 1 [(42,(pt b_9 6))] fun a H=>H.sh HP 0 6 (sS n7) rfl fun w_24 a H HP=>znl<|zt<|H.cl 43 (Tryz.call168 _ _) (by have hh:=num_any b_6 s q7 w_24 (HP.at_ 1 rfl) hsl hk7;simp only[h8] at hh;exact hh) ?_;rintro e w_25 ⟨rfl,hbx,hgr⟩;refine⟨_,rfl,?_⟩;intro a H
 have HP:=HP.changed 1 rfl (rdCells s q8) [bx b_9 76 [(ii n1),(ii n2),(ii n3),(ii n4),(ii n5),(.bool (n6 == 1)),(sS n7),zO,zO,zS,zO,zO,zN] true,bx b_6 277 (rdCells s q8) true,bx b_3 76 zc0 true,bx b_1 58 [(ii rn),(ii rd)] true] kr hgr hbx;refine H.gn HP 1 [(44,(pt b_9 7))] fun a H=>H.sh HP 0 7 (ii n8) rfl fun w_26 a H HP=>znl<|zt<|H.cl 45 (Tryz.call168 _ _) (by have hh:=num_any b_6 s q8 w_26 (HP.at_ 1 rfl) hsl hk8;simp only[h9] at hh;exact hh) ?_;rintro e w_27 ⟨rfl,hbx,hgr⟩;refine⟨_,rfl,?_⟩;intro a H;have HP:=HP.changed 1 rfl (rdCells s q9) [bx b_9 76 [(ii n1),(ii n2),(ii n3),(ii n4),(ii n5),(.bool (n6 == 1)),(sS n7),(ii n8),zO,zS,zO,zO,zN] true,bx b_6 277 (rdCells s q9) true,bx b_3 76 zc0 true,bx b_1 58 [(ii rn),(ii rd)] true] kr hgr hbx
 refine H.gn HP 1 [(46,(pt b_9 8))] fun a H=>H.sh HP 0 8 (ii n9) rfl fun w_28 a H HP=>znl<|zt<|H.cl 47 (Tryz.call169 _ _) (by have hh:=txt_any b_6 s q9 w_28 (HP.at_ 1 rfl) hsl hk9;simp only[h10] at hh;exact hh) ?_;rintro e w_29 ⟨rfl,hbx,hgr⟩;refine⟨_,rfl,?_⟩;intro a H;have HP:=HP.changed 1 rfl (rdCells s q10) [bx b_9 76 [(ii n1),(ii n2),(ii n3),(ii n4),(ii n5),(.bool (n6 == 1)),(sS n7),(ii n8),(ii n9),zS,zO,zO,zN] true,bx b_6 277 (rdCells s q10) true,bx b_3 76 zc0 true,bx b_1 58 [(ii rn),(ii rd)] true] kr hgr hbx;refine H.gn HP 1 [(48,(pt b_9 9))] fun a H=>H.sh HP 0 9 (sS n10) rfl fun w_30 a H HP=>znl<|zt<|H.cl 50 (Tryz.call169 _ _) (by have hh:=txt_any b_6 s q10 w_30 (HP.at_ 1 rfl) hsl hk10;simp only[h11] at hh;exact hh) ?_;rintro e w_31 ⟨rfl,hbx,hgr⟩;refine⟨_,rfl,?_⟩;intro a H
 have HP:=HP.changed 1 rfl (rdCells s q11) [bx b_9 76 [(ii n1),(ii n2),(ii n3),(ii n4),(ii n5),(.bool (n6 == 1)),(sS n7),(ii n8),(ii n9),(sS n10),zO,zO,zN] true,bx b_6 277 (rdCells s q11) true,bx b_3 76 zc0 true,bx b_1 58 [(ii rn),(ii rd)] true] kr hgr hbx;have hszd:=HP.bl.size;refine H.cl 51 (Tryz.call170 _ _) (by have hh:=decode_any (bstr n11) w_31 hsz11;rw[bstr_dataE,ho] at hh;exact hh) ?_;rintro e w_32 ⟨BB,cc,rfl,hal,hc1,hc2,hc3,hb,hfr⟩;refine⟨_,rfl,?_⟩;intro a H;have HP:=(HP.next hb).keepF ⟨rowFp o.al.length BB,fun w=>IsAlts w BB o.al.length o.al⟩ hal (fun _ _ h hk hs=>⟨h.1,h.2.keep hk hs⟩) (fun j hj=>row_sep HP hal.2 hfr hj)
 refine H.gn HP 3 [(52,(.agg #[(ii o.s),(ii o.f),(sL BB o.al.length cc)])),(53,(ii code))] fun a H=>H.al HP 10 74 [zO,zO,zN] fun b_33 w_34 a H HP=>H.sh HP 0 0 (.agg #[(ii o.s),(ii o.f),(sL BB o.al.length cc)]) rfl fun w_35 a H HP=>H.gz HP [(11,(ii code))] fun a H=>zsq<|zq<|H.gn HP 1 [(54,(pt b_6 2))] fun a H=>H.u 55 (.bool q11.2) (ex_l1 (v:=.bool q11.2) (HP.cell 2 rfl 2 rfl)) fun a H=>H.gn HP 1 [(56,(.bool q11.2))] fun a H=>H.split 56 rfl (fun g56 H=>?_) (fun g56 H=>?_)
 ·have g56p:=g56;refine H.gz HP [(59,zT)] fun a H=>w_ift H rfl<|zq<|H.gn HP 1 [(60,(.agg zc1))] fun a H=>H.sh HP 3 0 (.agg zc1) rfl fun w_36 a H HP=>H.gz HP [(5,(ii 180))] fun a H=>zrt<|ztr<|H.ret2 (fn:=Tryz.f122) Tryz.results122 (RV.cellN (vs:=zc0) (b:=b_3) (off:=0) (k:=13) kr kr kr rfl (HP.cells 3 rfl 0 13 kr)) (RV.tmp_ (v:=(ii 180)) kr) ?_;exact retUn_none (unpack_bad hX hRU (.inl g56p)) rfl HP.bl
 have g56p:=g56;refine H.gz HP [(59,(.bool (code != 0)))] fun a H=>w_if H rfl (fun g59=>?_) (fun g59=>?_)
 ·have g59p:=bne_iff_ne.1 g59;refine zq<|H.gn HP 1 [(60,(.agg zc1))] fun a H=>H.sh HP 3 0 (.agg zc1) rfl fun w_37 a H HP=>H.gz HP [(5,(ii 180))] fun a H=>zrt<|ztr<|H.ret2 (fn:=Tryz.f122) Tryz.results122 (RV.cellN (vs:=zc0) (b:=b_3) (off:=0) (k:=13) kr kr kr rfl (HP.cells 3 rfl 0 13 kr)) (RV.tmp_ (v:=(ii 180)) kr) ?_;exact retUn_none (unpack_bad hX hRU (.inr g59p)) rfl HP.bl
 have g59p:=eq_of_bne_false g59
 refine zsk<|zt<|H.go HP 2 [(61,(.agg #[(ii o.s),(ii o.f),(sL BB o.al.length cc)])),(62,(pt b_9 10))] [0] fun a H=>H.sh HP 1 10 (.agg #[(ii o.s),(ii o.f),(sL BB o.al.length cc)]) rfl fun w_38 a H HP=>znl<|zt<|H.go HP 2 [(64,(.agg #[(ii rn),(ii rd)])),(65,(.agg #[(ii n1),(ii n2),(ii n3),(ii n4),(ii n5),(.bool (n6 == 1)),(sS n7),(ii n8),(ii n9),(sS n10),(ii o.s),(ii o.f),(sL BB o.al.length cc)]))] [4,1] fun a H=>H.cb HP 66 (Tryz.call28 _ _) (by have hh:=pack_any rn rd (⟨n1,n2,n3,n4,n5,n6 == 1,n7,n8,n9,n10,o.s,o.f,BB,cc,o.al⟩:Un) w_38 (hL.below HP.bl) (HP.fact 0 rfl) (Nat.le_trans hc1 hc2);rw[hZ BB cc,packV_eq] at hh;exact hh) fun w_39 hb a H HP=>H.gz HP [(12,(sS (Z.getD []))),(11,(ii (if Z.isSome=true then 0 else 180:Int)))] fun a H=>zsq<|zq<|H.gn HP 3 [(71,(.bool ((if Z.isSome=true then 0 else 180:Int) != 0)))] fun a H=>H.split 71 rfl (fun g71 H=>?_) (fun g71 H=>?_)
 ·have g71p:=bne_iff_ne.1 g71;refine H.gz HP [(75,zT)] fun a H=>w_ift H rfl<|zq<|H.gn HP 1 [(76,(.agg zc1))] fun a H=>H.sh HP 3 0 (.agg zc1) rfl fun w_40 a H HP=>H.gz HP [(5,(ii 180))] fun a H=>zrt<|ztr<|H.ret2 (fn:=Tryz.f122) Tryz.results122 (RV.cellN (vs:=zc0) (b:=b_3) (off:=0) (k:=13) kr kr kr rfl (HP.cells 3 rfl 0 13 kr)) (RV.tmp_ (v:=(ii 180)) kr) ?_;exact retUn_none (unpack_diff hX hRU (fun h=>by have hz:=(hZ none 0).symm.trans h;subst hz;exact g71p rfl)) rfl HP.bl
 have g71p:=eq_of_bne_false g71;refine H.gn HP 2 [(72,(sS (Z.getD []))),(73,(sS l))] fun a H=>H.valE 74 (.bool (!((bstr (Z.getD [])).toList == (bstr l).toList))) (.bool (!((Z.getD []) == l))) kr kr (congrArg (fun b=>Value.bool (!b)) (bstr_eq _ _)) fun a H=>H.gz HP [(75,(.bool (!((Z.getD []) == l))))] fun a H=>w_if H rfl (fun g75=>?_) (fun g75=>?_)
 ·have g75p:=not_is_true g75;refine zq<|H.gn HP 1 [(76,(.agg zc1))] fun a H=>H.sh HP 3 0 (.agg zc1) rfl fun w_41 a H HP=>H.gz HP [(5,(ii 180))] fun a H=>zrt<|ztr<|H.ret2 (fn:=Tryz.f122) Tryz.results122 (RV.cellN (vs:=zc0) (b:=b_3) (off:=0) (k:=13) kr kr kr rfl (HP.cells 3 rfl 0 13 kr)) (RV.tmp_ (v:=(ii 180)) kr) ?_;exact retUn_none (unpack_diff hX hRU (fun h=>by have hz:=(hZ none 0).symm.trans h;subst hz;simp at g75p)) rfl HP.bl
 have g75p:=not_is_false g75;refine zsk<|zt<|H.go HP 1 [(77,(.agg #[(ii n1),(ii n2),(ii n3),(ii n4),(ii n5),(.bool (n6 == 1)),(sS n7),(ii n8),(ii n9),(sS n10),(ii o.s),(ii o.f),(sL BB o.al.length cc)]))] [1] fun a H=>H.sh HP 3 0 (.agg #[(ii n1),(ii n2),(ii n3),(ii n4),(ii n5),(.bool (n6 == 1)),(sS n7),(ii n8),(ii n9),(sS n10),(ii o.s),(ii o.f),(sL BB o.al.length cc)]) rfl fun w_42 a H HP=>H.gz HP [(5,zO)] fun a H=>zrt<|H.ret2 (fn:=Tryz.f122) Tryz.results122 (RV.cellN (vs:=[(ii n1),(ii n2),(ii n3),(ii n4),(ii n5),(.bool (n6 == 1)),(sS n7),(ii n8),(ii n9),(sS n10),(ii o.s),(ii o.f),(sL BB o.al.length cc)]) (b:=b_3) (off:=0) (k:=13) kr kr kr rfl (HP.cells 3 rfl 0 13 kr)) (RV.tmp_ (v:=zO) kr) ?_;have hZs:Z=some l:=by
  cases Z with
  |none=>exact absurd g71p (by decide)
  |some z=>exact congrArg some (eq_of_beq g75p)
 exact retUn_some (unpack_ok hX hRU hs5 g56p g59p ((hZ none 0).trans hZs)) BB cc rfl (HP.fact 0 rfl) hc1 hc2 hc3 (fun b off h=>Nat.le_trans hszd (hfr b off h)) HP.bl
theorem unpack_any (rn rd:Int) (l:List UInt8) (w:World) (hL:Laid w) (hl:l.length≤1000000):
  Calls Tryz.prog 122 #[.agg #[.int .i64 rn,.int .i64 rd],.string (bstr l)] w (RetUn (unpackP rn rd l) w):=by
 cases hX:streamP l with
 |none=>exact unpack_none rn rd l w hL hl hX
 |some s=>
  by_cases hs5:5≤s.length
  ·exact unpack_long rn rd l w hL hl s hX hs5
  ·exact unpack_short1 rn rd l w hL hl s hX hs5
def InW (zs:List Int):Prop:=∀z∈zs,-wmax≤z∧z≤wmax
theorem rdN_enc:∀(zs:List Int) (p r:List UInt8),InW zs→rdN (p++encInts zs++r) zs.length p.length=(zs,some (p.length+(encInts zs).length)):=by
  intro zs;induction zs with
  |nil=>intro p r _;simp[rdN,encInts]
  |cons z zs ih=>
    intro p r h;have hz:=h z (List.mem_cons_self ..);have e1:encInts (z::zs)=encInt z++encInts zs:=by simp[encInts]
    have h1:=rdInt_enc p (encInts zs++r) z hz.1 hz.2;have e2:p++encInts (z::zs)++r=p++encInt z++(encInts zs++r):=by rw[e1];simp
    have h2:=ih (p++encInt z) r (fun x hx=>h x (List.mem_cons_of_mem _ hx));have e3:p++encInts (z::zs)++r=(p++encInt z)++encInts zs++r:=by rw[e1];simp
    simp only[List.length_cons,rdN];rw[e2,h1];simp only;rw[←e2,e3];rw[List.length_append] at h2;rw[h2,e1];simp;omega
theorem rdAlts_enc:∀(al:Alts) (p r:List UInt8),InW (flatA al)→rdAlts (p++encInts (flatA al)++r) al.length p.length=some (al,p.length+(encInts (flatA al)).length):=by
  intro al;induction al with
  |nil=>intro p r _;simp[rdAlts,encInts,flatA]
  |cons a al ih=>
    intro p r h;obtain⟨x,i⟩:=a;have e0:flatA ((x,i)::al)=[x,i]++flatA al:=by simp[flatA]
    rw[e0] at h;have e1:encInts (flatA ((x,i)::al))=encInts [x,i]++encInts (flatA al):=by rw[e0,encInts_append]
    have h1:=rdN_enc [x,i] p (encInts (flatA al)++r) (fun z hz=>h z (List.mem_append_left _ hz));have e2:p++encInts (flatA ((x,i)::al))++r=p++encInts [x,i]++(encInts (flatA al)++r):=by rw[e1];simp
    have h2:=ih (p++encInts [x,i]) r (fun z hz=>h z (List.mem_append_right _ hz));have e3:p++encInts (flatA ((x,i)::al))++r=(p++encInts [x,i])++encInts (flatA al)++r:=by rw[e1];simp
    simp only[List.length_cons,rdAlts];rw[e2];simp only[List.length_cons,List.length_nil,Nat.zero_add,Nat.reduceAdd] at h1;rw[h1];simp only;rw[←e2,e3];rw[List.length_append] at h2;rw[h2,e1];simp;omega
theorem flat_inW {al:Alts}(h:∀a∈al,(0≤a.1∧a.1≤7)∧1≤a.2∧a.2≤1000000):InW (flatA al):=by
  intro z hz;simp only[flatA,List.mem_flatMap] at hz;obtain⟨a,ha,hz⟩:=hz;have:=h a ha;simp only[List.mem_cons,List.not_mem_nil,or_false] at hz;unfold wmax;rcases hz with rfl|rfl<;>omega
theorem dec_enc {s f:Int}{al:Alts}(h:validP s f al=true):decP (encOpt s f al)=(⟨s,f,al⟩,0):=by
  obtain⟨h1,h2,h3,h4⟩:=valid_facts h;have hw:InW [s,f,(al.length:Int)]:=by
    intro z hz;simp only[List.mem_cons,List.not_mem_nil,or_false] at hz;unfold wmax;rcases hz with rfl|rfl|rfl<;>omega
  have e1:encOpt s f al=[]++encInts [s,f,(al.length:Int)]++encInts (flatA al):=by unfold encOpt;rw[encInts_append];simp
  have r1:=rdN_enc [s,f,(al.length:Int)] [] (encInts (flatA al)) hw;have r2:=rdAlts_enc al (encInts [s,f,(al.length:Int)]) [] (flat_inW h4);rw[←e1] at r1;simp only[List.append_nil] at r2;have e2:encOpt s f al=encInts [s,f,(al.length:Int)]++encInts (flatA al):=by unfold encOpt;rw[encInts_append]
  rw[←e2] at r2;unfold decP;simp only[List.length_cons,List.length_nil,Nat.zero_add,Nat.reduceAdd] at r1;rw[r1];simp only;rw[if_neg om];simp only[Int.toNat_natCast];rw[r2];unfold finP;simp only;rw[if_neg (by rw[e2,List.length_append];simp),if_pos h]
theorem flat_drop64:∀{L:List (List UInt8)}{j:Nat}{x:List UInt8},(∀y∈L,y.length=64)→L[j]? =some x→L.flatten.drop (64*j)=x++(L.drop (j+1)).flatten
  | [],j,x,_,h=>by simp at h
  |y::L,0,x,_,h=>by simp at h;subst h;simp
  |y::L,j+1,x,hl,h=>by
    have hy:=hl y (List.mem_cons_self ..)
    rw[List.flatten_cons,show 64*(j+1)=y.length+64*j from om,List.drop_length_add_append]
    exact flat_drop64 (fun z hz=>hl z (List.mem_cons_of_mem _ hz)) (by simpa using h)
theorem flat_len64:∀{L:List (List UInt8)},(∀y∈L,y.length=64)→L.flatten.length=64*L.length
  | [],_=>rfl
  |y::L,hl=>by
    have hy:=hl y (List.mem_cons_self ..)
    have:=flat_len64 (L:=L) fun z hz=>hl z (List.mem_cons_of_mem _ hz)
    rw[List.flatten_cons,List.length_append,List.length_cons];omega
theorem pktN_bd (S:List UInt8):59*pktN S<S.length+59∧S.length≤59*pktN S:=by unfold pktN;omega
def pkL (S:List UInt8) (ch fr:Nat):List (List UInt8):=(List.range (pktN S)).map (pktAt S ch fr (pktN S))
theorem pkL_len (S:List UInt8) (ch fr:Nat):∀y∈pkL S ch fr,y.length=64:=by
  intro y hy;unfold pkL at hy;obtain⟨j,hj,rfl⟩:=List.mem_map.1 hy;have:=List.mem_range.1 hj;have:=pktN_bd S;exact pktAt_len om
theorem pkL_flat (S:List UInt8) (ch fr:Nat):(pkL S ch fr).flatten.length=64*pktN S:=by
  rw[flat_len64 (pkL_len S ch fr)];simp[pkL]
theorem pkL_drop {S:List UInt8}{ch fr j:Nat}(hj:j<pktN S):(pkL S ch fr).flatten.drop (64*j)=pktAt S ch fr (pktN S) j++((pkL S ch fr).drop (j+1)).flatten:=
  flat_drop64 (pkL_len S ch fr) (by simp[pkL,hj])
theorem pkL_get {S:List UInt8}{ch fr j k:Nat}(hj:j<pktN S) (hk:k<64):(pkL S ch fr).flatten.getD (64*j+k) 0=(pktAt S ch fr (pktN S) j).getD k 0:=by
  have hl:(pktAt S ch fr (pktN S) j).length=64:=pktAt_len (by have:=pktN_bd S;omega);rw[←dropGetD,pkL_drop hj];simp only[List.getD,List.getElem?_append_left (show k<(pktAt S ch fr (pktN S) j).length from om)]
theorem pk_4 {S:List UInt8}{ch fr j:Nat}(hj:j<pktN S):(pkL S ch fr).flatten.getD (64*j+4) 0=UInt8.ofNat (min 59 (S.length-59*j)):=(pkL_get hj om).trans rfl
theorem pkt_tail (S:List UInt8) (ch fr N j k:Nat):(pktAt S ch fr N j).getD (5+k) 0=((S.drop (59*j)).take 59++List.replicate (59-(S.length-59*j)) 255).getD k 0:=by
  unfold pktAt;rw[List.append_assoc,Nat.add_comm 5 k];rfl
theorem pk_pay {S:List UInt8}{ch fr j k:Nat}(hj:j<pktN S) (hk:k<min 59 (S.length-59*j)):(pkL S ch fr).flatten.getD (64*j+(5+k)) 0=S.getD (59*j+k) 0:=by
  rw[pkL_get hj om,pkt_tail];simp only[List.getD];rw[List.getElem?_append_left (by rw[List.length_take,List.length_drop];omega),List.getElem?_take_of_lt om,List.getElem?_drop]
theorem toNat_of {n:Nat}(h:n<256):(UInt8.ofNat n).toNat=n:=ofNat_toNat h
theorem payN_pk {S:List UInt8}{ch fr j:Nat}(hj:j<pktN S):payN (pkL S ch fr).flatten j=min 59 (S.length-59*j):=by
  unfold payN;rw[pk_4 hj,toNat_of om]
theorem ext_getD {a b:List UInt8}(hl:a.length=b.length) (h:∀i,i<a.length→a.getD i 0=b.getD i 0):a=b:=by
  apply List.ext_getElem hl;intro i h1 h2;have:=h i h1;simp only[List.getD,List.getElem?_eq_getElem h1,List.getElem?_eq_getElem h2,Option.getD_some] at this;exact this
theorem payAt_pk {S:List UInt8}{ch fr j:Nat}(hj:j<pktN S):payAt (pkL S ch fr).flatten j=(S.drop (59*j)).take 59:=by
  have hN:=pktN_bd S;have hL:=pkL_flat S ch fr;unfold payAt;rw[payN_pk hj];refine ext_getD (by simp only[List.length_take,List.length_drop];omega) fun i hi=>?_;simp only[List.length_take,List.length_drop] at hi;have h1:=pk_pay (ch:=ch) (fr:=fr) hj (k:=i) om;simp only[List.getD] at h1 ⊢;rw[List.getElem?_take_of_lt om,List.getElem?_take_of_lt om,List.getElem?_drop,List.getElem?_drop];rw[show 64*j+5+i=64*j+(5+i) from om];exact h1
theorem payTo_pk {S:List UInt8}{ch fr:Nat}:∀{j:Nat},j≤pktN S→payTo (pkL S ch fr).flatten j=S.take (59*j)
  |0,_=>by simp[payTo]
  |j+1,hj=>by
    rw[payTo_succ,payTo_pk om,payAt_pk om,Nat.mul_add,List.take_add]
theorem stream_pk (S:List UInt8) (ch fr:Nat) (h:1≤S.length):streamP (pkL S ch fr).flatten=some S:=by
  have hN:=pktN_bd S;have hL:=pkL_flat S ch fr;have hd:(pkL S ch fr).flatten.length/64=pktN S:=om;unfold streamP;rw[hd,if_neg,payTo_pk (Nat.le_refl _),List.take_of_length_le om];rintro(h|h|h)
  · omega
  · omega
  · have:payOk (pkL S ch fr).flatten (pktN S)=true:=by
      unfold payOk;rw[List.all_eq_true];intro i hi;have:=List.mem_range.1 hi;rw[payN_pk this];simp;omega
    rw[this] at h;cases h
theorem at_enc {s r x:List UInt8}{k:Nat}(hk:k≤s.length) (h:s.drop k=x++r):s=s.take k++x++r∧(s.take k).length=k∧k+x.length≤s.length∧s.drop (k+x.length)=r:=by
  have e:s=s.take k++x++r:=by rw[List.append_assoc,←h,List.take_append_drop]
  have hl:(s.take k).length=k:=by rw[List.length_take];omega
  have hlen:s.length-k=x.length+r.length:=by have:=congrArg List.length h;simpa using this
  refine⟨e,hl,om,?_⟩;rw[←List.drop_drop,h,List.drop_left]
theorem rnum_at {s r:List UInt8}{k:Nat}{n:Int}(h:k≤s.length∧s.drop k=encInt n++r) (h1:-wmax≤n) (h2:n≤wmax):∃k',rnum s (k,false)=(n,(k',false))∧k'≤s.length∧s.drop k'=r:=by
  obtain⟨e,hl,hle,hd⟩:=at_enc h.1 h.2;refine⟨k+(encInt n).length,?_,hle,hd⟩;have:=rdInt_enc (s.take k) r n h1 h2;rw[←e,hl] at this;unfold rnum;rw[if_neg (by simp)];simp only[this]
theorem rtxt_at {s r t:List UInt8}{k:Nat}(h:k≤s.length∧s.drop k=encStr t++r) (ht:t.length≤65536):∃k',rtxt s (k,false)=(t,(k',false))∧k'≤s.length∧s.drop k'=r:=by
  unfold encStr at h;rw[List.append_assoc] at h;obtain⟨e,hl,hle,hd⟩:=at_enc h.1 h.2;have hi:=rdInt_enc (s.take k) (t++r) ((t.length:Nat):Int) (by unfold wmax;omega) (by unfold wmax;omega);rw[←e,hl] at hi;obtain⟨e2,hl2,hle2,hd2⟩:=at_enc hle hd;refine⟨k+(encInt ((t.length:Nat):Int)).length+t.length,?_,hle2,hd2⟩;unfold rtxt rdStr;rw[if_neg (by simp)];simp only[hi];rw[if_neg om];simp only[Int.toNat_natCast,hd,List.take_left]
theorem wf_le {n:Int}(h0:0≤n) (h1:n≤4611686018427387903):-wmax≤n∧n≤wmax:=by unfold wmax;omega
def bareU (u:Un):Un:={ u with A:=none,c:=0}
theorem readU_code {c t:List UInt8}{u:Un}(hc:c.length=5) (hv:validU u=true):readU (c++(contentP u++t))=(bareU u,false,0):=by
  obtain⟨hf,ho⟩:=validU_facts hv;obtain⟨f1,f2,f3,f4,f5,f6,f7,f8,f9,f10,f11,f12,f13,f14,f15,f16⟩:=hf;have hol:=encOpt_len ho;obtain⟨s,hs⟩:∃s,c++(contentP u++t)=s:=⟨_,rfl⟩;have h0:5≤s.length∧s.drop 5=encInt u.channel++(encInt u.frame++(encInt u.version++(encInt u.item++(encInt u.index++(encInt (if u.key=true then 1 else 0)++(encStr u.data++(encInt u.regions++(encInt u.gain++(encStr u.caption++(encStr (encOpt u.os u.of u.al)++t)))))))))):=by
    subst hs;refine⟨by rw[List.length_append];omega,?_⟩;rw[←hc,List.drop_left];simp[contentP,encInts]
  obtain⟨k1,e1,h1⟩:=rnum_at h0 (wf_le om om).1 (wf_le om om).2;obtain⟨k2,e2,h2⟩:=rnum_at h1 (wf_le om om).1 (wf_le om om).2;obtain⟨k3,e3,h3⟩:=rnum_at h2 (wf_le om om).1 (wf_le om om).2;obtain⟨k4,e4,h4⟩:=rnum_at h3 (wf_le om om).1 (wf_le om om).2;obtain⟨k5,e5,h5⟩:=rnum_at h4 (wf_le om om).1 (wf_le om om).2;obtain⟨k6,e6,h6⟩:=rnum_at h5 (wf_le (by split<;>omega) (by split<;>omega)).1 (wf_le (by split<;>omega) (by split<;>omega)).2;obtain⟨k7,e7,h7⟩:=rtxt_at h6 om;obtain⟨k8,e8,h8⟩:=rnum_at h7 (wf_le om om).1 (wf_le om om).2;obtain⟨k9,e9,h9⟩:=rnum_at h8 (wf_le om om).1 (wf_le om om).2;obtain⟨k10,e10,h10⟩:=rtxt_at h9 om;obtain⟨k11,e11,h11⟩:=rtxt_at h10 om;rw[hs];unfold readU bareU;simp only[e1,e2,e3,e4,e5,e6,e7,e8,e9,e10,e11,dec_enc ho];have hk:((if u.key=true then 1 else 0:Int) == 1)=u.key:=by cases u.key<;>rfl
  rw[hk]
theorem packP_some {rn rd:Int}{u:Un}{l:List UInt8}(h:packP rn rd u=some l):rateOk rn rd=true∧validU u=true∧l=(pkL (streamU rn rd u) u.channel.toNat u.frame.toNat).flatten:=by
  unfold packP at h;split at h
  · next hc=>
    rw[Bool.and_eq_true] at hc;cases h
    exact⟨hc.1,hc.2,rfl⟩
  · cases h
theorem streamU_pos (rn rd:Int) (u:Un):5≤(streamU rn rd u).length:=by
  have h8:(clockP (ticksP rn rd u.frame).toNat).length=5:=rfl;unfold streamU;rw[List.length_append];omega
theorem streamU_eq (rn rd:Int) (u:Un):streamU rn rd u=clockP (ticksP rn rd u.frame).toNat++(contentP u++encInt ((sumP (contentP u):Nat):Int)):=rfl
theorem unpack_pack {rn rd:Int}{u:Un}{l:List UInt8}(h:packP rn rd u=some l):unpackP rn rd l=some (bareU u):=by
  obtain⟨hr,hv,rfl⟩:=packP_some h;have hp:=streamU_pos rn rd u;exact unpack_ok (stream_pk _ _ _ om) (by rw[streamU_eq];exact readU_code rfl hv) hp rfl rfl h
theorem pack_unpack {rn rd:Int}{u:Un}{l:List UInt8}(h:unpackP rn rd l=some u):packP rn rd u=some l:=by
  unfold unpackP at h;split at h
  · cases h
  · split at h
    · cases h
    · split at h
      · cases h
      · split at h
        · next hp=>cases h;exact hp
        · cases h
theorem pack_len {rn rd:Int}{u:Un}{l:List UInt8}(h:packP rn rd u=some l):l.length=64*pktN (streamU rn rd u)∧1≤pktN (streamU rn rd u)∧pktN (streamU rn rd u)≤13:=by
  obtain⟨hr,hv,rfl⟩:=packP_some h;exact⟨pkL_flat _ _ _,pktN_pos,pktN_le hv⟩
theorem same_bare (u v:Un):sameU u v=true↔bareU u=bareU v:=by
  obtain⟨a1,a2,a3,a4,a5,a6,a7,a8,a9,a10,a11,a12,a13,a14,a15⟩:=u;obtain⟨b1,b2,b3,b4,b5,b6,b7,b8,b9,b10,b11,b12,b13,b14,b15⟩:=v;simp only[sameU,bareU,sameP,Bool.and_eq_true,beq_iff_eq,decide_eq_true_eq,Un.mk.injEq,true_and]
end Go.Proofs.YthpbaaadkhdifaaGreatDoor
