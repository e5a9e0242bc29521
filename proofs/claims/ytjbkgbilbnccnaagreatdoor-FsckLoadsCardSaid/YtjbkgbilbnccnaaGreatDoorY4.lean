/- Part 4 of what the proof of this claim stands on: rules for walking the code, and what its functions answer; no conditions. -/
import Derived.Test.YtjbkgbilbnccnaaGreatDoorY3
namespace Go.Proofs.YtjbkgbilbnccnaaGreatDoor.X
open _root_.Go.Proofs.Tryz _root_.Go.Proofs.YtjbkgbilbnccnaaGreatDoor.Tryz
set_option linter.defProp false
noncomputable section
set_option linter.unusedVariables false
set_option linter.unusedSimpArgs false
set_option maxRecDepth 20000
set_option maxHeartbeats 8000000
variable{a:Addr}{ms:Array (String×aC)}{af:Array Edge}{O:Array aP}{op:BinOp}{dr:Bool}{b1 b2 b3 b4 b5 b6 lv p0 p1 p2 rv sv u v v0:C}{fn:Func}{G:Gh}{ee er kind lo pages:Int}{kh kl:IntKind}{kv:KV}{args caps cs xs:List C}{A U W c roots vis:List Int}{its:List It}{ts:List Tr}{L R:List aF}{es:List aZ}{l:List bZ}{ai b8 bb d i j k m ml n no o pn q vq z:Nat}{g:Option (Nat×Bool)}{rp:Rp}{p:String}{oM:Type}{D:TypeDesc}{V:Va}{T s t:aC}{ad:aF}{h' y:aM}{w:ae}{P:au}{f:bN}{e e₀:cX}{K:cX->ae->Prop}
section
open Go.ChangeShapes Go.WideShapes Go.RowKit
def Rd.append{b:Nat}{ys:List C}(Y:Rd w ⟨b,o,none⟩ xs)(J:Rd w ⟨b,o+xs.length,none⟩ ys):Rd w ⟨b,o,none⟩ (xs++ys):=fun j u hu=>by
 rw[List.getElem?_append]at hu;split at hu
 ·exact Y j u hu
 rename_i hj;have:=J (j-xs.length) u hu;rw[eK]at this ⊢
 rwa [show o+xs.length+(j-xs.length)=o+j by omega]at this
def Rd.rows{w:ae}{b o z:Nat}(f:Nat->List C):∀n,(∀i,i<n->(f i).length=z/\Rd w ⟨b,o+i*z,none⟩ (f i))->Rd w ⟨b,o,none⟩ ((List.range n).map f).flatten/\((List.range n).map f).flatten.length=n*z
 |0,_=>⟨Rd.nil,by simp⟩
 |n+1,h=>by
  obtain⟨Y,J⟩:=Rd.rows f n fun i hi=>h i H
  obtain⟨h3,h4⟩:=h n H;rw[TB,jX,List.flatten_append];refine⟨Y.append (by rw[J];simpa using h4),?_⟩;simp only[di,J,ey,l9,Mm,List.flatten_nil,kF,h3,zg,Nat.one_mul]
def Oy(h:w.cells? 0 a n=some cs):cs.length=n/\∀i,i<n->w.cell? (a.add i)=cs[i]?:=by
 unfold World.cells? at h;rw[aB (de _)]at h
 exact⟨by simpa using mapM_some_length h,fun i hi=>mapM_some_get h i i (by simp[hi])⟩
section
variable{enc:aC×C->oM}{x:DataW oM×List MemPlace}
def JF{e:aC}(ht:P.underlying t=some (.slice e))(hz:P.cellsOf e=z)(Ed:0<z)(hk:P.bytesOf e=k)(h:DataW.trod enc P w 0 (fun _=>true) true n t cs=some x)(SS:∀q∈DataW.weights P t x.1,q<=reachBytes):
  ∃(v:C) (rows:List (List C)),cs=[v]/\rows.length*k<=reachBytes∧
   (((∃a,v= .slice a 0 0)/\rows=[])\/∃b o cap,v= .slice (some ⟨b,o,none⟩) rows.length cap/\rows.length<=cap/\Rd w ⟨b,o,none⟩ rows.flatten)∧
   ∀r∈rows,∃m y,DataW.trod enc P w 0 (fun _=>true) true m e r=some y/\∀q∈DataW.weights P e y.1,q<=reachBytes:=by
 rcases DataW.trod_slice ht h with⟨rfl,rfl⟩|⟨a,len,cap,elems,rest,m,rfl,rfl,rfl,_,Ut,YM,hel,XY,ag0,_⟩
 ·exact⟨_,[],rfl,by simp, .inl ⟨⟨_,rfl⟩,rfl⟩,by simp⟩
 obtain⟨hrl,aet⟩:=ag0 rfl;rw[hz]at XY aet;simp only[DataW.weights,ht,hk,cg,cE,eZ]at SS
 have jg:∀(y:DataW oM×List MemPlace),y∈elems->∀q∈DataW.weights P e y.1,q<=reachBytes:=fun y hy q hq=>by
  refine SS q (.inr (.inl ?_));have gen:∀l:List (DataW oM),y.1∈l->q∈DataW.weightsAll P e l:=by
   intro l
   induction l with
   |nil=>intro h;cases h
   |cons d l ih=>
    intro h;rw[DataW.weightsAll,eZ];rcases cE.1 h with h|h
    ·subst h;exact .inl hq
    exact .inr (ih h)
  exact gen _ (List.mem_map_of_mem hy)
 by_cases hc:cap=0
 ·have:len=0:=H;subst hc;subst this;exact⟨_,[],rfl,by simp, .inl ⟨⟨_,rfl⟩,rfl⟩,by simp⟩
 have afJ:∃c0,w.cells? 0 (a.add (0*z)) z=some c0:=by
  by_cases hl:0<len
  ·have Y:=XY 0 hl;have:0<elems.length:=H;rw[dG this]at Y;obtain⟨c0,J,_⟩:=Option.bind_eq_some_iff.1 Y;exact⟨c0,J⟩
  have hl0:len=0:=H;have Y:=aet 0 H;have:0<rest.length:=H;rw[dG this]at Y;obtain⟨c0,J,_⟩:=Option.bind_eq_some_iff.1 Y;rw[hl0]at J
  exact⟨c0,J⟩
 obtain⟨b,o,spot⟩:=a;have hsp:spot=none:=by
  obtain⟨c0,h0⟩:=afJ;obtain⟨Y,J⟩:=Oy h0;have h3:=J 0 Ed;have:0<c0.length:=H;rw[dG this]at h3
  simpa [Addr.add]using World.cell?_spot h3
 subst hsp;have Mx:∀i,i<len->∃r,w.cells? 0 (Addr.add ⟨b,o,none⟩ (i*z)) z=some r/\∃y,y∈elems/\DataW.trod enc P w 0 (fun _=>true) true m e r=some y:=fun i hi=>by
  have Y:=XY i hi;have lR:i<elems.length:=H;rw[dG lR]at Y;obtain⟨r,J,h3⟩:=Option.bind_eq_some_iff.1 Y;exact⟨r,J,_,QU lR,h3⟩
 let f:Nat->List C:=fun i=>(w.cells? 0 (Addr.add ⟨b,o,none⟩ (i*z)) z).getD []
 have hf:∀i,i<len->(f i).length=z/\Rd w ⟨b,o+i*z,none⟩ (f i):=fun i hi=>by
  obtain⟨r,Y,_⟩:=Mx i hi;have hfi:f i=r:=by simp only[f,Y,TD]
  obtain⟨J,h3⟩:=Oy Y;rw[hfi];refine⟨J,fun j u hu=>?_⟩;have hj:j<z:=by
   rcases oA j z with h|h
   ·exact h
   rw[yi H]at hu;cases hu
  have:=(h3 j hj).trans hu
  rwa [eK]at this
 refine⟨_,(List.range len).map f,rfl,?_, .inr ⟨b,o,cap,by simp,by simpa using Ut,(Rd.rows f len hf).1⟩,fun r hr=>?_⟩
 ·have:=SS _ (.inl rfl);rw[cg,W5,<-hel];exact Ht (ZQ _ (Nat.le_add_right _ _)) this
 obtain⟨i,hi,rfl⟩:=dY.1 hr;obtain⟨r,Y,y,hy,J⟩:=Mx i (sr.1 hi);exact⟨m,y,by simpa [f,Y]using J,jg y hy⟩
def afc{α:Type}{f:α->List C}{Q:α->Prop}:∀(rows:List (List C)),(∀r∈rows,∃c,r=f c/\Q c)->∃l:List α,rows=l.map f/\∀c∈l,Q c
 |[],_=>⟨[],rfl,by simp⟩
 |r::rows,h=>by
  obtain⟨c,rfl,hc⟩:=h r (kf ..);obtain⟨l,rfl,hl⟩:=afc rows fun r hr=>h r (kG _ hr)
  exact⟨c::l,rfl,fun d hd=>by
   rcases cE.1 hd with h|h
   ·subst h;exact hc
   ·exact hl d h⟩
def TS{e:aC}(ht:P.underlying t=some (.slice e))(he:P.underlying e=some (.int .u8))(hz:P.cellsOf e=1)(hk:P.bytesOf e=1)(h:DataW.trod enc P w 0 (fun _=>true) true n t cs=some x)(SS:∀q∈DataW.weights P t x.1,q<=reachBytes):
  ∃(v:C) (l:bZ),cs=[v]/\eB v l w/\l.length<=140737488351232:=by
 obtain⟨v,rows,rfl,hb,hs,hr⟩:=JF ht hz dM hk h SS;obtain⟨l,rfl,-⟩:=afc (f:=fun c:UInt8=>[bv c]) (Q:=fun _=>True) rows fun r hm=>by
  obtain⟨m,y,Y,_⟩:=hr r hm;obtain⟨k,rfl,rfl,hwf⟩:=DataW.trod_int he Y;have:=bounds_u8 hwf;refine⟨UInt8.ofNat k.toNat,?_,trivial⟩;simp only[bv,List.cons.injEq,and_true,Value.int.injEq,true_and];have J:(UInt8.ofNat k.toNat).toNat=k.toNat%2^8:=UInt8.toNat_ofNat';rw[J];omega
 have CY:(l.map fun c:UInt8=>[bv c]).flatten=cI l:=by
  clear hb hs hr
  induction l with
  |nil=>rfl
  |cons c l ih=>rw[ey,Mm,ih];rfl
 rw[cg,CY]at hs;refine⟨v,l,rfl,?_,by simp[reachBytes]at hb;omega⟩;rcases hs with⟨ha,hl⟩|hs
 ·exact .inl ⟨ha,by simpa using hl⟩
 exact .inr hs
end
def abo{W:ae}(hs:aw G (Old W::R) w)(h:W.cell? a=some u):w.cell? a=some u:=by
 cases hb:W.heap[a.block]?with
 |none=>simp[World.cell?,hb]at h
 |some o=>
  have Y:=hs.JJ hb;simp only[World.cell?,hb]at h;simp only[World.cell?,Y];exact h
def Rd.qV{W:ae}(h:Rd W a cs):aL [Old W] (fun w=>Rd w a cs):=fun g w hs j u hu=>abo hs (h j u hu)
def eB.qV{W:ae}{l:bZ}(h:eB v l W):aL [Old W] (eB v l):=fun g w hs=>by
 rcases h with h|⟨b,o,cap,Y,J,h3⟩
 ·exact .inl h
 exact .inr ⟨b,o,cap,Y,J,h3.qV.at hs⟩
def jk.qV{W:ae}{l:List (List C)}(h:jk z v l W):aL [Old W] (jk z v l):=fun g w hs=>by
 rcases h with h|⟨b,o,cap,Y,J,h3,h4⟩
 ·exact .inl h
 exact .inr ⟨b,o,cap,Y,J,h3,h4.qV.at hs⟩
section
variable{enc:aC×C->oM}{W W':ae}{x:DataW oM×List MemPlace}
def coI:prog.cellsOf 3=1:=kR
def coU:prog.cellsOf 5=1:=kR
def boU:prog.bytesOf 5=1:=kR
def coT:prog.cellsOf 62=3:=kR
def kids:Kids prog (·<prog.types.size):=kids_rows kR kR
def full:∀t e,t<prog.types.size->prog.underlying t=some (.slice e)->0<prog.cellsOf e:=slices_full_of _ kR
def aeo{e:aC}{r:Reach}{b0:Nat}(ht:P.underlying t=some (.slice e))(h:Value.okWide P W r b0 t v):∃a len cap,v= .slice a len cap/\∀x,a=some x->x.spot=none:=by
 obtain⟨a,len,cap,rfl⟩:=okWide_slice ht h;refine⟨a,len,cap,rfl,fun x E=>?_⟩;subst E;simp only[Value.okWide,ht,Cell.okWide,Cell.ok]at h;exact h.2.2.2.1
def ae4{rows:List (List C)}(hz:∀r∈rows,r.length=z)(hs:((∃a,v= .slice a 0 0)/\rows=[])\/∃b o cap,v= .slice (some ⟨b,o,none⟩) rows.length cap/\rows.length<=cap/\Rd W ⟨b,o,none⟩ rows.flatten):jk z v rows W:=by
 rcases hs with⟨⟨a,Y⟩,J⟩|⟨b,o,cap,Y,J,h3⟩
 ·exact .inl ⟨a,Y,fun _ _=>rfl,J⟩
 exact .inr ⟨b,o,cap,Y,J,hz,h3⟩
def Xm(h:DataW.trod enc prog W 0 (fun _=>true) true n 62 cs=some x):∃t:Tr,cs=dI t:=by
 obtain⟨xs,m,rfl,rfl,hl,vi,hf⟩:=DataW.trod_struct underlying62 h;have hl4:cs.length=3:=hl.trans coT
 match cs,hl4 with
 |[a,b,c],_=>
  match xs,(show xs.length=3 from vi)with
  |[x0,x1,x2],_=>
   have h0:DataW.trod enc prog W 0 (fun _=>true) true m 3 (([a,b,c].drop 0).take (prog.cellsOf 3))=some x0:=hf 0 _ rfl;have Y:DataW.trod enc prog W 0 (fun _=>true) true m 3 (([a,b,c].drop 1).take (prog.cellsOf 3))=some x1:=hf 1 _ rfl;have J:DataW.trod enc prog W 0 (fun _=>true) true m 3 (([a,b,c].drop 2).take (prog.cellsOf 3))=some x2:=hf 2 _ rfl;rw[coI]at h0 Y J;simp only[W3,W9,Xa,DX]at h0 Y J
   obtain⟨i,hi,-,-⟩:=DataW.trod_int dD h0;obtain⟨j,hj,-,-⟩:=DataW.trod_int dD Y;obtain⟨k,hk,-,-⟩:=DataW.trod_int dD J;simp only[List.cons.injEq,and_true]at hi hj hk;subst hi;subst hj;subst hk;exact⟨⟨i,j,k⟩,rfl⟩
def Zq(hs:aw G (Old W::R) W'){p:MemPlace}(hp:p.block<W.heap.size):W.sameAt W' p:=by
 have hb:W'.heap[p.block]?=W.heap[p.block]?:=by
  have Y:=Hx hp;rw[hs.JJ Y,Y]
 cases p with
 |cell b off=>simp only[MemPlace.block]at hb;simp only[World.sameAt,World.cell?,hb]
 |map b=>exact hb
def Cc{sp:Nat->Bool}:∀{ts:List aC} {vs:List C} {ds:List (DataW oM)} {ps:List MemPlace},DataW.TrodAll enc prog W 0 sp true ts vs ds ps->(∀p∈ps,W.sameAt W' p)->DataW.TrodAll enc prog W' 0 sp true ts vs ds ps
 |[],[],[],_,h,_=>h
 |_::_,_::_,_::_,_,⟨p,q,⟨n,hn⟩,J,e⟩,hs=>
  ⟨p,q,⟨n,DataW.trod_carry n _ _ _ hn fun x E=>hs x (by rw[e];exact lT _ E)⟩,Cc J fun x E=>hs x (by rw[e];exact Jw _ E),e⟩
def agm{f:Func}{s:ChangeSpec}{args:Array C}{ds gs:List (DataW oM)}{before:List MemPlace}(hW:DataW.Whole enc prog f.params.toList s.vars false W args.toList ds gs before)(hv:s.vars=[])
  (hs:aw (UE W) [Old W] W')(hr:f.resultTypes=#[4])(XZ:s.fn oM (ds++gs)=⟨[.lit (.bool true)],ds,[]⟩)(hp:∀t∈f.params.toList,t<prog.types.size):
  s.post enc prog f false true false false W args (.bool true) W':=by
 have hW':=hW;obtain⟨p,q,hA,hV,rfl,_,_⟩:=hW;have hV':DataW.TrodVars enc prog W (fun _=>true) [] gs q:=by rw[hv]at hV;exact hV
 obtain⟨rfl,rfl⟩:=trodVars_none hV';have fR:=DataW.TrodAll.lt hA;refine⟨ds,[],p++[],[],p,[],hW',?_,?_,?_,?_,fun h=>by cases h⟩
 ·rw[XZ,hr];exact trodAll_mk1 (shut_bool underlying4 true)
 ·rw[XZ];exact Cc (DataW.TrodAll.respare kids full hp hA fun x E=>by simpa using fR x E) fun x E=>Zq hs (fR x E)
 ·rw[XZ,hv];rfl
 have hg:=hs.1;refine⟨aU Gh.os hg,aU Gh.output hg,fun i hi=>?_⟩;have Y:=Hx hi;have J:=hs.JJ Y;rw[Y,J];split<;>simp_all
end
end
abbrev wv:=BitVec 32
def ahX:List Nat:=[0,274646895,549293790,820201905,1098587580,1361435347,1640403810,1905808397,2197175160,2460548119,2722870694,2987750089,3280807620,3553878443,3811616794,4084100981]
def tab(n:Nat):wv:=BitVec.ofNat 32 (ahX.getD n 0)
def DN(w:wv):wv:=(w>>>4)^^^tab (w&&&15#32).toNat
def Zl(w:wv)(x:UInt8):wv:=DN (DN (w^^^BitVec.ofNat 32 x.toNat))
def onB(w:wv):List UInt8->wv
 |[]=>w
 |x::l=>onB (Zl w x) l
def s0(l:List UInt8):wv:= ~~~onB (~~~0#32) l
def jP:List UInt8->Nat
 |[]=>0
 |x::l=>x.toNat+256*jP l
def CN(w:wv):∀(l m:List UInt8),onB w (l++m)=onB (onB w l) m
 |[],m=>rfl
 |x::l,m=>by simp only[nI,onB];exact CN _ l m
def R1(w:wv):wv:=(w>>>1)^^^(if w.getLsbD 0 then 2197175160#32 else 0#32)
def Rn:Nat->wv->wv
 |0,w=>w
 |n+1,w=>Rn n (R1 w)
def abF:∀(m n:Nat) (w:wv),Rn (m+n) w=Rn n (Rn m w)
 |0,n,w=>by rw[mT];rfl
 |m+1,n,w=>by rw[show m+1+n=(m+n)+1 by omega];exact abF m n (R1 w)
def agj(a b:wv):R1 (a^^^b)=R1 a^^^R1 b:=by
 unfold R1;apply BitVec.eq_of_getLsbD_eq;intro i hi;simp only[BitVec.getLsbD_xor,BitVec.getLsbD_ushiftRight];cases Y:a.getLsbD 0<;>cases J:b.getLsbD 0<;>simp<;>cases a.getLsbD (1+i)<;>cases b.getLsbD (1+i)<;>simp
def abE:∀(n:Nat) (a b:wv),Rn n (a^^^b)=Rn n a^^^Rn n b
 |0,a,b=>rfl
 |n+1,a,b=>by simp only[Rn];rw[agj,abE]
def Fa{w:wv}(h:w.getLsbD 0=false):R1 w=w>>>1:=by unfold R1;rw[h];simp
def QI(w:wv):DN w=Rn 4 w:=by
 have afz:w=((w>>>4)<<<4)^^^(w&&&15#32):=by
  apply BitVec.eq_of_getLsbD_eq;intro i hi;have h15:(15#32:wv).getLsbD i=decide (i<4):=by
   rcases(show i=0\/i=1\/i=2\/i=3\/4<=i by omega)with rfl|rfl|rfl|rfl|h
   ·decide
   ·decide
   ·decide
   ·decide
   rw[show(15#32:wv)=BitVec.ofNat 32 15 from rfl,BitVec.getLsbD_ofNat];have Y:Nat.testBit 15 i=false:=Nat.testBit_lt_two_pow (W6 (by decide:15<2^4) (ZM dM h));simp[Y];omega
  simp only[BitVec.getLsbD_xor,BitVec.getLsbD_shiftLeft,BitVec.getLsbD_ushiftRight,BitVec.getLsbD_and,h15]
  by_cases h4:i<4
  ·simp[h4]
  simp[h4,hi,show 4+(i-4)=i by omega]
 have hhi:Rn 4 ((w>>>4)<<<4)=w>>>4:=by
  have e0:((w>>>4)<<<4).getLsbD 0=false:=by simp
  have e1:(((w>>>4)<<<4)>>>1).getLsbD 0=false:=by simp
  have e2:((((w>>>4)<<<4)>>>1)>>>1).getLsbD 0=false:=by simp
  have e3:(((((w>>>4)<<<4)>>>1)>>>1)>>>1).getLsbD 0=false:=by simp
  simp only[Rn];rw[Fa e0,Fa e1,Fa e2,Fa e3];apply BitVec.eq_of_getLsbD_eq;intro i hi;simp only[BitVec.getLsbD_ushiftRight,BitVec.getLsbD_shiftLeft]
  by_cases h:i<28
  ·simp[show(1+(1+(1+(1+i))))<32 by omega,show¬(1+(1+(1+(1+i))))<4 by omega,show 4+(1+(1+(1+(1+i)))-4)=4+i by omega]
  simp[show¬(1+(1+(1+(1+i))))<32 by omega];exact BitVec.getLsbD_of_ge w (4+i) H
 have Us:Rn 4 (w&&&15#32)=tab (w&&&15#32).toNat:=by
  have h16:(w&&&15#32).toNat<16:=by
   rw[BitVec.toNat_and];exact ZI Nat.and_le_right dM
  have e:(w&&&15#32)=BitVec.ofNat 32 (w&&&15#32).toNat:=by simp
  generalize (w&&&15#32).toNat=n at h16 e
  rw[e];have key:∀n:Fin 16,Rn 4 (BitVec.ofNat 32 n.1)=tab n.1:=by decide
  exact key ⟨n,h16⟩
 calc DN w=w>>>4^^^tab (w&&&15#32).toNat:=rfl
  _=Rn 4 (((w>>>4)<<<4)^^^(w&&&15#32)):=by rw[abE,hhi,Us]
  _=Rn 4 w:=by rw[<-afz]
def py:∀l:List UInt8,jP l<2^(8*l.length)
 |[]=>by simp[jP]
 |x::l=>by
  have h:=py l;have E:x.toNat<256:=x.toNat_lt;simp only[jP,kZ];rw[show 8*(l.length+1)=8*l.length+8 by omega,Nat.pow_add];omega
section
variable{done r:List Nat}
variable{u:aC}{x:aM}{k k':IntKind}{a b v:Int}
def Nx(ho:O[i]?=some ⟨some d, .binOp .shr s x y u,t,p,af,g⟩)(E:ev e x=some (.int k a))(hy:ev e y=some (.int k' b))(hb:0<=b)(hv:a.fdiv (2^min b.toNat k.bits)=v)
  (h:XL P n O dr (i::done) r K ((d, .int k v)::e) w)(hd:Nat.blt d n=true:=by exact rfl)(hg:Gd O e g:=by exact gD):XL P n O dr done (i::r) K e w:=
 jS (hd:=hd) (hg:=hg) ho (bk rfl) E hy (fun w'=>by rw[<-hv];simp[cT,binOp,Op.shift,Int.not_lt.2 hb]) h
def QA(ho:O[i]?=some ⟨some d, .binOp .shl s x y u,t,p,af,g⟩)(E:ev e x=some (.int k a))(hy:ev e y=some (.int k' b))(hb:0<=b)(hv:k.wrap (a*2^min b.toNat k.bits)=v)
  (h:XL P n O dr (i::done) r K ((d, .int k v)::e) w)(hd:Nat.blt d n=true:=by exact rfl)(hg:Gd O e g:=by exact gD):XL P n O dr done (i::r) K e w:=
 jS (hd:=hd) (hg:=hg) ho (bk rfl) E hy (fun w'=>by rw[<-hv];simp[cT,binOp,Op.shift,Int.not_lt.2 hb]) h
def Nz(ho:O[i]?=some ⟨some d, .unOp .xor s x,t,p,af,g⟩)(E:ev e x=some (.int k a))(hv:k.wrap (BitVec.ofInt k.bits (if k.signed then-1 else k.max)^^^BitVec.ofInt k.bits a).toNat=v)
  (h:XL P n O dr (i::done) r K ((d, .int k v)::e) w)(hd:Nat.blt d n=true:=by exact rfl)(hg:Gd O e g:=by exact gD):XL P n O dr done (i::r) K e w:=
 fC ho (by simpa [dA]using hd) hg (ρ:=rh e) (by intro z hZ;simp[Op.operands]at hZ;exact HA E hZ) rfl (v:= .int k v) (fun w'=>by rw[<-hv];simp[execOp,bM E,Op.unary,Op.intBits]) h
def Tj(ho:O[i]?=some ⟨some d, .binOp .and s x y u,t,p,af,g⟩)(E:ev e x=some (.int k a))(hy:ev e y=some (.int k b))(hv:k.wrap (BitVec.ofInt k.bits a&&&BitVec.ofInt k.bits b).toNat=v)
  (h:XL P n O dr (i::done) r K ((d, .int k v)::e) w)(hd:Nat.blt d n=true:=by exact rfl)(hg:Gd O e g:=by exact gD):XL P n O dr done (i::r) K e w:=agH (hd:=hd) (hg:=hg) ho E hy (by rw[hv];exact h)
def QB(ho:O[i]?=some ⟨some d, .binOp .or s x y u,t,p,af,g⟩)(E:ev e x=some (.int k a))(hy:ev e y=some (.int k b))(hv:k.wrap (BitVec.ofInt k.bits a|||BitVec.ofInt k.bits b).toNat=v)
  (h:XL P n O dr (i::done) r K ((d, .int k v)::e) w)(hd:Nat.blt d n=true:=by exact rfl)(hg:Gd O e g:=by exact gD):XL P n O dr done (i::r) K e w:=ahI (hd:=hd) (hg:=hg) ho E hy (by rw[hv];exact h)
def OK(ho:O[i]?=some ⟨some d, .binOp .xor s x y u,t,p,af,g⟩)(E:ev e x=some (.int k a))(hy:ev e y=some (.int k b))(hv:k.wrap (BitVec.ofInt k.bits a^^^BitVec.ofInt k.bits b).toNat=v)
  (h:XL P n O dr (i::done) r K ((d, .int k v)::e) w)(hd:Nat.blt d n=true:=by exact rfl)(hg:Gd O e g:=by exact gD):XL P n O dr done (i::r) K e w:=aed (hd:=hd) (hg:=hg) ho E hy (by rw[hv];exact h)
def cJ(ho:O[i]?=some ⟨some d, .convert s u x,t,p,af,g⟩)(hk:eQ P (.convert s u x)=0)(hs:P.underlying s=some D)(hu:P.underlying u=some (.int k'))(E:ev e x=some (.int k a))(hv:k'.wrap a=v)(h:XL P n O dr (i::done) r K ((d, .int k' v)::e) w)(hd:Nat.blt d n=true:=by exact rfl)(hg:Gd O e g:=by exact gD):XL P n O dr done (i::r) K e w:=CF (hd:=hd) (hg:=hg) ho hk hs hu E (by rw[hv];exact h)
end
abbrev u32(w:wv):C:= .int .u32 (w.toNat:Int)
def zl(a:BitVec m):BitVec.ofInt m (a.toNat:Int)=a:=by rw[BitVec.ofInt_natCast,BitVec.ofNat_toNat,BitVec.setWidth_eq]
def w32(h:n<4294967296):IntKind.u32.wrap (n:Int)=n:=by
 show(n:Int)%(2^32:Int)=n
 omega
def SQ(h:n<18446744073709551616):IntKind.u64.wrap (n:Int)=n:=by
 show(n:Int)%(2^64:Int)=n
 omega
def Nw(a b:wv):IntKind.u32.wrap (BitVec.ofInt IntKind.u32.bits (a.toNat:Int)^^^BitVec.ofInt IntKind.u32.bits (b.toNat:Int)).toNat=((a^^^b).toNat:Int):=by
 have:∀c:wv,IntKind.u32.wrap (c.toNat:Int)=c.toNat:=fun c=>w32 c.isLt
 show IntKind.u32.wrap ((BitVec.ofInt 32 (a.toNat:Int)^^^BitVec.ofInt 32 (b.toNat:Int)).toNat:Int)=_
 rw[zl,zl,this]
def aeE(a:wv):IntKind.u32.wrap (BitVec.ofInt IntKind.u32.bits (if IntKind.u32.signed then-1 else IntKind.u32.max)^^^BitVec.ofInt IntKind.u32.bits (a.toNat:Int)).toNat=((~~~a).toNat:Int):=by
 have Y:=Nw (~~~0#32) a;have J:(~~~0#32:wv)^^^a= ~~~a:=by
  apply BitVec.eq_of_getLsbD_eq;intro i hi;rw[BitVec.getLsbD_xor,BitVec.getLsbD_not,BitVec.getLsbD_not];simp only[hi,decide_true,Bool.true_and];cases a.getLsbD i<;>simp
 rw[J]at Y;exact Y
def ael(a:wv):((a.toNat:Nat):Int).fdiv (2^min (4:Int).toNat IntKind.u32.bits)=((a>>>4).toNat:Int):=by
 show((a.toNat:Nat):Int).fdiv ((16:Nat):Int)=_
 rw[BitVec.toNat_ushiftRight,Nat.shiftRight_eq_div_pow,Int.ofNat_fdiv]
def aeG(a:wv):IntKind.u32.wrap (BitVec.ofInt IntKind.u32.bits (a.toNat:Int)&&&BitVec.ofInt IntKind.u32.bits 15).toNat=((a&&&15#32).toNat:Int):=by
 have:∀c:wv,IntKind.u32.wrap (c.toNat:Int)=c.toNat:=fun c=>w32 c.isLt
 show IntKind.u32.wrap ((BitVec.ofInt 32 (a.toNat:Int)&&&BitVec.ofInt 32 15).toNat:Int)=_
 rw[zl,show BitVec.ofInt 32 15=15#32 from rfl,this]
def LQ(a:wv):(a&&&15#32).toNat<16:=by
 rw[BitVec.toNat_and];exact ZI Nat.and_le_right dM
def abq(x:UInt8):IntKind.u32.wrap (x.toNat:Int)=((BitVec.ofNat 32 x.toNat).toNat:Int):=by
 have h:x.toNat<256:=x.toNat_lt;rw[w32 H,BitVec.toNat_ofNat,ZE H]
def GB(x:UInt8):IntKind.u64.wrap (x.toNat:Int)=(x.toNat:Int):=by
 have h:x.toNat<256:=x.toNat_lt;exact SQ H
def ab1(a:Nat):((a:Nat):Int).fdiv (2^min (8:Int).toNat IntKind.u64.bits)=((a/256:Nat):Int):=by
 show((a:Nat):Int).fdiv ((256:Nat):Int)=_
 rw[Int.ofNat_fdiv]
def w16(h:n<65536):IntKind.u16.wrap (n:Int)=n:=by
 show(n:Int)%(2^16:Int)=n
 omega
def w8(h:n<256):IntKind.u8.wrap (n:Int)=n:=by
 show(n:Int)%(2^8:Int)=n
 omega
def Z9{x c:Nat}(hk:k<8)(E:x<2^(8*k))(hc:c<256):IntKind.u64.wrap (BitVec.ofInt IntKind.u64.bits (x:Int)|||BitVec.ofInt IntKind.u64.bits (IntKind.u64.wrap ((c:Int)*2^min (8*k:Int).toNat IntKind.u64.bits))).toNat=((x+c*2^(8*k):Nat):Int):=by
 have Y:2^(8*k)*256<=2^64:=by
  rw[show(256:Nat)=2^8 from rfl,<-Nat.pow_add];exact ZM dM H
 have J:c*2^(8*k)+x<2^64:=by
  have:c*2^(8*k)+2^(8*k)<=2^(8*k)*256:=by
   rw[<-Nat.succ_mul,Nat.mul_comm];exact Nat.mul_le_mul_left _ hc
  omega
 have e1:min (8*(k:Int)).toNat IntKind.u64.bits=8*k:=by show min _ 64=_;omega
 rw[e1];have e2:((c:Int)*2^(8*k))=((c*2^(8*k):Nat):Int):=by push_cast;rfl
 have h3:c*2^(8*k)<18446744073709551616:=H;have e4:IntKind.u64.wrap ((c*2^(8*k):Nat):Int)=((c*2^(8*k):Nat):Int):=SQ h3;rw[e2,e4]
 show IntKind.u64.wrap ((BitVec.ofInt 64 (x:Int)|||BitVec.ofInt 64 ((c*2^(8*k):Nat):Int)).toNat:Int)=_
 rw[BitVec.ofInt_natCast,BitVec.ofInt_natCast,BitVec.toNat_or,BitVec.toNat_ofNat,BitVec.toNat_ofNat,ZE (show x<2^64 by omega),ZE (show c*2^(8*k)<2^64 by omega)];have e3:x|||c*2^(8*k)=x+c*2^(8*k):=by
  have:=Nat.two_pow_add_eq_or_of_lt E c;rw[Nat.or_comm,Nat.mul_comm c,<-this,Nat.add_comm]
 rw[e3];exact SQ H
def qZ(x:UInt8):∀l:List UInt8,jP (l++[x])=jP l+x.toNat*2^(8*l.length)
 |[]=>by simp[jP]
 |y::l=>by
  simp only[nI,jP,qZ x l,kZ];rw[show 8*(l.length+1)=8*l.length+8 by omega,Nat.pow_add,Nat.mul_add];have:256*(x.toNat*2^(8*l.length))=x.toNat*(2^(8*l.length)*2^8):=by
   rw[show(256:Nat)=2^8 from rfl,Nat.mul_left_comm,Nat.mul_comm (2^8)]
  omega
def aau{l:List UInt8}(h:l.length<=8):jP l<18446744073709551616:=W6 (py l) (show 2^(8*l.length)<=2^64 from ZM dM H)
section
variable{done r:List Nat}{x:aM}
variable{c:aC}{q:Option Addr}{len cap:Nat}{b:bZ}{w0:ae}
def eB.inv(h:eB (.slice q len cap) b w0):len=b.length/\b.length<=cap/\((cap=0/\b=[])\/∃bb o,q=some ⟨bb,o,none⟩):=by
 rcases h with⟨⟨a,Y⟩,rfl⟩|⟨bb,o,c,Y,J,h3⟩
 ·cases Y;exact⟨rfl,fP _, .inl ⟨rfl,rfl⟩⟩
 cases Y;exact⟨rfl,J, .inr ⟨bb,o,rfl⟩⟩
def Hl(v:C):Prop:=∀q m c,v= .slice q m c->∀a,q=some a->a.spot=none
def OM{l:aM}(ho:O[i]?=some ⟨some d, .slice s x (some l) none none,t,p,af,g⟩)(hs:P.underlying s=some (.slice c))(hz:(P.info? c).map (·.size)=some 1)(E:ev e x=some (.slice q len cap))(hl:ev e l=some (.int kl lo))(hk:eB (.slice q len cap) b w0)(hb:0<=lo/\lo<=b.length)(h:∀v',(∀w,eB (.slice q len cap) b w->eB v' (b.drop lo.toNat) w)->(Hl (.slice q len cap)->Hl v')->XL P n O dr (i::done) r K ((d,v')::e) w)(hd:Nat.blt d n=true:=by exact rfl)(hg:Gd O e g:=by exact gD):XL P n O dr done (i::r) K e w:=by
 obtain⟨Y,J,h3⟩:=hk.inv;subst Y;refine abQ (hd:=hd) (hg:=hg) ho hs hz E hl hb J (fun h4=>?_) (fun v' h5 h6=>h v' (fun w Z=>?_) (fun hp=>?_))
 ·rcases h3 with⟨rfl,rfl⟩|h3
  ·have:=hb.1;simp at h4;omega
  exact h3
 ·obtain⟨-,-,h7⟩:=Z.inv
  by_cases h8:lo=cap
  ·rw[h6 h8];refine .inl ⟨⟨_,rfl⟩,vB H⟩
  rcases h7 with⟨rfl,rfl⟩|⟨bb,o,rfl⟩
  ·simp at hb;omega
  rw[h5 _ _ rfl H];refine .inr ⟨bb,o+lo.toNat,cap-lo.toNat,by rw[jm,DV],by rw[jm];omega,?_⟩;exact Z.rdd lo.toNat
 by_cases h8:lo=cap
 ·rw[h6 h8];intro q' m' c' h9 a ha;cases h9;exact hp _ _ _ rfl a ha
 rcases h3 with⟨rfl,rfl⟩|⟨bb,o,rfl⟩
 ·simp at hb;omega
 rw[h5 _ _ rfl H];intro q' m' c' h9 a ha;cases h9;cases ha;rfl
def eB.hi(Z:eB (.slice q len cap) b w0){mG:Nat}(Y:k<=b.length)(J:k<=mG)(h3:mG<=cap):eB (.slice q k mG) (b.take k) w0:=by
 rcases Z with⟨⟨a,e1⟩,rfl⟩|⟨bb,o,c,e1,e2,e3⟩
 ·cases e1;have:k=0:=by simpa using Y
  subst this;have:mG=0:=H;subst this;exact .inl ⟨⟨_,rfl⟩,by simp⟩
 cases e1;refine .inr ⟨bb,o,mG,by rw[gJ,Jq Y],by rw[gJ];omega,?_⟩;rw[AD];exact e3.take k
def wM{hi:Int}(ho:O[i]?=some ⟨some d, .slice s x none (some h') none,t,p,af,g⟩)(hs:P.underlying s=some (.slice c))(hz:(P.info? c).map (·.size)=some 1)(E:ev e x=some (.slice q len cap))(hh:ev e h'=some (.int kh hi))(hk:eB (.slice q len cap) b w0)(hb:0<=hi/\hi<=b.length)(hq:∀a,q=some a->a.spot=none)(h:∀v',v'= .slice q hi.toNat cap->(∀w,eB (.slice q len cap) b w->eB v' (b.take hi.toNat) w)->XL P n O dr (i::done) r K ((d,v')::e) w)(hd:Nat.blt d n=true:=by exact rfl)(hg:Gd O e g:=by exact gD):XL P n O dr done (i::r) K e w:=by
 obtain⟨Y,J,-⟩:=hk.inv;exact y0 (hd:=hd) (hg:=hg) ho hs (by rw[hz];rfl) E hq hh ⟨hb.1,H⟩ (h _ rfl fun w Z=>Z.hi H H (fP _))
def eB.spot{b:bZ}(hk:eB (.slice q len cap) b w0)(hn:0<cap):∀a,q=some a->a.spot=none:=fun a ha=>by
 obtain⟨-,-,⟨Y,-⟩|⟨bb,o,Y⟩⟩:=hk.inv
 ·omega
 rw[Y]at ha;cases ha;rfl
def aeT{hi mx:Int}{km:IntKind}{l m':aM}(ho:O[i]?=some ⟨some d, .slice s x (some l) (some h') (some m'),t,p,af,g⟩)(hs:P.underlying s=some (.slice c))(hz:(P.info? c).map (·.size)=some 1)(E:ev e x=some (.slice (some ⟨bb,o,none⟩) len cap))(hl:ev e l=some (.int kl lo))(hh:ev e h'=some (.int kh hi))(hm:ev e m'=some (.int km mx))(hb:0<=lo/\lo<=hi/\hi<=mx/\mx<=cap)(h:XL P n O dr (i::done) r K ((d,if mx=lo then .slice (some ⟨bb,o,none⟩) 0 0 else .slice (some ⟨bb,o+lo.toNat,none⟩) (hi.toNat-lo.toNat) (mx.toNat-lo.toNat))::e) w)(hd:Nat.blt d n=true:=by exact rfl)(hg:Gd O e g:=by exact gD):XL P n O dr done (i::r) K e w:=
 fC ho (by simpa [dA]using hd) hg (ρ:=rh e) (by
  intro z hZ;simp[Op.operands]at hZ;rcases hZ with rfl|rfl|rfl|rfl
  ·exact OY E
  ·exact OY hl
  ·exact OY hh
  ·exact OY hm) rfl
  (v:=if mx=lo then .slice (some ⟨bb,o,none⟩) 0 0 else .slice (some ⟨bb,o+lo.toNat,none⟩) (hi.toNat-lo.toNat) (mx.toNat-lo.toNat)) (fun w'=>by
   cases lR:P.info? c with
   |none=>simp[lR]at hz
   |some inf=>
    have lH:inf.size=1:=by simpa [lR]using hz
    have Y:=mR (P:=P) (k:=km) (v:=mx) (y:=cap) (c:= .slice3Acap) ⟨H,hb.2.2.2⟩ w';have J:=mR (P:=P) (k:=kh) (v:=hi) (y:=mx.toNat) (c:= .slice3B) ⟨H,H⟩ w';have h3:=mR (P:=P) (k:=kl) (v:=lo) (y:=hi.toNat) (c:= .slice3C) ⟨H,H⟩ w'
    by_cases oS:mx=lo
    ·have hn2:mx.toNat=lo.toNat:=by rw[oS]
     have hn3:hi.toNat=lo.toNat:=H;rw[aB oS];rw[hn2]at J;rw[hn3]at h3
     simp[execOp,bM E,bM hh,bM hm,bM hl,Instr.sliceAt,Instr.slice,Instr.sliceBounds,aE hs,Y,J,h3,sizeOf,typeInfo,lR,lH,hn2,hn3,eK]
    ·have hn2:¬mx.toNat=lo.toNat:=H;rw[aj oS];simp[execOp,bM E,bM hh,bM hm,bM hl,Instr.sliceAt,Instr.slice,Instr.sliceBounds,aE hs,Y,J,h3,sizeOf,typeInfo,lR,lH,hn2,eK]) h
def eB.mid(Z:eB (.slice (some ⟨bb,o,none⟩) len cap) b w0){hi:Int}(Y:0<=lo/\lo<=hi/\hi<=b.length):eB (if hi=lo then .slice (some ⟨bb,o,none⟩) 0 0 else .slice (some ⟨bb,o+lo.toNat,none⟩) (hi.toNat-lo.toNat) (hi.toNat-lo.toNat)) ((b.drop lo.toNat).take (hi-lo).toNat) w0:=by
 by_cases h:hi=lo
 ·rw[aB h];exact .inl ⟨⟨_,rfl⟩,by rw[show(hi-lo).toNat=0 by omega];simp⟩
 rw[aj h];have hl:((b.drop lo.toNat).take (hi-lo).toNat).length=hi.toNat-lo.toNat:=by rw[gJ,jm];omega
 obtain⟨J,-,-⟩:=Z.inv;subst J;refine .inr ⟨bb,o+lo.toNat,hi.toNat-lo.toNat,by rw[hl],by rw[hl];exact fP _,?_⟩;rw[AD];exact(Z.rdd lo.toNat).take _
def Hl.row{T z m:Nat}{v:C}{xs:List C}{G:Gh}{L:List aF}{w:ae}(Z:aw G (row T z v m xs::L) w):Hl v:=by
 obtain⟨hl,h|⟨b,cap,cur,rfl,Y,J,h3,h4⟩⟩:=qR Z
 ·obtain⟨rfl,_⟩:=h;intro q' m' c' h9 a ha;cases h9;cases ha
 intro q' m' c' h9 a ha;cases h9;cases ha;rfl
def Fk{b:bZ}(ho:O[i]?=some ⟨some d, .call ⟨.builtin .append,#[x,y],#[s,s]⟩,t,p,af,g⟩)(hs:P.underlying s=some (.slice c))(Dx:(P.info? c).map (·.size)=some 1)(X4:(P.info? c).map (·.bytes)=some 1)(Ed:(cd P c).map (·.size)=some 1)(E:ev e x=some v)(hy:ev e y=some u)(Z:aw G L w)(hp:dE (row c 1 v m xs) L R)(hr:eB u b w)(X8:m+b.length<=140737488355328)(hpd:gZ P O dr done i=[])(h:∀w' v',aw G (row c 1 v' (m+b.length) (xs++cI b)::R) w'->XL P n O dr (i::done) r K ((d,v')::e) w')(hd:Nat.blt d n=true:=by exact rfl)(hg:Gd O e g:=by exact gD):XL P n O dr done (i::r) K e w:=by
 have hl:((cI b).map fun v=>[v]).length=b.length:=by rw[cg,dH]
 have hf:((cI b).map fun v=>[v]).flatten=cI b:=by
  induction cI b with
  |nil=>rfl
  |cons a l ih=>rw[ey,Mm,ih];rfl
 refine Fj (m:=m) (rs:=(cI b).map fun v=>[v]) (hd:=hd) (hg:=hg) ho hs Dx X4 Ed E hy Z hp ?_ (by rw[hf];exact k6 b) (by rw[hl];simp only[maxLen];omega) (by rw[hl];omega) hpd (fun w' v' h'=>h w' v' (by rw[hl,hf]at h';exact h'));rcases hr with⟨⟨a,rfl⟩,rfl⟩|⟨bb,o,cap,rfl,Y,J⟩
 ·exact .inl ⟨a,rfl,fun _ _=>rfl,rfl⟩
 refine .inr ⟨bb,o,cap,by rw[hl],by rw[hl];exact Y,fun r hr=>?_,by rw[hf];exact J⟩;obtain⟨v,-,rfl⟩:=dY.1 hr;rfl
end
section
variable{done r:List Nat}
variable{u:aC}{x:aM}{z:C}
def VF(P:au)(t:aC):Bool:=match P.underlying t with|some (.interface _)=>true|_=>false
def RB(h:VF P t=true):∃ms,P.underlying t=some (.interface ms):=by
 unfold VF at h;split at h
 ·rename_i ms Y;exact⟨ms,Y⟩
 cases h
def agq(ho:O[i]?=some ⟨some d, .typeAssert x s u true,t,p,af,g⟩)(hu:P.underlying u=some D)(hD:∀ms,D≠ .interface ms)(E:ev e x=some (.iface u v))
  (h:XL P n O dr (i::done) r K ((d, .tuple #[v, .bool true])::e) w)(hd:Nat.blt d n=true:=by exact rfl)(hg:Gd O e g:=by exact gD):XL P n O dr done (i::r) K e w:=
 fC ho (by simpa [dA]using hd) hg (ρ:=rh e) (by intro z hZ;simp[Op.operands]at hZ;exact HA E hZ) rfl (v:= .tuple #[v, .bool true]) (fun w'=>by
  simp only[execOp,bM E,Instr.typeAssert,al,aE hu,ah];cases D<;>first|simp|exact aS rfl (hD _)) h
def Qz(ho:O[i]?=some ⟨some d, .typeAssert x s u true,t,p,af,g⟩)(hu:P.underlying u=some D)(hz:(P.info? u).bind (·.zero)=some z)(E:ev e x=some .nilIface)
  (h:XL P n O dr (i::done) r K ((d, .tuple #[z, .bool false])::e) w)(hd:Nat.blt d n=true:=by exact rfl)(hg:Gd O e g:=by exact gD):XL P n O dr done (i::r) K e w:=
 fC ho (by simpa [dA]using hd) hg (ρ:=rh e) (by intro z hZ;simp[Op.operands]at hZ;exact HA E hZ) rfl (v:= .tuple #[z, .bool false]) (fun w'=>by
  have hzv:(zeroValue u).run P w'= .ok z w':=by
   cases hi:P.info? u with
   |none=>simp[hi]at hz
   |some inf=>
    have sy:inf.zero=some z:=by simpa [hi]using hz
    simp[zeroValue,typeInfo,hi,sy]
  simp only[execOp,bM E,Instr.typeAssert,al,aE hu,ah];cases D<;>simp[hzv]) h
def Rb(hs:P.underlying s=some (.interface ms)):eQ P (.binOp op s x (.const .nilIface) u)=0:=by
 unfold eQ;cases op<;>simp[hs,Region.isConst]
def NN(hs:P.underlying s=some (.interface ms))(w:ae):(Op.equal s .nilIface .nilIface).run P w= .ok true w/\∀T v,(Op.equal s (.iface T v) .nilIface).run P w= .ok false w:=by
 refine⟨?_,fun T v=>?_⟩<;>(unfold Op.equal;show Sem.run P (Op.equalIn (9999+1) s _ _) w=_;rw[Op.equalIn,al,aE hs,ah];rfl)
def DS(hs:P.underlying s=some (.interface ms))(w:ae):(eqGuard op s x (.const .nilIface) v .nilIface).run P w= .ok () w:=by
 unfold eqGuard;cases op<;>first|rfl|(cases v<;>first|rfl|simp)
def yX(ho:O[i]?=some ⟨some d, .binOp .neq s x (.const .nilIface) u,t,p,af,g⟩)(hs:P.underlying s=some (.interface ms))(E:ev e x=some .nilIface)(h:XL P n O dr (i::done) r K ((d, .bool false)::e) w)(hd:Nat.blt d n=true:=by exact rfl)(hg:Gd O e g:=by exact gD):XL P n O dr done (i::r) K e w:=
 jS (hd:=hd) (hg:=hg) ho (Rb hs) E rfl (fun w'=>by simp only[al,DS hs,ah,binOp,(NN hs w').1];rfl) h
def aeP(ho:O[i]?=some ⟨some d, .binOp .neq s x (.const .nilIface) u,t,p,af,g⟩)(hs:P.underlying s=some (.interface ms))(E:ev e x=some (.iface T v))(h:XL P n O dr (i::done) r K ((d, .bool true)::e) w)(hd:Nat.blt d n=true:=by exact rfl)(hg:Gd O e g:=by exact gD):XL P n O dr done (i::r) K e w:=
 jS (hd:=hd) (hg:=hg) ho (Rb hs) E rfl (fun w'=>by simp only[al,DS hs,ah,binOp,(NN hs w').2];rfl) h
end
def kV(q:Nat)(b:bZ)(er:Int):aF:=ex fun x:C×C×bZ=>mr (aL [row 5 1 x.2.1 x.2.2.length (cI x.2.2)] (eB x.1 b)/\Hl x.1) (bt [N q [x.1,I er] 399,row 5 1 x.2.1 x.2.2.length (cI x.2.2)])
section
variable{b:bZ}
def o9(Z:aw G (kV q b er::R) w):∃v v0 b0,(∀M,aL (row 5 1 v0 b0.length (cI b0)::M) (eB v b))/\Hl v/\aw G (N q [v,I er] 399::row 5 1 v0 b0.length (cI b0)::R) w:=by
 obtain⟨x,h⟩:=Z.nt;obtain⟨⟨Y,J⟩,h⟩:=h.lf;exact⟨x.1,x.2.1,x.2.2,fun M=>Y.head M,J,h.eY⟩
def o8{b0:bZ}(Y:∀M,aL (row 5 1 v0 b0.length (cI b0)::M) (eB v b))(J:Hl v)(Z:aw G (N q [v,I er] 399::row 5 1 v0 b0.length (cI b0)::R) w):aw G (kV q b er::R) w:=
 aw.oU (v,v0,b0) (aw.qE ⟨Y [],J⟩ (aw.bJ (M:=[N q [v,I er] 399,row 5 1 v0 b0.length (cI b0)]) Z))
def xy{x:Prop}[Decidable x](E:x)(Z:aw G L w):aA prog 300 #[.bool (decide x),I er] w (bU fun r w'=>r= .tuple #[]/\aw G L w'):=by
 refine wF [_,_] func300 ntmps300 ?_;refine z3 ?_;refine cU rfl rfl ?_;refine aK ?_;refine wI 0 (fun Y=>?_) fun Y=>?_
 ·exact aS E Y
 refine jo ?_;exact u6 rfl rfl ⟨rfl,Z⟩
def uB(Z:aw G L w)(kl:aL L (eB v b))(hl:b.length<=1000000000000):aA prog 228 #[v] w (bU fun r w'=>∃q,r=pQ q/\aw G (kV q b 0::L) w'):=by
 have hk0:=kl.at Z;have Z:=bB Z 5 1;refine wF [_] func228 ntmps228 ?_;refine z7 ?_;refine Fk (m:=0) (xs:=[]) (b:=b) rfl aR bo fF eU rfl rfl Z pK hk0 H rfl fun w v4 Z=>?_;rw[mT,lE]at Z
 obtain⟨a4,c4,rfl⟩:=((eB.row.head L).at Z).form;refine wV 0 (v:= .agg #[.slice a4 b.length c4,I 0]) ?_;refine wB 0 Z fun w b6 Z=>?_;refine dk 3 ?_;exact⟨b6,rfl,o8 (b0:=b) (fun M=>eB.row.head M) (Hl.row (Z.b [row 5 1 _ _ _])) (Z.b [N b6 _ _,row 5 1 _ _ _])⟩
def iJ(Z:aw G (kV q b er::L) w)(hn:n<=b.length)(hl:b.length<=1000000000000):aA prog 286 #[pQ q,I n] w (bU fun r w'=>aw G (kV q (b.drop n) er::row 5 1 r n (cI (b.take n))::L) w'):=by
 obtain⟨v,v0,b0,kv,hp,Z⟩:=o9 Z;obtain⟨a,cap,rfl⟩:=(((kv L).of sF).at Z).form;refine wF [_,_] func286 ntmps286 ?_;refine z8 ?_;refine wC rfl qL rfl (xy H Z) fun w Z=>?_
 refine wD 7 (v:= .slice a b.length cap) ao Z ?_;refine z2 ?_;refine wC rfl qL rfl (xy H Z) fun w Z=>?_
 refine wD 6 (v:= .slice a b.length cap) ao Z ?_;refine z1 ?_;refine wM (b:=b) rfl aR bo rfl rfl (((kv L).of sF).at Z) ⟨H,H⟩ (hp _ _ _ rfl) fun v22 e22 h22=>?_;rw[cZ]at h22;have Z:=bB Z 5 1;refine Fk (m:=0) (xs:=[]) (b:=b.take n) rfl aR bo fF eU rfl rfl Z pK (h22 _ (((kv L).of sF).at Z)) (by rw[gJ];omega) rfl (fun w v23 Z=>?_);rw[mT,lE,gJ,Jq hn]at Z
 refine wD 8 (v:= .slice a b.length cap) ao Z ?_;refine z1 ?_;refine OM (b:=b) rfl aR bo rfl rfl ((kv _).at (Z.b [row 5 1 v0 _ _])) ⟨H,H⟩ fun v30 h30 p30=>?_;rw[cZ]at h30;have aiT:v30.oneCell'=true:=by
  rcases h30 w ((kv _).at (Z.b [row 5 1 v0 _ _]))with⟨⟨x,rfl⟩,-⟩|⟨x,y,z,rfl,-⟩<;>rfl
 refine z2 ?_;refine rU (l':=[v30,I er]) rfl tV rfl rfl ao aiT Z pK rfl rfl rfl fun w Z=>?_;refine dk 7 ?_;exact o8 (fun M=>(kv M).mono h30) (p30 hp) (Z.b [N q _ _,row 5 1 v0 _ _,row 5 1 v23 _ _])
def NC:∀j,j<=1->(0<255/256^j↔j<1):=by decide
def BH(Z:aw G L w):aA prog 291 #[] w (bU fun r w'=>r=I 1/\aw G L w'):=by
 refine wF [] func291 ntmps291 ?_;refine SP ?_;refine cJ (v:=0) rfl kR dD ig rfl dM ?_;refine Nz (v:=255) rfl rfl dM ?_;refine cJ (v:=255) rfl kR ig dK rfl dM ?_;refine z3 ?_;refine bx (fun m e w=>∃j:Nat,j<=1/\m=1-j/\e=[(1,I j),(2, .int .u64 ((255/256^j:Nat):Int))]/\aw G L w)
  (m:=1) sB
  ⟨0,de _,rfl,rfl,Z⟩ ?_
 rintro m e w ⟨j,hj,rfl,rfl,Z⟩;refine wI 6 (fun Y=>?_) fun Y=>?_
 ·have uy:=(NC j hj).1 H;refine B' ?_;refine Nx (v:=((255/256^(j+1):Nat):Int)) rfl rfl rfl dM (by rw[ab1,TL,<-Hs]) ?_;refine z2 ?_;exact⟨1-(j+1),H,[(1,I (j+1:Nat)),(2,_)],sB,j+1,H,rfl,rfl,Z⟩
 have uy:j=1:=by
  have J:=(NC j hj).2;refine vC fun hn=>?_
  have:=J H;omega
 subst uy;refine dk 7 ?_;exact⟨rfl,Z⟩
def BL{p:Nat}(Z:aw G (kV q b 0::N p [pQ q] 338::L) w)(hn:1<=b.length)(hl:b.length<=1000000000000):
  aA prog 290 #[pQ p] w (bU fun r w'=>r= .int .u8 ((jP (b.take 1):Nat):Int)/\aw G (kV q (b.drop 1) 0::N p [pQ q] 338::L) w'):=by
 have hol:(b.take 1).length=1:=by rw[gJ];omega
 refine wF [_] func290 ntmps290 ?_;refine z5 ?_;refine wQ [0,1,2,3] Z fun Z=>?_
 refine wD 0 bu Z ?_;refine ed rfl Ae rfl (BH Z) (fun w v6 hv q' hq=>?_) fun w v6 hv=>?_
 ·obtain⟨rfl,Z⟩:=hv;have hq:=bK (l:=[0]) kR hq;simp only[cE,fQ,or_false]at hq;subst hq;exact bG rfl rfl rfl (aD.cw bu Z pK rfl)
 obtain⟨rfl,Z⟩:=hv;refine aO rfl ik rfl (iJ (n:=1) Z hn hl) kR fun w v7 hv=>?_;have Z:=hv;obtain⟨o,ho⟩:∃o,o=b.take 1:=⟨_,rfl⟩;rw[<-ho]at Z hol ⊢;have hk7:∀M,aL (row 5 1 v7 1 (cI o)::M) (eB v7 o):=fun M=>by have h:=(eB.row (T:=5) (v:=v7) (l:=o)).head M;rw[hol]at h;exact h
 obtain⟨a7,c7,e7⟩:=(((hk7 _).of (L':=row 5 1 v7 1 (cI o)::kV q (b.drop 1) 0::N p [pQ q] 338::L) sF).at (Z.b [row 5 1 v7 _ _])).form;rw[hol]at e7;subst e7;refine z14 ?_;refine bx (fun m e w=>∃k:Nat,k<=1/\m=1-k/\e=[(2, .slice a7 1 c7),(3, .int .u64 ((jP (o.take k):Nat):Int)),(8, .slice a7 1 c7),(9,I (1:Nat)),(10,I k)]/\aw G (row 5 1 (.slice a7 1 c7) 1 (cI o)::kV q (b.drop 1) 0::N p [pQ q] 338::L) w)
  (m:=1) sB
  ⟨0,de _,rfl,rfl,Z.b [row 5 1 _ _ _]⟩ ?_
 rintro m e w ⟨k,hk,rfl,rfl,Z⟩;refine wI 5 (fun Y=>?_) fun Y=>?_
 ·have gn:k<1:=H;have Qm:k<8:=H;have jr:=(hk7 _).at Z;have CV:=jr;rw[show(1:Nat)=o.length from hol.symm]at CV
  obtain⟨bb,oo,rfl⟩:=CV.nn H;obtain⟨x,E⟩:∃x,x=o.getD k 0:=⟨_,rfl⟩;refine wY 12 aR bo ?_;refine bg rfl rfl (aD.one (v:=bv x) dN (by have h:=CV.at (i:=(k:Int)) ⟨H,H⟩;rw[E];exact h)) ?_;refine cJ (v:=(x.toNat:Int)) rfl kR ig dK rfl (GB x) ?_;refine z1 ?_;refine lx rfl rfl rfl H ?_;refine QA (v:=IntKind.u64.wrap ((x.toNat:Int)*2^min (8*(k:Int)).toNat IntKind.u64.bits)) rfl rfl rfl H rfl ?_;refine QB (v:=((jP (o.take (k+1)):Nat):Int)) rfl rfl rfl (by
   have fR:=py (o.take k);have Mf:(o.take k).length=k:=by rw[gJ];omega
   rw[Mf]at fR;rw[Z9 Qm fR x.toNat_lt,eu o k 0 H,qZ,Mf,E]) ?_
  refine z6 ?_;exact⟨1-(k+1),H,[(2,_),(3,_),(8,_),(9,_),(10,I (k+1:Nat))],sB,k+1,H,rfl,rfl,Z⟩
 have oY:k=1:=H;subst oY;have hot:o.take 1=o:=kH H;rw[hot];refine z4 ?_;refine cJ (v:=((jP o:Nat):Int)) rfl kR dK ig rfl (w8 (by have:=py o;rw[hol]at this;exact this)) ?_;refine dk 3 ?_;exact⟨rfl,Z.tail⟩
def I5:∀j,j<=2->(0<65535/256^j↔j<2):=by decide
def zI(Z:aw G L w):aA prog 297 #[] w (bU fun r w'=>r=I 2/\aw G L w'):=by
 refine wF [] func297 ntmps297 ?_;refine SP ?_;refine cJ (v:=0) rfl kR dD E5 rfl dM ?_;refine Nz (v:=65535) rfl rfl dM ?_;refine cJ (v:=65535) rfl kR E5 dK rfl dM ?_;refine z3 ?_;refine bx (fun m e w=>∃j:Nat,j<=2/\m=2-j/\e=[(1,I j),(2, .int .u64 ((65535/256^j:Nat):Int))]/\aw G L w)
  (m:=2) sB
  ⟨0,de _,rfl,rfl,Z⟩ ?_
 rintro m e w ⟨j,hj,rfl,rfl,Z⟩;refine wI 6 (fun Y=>?_) fun Y=>?_
 ·have uy:=(I5 j hj).1 H;refine B' ?_;refine Nx (v:=((65535/256^(j+1):Nat):Int)) rfl rfl rfl dM (by rw[ab1,TL,<-Hs]) ?_;refine z2 ?_;exact⟨2-(j+1),H,[(1,I (j+1:Nat)),(2,_)],sB,j+1,H,rfl,rfl,Z⟩
 have uy:j=2:=by
  have J:=(I5 j hj).2;refine vC fun hn=>?_
  have:=J H;omega
 subst uy;refine dk 7 ?_;exact⟨rfl,Z⟩
def zM{p:Nat}(Z:aw G (kV q b 0::N p [pQ q] 338::L) w)(hn:2<=b.length)(hl:b.length<=1000000000000):
  aA prog 296 #[pQ p] w (bU fun r w'=>r= .int .u16 ((jP (b.take 2):Nat):Int)/\aw G (kV q (b.drop 2) 0::N p [pQ q] 338::L) w'):=by
 have hol:(b.take 2).length=2:=by rw[gJ];omega
 refine wF [_] func296 ntmps296 ?_;refine z5 ?_;refine wQ [0,1,2,3] Z fun Z=>?_
 refine wD 0 bu Z ?_;refine ed rfl yD rfl (zI Z) (fun w v6 hv q' hq=>?_) fun w v6 hv=>?_
 ·obtain⟨rfl,Z⟩:=hv;have hq:=bK (l:=[0]) kR hq;simp only[cE,fQ,or_false]at hq;subst hq;exact bG rfl rfl rfl (aD.cw bu Z pK rfl)
 obtain⟨rfl,Z⟩:=hv;refine aO rfl ik rfl (iJ (n:=2) Z hn hl) kR fun w v7 hv=>?_;have Z:=hv;obtain⟨o,ho⟩:∃o,o=b.take 2:=⟨_,rfl⟩;rw[<-ho]at Z hol ⊢;have hk7:∀M,aL (row 5 1 v7 2 (cI o)::M) (eB v7 o):=fun M=>by have h:=(eB.row (T:=5) (v:=v7) (l:=o)).head M;rw[hol]at h;exact h
 obtain⟨a7,c7,e7⟩:=(((hk7 _).of (L':=row 5 1 v7 2 (cI o)::kV q (b.drop 2) 0::N p [pQ q] 338::L) sF).at (Z.b [row 5 1 v7 _ _])).form;rw[hol]at e7;subst e7;refine z14 ?_;refine bx (fun m e w=>∃k:Nat,k<=2/\m=2-k/\e=[(2, .slice a7 2 c7),(3, .int .u64 ((jP (o.take k):Nat):Int)),(8, .slice a7 2 c7),(9,I (2:Nat)),(10,I k)]/\aw G (row 5 1 (.slice a7 2 c7) 2 (cI o)::kV q (b.drop 2) 0::N p [pQ q] 338::L) w)
  (m:=2) sB
  ⟨0,de _,rfl,rfl,Z.b [row 5 1 _ _ _]⟩ ?_
 rintro m e w ⟨k,hk,rfl,rfl,Z⟩;refine wI 5 (fun Y=>?_) fun Y=>?_
 ·have gn:k<2:=H;have Qm:k<8:=H;have jr:=(hk7 _).at Z;have CV:=jr;rw[show(2:Nat)=o.length from hol.symm]at CV
  obtain⟨bb,oo,rfl⟩:=CV.nn H;obtain⟨x,E⟩:∃x,x=o.getD k 0:=⟨_,rfl⟩;refine wY 12 aR bo ?_;refine bg rfl rfl (aD.one (v:=bv x) dN (by have h:=CV.at (i:=(k:Int)) ⟨H,H⟩;rw[E];exact h)) ?_;refine cJ (v:=(x.toNat:Int)) rfl kR ig dK rfl (GB x) ?_;refine z1 ?_;refine lx rfl rfl rfl H ?_;refine QA (v:=IntKind.u64.wrap ((x.toNat:Int)*2^min (8*(k:Int)).toNat IntKind.u64.bits)) rfl rfl rfl H rfl ?_;refine QB (v:=((jP (o.take (k+1)):Nat):Int)) rfl rfl rfl (by
   have fR:=py (o.take k);have Mf:(o.take k).length=k:=by rw[gJ];omega
   rw[Mf]at fR;rw[Z9 Qm fR x.toNat_lt,eu o k 0 H,qZ,Mf,E]) ?_
  refine z6 ?_;exact⟨2-(k+1),H,[(2,_),(3,_),(8,_),(9,_),(10,I (k+1:Nat))],sB,k+1,H,rfl,rfl,Z⟩
 have oY:k=2:=H;subst oY;have hot:o.take 2=o:=kH H;rw[hot];refine z4 ?_;refine cJ (v:=((jP o:Nat):Int)) rfl kR dK E5 rfl (w16 (by have:=py o;rw[hol]at this;exact this)) ?_;refine dk 3 ?_;exact⟨rfl,Z.tail⟩
def I4:∀j,j<=4->(0<4294967295/256^j↔j<4):=by decide
def zH(Z:aw G L w):aA prog 287 #[] w (bU fun r w'=>r=I 4/\aw G L w'):=by
 refine wF [] func287 ntmps287 ?_;refine SP ?_;refine cJ (v:=0) rfl kR dD mN rfl dM ?_;refine Nz (v:=4294967295) rfl rfl dM ?_;refine cJ (v:=4294967295) rfl kR mN dK rfl dM ?_;refine z3 ?_;refine bx (fun m e w=>∃j:Nat,j<=4/\m=4-j/\e=[(1,I j),(2, .int .u64 ((4294967295/256^j:Nat):Int))]/\aw G L w)
  (m:=4) sB
  ⟨0,de _,rfl,rfl,Z⟩ ?_
 rintro m e w ⟨j,hj,rfl,rfl,Z⟩;refine wI 6 (fun Y=>?_) fun Y=>?_
 ·have uy:=(I4 j hj).1 H;refine B' ?_;refine Nx (v:=((4294967295/256^(j+1):Nat):Int)) rfl rfl rfl dM (by rw[ab1,TL,<-Hs]) ?_;refine z2 ?_;exact⟨4-(j+1),H,[(1,I (j+1:Nat)),(2,_)],sB,j+1,H,rfl,rfl,Z⟩
 have uy:j=4:=by
  have J:=(I4 j hj).2;refine vC fun hn=>?_
  have:=J H;omega
 subst uy;refine dk 7 ?_;exact⟨rfl,Z⟩
def zL{p:Nat}(Z:aw G (kV q b 0::N p [pQ q] 338::L) w)(hn:4<=b.length)(hl:b.length<=1000000000000):
  aA prog 285 #[pQ p] w (bU fun r w'=>r= .int .u32 ((jP (b.take 4):Nat):Int)/\aw G (kV q (b.drop 4) 0::N p [pQ q] 338::L) w'):=by
 have hol:(b.take 4).length=4:=by rw[gJ];omega
 refine wF [_] func285 ntmps285 ?_;refine z5 ?_;refine wQ [0,1,2,3] Z fun Z=>?_
 refine wD 0 bu Z ?_;refine ed rfl yC rfl (zH Z) (fun w v6 hv q' hq=>?_) fun w v6 hv=>?_
 ·obtain⟨rfl,Z⟩:=hv;have hq:=bK (l:=[0]) kR hq;simp only[cE,fQ,or_false]at hq;subst hq;exact bG rfl rfl rfl (aD.cw bu Z pK rfl)
 obtain⟨rfl,Z⟩:=hv;refine aO rfl ik rfl (iJ (n:=4) Z hn hl) kR fun w v7 hv=>?_;have Z:=hv;obtain⟨o,ho⟩:∃o,o=b.take 4:=⟨_,rfl⟩;rw[<-ho]at Z hol ⊢;have hk7:∀M,aL (row 5 1 v7 4 (cI o)::M) (eB v7 o):=fun M=>by have h:=(eB.row (T:=5) (v:=v7) (l:=o)).head M;rw[hol]at h;exact h
 obtain⟨a7,c7,e7⟩:=(((hk7 _).of (L':=row 5 1 v7 4 (cI o)::kV q (b.drop 4) 0::N p [pQ q] 338::L) sF).at (Z.b [row 5 1 v7 _ _])).form;rw[hol]at e7;subst e7;refine z14 ?_;refine bx (fun m e w=>∃k:Nat,k<=4/\m=4-k/\e=[(2, .slice a7 4 c7),(3, .int .u64 ((jP (o.take k):Nat):Int)),(8, .slice a7 4 c7),(9,I (4:Nat)),(10,I k)]/\aw G (row 5 1 (.slice a7 4 c7) 4 (cI o)::kV q (b.drop 4) 0::N p [pQ q] 338::L) w)
  (m:=4) sB
  ⟨0,de _,rfl,rfl,Z.b [row 5 1 _ _ _]⟩ ?_
 rintro m e w ⟨k,hk,rfl,rfl,Z⟩;refine wI 5 (fun Y=>?_) fun Y=>?_
 ·have gn:k<4:=H;have Qm:k<8:=H;have jr:=(hk7 _).at Z;have CV:=jr;rw[show(4:Nat)=o.length from hol.symm]at CV
  obtain⟨bb,oo,rfl⟩:=CV.nn H;obtain⟨x,E⟩:∃x,x=o.getD k 0:=⟨_,rfl⟩;refine wY 12 aR bo ?_;refine bg rfl rfl (aD.one (v:=bv x) dN (by have h:=CV.at (i:=(k:Int)) ⟨H,H⟩;rw[E];exact h)) ?_;refine cJ (v:=(x.toNat:Int)) rfl kR ig dK rfl (GB x) ?_;refine z1 ?_;refine lx rfl rfl rfl H ?_;refine QA (v:=IntKind.u64.wrap ((x.toNat:Int)*2^min (8*(k:Int)).toNat IntKind.u64.bits)) rfl rfl rfl H rfl ?_;refine QB (v:=((jP (o.take (k+1)):Nat):Int)) rfl rfl rfl (by
   have fR:=py (o.take k);have Mf:(o.take k).length=k:=by rw[gJ];omega
   rw[Mf]at fR;rw[Z9 Qm fR x.toNat_lt,eu o k 0 H,qZ,Mf,E]) ?_
  refine z6 ?_;exact⟨4-(k+1),H,[(2,_),(3,_),(8,_),(9,_),(10,I (k+1:Nat))],sB,k+1,H,rfl,rfl,Z⟩
 have oY:k=4:=H;subst oY;have hot:o.take 4=o:=kH H;rw[hot];refine z4 ?_;refine cJ (v:=((jP o:Nat):Int)) rfl kR dK mN rfl (w32 (by have:=py o;rw[hol]at this;exact this)) ?_;refine dk 3 ?_;exact⟨rfl,Z.tail⟩
def I3:∀j,j<=8->(0<18446744073709551615/256^j↔j<8):=by decide
def zG(Z:aw G L w):aA prog 294 #[] w (bU fun r w'=>r=I 8/\aw G L w'):=by
 refine wF [] func294 ntmps294 ?_;refine SP ?_;refine cJ (v:=0) rfl kR dD dK rfl dM ?_;refine Nz (v:=18446744073709551615) rfl rfl dM ?_;refine z3 ?_;refine bx (fun m e w=>∃j:Nat,j<=8/\m=8-j/\e=[(1,I j),(2, .int .u64 ((18446744073709551615/256^j:Nat):Int))]/\aw G L w)
  (m:=8) sB
  ⟨0,de _,rfl,rfl,Z⟩ ?_
 rintro m e w ⟨j,hj,rfl,rfl,Z⟩;refine wI 6 (fun Y=>?_) fun Y=>?_
 ·have uy:=(I3 j hj).1 H;refine B' ?_;refine Nx (v:=((18446744073709551615/256^(j+1):Nat):Int)) rfl rfl rfl dM (by rw[ab1,TL,<-Hs]) ?_;refine z2 ?_;exact⟨8-(j+1),H,[(1,I (j+1:Nat)),(2,_)],sB,j+1,H,rfl,rfl,Z⟩
 have uy:j=8:=by
  have J:=(I3 j hj).2;refine vC fun hn=>?_
  have:=J H;omega
 subst uy;refine dk 7 ?_;exact⟨rfl,Z⟩
def zK{p:Nat}(Z:aw G (kV q b 0::N p [pQ q] 338::L) w)(hn:8<=b.length)(hl:b.length<=1000000000000):
  aA prog 293 #[pQ p] w (bU fun r w'=>r= .int .u64 ((jP (b.take 8):Nat):Int)/\aw G (kV q (b.drop 8) 0::N p [pQ q] 338::L) w'):=by
 have hol:(b.take 8).length=8:=by rw[gJ];omega
 refine wF [_] func293 ntmps293 ?_;refine z5 ?_;refine wQ [0,1,2,3] Z fun Z=>?_
 refine wD 0 bu Z ?_;refine ed rfl yB rfl (zG Z) (fun w v6 hv q' hq=>?_) fun w v6 hv=>?_
 ·obtain⟨rfl,Z⟩:=hv;have hq:=bK (l:=[0]) kR hq;simp only[cE,fQ,or_false]at hq;subst hq;exact bG rfl rfl rfl (aD.cw bu Z pK rfl)
 obtain⟨rfl,Z⟩:=hv;refine aO rfl ik rfl (iJ (n:=8) Z hn hl) kR fun w v7 hv=>?_;have Z:=hv;obtain⟨o,ho⟩:∃o,o=b.take 8:=⟨_,rfl⟩;rw[<-ho]at Z hol ⊢;have hk7:∀M,aL (row 5 1 v7 8 (cI o)::M) (eB v7 o):=fun M=>by have h:=(eB.row (T:=5) (v:=v7) (l:=o)).head M;rw[hol]at h;exact h
 obtain⟨a7,c7,e7⟩:=(((hk7 _).of (L':=row 5 1 v7 8 (cI o)::kV q (b.drop 8) 0::N p [pQ q] 338::L) sF).at (Z.b [row 5 1 v7 _ _])).form;rw[hol]at e7;subst e7;refine z14 ?_;refine bx (fun m e w=>∃k:Nat,k<=8/\m=8-k/\e=[(2, .slice a7 8 c7),(3, .int .u64 ((jP (o.take k):Nat):Int)),(8, .slice a7 8 c7),(9,I (8:Nat)),(10,I k)]/\aw G (row 5 1 (.slice a7 8 c7) 8 (cI o)::kV q (b.drop 8) 0::N p [pQ q] 338::L) w)
  (m:=8) sB
  ⟨0,de _,rfl,rfl,Z.b [row 5 1 _ _ _]⟩ ?_
 rintro m e w ⟨k,hk,rfl,rfl,Z⟩;refine wI 5 (fun Y=>?_) fun Y=>?_
 ·have gn:k<8:=H;have Qm:k<8:=H;have jr:=(hk7 _).at Z;have CV:=jr;rw[show(8:Nat)=o.length from hol.symm]at CV
  obtain⟨bb,oo,rfl⟩:=CV.nn H;obtain⟨x,E⟩:∃x,x=o.getD k 0:=⟨_,rfl⟩;refine wY 12 aR bo ?_;refine bg rfl rfl (aD.one (v:=bv x) dN (by have h:=CV.at (i:=(k:Int)) ⟨H,H⟩;rw[E];exact h)) ?_;refine cJ (v:=(x.toNat:Int)) rfl kR ig dK rfl (GB x) ?_;refine z1 ?_;refine lx rfl rfl rfl H ?_;refine QA (v:=IntKind.u64.wrap ((x.toNat:Int)*2^min (8*(k:Int)).toNat IntKind.u64.bits)) rfl rfl rfl H rfl ?_;refine QB (v:=((jP (o.take (k+1)):Nat):Int)) rfl rfl rfl (by
   have fR:=py (o.take k);have Mf:(o.take k).length=k:=by rw[gJ];omega
   rw[Mf]at fR;rw[Z9 Qm fR x.toNat_lt,eu o k 0 H,qZ,Mf,E]) ?_
  refine z6 ?_;exact⟨8-(k+1),H,[(2,_),(3,_),(8,_),(9,_),(10,I (k+1:Nat))],sB,k+1,H,rfl,rfl,Z⟩
 have oY:k=8:=H;subst oY;have hot:o.take 8=o:=kH H;rw[hot];refine dk 7 ?_;exact⟨rfl,Z.tail⟩
end
def Z7(K:jF)(hx:List (Nat×jF))(F:jF)(Pn:List PanicEntry->jF)(n:Nat):Exit->Act->ae->Prop
 | .normal,a,w=>∃e,dZ n e a/\K e w
 | .ret,a,w=>∃e,dZ n e a/\F e w
 | .exit id,a,w=>∃K',tf hx id=some K'/\∃e,dZ n e a/\K' e w
 | .panic ch,a,w=>∃e,dZ n e a/\Pn ch e w
 |_,_,_=>False
def XP(P:au)(n:Nat)(c:Code)(K:jF)(hx:List (Nat×jF))(F:jF)(Pn:List PanicEntry->jF)(e:cX)(w:ae):Prop:=∀a,dZ n e a->c.wpIn (Fw none) 0 P (Z7 K hx F Pn n) a w
section
variable{c x y:Code}{K F:jF}{hx:List (Nat×jF)}{Pn:List PanicEntry->jF}
def qO(h:X P n none c K hx F e w):XP P n c K hx F Pn e w:=fun a ha=>wpIn_mono (h a ha) fun ex a w hq=>by
 cases ex<;>simp only[vF]at hq<;>exact hq
def ou(h:XP P n x (XP P n y K hx F Pn) hx F Pn e w):XP P n (.seq x y) K hx F Pn e w:=fun a ha=>
 wpIn_seq (wpIn_mono (h a ha) fun ex a w hq=>by
  cases ex<;>simp only[Z7]at hq<;>simp only[Exit.then]
  case normal=>obtain⟨e,Y,J⟩:=hq;exact J a Y
  case ret=>exact hq
  case exit id=>exact hq
  case panic ch=>exact hq)
def YY{Si:aM}{p:Prop}[Decidable p](hc:ev e Si=some (.bool (decide p)))(ht:p->XP P n x K hx F Pn e w)(hf:¬p->XP P n y K hx F Pn e w):XP P n (.cond Si x y) K hx F Pn e w:=fun a ha=>
 wpIn_cond_split (ha.ev hc) (fun h=>ht (of_decide_eq_true h) a ha) (fun h=>hf (of_decide_eq_false h) a ha)
def Qy{id:Nat}(h:XP P n x K ((id,K)::hx) F Pn e w):XP P n (.block id x) K hx F Pn e w:=fun a ha=>
 wpIn_block (wpIn_mono (h a ha) fun ex a w hq=>by
  cases ex<;>simp only[Z7]at hq<;>simp only[Exit.inBlock]
  case normal=>exact hq
  case ret=>exact hq
  case panic ch=>exact hq
  case exit RC=>
   obtain⟨K',hk,e,Y,J⟩:=hq;simp only[tf]at hk
   by_cases HF:id=RC
   ·subst HF;simp at hk;subst hk;rw[aB rfl];exact⟨e,Y,J⟩
   ·rw[qx HF]at hk;rw[aj (fun h=>HF h.symm)];exact⟨K',hk,e,Y,J⟩)
def abL(iQ:Nat->jF)(hs:si e₀ e)(aaJ:iQ m e₀ w)(round:∀m e w,iQ m e w->XP P n c (fun e' w'=>∃m',m'<m/\∃C2,si C2 e'/\iQ m' C2 w') hx F Pn e w):XP P n (.loop c) K hx F Pn e w:=fun a ha=>
 Fm (fun m a w=>∃e,dZ n e a/\iQ m e w) (m:=m) ⟨e₀,ha.sub hs,aaJ⟩ fun m a w ⟨e,ha,hI⟩=>
  wpIn_mono (round m e w hI a ha) fun ex a w hq=>by
   cases ex<;>simp only[Z7]at hq<;>simp only[Exit.then]
   case normal=>obtain⟨e',Y,m',hm,C2,hs,hI⟩:=hq;exact⟨m',hm,C2,Y.sub hs,hI⟩
   case ret=>exact hq
   case exit id=>exact hq
   case panic ch=>exact hq
def Fo{O:Array aP}{Q:Exit->Act->ae->Prop}{rest:List Nat}:∀(l:List Nat) (a:Act) (w:ae),SN P O (wpOpsIn (Fw none) 0 P O Q rest) l a w->wpOpsIn (Fw none) 0 P O Q (l++rest) a w
 |[],_,_,h=>h
 |i::r,a,w,h=>by
  rw[nI,wpOpsIn_cons];simp only[SN]at h;cases ho:O[i]?with
  |none=>rw[ho]at h;exact h.elim
  |some o=>
   rw[ho]at h;exact ug ho (fun a' w' h'=>Fo r a' w' h') h
def U8{id:Nat}{z:aM}{xs:Array aM}{ts:Array aC}(pre:List Nat)(i:Nat)(post:List Nat)(hl:List.range O.size=pre++i::post)(ho:O[i]?=some ⟨some d, .call ⟨.value z,xs,ts⟩,t,p,af,none⟩)(hd:Nat.blt d n=true)(h:XL P n O false [] pre (fun e' w'=>∃(f:bN) (c1 c2:Array C) (args:List C) (R:Ending->ae->Prop),ev e' z=some (.func (.func f) c1 c2)/\an P f/\V0 e' xs.toList=some args/\aA P f (c1.toList++args++c2.toList).toArray w' R∧
   (∀v Cb,R (.returned v) Cb->XL P n O false [] post K ((d,v)::e') Cb)/\(∀ch Cb,R (.panicked ch) Cb->Pn ch e' Cb)/\∀Cb,¬R .outgrown Cb) e w):XP P n (.region id O false) K hx F Pn e w:=fun a ha=>by
 refine wpIn_region ?_;rw[hl];refine Fo pre a w (Bw (fun a' w' E=>?_) pre a w (h a ha));obtain⟨e',FU,f,c1,c2,args,R,hz,⟨fn,hf,tX,vm⟩,Ke,hc,aaP,ail,aio⟩:=E;obtain⟨hk,hm⟩:=xu Ke;rw[wpOpsIn_cons];unfold wpOpIn;simp only[ho];rw[aB (by simp[Region.wanted])];refine⟨fun _ _=>trivial,?_⟩;have Qo:a'.eval z= .func (.func f) c1 c2:=FU.ev hz;have Md:xs.map a'.eval=args.toArray:=by
  apply Array.ext';simp only[O2];rw[<-hm];exact QW fun q hq=>FU.ev (hk q hq)
 have lU:((execOp a'.eval (⟨some d, .call ⟨.value z,xs,ts⟩,t,p,af,none⟩:aP))).run P w'= .ok (.enter f (c1.toList++args++c2.toList).toArray) w':=by
  have e1:c1++args.toArray++c2=(c1.toList++args++c2.toList).toArray:=by apply Array.ext';simp
  simp only[execOp,resolve,Qo,Deferred.ofValue,invoke,callFunc,Md,e1,al,aG,ah,program,Sem.run,hf,tX,vm];simp
 show Oper.uponIn (Fw none) 0 P (⟨some d, .call ⟨.value z,xs,ts⟩,t,p,af,none⟩:aP) a' _ _ ((execOp a'.eval (⟨some d, .call ⟨.value z,xs,ts⟩,t,p,af,none⟩:aP)).run P w')
 rw[lU,Oper.uponIn_enter];refine⟨(fun hd=>by cases hd),Calls.fw (Calls.mono hc fun en Cb hR=>?_) _ _⟩;cases en with
 |returned v=>exact y5 _ _ _ (aaP v Cb hR _ (FU.put (by simpa using hd) v))
 |panicked ch=>exact⟨e',FU,ail ch Cb hR⟩
 |outgrown=>exact aS hR (aio Cb)
def YX{id:Nat}{z:aM}(pre:List Nat)(i:Nat)(hl:List.range O.size=pre++[i])(ho:O[i]?=some ⟨none, .panic z,t,p,af,none⟩)(h:XL P n O false [] pre (fun e' w'=>∃T v,ev e' z=some (.iface T v)/\Pn [{v:= .iface T v,recovered:=false}] e' w') e w):XP P n (.region id O false) K hx F Pn e w:=fun a ha=>by
 refine wpIn_region ?_;rw[hl];refine Fo pre a w (Bw (fun a' w' E=>?_) pre a w (h a ha));obtain⟨e',FU,T,v,hz,hp⟩:=E;rw[wpOpsIn_cons];unfold wpOpIn;simp only[ho];rw[aB (by simp[Region.wanted])];refine⟨fun _ _=>trivial,?_⟩;have Qo:a'.eval z= .iface T v:=FU.ev hz;have lU:((execOp a'.eval (⟨none, .panic z,t,p,af,none⟩:aP))).run P w'= .halt (.panic (.iface T v)) w':=by
  simp only[execOp,Qo];rfl
 show Oper.uponIn (Fw none) 0 P (⟨none, .panic z,t,p,af,none⟩:aP) a' _ _ ((execOp a'.eval (⟨none, .panic z,t,p,af,none⟩:aP)).run P w')
 rw[lU,Oper.uponIn_panic];exact⟨e',FU,hp⟩
end
def afU(P:au)(n:Nat)(fn:Func)(R:Ending->ae->Prop):jF:=fun e w=>∀a,dZ n e a->LeavesInM (Fw none) 0 P fn a.tmps R a.defers .returning w
def abf(P:au)(n:Nat)(fn:Func)(R:Ending->ae->Prop)(ch:List PanicEntry):jF:=fun e w=>∀a,dZ n e a->LeavesInM (Fw none) 0 P fn a.tmps R a.defers (.panicking ch) w
def Ad{c:Code}{R:Ending->ae->Prop}(hf:P.funcs[f]?=some fn)(hb:fn.body=some c)(hn:fn.ntmps=n)(hle:Nat.ble args.length n=true)(hs:Nat.ble n 1000000=true)(h:XP P n c (afU P n fn R) [] (afU P n fn R) (abf P n fn R) (tL 0 args) w):aA P f args.toArray w R:=by
 refine callsIn_wide (n:=0).1 (callsIn_of_wp_marks (F:=Fw none) hf hb trivial ?_);refine wpIn_mono (h _ (by rw[hn];exact Du hle hs)) fun ex a w hq=>?_
 cases ex<;>simp only[Z7,tf]at hq<;>simp only[bodyPostM]
 case normal=>obtain⟨e,ha,Y⟩:=hq;exact Y a ha
 case ret=>obtain⟨e,ha,Y⟩:=hq;exact Y a ha
 case exit=>obtain⟨K,hk,_⟩:=hq;cases hk
 case panic ch=>obtain⟨e,ha,Y⟩:=hq;exact Y a ha
section
variable{R:C->ae->Prop}{R':Ending->ae->Prop}
def Hf{ch:List PanicEntry}(hm:marks e=[])(h:R' (.panicked ch) w):abf P n fn R' ch e w:=fun a ha=>by rw[ha.defers,hm];exact h
def V3(h:nf P n fn R e w)(hr:∀en w,bU R en w->R' en w):afU P n fn R' e w:=fun a ha=>by
 have Y:=h a ha;have key:∀(ds:List Deferred) (u:FrameMode) (w:ae),LeavesInM (Fw none) 0 P fn a.tmps (bU R) ds u w->LeavesInM (Fw none) 0 P fn a.tmps R' ds u w:=by
  intro ds
  induction ds with
  |nil=>
   intro u w hh;cases u with
   |run=>exact hh
   |returning=>obtain⟨v,Y,J⟩:=hh;exact⟨v,Y,hr _ _ J⟩
   |panicking ch=>exact hr _ _ hh
  |cons d ds ih=>
   intro u w ⟨h0,hh⟩;refine⟨h0,hh.imp (fun⟨r,w',a1,a2,a3⟩=>⟨r,w',a1,a2,ih _ _ a3⟩) fun⟨a1,fv,cap,f,args,a2,a3,a4,a5⟩=>⟨a1,fv,cap,f,args,a2,a3,a4,CallsDIn.mono a5 fun en u' w' hq=>?_⟩⟩;cases en with
   |returned v=>exact ih _ _ hq
   |panicked ch=>exact ih _ _ hq
   |outgrown=>exact hr _ _ hq
 exact key _ _ _ Y
def tR:FrameMode->C×FrameMode
 | .panicking ({v,recovered:=false,goexit:=false}::agO)=>(v, .panicking ({v,recovered:=true}::agO))
 |u=>(.nilIface,u)
def sJ{rest:Code}{id d2:Nat}{t2:aC}{p2:String}{af2:Array Edge}{u:FrameMode}(hf:P.funcs[f]?=some fn)(hb:fn.body=some (.seq (.region id #[⟨some d, .call ⟨.builtin .recover,#[],#[]⟩,t,p,af,none⟩,⟨some d2, .assign (.tmp d),t2,p2,af2,none⟩] false) rest))(hn:fn.ntmps=n)(hle:Nat.ble args.length n=true)(hs:Nat.ble n 1000000=true)(hd:Nat.blt d n=true)(hd2:Nat.blt d2 n=true)(h:X P n none rest (EZ P n fn R) [] (EZ P n fn R) ((d2,(tR u).1)::(d,(tR u).1)::tL 0 args) w):CallsDIn (Fw none) 0 P f args.toArray u w fun en u' w'=>u'=(tR u).2/\bU R en w':=by
 refine callsDIn_of_wpSIn hf hb trivial fun xx cs hu=>?_
 refine wpSIn_seq (wpSIn_region ?_);have ha0:dZ n (tL 0 args) {tmps:=args.toArray++Array.replicate (fn.ntmps-args.toArray.size) undef,defers:=[]}:=by rw[hn];exact Du hle hs
 obtain⟨a0,ea0⟩:∃a0:Act,a0={tmps:=args.toArray++Array.replicate (fn.ntmps-args.toArray.size) undef,defers:=[]}:=⟨_,rfl⟩;rw[<-ea0]at ha0 ⊢;have Oe:=ha0.put (show d<n by simpa using hd) (tR u).1;have YP:=Oe.put (show d2<n by simpa using hd2) (tR u).1;obtain⟨a2,ea2⟩:∃a2,a2=(a0.put (some d) (tR u).1).put (some d2) (tR u).1:=⟨_,rfl⟩;rw[<-ea2]at YP
 have Pu:∀(EI:List Frame),EI={xx with mode:=(tR u).2}::cs->rest.wpSIn (Fw none) 0 P (bodyPostS P fn xx cs fun en u' w'=>u'=(tR u).2/\bU R en w') a2 EI w:=fun EI kB=>by
  refine wpSIn_of_wpIn rfl (wpIn_mono (h a2 YP) fun ex a w hq=>?_);cases ex<;>simp only[vF,tf,EZ]at hq<;>simp only[bodyPostS]
  case normal=>
   obtain⟨e,ha,hm,Y⟩:=hq;obtain⟨v,hv,hR⟩:=Y a ha;exact⟨by rw[ha.defers,hm];rfl,_,kB,v,hv,rfl,v,rfl,hR⟩
  case ret=>
   obtain⟨e,ha,hm,Y⟩:=hq;obtain⟨v,hv,hR⟩:=Y a ha;exact⟨by rw[ha.defers,hm];rfl,_,kB,v,hv,rfl,v,rfl,hR⟩
  case exit=>obtain⟨K,hk,_⟩:=hq;cases hk
 have X2:d<n:=by simpa using hd
 have hd2:n<=1000000:=by simpa using hs
 have oS:d≠1000000000:=H;have Qo:(a0.put (some d) (tR u).1).eval (.tmp d)=(tR u).1:=Oe.ev (x:= .tmp d) (by simp only[ev,tL,get,Ty,qx oS,ZB,Bool.and_true,cond]);have xl:recoverD (xx::cs)=(match recoverD (xx::cs)with|some x=>some x|none=>none):=by cases recoverD (xx::cs)<;>rfl
 show wpOpsSIn (Fw none) 0 P _ _ [0,1] a0 (xx::cs) w
 have two:∀(EI:List Frame),EI={xx with mode:=(tR u).2}::cs->wpOpsSIn (Fw none) 0 P #[⟨some d, .call ⟨.builtin .recover,#[],#[]⟩,t,p,af,none⟩,⟨some d2, .assign (.tmp d),t2,p2,af2,none⟩] (Exit.thenS (rest.wpSIn (Fw none) 0 P (bodyPostS P fn xx cs fun en u' w'=>u'=(tR u).2/\bU R en w')) (bodyPostS P fn xx cs fun en u' w'=>u'=(tR u).2/\bU R en w')) [1] (a0.put (some d) (tR u).1) EI w:=fun EI kB=>by
  have lU:(execOp (a0.put (some d) (tR u).1).eval (⟨some d2, .assign (.tmp d),t2,p2,af2,none⟩:aP)).run P w= .ok (.value (tR u).1) w:=by simp[execOp,Qo]
  refine⟨fun _ _=>trivial,?_⟩;rw[aB (by simp[Region.wanted])]
  erw [lU]
  show Exit.thenS _ _ .normal _ _ _
  have:=Pu EI kB;rw[ea2]at this;exact this
 refine⟨fun _ _=>trivial,?_⟩;rw[aB (by simp[Region.wanted])];have lU:(execOp a0.eval (⟨some d, .call ⟨.builtin .recover,#[],#[]⟩,t,p,af,none⟩:aP)).run P w= .ok .recover w:=by simp[execOp,resolve,invoke,builtin]
 erw [lU]
 subst hu;have hr:recoverD (xx::cs)=none/\xx.mode=(tR xx.mode).2/\(tR xx.mode).1= .nilIface\/recoverD (xx::cs)=some ((tR xx.mode).1,{xx with mode:=(tR xx.mode).2}::cs):=by
  unfold recoverD;cases hm:xx.mode with
  |run=>exact .inl ⟨by simp[hm],rfl,rfl⟩
  |returning=>exact .inl ⟨by simp[hm],rfl,rfl⟩
  |panicking l=>
   cases l with
   |nil=>exact .inl ⟨by simp[hm],rfl,rfl⟩
   |cons x l=>
    obtain⟨v,r,g⟩:=x;cases r<;>cases g
    ·exact .inr (by simp[hm,tR])
    ·exact .inl ⟨by simp[hm],rfl,rfl⟩
    ·exact .inl ⟨by simp[hm],rfl,rfl⟩
    exact .inl ⟨by simp[hm],rfl,rfl⟩
 rcases hr with⟨Y,J,h3⟩|Y
 ·simp only[Y];have h4:=two (xx::cs) (by rw[<-J]);rw[h3]at h4;exact h4
 simp only[Y];exact two _ rfl
def Xv{VX:bN}{first captured:Array C}{Q:C->ae->Prop}(hm:marks e=[.func (.func VX) first captured])(hb:(∃f,P.funcs[VX]?=some f/\(f.name== "runtime.NumGoroutine")=false/\f.body.isNone=false))(hc:CallsDIn (Fw none) 0 P VX (first++captured) (.panicking [{v:=v,recovered:=false}]) w fun en u' w'=>u'= .panicking [{v:=v,recovered:=true}]/\bU Q en w')(h:∀x w',Q x w'->sj P n fn R e [] w'):abf P n fn (bU R) [{v:=v,recovered:=false}] e w:=fun a ha=>by
 rw[ha.defers,hm];refine⟨by simp, .inr ⟨(fun hd=>by cases hd), .func VX,captured,VX,first++captured,rfl,?_,fun _ _=>trivial,hc.1,fun c cs hm hr=>?_⟩⟩
 ·obtain⟨f,Y,J,h3⟩:=hb;simp only[Hg,invoke,callFunc,al,aG,ah,program,Sem.run,Y,J,h3];simp
 obtain⟨en,u',w',fr,⟨hu,x,hv,hQ⟩,hs,hk,hf,hg⟩:=hc.2 c cs hm (AZ none _);subst hv;exact⟨_,u',w',fr,by subst hu;exact h x w' hQ a ha,hs,hk,hf,hg⟩
end
abbrev paJ(vq b3 b8:Nat)(V:Va)(its:List It)(k:Nat):aF:=ex fun ol:List lX=>ex fun ov:C=>mr (ol.map lX.pr=(its.take k).map (O5 V.rd)) (bt [N b8 [ov] 58,row 66 2 ov ol.length (ol.map lX.cells).flatten,bt (ol.flatMap cO),N b3 [pQ vq] 28])
def Z6{b3:Nat}{ol:List lX}{ov:C}(h:ol.map lX.pr=(its.take k).map (O5 V.rd))(Z:aw G (N b8 [ov] 58::row 66 2 ov ol.length (ol.map lX.cells).flatten::bt (ol.flatMap cO)::N b3 [pQ vq] 28::L) w):aw G (paJ vq b3 b8 V its k::L) w:=
 aw.oU ol (aw.oU ov (aw.qE h (aw.bJ (M:=[_,_,_,_]) Z)))
def Vs{b3:Nat}(Z:aw G (paJ vq b3 b8 V its k::L) w):∃(ol:List lX) (ov:C),ol.map lX.pr=(its.take k).map (O5 V.rd)/\aw G (N b8 [ov] 58::row 66 2 ov ol.length (ol.map lX.cells).flatten::bt (ol.flatMap cO)::N b3 [pQ vq] 28::L) w:=by
 obtain⟨ol,Z⟩:=Z.nt;obtain⟨ov,Z⟩:=Z.nt;obtain⟨h,Z⟩:=Z.lf;exact⟨ol,ov,h,Z.eY⟩
def MN{kk:Nat}{t:Tr}{r:rS}(Z:aw G (gX vq V::L) w)(fx:V.Ok)(hs:t.root≠0->jU V.rd kk t.root/\∃r',qp V.rd kk t.root r')(pW:its=if t.root=0 then []else pB V.rd r.rg (t.root,kk))(Uq:t.root≠0->qo V.rd kk t.root<=1000000000)(hl:∀n p i,V.rd n=some p->(eR (pT p i) r.rg).lo.length<=24)(hr:r.Ok L)(rJ:∀x∈its,(eg V.rd x).1=0)(hle:its.length<=1000000000):
  aA prog 56 #[pQ vq,gQ (dI t),gQ r.cells] w (bU fun u w'=>∃(v:C) (l:List lX),u= .tuple #[v,I 0]/\l.map lX.pr=its.map (O5 V.rd)/\aw G (row 66 2 v l.length (l.map lX.cells).flatten::bt (l.flatMap cO)::gX vq V::L) w'):=by
 refine wF [_,_,_] func56 ntmps56 ?_;refine wB 2 Z fun w b3 Z=>?_;refine wB 0 Z fun w b4 Z=>?_;refine wB 0 Z fun w b5 Z=>?_;refine wL 0 B9 Z fun w b6 Z=>?_;refine wL 0 yV Z fun w b7 Z=>?_;refine wL 3 B9 Z fun w b8 Z=>?_;refine wD 4 (v:=pQ vq) iy Z ?_;refine wA 0 (l:=dI t) ez Z ?_;refine wA 0 (l:=r.cells) aQ Z ?_;refine aO rfl Lm rfl (MO (vq:=vq) (t:=t) (r:=r) Z) rfl fun w v15 hv=>?_;obtain⟨c3,c4,c5,rfl,Z⟩:=hv;refine z2 ?_;have Z:=bB (aw.bJ (M:=([]:List lX).flatMap cO) Z) 66 2;have hz:=Z.b [N b8 _ _,row 66 2 (nQ) 0 [],bt _,N b3 _ _,N c4 _ _,N c3 _ _,N c5 _ _,gX vq V,N b4 _ _,N b5 _ _,N b6 _ _,N b7 _ _];clear Z;have Z:=Z6 (V:=V) (its:=its) (k:=0) (ol:=[]) (ov:=nQ) rfl hz;refine Y4 (e₀:=[(3,pQ b3),(6,pQ b6),(7,pQ b7),(8,pQ b8)]) (fun k=>paJ vq b3 b8 V its k) (fun _=>False) [] rfl Gq rfl sG rfl Z (fun k args CZ M h=>by obtain⟨x,R,_,rfl,_⟩:=h;rfl) (aaH (w:=w) fx hs pW Uq hl (hr.of sF)) ?_ ?_ ?_ ?_
 ·clear Z;intro l D1 o k args CZ M w hk rI Z;obtain⟨x,R,E,rfl,rfl,hsk,G6,Up⟩:=rI;have hxm:=fK E;have Md:=rJ _ hxm;have Z:aw G (paJ vq b3 b8 V its k::pt l o::fS D1::row 5 1 x.kv x.it.key.length (cI x.it.key)::row 5 1 x.vv x.it.value.length (cI x.it.value)::M) w:=Z;have Z:=Z.pick (.there (.there (.there (.there (.there Up)))));have lG:∀R,x.Ok (row 5 1 x.kv x.it.key.length (cI x.it.key)::row 5 1 x.vv x.it.value.length (cI x.it.value)::R):=fun R=>⟨Hr rfl .here,Hr rfl (.there .here),hsk,G6⟩
  obtain⟨ol,ov,hol,Z⟩:=Vs (Z.b [paJ vq b3 b8 V its k,gX vq V,pt l _,fS D1]);have acV:=aU List.length hol;rw[cg,cg,gJ,Jq (Nat.le_of_lt hk)]at acV;have Z:=Z.b [gX vq V,N b8 _ _,row 66 2 _ _ _,bt _,N b3 _ _,pt l _,fS D1];obtain⟨oa,oc,rfl⟩:=aT (Z.pick (A:=row 66 2 ov _ _) pK);obtain⟨xa,xc,xa2,xc2,xj,N',Qh⟩:=(lG _).form (Z.b [row 5 1 x.kv _ _,row 5 1 x.vv _ _]);refine wL 1 jc Z fun w b9 Z=>?_;refine wN 0 (cs:=x.cells) (l':=x.cells) bA (by rw[Qh];intro u hu;simp at hu;rcases hu with rfl|rfl|rfl|rfl<;>rfl) Z (fun w Z=>?_);refine aK ?_;refine⟨_,Z.pick (A:=pt l o) pK,fun o' w Z=>?_⟩;refine wD 3 (v:=pQ vq) iy Z ?_;refine wA 0 (l:=x.cells) bA Z ?_;refine aO rfl Nr rfl (P4 (x:=x) (Z.b [gX vq V]) fx ((lG _).of sF)) rfl fun w v20 hv=>?_;obtain⟨u,rfl,Z⟩:=hv;rw[Md];obtain⟨ua,uc,rfl⟩:=aT Z;refine wI 12 (fun Y=>?_) fun Y=>?_
  ·exact aS rfl Y
  refine wD 2 (v:= .slice oa ol.length oc) jt Z ?_;refine z1 ?_;refine bg rfl rfl (aD.cw (v:= .slice xa x.it.key.length xc) ao Z pK (by first|exact aU some xj|(rw[<-xj];rfl))) ?_;refine wV 1 (v:= .agg #[.slice xa x.it.key.length xc, .slice ua (eg V.rd x.it).2.length uc]) ?_;refine fb (cs:=[.slice xa x.it.key.length xc, .slice ua (eg V.rd x.it).2.length uc]) rfl iY oO ud dM rfl rfl rfl Z rfl fun w b31 Z=>?_;refine eF (m:=ol.length) (k:=1) (news:=[.slice xa x.it.key.length xc, .slice ua (eg V.rd x.it).2.length uc]) rfl iY oO Hk ud rfl rfl Z pK (Rd.iq Z pK) rfl (by
    intro z hz;simp only[cE,fQ,or_false]at hz;rcases hz with rfl|rfl<;>rfl) mL H rfl (fun w v32 Z=>?_)
  obtain⟨na,nc,rfl⟩:=aT Z;refine wS 0 (l':=[.slice na (ol.length+1) nc]) jt Z fun w Z=>?_;refine aK ?_;rw[xj]at Z;have hz:=(Z.b [N b31 _ _,N b9 _ _,row 5 1 x.vv _ _,bt (ol.flatMap cO),row 5 1 (.slice xa _ xc) _ _,row 5 1 (.slice ua (eg V.rd x.it).2.length uc) _ _,N b8 _ _,row 66 2 _ _ _]).t3;have hz:=aw.iD (aw.iD hz);have e1:(ol.flatMap cO++[row 5 1 (.slice xa x.it.key.length xc) x.it.key.length (cI x.it.key)])++[row 5 1 (.slice ua (eg V.rd x.it).2.length uc) (eg V.rd x.it).2.length (cI (eg V.rd x.it).2)]=(ol++[(⟨O5 V.rd x.it, .slice xa x.it.key.length xc, .slice ua (eg V.rd x.it).2.length uc⟩:lX)]).flatMap cO:=by simp[cO,O5]
  have e2:(ol.map lX.cells).flatten++[.slice xa x.it.key.length xc, .slice ua (eg V.rd x.it).2.length uc]=((ol++[(⟨O5 V.rd x.it, .slice xa x.it.key.length xc, .slice ua (eg V.rd x.it).2.length uc⟩:lX)]).map lX.cells).flatten:=by simp[lX.cells]
  have e3:ol.length+1=(ol++[(⟨O5 V.rd x.it, .slice xa x.it.key.length xc, .slice ua (eg V.rd x.it).2.length uc⟩:lX)]).length:=by simp
  rw[e1,e2,e3]at hz;have hz:=hz.b [gX vq V,N b8 _ _,row 66 2 _ _ _,bt _,N b3 _ _,pt l _,fS D1];have hz:=aw.Tn hz (.there (.there (.there (.there (.there (.there Up))))));have hz:=Z6 (V:=V) (its:=its) (k:=k+1) (by rw[bV E,jX,jX,hol];rfl) hz;exact hz
 ·clear Z;intro D1 w Z;obtain⟨ol,ov,hol,Z⟩:=Vs Z;rw[qS]at hol;obtain⟨oa,oc,rfl⟩:=aT (Z.pick (A:=row 66 2 ov _ _) pK);refine wD 2 (v:= .slice oa ol.length oc) jt Z ?_;refine rU rfl tV rfl rfl jt rfl Z pK rfl rfl rfl fun w Z=>?_;refine rU rfl tV rfl rfl bP rfl Z pK rfl rfl rfl fun w Z=>?_;refine z2 ?_;refine cV rfl ?_;refine mu Z pK fun w Z=>?_;exact JR rfl ⟨_,rfl,(aD.cw jt Z pK rfl)⟩ ⟨_,rfl,(aD.cw bP Z pK rfl)⟩ ⟨.slice oa ol.length oc,ol,rfl,hol,(Z.b [N b8 _ _,N b3 _ _,N c4 _ _,N c3 _ _,N c5 _ _,N b4 _ _,N b5 _ _,N b6 _ _,N b7 _ _]).t9⟩
 ·clear Z;intro D w Z;exact(nU Z).elim fun _ h=>h.1.elim
 intro id A hA;cases hA
def G3{rd:Int->Option Pg}:∀{k:Nat} {n:Int},jU rd k n->∀y∈oD rd k n,(eg rd y).1=0
 |0,n,h=>by
  obtain⟨p,hp,Y,J⟩:=h;intro y hy;rw[oD,hp]at hy;exact J y hy
 |k+1,n,h=>by
  obtain⟨p,hp,Y,J⟩:=h;intro y hy;rw[oD,hp]at hy;obtain⟨x,E,hy⟩:=TC.1 hy;exact G3 (J x E) y hy
def aal{a:bZ}(h:a.length<=m):(fL a []).length<=m:=by
 unfold fL;split
 ·exact de _
 exact h
def aff(fx:V.Ok){n:Int}{p:Pg}(hp:V.rd n=some p):(eR (pT p i) nG).lo.length<=24:=by
 refine aal ?_;unfold pT Rv;cases E:p.items[i]?with
 |none=>simp
 |some x=>exact J3 (Va.Fy fx n p hp) x (fK E)
def WX:rS:=⟨nG,nQ,nQ⟩
def ace(L:List aF):WX.Ok L:=⟨Pa,Pa,jV,jV⟩
def T8{rd:Int->Option Pg}{n:Int}(h:qp rd k n nG):pB rd nG (n,k)=oD rd k n:=by
 unfold pB;exact List.filter_eq_self.2 fun y hy=>eW (xi h y hy)
def IA.swap{gf:bN}{lb:List C}{A B:aF}{Lx:List aF}{OG:Nat->List C->List aF->Prop}(h:IA P gf lb G (A::B::L) w n OG (A::B::Lx)):IA P gf lb G (B::A::L) w n OG (B::A::Lx):=fun l h2 Jx w' hy Z=>by
 have hz:aw G (h2 0::A::B::L) w':=Z.LG (As:=[h2 0,A]) (.cons .here (.cons (.there .here) .nil));refine Calls.mono (h l h2 Jx w' hy hz) fun en Cb ⟨v,hv,hR⟩=>⟨v,hv,?_⟩
 rcases hR with hR|hR
 ·exact .inl (hR.LG (As:=[h2 n,B]) (.cons .here (.cons (.there .here) .nil)))
 exact .inr (hR.LG (As:=[Jx,B]) (.cons .here (.cons (.there .here) .nil)))
def aen{l:List lX}{R':List aF}(hle:l.length<=1000000000)(p1:dE (row 66 2 v l.length (l.map lX.cells).flatten) L R)(p2:dE (bt (l.flatMap cO)) L R'):abG L v l:=by
 have key:∀x∈l,∃B ad,l.flatMap cO=B++(cO x++ad):=fun x E=>by
  obtain⟨B,ad,rfl⟩:=O4 E;exact⟨B.flatMap cO,ad.flatMap cO,by simp⟩
 refine⟨((jk.row sM (fun r hr=>by obtain⟨x,-,rfl⟩:=dY.1 hr;rfl)).head _).pick p1,fun x E=>?_,fun x E=>?_,hle⟩
 ·obtain⟨B,ad,e⟩:=key x E;exact((aL.nR (A:=cO x) (Hr rfl .here) e).head _).pick p2
 obtain⟨B,ad,e⟩:=key x E;exact((aL.nR (A:=cO x) (Hr rfl (.there .here)) e).head _).pick p2
def PH{t:Tr}(Z:aw G (gX vq V::L) w)(fx:V.Ok)(ht:fY t\/∃M,AK V.rd t M):
  aA prog 41 #[pQ vq,gQ (dI t),gQ WX.cells] w (bU fun u w'=>∃(b1 b2:Nat) (v:C) (l:List lX),u= .func (.func 183) #[] #[pQ b2]/\(l.map lX.pr=dz V.rd t/\l.length<=1000000000)/\aw G (N b2 [.func (.func 184) #[] #[pQ b1]] 215::N b1 [v] 58::row 66 2 v l.length (l.map lX.cells).flatten::bt (l.flatMap cO)::gX vq V::L) w'):=by
 obtain⟨kk,Fg⟩:∃kk,kk=(t.bh-1).toNat:=⟨_,rfl⟩;have jQ:t.root≠0->∃M,AK V.rd t M:=fun h=>ht.resolve_left fun hn=>h hn.1
 have hs:t.root≠0->jU V.rd kk t.root/\∃r',qp V.rd kk t.root r':=fun h=>by
  obtain⟨M,hM⟩:=jQ h;rw[Fg];exact⟨hM.sound,_,hM.keys⟩
 obtain⟨its,pW⟩:∃its,its=if t.root=0 then []else pB V.rd WX.rg (t.root,kk):=⟨_,rfl⟩
 have aex:its=if t.root=0 then []else oD V.rd kk t.root:=by
  rw[pW]
  by_cases h:t.root=0
  ·rw[aB h,aB h]
  obtain⟨M,hM⟩:=jQ h;rw[aj h,aj h,Fg];exact T8 hM.keys
 have Uq:t.root≠0->qo V.rd kk t.root<=1000000000:=fun h=>by
  obtain⟨M,hM⟩:=jQ h;have Y:=hM.num;have J:=Va.rF fx hM.nd hM.th;rw[Fg];omega
 have rJ:∀x∈its,(eg V.rd x).1=0:=fun x E=>by
  rw[aex]at E
  by_cases h:t.root=0
  ·rw[aB h]at E;simp at E
  rw[aj h]at E;exact G3 (hs h).1 x E
 have CY:dz V.rd t=its.map (O5 V.rd):=by
  unfold dz;rw[aex,<-Fg]
  by_cases h:t.root=0
  ·rw[aB h,aB h];rfl
  rw[aj h,aj h,KK]
 have hle:its.length<=1000000000:=by
  have e:=aU List.length CY;rw[cg]at e;rw[<-e];unfold dz
  by_cases h:t.root=0
  ·rw[aB h];simp
  obtain⟨M,hM⟩:=jQ h;rw[aj h];have Y:=hM.items;have J:=hM.many;have h3:=Va.rF fx hM.nd hM.th;omega
 refine wF [_,_,_] func41 ntmps41 ?_;refine wB 2 Z fun w b4 Z=>?_;refine wB 0 Z fun w b5 Z=>?_;refine wA 5 (l:=dI t) ez Z ?_;refine wA 0 (l:=WX.cells) aQ Z ?_;refine aO rfl Ll rfl (MN (kk:=kk) (r:=WX) (its:=its) (Z.b [gX vq V]) fx hs pW Uq (fun n p i hp=>aff fx hp) (ace _) rJ hle) rfl fun w v13 hv=>?_;obtain⟨v,l,rfl,hl,Z⟩:=hv;have sP:=aU List.length hl;rw[cg,cg]at sP;obtain⟨oa,oc,rfl⟩:=aT Z;refine z9 ?_;refine aO rfl pN rfl (pY Z) rfl fun w Hp hv=>?_;obtain⟨b1,rfl,Z⟩:=hv;refine aO rfl M7 rfl (PG Z) rfl fun w NG hv=>?_;obtain⟨b2,rfl,Z⟩:=hv;refine dk 3 ?_;exact⟨b1,b2, .slice oa l.length oc,l,rfl,⟨by rw[hl,CY],H⟩,(Z.b [N b4 _ _,N b5 _ _]).t2⟩
def acN{b1 b2:Nat}{l:List lX}(hle:l.length<=1000000000)(sP:∀x∈l,dP x.pr.1/\dP x.pr.2):
  IA prog 183 [pQ b2] G (N b2 [.func (.func 184) #[] #[pQ b1]] 215::N b1 [v] 58::row 66 2 v l.length (l.map lX.cells).flatten::bt (l.flatMap cO)::L) w l.length (ahF l)
   (N b2 [.func (.func 184) #[] #[pQ b1]] 215::N b1 [v] 58::row 66 2 v l.length (l.map lX.cells).flatten::bt (l.flatMap cO)::L):=
 acM (gf:=184) (lb:=[pQ b1]) oI sP fun X w=>
  IA.swap (Pm (L:=X::row 66 2 v l.length (l.map lX.cells).flatten::bt (l.flatMap cO)::L) (aen hle (.there .here) (.there (.there .here))) fun b c=>aen hle (.there (.there (.there .here))) (.there (.there (.there (.there .here)))))
def iO(A:List Int):List Int:=A.foldl (fun D k=>if k∈D then D else D++[k]) []
def Er(A:List Int)(k:Int):iO (A++[k])=if k∈iO A then iO A else iO A++[k]:=by
 unfold iO;rw[List.foldl_append];rfl
def Ep:∀(n:Nat) (A:List Int),A.length=n->(∀a,a∈iO A↔a∈A)/\(iO A).Nodup:=by
 intro n
 induction n with
 |zero=>intro A h;rw[vD h];exact⟨fun a=>by simp[iO],by simp[iO]⟩
 |succ n ih=>
  intro A h;obtain⟨B,k,rfl⟩:∃B k,A=B++[k]:=⟨A.dropLast,A.getLast (by intro he;subst he;simp at h),(Xe _).symm⟩;obtain⟨Y,J⟩:=ih B (by simpa using h);rw[Er]
  by_cases hk:k∈iO B
  ·rw[aB hk];refine⟨fun a=>?_,J⟩;rw[Y,eZ];exact⟨.inl,fun h=>h.elim id fun h=>by simp at h;subst h;exact(Y _).1 hk⟩
  rw[aj hk];refine⟨fun a=>by rw[eZ,eZ,Y],?_⟩;rw[Hv];exact⟨J,by simp,fun a ha b hb=>by simp at hb;subst hb;intro e;subst e;exact hk ha⟩
def zn{a:Int}:a∈iO A↔a∈A:=(Ep _ A rfl).1 a
def Cj(A:List Int):(iO A).Nodup:=(Ep _ A rfl).2
def Vx(A:List Int):KV:=(iO A).map fun n=>(n,I ((A.count n:Nat):Int))
def Rh(A:List Int):(Vx A).map (·.1)=iO A:=by simp[Vx,Function.comp_def]
def Ea(A:List Int)(k:Int):dJ (Vx A) k=if k∈A then some (I ((A.count k:Nat):Int))else none:=by
 by_cases h:k∈A
 ·rw[aB h];exact NZ (by rw[Rh];exact Cj A) (dY.2 ⟨k,zn.2 h,rfl⟩)
 rw[aj h,JX,Rh,zn];exact h
def qG(A:List Int)(k:Int):(dJ (Vx A) k).getD (I 0)=I ((A.count k:Nat):Int):=by
 rw[Ea]
 by_cases h:k∈A
 ·rw[aB h];rfl
 rw[aj h,acr h];rfl
def Rs{f:Int->C}{k:Int}{v:C}:∀{D:List Int},D.Nodup->oC (D.map fun n=>(n,f n)) k v=if k∈D then D.map fun n=>(n,if n=k then v else f n)else(D.map fun n=>(n,f n))++[(k,v)]
 |[],_=>by simp[oC]
 |d::D,h=>by
  rw[Bx]at h;have ih:=Rs (f:=f) (k:=k) (v:=v) h.2;simp only[ey,oC]
  by_cases hk:k=d
  ·subst hk;rw[aB rfl,aB (kf ..),aB rfl]
   congr 1
   refine QW fun n hn=>?_
   rw[aj (by intro e;subst e;exact h.1 hn)]
  rw[aj hk,ih]
  by_cases hD:k∈D
  ·rw[aB hD,aB (kG _ hD),aj (fun e=>hk e.symm)]
  rw[aj hD,aj (by simp[hk,hD])];rfl
def aak(A:List Int)(k:Int):oC (Vx A) k (I ((A.count k:Nat)+1:Int))=Vx (A++[k]):=by
 unfold Vx;rw[Rs (Cj A),Er];have hc:∀n,n≠k->(A++[k]).count n=A.count n:=fun n hn=>by rw[List.count_append,List.count_singleton];simp[Ne.symm hn]
 have IN:(A++[k]).count k=A.count k+1:=by rw[List.count_append,List.count_singleton];simp
 by_cases hk:k∈iO A
 ·rw[aB hk,aB hk];refine QW fun n hn=>?_
  by_cases he:n=k
  ·subst he;rw[aB rfl,IN];rfl
  rw[aj he,hc n he]
 rw[aj hk,aj hk,jX]
 congr 1
 ·refine QW fun n hn=>?_
  rw[hc n (by intro e;subst e;exact hk hn)]
 rw[ey,IN];rfl
structure Tb(rd:Int->Option Pg)(roots W st A:List Int):Prop where
 nd:(W++st).Nodup
 mem:∀a,a∈A↔a∈W\/a∈st
 min:∀U:Int->Prop,(∀r∈roots,U r)->(∀n,U n->∀k∈iG rd n,U k)->∀a∈A,U a
def Tb.start(rd:Int->Option Pg)(roots:List Int):Tb rd roots [] [] []:=⟨by simp,fun a=>by simp,fun U _ _ a h=>by simp at h⟩
def Tb.arrow{rd:Int->Option Pg}{st:List Int}{k:Int}(h:Tb rd roots W st A)(hk:∀U:Int->Prop,(∀r∈roots,U r)->(∀n,U n->∀k∈iG rd n,U k)->U k):Tb rd roots W (if A.count k=0 then st++[k]else st) (A++[k]):=by
 have RN:∀U:Int->Prop,(∀r∈roots,U r)->(∀n,U n->∀k∈iG rd n,U k)->∀a∈A++[k],U a:=fun U Y J a ha=>by
  rcases eZ.1 ha with ha|ha
  ·exact h.min U Y J a ha
  simp at ha;subst ha;exact hk U Y J
 by_cases hm:k∈A
 ·rw[aj (by have:=List.count_pos_iff.2 hm;omega)];refine⟨h.nd,fun a=>?_,RN⟩;rw[eZ,<-h.mem a];exact⟨fun h=>h.elim id fun h=>by simp at h;subst h;exact hm, .inl⟩
 rw[aB (acr hm)];refine⟨?_,fun a=>?_,RN⟩
 ·rw[<-gm,Hv];refine⟨h.nd,by simp,fun a ha b hb=>?_⟩;simp at hb;subst hb;intro e;subst e;exact hm ((h.mem a).2 (eZ.1 ha))
 rw[eZ,eZ,h.mem a,or_assoc]
def Tb.visit{rd:Int->Option Pg}{st:List Int}{n:Int}(h:Tb rd roots W (st++[n]) A):Tb rd roots (W++[n]) st A:=by
 refine⟨?_,fun a=>?_,h.min⟩
 ·have Y:=h.nd;rw[gm];refine(List.Perm.nodup_iff ?_).1 Y;exact List.Perm.append_left W (List.perm_append_comm)
 rw[h.mem a,eZ,eZ]
 constructor
 ·rintro(h|h|h)
  ·exact .inl (.inl h)
  ·exact .inr h
  exact .inl (.inr h)
 rintro((h|h)|h)
 ·exact .inl h
 ·exact .inr (.inr h)
 exact .inr (.inl h)
def Tb.led{rd:Int->Option Pg}(h:Tb rd roots W [] A)(ha:A=roots++W.flatMap (iG rd)):Led rd roots W A:=by
 have Y:=h.nd;rw[kF]at Y;exact⟨Y,ha,fun a E=>((h.mem a).1 E).resolve_right sM,fun n hn=>(h.mem n).2 (.inl hn),fun U hr hc n hn=>h.min U hr hc n ((h.mem n).2 (.inl hn))⟩
def Tb.sub{rd:Int->Option Pg}{st:List Int}(h:Tb rd roots W st A)(Y:∀r∈roots,r∈U)(J:∀n∈U,∀k∈iG rd n,k∈U):∀a∈A,a∈U:=h.min (·∈U) Y J
def XE{rd:Int->Option Pg}(h:Ix rd)(n:Int):(iG rd n).length<=8:=by
 unfold iG;cases hr:rd n with
 |none=>simp
 |some p=>exact zt (h n p hr)
def JY{rd:Int->Option Pg}(h:Ix rd):∀W:List Int,(W.flatMap (iG rd)).length<=8*W.length
 |[]=>by simp
 |n::W=>by
  have Y:=JY h W;have J:=XE h n;rw[List.flatMap_cons,di,kZ];omega
def x4(A:List Int)(k:Int):(A++[k]).count k=A.count k+1:=by rw[List.count_append,List.count_singleton];simp
def Sc(Z:aw G (gX vq V::L) w)(fx:V.Ok)(kl:aL L (jk 3 lv (ts.map dI)))(sP:ts.length<=1000)(hr0:∀t∈ts,0<=t.root)(X6:∀r∈cj ts,r∈U)(hU2:∀n∈U,V.rd n≠none)(hU3:∀n∈U,∀k∈iG V.rd n,k∈U):
  aA prog 101 #[pQ vq,lv] w (bU fun u w'=>∃m W A,u= .tuple #[.map (some m),I 0]/\Led V.rd (cj ts) W A/\aw G (dm m (Vx A)::gX vq V::L) w'):=by
 obtain⟨la,lc,IL,-,-⟩:=(kl.at Z.tail).form;rw[cg]at IL;subst IL;refine wF [_,_] func101 ntmps101 ?_;refine z7 ?_;refine Ny rfl Z rfl fun w mm Z=>?_;refine B' ?_;refine eE rfl kR qN rfl ?_;refine z3 ?_;have Z:=bB Z 3 1;have hz:=Z.b [dm mm _,row 3 1 (nQ) _ _,gX vq V];clear Z;have Z:aw G (dm mm (Vx [])::row 3 1 (nQ) ([]:List Int).length (bf [])::gX vq V::L) w:=hz;refine bx (fun m e w=>∃(j:Nat) (st A:List Int) (tv:C),j<=ts.length/\m=ts.length-j/\e=[(0,pQ vq),(6, .map (some mm)),(7,tv),(16, .slice la ts.length lc),(17,I ts.length),(18,I j)]/\(Tb V.rd (cj ts) [] st A/\A=cj (ts.take j))/\aw G (dm mm (Vx A)::row 3 1 tv st.length (bf st)::gX vq V::L) w)
  (m:=ts.length) sB
  ⟨0,[],[],_,de _,rfl,rfl,⟨Tb.start _ _,rfl⟩,Z⟩ ?_
 rintro m e w ⟨j,st,A,tv,hj,rfl,rfl,⟨rJ,hA⟩,Z⟩;have hAl:A.length<=1000:=by rw[hA];have:=uk (ts.take j);rw[gJ]at this;omega
 have ajV:st.length<=65536:=by
  have:=Va.rF fx (met:=st) (by have:=rJ.nd;simpa using this) (fun n hn=>hU2 n (rJ.sub X6 hU3 n ((rJ.mem n).2 (.inr hn))));exact this
 refine wI 5 (fun Y=>?_) fun Y=>?_
 ·have pU:j<ts.length:=H;obtain⟨t,ht⟩:∃t,ts[j]?=some t:=⟨_,dG pU⟩;have kA:(ts.map dI)[j]?=some (dI t):=by rw[dh,ht];rfl
  have Uo:=hr0 t (fK ht);have gC:=acj (a:=t.root) (l:=A);have Hc:cj (ts.take (j+1))=A++(if 0<t.root then [t.root]else []):=by rw[bV ht,wZ,hA]
  obtain⟨lb,lo,hla⟩:=((kl.of sF).at Z).nn (by rw[cg];omega);cases hla;refine wX 5 qN y8 ?_;refine bg rfl rfl (aD.many (cs:=dI t) ez rfl (by rw[cZ];exact((kl.of sF).at Z).at kA)) ?_;refine wL 0 Tf Z fun w b9 Z=>?_;refine wN 0 (cs:=dI t) (l':=dI t) ez (by intro u hu;simp[dI]at hu;rcases hu with rfl|rfl|rfl<;>rfl) Z (fun w Z=>?_);refine wD 5 (v:=I t.root) ag Z ?_;refine wI 2 (fun J=>?_) fun J=>?_
  ·refine z5 ?_;have hA2:cj (ts.take (j+1))=A:=by rw[Hc,aj H,kF]
   exact⟨ts.length-(j+1),H,[(0,_),(6,_),(7,_),(16,_),(17,_),(18,I (j+1:Nat))],sB,j+1,st,A,_,H,rfl,rfl,⟨rJ,hA2.symm⟩,(Z.b [N b9 _ _]).tail⟩
  have hA2:cj (ts.take (j+1))=A++[t.root]:=by rw[Hc,aB H]
  have hrt:t.root∈cj ts:=by
   unfold cj;exact Ml.2 ⟨dY.2 ⟨t,fK ht,rfl⟩,by simp;omega⟩
  have acX:=rJ.arrow (k:=t.root) (fun U Y _=>Y _ hrt);refine wD 5 (v:=I t.root) ag Z ?_;refine GQ (v0:=I ((A.count t.root:Nat):Int)) rfl iu dD uN rfl rfl Z pK (qG _ _) ?_;refine z1 ?_;refine WI rfl tV iu dD rfl rfl rfl Z pK rfl fun w Z=>?_;rw[aak]at Z;refine wD 5 (v:=I t.root) ag Z ?_;refine GQ (v0:=I ((A.count t.root:Nat)+1:Int)) rfl iu dD uN rfl rfl Z pK (by rw[qG,x4];rfl) ?_;refine wI 2 (fun h3=>?_) fun h3=>?_
  ·have h0:A.count t.root=0:=H;rw[aB h0]at acX;refine wD 3 (v:=I t.root) ag Z ?_;refine fb (cs:=[I t.root]) rfl aY bF fh dM rfl rfl rfl Z rfl fun w b38 Z=>?_;refine eF (m:=st.length) (k:=1) (news:=[I t.root]) rfl aY bF j7 fh rfl rfl Z pK (Rd.iq Z pK) rfl (by intro u hu;simp at hu;subst hu;rfl) mL H rfl (fun w v39 Z=>?_);refine z6 ?_;have e1:bf st++[I t.root]=bf (st++[t.root]):=by simp[bf]
   have e2:st.length+1=(st++[t.root]).length:=by simp
   rw[e1,e2]at Z;exact⟨ts.length-(j+1),H,[(0,_),(6,_),(7,v39),(16,_),(17,_),(18,I (j+1:Nat))],sB,j+1,st++[t.root],A++[t.root],_,H,rfl,rfl,⟨acX,hA2.symm⟩,(Z.b [N b38 _ _,N b9 _ _,dm mm _,row 3 1 v39 _ _]).t2⟩
  have h0:¬A.count t.root=0:=H;rw[aj h0]at acX;refine z5 ?_;exact⟨ts.length-(j+1),H,[(0,_),(6,_),(7,_),(16,_),(17,_),(18,I (j+1:Nat))],sB,j+1,st,A++[t.root],_,H,rfl,rfl,⟨acX,hA2.symm⟩,(Z.b [N b9 _ _,dm mm _,row 3 1 tv _ _]).tail⟩
 have VO:j=ts.length:=H;rw[VO,qS]at hA;refine z3 ?_;refine bx (fun m e w=>∃(W st A:List Int) (tv:C),m=65536-W.length/\e=[(0,pQ vq),(6, .map (some mm)),(7,tv)]/\(Tb V.rd (cj ts) W st A/\A=cj ts++W.flatMap (iG V.rd))/\aw G (dm mm (Vx A)::row 3 1 tv st.length (bf st)::gX vq V::L) w)
  (m:=65536) sB
  ⟨[],st,A,_,rfl,rfl,⟨rJ,by rw[hA];simp⟩,Z⟩ ?_
 rintro m e w ⟨W,st,A,tv,rfl,rfl,⟨rJ,hA⟩,Z⟩;obtain⟨ta,tc,rfl⟩:=aT (Z.pick (A:=row 3 1 tv _ _) pK);refine wI 7 (fun h4=>?_) fun h4=>?_
 ·obtain⟨eP,n,rfl⟩:∃eP x,st=eP++[x]:=⟨st.dropLast,st.getLast (by intro h;subst h;simp at h4),(Xe _).symm⟩;have hnU:n∈U:=rJ.sub X6 hU3 n ((rJ.mem n).2 (.inr sM));obtain⟨p,sA⟩:∃p,V.rd n=some p:=ZT.1 (hU2 n hnU);have IL:=rJ.visit;have hWl:(W++[n]).length+eP.length<=65536:=by
   have:=Va.rF fx (met:=(W++[n])++eP) IL.nd (fun n hn=>hU2 n (IL.sub X6 hU3 n ((IL.mem n).2 (eZ.1 hn))));rw[di]at this;exact this
  have Fg:iG V.rd n=cu p:=by unfold iG;rw[sA]
  have hrl:=uk ts;have hWk:=JY (Va.Fy fx) W;have hAl:A.length<=1000+8*W.length:=by rw[hA,di];omega
  rw[di,Jy]at hWl;have hlen:(eP++[n]).length=eP.length+1:=by simp
  rw[hlen]at Z;rw[hlen];have XQ:(bf (eP++[n]))[eP.length]?=some (I n):=by simp[bf]
  have Z:=Z.b [row 3 1 (.slice ta _ tc) _ _];obtain⟨-,tb,-,hta,htc,-⟩:=fZ Z H;have zy:∀R,aL (row 3 1 (sQ tb (eP.length+1) tc) (eP.length+1) (bf (eP++[n]))::R) (oJ (sQ tb (eP.length+1) tc) (bf (eP++[n]))):=fun R=>by
   have h:=oz (v:=sQ tb (eP.length+1) tc) (c:=eP++[n]) (R:=R);rw[hlen]at h;exact h
  rw[hta]at Z;rw[hta];have Z:=Z.b [row 3 1 (sQ tb _ tc) _ _,dm mm _];have V5:(((eP.length+1:Nat):Int)-1).toNat=eP.length:=H;refine wY 14 aY bF ?_;refine bg rfl rfl (aD.one (v:=I n) ag ((((zy _).of sF).at Z).at (by rw[V5];exact XQ))) ?_;refine aO rfl fk rfl (mB (n:=n) (Z.b [gX vq V]) fx) rfl fun w v53 hv=>?_;obtain⟨p',er,A',rfl,nq,kB,Z⟩:=hv;obtain⟨HB,rfl,rfl,oR⟩:=kB.resolve_left (fun h=>by rw[h.1]at sA;cases sA);refine wL 3 bW Z fun w wo Z=>?_;refine wN 0 (cs:=p'.cells) (l':=p'.cells) ay nq Z fun w Z=>?_;rw[sA]at HB
  obtain rfl:p=p'.pg:=Option.some.inj HB;refine wI 8 (fun h5=>?_) fun h5=>?_
  ·exact aS rfl h5
  refine z5 ?_;refine y0 rfl aY IF rfl sM rfl ⟨H,H⟩ ?_;rw[V5];have Z:=Z.b [row 3 1 (sQ tb _ tc) _ _];have Z:=IG Z (j:=eP.length) H;have Ui:(bf (eP++[n])).take eP.length=bf eP:=by simp[bf]
  rw[Ui]at Z;refine wA 4 (l:=p'.cells) ay Z ?_;refine aO rfl Cz rfl (EC (p:=p') Z (cL oR pK)) rfl fun w v63 hv=>?_;have Z:aw G (row 3 1 v63 (cu p'.pg).length (bf (cu p'.pg))::_) _:=hv;have Qm:=zt (Va.Fy fx n _ sA);obtain⟨ka,kc,rfl⟩:=aT Z;refine z4 ?_;have hz:=Z.b [row 3 1 (.slice ka _ kc) _ _,dm mm _,row 3 1 (sQ tb _ tc) _ _,N wo _ _,fg p',gX vq V];clear Z;have Z:=hz;clear hz;refine bx (fun m e w=>∃(j:Nat) (OP A':List Int) (tv:C),j<=(cu p'.pg).length/\m=(cu p'.pg).length-j/\e=[(0,pQ vq),(6, .map (some mm)),(7,tv),(63, .slice ka (cu p'.pg).length kc),(64,I (cu p'.pg).length),(65,I j)]/\(Tb V.rd (cj ts) (W++[n]) OP A'/\A'=A++(cu p'.pg).take j)/\aw G (row 3 1 (.slice ka (cu p'.pg).length kc) (cu p'.pg).length (bf (cu p'.pg))::dm mm (Vx A')::row 3 1 tv OP.length (bf OP)::N wo p'.cells 104::fg p'::gX vq V::L) w)
   (m:=(cu p'.pg).length) sB
   ⟨0,eP,A,_,de _,rfl,rfl,⟨IL,by simp⟩,Z⟩ ?_
  rintro m e w ⟨j,OP,A',tv,hj,rfl,rfl,⟨hlj,hA'⟩,Z⟩;refine wI 5 (fun h6=>?_) fun h6=>?_
  ·have pU:j<(cu p'.pg).length:=H;obtain⟨k,hk⟩:∃k,(cu p'.pg)[j]?=some k:=⟨_,dG pU⟩;have IM:(bf (cu p'.pg))[j]?=some (I k):=by simp[bf,hk]
   have hA2:A++(cu p'.pg).take (j+1)=A'++[k]:=by rw[bV hk,hA',gm]
   have hA3:A'.length<=1000+8*W.length+8:=by rw[hA',di,gJ];omega
   have gC:=acj (a:=k) (l:=A');have jr:(W++[n]).length+OP.length<=65536:=by
    have:=Va.rF fx (met:=(W++[n])++OP) hlj.nd (fun n hn=>hU2 n (hlj.sub X6 hU3 n ((hlj.mem n).2 (eZ.1 hn))));rw[di]at this;exact this
   have acW:=hlj.arrow (k:=k) (fun U Y J=>J n (hlj.min U Y J n ((hlj.mem n).2 (.inl sM))) k (by rw[Fg];exact fK hk));obtain⟨kb,ko,hka⟩:=(((oz (v:= .slice ka (cu p'.pg).length kc) (c:=cu p'.pg)).of sF).at Z).nn (by rw[bC];omega);cases hka;refine wY 5 aY bF ?_;refine bg rfl rfl (aD.one (v:=I k) ag ((((oz (v:= .slice (some ⟨kb,ko,none⟩) (cu p'.pg).length kc) (c:=cu p'.pg)).of sF).at Z).at (by rw[cZ];exact IM))) ?_;refine z6 ?_;refine GQ (v0:=I ((A'.count k:Nat):Int)) rfl iu dD uN rfl rfl Z pK (qG _ _) ?_;refine z1 ?_;refine WI rfl tV iu dD rfl rfl rfl Z pK rfl fun w Z=>?_;rw[aak]at Z;refine z5 ?_;refine GQ (v0:=I ((A'.count k:Nat)+1:Int)) rfl iu dD uN rfl rfl Z pK (by rw[qG,x4];rfl) ?_;refine wI 2 (fun h7=>?_) fun h7=>?_
   ·have h0:A'.count k=0:=H;rw[aB h0]at acW;refine z3 ?_;refine fb (cs:=[I k]) rfl aY bF fh dM rfl rfl rfl Z rfl fun w b79 Z=>?_;refine eF (m:=OP.length) (k:=1) (news:=[I k]) rfl aY bF j7 fh rfl rfl Z pK (Rd.iq Z pK) rfl (by intro u hu;simp at hu;subst hu;rfl) mL H rfl (fun w v80 Z=>?_);refine z6 ?_;have e1:bf OP++[I k]=bf (OP++[k]):=by simp[bf]
    have e2:OP.length+1=(OP++[k]).length:=by simp
    rw[e1,e2]at Z;exact⟨(cu p'.pg).length-(j+1),H,[(0,_),(6,_),(7,v80),(63,_),(64,_),(65,I (j+1:Nat))],sB,j+1,OP++[k],A'++[k],_,H,rfl,rfl,⟨acW,hA2.symm⟩,(Z.b [N b79 _ _,row 3 1 (.slice (some ⟨kb,ko,none⟩) _ kc) _ _,dm mm _,row 3 1 v80 _ _]).tail⟩
   have h0:¬A'.count k=0:=H;rw[aj h0]at acW;refine z5 ?_;exact⟨(cu p'.pg).length-(j+1),H,[(0,_),(6,_),(7,_),(63,_),(64,_),(65,I (j+1:Nat))],sB,j+1,OP,A'++[k],_,H,rfl,rfl,⟨acW,hA2.symm⟩,Z.b [row 3 1 (.slice (some ⟨kb,ko,none⟩) _ kc) _ _]⟩
  refine z1 ?_;have VO:j=(cu p'.pg).length:=H;rw[VO,qS]at hA';refine⟨65536-(W++[n]).length,by rw[di,Jy];omega,[(0,_),(6,_),(7,_)],sB,W++[n],OP,A',_,rfl,rfl,⟨hlj,?_⟩,(Z.b [row 3 1 (.slice ka _ kc) _ _,N wo _ _,fg p']).t3⟩;rw[hA',hA,TI,gm];simp[Fg]
 refine z8 ?_;exact ga rfl rfl rfl rfl (by
 have hz:st=[]:=vD H;subst hz;exact⟨mm,W,A,rfl,rJ.led hA,(Z.b [row 3 1 (.slice ta _ tc) _ _]).tail⟩)
def cvt(ai:Nat)(A vis:List Int):List Int:=(List.range ai).map fun i:Nat=>if(i:Int)+1∈vis then((A.count ((i:Int)+1):Nat):Int)else 0
def adl(ai:Nat)(A vis:List Int):(cvt ai A vis).length=ai:=by simp[cvt]
def adk(ai:Nat)(A:List Int):cvt ai A []=List.replicate ai 0:=by
 unfold cvt;refine Ju fun i=>?_
 rw[dh,Xc]
 by_cases h:i<ai
 ·rw[TH h,aB h];simp
 rw[yi (by simpa using Nat.le_of_not_lt h),aj h];rfl
def adj{k:Int}(h:1<=k/\k<=ai):(cvt ai A vis).set (k-1).toNat ((A.count k:Nat):Int)=cvt ai A (k::vis):=by
 obtain⟨j,rfl⟩:∃j:Nat,k=(j:Int)+1:=⟨(k-1).toNat,H⟩;have e:(((j:Int)+1)-1).toNat=j:=H;rw[e];refine Ju fun i=>?_
 rw[O3,adl];unfold cvt;rw[dh,dh]
 by_cases Y:i<ai
 ·rw[TH Y]
  by_cases J:j=i
  ·subst J;rw[aB rfl,aB Y];simp
  rw[aj J];simp only[Js,cE]
  congr 1
  have:((i:Int)+1=(j:Int)+1\/(i:Int)+1∈vis)↔(i:Int)+1∈vis:=⟨fun h=>h.elim (fun h=>by omega) id, .inr⟩;simp only[this]
 have:(List.range ai)[i]?=none:=yi (by simpa using Nat.le_of_not_lt Y);rw[this]
 by_cases J:j=i
 ·rw[aB J,aj H];rfl
 rw[aj J];rfl
def V9(ai:Nat)(A:List Int):List Int:=(List.range ai).map fun i:Nat=>((A.count ((i:Int)+1):Nat):Int)
def IS(ai:Nat)(A:List Int):(V9 ai A).length=ai:=by simp[V9]
def adm(h:∀k∈A,k∈vis):cvt ai A vis=V9 ai A:=by
 unfold cvt V9;refine QW fun i hi=>?_
 split
 ·rfl
 rename_i hn;rw[acr fun hm=>hn (h _ hm)];rfl
def Zw(n:Nat):L9 n (I 0)=bf (List.replicate n 0):=by simp[L9,bf,List.map_replicate]
def aaD{it:Nat}(Z:aw G (iter it m kv vis::R) w):aw G (dm m kv::R) w:=by
 obtain⟨es,ck,sq,vs,hf,_,_,_,Z⟩:=FP Z;exact sO hf Z.tail
def K8(Z:aw G (gX vq V::L) w)(fx:V.Ok)(kl:aL L (jk 3 lv (ts.map dI)))(sP:ts.length<=1000)(hr0:∀t∈ts,0<=t.root)(X6:∀r∈cj ts,r∈U)(hU2:∀n∈U,V.rd n≠none)(hU3:∀n∈U,∀k∈iG V.rd n,k∈U):
  aA prog 42 #[pQ vq,lv] w (bU fun u w'=>∃v W A,u= .tuple #[v,I 0]/\Led V.rd (cj ts) W A/\aw G (row 3 1 v V.po.c.length (bf (V9 V.po.c.length A))::gX vq V::L) w'):=by
 obtain⟨la,lc,IL,-,-⟩:=(kl.at Z.tail).form;have hN:=fx.po.len;refine wF [_,_] func42 ntmps42 ?_;refine z9 ?_;refine aO rfl P7 rfl (Sc Z fx kl sP hr0 X6 hU2 hU3) rfl fun w v14 hv=>?_;obtain⟨mm,W,A,rfl,MA,Z⟩:=hv;obtain⟨m,hf,Z⟩:=y7 (Z.b [gX vq V]);refine wI 12 (fun Y=>?_) fun Y=>?_
 ·exact aS rfl Y
 refine wD 6 (v:= .pointer (some ⟨m.q,0,none⟩)) gB Z ?_;refine wC rfl EX rfl (UL (Z.b [GY m.q V.po])) fun w Z=>?_
 have Z:=sY hf (Z.b [N vq _ _,dm m.om _,gz m.S,row 284 2 m.av _ _,bt (m.Iu.map QF),GY m.q V.po]);refine yY rfl aY bF j7 YV rfl rfl ⟨H,H⟩ H H Z rfl fun w b25 Z=>?_;simp only[cZ]at Z;simp only[cZ];rw[Zw]at Z
 refine z6 ?_;refine agr rfl iu rfl Z pK rfl fun w it Z=>?_;have Z:=jx (z:=1) (m:=V.po.c.length) (Z.b [N b25 _ _]) (by rw[bC];simp) mL;rw[<-adk V.po.c.length A]at Z;refine z2 ?_;refine bx (fun m e w=>∃(vis:List Int),m=(iO A).length-vis.length/\e=[(8,sQ b25 V.po.c.length V.po.c.length),(27,pQ it)]/\(vis.Nodup/\∀k∈vis,k∈A)/\aw G (row 3 1 (sQ b25 V.po.c.length V.po.c.length) V.po.c.length (bf (cvt V.po.c.length A vis))::iter it mm (Vx A) vis::gX vq V::L) w)
  (m:=(iO A).length) sB
  ⟨[],rfl,rfl,⟨Tz,by simp⟩,Z⟩ ?_
 rintro m e w ⟨vis,rfl,rfl,⟨hvn,hvA⟩,Z⟩;refine z2 ?_;refine ahJ rfl rfl Z pK rfl (fun w jg Z=>?_) fun w k v hk XV Z=>?_
 ·refine z3 ?_;refine cD rfl ?_;refine z8 ?_;exact ga rfl rfl rfl rfl (by
 have RE:∀k∈A,k∈vis:=fun k hk=>jg k _ (by rw[Ea,aB hk])
 rw[adm RE]at Z;exact⟨_,W,A,rfl,MA,(aaD (Z.b [iter it mm _ _])).tail⟩)
 rw[Ea]at hk;have hkA:k∈A:=Classical.byContradiction fun h=>by rw[aj h]at hk;cases hk
 rw[aB hkA]at hk;obtain rfl:=Option.some.inj hk;have hk:dJ (Vx A) k=some (I ((A.count k:Nat):Int)):=by rw[Ea,aB hkA]
 have Ha:1<=k/\k<=(V.po.c.length:Int):=Va.Vm (hU2 k (MA.min (·∈U) X6 hU3 k (MA.sub k hkA)));have BC:=px (Bx.2 ⟨XV,hvn⟩) (m:=iO A) (fun x E=>zn.2 ((cE.1 E).elim (fun h=>h▸hkA) (hvA x)));rw[kZ]at BC;refine z3 ?_;refine cr rfl ?_;refine z4 ?_;refine agC rfl rfl Z pK hk ?_;refine wY 10 aY bF ?_;refine sX (j:=(k-1).toNat) (xs':=bf (cvt V.po.c.length A (k::vis))) rfl tV rfl rfl ag rfl Z pK H sM (by rw[<-adj Ha];simp[bf,QR]) rfl (fun w Z=>?_);refine aK ?_;exact⟨(iO A).length-(vis.length+1),H,[(8,_),(27,_)],sB,k::vis,rfl,rfl,⟨Bx.2 ⟨XV,hvn⟩,fun x E=>(cE.1 E).elim (fun h=>h▸hkA) (hvA x)⟩,Z⟩
def mkE(Ds:List Nat):cX:=Ds.map fun D=>(1000000000,pQ D)
def FI(Ds:List Nat):marks (mkE Ds)=Ds.map fun D=>(pQ D:C):=by
 induction Ds with
 |nil=>rfl
 |cons D Ds ih=>simp only[mkE,ey,marks,Ty,cond]at ih ⊢;rw[ih]
def vz(Ds:List Nat)(e:cX):gd (mkE Ds) e:=by
 induction Ds with
 |nil=>exact gd.nil e
 |cons D Ds ih=>exact gd.mark ih
def Bg{P:au}{n:Nat}{fn:Func}{Q:C->ae->Prop}{e:cX}{G:Gh}:∀{Ds:List Nat} {L R:List aF} {w:ae},aw G L w->dE (bt (Ds.map fun D=>fS D)) L R->(∀w',aw G R w'->sj P n fn Q e [] w')->sj P n fn Q e (Ds.map fun D=>(pQ D:C)) w
 |[],L,R,w,Z,hp,h=>h w (Z.drop hp)
 |D::Ds,L,R,w,Z,hp,h=>by
  have Y:=(Z.pick hp).Sx;exact mu Y .here fun w' J=>Bg J .here h
def KL{rd:Int->Option Pg}(hr:Ix rd):∀{k:Nat} {n:Int},∀x∈jY rd k n,x.1.length<=24
 |0,n,x,E=>by
  rw[jY]at E;cases h:rd n with
  |none=>rw[h]at E;cases E
  |some p=>
   rw[h]at E;obtain⟨y,hy,rfl⟩:=dY.1 E;exact J3 (hr n p h) y hy
 |k+1,n,x,E=>by
  rw[jY]at E;cases h:rd n with
  |none=>rw[h]at E;cases E
  |some p=>
   rw[h]at E;obtain⟨y,hy,J⟩:=TC.1 E;exact KL hr x J
def He{rd:Int->Option Pg}(hr:Ix rd){t:Tr}:∀x∈dz rd t,x.1.length<=24/\x.2.length<=3840:=fun x E=>by
 unfold dz at E;split at E
 ·cases E
 exact⟨KL hr x E,xr x E⟩
def NF(fx:V.Ok){t:Tr}(h:qu V.rd t=0):(0<=t.items/\t.items<=524288)/\((dz V.rd t).length:Int)=t.items/\0<=t.root:=by
 rcases tA (Va.Fy fx) h with Y|⟨M,Y⟩
 ·have J:=Y;unfold fY at J;have e:dz V.rd t=[]:=by unfold dz;rw[aB J.1]
  exact⟨H,by rw[e];simp;omega,H⟩
 have J:=Va.rF fx Y.nd Y.th;have h3:=Y.many;have h4:=Y.form;unfold jT at h4;have h5:=Y.items;have h7:=Va.Vm (Y.th _ Y.root);have e:dz V.rd t=jY V.rd (t.bh-1).toNat t.root:=by unfold dz;rw[aj h4.1]
 exact⟨H,by rw[e];exact h5,H⟩
def NQ{rd:Int->Option Pg}(hr:Ix rd):∀{ts:List Tr},(∀t∈ts,qu rd t=0)->∃U:List Int,(∀r∈cj ts,r∈U)/\(∀n∈U,rd n≠none)/\∀n∈U,∀k∈iG rd n,k∈U
 |[],_=>⟨[],by simp[cj],by simp,by simp⟩
 |t::ts,h=>by
  obtain⟨U,Y,J,h3⟩:=NQ hr fun t ht=>h t (kG _ ht)
  have Me:cj (t::ts)=(if 0<t.root then [t.root]else [])++cj ts:=by
   unfold cj;rw[ey,FA]
   by_cases h0:0<t.root
   ·rw[aB (eW h0),aB h0];rfl
   rw[aj (by simpa using h0),aj h0];rfl
  rcases tA hr (h t (kf ..))with hn|⟨M,hM⟩
  ·unfold fY at hn;refine⟨U,?_,J,h3⟩;rw[Me,aj H];exact Y
  refine⟨M++U,fun r hr=>?_,fun n hn=>?_,fun n hn k hk=>?_⟩
  ·rw[Me]at hr;rcases eZ.1 hr with hr|hr
   ·split at hr
    ·simp at hr;subst hr;exact lT _ hM.root
    cases hr
   exact Jw _ (Y r hr)
  ·rcases eZ.1 hn with hn|hn
   ·exact hM.th n hn
   exact J n hn
  rcases eZ.1 hn with hn|hn
  ·exact lT _ (hM.kids n hn k hk)
  exact Jw _ (h3 n hn k hk)
def PC(h:i<ai):(V9 ai A)[i]?=some ((A.count ((i:Int)+1):Nat):Int):=by
 unfold V9;rw[dh,TH h];rfl
def Ov:V9 c.length A=c↔L7 c A:=by
 constructor
 ·intro h i x E;have hi:=(qj.1 E).1;have Y:=PC (A:=A) hi;rw[h,E]at Y;exact(Option.some.inj Y).symm
 intro h;refine Ju fun i=>?_
 by_cases hi:i<c.length
 ·obtain⟨x,E⟩:∃x,c[i]?=some x:=⟨_,dG hi⟩;rw[PC hi,E,h i x E]
 rw[yi (by rw[IS];omega),yi H]
def ni(A:List Int)(k:Nat):List Int:=((List.range k).map fun i:Nat=>(i:Int)+1).filter fun n=>decide (n∈A)
def QD(A:List Int)(k:Nat):ni A (k+1)=ni A k++if(k:Int)+1∈A then [(k:Int)+1]else []:=by
 unfold ni;rw[TB,jX,Mn]
 congr 1
 by_cases h:(k:Int)+1∈A<;>simp[h]
def abV(A:List Int)(k:Nat):(ni A k).length<=k:=by
 have:=QX (fun n=>decide (n∈A)) ((List.range k).map fun i:Nat=>(i:Int)+1);rw[cg,W5]at this;exact this
def abU{n:Int}:n∈ni A k↔n∈A/\1<=n/\n<=k:=by
 unfold ni;rw[Ml,dY]
 constructor
 ·rintro⟨⟨i,hi,rfl⟩,h⟩;rw[sr]at hi;exact⟨by simpa using h,H,H⟩
 rintro⟨Y,J,h3⟩;exact⟨⟨(n-1).toNat,by rw[sr];omega,H⟩,by simpa using Y⟩
def WJ(A:List Int)(k:Nat):(ni A k).Nodup:=by
 unfold ni;refine List.Nodup.sublist List.filter_sublist ?_
 induction k with
 |zero=>simp
 |succ k ih=>
  rw[TB,jX,Hv];refine⟨ih,by simp,fun a ha b hb=>?_⟩;obtain⟨i,hi,rfl⟩:=dY.1 ha;rw[sr]at hi;simp at hb
  omega
def Vj{rd:Int->Option Pg}{us:List Tr}{W':List Int}(h:W.Perm W'):Fx rd ts us W=Fx rd ts us W':=by
 have e1:∀k,fW rd k W=fW rd k W':=fun k=>by unfold fW;rw[(h.filter _).length_eq]
 have e2:lV rd W=lV rd W':=by unfold lV;rw[(h.filter _).length_eq]
 unfold Fx;rw[h.length_eq,e1,e1,e2]
def Led.perm{rd:Int->Option Pg}{W' A':List Int}(h:Led rd roots W A)(h':Led rd roots W' A'):W.Perm W'/\A.Perm A':=by
 have key:∀{W A W' A':List Int},Led rd roots W A->Led rd roots W' A'->∀n∈W,n∈W':=fun{W A W' A'} h h'=>by
  refine h.min (·∈W') (fun r hr=>h'.sub r (by rw[h'.arr];exact lT _ hr)) fun n hn k hk=>h'.sub k ?_
  rw[h'.arr];exact Jw _ (TC.2 ⟨n,hn,hk⟩)
 have hp:W.Perm W':=(List.perm_ext_iff_of_nodup h.nd h'.nd).2 fun a=>⟨key h h' a,key h' h a⟩
 refine⟨hp,?_⟩;rw[h.arr,h'.arr];exact List.Perm.append_left _ (hp.flatMap_right _)
def ve.one{rd:Int->Option Pg}{rp':Rp}{er':Int}(h:ve rd c ts rp er)(h':ve rd c ts rp' er'):rp=rp'/\er=er':=by
 rcases h with⟨⟨t,ht,hc⟩,rfl,rfl⟩|⟨hc,W,A,hl,h⟩<;>rcases h' with⟨⟨t',ht',YN⟩,rfl,rfl⟩|⟨YN,W',A',hl',h'⟩
 ·exact⟨rfl,rfl⟩
 ·exact aS (YN t ht) hc
 ·exact aS (hc t' ht') YN
 obtain⟨p1,p2⟩:=hl.perm hl';have hcf:L7 c A↔L7 c A':=by
  unfold L7
  constructor
  ·intro h i x E;rw[<-h i x E,p2.count_eq]
  intro h i x E;rw[<-h i x E,p2.count_eq]
 rcases h with⟨hf,rfl,rfl⟩|⟨hf,rfl,rfl⟩<;>rcases h' with⟨hf',rfl,rfl⟩|⟨hf',rfl,rfl⟩
 ·exact⟨Vj p1,rfl⟩
 ·exact aS (hcf.1 hf) hf'
 ·exact aS (hcf.2 hf') hf
 exact⟨rfl,rfl⟩
abbrev CK:=Int×Int
def j6(c:CK):List C:=[I c.1,I c.2]
def Cv(c:CK):C:=gQ (j6 c)
abbrev KC:=List (CK×C)
def uH:KC->CK->Option C
 |[],_=>none
 |(k,v)::r,i=>if i=k then some v else uH r i
def pZ:KC->CK->C->KC
 |[],i,v=>[(i,v)]
 |(k,u)::r,i,v=>if i=k then(k,v)::r else(k,u)::pZ r i v
def iB:KC->CK->Nat->Option (Nat×C)
 |[],_,_=>none
 |(k,v)::r,i,j=>if i=k then some (j,v)else iB r i (j+1)
def Ot(kv:KC)(i:CK)(v:C)(j:CK):uH (pZ kv i v) j=if j=i then some v else uH kv j:=by
 induction kv with
 |nil=>simp[pZ,uH]
 |cons p r ih=>
  obtain⟨k,u⟩:=p
  by_cases h:i=k
  ·subst h;simp only[pZ,if_true,uH];split<;>rfl
  simp only[pZ,aj h,uH,ih]
  by_cases Y:j=k
  ·subst Y;simp[Ne.symm h]
  simp[Y]
def De(i:CK):∀(kv:KC) (j:Nat),(iB kv i j).map (·.2)=uH kv i
 |[],_=>rfl
 |(k,v)::r,j=>by by_cases h:i=k<;>simp[iB,uH,h,De i r]
def Lj{i:CK}{v:C}:∀{kv:KC} {j:Nat},iB kv i j=none->pZ kv i v=kv++[(i,v)]
 |[],_,_=>rfl
 |(k,u)::r,j,h=>by
  by_cases hk:i=k
  ·subst hk;simp[iB]at h
  simp[iB,hk]at h;simp[pZ,hk,Lj (v:=v) h]
def Sl{a:CK}{u:C}:∀{kv:KC} {j q:Nat},iB kv a j=some (q,u)->j<=q
 |[],j,q,h=>by simp[iB]at h
 |(k,x)::r,j,q,h=>by
  by_cases hk:a=k
  ·simp[iB,hk]at h;omega
  simp[iB,hk]at h;have:=Sl h;omega
def Qg(es:List aZ):List (C×C):=es.map fun e=>(e.key,e.val)
def vE(kv:KC):List (C×C):=kv.map fun p=>(Cv p.1,p.2)
def Ow{a:CK}{u:C}:∀{kv:KC} {j q:Nat},iB kv a j=some (q+j,u)->(vE kv)[q]?=some (Cv a,u)
 |[],j,q,h=>by simp[iB]at h
 |(k,x)::r,j,q,h=>by
  by_cases hk:a=k
  ·subst hk;simp[iB]at h;obtain⟨Y,rfl⟩:=h;subst Y;simp[vE]
  simp only[iB,aj hk]at h;have Y:=Sl h;obtain⟨q',rfl⟩:∃q',q=q'+1:=⟨q-1,H⟩;rw[show q'+1+j=q'+(j+1) by omega]at h
  have:=Ow h
  simpa [vE]using this
def Gn(i:CK)(v:C):∀(es:List aZ) (kv:KC) (j:Nat),Qg es=vE kv->∀q u,iB kv i j=some (q,u)->j<=q/\∃e,es[q-j]?=some e/\e.key=Cv i/\Qg (es.modify (q-j) fun e=>{e with key:=Cv i,val:=v})=vE (pZ kv i v)
 |[],[],_,_,_,_,h=>by simp[iB]at h
 |[],_::_,_,h,_,_,_=>by simp[Qg,vE]at h
 |_::_,[],_,h,_,_,_=>by simp[Qg,vE]at h
 |e::es,(k,u)::kv,j,h,q,u',hf=>by
  simp only[Qg,vE,ey,List.cons.injEq,Prod.mk.injEq]at h;obtain⟨⟨Y,J⟩,h3⟩:=h
  by_cases hk:i=k
  ·subst hk;simp[iB]at hf;obtain⟨rfl,rfl⟩:=hf;refine⟨fP _,e,?_⟩;simp[pZ,Qg,vE,Y,h3]
  simp[iB,hk]at hf;obtain⟨hle,e',h4,h5,h6⟩:=Gn i v es kv (j+1) h3 q u' hf;have hq:q-j=(q-(j+1))+1:=H;refine⟨H,e',?_⟩;rw[hq];refine⟨by simpa using h4,h5,?_⟩;unfold Qg vE at h6 ⊢
  simp only[acn,ey,pZ,aj hk,h6,Y,J]
def Sf{a:CK}{u v:C}:∀{kv:KC},pZ (pZ kv a u) a v=pZ kv a v
 |[]=>by simp[pZ]
 |(k,x)::r=>by
  by_cases h:a=k
  ·subst h;simp[pZ]
  simp[pZ,h,Sf (kv:=r)]
def xA{a:CK}{v:C}:∀{kv:KC} {j:Nat},iB (pZ kv a v) a j=some (((iB kv a j).map (·.1)).getD (j+kv.length),v)
 |[],j=>by simp[pZ,iB]
 |(k,x)::r,j=>by
  by_cases h:a=k
  ·subst h;simp[pZ,iB]
  simp only[pZ,aj h,iB,xA (kv:=r) (j:=j+1),kZ];rw[show j+1+r.length=j+(r.length+1) by omega]
structure L6(es:List aZ)(ck:Nat)(kv:KC):Prop where
 p3:Qg es=vE kv
 qV:∀e∈es,e.born<ck
 CC:(es.map (·.born)).Nodup
def L6.push{ck:Nat}{kv:KC}{a:CK}(h:L6 es ck kv)(hn:iB kv a 0=none):L6 (es++[{key:=Cv a,val:=v,born:=ck}]) (ck+1) (pZ kv a v):=by
 refine⟨?_,fun e he=>?_,?_⟩
 ·rw[Lj hn];have:=h.p3;unfold Qg vE at this ⊢;simp[this]
 ·simp at he;rcases he with he|rfl
  ·have:=h.qV e he;omega
  simp
 simp only[jX,ey,l9];refine Hv.2 ⟨h.CC,by simp,fun b hb c hc=>?_⟩;simp at hc;subst hc;obtain⟨e,he,rfl⟩:=dY.1 hb;have:=h.qV e he;omega
def D4(k:C->C)(f:C->C):∀(es:List aZ) (q:Nat),(es.modify q fun e=>{e with key:=k e.key,val:=f e.val}).map (·.born)=es.map (·.born)
 |[],q=>by simp
 |e::es,0=>by simp
 |e::es,q+1=>by simp only[acn,ey,D4 k f es q]
def L6.set{ck:Nat}{kv:KC}{a:CK}(h:L6 es ck kv)(hq:iB kv a 0=some (q,u)):∃e,es[q]?=some e/\e.key=Cv a/\L6 (es.modify q fun e=>{e with key:=Cv a,val:=v}) ck (pZ kv a v):=by
 obtain⟨_,e',h4,h5,h6⟩:=Gn a v es kv 0 h.p3 q u hq;simp only[Nat.sub_zero]at h4 h6;have hb:=D4 (fun _=>Cv a) (fun _=>v) es q;refine⟨e',h4,h5,h6,fun x E=>?_,by rw[hb];exact h.CC⟩;have J8:x.born∈(es.modify q fun e=>{e with key:=Cv a,val:=v}).map (·.born):=dY.2 ⟨x,E,rfl⟩;rw[hb]at J8
 obtain⟨z,hz,hzb⟩:=dY.1 J8;have:=h.qV z hz;omega
def CO(m:Nat)(kv:KC):aF:=fun h=>∃es ck,h m=some (.map es ck)/\L6 es.toList ck kv
def TZ(m:Nat)(kv:KC)(a:CK)(u:C)(st:Nat):aF:=fun h=>∃es ck q e,h m=some (.map es ck)/\L6 es.toList ck (pZ kv a u)/\iB (pZ kv a u) a 0=some (q,u)/\es.toList[q]?=some e/\e.born=st
structure Ck2(P:au)(kt:aC):Prop where
 eq:∀(a b:CK) (w:ae),(Op.equal kt (Cv a) (Cv b)).run P w= .ok (decide (a=b)) w
 chk:∀(b:Bool) (a:CK) (w:ae),(Instr.checkKey b 10000 kt (Cv a)).run P w= .ok () w
 und:∃fs,P.underlying kt=some (.struct fs)
section
variable{done r:List Nat}
variable{x c:aM}{kv:KC}{kt et:aC}{a:CK}
def N2(Z:aw G (CO m kv::R) w):∃es ck,L6 es.toList ck kv/\aw G (pt m (.map es ck)::R) w:=by
 obtain⟨hg,h,hh,Y,J,hd,hu,⟨es,ck,hm,hf⟩,hL⟩:=Z;exact⟨es,ck,hf,hg,h,hh,Y,J,hd,hu,hm,hL⟩
def N1{es:Array aZ}{ck:Nat}(hf:L6 es.toList ck kv)(Z:aw G (pt m (.map es ck)::R) w):aw G (CO m kv::R) w:=Z.gN fun h hm=>⟨es,ck,hm,hf⟩
def Jh(hk:Ck2 P kt)(w:ae):∀(es:List aZ) (kv:KC) (j:Nat),Qg es=vE kv->(Instr.findAsking kt (Cv a) es j).run P w= .ok (iB kv a j) w
 |[],[],_,_=>rfl
 |[],_::_,_,h=>by simp[Qg,vE]at h
 |_::_,[],_,h=>by simp[Qg,vE]at h
 |e::es,(k,u)::kv,j,h=>by
  simp only[Qg,vE,ey,List.cons.injEq,Prod.mk.injEq]at h;obtain⟨⟨Y,J⟩,h3⟩:=h;rw[Instr.findAsking,al,Y,hk.eq,ah]
  by_cases hh:a=k
  ·simp[hh,iB,J]
  simp only[hh,decide_false,W7,if_false,iB];exact Jh hk w es kv (j+1) h3
def Fu(hk:Ck2 P kt)(hf:Qg es=vE kv)(w:ae):(Instr.findKey kt (Cv a) es).run P w= .ok (iB kv a 0) w:=by
 obtain⟨fs,hu⟩:=hk.und;unfold Instr.findKey;rw[al,aE hu,ah];cases es with
 |nil=>cases kv with
  |nil=>rfl
  |cons x kv=>simp[Qg,vE]at hf
 |cons e es=>
  have Y:Instr.findNow (.struct fs) (Cv a) (e::es) 0=none:=by simp[Instr.findNow,Instr.sameNow]
  rw[Y];exact Jh hk w _ _ _ hf
def Zr(a:CK):Instr.sameBits 10000 (Cv a) (Cv a)=true:=by
 obtain⟨x,y⟩:=a;simp[Cv,j6,Instr.sameBits]
def aeL(ho:O[i]?=some ⟨some d, .makeMap s none,t,p,af,g⟩)(hd:Nat.blt d n=true)(hg:Gd O e g)(Z:aw G L w)(hpd:gZ P O dr done i=[])
  (h:∀w' m,aw G (CO m []::L) w'->XL P n O dr (i::done) r K ((d, .map (some m))::e) w'):XL P n O dr done (i::r) K e w:=by
 refine jG ho (by simpa [dA]using hd) hg (ρ:=rh e) (by intro z hZ;simp[Op.operands]at hZ) rfl (v:= .map (some w.heap.size)) (w':={w with heap:=w.heap.push (.map #[] 0)}) ?_ (gM hpd) (h _ _ (N1 ⟨rfl,by simp,by simp⟩ (Z.push _)));simp[execOp,Instr.makeMap,newObj,Sem.run]
def YZ{z:C}(ho:O[i]?=some ⟨some d, .lookup s x y false,t,p,af,g⟩)(hd:Nat.blt d n=true)(hg:Gd O e g)(hs:P.underlying s=some (.map kt et))(hk:Ck2 P kt)(hz:(P.info? et).bind (·.zero)=some z)(E:ev e x=some (.map (some m)))(hy:ev e y=some (Cv a))(Z:aw G L w)(hp:dE (CO m kv) L R)(XO:(uH kv a).getD z=v0)(h:XL P n O dr (i::done) r K ((d,v0)::e) w):XL P n O dr done (i::r) K e w:=by
 subst XO;obtain⟨es,ck,hf,mP⟩:=N2 (Z.pick hp);refine AU ho (by simpa [dA]using hd) hg (ρ:=rh e) (by intro z hZ;simp[Op.operands]at hZ;exact Hz E hy hZ) rfl (v:=(uH kv a).getD z) ?_ h;have Y:=fV (P:=P) mP.eh sM;have J:=De a kv 0;have h3:=Fu (a:=a) hk hf.p3;cases hi:P.info? et with
 |none=>simp[hi]at hz
 |some inf=>
  have sy:inf.zero=some z:=by simpa [hi]using hz
  cases yR:iB kv a 0 with
  |none=>rw[yR]at J h3;simp at J;simp[execOp,bM E,bM hy,Instr.lookup,aE hs,Y,hk.chk,h3,zeroValue,typeInfo,hi,sy,<-J]
  |some q=>obtain⟨q,u⟩:=q;rw[yR]at J h3;simp at J;simp[execOp,bM E,bM hy,Instr.lookup,aE hs,Y,hk.chk,h3,<-J]
def N0{st:Nat}(Z:aw G (TZ m kv a u st::R) w):∃es ck q e,L6 es.toList ck (pZ kv a u)/\iB (pZ kv a u) a 0=some (q,u)/\es.toList[q]?=some e/\e.born=st/\aw G (pt m (.map es ck)::R) w:=by
 obtain⟨hg,h,hh,Y,J,hd,hu,⟨es,ck,q,e,hm,hf,hq,he,hb⟩,hL⟩:=Z;exact⟨es,ck,q,e,hf,hq,he,hb,hg,h,hh,Y,J,hd,hu,hm,hL⟩
def ago{z:C}(ho:O[i]?=some ⟨some d, .mapEntry s x y,t,p,af,g⟩)(hd:Nat.blt d n=true)(hg:Gd O e g)(hs:P.underlying s=some (.map kt et))(hk:Ck2 P kt)(hz:(P.info? et).bind (·.zero)=some z)(E:ev e x=some (.map (some m)))(hy:ev e y=some (Cv a))(Z:aw G L w)(hp:dE (CO m kv) L R)(hu:(uH kv a).getD z=u)(hpd:∀w' st,aw G (TZ m kv a u st::R) w'->∀q∈gZ P O dr done i,xQ P n O q ((d, .tuple #[u,I (st:Nat)])::e) w')(h:∀w' st,aw G (TZ m kv a u st::R) w'->XL P n O dr (i::done) r K ((d, .tuple #[u,I (st:Nat)])::e) w'):XL P n O dr done (i::r) K e w:=by
 obtain⟨es,ck,hf,mP⟩:=N2 (Z.pick hp);have Y:=fV (P:=P) mP.eh sM;have SU:=fun o'=>qh (P:=P) o' mP.eh sM
 have h3:=Fu (a:=a) hk hf.p3;have J:=De a kv 0;cases hi:P.info? et with
 |none=>simp[hi]at hz
 |some inf=>
  have sy:inf.zero=some z:=by simpa [hi]using hz
  cases yR:iB kv a 0 with
  |none=>
   rw[yR]at h3 J;have hul:u=z:=by rw[<-hu,<-J];rfl
   subst hul;have nr:=hf.push (v:=u) yR;have hfp:=xA (a:=a) (v:=u) (kv:=kv) (j:=0);rw[yR]at hfp;simp only[Option.map_none,Option.getD_none,mT]at hfp
   have hlen:es.toList.length=kv.length:=by have:=aU List.length hf.p3;simpa [Qg,vE]using this
   have CW:aw G (TZ m kv a u ck::R) {w with heap:=w.heap.setIfInBounds m (.map (es.push {key:=Cv a,val:=u,born:=ck}) (ck+1))}:=(mP.set _).gN fun hh hm=>⟨_,ck+1,kv.length,{key:=Cv a,val:=u,born:=ck},hm,by rw[Array.toList_push];exact nr,hfp,by rw[Array.toList_push,<-hlen];simp,rfl⟩
   refine jG ho (by simpa [dA]using hd) hg (ρ:=rh e) (by intro z hZ;simp[Op.operands]at hZ;exact Hz E hy hZ) rfl (v:= .tuple #[u,I (ck:Nat)]) (w':=_) ?_ (hpd _ ck CW) (h _ ck CW);simp[execOp,bM E,bM hy,Instr.mapEntry,aE hs,Y,hk.chk,h3,zeroValue,typeInfo,hi,sy,SU,goInt]
  |some q=>
   obtain⟨q,u'⟩:=q;rw[yR]at h3 J;have hul:u=u':=by rw[<-hu,<-J];rfl
   subst hul;obtain⟨e',h4,h5,nr⟩:=hf.set (v:=u) yR;have hfp:=xA (a:=a) (v:=u) (kv:=kv) (j:=0);rw[yR]at hfp;simp only[Js,TD]at hfp
   have XX:((es[q]?).map (·.key)).getD (Cv a)=Cv a:=by
    have:es[q]?=some e':=by simpa using h4
    simp[this,h5]
   have afx:e'.val=u:=by
    obtain⟨_,e2,h6,h7,h8⟩:=Gn a u es.toList kv 0 hf.p3 q u yR;simp only[Nat.sub_zero]at h6;rw[h4]at h6
    cases h6;have E:(Qg es.toList)[q]?=some (e'.key,e'.val):=by simp[Qg,h4]
    have hcf:∀(kv:KC) (j:Nat),iB kv a j=some (q+j,u)->(vE kv)[q]?=some (Cv a,u):=by
     exact fun kv j hh=>Ow hh
    have:=hcf kv 0 yR;rw[<-hf.p3,E]at this;exact aU Prod.snd (Option.some.inj this)
   have ym:(es.modify q fun e=>{e with key:=Cv a}).toList=es.toList.modify q fun e=>{e with key:=Cv a,val:=u}:=by
    rw[Array.toList_modify];apply Ju;intro j;rw[ZL,ZL]
    by_cases hj:q=j
    ·subst hj;simp[h4,afx]
    simp[hj]
   have CW:aw G (TZ m kv a u e'.born::R) {w with heap:=w.heap.setIfInBounds m (.map (es.modify q fun e=>{e with key:=Cv a}) ck)}:=(mP.set _).gN fun hh hm=>⟨_,ck,q,{e' with key:=Cv a,val:=u},hm,by rw[ym];exact nr,hfp,by rw[ym,ZL];simp[h4],rfl⟩
   refine jG ho (by simpa [dA]using hd) hg (ρ:=rh e) (by intro z hZ;simp[Op.operands]at hZ;exact Hz E hy hZ) rfl (v:= .tuple #[u,I (e'.born:Nat)]) (w':=_) ?_ (hpd _ _ CW) (h _ _ CW);have he2:es[q]?=some e':=by simpa using h4
   simp[execOp,bM E,bM hy,Instr.mapEntry,aE hs,Y,hk.chk,h3,SU,goInt,XX,Instr.keyThatStays,Zr,he2,h5]
def agp{st:Nat}(ho:O[i]?=some ⟨none, .entryStore s x y c,t,p,af,g⟩)(hg:Gd O e g)(E:ev e x=some (.map (some m)))(hy:ev e y=some (I (st:Nat)))(hc:ev e c=some v)(Z:aw G L w)(hp:dE (TZ m kv a u st) L R)(hpd:gZ P O dr done i=[])(h:∀w',aw G (CO m (pZ kv a v)::R) w'->XL P n O dr (i::done) r K e w'):XL P n O dr done (i::r) K e w:=by
 obtain⟨es,ck,q,e0,hf,hq,he,hb,mP⟩:=N0 (Z.pick hp);have Y:=fV (P:=P) mP.eh sM;have SU:=fun o'=>qh (P:=P) o' mP.eh sM
 obtain⟨e',h4,h5,nr⟩:=hf.set (v:=v) hq;rw[he]at h4;cases h4;rw[Sf]at nr
 have aiI:es.findIdx? (fun e=>(e.born:Int)==(st:Int))=some q:=by
  have h0:es=es.toList.toArray:=by simp
  rw[h0,List.findIdx?_toArray,List.findIdx?_eq_some_iff_getElem];obtain⟨fR,heq⟩:=qj.1 he;refine⟨fR,by rw[heq,hb];simp,fun j hj=>?_⟩;intro X3;have hjb:(es.toList[j]).born=st:=by simp at X3 ⊢;omega
  have SX:=hf.CC;have h6:(es.toList.map (·.born))[j]?=(es.toList.map (·.born))[q]?:=by
   rw[dh,dh,he,dG H];simp only[Js,hjb,hb]
  have hlj:j<(es.toList.map (·.born)).length:=by rw[cg];omega
  have:=(List.getElem?_inj hlj SX).1 h6;omega
 have ym:(es.modify q fun e=>{e with val:=v}).toList=es.toList.modify q fun e=>{e with key:=Cv a,val:=v}:=by
  rw[Array.toList_modify];apply Ju;intro j;rw[ZL,ZL]
  by_cases hj:q=j
  ·subst hj;simp[he,h5]
  simp[hj]
 refine DF ho rfl hg (ρ:=rh e) (by intro z hZ;simp[Op.operands]at hZ;exact oh3 E hy hc hZ) rfl (w':=_) ?_ (gM (dst:=none) hpd) (h _ (N1 (ck:=ck) (by rw[ym];exact nr) (mP.set _)));simp[execOp,bM E,bM hy,bM hc,Instr.entryStore,Y,asInt,asIntOf,aiI,SU]
def ads{dq:Nat}{z:C}{st:Nat}{gq:Option (Nat×Bool)}{pq:String}{aq:Array Edge}{tq:aC}(ho:O[q]?=some ⟨some dq, .lookup s x y false,tq,pq,aq,gq⟩)(hs:P.underlying s=some (.map kt et))(hk:Ck2 P kt)(hz:(P.info? et).bind (·.zero)=some z)(E:ev e x=some (.map (some m)))(hy:ev e y=some (Cv a))(hv:get e dq=some u)(Z:aw G L w)(hp:dE (TZ m kv a u st) L R):xQ P n O q e w:=by
 intro o' Oc a' ha J9;have:o'=⟨some dq, .lookup s x y false,tq,pq,aq,gq⟩:=Option.some.inj (Oc.symm.trans ho);subst this;obtain⟨es,ck,q1,e0,hf,hq,he,hb,mP⟩:=N0 (Z.pick hp);have Y:=fV (P:=P) mP.eh sM;have h3:=Fu (a:=a) hk hf.p3;rw[hq]at h3;refine⟨u,?_,fun d' vk=>?_⟩
 ·have hxa:=ha.ev E;have hya:=ha.ev hy;simp[execOp,hxa,hya,Instr.lookup,aE hs,Y,hk.chk,h3]
 cases vk;exact ha.get dq u hv
end
def Bs:Ck2 prog 163:=by
 refine⟨fun a b w=>?_,fun b a w=>by kernel_rfl,⟨prog.fieldsOf 163,by kernel_rfl⟩⟩;have hf:((prog.fieldsOf 163).toList.map fun f=>(f.name != "_",f.type,f.offset))=[(true,3,0),(true,3,1)]:=by kernel_rfl
 obtain⟨f1,f2,h,Y,J⟩:=afq hf;have hu:prog.underlying 3=some (.int .i64):=dD;simp only[Prod.mk.injEq,bne_iff_ne,ne_eq]at Y J;have hp:∀(xs:Array C) (o:Nat) (v:C) (w:ae),xs[o]?=some v->(part 3 xs o).run prog w= .ok v w:=by
  intro xs o v w hv;exact run_part_plain w kR hv
 unfold Op.equal
 show(Op.equalIn (9998+2) 163 (gQ (j6 a)) (gQ (j6 b))).run prog w=_
 rw[run_equalIn_agg _ _ _ _ _ kR kR,h];simp[Op.eqFields,Y,J,hp,j6,run_equalIn_int _ _ _ _ _ _ _ hu];obtain⟨i,r⟩:=a;obtain⟨j,r'⟩:=b
 by_cases e1:i=j<;>by_cases e2:r=r'<;>simp[e1,e2]
def zb:bZ:=List.replicate 512 0
def AS:zb.length=512:=Mq ..
def UW:cI zb=L9 512 (.int .u8 0):=List.map_replicate ..
def LK(c:bZ):C:=gQ (cI c)
def aeW(x:Nat×bZ):List C:=I x.1::cI x.2
structure Dk where
 gS:List bZ
 ws:List (Nat×bZ)
 on:Bool
 alarm:Int
 wrote:Nat
 synced:Nat
structure Dk.Ok(D:Dk):Prop where
 lo:8<=D.gS.length
 hi:D.gS.length<=65536
 N:∀c∈D.gS,c.length=512
 ws:∀x∈D.ws,x.1<D.gS.length/\x.2.length=512
 alarm:-1<=D.alarm/\D.alarm<=9223372036854775807
 off:D.on=false->D.alarm=-1
 Mg:D.ws.length<=D.wrote
def nS(l:List bZ)(i:Nat):bZ:=l.getD i zb
def mv:List (Nat×bZ)->Nat->Option bZ
 |[],_=>none
 |(j,c)::r,i=>match mv r i with
  |some x=>some x
  |none=>if j=i then some c else none
def JU{ws:List (Nat×bZ)}{c:bZ}(h:mv ws i=some c):(i,c)∈ws:=by
 induction ws with
 |nil=>cases h
 |cons x r ih=>
  obtain⟨k,b⟩:=x;simp only[mv]at h;split at h
  ·rename_i y hy;cases h;exact kG _ (ih hy)
  split at h
  ·rename_i e;cases h;subst e;exact kf ..
  cases h
structure CD(kv:KV)(l:List bZ):Prop where
 nod:(kv.map (·.1)).Nodup
 look:∀i:Int,dJ kv i=if 0<=i/\i<l.length/\nS l i.toNat≠zb then some (LK (nS l i.toNat))else none
structure GI(kv:KV)(ws:List (Nat×bZ)):Prop where
 nod:(kv.map (·.1)).Nodup
 look:∀i:Int,dJ kv i=if 0<=i then(mv ws i.toNat).map LK else none
def wk{c:bZ}(hi:i<l.length):nS (l.set i c) j=if j=i then c else nS l j:=by
 unfold nS
 by_cases h:j=i
 ·subst h;simp[hi]
 simp[h,O3,Ne.symm h]
def N6(kv:KV)(i:Nat)(c:bZ):KV:=if c=zb then yl kv i else oC kv i (LK c)
def CD.ah4(h:CD kv l)(hi:i<l.length)(c:bZ):CD (N6 kv i c) (l.set i c):=by
 unfold N6
 by_cases hc:c=zb
 ·rw[aB hc];refine⟨J0 h.nod _,fun j=>?_⟩;rw[XC h.nod,h.look]
  by_cases hj:j=i
  ·subst hj;simp[wk hi,hc]
  rw[aj hj,Hu]
  by_cases h0:0<=j
  ·have oS:¬j.toNat=i:=H;simp only[wk hi,aj oS]
  simp[h0]
 rw[aj hc];refine⟨CS h.nod _ _,fun j=>?_⟩;rw[FM,h.look]
 by_cases hj:j=i
 ·subst hj;rw[aB rfl,aB]
  ·simp[wk hi]
  simp[wk hi,hc,hi]
 rw[aj hj,Hu]
 by_cases h0:0<=j
 ·have oS:¬j.toNat=i:=H;simp only[wk hi,aj oS]
 simp[h0]
def GI.nil:GI [] []:=⟨by simp,fun i=>by simp[dJ,mv]⟩
def ti(n:Nat)(ml ms:Nat)(sv:C)(on:Bool)(alarm:Int)(wrote synced:Nat):List C:=
 [I n, .map (some ml),sv, .map (some ms), .bool on,I alarm,I wrote,I synced]
def qt(p ml ms:Nat)(sv:C)(kl ks:KV)(D:Dk):List aF:=
 [N p (ti D.gS.length ml ms sv D.on D.alarm D.wrote D.synced) 191,dm ml kl,dm ms ks,row 459 513 sv D.ws.length (D.ws.flatMap aeW)]
def eD(p:Nat)(D:Dk):aF:=fun h=>D.Ok/\∃ml ms sv kl ks,CD kl D.gS/\GI ks D.ws/\all (qt p ml ms sv kl ks D) h
section
variable{p:Nat}{D:Dk}
def vU(Z:aw G (eD p D::R) w):D.Ok/\∃ml ms sv kl ks,CD kl D.gS/\GI ks D.ws/\aw G (qt p ml ms sv kl ks D++R) w:=by
 obtain⟨hg,h,hh,Y,J,hd,hu,⟨fx,ml,ms,sv,kl,ks,hl,hs,ha⟩,hR⟩:=Z;exact⟨fx,ml,ms,sv,kl,ks,hl,hs,aw.eY (M:=qt p ml ms sv kl ks D) ⟨hg,h,hh,Y,J,hd,hu,ha,hR⟩⟩
def nN{ms:Nat}{kl ks:KV}(fx:D.Ok)(hl:CD kl D.gS)(hs:GI ks D.ws)(Z:aw G (qt p ml ms sv kl ks D++R) w):aw G (eD p D::R) w:=by
 have:=aw.bJ (M:=qt p ml ms sv kl ks D) Z;exact this.gN fun h ha=>⟨fx,ml,ms,sv,kl,ks,hl,hs,ha⟩
def P2(Z:aw G L w)(hn:8<=n/\n<=65536):
  aA prog 122 #[I n] w (bU fun v w'=>∃p,v=pQ p/\aw G (eD p ⟨List.replicate n zb,[],true,-1,0,0⟩::L) w'):=by
 refine wF [_] func122 ntmps122 ?_;refine z7 ?_;refine Ny rfl Z rfl fun w m4 Z=>?_;refine Ny rfl Z rfl fun w m5 Z=>?_;refine wV 0 (v:= .agg #[I n, .map (some m4),nQ, .map (some m5), .bool true,I (-1),I 0,I 0]) ?_;refine wB 0 Z fun w b7 Z=>?_;have Z:=bB Z 459 513;have fx:Dk.Ok ⟨List.replicate n zb,[],true,-1,0,0⟩:=⟨by simp;omega,by simp;omega,fun c hc=>by rw[List.eq_of_mem_replicate hc];exact AS,by simp,by simp,by simp,by simp⟩;have hlm:CD [] (List.replicate n zb):=⟨by simp,fun i=>by
  have:nS (List.replicate n zb) i.toNat=zb:=by
   unfold nS;rw[ma,Xc];split<;>rfl
  simp[dJ,this]⟩
 refine z3 ?_;exact dt rfl rfl rfl ⟨_,rfl,nN (ml:=m4) (ms:=m5) (sv:=nQ) fx hlm GI.nil (by
 have h:=Z.JD (As:=[N b7 _ _,dm m4 _,dm m5 _,row _ _ _ _ _]) (by repeat(first|exact pP.nil|(apply pP.cons;repeat(first|with_reducible exact dE.here|apply dE.there))));refine h.of_eq ?_;simp[qt,ti])⟩
def R5:prog.eqGuardType prog.depth 246=false:=kR
def EF{n:Nat}{c:bZ}{a:C}(Z:aw G (N p [a, .map (some ml),b1,b2,b3,b4,b5,b6] 191::dm ml kv::L) w)(hc:c.length=512):
  aA prog 123 #[pQ p,I i,LK c] w (bU fun v w'=>v= .tuple #[]/\aw G (N p [a, .map (some ml),b1,b2,b3,b4,b5,b6] 191::dm ml (N6 kv i c)::L) w'):=by
 refine wF [_,_,_] func123 ntmps123 ?_;refine wB 2 Z fun w b5 Z=>?_;refine z3 ?_;refine bg rfl rfl (aD.dB k9 Z pK (by rw[dH,hc])) ?_;refine DK (v:=gQ (cI zb)) rfl rfl (fun w=>by rw[UW];kernel_rfl) ?_;refine jS rfl rfl rfl rfl (v:= .bool (decide (c=zb))) (fun w'=>by rw[al,run_eqGuard_agg _ _ _ _ _ _ _ R5,ah];simp only[binOp,al,Mk sE ig bo hc AS,ah];rfl) ?_;refine aK ?_;refine wI 0 (fun Y=>?_) fun Y=>?_
 ·refine wD 4 jA Z ?_;refine z1 ?_;refine agD rfl tV rfl kS dD rfl rfl Z pK rfl fun w Z=>?_;refine aK ?_;exact u6 rfl rfl ⟨rfl,by
 have h:=Z.JD (As:=[N p _ _,dm ml _]) (by repeat(first|exact pP.nil|(apply pP.cons;repeat(first|with_reducible exact dE.here|apply dE.there))));rw[N6,aB Y];exact h.drop (.there (.there .here))⟩
 refine wQ [0,1,2,3,4,5,6] Z fun Z=>?_
 refine wD 3 jA Z ?_;refine z1 ?_;refine bg rfl rfl (aD.dB k9 Z pK (by rw[dH,hc])) ?_;refine WI rfl tV kS dD rfl rfl rfl Z pK kR fun w Z=>?_;refine aK ?_;exact u6 rfl rfl ⟨rfl,by
 have h:=Z.JD (As:=[N p _ _,dm ml _]) (by repeat(first|exact pP.nil|(apply pP.cons;repeat(first|with_reducible exact dE.here|apply dE.there))));rw[N6,aj Y];exact h.drop (.there (.there .here))⟩
def nz(Z:aw G (eD p D::L) w):aA prog 59 #[pQ p] w (bU fun v w'=>v=I D.gS.length/\aw G (eD p D::L) w'):=by
 obtain⟨fx,ml,ms,sv,kl,ks,hl,hs,Z⟩:=vU Z;simp only[qt,ti,nI,lE]at Z;refine wF [_] func59 ntmps59 ?_;refine wD 9 ag Z ?_;refine dk 3 ?_;exact⟨rfl,nN fx hl hs Z⟩
def uG(Z:aw G (eD p D::L) w):aA prog 125 #[pQ p] w (bU fun v w'=>v= .bool D.on/\aw G (eD p D::L) w'):=by
 obtain⟨fx,ml,ms,sv,kl,ks,hl,hs,Z⟩:=vU Z;simp only[qt,ti,nI,lE]at Z;refine wF [_] func125 ntmps125 ?_;refine wD 9 bS Z ?_;refine dk 3 ?_;exact⟨rfl,nN fx hl hs Z⟩
def EH(Z:aw G (eD p D::L) w):aA prog 32 #[pQ p] w (bU fun v w'=>v= .tuple #[I D.wrote,I D.synced]/\aw G (eD p D::L) w'):=by
 obtain⟨fx,ml,ms,sv,kl,ks,hl,hs,Z⟩:=vU Z;simp only[qt,ti,nI,lE]at Z;refine wF [_] func32 ntmps32 ?_;refine z6 ?_;refine wQ [0,1,2,3,4,5,6,7,8,9] Z fun Z=>?_
 refine wD 3 ag Z ?_;refine wD 3 ag Z ?_;refine ui 4 ?_;exact⟨rfl,nN fx hl hs Z⟩
def Dd{i:Int}{b0:C}(Z:aw G (N p [I n,b0,b1,b2,b3,b4,b5,b6] 191::L) w):
  aA prog 283 #[pQ p,I i] w (bU fun v w'=>v= .bool (decide (0<=i/\i<n))/\aw G (N p [I n,b0,b1,b2,b3,b4,b5,b6] 191::L) w'):=by
 refine wF [_,_] func283 ntmps283 ?_;refine z9 ?_;refine ar (d:=7) rfl (fun Y=>?_) fun Y=>?_
 ·refine z2 ?_;refine vr rfl rfl ?_;refine wD 1 ag Z ?_;refine dk 5 ?_;exact⟨by simp[Y],Z⟩
 refine dk 10 ?_;exact⟨by simp[Y],Z⟩
def Gk{b0 b7:C}(Z:aw G (N p [b0,b1,b2,b3,b4,b5,b6,b7] 191::L) w):
  aA prog 33 #[pQ p] w (bU fun v w'=>v= .tuple #[]/\aw G (N p [b0,b1,b2,b3, .bool false,I (-1),b6,b7] 191::L) w'):=by
 refine wF [_] func33 ntmps33 ?_;refine wS 5 (l':=[_,_,_,_,_,_,_,_]) bS Z fun w Z=>?_;refine wS 2 (l':=[_,_,_,_,_,_,_,_]) ag Z fun w Z=>?_;refine aK ?_;exact u6 rfl rfl ⟨rfl,Z⟩
def Dk.bY(D:Dk)(i:Nat):bZ:=(mv D.ws i).getD (nS D.gS i)
def Dk.failed(D:Dk):Dk:={D with on:=false,alarm:=-1}
def Dk.Ok.failed(h:D.Ok):D.failed.Ok:=⟨h.lo,h.hi,h.N,h.ws,by simp[Dk.failed],fun _=>rfl,h.Mg⟩
def E3(h:D.Ok)(i:Nat):(nS D.gS i).length=512:=by
 unfold nS;rw[ma];cases E:D.gS[i]?with
 |none=>exact AS
 |some c=>exact h.N c (fK E)
def DO(h:D.Ok)(i:Nat):(D.bY i).length=512:=by
 unfold Dk.bY;cases E:mv D.ws i with
 |none=>exact E3 h i
 |some c=>exact(h.ws _ (JU E)).2
def X'(o:Option bZ):(o.map LK).getD (gQ (L9 512 (.int .u8 0)))=LK (o.getD zb):=by
 cases o
 ·show Value.agg _=Value.agg _;rw[<-UW];rfl
 rfl
def CD.getD(h:CD kv l)(hi:i<l.length):(dJ kv i).getD (gQ (L9 512 (.int .u8 0)))=LK (nS l i):=by
 rw[h.look]
 by_cases hz:nS l i=zb
 ·rw[aj (by simp[hz]),Option.getD_none,hz,LK,UW]
 rw[aB (by simp[hz,hi])];rfl
def I9{c:bZ}(hc:c.length=512)(l:List C)(hl:l.length=512):l.take 0++cI c++l.drop (0+(cI c).length)=cI c:=by
 rw[dH,hc,vB H];simp
def EG{i:Int}(Z:aw G (eD p D::L) w):aA prog 224 #[pQ p,I i] w (bU fun v w'=>
  (D.on=false/\v= .tuple #[nQ,I 17]/\aw G (eD p D::L) w')∨
  (D.on=true/\¬(0<=i/\i<D.gS.length)/\v= .tuple #[nQ,I 16]/\aw G (eD p D::L) w')∨
  (D.on=true/\(0<=i/\i<D.gS.length)/\∃s,v= .tuple #[s,I 0]/\aw G (row 5 1 s 512 (cI (D.bY i.toNat))::eD p D::L) w')):=by
 obtain⟨fx,ml,ms,sv,kl,ks,hl,hs,Z⟩:=vU Z;simp only[qt,ti,nI,lE]at Z;refine wF [_,_] func224 ntmps224 ?_;refine wD 12 bS Z ?_;refine nh rfl rfl ?_;refine z2 ?_;refine fJ rfl (fun Y=>?_) fun Y=>?_
 ·refine ui 6 ?_;exact .inl ⟨by simpa using Y,rfl,nN fx hl hs Z⟩
 refine z4 ?_;refine wC rfl B7 rfl (Dd Z) fun w Z=>?_
 refine cU rfl rfl ?_;refine wI 2 (fun J=>?_) fun J=>?_
 ·refine ui 6 ?_;exact .inr (.inl ⟨by simpa using Y,J,rfl,nN fx hl hs Z⟩)
 have Ha:0<=i/\i<D.gS.length:=dg.1 J;obtain⟨j,rfl⟩:=Int.eq_ofNat_of_zero_le Ha.1;have hj:j<D.gS.length:=H;have hq:dJ ks (j:Int)=(mv D.ws j).map LK:=by rw[hs.look,aB Ha.1];rfl
 have vi:((mv D.ws j).getD zb).length=512:=by
  cases E:mv D.ws j with
  |none=>exact AS
  |some c=>exact(fx.ws _ (JU E)).2
 refine wD 6 jA Z ?_;refine z1 ?_;refine aeg rfl kS dD B8 rfl rfl Z pK (v0:=LK ((mv D.ws j).getD zb)) (b0:=(mv D.ws j).isSome) (by rw[hq];exact X' _) (by rw[hq];exact Option.isSome_map) ?_;refine wL 3 DD Z fun w b6 Z=>?_;refine ue (cs:=cI ((mv D.ws j).getD zb)) (l':=cI ((mv D.ws j).getD zb)) rfl tV rfl rfl k9 (by rw[dH,vi]) (k6 _) Z pK (by rw[kE];decide) (by rw[vB (by rw[kE];decide)];simp) rfl (fun w Z=>?_);refine z6 ?_;refine nh rfl rfl ?_;refine aK ?_;refine fJ rfl (fun h3=>?_) fun h3=>?_
 ·have hn:mv D.ws j=none:=by simpa using h3
  have hsh:D.bY j=nS D.gS j:=by unfold Dk.bY;rw[hn];rfl
  have tW:=E3 fx j;refine wD 4 jA Z ?_;refine z1 ?_;refine GQ rfl kS dD B8 rfl rfl Z pK (v0:=LK (nS D.gS j)) (hl.getD hj) ?_;refine ue (cs:=cI (nS D.gS j)) (l':=cI (nS D.gS j)) rfl tV rfl rfl k9 (by rw[dH,tW]) (k6 _) Z pK (by simp[dH,vi]) (by rw[vB (by simp[dH,vi])];simp) rfl (fun w Z=>?_);refine z3 ?_;refine yY rfl aR bo fF wH rfl rfl ⟨H,H⟩ H H Z rfl fun w b37 Z=>?_;refine z5 ?_;refine Ti rfl sE Fq dM rfl rfl ?_;refine abR (cs:=cI (nS D.gS j)) (l':=cI (nS D.gS j)) rfl aR bo rfl rfl Z pK (Rd.iq Z pK) (by rw[dH,tW];rfl) (k6 _) (by rw[dH,tW];simp) (I9 tW _ (by simp[kE])) kR (fun w Z=>?_);refine z8 ?_;exact ga rfl rfl rfl rfl (.inr (.inr ⟨by simpa using Y,Ha,_,rfl,by
 have h:=Z.JD (As:=[N p _ _,dm ml _,dm ms _,row _ _ _ _ _,N b37 _ _]) (by repeat(first|exact pP.nil|(apply pP.cons;repeat(first|with_reducible exact dE.here|apply dE.there))));have h:=nN fx hl hs (h.drop (.there (.there (.there (.there (.there .here))))));have h:=h.pick (A:=N b37 _ _) pK;have h:=jx (z:=1) (m:=512) h (by rw[dH,tW]) mL;rw[<-hsh]at h;exact h⟩))
 obtain⟨c,hn⟩:∃c,mv D.ws j=some c:=by cases E:mv D.ws j with
  |none=>simp[E]at h3
  |some c=>exact⟨c,rfl⟩
 have hsh:D.bY j=c:=by unfold Dk.bY;rw[hn];rfl
 rw[hn]at Z vi;simp only[TD]at Z vi
 refine z3 ?_;refine yY rfl aR bo fF wH rfl rfl ⟨H,H⟩ H H Z rfl fun w b37 Z=>?_;refine z5 ?_;refine Ti rfl sE Fq dM rfl rfl ?_;refine abR (cs:=cI c) (l':=cI c) rfl aR bo rfl rfl Z pK (Rd.iq Z pK) (by rw[dH,vi];rfl) (k6 _) (by rw[dH,vi];simp) (I9 vi _ (by simp[kE])) kR (fun w Z=>?_);refine z8 ?_;exact ga rfl rfl rfl rfl (.inr (.inr ⟨by simpa using Y,Ha,_,rfl,by
 have h:=Z.JD (As:=[N p _ _,dm ml _,dm ms _,row _ _ _ _ _,N b37 _ _]) (by repeat(first|exact pP.nil|(apply pP.cons;repeat(first|with_reducible exact dE.here|apply dE.there))));have h:=nN fx hl hs (h.drop (.there (.there (.there (.there (.there .here))))));have h:=h.pick (A:=N b37 _ _) pK;have h:=jx (z:=1) (m:=512) h (by rw[dH,vi]) mL;rw[<-hsh]at h;exact h⟩))
end
def iA(l:bZ)(i:Nat):bZ:=(l.drop (512*i)).take 512
def xS(l:bZ)(n k:Nat):List bZ:=(List.range n).map fun i=>if i<k then iA l i else zb
def nA(l:bZ)(n:Nat):List bZ:=(List.range n).map (iA l)
def Q6(l:bZ)(n k:Nat):(xS l n k).length=n:=by simp[xS]
def qK(l:bZ)(n:Nat):(nA l n).length=n:=by simp[nA]
def Xh(l:bZ)(n:Nat):xS l n 0=List.replicate n zb:=by
 apply ZG<;>simp[xS]
def Z3(l:bZ)(n:Nat):xS l n n=nA l n:=by
 apply ZG
 ·simp[xS,nA]
 intro i Y J;simp[xS,nA]at Y J ⊢;intro h;omega
def Xi(l:bZ)(h:k<n):xS l n (k+1)=(xS l n k).set k (iA l k):=by
 apply ZG
 ·simp[xS]
 intro i Y J;simp only[xS,List.getElem_map,List.getElem_range,List.getElem_set]
 by_cases hi:k=i
 ·subst hi;simp
 rw[aj hi]
 by_cases h3:i<k
 ·rw[aB h3,aB H]
 rw[aj h3,aj H]
def EM{l:bZ}(hl:l.length=512*n)(hi:i<n):(iA l i).length=512:=by
 simp only[iA,gJ,jm];omega
def Lf{l:bZ}(hl:l.length=512*n):∀c∈nA l n,c.length=512:=fun c hc=>by
 simp only[nA,dY,sr]at hc;obtain⟨i,hi,rfl⟩:=hc;exact EM hl hi
def oX(l:bZ):Prop:=l.length%512=0/\8<=l.length/512/\l.length/512<=65536
instance(l:bZ):Decidable (oX l):=inferInstanceAs (Decidable (_/\_/\_))
def Dk.new(l:List bZ):Dk:=⟨l,[],true,-1,0,0⟩
def Dk.Ok.new(Y:8<=l.length/\l.length<=65536)(J:∀c∈l,c.length=512):(Dk.new l).Ok:=
 ⟨Y.1,Y.2,J,by simp[Dk.new],by simp[Dk.new],by simp[Dk.new],by simp[Dk.new]⟩
section
variable{p:Nat}{D:Dk}
def P3{l:bZ}(Z:aw G L w)(ka:aL L (eB v l))(sP:l.length<=140737488355328):
  aA prog 57 #[v] w (bU fun r w'=>(¬oX l/\r= .tuple #[.pointer none,I 1]/\aw G L w')∨
   (oX l/\∃p,r= .tuple #[pQ p,I 0]/\aw G (eD p (Dk.new (nA l (l.length/512)))::L) w')):=by
 obtain⟨a,cap,rfl⟩:=((ka.of sF).at Z).form;obtain⟨n,hn⟩:∃n:Nat,l.length/512=n:=⟨_,rfl⟩;have hq:(l.length:Int)/512=(n:Int):=H;refine wF [_] func57 ntmps57 ?_;refine z9 ?_;refine yW rfl rfl rfl H H ?_;rw[hq];refine z6 ?_;refine lx rfl rfl rfl H ?_;refine z4 ?_;refine ar (d:=16) rfl (fun Y=>?_) fun Y=>?_
 ·refine z8 ?_;refine cr rfl ?_;refine ui 6 ?_;exact .inl ⟨by unfold oX;omega,rfl,Z⟩
 refine z4 ?_;refine ar (d:=20) rfl (fun J=>?_) fun J=>?_
 ·refine z4 ?_;refine cr rfl ?_;refine ui 6 ?_;exact .inl ⟨by unfold oX;omega,rfl,Z⟩
 refine wI 4 (fun h3=>?_) fun h3=>?_
 ·refine ui 6 ?_;exact .inl ⟨by unfold oX;omega,rfl,Z⟩
 have hF:oX l:=by unfold oX;omega
 have hnl:l.length=512*n:=H;have hn8:8<=n/\n<=65536:=H;obtain⟨b,o,rfl⟩:=((ka.of sF).at Z).nn H;refine z4 ?_;refine aO rfl Np rfl (P2 (n:=n) Z hn8) rfl fun w v25 hv=>?_;obtain⟨q,rfl,Z⟩:=hv;obtain⟨fx,ml,ms,sv,kl,ks,hl,hs,Z⟩:=vU Z;simp only[qt,ti,nI,lE,Mq]at Z;refine z9 ?_;refine bx (fun m e w=>∃(k:Nat) (kl:KV),k<=n/\m=n-k/\e=[(0, .slice (some ⟨b,o,none⟩) l.length cap),(4,I n),(5,pQ q),(26,I n),(27,I k)]/\CD kl (xS l n k)/\aw G (N q (ti n ml ms sv true (-1) 0 0) 191::dm ml kl::dm ms ks::row 459 513 sv 0 []::L) w)
  (m:=n) sB
  ⟨0,kl,de _,rfl,rfl,by rw[Xh];exact hl,Z⟩ ?_
 rintro m e w ⟨k,kl,hk,rfl,rfl,hl,Z⟩;simp only[ti]at Z;refine wI 5 (fun h4=>?_) fun h4=>?_
 ·have gn:k<n:=H;have gC:=EM hnl gn;refine wL 10 DD Z fun w b7 Z=>?_;refine z2 ?_;refine wQ [0,1,2,3,4,5] Z fun Z=>?_
  refine Ti rfl sE Fq dM rfl rfl ?_;refine z2 ?_;refine lx rfl rfl rfl H ?_;refine Y8 rfl aR bo rfl rfl ⟨H,H⟩ (by have:=((ka.of sF).at Z).cap;omega) ?_;refine abR (cs:=cI (iA l k)) (l':=cI (iA l k)) rfl aR bo rfl rfl Z pK (by
      have h:=(((ka.of sF).at Z).rdd (512*k)).take 512;rw[<-AD]at h;rw[show((k:Int)*512).toNat*1=512*k by omega];exact h) (by rw[dH,gC];show 512=min _ _;omega) (k6 _) (by rw[dH,gC];simp[kE]) (I9 gC _ (by simp[kE])) kR (fun w Z=>?_)
  refine z4 ?_;refine bg rfl rfl (aD.dB k9 Z pK (by rw[dH,gC])) ?_;refine aO rfl Dn rfl (EF (n:=n) (i:=k) (c:=iA l k) (Z.JD (As:=[N q _ _,dm ml _]) (by repeat(first|exact pP.nil|(apply pP.cons;repeat(first|with_reducible exact dE.here|apply dE.there))))) gC) rfl (fun w v39 hv=>?_);obtain⟨-,Z⟩:=hv;simp only[nI,lE,List.append_eq]at Z;refine z5 ?_;refine⟨n-(k+1),H,[(0,_),(4,_),(5,_),(26,_),(27,I (k+1:Nat))],sB,k+1,N6 kl k (iA l k),H,rfl,rfl,?_,?_⟩
  ·rw[Xi l gn];exact hl.ah4 (by rw[Q6];exact gn) _
  have h:=Z.JD (As:=[N q _ _,dm ml _,dm ms _,row _ _ _ _ _]) (by repeat(first|exact pP.nil|(apply pP.cons;repeat(first|with_reducible exact dE.here|apply dE.there))));exact h.drop (.there (.there (.there (.there (dE.here (A:=N b7 _ _))))))
 refine z8 ?_;exact ga rfl rfl rfl rfl (by
 have Fg:k=n:=H;subst Fg;rw[Z3]at hl;refine .inr ⟨hF,q,rfl,nN (D:=Dk.new (nA l (l.length/512))) (ml:=ml) (ms:=ms) (sv:=sv) (kl:=kl) (ks:=ks) (Dk.Ok.new (by rw[qK];omega) (by rw[hn];exact Lf hnl)) (by rw[hn];exact hl) hs (Z.of_eq ?_)⟩;simp[qt,ti,Dk.new,qK,hn])
end
structure Cf where
 blocks:Int
 pJ:Int
 refs:Int
structure Pl where
 pages:Int
 nC:Int
 first:Int
structure Su where
 gen:Int
 cf:Cf
 next:Int
 roots:List (Int×Tr)
def pS(p:Nat):Nat:=(p+239)/240
def rW(b:Nat):Nat->Nat
 |0=>0
 |p+1=>if 2+2*pS (p+1)+(p+1)<=b then p+1 else rW b p
def Q4{b:Nat}(hb:2<=b):∀p,2+2*pS (rW b p)+rW b p<=b
 |0=>by simp[rW,pS];omega
 |p+1=>by
  rw[rW];split
  ·assumption
  exact Q4 hb p
def iI(c:Cf):Prop:=(8<=c.blocks/\c.blocks<=65536)/\(1<=c.pJ/\c.pJ<=16)/\(2<=c.refs/\c.refs<=65535)
instance(c:Cf):Decidable (iI c):=by unfold iI;infer_instance
def s5(c:Cf):Nat:=rW c.blocks.toNat c.blocks.toNat
def bd(c:Cf):Pl:=⟨s5 c,pS (s5 c),2+2*pS (s5 c)⟩
def qm{c:Cf}(h:iI c):0<=(bd c).pages/\0<=(bd c).nC/\(bd c).first=2+2*(bd c).nC/\(bd c).first+(bd c).pages<=c.blocks/\(bd c).pages<=240*(bd c).nC/\(bd c).nC=(pS (bd c).pages.toNat:Nat):=by
 have Y:=Q4 (b:=c.blocks.toNat) (by unfold iI at h;omega) c.blocks.toNat;unfold bd;unfold s5 at Y ⊢;obtain⟨p,hp⟩:∃p,p=rW c.blocks.toNat c.blocks.toNat:=⟨_,rfl⟩;rw[<-hp]at Y ⊢
 have J:p<=240*pS p:=by unfold pS;omega
 have h3:8<=c.blocks:=h.1.1;refine⟨by simp,by simp,rfl,?_,?_,by simp⟩
 ·show(2+2*(pS p:Int))+(p:Int)<=c.blocks
  omega
 show(p:Int)<=240*(pS p:Int)
 omega
def lO(next:Int):Int->List (Int×Tr)->Prop
 |_,[]=>True
 |cW,r::l=>(cW+1<=r.1/\r.1<=next-1)/\lO next r.1 l
instance Tv(next:Int):∀(cW:Int) (l:List (Int×Tr)),Decidable (lO next cW l)
 |_,[]=> .isTrue trivial
 |cW,r::l=>by unfold lO;have:=Tv next r.1 l;infer_instance
def rm(pages:Int)(t:Tr):Prop:=fY t\/((1<=t.root/\t.root<=pages)/\(1<=t.bh/\t.bh<=12)/\1<=t.items/\t.items<=pages*8)
instance(pages:Int)(t:Tr):Decidable (rm pages t):=by unfold rm;infer_instance
def cp(s:Su):Int:=
 if¬iI s.cf then 1 else if¬((0<=s.gen/\s.gen<=1099511627776)/\(1<=s.next/\s.next<=2147483648)/\(s.roots.length:Int)<=s.cf.pJ)then 4
 else if¬lO s.next 0 s.roots then 11 else if¬∀r∈s.roots,rm (bd s.cf).pages r.2 then 5 else 0
def iS{s:Su}(h:cp s=0):iI s.cf/\(0<=s.gen/\s.gen<=1099511627776)/\(s.roots.length:Int)<=s.cf.pJ/\∀r∈s.roots,rm (bd s.cf).pages r.2:=by
 unfold cp at h;split at h
 ·cases h
 rename_i Y;split at h
 ·cases h
 rename_i J;split at h
 ·cases h
 split at h
 ·cases h
 rename_i h3;have J:=dg.1 J;exact⟨dg.1 Y,J.1,J.2.2,dg.1 h3⟩
def jO(p:Pl)(gen:Int):Int:=if gen%2=0 then 2 else 2+p.nC
def lN(b:bZ):Prop:=jP (b.drop 508)=(s0 (b.take 508)).toNat
instance(b:bZ):Decidable (lN b):=by unfold lN;infer_instance
def TV(pages i:Int):Int:=min (pages-i*240) 240
def np(b:bZ)(k:Nat):Int:=(jP ((b.drop (17+2*k)).take 2):Nat)
def wm(gen pages i:Int)(b:bZ):Prop:=b.getD 0 0=66/\((jP ((b.drop 1).take 8):Nat):Int)=gen/\((jP ((b.drop 9).take 4):Nat):Int)=i/\((jP ((b.drop 13).take 4):Nat):Int)=pages
instance(gen pages i:Int)(b:bZ):Decidable (wm gen pages i b):=by unfold wm;infer_instance
def kW(l:bZ):Prop:=∀x∈l,x=0
instance(l:bZ):Decidable (kW l):=by unfold kW;infer_instance
def iE(gen pages i:Int)(b:bZ):Option (List Int):=
 if lN b/\wm gen pages i b/\kW ((b.take 508).drop (17+2*(TV pages i).toNat))
 then some ((List.range (TV pages i).toNat).map (np b))else none
structure Rk where
 b:bZ
 ok:Bool
variable{r r1 r2:Rk}
def fc(n:Nat)(r:Rk):bZ×Rk:=if r.ok=true/\n<=r.b.length then(r.b.take n,⟨r.b.drop n,true⟩)else([],⟨r.b,false⟩)
def cB(n:Nat)(r:Rk):Nat×Rk:=(jP (fc n r).1,(fc n r).2)
def rX(kind:Int)(r:Rk):It×Rk:=
 let a:=cB 1 r
 let k:=fc a.1 a.2
 if kind=1 then
  let z:=cB 2 k.2
  if(z.1:Int)<=32 then(⟨k.1,(fc z.1 z.2).1,0,z.1⟩,(fc z.1 z.2).2)else(⟨k.1,[],(cB 4 z.2).1,z.1⟩,(cB 4 z.2).2)
 else(⟨k.1,[],(cB 4 k.2).1,0⟩,(cB 4 k.2).2)
def gF(kind:Int):Nat->Rk->List It×Rk
 |0,r=>([],r)
 |n+1,r=>((gF kind n r).1++[(rX kind (gF kind n r).2).1],(rX kind (gF kind n r).2).2)
def q9(r:Rk):(Nat×Nat×Nat×Nat)×Rk:=
 let a:=cB 1 r
 let b:=cB 1 a.2
 let c:=cB 4 b.2
 let d:=cB 8 c.2
 ((a.1,b.1,c.1,d.1),d.2)
def rA(kind level:Nat)(r:Rk):Pg×Rk:=
 if kind=3 then
  let n:=cB 2 r
  let m:=cB 4 n.2
  (⟨kind,level,[],(fc n.1 m.2).1,m.1⟩,(fc n.1 m.2).2)
 else
  let n:=cB 1 r
  (⟨kind,level,(gF kind n.1 n.2).1,[],0⟩,(gF kind n.1 n.2).2)
def oF(no:Int)(b:bZ):Option (Pg×Int):=
 if lN b/\1<=no/\no<=65536 then
  let h:=q9 ⟨b.take 508,true⟩
  let p:=rA h.1.1 h.1.2.1 h.2
  if(h.1.2.2.1:Int)=no/\h.1.2.2.2<=1099511627776/\(kW p.2.b/\p.2.ok=true)/\dv p.1=0 then some (p.1,(h.1.2.2.2:Int))else none
 else none
def abh{no:Int}{b:bZ}(h:¬lN b):oF no b=none:=by unfold oF;rw[aj (fun Y=>h Y.1)]
def abi{no:Int}{b:bZ}{p:Pg}{g:Int}(h:oF no b=some (p,g)):dv p=0/\lN b:=by
 unfold oF at h;split at h
 ·rename_i Y;simp only at h;split at h
  ·rename_i J;simp only[Option.some.injEq,Prod.mk.injEq]at h;exact⟨by rw[<-h.1];exact J.2.2.2,Y.1⟩
  cases h
 cases h
def Oz{gen i:Int}{b:bZ}(h:¬lN b):iE gen pages i b=none:=by unfold iE;rw[aj (fun Y=>h Y.1)]
def GC{gen i:Int}{b:bZ}{l:List Int}(h:iE gen pages i b=some l):l.length=(TV pages i).toNat/\lN b:=by
 unfold iE at h;split at h
 ·rename_i Y;cases h;exact⟨by simp,Y.1⟩
 cases h
def jy(s:Su)(Bk:Nat->bZ)(n:Int):Option Pg:=
 if 1<=n/\n<=(bd s.cf).pages then
  match oF n (Bk ((bd s.cf).first+n-1).toNat)with
  |some (p,g)=>if g<=s.gen then some p else none
  |none=>none
 else none
def nT(s:Su)(Bk:Nat->bZ)(i:Nat):Option (List Int):=iE s.gen (bd s.cf).pages i (Bk (jO (bd s.cf) s.gen+i).toNat)
def j5(f:Nat->Option (List Int)):Nat->Option (List Int)
 |0=>some []
 |k+1=>match j5 f k with
  |none=>none
  |some a=>match f k with
   |none=>none
   |some b=>some (a++b)
def zj(rd:Int->Option Pg)(c:List Int):Nat->Option (List (Int×Pg))
 |0=>some []
 |k+1=>match zj rd c k with
  |none=>none
  |some l=>if c.getD k 0=0 then some l else match rd ((k:Int)+1)with
   |none=>none
   |some p=>some (l++[((k:Int)+1,p)])
def uu(s:Su)(Bk:Nat->bZ):Option (List Int×List (Int×Pg)):=
 match j5 (nT s Bk) (bd s.cf).nC.toNat with
 |none=>none
 |some c=>match zj (jy s Bk) c c.length with
  |none=>none
  |some l=>some (c,l)
def kz(lev:Int):Int:=if lev=-1 then 3 else if lev=0 then 1 else 2
def vn(s:Su)(Bk:Nat->bZ)(c:CK):Option (List CK):=match jy s Bk c.1 with
 |none=>none
 |some p=>if p.kind≠kz c.2\/(kz c.2=2/\p.level≠c.2)then none
  else if∃k∈cu p,(bd s.cf).pages<k then none else some ((cu p).map fun k=>(k,if kz c.2=2 then c.2-1 else-1))
def fH(l:List (Int×Tr)):List CK:=(l.filter fun x=>decide (x.2.root≠0)).map fun x=>(x.2.root,x.2.bh-1)
structure Cls(f:CK->Option (List CK))(rs W:List CK):Prop where
 root:∀c∈rs,c∈W
 XF:∀c∈W,∀l,f c=some l->∀k∈l,k∈W
 min:∀U:CK->Prop,(∀c∈rs,U c)->(∀c,U c->∀l,f c=some l->∀k∈l,U k)->∀c∈W,U c
def Za(q:Nat)(er:Int):aF:=ex fun v:C=>mr (∃a m c,v= .slice a m c) (N q [v,I er] 399)
def wu:∃ms,prog.underlying 20=some (.interface ms):=RB kR
section
variable{b b':bZ}
def zF(Z:aw G L w):SM prog 335 #[p0,p1,p2] w (fun r w'=>aw G L w'):=by
 obtain⟨ms,hI⟩:=wu;refine sJ (u:= .returning) (args:=[_,_,_]) func335 rfl ntmps335 rfl rfl rfl rfl ?_;refine nF (dW rfl ?_);refine z1 ?_;refine Qz rfl gb o6 rfl ?_;refine z6 ?_;refine nF (dW rfl ?_);refine z2 ?_;refine cD rfl ?_;refine nF (dW rfl ?_);refine z1 ?_;refine yX rfl hI rfl ?_;refine aK ?_;refine cD rfl (jo ?_);exact Ol rfl rfl Z
def yt(Z:aw G L w):SM prog 337 #[p0,p1,p2] w (fun r w'=>aw G L w'):=by
 obtain⟨ms,hI⟩:=wu;refine sJ (u:= .returning) (args:=[_,_,_]) func337 rfl ntmps337 rfl rfl rfl rfl ?_;refine nF (dW rfl ?_);refine z1 ?_;refine Qz rfl gb o6 rfl ?_;refine z6 ?_;refine nF (dW rfl ?_);refine z2 ?_;refine cD rfl ?_;refine nF (dW rfl ?_);refine z1 ?_;refine yX rfl hI rfl ?_;refine aK ?_;refine cD rfl (jo ?_);exact Ol rfl rfl Z
def yr(Z:aw G L w):SM prog 333 #[p0,p1,p2] w (fun r w'=>aw G L w'):=by
 obtain⟨ms,hI⟩:=wu;refine sJ (u:= .returning) (args:=[_,_,_]) func333 rfl ntmps333 rfl rfl rfl rfl ?_;refine nF (dW rfl ?_);refine z1 ?_;refine Qz rfl gb o6 rfl ?_;refine z6 ?_;refine nF (dW rfl ?_);refine z2 ?_;refine cD rfl ?_;refine nF (dW rfl ?_);refine z1 ?_;refine yX rfl hI rfl ?_;refine aK ?_;refine cD rfl (jo ?_);exact Ol rfl rfl Z
def yq(Z:aw G L w):SM prog 336 #[p0,p1,p2] w (fun r w'=>aw G L w'):=by
 obtain⟨ms,hI⟩:=wu;refine sJ (u:= .returning) (args:=[_,_,_]) func336 rfl ntmps336 rfl rfl rfl rfl ?_;refine nF (dW rfl ?_);refine z1 ?_;refine Qz rfl gb o6 rfl ?_;refine z6 ?_;refine nF (dW rfl ?_);refine z2 ?_;refine cD rfl ?_;refine nF (dW rfl ?_);refine z1 ?_;refine yX rfl hI rfl ?_;refine aK ?_;refine cD rfl (jo ?_);exact Ol rfl rfl Z
def C4(Z:aw G L w):SM prog 338 #[p0,p1,p2] w (fun r w'=>aw G L w'):=by
 obtain⟨ms,hI⟩:=wu;refine sJ (u:= .returning) (args:=[_,_,_]) func338 rfl ntmps338 rfl rfl rfl rfl ?_;refine nF (dW rfl ?_);refine z1 ?_;refine Qz rfl gb o6 rfl ?_;refine z6 ?_;refine nF (dW rfl ?_);refine z2 ?_;refine cD rfl ?_;refine nF (dW rfl ?_);refine z1 ?_;refine yX rfl hI rfl ?_;refine aK ?_;refine cD rfl (jo ?_);exact Ol rfl rfl Z
def C6(Z:aw G (kV q b 0::ad::L) w)(hf:an prog f)(yQ:rv.oneCell'=true)(hdo:∀(M:List aF) (w:ae),aw G (kV q b 0::ad::M) w->aA prog f caps.toArray w (bU fun r w'=>r=rv/\aw G (kV q b' 0::ad::M) w')):
  aA prog 289 #[pQ q, .func (.func f) #[] caps.toArray] w (bU fun r w'=>r=rv/\aw G (kV q b' 0::ad::L) w'):=by
 obtain⟨v,v0,b0,kv,hp,Z⟩:=o9 Z;obtain⟨a,cap,rfl⟩:=(((kv (ad::L)).of sF).at Z).form;refine wF [_,_] func289 ntmps289 ?_;refine wB 2 Z fun w b2 Z=>?_;refine wL 0 wH Z fun w b4 Z=>?_;refine wD 4 (v:=pQ q) bu Z ?_;refine wD 2 (v:=I 0) bP Z ?_;refine wI 2 (fun Y=>?_) fun Y=>?_
 ·exact aS rfl Y
 refine wD 3 (v:=pQ q) bu Z ?_;refine wD 2 (v:= .slice a b.length cap) ao Z ?_;refine wL 0 sW Z fun w b5 Z=>?_;refine wS 0 (l':=[.slice a b.length cap]) ao Z fun w Z=>?_;refine z2 ?_;refine DJ (fs:=0) (fn:= .func 335) (first:=#[]) (captured:=#[pQ b5,pQ b4,pQ b2]) (hm:=rfl) rfl ?_;refine o7 (v1:=#[]) (v2:=#[pQ b5,pQ b4,pQ b2]) rfl (by intro z hz;simp at hz;rcases hz with rfl|rfl|rfl<;>exact⟨_,rfl⟩) sM (by simp only[su,ey,l9];rfl) ?_;refine aK ?_;refine⟨rfl,?_⟩;refine z3 ?_;have Z:=o8 kv hp (Z.b [N q _ _,row 5 1 v0 _ _]);have Z:=Z.b [kV q b 0,ad];refine iN (args':=caps) rfl rfl hf rfl sM (hdo _ w Z) rfl fun w NG hv=>?_;obtain⟨rfl,Z⟩:=hv;refine rU (l':=[NG]) rfl tV rfl rfl dN yQ Z pK rfl rfl rfl fun w Z=>?_;refine z2 ?_;refine cV rfl ?_;refine s9 yE (zF Z) fun v w hv=>?_;exact xg rfl ⟨_,rfl,(aD.cw (v:=NG) dN hv pK rfl)⟩ ⟨rfl,(hv.b [N b4 _ _,N b5 _ _,N b2 _ _]).t3⟩
def Et(Z:aw G (kV q b 0::L) w)(hn:1<=b.length)(hl:b.length<=1000000000000):aA prog 230 #[pQ q] w (bU fun r w'=>r= .int .u8 ((jP (b.take 1):Nat):Int)/\aw G (kV q (b.drop 1) 0::L) w'):=by
 refine wF [_] func230 ntmps230 ?_;refine wB 2 Z fun w b1 Z=>?_;refine wD 4 (v:=pQ q) bu Z ?_;refine o7 (v1:=#[]) (v2:=#[pQ b1]) rfl (by intro z hz;simp at hz;subst hz;exact⟨_,rfl⟩) sM (by simp only[su,ey,l9];rfl) ?_;have Z:=Z.b [kV q b 0,N b1 _ _];refine wC rfl BY rfl (C6 (b':=b.drop 1) (rv:= .int .u8 ((jP (b.take 1):Nat):Int)) (caps:=[pQ b1]) Z Ai rfl (fun M w Z=>BL Z hn hl)) fun w Z=>?_
 refine dk 3 ?_;exact⟨rfl,(Z.b [N b1 _ _]).tail⟩
def BK(Z:aw G (kV q b 0::ad::L) w)(hf:an prog f)(yQ:rv.oneCell'=true)(hdo:∀(M:List aF) (w:ae),aw G (kV q b 0::ad::M) w->aA prog f caps.toArray w (bU fun r w'=>r=rv/\aw G (kV q b' 0::ad::M) w')):
  aA prog 295 #[pQ q, .func (.func f) #[] caps.toArray] w (bU fun r w'=>r=rv/\aw G (kV q b' 0::ad::L) w'):=by
 obtain⟨v,v0,b0,kv,hp,Z⟩:=o9 Z;obtain⟨a,cap,rfl⟩:=(((kv (ad::L)).of sF).at Z).form;refine wF [_,_] func295 ntmps295 ?_;refine wB 2 Z fun w b2 Z=>?_;refine wL 0 YT Z fun w b4 Z=>?_;refine wD 4 (v:=pQ q) bu Z ?_;refine wD 2 (v:=I 0) bP Z ?_;refine wI 2 (fun Y=>?_) fun Y=>?_
 ·exact aS rfl Y
 refine wD 3 (v:=pQ q) bu Z ?_;refine wD 2 (v:= .slice a b.length cap) ao Z ?_;refine wL 0 sW Z fun w b5 Z=>?_;refine wS 0 (l':=[.slice a b.length cap]) ao Z fun w Z=>?_;refine z2 ?_;refine DJ (fs:=0) (fn:= .func 337) (first:=#[]) (captured:=#[pQ b5,pQ b4,pQ b2]) (hm:=rfl) rfl ?_;refine o7 (v1:=#[]) (v2:=#[pQ b5,pQ b4,pQ b2]) rfl (by intro z hz;simp at hz;rcases hz with rfl|rfl|rfl<;>exact⟨_,rfl⟩) sM (by simp only[su,ey,l9];rfl) ?_;refine aK ?_;refine⟨rfl,?_⟩;refine z3 ?_;have Z:=o8 kv hp (Z.b [N q _ _,row 5 1 v0 _ _]);have Z:=Z.b [kV q b 0,ad];refine iN (args':=caps) rfl rfl hf rfl sM (hdo _ w Z) rfl fun w NG hv=>?_;obtain⟨rfl,Z⟩:=hv;refine rU (l':=[NG]) rfl tV rfl rfl JH yQ Z pK rfl rfl rfl fun w Z=>?_;refine z2 ?_;refine cV rfl ?_;refine s9 xE (yt Z) fun v w hv=>?_;exact xg rfl ⟨_,rfl,(aD.cw (v:=NG) JH hv pK rfl)⟩ ⟨rfl,(hv.b [N b4 _ _,N b5 _ _,N b2 _ _]).t3⟩
def C8(Z:aw G (kV q b 0::L) w)(hn:2<=b.length)(hl:b.length<=1000000000000):aA prog 233 #[pQ q] w (bU fun r w'=>r= .int .u16 ((jP (b.take 2):Nat):Int)/\aw G (kV q (b.drop 2) 0::L) w'):=by
 refine wF [_] func233 ntmps233 ?_;refine wB 2 Z fun w b1 Z=>?_;refine wD 4 (v:=pQ q) bu Z ?_;refine o7 (v1:=#[]) (v2:=#[pQ b1]) rfl (by intro z hz;simp at hz;subst hz;exact⟨_,rfl⟩) sM (by simp only[su,ey,l9];rfl) ?_;have Z:=Z.b [kV q b 0,N b1 _ _];refine wC rfl Ah rfl (BK (b':=b.drop 2) (rv:= .int .u16 ((jP (b.take 2):Nat):Int)) (caps:=[pQ b1]) Z yI rfl (fun M w Z=>zM Z hn hl)) fun w Z=>?_
 refine dk 3 ?_;exact⟨rfl,(Z.b [N b1 _ _]).tail⟩
def BJ(Z:aw G (kV q b 0::ad::L) w)(hf:an prog f)(yQ:rv.oneCell'=true)(hdo:∀(M:List aF) (w:ae),aw G (kV q b 0::ad::M) w->aA prog f caps.toArray w (bU fun r w'=>r=rv/\aw G (kV q b' 0::ad::M) w')):
  aA prog 284 #[pQ q, .func (.func f) #[] caps.toArray] w (bU fun r w'=>r=rv/\aw G (kV q b' 0::ad::L) w'):=by
 obtain⟨v,v0,b0,kv,hp,Z⟩:=o9 Z;obtain⟨a,cap,rfl⟩:=(((kv (ad::L)).of sF).at Z).form;refine wF [_,_] func284 ntmps284 ?_;refine wB 2 Z fun w b2 Z=>?_;refine wL 0 YS Z fun w b4 Z=>?_;refine wD 4 (v:=pQ q) bu Z ?_;refine wD 2 (v:=I 0) bP Z ?_;refine wI 2 (fun Y=>?_) fun Y=>?_
 ·exact aS rfl Y
 refine wD 3 (v:=pQ q) bu Z ?_;refine wD 2 (v:= .slice a b.length cap) ao Z ?_;refine wL 0 sW Z fun w b5 Z=>?_;refine wS 0 (l':=[.slice a b.length cap]) ao Z fun w Z=>?_;refine z2 ?_;refine DJ (fs:=0) (fn:= .func 333) (first:=#[]) (captured:=#[pQ b5,pQ b4,pQ b2]) (hm:=rfl) rfl ?_;refine o7 (v1:=#[]) (v2:=#[pQ b5,pQ b4,pQ b2]) rfl (by intro z hz;simp at hz;rcases hz with rfl|rfl|rfl<;>exact⟨_,rfl⟩) sM (by simp only[su,ey,l9];rfl) ?_;refine aK ?_;refine⟨rfl,?_⟩;refine z3 ?_;have Z:=o8 kv hp (Z.b [N q _ _,row 5 1 v0 _ _]);have Z:=Z.b [kV q b 0,ad];refine iN (args':=caps) rfl rfl hf rfl sM (hdo _ w Z) rfl fun w NG hv=>?_;obtain⟨rfl,Z⟩:=hv;refine rU (l':=[NG]) rfl tV rfl rfl xd yQ Z pK rfl rfl rfl fun w Z=>?_;refine z2 ?_;refine cV rfl ?_;refine s9 xD (yr Z) fun v w hv=>?_;exact xg rfl ⟨_,rfl,(aD.cw (v:=NG) xd hv pK rfl)⟩ ⟨rfl,(hv.b [N b4 _ _,N b5 _ _,N b2 _ _]).t3⟩
def oG(Z:aw G (kV q b 0::L) w)(hn:4<=b.length)(hl:b.length<=1000000000000):aA prog 227 #[pQ q] w (bU fun r w'=>r= .int .u32 ((jP (b.take 4):Nat):Int)/\aw G (kV q (b.drop 4) 0::L) w'):=by
 refine wF [_] func227 ntmps227 ?_;refine wB 2 Z fun w b1 Z=>?_;refine wD 4 (v:=pQ q) bu Z ?_;refine o7 (v1:=#[]) (v2:=#[pQ b1]) rfl (by intro z hz;simp at hz;subst hz;exact⟨_,rfl⟩) sM (by simp only[su,ey,l9];rfl) ?_;have Z:=Z.b [kV q b 0,N b1 _ _];refine wC rfl Ag rfl (BJ (b':=b.drop 4) (rv:= .int .u32 ((jP (b.take 4):Nat):Int)) (caps:=[pQ b1]) Z yH rfl (fun M w Z=>zL Z hn hl)) fun w Z=>?_
 refine dk 3 ?_;exact⟨rfl,(Z.b [N b1 _ _]).tail⟩
def BI(Z:aw G (kV q b 0::ad::L) w)(hf:an prog f)(yQ:rv.oneCell'=true)(hdo:∀(M:List aF) (w:ae),aw G (kV q b 0::ad::M) w->aA prog f caps.toArray w (bU fun r w'=>r=rv/\aw G (kV q b' 0::ad::M) w')):
  aA prog 292 #[pQ q, .func (.func f) #[] caps.toArray] w (bU fun r w'=>r=rv/\aw G (kV q b' 0::ad::L) w'):=by
 obtain⟨v,v0,b0,kv,hp,Z⟩:=o9 Z;obtain⟨a,cap,rfl⟩:=(((kv (ad::L)).of sF).at Z).form;refine wF [_,_] func292 ntmps292 ?_;refine wB 2 Z fun w b2 Z=>?_;refine wL 0 YR Z fun w b4 Z=>?_;refine wD 4 (v:=pQ q) bu Z ?_;refine wD 2 (v:=I 0) bP Z ?_;refine wI 2 (fun Y=>?_) fun Y=>?_
 ·exact aS rfl Y
 refine wD 3 (v:=pQ q) bu Z ?_;refine wD 2 (v:= .slice a b.length cap) ao Z ?_;refine wL 0 sW Z fun w b5 Z=>?_;refine wS 0 (l':=[.slice a b.length cap]) ao Z fun w Z=>?_;refine z2 ?_;refine DJ (fs:=0) (fn:= .func 336) (first:=#[]) (captured:=#[pQ b5,pQ b4,pQ b2]) (hm:=rfl) rfl ?_;refine o7 (v1:=#[]) (v2:=#[pQ b5,pQ b4,pQ b2]) rfl (by intro z hz;simp at hz;rcases hz with rfl|rfl|rfl<;>exact⟨_,rfl⟩) sM (by simp only[su,ey,l9];rfl) ?_;refine aK ?_;refine⟨rfl,?_⟩;refine z3 ?_;have Z:=o8 kv hp (Z.b [N q _ _,row 5 1 v0 _ _]);have Z:=Z.b [kV q b 0,ad];refine iN (args':=caps) rfl rfl hf rfl sM (hdo _ w Z) rfl fun w NG hv=>?_;obtain⟨rfl,Z⟩:=hv;refine rU (l':=[NG]) rfl tV rfl rfl JG yQ Z pK rfl rfl rfl fun w Z=>?_;refine z2 ?_;refine cV rfl ?_;refine s9 xC (yq Z) fun v w hv=>?_;exact xg rfl ⟨_,rfl,(aD.cw (v:=NG) JG hv pK rfl)⟩ ⟨rfl,(hv.b [N b4 _ _,N b5 _ _,N b2 _ _]).t3⟩
def C7(Z:aw G (kV q b 0::L) w)(hn:8<=b.length)(hl:b.length<=1000000000000):aA prog 231 #[pQ q] w (bU fun r w'=>r= .int .u64 ((jP (b.take 8):Nat):Int)/\aw G (kV q (b.drop 8) 0::L) w'):=by
 refine wF [_] func231 ntmps231 ?_;refine wB 2 Z fun w b1 Z=>?_;refine wD 4 (v:=pQ q) bu Z ?_;refine o7 (v1:=#[]) (v2:=#[pQ b1]) rfl (by intro z hz;simp at hz;subst hz;exact⟨_,rfl⟩) sM (by simp only[su,ey,l9];rfl) ?_;have Z:=Z.b [kV q b 0,N b1 _ _];refine wC rfl Af rfl (BI (b':=b.drop 8) (rv:= .int .u64 ((jP (b.take 8):Nat):Int)) (caps:=[pQ b1]) Z yG rfl (fun M w Z=>zK Z hn hl)) fun w Z=>?_
 refine dk 3 ?_;exact⟨rfl,(Z.b [N b1 _ _]).tail⟩
def C5{va vb x0:C}{b2 b4 b5:Nat}(hva:va.oneCell'=true)(Z:aw G (N b5 [va] 55::N b4 [x0] 3::N b2 [pQ q] 338::N q [vb,I 0] 399::L) w):
  CallsDIn (Fw none) 0 prog 338 #[pQ b5,pQ b4,pQ b2] (.panicking [{v:= .iface 41 (I ee),recovered:=false}]) w fun en u' w'=>
   u'= .panicking [{v:= .iface 41 (I ee),recovered:=true}]/\bU (fun r w'=>aw G (N b5 [va] 55::N b4 [I 0] 3::N b2 [pQ q] 338::N q [va,I ee] 399::L) w') en w':=by
 refine sJ (u:= .panicking [{v:= .iface 41 (I ee),recovered:=false}]) (args:=[_,_,_]) func338 rfl ntmps338 rfl rfl rfl rfl ?_;refine nF (dW rfl ?_);refine z1 ?_;refine agq rfl gb sM rfl ?_;refine z6 ?_;refine nF (dW rfl ?_);refine z2 ?_;refine cr rfl ?_;refine nF (dW rfl ?_);refine wD 3 (v:=pQ q) bu Z ?_;refine wD 0 (v:=pQ q) bu Z ?_;refine wD 1 (v:=va) ao Z ?_;refine wS 1 (l':=[I 0]) ag Z fun w Z=>?_;refine z2 ?_;refine rU (l':=[va,I 0]) rfl tV rfl rfl ao hva Z pK rfl rfl rfl fun w Z=>?_;refine wS 2 (l':=[va,I ee]) bP Z fun w Z=>?_;refine aK ?_;exact Ol rfl rfl (Z.b [N b5 _ _,N b4 _ _,N b2 _ _,N q _ _])
def F9{z:Prop}(Z:aw G (kV q b 0::ad::L) w)(hf:an prog f)(hdo:∀(M:List aF) (w:ae),aw G (kV q b 0::ad::M) w->aA prog f caps.toArray w (fun en w'=>(z/\en= .returned (I 0)/\aw G (kV q b' 0::ad::M) w')\/(¬z/\en= .panicked [{v:= .iface 41 (I ee),recovered:=false}]/\aw G (kV q b' 0::ad::M) w'))):
  aA prog 298 #[pQ q, .func (.func f) #[] caps.toArray] w (bU fun r w'=>(z/\aw G (kV q b' 0::ad::L) w')\/(¬z/\aw G (Za q ee::ad::L) w')):=by
 obtain⟨v,v0,b0,kv,hp,Z⟩:=o9 Z;obtain⟨a,cap,rfl⟩:=(((kv (ad::L)).of sF).at Z).form;refine Ad (args:=[_,_]) func298 rfl ntmps298 rfl rfl ?_;refine ou ?_;refine qO (dW rfl ?_);refine wB 0 Z fun w b2 Z=>?_;refine wL 0 YV Z fun w b4 Z=>?_;refine aK ?_;refine ou ?_;refine ou ?_;refine qO (dW rfl ?_);refine wD 0 (v:=pQ q) bu Z ?_;refine wD 2 (v:=I 0) bP Z ?_;refine z2 ?_;refine YY rfl (fun Y=>?_) fun Y=>?_
 ·exact aS rfl Y
 refine qO (jo ?_);refine ou ?_;refine qO (dW rfl ?_);refine wD 0 (v:=pQ q) bu Z ?_;refine wD 2 (v:= .slice a b.length cap) ao Z ?_;refine wL 0 sW Z fun w b5 Z=>?_;refine wS 0 (l':=[.slice a b.length cap]) ao Z fun w Z=>?_;refine aK ?_;refine ou ?_;refine qO (DJ (fs:=0) (fn:= .func 338) (first:=#[]) (captured:=#[pQ b5,pQ b4,pQ b2]) (hm:=rfl) rfl ?_);refine o7 (v1:=#[]) (v2:=#[pQ b5,pQ b4,pQ b2]) rfl (by intro z hz;simp at hz;rcases hz with rfl|rfl|rfl<;>exact⟨_,rfl⟩) sM (by simp only[su,ey,l9];rfl) ?_;refine aK ?_;refine⟨rfl,?_⟩;refine ou ?_;have Z:=o8 kv hp (Z.b [N q _ _,row 5 1 v0 _ _]);have Z:=Z.b [kV q b 0,ad];refine U8 [0] 1 [2] rfl rfl rfl ?_;refine z1 ?_;refine aK ⟨f,#[],caps.toArray,[],_,rfl,hf,rfl,by have h:=hdo _ w Z;simpa using h,?_,?_,?_⟩
 rotate_left
 ·rintro ch w (⟨-,h,-⟩|⟨hz,h,Z⟩)
  ·cases h
  cases h;obtain⟨v1,v2,b1,-,-,Z⟩:=o9 Z;refine Xv (R:=_) rfl r8 (C5 rfl (Z.b [N b5 _ _,N b4 _ _,N b2 _ _,N q _ _])) fun x w hv=>?_;refine xg rfl ⟨_,rfl,(aD.cw (v:=I 0) ag hv pK rfl)⟩ (.inr ⟨hz,?_⟩);have hz2:=(hv.b [N b5 _ _,N b4 _ _,N b2 _ _,row 5 1 v2 _ _]).t4;exact aw.oU (.slice a b.length cap) (aw.qE ⟨_,_,_,rfl⟩ hz2)
 ·rintro w (⟨-,h,-⟩|⟨-,h,-⟩)<;>cases h
 rintro NG w (⟨hz,h,Z⟩|⟨-,h,-⟩)
 rotate_left
 ·cases h
 cases h;refine wS 0 (l':=[I 0]) ag Z fun w Z=>?_;refine aK ?_;refine qO (Ca ?_);refine V3 (cV rfl ?_) (fun _ _ h=>h);refine s9 r8 (C4 Z) fun v w hv=>?_;exact xg rfl ⟨_,rfl,(aD.cw (v:=I 0) ag hv pK rfl)⟩ (.inl ⟨hz,(hv.b [N b4 _ _,N b5 _ _,N b2 _ _]).t3⟩)
def acH{e:Int}(Z:aw G L w):aA prog 300 #[.bool false,I e] w (fun en w'=>en= .panicked [{v:= .iface 41 (I e),recovered:=false}]/\aw G L w'):=by
 refine Ad (args:=[_,_]) func300 rfl ntmps300 rfl rfl ?_;refine ou (qO (dW rfl ?_));refine z1 ?_;refine nh rfl rfl ?_;refine aK ?_;refine YY (p:=True) rfl (fun _=>?_) (fun h=>aS trivial h);refine YX [0,1] 2 rfl rfl ?_;refine z1 ?_;refine uf rfl gb sM rfl ?_;refine aK ⟨_,_,rfl,Hf rfl ⟨rfl,Z⟩⟩
def HU{p:Nat}(Z:aw G (kV q b 0::N p [pQ q] 338::L) w)(hl:b.length<=1000000000000):
  aA prog 299 #[pQ p] w (fun en w'=>(kW b/\en= .returned (I 0)/\aw G (kV q [] 0::N p [pQ q] 338::L) w')∨
   (¬kW b/\en= .panicked [{v:= .iface 41 (I 5),recovered:=false}]/\aw G (kV q [] 0::N p [pQ q] 338::L) w')):=by
 obtain⟨v,v0,b0,kv,hp,Z⟩:=o9 Z;obtain⟨a,cap,rfl⟩:=(((kv (N p [pQ q] 338::L)).of sF).at Z).form;refine Ad (args:=[_]) func299 rfl ntmps299 rfl rfl ?_;refine ou ?_;refine qO (dW rfl ?_);refine z2 ?_;refine ou ?_;refine ou ?_;refine qO (Y7 [0,1,2,3,4,5,8,6,7] Cg kR ?_);replace Z:=Z.drawn (w.drawn+1);refine wD 0 (v:=pQ q) bu Z ?_;refine wD 0 (v:=pQ q) bu Z ?_;refine wD 2 (v:= .slice a b.length cap) ao Z ?_;refine z2 ?_;have Z:=o8 kv hp (Z.b [N q _ _,row 5 1 v0 _ _]);refine aO rfl ik rfl (iJ (n:=b.length) Z (fP _) hl) kR fun w v10 hv=>?_;have Z:=hv;rw[ZF,qS]at Z;obtain⟨a7,c7,rfl⟩:=((eB.row.head _).at (Z.b [row 5 1 v10 _ _])).form;refine z2 ?_;refine Qy ?_;refine abL (fun m e w=>∃k:Nat,k<=b.length/\m=b.length-k/\e=[(10, .slice a7 b.length c7),(11,I b.length),(12,I k)]/\kW (b.take k)/\aw G (row 5 1 (.slice a7 b.length c7) b.length (cI b)::kV q [] 0::N p [pQ q] 338::L) w)
  (m:=b.length) sB
  ⟨0,de _,rfl,rfl,(fun x E=>by simp at E),Z.b [row 5 1 _ _ _]⟩ ?_
 rintro m e w ⟨k,hk,rfl,rfl,hzk,Z⟩;refine ou ?_;refine qO (dW rfl ?_);refine z2 ?_;refine ou ?_;refine YY rfl (fun Y=>?_) fun Y=>?_
 ·have gn:k<b.length:=H;have jr:=(eB.row.head _).at Z;obtain⟨bb,oo,rfl⟩:=jr.nn H;obtain⟨x,E⟩:∃x,x=b.getD k 0:=⟨_,rfl⟩;refine qO (jo ?_);refine ou ?_;refine Qy ?_;refine ou ?_;refine qO (dW rfl ?_);refine wY 0 aR bo ?_;refine bg rfl rfl (aD.one (v:=bv x) dN (by have h:=jr.at (i:=(k:Int)) ⟨H,H⟩;rw[E];exact h)) ?_;refine z2 ?_
  by_cases Qi:x=0
  rotate_left
  ·refine U8 [0,1] 2 [] rfl rfl rfl ?_;refine z2 ?_;have hxf:decide ((x.toNat:Int)=0)=false:=cN fun h=>Qi (UInt8.toNat_inj.1 (by show x.toNat=0;omega))
   rw[hxf];have h5:=acH (e:=5) Z;refine aK ⟨300,#[],#[],[.bool false,I 5],_,rfl,qL,rfl,h5,?_,?_,?_⟩
   ·rintro v w ⟨h,-⟩;cases h
   rotate_left
   ·rintro w ⟨h,-⟩;cases h
   rintro ch w ⟨h,Z⟩;cases h;refine Hf rfl (.inr ⟨fun hz=>Qi ?_,rfl,Z.tail⟩);have:=hz x (by rw[E,ma,dG gn];exact QU _);exact this
  refine qO (dW rfl ?_);refine z2 ?_;refine wC rfl qL rfl (xy (by rw[Qi];rfl) Z) fun w Z=>?_
  refine aK ?_;refine qO (dW rfl ?_);refine z3 ?_;refine⟨b.length-(k+1),H,[(10,_),(11,_),(12,I (k+1:Nat))],sB,k+1,H,rfl,rfl,?_,Z⟩;rw[eu b k 0 gn,<-E,Qi];intro y hy;rcases eZ.1 hy with hy|hy
  ·exact hzk y hy
  simpa using hy
 refine qO (Y6 rfl ?_);refine ou ?_;refine qO (dW rfl ?_);refine z2 ?_;refine qO (Ca ?_);refine V3 (R:=fun r w'=>kW b/\r=I 0/\aw G (kV q [] 0::N p [pQ q] 338::L) w') (dt rfl rfl rfl ⟨by rw[kH H]at hzk;exact hzk,rfl,Z.tail⟩) ?_;rintro en w ⟨r,rfl,Y,rfl,J⟩;exact .inl ⟨Y,rfl,J⟩
def zJ(Z:aw G (kV q b 0::L) w)(hl:b.length<=1000000000000):aA prog 234 #[pQ q] w (bU fun r w'=>(kW b/\aw G (kV q [] 0::L) w')\/(¬kW b/\aw G (Za q 5::L) w')):=by
 refine wF [_] func234 ntmps234 ?_;refine wB 2 Z fun w b1 Z=>?_;refine wD 2 (v:=pQ q) bu Z ?_;refine o7 (v1:=#[]) (v2:=#[pQ b1]) rfl (by intro z hz;simp at hz;subst hz;exact⟨_,rfl⟩) sM (by simp only[su,ey,l9];rfl) ?_;have Z:=Z.b [kV q b 0,N b1 _ _];refine aO rfl EO rfl (F9 (b':=[]) (caps:=[pQ b1]) Z vZ (fun M w Z=>HU Z hl)) rfl fun w v4 hv=>?_;refine aK ?_;exact u6 rfl rfl (hv.imp (fun h=>⟨h.1,(h.2.b [N b1 _ _]).tail⟩) (fun h=>⟨h.1,(h.2.b [N b1 _ _]).tail⟩))
def PF(Z:aw G (kV q [] 0::L) w):aA prog 235 #[pQ q] w (bU fun r w'=>r=I 0/\aw G (kV q [] 0::L) w'):=by
 obtain⟨v,v0,b0,kv,hp,Z⟩:=o9 Z;obtain⟨a,cap,rfl⟩:=(((kv L).of sF).at Z).form;refine wF [_] func235 ntmps235 ?_;refine wD 10 (v:=I 0) bP Z ?_;refine z2 ?_;refine ar (d:=8) rfl (fun Y=>?_) fun Y=>?_
 ·refine z1 ?_;refine vr rfl rfl ?_;refine wD 1 (v:= .slice a ([]:bZ).length cap) ao Z ?_;refine wI 4 (fun J=>?_) fun J=>?_
  ·exact aS J sM
  refine wD 6 (v:=I 0) bP Z ?_;refine dk 3 ?_;exact⟨rfl,o8 kv hp Z⟩
 exact aS rfl Y
def PE(Z:aw G (Za q er::L) w)(he:er≠0):aA prog 235 #[pQ q] w (bU fun r w'=>r=I er/\aw G (Za q er::L) w'):=by
 obtain⟨v,Z⟩:=Z.nt;obtain⟨⟨a,m,c,rfl⟩,Z⟩:=Z.lf;refine wF [_] func235 ntmps235 ?_;refine wD 10 (v:=I er) bP Z ?_;refine z2 ?_;refine ar (d:=8) rfl (fun Y=>?_) fun Y=>?_
 ·exact aS Y he
 refine z8 ?_;refine cD rfl ?_;refine wD 6 (v:=I er) bP Z ?_;refine dk 3 ?_;exact⟨rfl,aw.oU _ (aw.qE ⟨_,_,_,rfl⟩ Z)⟩
end
def I':List C:=[u32 0#32,u32 274646895#32,u32 549293790#32,u32 820201905#32,u32 1098587580#32,u32 1361435347#32,u32 1640403810#32,u32 1905808397#32,u32 2197175160#32,u32 2460548119#32,u32 2722870694#32,u32 2987750089#32,u32 3280807620#32,u32 3553878443#32,u32 3811616794#32,u32 4084100981#32]
def NJ:lK I':=fun u hu=>by
 simp only[I',cE,fQ,or_false]at hu;rcases hu with rfl|rfl|rfl|rfl|rfl|rfl|rfl|rfl|rfl|rfl|rfl|rfl|rfl|rfl|rfl|rfl<;>rfl
def Zi(w:wv):I'[0+(((w&&&15#32).toNat:Nat):Int).toNat*1]?=some (u32 (tab (w&&&15#32).toNat)):=by
 have h:=LQ w;rw[cZ,DV,mT]
 generalize (w&&&15#32).toNat=n at h
 match n,h with
 |0,_=>rfl
 |1,_=>rfl
 |2,_=>rfl
 |3,_=>rfl
 |4,_=>rfl
 |5,_=>rfl
 |6,_=>rfl
 |7,_=>rfl
 |8,_=>rfl
 |9,_=>rfl
 |10,_=>rfl
 |11,_=>rfl
 |12,_=>rfl
 |13,_=>rfl
 |14,_=>rfl
 |15,_=>rfl
 |n+16,h=>omega
def MT(Z:aw G L w):aA prog 334 #[] w (bU fun r w'=>r=gQ I'/\aw G L w'):=by
 refine wF [] func334 ntmps334 ?_;refine wL 2 DE Z fun w b0 Z=>?_;refine wV 3 (v:=gQ I') ?_;refine wN 0 (cs:=I') (l':=I') rG NJ Z fun w Z=>?_;refine z2 ?_;exact dt rfl rfl ⟨_,rfl,(aD.dB (l:=I') rG Z pK rfl)⟩ ⟨rfl,Z.tail⟩
def Yj{w0:wv}{l:bZ}(Z:aw G L w)(kl:aL L (eB v l))(hl:l.length<=1000000000000):
  aA prog 288 #[u32 w0,v] w (bU fun r w'=>r=u32 (onB w0 l)/\aw G L w'):=by
 obtain⟨a,cap,rfl⟩:=(kl.at Z).form;refine wF [_,_] func288 ntmps288 ?_;refine z6 ?_;refine wC rfl Lr rfl (MT Z) fun w Z=>?_
 refine wL 0 DE Z fun w b5 Z=>?_;refine wN 0 (cs:=I') (l':=I') rG NJ Z fun w Z=>?_;refine z9 ?_;refine bx (fun m e w=>∃(k:Nat) (w1:wv),k<=l.length/\m=l.length-k/\w1=onB w0 (l.take k)/\e=[(0,u32 w1),(5,pQ b5),(9, .slice a l.length cap),(10,I l.length),(11,I k)]/\aw G (N b5 I' 430::L) w)
  (m:=l.length) sB
  ⟨0,w0,de _,rfl,rfl,rfl,Z⟩ ?_
 rintro m e w ⟨k,w1,hk,rfl,Uf,rfl,Z⟩;refine wI 5 (fun Y=>?_) fun Y=>?_
 ·have gn:k<l.length:=H;obtain⟨bb,oo,rfl⟩:=((kl.of sF).at Z).nn H;obtain⟨x,E⟩:∃x,x=l.getD k 0:=⟨_,rfl⟩;refine wY 5 aR bo ?_;refine bg rfl rfl (aD.one (v:=bv x) dN (by have h:=((kl.of sF).at Z).at (i:=(k:Int)) ⟨H,H⟩;rw[E];exact h)) ?_;refine z6 ?_;refine CF rfl kR ig mN rfl ?_;refine OK (v:=((w1^^^BitVec.ofNat 32 x.toNat).toNat:Int)) rfl rfl rfl (by rw[abq];exact Nw _ _) ?_;obtain⟨w2,hw2⟩:∃w2,w2=w1^^^BitVec.ofNat 32 x.toNat:=⟨_,rfl⟩;rw[<-hw2];refine z5 ?_;refine Nx (v:=((w2>>>4).toNat:Int)) rfl rfl rfl dM (ael _) ?_;refine z1 ?_;refine Tj (v:=((w2&&&15#32).toNat:Int)) rfl rfl rfl (aeG _) ?_;refine IX rfl E6 NK rfl rfl ⟨H,by have:=LQ w2;omega⟩ ?_;refine bg rfl rfl (aD.cw (v:=u32 (tab (w2&&&15#32).toNat)) xd Z pK (Zi w2)) ?_;refine OK (v:=((DN w2).toNat:Int)) rfl rfl rfl (Nw _ _) ?_;obtain⟨w3,hw3⟩:∃w3,w3=DN w2:=⟨_,rfl⟩;rw[<-hw3];refine z4 ?_;refine Nx (v:=((w3>>>4).toNat:Int)) rfl rfl rfl dM (ael _) ?_;refine z1 ?_;refine Tj (v:=((w3&&&15#32).toNat:Int)) rfl rfl rfl (aeG _) ?_;refine IX rfl E6 NK rfl rfl ⟨H,by have:=LQ w3;omega⟩ ?_;refine bg rfl rfl (aD.cw (v:=u32 (tab (w3&&&15#32).toNat)) xd Z pK (Zi w3)) ?_;refine OK (v:=((DN w3).toNat:Int)) rfl rfl rfl (Nw _ _) ?_;refine z6 ?_;exact⟨l.length-(k+1),H,[(0,u32 (DN w3)),(5,_),(9,_),(10,_),(11,I (k+1:Nat))],sB,k+1,DN w3,H,rfl,by rw[eu l k 0 gn,CN,<-Uf,hw3,hw2,E];rfl,rfl,Z⟩
 refine dk 7 ?_;exact⟨by rw[Uf,kH H],Z.tail⟩
def Om{l:bZ}(Z:aw G L w)(kl:aL L (eB v l))(hl:l.length<=1000000000000):
  aA prog 229 #[v] w (bU fun r w'=>r=u32 (s0 l)/\aw G L w'):=by
 refine wF [_] func229 ntmps229 ?_;refine z7 ?_;refine wC rfl UU rfl (Yj (w0:= ~~~0#32) Z kl hl) fun w Z=>?_
 refine Nz (v:=((s0 l).toNat:Int)) rfl rfl (aeE _) ?_;refine dk 3 ?_;exact⟨rfl,Z⟩
def qY{b:bZ}(h:j+k<=508):(((b.take 508).drop j).take k)=(b.drop j).take k:=by
 rw[List.drop_take,List.take_take,Jq H]
def VC{b:bZ}(h:0<b.length):jP (b.take 1)=(b.getD 0 0).toNat:=by
 cases b with
 |nil=>simp at h
 |cons x l=>simp[jP]
def Sd{gen:Int}(Z:aw G L w):aA prog 225 #[I gen,I pages] w (bU fun r w'=>r= .bool (decide ((0<=gen/\gen<=1099511627776)/\0<=pages/\pages<=65536))/\aw G L w'):=by
 refine wF [_,_] func225 ntmps225 ?_;refine z9 ?_;refine ar (d:=7) rfl (fun Y=>?_) fun Y=>?_
 ·refine z4 ?_;refine ar (d:=11) rfl (fun J=>?_) fun J=>?_
  ·refine z4 ?_;refine ar (d:=15) rfl (fun h3=>?_) fun h3=>?_
   ·refine dk 6 ?_;exact⟨by first|rw[cN (show¬((0<=gen/\gen<=1099511627776)/\0<=pages/\pages<=65536) by omega)]|(congr 1;simp only[bI];omega),Z⟩
   refine dk 6 ?_;exact⟨by first|rw[cN (show¬((0<=gen/\gen<=1099511627776)/\0<=pages/\pages<=65536) by omega)]|(congr 1;simp only[bI];omega),Z⟩
  refine dk 10 ?_;exact⟨by first|rw[cN (show¬((0<=gen/\gen<=1099511627776)/\0<=pages/\pages<=65536) by omega)]|(congr 1;simp only[bI];omega),Z⟩
 refine dk 14 ?_;exact⟨by first|rw[cN (show¬((0<=gen/\gen<=1099511627776)/\0<=pages/\pages<=65536) by omega)]|(congr 1;simp only[bI];omega),Z⟩
def La(Z:aw G L w)(hp:pn<=65536):aA prog 226 #[I pn] w (bU fun r w'=>r=I (pS pn:Nat)/\aw G L w'):=by
 refine wF [_] func226 ntmps226 ?_;refine wI 10 (fun Y=>?_) fun Y=>?_
 ·refine dk 5 ?_;exact⟨by rw[show pS pn=0 by unfold pS;omega];rfl,Z⟩
 refine z5 ?_;refine yW rfl rfl rfl H H ?_;refine dk 4 ?_;exact⟨by rw[show((pn:Int)-1)/240+1=((pS pn:Nat):Int) by unfold pS;omega],Z⟩
def UN{i:Int}(Z:aw G L w)(hp:0<=pages/\pages<=65536)(hi:0<=i/\i<=65536):aA prog 232 #[I pages,I i] w (bU fun r w'=>r=I (TV pages i)/\aw G L w'):=by
 refine wF [_,_] func232 ntmps232 ?_;refine z8 ?_;refine lx rfl rfl rfl H ?_;refine z1 ?_;refine yZ rfl rfl rfl ?_;refine dk 3 ?_;exact⟨rfl,Z⟩
def M5{g:Nat}{bb:bZ}(Z:aw G L w)(kb:aL L (eB v bb))(hl:bb.length=512)(hg:g<=1099511627776)(hp:pn<=65536)(hi:j<pS pn):
  aA prog 135 #[I g,I pn,I j,v] w (bU fun r w'=>(∃l v',iE g pn j bb=some l/\r= .tuple #[v',I 0]/\aw G (row 3 1 v' l.length (bf l)::L) w')∨
   (∃er,iE g pn j bb=none/\r= .tuple #[nQ,I er]/\er≠0/\er≠17/\aw G L w')):=by
 obtain⟨a,cap,rfl⟩:=(kb.at Z).form;have Ee:=(kb.at Z).inv.2.1;have hj:j<=65536:=by unfold pS at hi;omega
 have hol:(bb.take 508).length=508:=by rw[gJ];omega
 refine wF [_,_,_,_] func135 ntmps135 ?_;refine B' ?_;refine wC rfl P8 rfl (Sd Z) fun w Z=>?_
 refine cU rfl rfl ?_;refine z1 ?_;refine ar (d:=22) rfl (fun Y=>?_) fun Y=>?_
 ·refine B' ?_;refine cr rfl ?_;refine z6 ?_;exact aS H Y
 refine z4 ?_;refine ar (d:=26) rfl (fun J=>?_) fun J=>?_
 ·refine z6 ?_;refine cr rfl ?_;refine z6 ?_;exact aS J H
 refine z2 ?_;refine wC rfl Ip rfl (La Z hp) fun w Z=>?_
 refine wI 3 (fun h3=>?_) fun h3=>?_
 ·refine z6 ?_;exact aS h3 H
 refine wI 8 (fun h4=>?_) fun h4=>?_
 ·refine z6 ?_;exact aS H h4
 refine z2 ?_;refine wQ [0,1,2,3,4,5] Z fun Z=>?_
 refine z1 ?_;refine wM (b:=bb) rfl aR bo rfl rfl ((kb.of sF).at Z) ⟨H,H⟩ (((kb.of sF).at Z).spot H) fun v36 _ h36=>?_;refine z1 ?_;refine OM (b:=bb) rfl aR bo rfl rfl ((kb.of sF).at Z) ⟨H,H⟩ fun v38 h38 _=>?_;have k36:aL L (eB v36 (bb.take 508)):=kb.mono h36;have k38:aL L (eB v38 (bb.drop 508)):=kb.mono h38;refine z7 ?_;refine aO rfl tB rfl (uB (b:=bb.drop 508) Z (k38.of sF) (by rw[jm];omega)) rfl (fun w v40 hv=>?_);obtain⟨q1,rfl,Z⟩:=hv;refine wC rfl nB rfl (oG Z (by rw[jm];omega) (by rw[jm];omega)) fun w Z=>?_
 rw[kH (l:=bb.drop 508) (by rw[jm];omega)];refine z6 ?_;refine wC rfl Ls rfl (Om (l:=bb.take 508) Z (k36.of sF) H) fun w Z=>?_
 refine wI 2 (fun h5=>?_) fun h5=>?_
 ·refine ui 6 ?_;exact .inr ⟨6,Oz (fun hs=>h5 (by unfold lN at hs;omega)),rfl,by decide,by decide,Z.tail⟩
 have hs:lN bb:=by unfold lN;omega
 refine z4 ?_;refine aO rfl tB rfl (uB (b:=bb.take 508) Z (k36.of sF) H) rfl fun w v47 hv=>?_;obtain⟨q2,rfl,Z⟩:=hv;refine z6 ?_;refine wC rfl Df rfl (Et Z H H) fun w Z=>?_
 rw[VC (by omega:0<(bb.take 508).length),show(bb.take 508).getD 0 0=bb.getD 0 0 by rw[ma,W8,aB H,<-ma]];refine wI 2 (fun h6=>?_) fun h6=>?_
 ·refine ui 6 ?_;exact .inr ⟨5,by unfold iE;rw[aj];rintro⟨-,hH,-⟩;unfold wm at hH;exact h6 (by rw[hH.1];rfl),rfl,by decide,by decide,Z.tail.tail⟩
 have h66:bb.getD 0 0=66:=UInt8.toNat_inj.1 (by show(bb.getD 0 0).toNat=66;omega);refine z4 ?_;refine wC rfl B0 rfl (C7 Z (by rw[jm];omega) (by rw[jm];omega)) fun w Z=>?_
 rw[qY H];rw[TA]at Z;refine z1 ?_;refine wC rfl nB rfl (oG Z (by rw[jm];omega) (by rw[jm];omega)) fun w Z=>?_
 rw[qY H];rw[TA]at Z;refine z1 ?_;refine wC rfl nB rfl (oG Z (by rw[jm];omega) (by rw[jm];omega)) fun w Z=>?_
 rw[qY H];rw[TA]at Z;refine z9 ?_;refine cJ (v:=(g:Int)) rfl kR dD dK rfl (SQ H) ?_;refine z2 ?_;refine ar (d:=61) rfl (fun h7=>?_) fun h7=>?_
 ·refine YW ?_;refine cr rfl ?_;refine ui 6 ?_;exact .inr ⟨25,by unfold iE;rw[aj];rintro⟨-,hH,-⟩;unfold wm at hH;exact h7 hH.2.1,rfl,by decide,by decide,Z.tail.tail⟩
 refine z2 ?_;refine cJ (v:=(j:Int)) rfl kR dD mN rfl (w32 H) ?_;refine z3 ?_;refine ar (d:=67) rfl (fun h8=>?_) fun h8=>?_
 ·refine z6 ?_;refine cr rfl ?_;refine ui 6 ?_;exact .inr ⟨25,by unfold iE;rw[aj];rintro⟨-,hH,-⟩;unfold wm at hH;exact h8 hH.2.2.1,rfl,by decide,by decide,Z.tail.tail⟩
 refine z2 ?_;refine cJ (v:=(pn:Int)) rfl kR dD mN rfl (w32 H) ?_;refine wI 3 (fun h9=>?_) fun h9=>?_
 ·refine ui 6 ?_;exact .inr ⟨25,by unfold iE;rw[aj];rintro⟨-,hH,-⟩;unfold wm at hH;exact h9 hH.2.2.2,rfl,by decide,by decide,Z.tail.tail⟩
 have hH:wm g pn j bb:=⟨h66,dg.1 h7,dg.1 h8,dg.1 h9⟩;refine B' ?_;refine wC rfl Sq rfl (UN (pages:=pn) (i:=j) Z H H) fun w Z=>?_
 obtain⟨n,hn⟩:∃n:Nat,TV pn j=n:=⟨(TV pn j).toNat,by unfold TV;unfold pS at hi;omega⟩;have ahc:n<=240:=by unfold TV at hn;omega
 rw[hn];refine z3 ?_;have Z:=bB Z 3 1;refine bx (fun m e w=>∃(k:Nat) (u:C),k<=n/\m=n-k/\e=[(13,pQ q2),(17,u),(75,I n),(76,I k)]/\aw G (row 3 1 u k (bf ((List.range k).map (np bb)))::kV q2 ((bb.take 508).drop (17+2*k)) 0::kV q1 ((bb.drop 508).drop 4) 0::L) w)
  (m:=n) sB
  ⟨0,_,de _,rfl,rfl,Z⟩ ?_
 rintro m e w ⟨k,u,hk,rfl,rfl,Z⟩;refine wI 5 (fun jR=>?_) fun jR=>?_
 ·refine z6 ?_;refine wC rfl B1 rfl (C8 (Z.b [kV q2 _ 0]) (by rw[jm];omega) (by rw[jm];omega)) fun w Z=>?_
  rw[qY H];rw[TA]at Z;refine cJ (v:=np bb k) rfl kR E5 dD rfl (jd (by have:=py ((bb.drop (17+2*k)).take 2);rw[gJ,jm,Jq H]at this;omega)) ?_;refine fb (cs:=[I (np bb k)]) rfl aY bF fh dM rfl rfl rfl Z kR fun w b82 Z=>?_;refine eF (m:=k) (k:=1) (news:=[I (np bb k)]) rfl aY bF j7 fh rfl rfl Z pK (Rd.iq Z pK) rfl (by intro u hu;simp at hu;subst hu;rfl) mL H kR (fun w Vc Z=>?_);refine z6 ?_;have he:bf ((List.range k).map (np bb))++[I (np bb k)]=bf ((List.range (k+1)).map (np bb)):=by rw[TB,jX];exact(ln _ _).symm
  rw[he,show 17+2*k+2=17+2*(k+1) by omega]at Z;exact⟨n-(k+1),H,[(13,_),(17,Vc),(75,_),(76,I (k+1:Nat))],sB,k+1,Vc,H,rfl,rfl,(Z.b [N b82 _ _,row 3 1 Vc _ _,kV q2 _ 0]).tail⟩
 have oY:k=n:=H;subst oY;refine z4 ?_;refine aO rfl yF rfl (zJ (Z.b [kV q2 _ 0]) (by rw[jm];omega)) rfl (fun w v86 hv=>?_);have hz2:∃(er:Int) (A:aF),((er=0/\kW ((bb.take 508).drop (17+2*k))/\A=kV q2 [] 0)\/(er=5/\¬kW ((bb.take 508).drop (17+2*k))/\A=Za q2 5))/\aw G (A::row 3 1 u k (bf ((List.range k).map (np bb)))::kV q1 ((bb.drop 508).drop 4) 0::L) w:=by
  rcases hv with⟨Y,J⟩|⟨Y,J⟩
  ·exact⟨0,_, .inl ⟨rfl,Y,rfl⟩,J⟩
  exact⟨5,_, .inr ⟨rfl,Y,rfl⟩,J⟩
 obtain⟨er,A,hA,Z⟩:=hz2;refine z5 ?_;refine aO rfl BZ rfl (show aA prog 235 #[pQ q2] w (bU fun r w'=>r=I er/\aw G (A::row 3 1 u k (bf ((List.range k).map (np bb)))::kV q1 ((bb.drop 508).drop 4) 0::L) w') from by
 rcases hA with⟨rfl,-,rfl⟩|⟨rfl,-,rfl⟩
 ·exact PF Z
 ·exact PE Z dM) rfl (fun w v88 hv=>?_)
 obtain⟨rfl,Z⟩:=hv;refine wI 2 (fun qH=>?_) fun qH=>?_
 ·refine z6 ?_;exact ga rfl rfl rfl rfl (.inr ⟨5,by
 have hz:=(hA.resolve_left (fun h=>qH h.1)).2.1;unfold iE;rw[aj];rintro⟨-,-,h⟩;rw[hn]at h;exact hz h,rfl,by decide,by decide,Z.tail.tail.tail⟩)
 refine z8 ?_;exact ga rfl rfl rfl rfl (by
 have qH:=dg.1 qH;have hz:=(hA.resolve_right (fun h=>by have:=h.1;omega)).2.1;refine .inl ⟨(List.range k).map (np bb),u,by unfold iE;rw[hn,aB ⟨hs,hH,hz⟩];rfl,rfl,?_⟩;have hz3:=Z.tail;rw[show((List.range k).map (np bb)).length=k by simp];exact(hz3.b [kV q1 _ 0]).tail)
def tP(q:Nat)(sv:C)(o:bZ)(r:Rk):aF:=ex fun at_:Nat=>mr (at_<=o.length/\r.b=o.drop at_) (N q [sv,I at_, .bool r.ok] 392)
def sH(n:Nat)(r:Rk):(fc n r).1.length<=n/\(fc n r).1.length<=r.b.length:=by
 unfold fc;split
 ·simp only[gJ];omega
 simp
def O'(hn:n<=8)(r:Rk):(cB n r).1<2^(8*n):=by
 unfold cB;exact W6 (py _) (ZM dM (by have:=(sH n r).1;omega))
section
variable{oo cap:Nat}{o:bZ}
def SK(Z:aw G (tP q sv o r::R) w):∃at_:Nat,at_<=o.length/\r.b=o.drop at_/\aw G (N q [sv,I at_, .bool r.ok] 392::R) w:=by
 obtain⟨x,h⟩:=Z.nt;obtain⟨⟨Y,J⟩,h⟩:=h.lf;exact⟨x,Y,J,h⟩
def AN{at_:Nat}(Y:at_<=o.length)(J:r.b=o.drop at_)(Z:aw G (N q [sv,I at_, .bool r.ok] 392::R) w):aw G (tP q sv o r::R) w:=aw.oU at_ (aw.qE ⟨Y,J⟩ Z)
def r0(Z:aw G (tP q (.slice (some ⟨bb,oo,none⟩) o.length cap) o r::L) w)(kb:aL L (eB (.slice (some ⟨bb,oo,none⟩) o.length cap) o))(hol:o.length<=1000)(hn:n<=1000000):
  aA prog 332 #[pQ q,I n] w (bU fun v w'=>aL L (eB v (fc n r).1)/\aw G (tP q (.slice (some ⟨bb,oo,none⟩) o.length cap) o (fc n r).2::L) w'):=by
 obtain⟨at_,my,hrb,Z⟩:=SK Z;have Ee:=(kb.at Z.tail).inv.2.1;obtain⟨b,ok⟩:=r;have hrb:b=o.drop at_:=hrb;subst hrb;refine wF [_,_] func332 ntmps332 ?_;refine z6 ?_;refine wQ [0,1,2,3,4,5,6,7,8,9,10,11,12,13,14,15,16,17,18] Z fun Z=>?_
 refine wD 3 (v:= .bool ok) bS Z ?_;refine nh rfl rfl ?_;refine z1 ?_;refine WH (d:=10) rfl (fun Y=>?_) fun Y=>?_
 ·have fx:ok=false:=by simpa using Y
  have ht:fc n ⟨o.drop at_,ok⟩=([],⟨o.drop at_,false⟩):=by unfold fc;rw[aj (fun h=>by rw[fx]at h;cases h.1)]
  refine z14 ?_;refine cr rfl ?_;refine wS 5 (l':=[.slice (some ⟨bb,oo,none⟩) o.length cap,I at_, .bool false]) bS Z fun w Z=>?_;refine dk 6 ?_;exact⟨by rw[ht];exact fun g w _=> .inl ⟨⟨_,rfl⟩,rfl⟩,by rw[ht];exact AN my rfl Z⟩
 have fx:ok=true:=by simpa using Y
 subst fx;refine z2 ?_;refine vr rfl rfl ?_;refine wD 1 (v:= .slice (some ⟨bb,oo,none⟩) o.length cap) ao Z ?_;refine z2 ?_;refine vr rfl rfl ?_;refine wD 1 (v:=I at_) ag Z ?_;refine uO rfl rfl rfl H ?_;refine wI 3 (fun J=>?_) fun J=>?_
 ·have ht:fc n ⟨o.drop at_,true⟩=([],⟨o.drop at_,false⟩):=by unfold fc;rw[aj (fun h=>by have:=h.2;simp only[jm]at this;omega)]
  refine wS 5 (l':=[.slice (some ⟨bb,oo,none⟩) o.length cap,I at_, .bool false]) bS Z fun w Z=>?_;refine dk 6 ?_;exact⟨by rw[ht];exact fun g w _=> .inl ⟨⟨_,rfl⟩,rfl⟩,by rw[ht];exact AN my rfl Z⟩
 have ht:fc n ⟨o.drop at_,true⟩=((o.drop at_).take n,⟨o.drop (at_+n),true⟩):=by unfold fc;rw[aB ⟨rfl,by simp only[jm];omega⟩,TA]
 refine wD 6 (v:=I at_) ag Z ?_;refine wS 4 (l':=[.slice (some ⟨bb,oo,none⟩) o.length cap,I ((at_:Int)+n), .bool true]) ag Z fun w Z=>?_;refine z2 ?_;refine wQ [0,1,2,3,4,5,6,7,8,9,10,11,12,13,14,15,16,17,18,19] Z fun Z=>?_
 refine wD 3 (v:= .slice (some ⟨bb,oo,none⟩) o.length cap) ao Z ?_;refine wD 3 (v:=I ((at_:Int)+n)) ag Z ?_;refine wD 5 (v:=I ((at_:Int)+n)) ag Z ?_;refine wD 3 (v:=I ((at_:Int)+n)) ag Z ?_;refine aeT rfl aR bo rfl rfl rfl rfl ⟨H,H,H,H⟩ ?_;refine z3 ?_;exact dt rfl rfl rfl ⟨by
 rw[ht];refine kb.mono fun w hs=>?_
 have h:=hs.mid (lo:=(at_:Int)+n-n) (hi:=(at_:Int)+n) ⟨H,H,H⟩;have e1:(o.drop ((at_:Int)+n-n).toNat).take ((at_:Int)+n-((at_:Int)+n-n)).toNat=(o.drop at_).take n:=by rw[show((at_:Int)+n-n).toNat=at_ by omega,show((at_:Int)+n-((at_:Int)+n-n)).toNat=n by omega]
 rw[e1]at h;exact h,by
 rw[ht];have hz:aw G (N q [.slice (some ⟨bb,oo,none⟩) o.length cap,I ((at_+n:Nat):Int), .bool true] 392::L) w:=by rw[Int.natCast_add];exact Z
 exact AN (r:=⟨o.drop (at_+n),true⟩) H rfl hz⟩
def cF(Z:aw G (tP q (.slice (some ⟨bb,oo,none⟩) o.length cap) o r::L) w)(kb:aL L (eB (.slice (some ⟨bb,oo,none⟩) o.length cap) o))(hol:o.length<=1000)(hn:n<=8):
  aA prog 279 #[pQ q,I n] w (bU fun v w'=>v= .int .u64 ((cB n r).1:Nat)/\aw G (tP q (.slice (some ⟨bb,oo,none⟩) o.length cap) o (cB n r).2::L) w'):=by
 refine wF [_,_] func279 ntmps279 ?_;refine z13 ?_;refine aO rfl rz rfl (r0 (n:=n) Z kb hol H) rfl fun w v10 hv=>?_;obtain⟨kx,Z⟩:=hv;have vi:=(sH n r).1;obtain⟨x,E⟩:∃x,x=(fc n r).1:=⟨_,rfl⟩;rw[<-E]at kx vi;obtain⟨a7,c7,rfl⟩:=(kx.at Z.tail).form;refine z4 ?_;refine bx (fun m e w=>∃k:Nat,k<=x.length/\m=x.length-k/\e=[(5, .int .u64 ((jP (x.take k):Nat):Int)),(10, .slice a7 x.length c7),(11,I x.length),(12,I k)]/\aw G (tP q (.slice (some ⟨bb,oo,none⟩) o.length cap) o (fc n r).2::L) w)
  (m:=x.length) sB
  ⟨0,de _,rfl,rfl,Z⟩ ?_
 rintro m e w ⟨k,hk,rfl,rfl,Z⟩;refine wI 5 (fun Y=>?_) fun Y=>?_
 ·have gn:k<x.length:=H;have Qm:k<8:=H;have jr:=kx.at Z.tail;obtain⟨b1,o1,rfl⟩:=jr.nn H;obtain⟨y,hy⟩:∃y,y=x.getD k 0:=⟨_,rfl⟩;refine wY 6 aR bo ?_;refine bg rfl rfl (aD.one (v:=bv y) dN (by have h:=jr.at (i:=(k:Int)) ⟨H,H⟩;rw[hy];exact h)) ?_;refine z6 ?_;refine cJ (v:=(y.toNat:Int)) rfl kR ig dK rfl (GB y) ?_;refine z1 ?_;refine lx rfl rfl rfl H ?_;refine QA (v:=IntKind.u64.wrap ((y.toNat:Int)*2^min (8*(k:Int)).toNat IntKind.u64.bits)) rfl rfl rfl H rfl ?_;refine QB (v:=((jP (x.take (k+1)):Nat):Int)) rfl rfl rfl (by
   have fR:=py (x.take k);have Mf:(x.take k).length=k:=by rw[gJ];omega
   rw[Mf]at fR;rw[Z9 Qm fR y.toNat_lt,eu x k 0 H,qZ,Mf,hy]) ?_
  refine z6 ?_;exact⟨x.length-(k+1),H,[(5,_),(10,_),(11,_),(12,I (k+1:Nat))],sB,k+1,H,rfl,rfl,Z⟩
 refine dk 7 ?_;exact⟨by rw[kH H,E];rfl,Z⟩
def mC(Z:aw G (tP q (.slice (some ⟨bb,oo,none⟩) o.length cap) o r::L) w)(kb:aL L (eB (.slice (some ⟨bb,oo,none⟩) o.length cap) o))(hol:o.length<=1000)(hn:n<=1000000):
  aA prog 280 #[pQ q,I n] w (bU fun v w'=>aw G (row 5 1 v (fc n r).1.length (cI (fc n r).1)::tP q (.slice (some ⟨bb,oo,none⟩) o.length cap) o (fc n r).2::L) w'):=by
 refine wF [_,_] func280 ntmps280 ?_;refine z8 ?_;refine aO rfl rz rfl (r0 (n:=n) Z kb hol hn) rfl fun w v7 hv=>?_;obtain⟨kx,Z⟩:=hv;have vi:=(sH n r).1;have hk0:=kx.at Z.tail;have Z:=bB Z 5 1;refine Fk (m:=0) (xs:=[]) (b:=(fc n r).1) rfl aR bo fF eU rfl rfl Z pK hk0 H rfl fun w v8 Z=>?_;refine dk 3 ?_;exact by rw[mT,lE]at Z;exact Z
def ri(Z:aw G (tP q (.slice (some ⟨bb,oo,none⟩) o.length cap) o r::L) w)(kb:aL L (eB (.slice (some ⟨bb,oo,none⟩) o.length cap) o))(hol:o.length<=1000):
  aA prog 282 #[pQ q] w (bU fun v w'=>v= .bool (decide (kW r.b/\r.ok=true))/\aw G L w'):=by
 obtain⟨at_,my,hrb,Z⟩:=SK Z;have Ee:=(kb.at Z.tail).inv.2.1;refine wF [_] func282 ntmps282 ?_;refine z6 ?_;refine wQ [0,1,2,3,4,5,6,7,8,9,10] Z fun Z=>?_
 refine wD 3 (v:= .slice (some ⟨bb,oo,none⟩) o.length cap) ao Z ?_;refine wD 3 (v:=I at_) ag Z ?_;refine OM (b:=o) rfl aR bo rfl rfl (kb.at Z.tail) ⟨H,H⟩ fun v13 BG _=>?_;have k13:aL L (eB v13 r.b):=by rw[hrb];exact kb.mono BG
 obtain⟨x,E⟩:∃x,x=r.b:=⟨_,rfl⟩;have vi:x.length<=1000:=by rw[E,hrb,jm];omega
 rw[<-E]at k13;obtain⟨a7,c7,rfl⟩:=(k13.at Z.tail).form;refine z4 ?_;refine bx (fun m e w=>∃k:Nat,k<=x.length/\m=x.length-k/\e=[(0,pQ q),(13, .slice a7 x.length c7),(14,I x.length),(15,I k)]/\kW (x.take k)/\aw G (N q [.slice (some ⟨bb,oo,none⟩) o.length cap,I at_, .bool r.ok] 392::L) w)
  (m:=x.length) sB
  ⟨0,de _,rfl,rfl,(fun x E=>by simp at E),Z⟩ ?_
 rintro m e w ⟨k,hk,rfl,rfl,hzk,Z⟩;refine wI 5 (fun Y=>?_) fun Y=>?_
 ·have gn:k<x.length:=H;have jr:=k13.at Z.tail;obtain⟨b1,o1,rfl⟩:=jr.nn H;obtain⟨y,hy⟩:∃y,y=x.getD k 0:=⟨_,rfl⟩;refine wY 5 aR bo ?_;refine bg rfl rfl (aD.one (v:=bv y) dN (by have h:=jr.at (i:=(k:Int)) ⟨H,H⟩;rw[hy];exact h)) ?_;refine wI 7 (fun J=>?_) fun J=>?_
  ·refine z5 ?_;exact dt rfl rfl rfl ⟨by rw[cN];rintro⟨hz,-⟩;exact J (by
 have:=hz y (by rw[<-E,hy,ma,dG gn];exact QU _);rw[this];rfl),Z.tail⟩
  refine z5 ?_;refine⟨x.length-(k+1),H,[(0,_),(13,_),(14,_),(15,I (k+1:Nat))],sB,k+1,H,rfl,rfl,?_,Z⟩;have hy0:y=0:=UInt8.toNat_inj.1 (by show y.toNat=0;omega);rw[eu x k 0 gn,<-hy,hy0];intro z hz;rcases eZ.1 hz with hz|hz
  ·exact hzk z hz
  simpa using hz
 have hzx:kW x:=by rw[kH H]at hzk;exact hzk
 refine wD 6 (v:= .bool r.ok) bS Z ?_;refine dk 3 ?_;exact⟨by rw[<-E];congr 1;cases r.ok<;>simp[hzx],Z.tail⟩
end
section
variable{done r:List Nat}
variable{u:aC}{x:aM}{k k':IntKind}{a b v:Int}
def Tk(ho:O[i]?=some ⟨some d, .binOp .add s x y u,t,p,af,g⟩)(E:ev e x=some (.int k a))(hy:ev e y=some (.int k b))(hv:k.wrap (a+b)=v)
  (h:XL P n O dr (i::done) r K ((d, .int k v)::e) w)(hd:Nat.blt d n=true:=by exact rfl)(hg:Gd O e g:=by exact gD):XL P n O dr done (i::r) K e w:=NA (hd:=hd) (hg:=hg) ho E hy (by rw[hv];exact h)
end
def aag(r:Rk):(cB 1 r).1<256:=O' (n:=1) dM r
def agP(r:Rk):(cB 2 r).1<65536:=O' (n:=2) dM r
def afm(r:Rk):(cB 4 r).1<4294967296:=O' (n:=4) dM r
section
variable{oo cap:Nat}{o:bZ}
def Qc(x:cP):Prop:=x.it.key.length<=65536/\x.it.value.length<=65536
def J1{rd:Rk}{l:List cP}{x:cP}(Y:l.length=k/\l.map cP.it=(gF kind k r1).1/\∀y∈l,Qc y)(E:rX kind (gF kind k r1).2=(x.it,rd))(hs:Qc x):
  ((l++[x]).length=k+1/\(l++[x]).map cP.it=(gF kind (k+1) r1).1/\∀y∈l++[x],Qc y)/\(gF kind (k+1) r1).2=rd:=by
 refine⟨⟨by simp[Y.1],?_,fun y hy=>?_⟩,?_⟩
 ·rw[gF];simp only[E,jX,Y.2.1];rfl
 ·rcases eZ.1 hy with hy|hy
  ·exact Y.2.2 y hy
  simp at hy;subst hy;exact hs
 rw[gF];simp only[E]
def Pj{rd:Rk}{l:List cP}{x:cP}(Z:aw G (tP q sv o rd::row 198 4 u (k+1) ((l.map cP.cells).flatten++x.cells)::bt (l.flatMap cm)::row 5 1 x.kv x.it.key.length (cI x.it.key)::row 5 1 x.vv x.it.value.length (cI x.it.value)::L) w):
  aw G (tP q sv o rd::row 198 4 u (k+1) ((l++[x]).map cP.cells).flatten::bt ((l++[x]).flatMap cm)::L) w:=by
 have h:=Z.b [bt _,row 5 1 x.kv _ _,row 5 1 x.vv _ _];have h:=(h.iD).iD;have e1:l.flatMap cm++[row 5 1 x.kv x.it.key.length (cI x.it.key)]++[row 5 1 x.vv x.it.value.length (cI x.it.value)]=(l++[x]).flatMap cm:=by simp[cm]
 have e2:(l.map cP.cells).flatten++x.cells=((l++[x]).map cP.cells).flatten:=by simp
 rw[e1]at h;rw[e2]at h
 exact h.b [tP q _ _ _,row 198 4 u _ _]
def Aa(Z:aw G (tP q (.slice (some ⟨bb,oo,none⟩) o.length cap) o r::L) w)(kb:aL L (eB (.slice (some ⟨bb,oo,none⟩) o.length cap) o))(hol:o.length<=1000):
  aA prog 281 #[pQ q,I kind] w (bU fun v w'=>∃l:List cP,(l.length=(cB 1 r).1/\l.map cP.it=(gF kind (cB 1 r).1 (cB 1 r).2).1/\∀y∈l,Qc y)∧
   aw G (tP q (.slice (some ⟨bb,oo,none⟩) o.length cap) o (gF kind (cB 1 r).1 (cB 1 r).2).2::row 198 4 v l.length (l.map cP.cells).flatten::bt (l.flatMap cm)::L) w'):=by
 refine wF [_,_] func281 ntmps281 ?_;refine YW ?_;refine wC rfl ct rfl (cF (n:=1) Z kb hol dM) fun w Z=>?_
 have hn:=aag r;obtain⟨n,en⟩:∃n,n=(cB 1 r).1:=⟨_,rfl⟩;obtain⟨r1,er1⟩:∃r1,r1=(cB 1 r).2:=⟨_,rfl⟩;rw[<-en]at hn ⊢;rw[<-er1]at Z ⊢
 refine z3 ?_;have Z:=bB Z 198 4;have Z:=aw.bJ (M:=([]:List cP).flatMap cm) Z;have Z:=Z.b [tP q _ _ _,row 198 4 _ _ _,bt _];refine bx (fun m e w=>∃(k:Nat) (l:List cP) (u:C),k<=n/\m=n-k/\e=[(0,pQ q),(1,I kind),(5,u),(8, .int .u64 n),(9, .int .u64 k)]/\(l.length=k/\l.map cP.it=(gF kind k r1).1/\∀y∈l,Qc y)∧
 aw G (tP q (.slice (some ⟨bb,oo,none⟩) o.length cap) o (gF kind k r1).2::row 198 4 u k (l.map cP.cells).flatten::bt (l.flatMap cm)::L) w)
  (m:=n) sB
  ⟨0,[],_,de _,rfl,rfl,⟨rfl,rfl,by simp⟩,Z⟩ ?_
 rintro m e w ⟨k,l,u,hk,rfl,rfl,hl,Z⟩;refine wI 5 (fun Y=>?_) fun Y=>?_
 ·have gn:k<n:=H;obtain⟨rk,erk⟩:∃rk,rk=(gF kind k r1).2:=⟨_,rfl⟩;rw[<-erk]at Z;refine z7 ?_;refine wC rfl ct rfl (cF (n:=1) Z (kb.of sF) hol dM) fun w Z=>?_
  have yp:=aag rk;refine cJ (v:=((cB 1 rk).1:Nat)) rfl kR dK dD rfl (jd H) ?_;refine aO rfl lI rfl (mC (n:=(cB 1 rk).1) Z (kb.of sF) hol H) rfl fun w v15 hv=>?_;have Z:=hv;have Fg:=(sH (cB 1 rk).1 (cB 1 rk).2).1;obtain⟨ky,eky⟩:∃ky,ky=(fc (cB 1 rk).1 (cB 1 rk).2).1:=⟨_,rfl⟩;obtain⟨r2,rC⟩:∃r2,r2=(fc (cB 1 rk).1 (cB 1 rk).2).2:=⟨_,rfl⟩;rw[<-eky]at Z Fg;rw[<-rC]at Z
  obtain⟨Iv,Iq,rfl⟩:=((eB.row.head _).at Z).form;refine wV 0 (v:= .agg #[.slice Iv ky.length Iq,nQ,I 0,I 0]) ?_;refine wL 0 jc Z fun w b6 Z=>?_;refine wN 0 (cs:=[.slice Iv ky.length Iq,nQ,I 0,I 0]) (l':=[.slice Iv ky.length Iq,nQ,I 0,I 0]) bA (by intro u hu;simp at hu;rcases hu with rfl|rfl|rfl<;>rfl) Z (fun w Z=>?_);refine wI 7 (fun J=>?_) fun J=>?_
  ·refine z2 ?_;refine wC rfl ct rfl (cF (n:=2) (Z.b [tP q _ _ _]) (kb.of sF) hol dM) fun w Z=>?_
   have hz2:=agP r2;refine cJ (v:=((cB 2 r2).1:Nat)) rfl kR dK dD rfl (jd H) ?_;refine wS 1 (l':=[.slice Iv ky.length Iq,nQ,I 0,I ((cB 2 r2).1:Nat)]) ag Z fun w Z=>?_;refine z7 ?_;refine ar (d:=25) rfl (fun h3=>?_) fun h3=>?_
   ·refine wD 1 (v:=I ((cB 2 r2).1:Nat)) ag Z ?_;refine wI 3 (fun h4=>?_) fun h4=>?_
    ·refine wD 3 (v:=I ((cB 2 r2).1:Nat)) ag Z ?_;refine aO rfl lI rfl (mC (n:=(cB 2 r2).1) (Z.b [tP q _ _ _]) (kb.of sF) hol H) rfl fun w v33 hv=>?_;have Z:=hv;have hvv:=(sH (cB 2 r2).1 (cB 2 r2).2).1;obtain⟨vy,evy⟩:∃vy,vy=(fc (cB 2 r2).1 (cB 2 r2).2).1:=⟨_,rfl⟩;rw[<-evy]at Z hvv;obtain⟨a33,c33,rfl⟩:=((eB.row.head _).at Z).form;refine wS 1 (l':=[.slice Iv ky.length Iq, .slice a33 vy.length c33,I 0,I ((cB 2 r2).1:Nat)]) ao Z fun w Z=>?_;refine wA 3 (l:=[.slice Iv ky.length Iq, .slice a33 vy.length c33,I 0,I ((cB 2 r2).1:Nat)]) bA Z ?_;refine fb (cs:=[.slice Iv ky.length Iq, .slice a33 vy.length c33,I 0,I ((cB 2 r2).1:Nat)]) rfl aV bz fi dM rfl rfl rfl Z kR fun w b41 Z=>?_;refine eF (m:=k) (k:=1) (news:=[.slice Iv ky.length Iq, .slice a33 vy.length c33,I 0,I ((cB 2 r2).1:Nat)]) rfl aV bz kD fi rfl rfl Z pK (Rd.iq Z pK) rfl (by intro u hu;simp at hu;rcases hu with rfl|rfl|rfl|rfl<;>rfl) mL H kR (fun w L8 Z=>?_);refine z3 ?_;refine Tk (v:=((k+1:Nat):Int)) rfl rfl rfl (SQ (n:=k+1) H) ?_;refine z2 ?_;have E:rX kind rk=((⟨⟨ky,vy,0,(cB 2 r2).1⟩, .slice Iv ky.length Iq, .slice a33 vy.length c33⟩:cP).it,(fc (cB 2 r2).1 (cB 2 r2).2).2):=by
      unfold rX;simp only[J,if_true,<-eky,<-rC,<-evy,aB h4]
     rw[erk]at E;have hz:=J1 hl E ⟨by show ky.length<=65536;omega,by show vy.length<=65536;omega⟩;have hb:=Z.b [tP q _ _ _,row 198 4 L8 _ _,bt _,row 5 1 (.slice Iv ky.length Iq) _ _,row 5 1 (.slice a33 vy.length c33) _ _];have Z:=Pj (x:=⟨⟨ky,vy,0,(cB 2 r2).1⟩, .slice Iv ky.length Iq, .slice a33 vy.length c33⟩) hb;rw[<-hz.2]at Z
     exact⟨n-(k+1),H,[(0,_),(1,_),(5,L8),(8,_),(9, .int .u64 (k+1:Nat))],sB,k+1,_,L8,H,rfl,rfl,hz.1,(Z.b [N b41 _ _,N b6 _ _,tP q _ _ _,row 198 4 L8 _ _,bt _]).t2⟩
    refine z2 ?_;refine wC rfl ct rfl (cF (n:=4) (Z.b [tP q _ _ _]) (kb.of sF) hol dM) fun w Z=>?_
    refine cJ (v:=((cB 4 (cB 2 r2).2).1:Nat)) rfl kR dK dD rfl (jd (by have:=afm (cB 2 r2).2;omega)) ?_;refine wS 1 (l':=[.slice Iv ky.length Iq,nQ,I ((cB 4 (cB 2 r2).2).1:Nat),I ((cB 2 r2).1:Nat)]) ag Z fun w Z=>?_;refine wA 3 (l:=[.slice Iv ky.length Iq,nQ,I ((cB 4 (cB 2 r2).2).1:Nat),I ((cB 2 r2).1:Nat)]) bA Z ?_;refine fb (cs:=[.slice Iv ky.length Iq,nQ,I ((cB 4 (cB 2 r2).2).1:Nat),I ((cB 2 r2).1:Nat)]) rfl aV bz fi dM rfl rfl rfl Z kR fun w b41 Z=>?_;refine eF (m:=k) (k:=1) (news:=[.slice Iv ky.length Iq,nQ,I ((cB 4 (cB 2 r2).2).1:Nat),I ((cB 2 r2).1:Nat)]) rfl aV bz kD fi rfl rfl Z pK (Rd.iq Z pK) rfl (by intro u hu;simp at hu;rcases hu with rfl|rfl|rfl|rfl<;>rfl) mL H kR (fun w L8 Z=>?_);refine z3 ?_;refine Tk (v:=((k+1:Nat):Int)) rfl rfl rfl (SQ (n:=k+1) H) ?_;refine z2 ?_;have E:rX kind rk=((⟨⟨ky,[],(cB 4 (cB 2 r2).2).1,(cB 2 r2).1⟩, .slice Iv ky.length Iq,nQ⟩:cP).it,(cB 4 (cB 2 r2).2).2):=by
     unfold rX;simp only[J,if_true,<-eky,<-rC,aj h4]
    rw[erk]at E;have hz:=J1 hl E ⟨by show ky.length<=65536;omega,by show(0:Nat)<=65536;omega⟩;have Z:=bB Z 5 1;have hb:=Z.b [tP q _ _ _,row 198 4 L8 _ _,bt _,row 5 1 (.slice Iv ky.length Iq) _ _,row 5 1 (nQ) _ _];have Z:=Pj (x:=⟨⟨ky,[],(cB 4 (cB 2 r2).2).1,(cB 2 r2).1⟩, .slice Iv ky.length Iq,nQ⟩) hb;rw[<-hz.2]at Z
    exact⟨n-(k+1),H,[(0,_),(1,_),(5,L8),(8,_),(9, .int .u64 (k+1:Nat))],sB,k+1,_,L8,H,rfl,rfl,hz.1,(Z.b [N b41 _ _,N b6 _ _,tP q _ _ _,row 198 4 L8 _ _,bt _]).t2⟩
   exact aS J h3
  refine z7 ?_;refine ar (d:=25) rfl (fun h5=>?_) fun h5=>?_
  ·exact aS h5 J
  refine z5 ?_;refine cD rfl ?_;refine z2 ?_;refine wC rfl ct rfl (cF (n:=4) (Z.b [tP q _ _ _]) (kb.of sF) hol dM) fun w Z=>?_
  refine cJ (v:=((cB 4 r2).1:Nat)) rfl kR dK dD rfl (jd (by have:=afm r2;omega)) ?_;refine wS 1 (l':=[.slice Iv ky.length Iq,nQ,I ((cB 4 r2).1:Nat),I 0]) ag Z fun w Z=>?_;refine wA 3 (l:=[.slice Iv ky.length Iq,nQ,I ((cB 4 r2).1:Nat),I 0]) bA Z ?_;refine fb (cs:=[.slice Iv ky.length Iq,nQ,I ((cB 4 r2).1:Nat),I 0]) rfl aV bz fi dM rfl rfl rfl Z kR fun w b41 Z=>?_;refine eF (m:=k) (k:=1) (news:=[.slice Iv ky.length Iq,nQ,I ((cB 4 r2).1:Nat),I 0]) rfl aV bz kD fi rfl rfl Z pK (Rd.iq Z pK) rfl (by intro u hu;simp at hu;rcases hu with rfl|rfl|rfl|rfl<;>rfl) mL H kR (fun w L8 Z=>?_);refine z3 ?_;refine Tk (v:=((k+1:Nat):Int)) rfl rfl rfl (SQ (n:=k+1) H) ?_;refine z2 ?_;have E:rX kind rk=((⟨⟨ky,[],(cB 4 r2).1,0⟩, .slice Iv ky.length Iq,nQ⟩:cP).it,(cB 4 r2).2):=by
   unfold rX;simp only[aj J,<-eky,<-rC]
  rw[erk]at E;have hz:=J1 hl E ⟨by show ky.length<=65536;omega,by show(0:Nat)<=65536;omega⟩;have Z:=bB Z 5 1;have hb:=Z.b [tP q _ _ _,row 198 4 L8 _ _,bt _,row 5 1 (.slice Iv ky.length Iq) _ _,row 5 1 (nQ) _ _];have Z:=Pj (x:=⟨⟨ky,[],(cB 4 r2).1,0⟩, .slice Iv ky.length Iq,nQ⟩) hb;rw[<-hz.2]at Z
  exact⟨n-(k+1),H,[(0,_),(1,_),(5,L8),(8,_),(9, .int .u64 (k+1:Nat))],sB,k+1,_,L8,H,rfl,rfl,hz.1,(Z.b [N b41 _ _,N b6 _ _,tP q _ _ _,row 198 4 L8 _ _,bt _]).t2⟩
 have oY:k=n:=H;subst oY;refine dk 7 ?_;exact⟨l,hl,by rw[hl.1];exact Z⟩
end
def sD{b:bZ}{n1 n2 n3 n4:Nat}{r3 r4 r5:Rk}{p:Pg}(hs:lN b)(tU:1<=no/\no<=65536)(e1:n1=(cB 1 ⟨b.take 508,true⟩).1)(R6:r1=(cB 1 ⟨b.take 508,true⟩).2)(e2:n2=(cB 1 r1).1)(V6:r2=(cB 1 r1).2)(e3:n3=(cB 4 r2).1)(e3':r3=(cB 4 r2).2)(e4:n4=(cB 8 r3).1)(V4:r4=(cB 8 r3).2)(e5:rA n1 n2 r4=(p,r5)):
  oF no b=if(n3:Int)=no/\n4<=1099511627776/\(kW r5.b/\r5.ok=true)/\dv p=0 then some (p,(n4:Int))else none:=by
 unfold oF;rw[aB ⟨hs,H,H⟩];unfold q9;simp only[<-e1,<-R6,<-e2,<-V6,<-e3,<-e3',<-e4,<-V4,e5]
def adh{b:bZ}{n1 n2 n3:Nat}(hs:lN b)(tU:1<=no/\no<=65536)(e1:n1=(cB 1 ⟨b.take 508,true⟩).1)(R6:r1=(cB 1 ⟨b.take 508,true⟩).2)(e2:n2=(cB 1 r1).1)(V6:r2=(cB 1 r1).2)(e3:n3=(cB 4 r2).1)(hn:¬(n3:Int)=no):oF no b=none:=by
 rw[sD hs tU e1 R6 e2 V6 e3 rfl rfl rfl rfl,aj (fun h=>hn h.1)]
def K5{bb:bZ}(Z:aw G L w)(kb:aL L (eB v bb))(hl:bb.length=512)(tU:1<=no/\no<=65536):
  aA prog 218 #[I no,v] w (bU fun r w'=>(∃p:dL,∃gen:Nat,oF no bb=some (p.pg,(gen:Int))/\gen<=1099511627776/\r= .tuple #[gQ p.cells,I gen,I 0]/\p.Sm/\aw G (fg p::L) w')∨
   (∃er,oF no bb=none/\r= .tuple #[gQ gi.cells,I 0,I er]/\er≠0/\er≠17/\aw G L w')):=by
 obtain⟨a,cap,rfl⟩:=(kb.at Z).form;have Ee:=(kb.at Z).inv.2.1;obtain⟨bb0,oo,rfl⟩:=(kb.at Z).nn H;obtain⟨o,eo⟩:∃o,o=bb.take 508:=⟨_,rfl⟩;have hol:o.length=508:=by rw[eo,gJ];omega
 have k30:aL L (eB (.slice (some ⟨bb0,oo,none⟩) o.length cap) o):=by rw[hol,eo];exact kb.mono fun w hs=>hs.hi H H (fP _)
 refine wF [_,_] func218 ntmps218 ?_;refine wL 2 bW Z fun w b4 Z=>?_;refine z7 ?_;refine wC rfl oe rfl (pI (n:=(no:Int)) Z) fun w Z=>?_
 refine cU rfl rfl ?_;refine aK ?_;refine wI 0 (fun Y=>?_) fun Y=>?_
 ·exact aS (show eJ (no:Int) by unfold eJ;omega) Y
 refine wI 8 (fun J=>?_) fun J=>?_
 ·exact aS H J
 refine wV 4 (v:= .agg #[.slice (some ⟨bb0,oo,none⟩) bb.length cap,I 508, .bool true]) ?_;refine wL 0 Mi Z fun w b7 Z=>?_;refine wN 0 (cs:=[.slice (some ⟨bb0,oo,none⟩) bb.length cap,I 508, .bool true]) (l':=[.slice (some ⟨bb0,oo,none⟩) bb.length cap,I ((508:Nat):Int), .bool true]) FJ (by intro u hu;simp at hu;rcases hu with rfl|rfl|rfl<;>rfl) Z (fun w Z=>?_);have Z:=AN (r:=⟨bb.drop 508,true⟩) (at_:=508) H rfl Z;refine z3 ?_;refine wQ [0,1,2,3,4,5] Z fun Z=>?_
 refine wC rfl ct rfl (cF (n:=4) Z (kb.of sF) H dM) fun w Z=>?_
 have e22:(cB 4 ⟨bb.drop 508,true⟩).1=jP (bb.drop 508):=by
  unfold cB fc;rw[aB ⟨rfl,by simp only[jm];omega⟩]
  show jP ((bb.drop 508).take 4)=_
  rw[kH (by rw[jm];omega)]
 rw[e22];refine z1 ?_;refine wM (b:=bb) rfl aR bo rfl rfl ((kb.of sF).at Z) ⟨H,H⟩ (((kb.of sF).at Z).spot H) fun v24 e24 h24=>?_;have e24:v24= .slice (some ⟨bb0,oo,none⟩) o.length cap:=by rw[e24,hol];rfl
 subst e24;refine wC rfl Ls rfl (Om (l:=o) Z (k30.of sF) H) fun w Z=>?_
 refine cJ (v:=((s0 o).toNat:Int)) rfl kR mN dK rfl (SQ (by have:=(s0 o).isLt;omega)) ?_;refine wI 2 (fun h3=>?_) fun h3=>?_
 ·refine wV 2 (v:=gQ gi.cells) ?_;refine wN 0 (cs:=gi.cells) (l':=gi.cells) ay fj Z fun w Z=>?_;refine z4 ?_;exact pH rfl rfl ⟨_,rfl,(aD.dB (l:=gi.cells) ay Z pK rfl)⟩ rfl rfl (.inr ⟨_,abh (fun hs=>h3 (by unfold lN at hs;rw[<-eo]at hs;omega)),rfl,by decide,by decide,Z.tail.tail⟩)
 have hs:lN bb:=by unfold lN;rw[<-eo];omega
 refine z4 ?_;refine wM (b:=bb) rfl aR bo rfl rfl ((kb.of sF).at Z) ⟨H,H⟩ (((kb.of sF).at Z).spot H) fun v30 e30 h30=>?_;have e30:v30= .slice (some ⟨bb0,oo,none⟩) o.length cap:=by rw[e30,hol];rfl
 subst e30;refine wV 0 (v:= .agg #[.slice (some ⟨bb0,oo,none⟩) o.length cap,I 0, .bool true]) ?_;refine wB 0 Z fun w Wh Z=>?_;have Z:=AN (q:=Wh) (o:=o) (sv:= .slice (some ⟨bb0,oo,none⟩) o.length cap) (r:=⟨o,true⟩) (at_:=0) (de _) rfl Z;refine z5 ?_;refine wC rfl ct rfl (cF (n:=1) Z (k30.of sF) H dM) fun w Z=>?_
 have l1:=aag ⟨o,true⟩;obtain⟨n1,e1⟩:∃n,n=(cB 1 ⟨o,true⟩).1:=⟨_,rfl⟩;obtain⟨r1,R6⟩:∃n,n=(cB 1 ⟨o,true⟩).2:=⟨_,rfl⟩;rw[<-e1]at l1 ⊢;rw[<-R6]at Z
 refine cJ (v:=(n1:Int)) rfl kR dK dD rfl (jd H) ?_;refine z1 ?_;refine wC rfl ct rfl (cF (n:=1) Z (k30.of sF) H dM) fun w Z=>?_
 have l2:=aag r1;obtain⟨n2,e2⟩:∃n,n=(cB 1 r1).1:=⟨_,rfl⟩;obtain⟨r2,V6⟩:∃n,n=(cB 1 r1).2:=⟨_,rfl⟩;rw[<-e2]at l2 ⊢;rw[<-V6]at Z
 refine cJ (v:=(n2:Int)) rfl kR dK dD rfl (jd H) ?_;refine wV 0 (v:= .agg #[I n1,I n2,nQ,nQ,I 0]) ?_;refine wL 0 bW Z fun w b9 Z=>?_;refine wN 0 (cs:=[I n1,I n2,nQ,nQ,I 0]) (l':=[I n1,I n2,nQ,nQ,I 0]) ay (by intro u hu;simp at hu;rcases hu with rfl|rfl|rfl|rfl<;>rfl) Z (fun w Z=>?_);refine z5 ?_;refine wC rfl ct rfl (cF (n:=4) (Z.b [tP Wh _ _ _]) (k30.of sF) H dM) fun w Z=>?_
 obtain⟨n3,e3⟩:∃n,n=(cB 4 r2).1:=⟨_,rfl⟩;obtain⟨r3,e3'⟩:∃n,n=(cB 4 r2).2:=⟨_,rfl⟩;rw[<-e3];rw[<-e3']at Z;refine z1 ?_;refine cJ (v:=(no:Int)) rfl kR dD dK rfl (SQ H) ?_;refine wI 2 (fun h4=>?_) fun h4=>?_
 ·refine wV 2 (v:=gQ gi.cells) ?_;refine wN 0 (cs:=gi.cells) (l':=gi.cells) ay fj Z fun w Z=>?_;refine z4 ?_;exact pH rfl rfl ⟨_,rfl,(aD.dB (l:=gi.cells) ay Z pK rfl)⟩ rfl rfl (.inr ⟨_,adh (n1:=n1) (r1:=r1) hs tU (by rw[<-eo];exact e1) (by rw[<-eo];exact R6) e2 V6 e3 h4,rfl,by decide,by decide,(Z.b [N b4 _ _,tP b7 _ _ _,tP Wh _ _ _,N b9 _ _]).t4⟩)
 refine z4 ?_;refine wC rfl ct rfl (cF (n:=8) (Z.b [tP Wh _ _ _]) (k30.of sF) H dM) fun w Z=>?_
 obtain⟨n4,e4⟩:∃n,n=(cB 8 r3).1:=⟨_,rfl⟩;obtain⟨r4,V4⟩:∃n,n=(cB 8 r3).2:=⟨_,rfl⟩;rw[<-e4];rw[<-V4]at Z;refine wD 6 (v:=I n1) ag Z ?_;refine wI 2 (fun h5=>?_) fun h5=>?_
 ·refine z3 ?_;refine wC rfl ct rfl (cF (n:=2) (Z.b [tP Wh _ _ _]) (k30.of sF) H dM) fun w Z=>?_
  have l5:=agP r4;obtain⟨n5,e5⟩:∃n,n=(cB 2 r4).1:=⟨_,rfl⟩;obtain⟨r5,e5'⟩:∃n,n=(cB 2 r4).2:=⟨_,rfl⟩;rw[<-e5]at l5 ⊢;rw[<-e5']at Z
  refine cJ (v:=(n5:Int)) rfl kR dK dD rfl (jd H) ?_;refine z5 ?_;refine wC rfl ct rfl (cF (n:=4) (Z.b [tP Wh _ _ _]) (k30.of sF) H dM) fun w Z=>?_
  have l6:=afm r5;obtain⟨n6,e6⟩:∃n,n=(cB 4 r5).1:=⟨_,rfl⟩;obtain⟨r6,e6'⟩:∃n,n=(cB 4 r5).2:=⟨_,rfl⟩;rw[<-e6]at l6 ⊢;rw[<-e6']at Z
  refine cJ (v:=(n6:Int)) rfl kR dK dD rfl (jd H) ?_;refine wS 1 (l':=[I n1,I n2,nQ,nQ,I n6]) ag Z fun w Z=>?_;refine z4 ?_;refine aO rfl lI rfl (mC (n:=n5) (Z.b [tP Wh _ _ _]) (k30.of sF) H H) rfl fun w v60 hv=>?_;have Z:=hv;have hd:=(sH n5 r6).1;obtain⟨da,eda⟩:∃n,n=(fc n5 r6).1:=⟨_,rfl⟩;obtain⟨r7,e7'⟩:∃n,n=(fc n5 r6).2:=⟨_,rfl⟩;rw[<-eda]at hd Z;rw[<-e7']at Z
  obtain⟨a60,c60,rfl⟩:=((eB.row.head _).at Z).form;refine wS 1 (l':=[I n1,I n2,nQ, .slice a60 da.length c60,I n6]) ao Z fun w Z=>?_;obtain⟨pV,epV⟩:∃pV:dL,pV=⟨n1,n2,[],nQ, .slice a60 da.length c60,da,n6⟩:=⟨_,rfl⟩;have re:rA n1 n2 r4=(pV.pg,r7):=by
   have h5:n1=3:=H;rw[epV];unfold rA;rw[aB h5];simp only[<-e5,<-e5',<-e6,<-e6',<-eda,<-e7'];rfl
  have rY:pV.Sm:=by rw[epV];exact⟨de _,(fun x E=>by cases E),by show da.length<=140737488355328;omega⟩
  have gC:[I (n1:Int),I (n2:Int),nQ, .slice a60 da.length c60,I (n6:Int)]=pV.cells:=by rw[epV];rfl
  have Z:=bB Z 198 4;have Z:=aw.bJ (M:=[]) Z;have Z:=aw.bJ (M:=[row 198 4 (nQ) 0 [],bt [],row 5 1 (.slice a60 da.length c60) da.length (cI da)]) (Z.b [row 198 4 _ _ _,bt [],row 5 1 (.slice a60 da.length c60) _ _]);have uR:bt [row 198 4 (nQ) 0 [],bt [],row 5 1 (.slice a60 da.length c60) da.length (cI da)]=fg pV:=by rw[epV];rfl
  rw[uR,gC]at Z;refine z7 ?_;refine ar (d:=69) rfl (fun h6=>?_) fun h6=>?_
  ·refine B' ?_;refine cr rfl ?_;refine wV 2 (v:=gQ gi.cells) ?_;refine wN 0 (cs:=gi.cells) (l':=gi.cells) ay fj Z fun w Z=>?_;refine z4 ?_;exact pH rfl rfl ⟨_,rfl,(aD.dB (l:=gi.cells) ay Z pK rfl)⟩ rfl rfl (.inr ⟨_,by rw[sD hs tU (by rw[<-eo];exact e1) (by rw[<-eo];exact R6) e2 V6 e3 e3' e4 V4 re,aj (fun h=>by have:=h.2.1;omega)],rfl,by decide,by decide,(Z.b [N b4 _ _,tP b7 _ _ _,tP Wh _ _ _,N b9 _ _,fg pV]).t5⟩)
  refine z1 ?_;refine wC rfl qe rfl (ri (Z.b [tP Wh _ _ _]) (k30.of sF) H) fun w Z=>?_
  refine cU rfl rfl ?_;refine z2 ?_;refine ar (d:=74) rfl (fun h7=>?_) fun h7=>?_
  ·refine z5 ?_;refine cr rfl ?_;refine wV 2 (v:=gQ gi.cells) ?_;refine wN 0 (cs:=gi.cells) (l':=gi.cells) ay fj Z fun w Z=>?_;refine z4 ?_;exact pH rfl rfl ⟨_,rfl,(aD.dB (l:=gi.cells) ay Z pK rfl)⟩ rfl rfl (.inr ⟨_,by rw[sD hs tU (by rw[<-eo];exact e1) (by rw[<-eo];exact R6) e2 V6 e3 e3' e4 V4 re,aj (fun h=>h7 h.2.2.1)],rfl,by decide,by decide,(Z.b [N b4 _ _,tP b7 _ _ _,N b9 _ _,fg pV]).t4⟩)
  refine wA 0 (l:=pV.cells) ay Z ?_;refine wC rfl tH rfl (u7 (p:=pV) Z (cL rY pK)) fun w Z=>?_
  refine wI 3 (fun h8=>?_) fun h8=>?_
  ·refine wV 2 (v:=gQ gi.cells) ?_;refine wN 0 (cs:=gi.cells) (l':=gi.cells) ay fj Z fun w Z=>?_;refine z4 ?_;exact pH rfl rfl ⟨_,rfl,(aD.dB (l:=gi.cells) ay Z pK rfl)⟩ rfl rfl (.inr ⟨_,by rw[sD hs tU (by rw[<-eo];exact e1) (by rw[<-eo];exact R6) e2 V6 e3 e3' e4 V4 re,aj (fun h=>h8 h.2.2.2)],rfl,by decide,by decide,(Z.b [N b4 _ _,tP b7 _ _ _,N b9 _ _,fg pV]).t4⟩)
  refine wA 3 (l:=pV.cells) ay Z ?_;refine z1 ?_;refine cJ (v:=(n4:Int)) rfl kR dK dD rfl (jd H) ?_;refine ue (cs:=pV.cells) (l':=pV.cells) rfl tV rfl rfl ay rfl (jz (cL rY pK) Z) Z pK (by simp[dL.cells]) rfl rfl fun w Z=>?_;refine z4 ?_;exact pH rfl rfl ⟨_,rfl,(aD.dB (l:=pV.cells) ay Z pK rfl)⟩ rfl rfl (.inl ⟨pV,n4,by rw[sD hs tU (by rw[<-eo];exact e1) (by rw[<-eo];exact R6) e2 V6 e3 e3' e4 V4 re,aB ⟨dg.1 h4,H,dg.1 h7,dg.1 h8⟩],H,rfl,rY,(Z.b [N b4 _ _,tP b7 _ _ _,N b9 _ _,fg pV]).t3⟩)
 refine wD 3 (v:=I n1) ag Z ?_;refine aO rfl yO rfl (Aa (kind:=(n1:Int)) (Z.b [tP Wh _ _ _]) (k30.of sF) H) rfl fun w v65 hv=>?_;obtain⟨li,⟨aiz,ahe,aiy⟩,Z⟩:=hv;have l7:=aag r4;obtain⟨n7,e7⟩:∃n,n=(cB 1 r4).1:=⟨_,rfl⟩;obtain⟨r6,e7'⟩:∃n,n=(cB 1 r4).2:=⟨_,rfl⟩;rw[<-e7,<-e7']at Z ahe;rw[<-e7]at aiz l7
 obtain⟨r7,e8'⟩:∃n,n=(gF (n1:Int) n7 r6).2:=⟨_,rfl⟩;rw[<-e8']at Z;have yn:aL (row 198 4 v65 li.length (li.map cP.cells).flatten::[]) (jk 4 v65 (li.map cP.cells)):=by
  have h:=jk.row (T:=198) (z:=4) (v:=v65) (m:=li.length) (rs:=li.map cP.cells) sM (fun r hr=>by obtain⟨x,-,rfl⟩:=dY.1 hr;rfl);exact h
 obtain⟨a65,c65,e65,-,-⟩:=((yn.head _).at (Z.b [row 198 4 v65 _ _])).form;subst e65;refine wS 1 (l':=[I n1,I n2, .slice a65 (li.map cP.cells).length c65,nQ,I 0]) aH Z fun w Z=>?_;obtain⟨pV,epV⟩:∃pV:dL,pV=⟨n1,n2,li, .slice a65 (li.map cP.cells).length c65,nQ,[],0⟩:=⟨_,rfl⟩;have re:rA n1 n2 r4=(pV.pg,r7):=by
  have h5:¬n1=3:=H;rw[epV];unfold rA;rw[aj h5];simp only[<-e7,<-e7',<-ahe,<-e8'];rfl
 have rY:pV.Sm:=by rw[epV];exact⟨by show li.length<=2199023255552;omega,(fun x E=>by have:=aiy x E;unfold Qc at this;unfold dP;omega),by show(0:Nat)<=140737488355328;omega⟩
 have gC:[I (n1:Int),I (n2:Int), .slice a65 (li.map cP.cells).length c65,nQ,I 0]=pV.cells:=by rw[epV];rfl
 have Z:=bB Z 5 1;have Z:=aw.bJ (M:=[row 198 4 (.slice a65 (li.map cP.cells).length c65) li.length (li.map cP.cells).flatten,bt (li.flatMap cm),row 5 1 (nQ) 0 []]) (Z.b [row 198 4 _ _ _,bt _,row 5 1 (nQ) _ _]);have uR:bt [row 198 4 (.slice a65 (li.map cP.cells).length c65) li.length (li.map cP.cells).flatten,bt (li.flatMap cm),row 5 1 (nQ) 0 []]=fg pV:=by rw[epV];rfl
 rw[uR,gC]at Z;refine z7 ?_;refine ar (d:=69) rfl (fun h9=>?_) fun h9=>?_
 ·refine B' ?_;refine cr rfl ?_;refine wV 2 (v:=gQ gi.cells) ?_;refine wN 0 (cs:=gi.cells) (l':=gi.cells) ay fj Z fun w Z=>?_;refine z4 ?_;exact pH rfl rfl ⟨_,rfl,(aD.dB (l:=gi.cells) ay Z pK rfl)⟩ rfl rfl (.inr ⟨_,by rw[sD hs tU (by rw[<-eo];exact e1) (by rw[<-eo];exact R6) e2 V6 e3 e3' e4 V4 re,aj (fun h=>by have:=h.2.1;omega)],rfl,by decide,by decide,(Z.b [N b4 _ _,tP b7 _ _ _,tP Wh _ _ _,N b9 _ _,fg pV]).t5⟩)
 refine z1 ?_;refine wC rfl qe rfl (ri (Z.b [tP Wh _ _ _]) (k30.of sF) H) fun w Z=>?_
 refine cU rfl rfl ?_;refine z2 ?_;refine ar (d:=74) rfl (fun jR=>?_) fun jR=>?_
 ·refine z5 ?_;refine cr rfl ?_;refine wV 2 (v:=gQ gi.cells) ?_;refine wN 0 (cs:=gi.cells) (l':=gi.cells) ay fj Z fun w Z=>?_;refine z4 ?_;exact pH rfl rfl ⟨_,rfl,(aD.dB (l:=gi.cells) ay Z pK rfl)⟩ rfl rfl (.inr ⟨_,by rw[sD hs tU (by rw[<-eo];exact e1) (by rw[<-eo];exact R6) e2 V6 e3 e3' e4 V4 re,aj (fun h=>jR h.2.2.1)],rfl,by decide,by decide,(Z.b [N b4 _ _,tP b7 _ _ _,N b9 _ _,fg pV]).t4⟩)
 refine wA 0 (l:=pV.cells) ay Z ?_;refine wC rfl tH rfl (u7 (p:=pV) Z (cL rY pK)) fun w Z=>?_
 refine wI 3 (fun qH=>?_) fun qH=>?_
 ·refine wV 2 (v:=gQ gi.cells) ?_;refine wN 0 (cs:=gi.cells) (l':=gi.cells) ay fj Z fun w Z=>?_;refine z4 ?_;exact pH rfl rfl ⟨_,rfl,(aD.dB (l:=gi.cells) ay Z pK rfl)⟩ rfl rfl (.inr ⟨_,by rw[sD hs tU (by rw[<-eo];exact e1) (by rw[<-eo];exact R6) e2 V6 e3 e3' e4 V4 re,aj (fun h=>qH h.2.2.2)],rfl,by decide,by decide,(Z.b [N b4 _ _,tP b7 _ _ _,N b9 _ _,fg pV]).t4⟩)
 refine wA 3 (l:=pV.cells) ay Z ?_;refine z1 ?_;refine cJ (v:=(n4:Int)) rfl kR dK dD rfl (jd H) ?_;refine ue (cs:=pV.cells) (l':=pV.cells) rfl tV rfl rfl ay rfl (jz (cL rY pK) Z) Z pK (by simp[dL.cells]) rfl rfl fun w Z=>?_;refine z4 ?_;exact pH rfl rfl ⟨_,rfl,(aD.dB (l:=pV.cells) ay Z pK rfl)⟩ rfl rfl (.inl ⟨pV,n4,by rw[sD hs tU (by rw[<-eo];exact e1) (by rw[<-eo];exact R6) e2 V6 e3 e3' e4 V4 re,aB ⟨dg.1 h4,H,dg.1 jR,dg.1 qH⟩],H,rfl,rY,(Z.b [N b4 _ _,tP b7 _ _ _,N b9 _ _,fg pV]).t3⟩)
def M6(c:Cf):List C:=[I c.blocks,I c.pJ,I c.refs]
def jI(p:Pl):List C:=[I p.pages,I p.nC,I p.first]
def eH(s:Su)(rv:C):List C:=[I s.gen,I s.cf.blocks,I s.cf.pJ,I s.cf.refs,I s.next,rv]
def YC:Pl:=⟨0,0,0⟩
def s6(c:Pl):lK (jI c):=fun u hu=>by simp[jI]at hu;rcases hu with rfl|rfl|rfl<;>rfl
def JC{b p:Nat}(h:¬2+2*pS (p+1)+(p+1)<=b):rW b (p+1)=rW b p:=by rw[rW,aj h]
def CM{b p:Nat}(h:2+2*pS p+p<=b):rW b p=p:=by
 cases p with
 |zero=>rfl
 |succ p=>rw[rW,aB h]
def iV{x hi:Int}(Z:aw G L w):aA prog 214 #[I x,I lo,I hi] w (bU fun r w'=>r= .bool (decide (lo<=x/\x<=hi))/\aw G L w'):=by
 refine wF [_,_,_] func214 ntmps214 ?_;refine B' ?_;refine ar (d:=10) rfl (fun Y=>?_) fun Y=>?_
 ·refine dk 7 ?_;exact⟨by first|rw[cN (show¬(lo<=x/\x<=hi) by omega)]|(congr 1;simp only[bI];omega),Z⟩
 refine dk 7 ?_;exact⟨by first|rw[cN (show¬(lo<=x/\x<=hi) by omega)]|(congr 1;simp only[bI];omega),Z⟩
def PI{c:Cf}(Z:aw G L w):aA prog 216 #[gQ (M6 c)] w (bU fun r w'=>r= .bool (decide (iI c))/\aw G L w'):=by
 refine wF [_] func216 ntmps216 ?_;refine wB 2 Z fun w b1 Z=>?_;refine wD 5 (v:=I c.blocks) ag Z ?_;refine wC rfl hY rfl (iV Z) fun w Z=>?_
 refine z1 ?_;refine ar (d:=6) rfl (fun Y=>?_) fun Y=>?_
 ·refine wD 1 (v:=I c.pJ) ag Z ?_;refine wC rfl hY rfl (iV Z) fun w Z=>?_
  refine z2 ?_;refine ar (d:=11) rfl (fun J=>?_) fun J=>?_
  ·refine wD 1 (v:=I c.refs) ag Z ?_;refine wC rfl hY rfl (iV Z) fun w Z=>?_
   refine dk 4 ?_;exact⟨by first|rw[cN (show¬iI c by unfold iI;omega)]|(congr 1;simp only[bI];unfold iI;omega),Z.tail⟩
  refine dk 7 ?_;exact⟨by first|rw[cN (show¬iI c by unfold iI;omega)]|(congr 1;simp only[bI];unfold iI;omega),Z.tail⟩
 refine dk 12 ?_;exact⟨by first|rw[cN (show¬iI c by unfold iI;omega)]|(congr 1;simp only[bI];unfold iI;omega),Z.tail⟩
def Ck{p:Nat}(Z:aw G L w)(hp:p<=65536):aA prog 217 #[I p] w (bU fun r w'=>r=I (pS p:Nat)/\aw G L w'):=by
 refine wF [_] func217 ntmps217 ?_;refine z9 ?_;refine yW rfl rfl rfl H H ?_;refine dk 3 ?_;exact⟨by rw[show((p:Int)+240-1)/240=((pS p:Nat):Int) by unfold pS;omega],Z⟩
def Cl{c:Cf}(Z:aw G L w):aA prog 126 #[gQ (M6 c)] w (bU fun r w'=>((¬iI c/\r= .tuple #[gQ (jI YC),I 1])\/(iI c/\r= .tuple #[gQ (jI (bd c)),I 0]))/\aw G L w'):=by
 refine wF [_] func126 ntmps126 ?_;refine wB 2 Z fun w b1 Z=>?_;refine wL 0 ot Z fun w b2 Z=>?_;refine wA 5 (l:=M6 c) fo Z ?_;refine wC rfl M9 rfl (PI Z) fun w Z=>?_
 refine cU rfl rfl ?_;refine aK ?_;refine wI 0 (fun Y=>?_) fun Y=>?_
 ·refine wV 2 (v:=gQ (jI YC)) ?_;refine wN 0 (cs:=jI YC) (l':=jI YC) bE (s6 _) Z fun w Z=>?_;refine z3 ?_;exact ga rfl rfl ⟨_,rfl,(aD.dB (l:=jI YC) bE Z pK rfl)⟩ rfl ⟨.inl ⟨Y,rfl⟩,(Z.b [N b2 _ _,N b1 _ _]).t2⟩
 have hm:iI c:=dg.1 Y;obtain⟨B,hB⟩:∃B:Nat,c.blocks=B:=⟨c.blocks.toNat,by unfold iI at hm;omega⟩;have hB8:8<=B/\B<=65536:=by unfold iI at hm;omega
 refine wD 4 (v:=I c.blocks) ag Z ?_;rw[hB];refine z4 ?_;refine bx (fun m e w=>∃p:Nat,p<=B/\m=p+1/\rW B p=rW B B/\e=[(1,pQ b1),(2,pQ b2),(4,I p)]/\aw G (N b2 (jI YC) 155::N b1 (M6 c) 72::L) w)
  (m:=B+1) sB
  ⟨B,fP _,rfl,rfl,rfl,Z⟩ ?_
 rintro m e w ⟨p,hp,rfl,wy,rfl,Z⟩;have VT:pS p<=p+1:=by unfold pS;omega
 refine z2 ?_;refine wQ [0,4,6,7,1,2,3,5,8] Z fun Z=>?_
 refine wD 3 (v:=I c.blocks) ag Z ?_;refine ed rfl Aj rfl (Ck Z H) (fun w v13 hv q' hq=>?_) fun w v13 hv=>?_
 ·obtain⟨rfl,Z⟩:=hv;have hq:=bK (l:=[7]) kR hq;simp only[cE,fQ,or_false]at hq;subst hq;exact bG rfl rfl rfl (aD.cw (v:=I c.blocks) ag Z pK rfl)
 obtain⟨rfl,Z⟩:=hv;refine lx rfl rfl rfl H ?_;refine wI 4 (fun J=>?_) fun J=>?_
 ·refine z7 ?_;have hp0:p≠0:=fun h0=>by subst h0;unfold pS at J;omega
  obtain⟨k,rfl⟩:∃k,p=k+1:=⟨p-1,H⟩;exact⟨k+1,H,[(1,_),(2,_),(4,I (k:Nat))],⟨gd.cons rfl (gd.cons rfl (gd.cons (by show some (I _)=some (I _);congr 2;omega) (gd.nil _))),rfl⟩,k,H,rfl,by rw[<-wy,JC H],rfl,Z⟩
 have Mz:s5 c=p:=by unfold s5;rw[hB,cZ,<-wy];exact CM H
 refine z4 ?_;refine wC rfl Aj rfl (Ck Z H) fun w Z=>?_
 refine z7 ?_;refine lx rfl rfl rfl H ?_;refine z1 ?_;refine DK (v:=gQ (jI (bd c))) rfl rfl (fun w=>by unfold bd;rw[Mz];kernel_rfl) ?_;refine wN 0 (cs:=jI (bd c)) (l':=jI (bd c)) bE (s6 _) Z fun w Z=>?_;refine z3 ?_;exact ga rfl rfl ⟨_,rfl,(aD.dB (l:=jI (bd c)) bE Z pK rfl)⟩ rfl ⟨.inr ⟨hm,rfl⟩,(Z.b [N b2 _ _,N b1 _ _]).t2⟩
def PJ{p:Pl}{t:Tr}(Z:aw G L w)(hp:0<=p.pages/\p.pages<=65536):aA prog 215 #[gQ (jI p),gQ (dI t)] w (bU fun r w'=>r= .bool (decide (rm p.pages t))/\aw G L w'):=by
 refine wF [_,_] func215 ntmps215 ?_;refine wB 2 Z fun w b2 Z=>?_;refine wB 0 Z fun w b3 Z=>?_;refine wA 4 (l:=dI t) ez Z ?_;refine wV 0 (v:=gQ (dI ⟨0,0,0⟩)) ?_;refine jS (v:= .bool (decide (fY t))) rfl kR rfl rfl (fun w'=>by
  rw[al,run_eqGuard_agg w' _ _ _ _ _ _ kR,ah,run_eql_struct,za 9998];rfl) ?_
 refine z1 ?_;refine ar (d:=8) rfl (fun Y=>?_) fun Y=>?_
 ·refine dk 22 ?_;exact⟨by rw[eW (show rm p.pages t from .inl Y)],Z.tail.tail⟩
 refine wD 1 (v:=I t.root) ag Z ?_;refine wD 1 (v:=I p.pages) ag Z ?_;refine wC rfl hY rfl (iV Z) fun w Z=>?_
 refine z1 ?_;refine ar (d:=14) rfl (fun J=>?_) fun J=>?_
 ·refine wD 1 (v:=I t.bh) ag Z ?_;refine wC rfl hY rfl (iV Z) fun w Z=>?_
  refine iM rfl rfl rfl rfl ?_;refine z1 ?_;refine ar (d:=19) rfl (fun h3=>?_) fun h3=>?_
  ·refine wD 1 (v:=I t.items) ag Z ?_;refine wD 1 (v:=I p.pages) ag Z ?_;refine lx rfl rfl rfl H ?_;refine wC rfl hY rfl (iV Z) fun w Z=>?_
   refine iM rfl rfl rfl rfl ?_;refine z4 ?_;exact dt rfl rfl rfl ⟨by
 have hc:rm p.pages t↔((1<=t.root/\t.root<=p.pages)/\(1<=t.bh/\t.bh<=12)/\1<=t.items/\t.items<=p.pages*8):=⟨fun h=>h.resolve_left Y, .inr⟩
 first|(congr 1;simp only[bI];rw[hc];omega)|rw[cN (show¬rm p.pages t by rw[hc];omega)],Z.tail.tail⟩
  refine z6 ?_;refine iw rfl rfl rfl rfl ?_;refine z4 ?_;exact dt rfl rfl rfl ⟨by
 have hc:rm p.pages t↔((1<=t.root/\t.root<=p.pages)/\(1<=t.bh/\t.bh<=12)/\1<=t.items/\t.items<=p.pages*8):=⟨fun h=>h.resolve_left Y, .inr⟩
 first|(congr 1;simp only[bI];rw[hc];omega)|rw[cN (show¬rm p.pages t by rw[hc];omega)],Z.tail.tail⟩
 refine z3 ?_;refine iw rfl rfl rfl rfl ?_;refine z7 ?_;refine iw rfl rfl rfl rfl ?_;refine z4 ?_;exact dt rfl rfl rfl ⟨by
 have hc:rm p.pages t↔((1<=t.root/\t.root<=p.pages)/\(1<=t.bh/\t.bh<=12)/\1<=t.items/\t.items<=p.pages*8):=⟨fun h=>h.resolve_left Y, .inr⟩
 first|(congr 1;simp only[bI];rw[hc];omega)|rw[cN (show¬rm p.pages t by rw[hc];omega)],Z.tail.tail⟩
def MS{p:Pl}{k:Int}(Z:aw G L w)(hp:0<=p.nC/\p.nC<=65536):aA prog 222 #[gQ (jI p),I k] w (bU fun r w'=>r=I (if k=0 then 2 else if k=1 then 2+p.nC else 0)/\aw G L w'):=by
 refine wF [_,_] func222 ntmps222 ?_;refine wB 2 Z fun w b2 Z=>?_;refine wI 13 (fun Y=>?_) fun Y=>?_
 ·refine dk 5 ?_;exact⟨by rw[aB Y],Z.tail⟩
 refine wI 5 (fun J=>?_) fun J=>?_
 ·refine wD 3 (v:=I p.nC) ag Z ?_;refine dk 4 ?_;exact⟨by rw[aj Y,aB J],Z.tail⟩
 refine dk 6 ?_;exact⟨by rw[aj Y,aj J],Z.tail⟩
def ad3(g:Nat)(hg:g<=1099511627776):IntKind.i64.wrap (BitVec.ofInt IntKind.i64.bits (g:Int)&&&BitVec.ofInt IntKind.i64.bits 1).toNat=((g%2:Nat):Int):=by
 show IntKind.i64.wrap ((BitVec.ofInt 64 (g:Int)&&&BitVec.ofInt 64 1).toNat:Int)=_
 rw[BitVec.ofInt_natCast,show BitVec.ofInt 64 1=1#64 from rfl,BitVec.toNat_and,BitVec.toNat_ofNat,ZE H,show(1#64).toNat=1 from rfl,Nat.and_one_is_mod,jd H]
def MR{g:Nat}(Z:aw G L w)(hg:g<=1099511627776):aA prog 223 #[I g] w (bU fun r w'=>r=I ((g%2:Nat):Int)/\aw G L w'):=by
 refine wF [_] func223 ntmps223 ?_;refine z7 ?_;refine Tj (v:=((g%2:Nat):Int)) rfl rfl rfl (ad3 g hg) ?_;refine dk 3 ?_;exact⟨rfl,Z⟩
def zQ{p:Pl}{n:Int}(Z:aw G L w)(hp:0<=p.first/\p.first<=1000000/\p.pages<=65536):aA prog 136 #[gQ (jI p),I n] w (bU fun r w'=>((¬(1<=n/\n<=p.pages)/\r= .tuple #[I 0, .bool false])\/((1<=n/\n<=p.pages)/\r= .tuple #[I (p.first+n-1), .bool true]))/\aw G L w'):=by
 refine wF [_,_] func136 ntmps136 ?_;refine wB 2 Z fun w b2 Z=>?_;refine wD 8 (v:=I p.pages) ag Z ?_;refine wC rfl hY rfl (iV Z) fun w Z=>?_
 refine cU rfl rfl ?_;refine aK ?_;refine wI 0 (fun Y=>?_) fun Y=>?_
 ·refine ui 6 ?_;exact⟨.inl ⟨Y,rfl⟩,Z.tail⟩
 have Y:=dg.1 Y;refine wD 4 (v:=I p.first) ag Z ?_;refine ui 7 ?_;exact⟨.inr ⟨Y,rfl⟩,Z.tail⟩
def K0{c:Cf}(Z:aw G L w):aA prog 141 #[gQ (M6 c)] w (bU fun r w'=>r= .bool (decide (iI c))/\aw G L w'):=by
 refine wF [_] func141 ntmps141 ?_;refine wB 2 Z fun w b1 Z=>?_;refine wD 5 (v:=I c.blocks) ag Z ?_;refine z2 ?_;refine ar (d:=6) rfl (fun Y=>?_) fun Y=>?_
 ·refine wD 1 (v:=I c.blocks) ag Z ?_;refine z3 ?_;refine ar (d:=11) rfl (fun J=>?_) fun J=>?_
  ·refine wD 1 (v:=I c.pJ) ag Z ?_;refine z3 ?_;refine ar (d:=16) rfl (fun h3=>?_) fun h3=>?_
   ·refine wD 1 (v:=I c.pJ) ag Z ?_;refine z3 ?_;refine ar (d:=21) rfl (fun h4=>?_) fun h4=>?_
    ·refine wD 1 (v:=I c.refs) ag Z ?_;refine z3 ?_;refine ar (d:=26) rfl (fun h5=>?_) fun h5=>?_
     ·refine wD 1 (v:=I c.refs) ag Z ?_;refine dk 5 ?_;exact⟨by first|rw[cN (show¬iI c by unfold iI;omega)]|(congr 1;simp only[bI];unfold iI;omega),Z.tail⟩
     refine dk 7 ?_;exact⟨by first|rw[cN (show¬iI c by unfold iI;omega)]|(congr 1;simp only[bI];unfold iI;omega),Z.tail⟩
    refine dk 12 ?_;exact⟨by first|rw[cN (show¬iI c by unfold iI;omega)]|(congr 1;simp only[bI];unfold iI;omega),Z.tail⟩
   refine dk 17 ?_;exact⟨by first|rw[cN (show¬iI c by unfold iI;omega)]|(congr 1;simp only[bI];unfold iI;omega),Z.tail⟩
  refine dk 22 ?_;exact⟨by first|rw[cN (show¬iI c by unfold iI;omega)]|(congr 1;simp only[bI];unfold iI;omega),Z.tail⟩
 refine z24 ?_;refine dk 3 ?_;exact⟨by first|rw[cN (show¬iI c by unfold iI;omega)]|(congr 1;simp only[bI];unfold iI;omega),Z.tail⟩
def Cp{p:Pl}{k:Int}(Z:aw G L w)(hp:0<=p.nC/\p.nC<=65536):aA prog 70 #[gQ (jI p),I k] w (bU fun r w'=>r=I (if k=0 then 2 else if k=1 then 2+p.nC else 0)/\aw G L w'):=by
 refine wF [_,_] func70 ntmps70 ?_;refine wB 2 Z fun w b2 Z=>?_;refine wI 8 (fun Y=>?_) fun Y=>?_
 ·refine dk 5 ?_;exact⟨by rw[aB Y],Z.tail⟩
 refine wI 7 (fun J=>?_) fun J=>?_
 ·refine wD 3 (v:=I p.nC) ag Z ?_;refine dk 4 ?_;exact⟨by rw[aj Y,aB J],Z.tail⟩
 refine dk 6 ?_;exact⟨by rw[aj Y,aj J],Z.tail⟩
def Co{g:Nat}(Z:aw G L w)(hg:g<=1099511627776):aA prog 71 #[I g] w (bU fun r w'=>r=I ((g%2:Nat):Int)/\aw G L w'):=by
 refine wF [_] func71 ntmps71 ?_;refine z8 ?_;refine Tg rfl rfl rfl H H ?_;refine wI 2 (fun Y=>?_) fun Y=>?_
 ·refine dk 5 ?_;exact⟨by rw[show((g%2:Nat):Int)=0 by omega],Z⟩
 refine dk 6 ?_;exact⟨by rw[show((g%2:Nat):Int)=1 by omega],Z⟩
def Jj(x:Int×Tr):lK (cA x):=fun u hu=>by simp[cA]at hu;rcases hu with rfl|rfl|rfl|rfl<;>rfl
def zP{s:Su}(Z:aw G L w)(kr:aL L (jk 4 rv (s.roots.map cA)))(hn:s.roots.length<=1000):
  aA prog 124 #[gQ (eH s rv)] w (bU fun r w'=>r=I (cp s)/\aw G L w'):=by
 obtain⟨ra,rc,h0,-,-⟩:=(kr.at Z).form;rw[cg]at h0;subst h0;refine wF [_] func124 ntmps124 ?_;refine wB 2 Z fun w b1 Z=>?_;refine z5 ?_;refine bg rfl rfl (aD.xM (cs:=M6 s.cf) fo Z pK rfl rfl) ?_;refine aO rfl Ak rfl (Cl Z) rfl fun w v13 hv=>?_;have hz:∃p er,v13= .tuple #[gQ (jI p),I er]/\((¬iI s.cf/\er=1)\/(iI s.cf/\p=bd s.cf/\er=0)):=by
  rcases hv.1 with⟨Y,J⟩|⟨Y,J⟩
  ·exact⟨_,_,J, .inl ⟨Y,rfl⟩⟩
  exact⟨_,_,J, .inr ⟨Y,rfl,rfl⟩⟩
 have Z:=hv.2;obtain⟨p,er,rfl,hp⟩:=hz;refine wL 3 ot Z fun w b3 Z=>?_;refine wN 0 (cs:=jI p) (l':=jI p) bE (s6 _) Z fun w Z=>?_;refine wI 8 (fun Y=>?_) fun Y=>?_
 ·refine z6 ?_;exact dt rfl rfl rfl ⟨by
 obtain⟨J,rfl⟩:=hp.resolve_right (fun h=>Y h.2.2);unfold cp;rw[aB J],Z.tail.tail⟩
 obtain⟨hm,rfl,rfl⟩:=hp.resolve_left (fun h=>by have:=h.2;omega);have Um:cp s=if¬((0<=s.gen/\s.gen<=1099511627776)/\(1<=s.next/\s.next<=2147483648)/\(s.roots.length:Int)<=s.cf.pJ)then 4 else if¬lO s.next 0 s.roots then 11 else if¬∀r∈s.roots,rm (bd s.cf).pages r.2 then 5 else 0:=by
  unfold cp;rw[aj (fun h=>h hm)]
 obtain⟨f1,f2,f3,f4,f5,f6⟩:=qm hm;have tW:=hm.1;refine wD 5 (v:=I s.gen) ag Z ?_;refine wC rfl hY rfl (iV Z) fun w Z=>?_
 refine cU rfl rfl ?_;refine z1 ?_;refine ar (d:=23) rfl (fun J=>?_) fun J=>?_
 ·refine z15 ?_;refine cr rfl ?_;refine dk 5 ?_;exact⟨by rw[Um,aB (fun h=>J h.1)],Z.tail.tail⟩
 refine wD 1 (v:=I s.next) ag Z ?_;refine wC rfl hY rfl (iV Z) fun w Z=>?_
 refine cU rfl rfl ?_;refine z2 ?_;refine ar (d:=29) rfl (fun h3=>?_) fun h3=>?_
 ·refine z9 ?_;refine cr rfl ?_;refine dk 5 ?_;exact⟨by rw[Um,aB (fun h=>h3 h.2.1)],Z.tail.tail⟩
 refine wD 1 (v:= .slice ra s.roots.length rc) bD Z ?_;refine eE rfl kR bp rfl ?_;refine z1 ?_;refine cC rfl rL rfl ?_;refine wD 0 (v:=I s.cf.pJ) ag Z ?_;refine wI 3 (fun h4=>?_) fun h4=>?_
 ·refine dk 5 ?_;exact⟨by rw[Um,aB (fun h=>by have:=h.2.2;omega)],Z.tail.tail⟩
 have J:=dg.1 J;have h3:=dg.1 h3;have aaO:cp s=if¬lO s.next 0 s.roots then 11 else if¬∀r∈s.roots,rm (bd s.cf).pages r.2 then 5 else 0:=by
  rw[Um,aj (fun h=>h ⟨J,h3,H⟩)]
 refine wD 9 (v:= .slice ra s.roots.length rc) bD Z ?_;refine eE rfl kR bp rfl ?_;refine z3 ?_;refine bx (fun m e w=>∃(k:Nat) (ab:Int),k<=s.roots.length/\m=s.roots.length-k/\e=[(1,pQ b1),(3,pQ b3),(5,I ab),(39, .slice ra s.roots.length rc),(40,I s.roots.length),(41,I k)]/\((0<=ab/\ab<=2147483648)/\(lO s.next 0 s.roots↔lO s.next ab (s.roots.drop k)))∧
 aw G (N b3 (jI (bd s.cf)) 155::N b1 (eH s (.slice ra s.roots.length rc)) 74::L) w)
  (m:=s.roots.length) sB
  ⟨0,0,de _,rfl,rfl,⟨⟨by decide,by decide⟩,Iff.rfl⟩,Z⟩ ?_
 rintro m e w ⟨k,ab,hk,rfl,rfl,⟨Hb,Uh⟩,Z⟩;refine wI 5 (fun h5=>?_) fun h5=>?_
 ·have gn:k<s.roots.length:=H;obtain⟨x,E⟩:∃x,s.roots[k]?=some x:=⟨_,dG gn⟩;obtain⟨bb,oo,rfl⟩:=((kr.of sF).at Z).nn (by rw[cg];omega);rw[m6 E]at Uh;refine wX 5 bp dx ?_;refine bg rfl rfl (aD.many (cs:=cA x) fM rfl (by rw[cZ];exact((kr.of sF).at Z).at (by rw[dh,E];rfl))) ?_;refine wL 0 wJ Z fun w b7 Z=>?_;refine wN 0 (cs:=cA x) (l':=cA x) fM (Jj x) Z fun w Z=>?_;refine wD 5 (v:=I x.1) ag Z ?_;refine wD 3 (v:=I s.next) ag Z ?_;refine z1 ?_;refine wC rfl hY rfl (iV Z) fun w Z=>?_
  refine cU rfl rfl ?_;refine aK ?_;refine wI 0 (fun h6=>?_) fun h6=>?_
  ·refine dk 5 ?_;exact⟨by rw[aaO,aB (fun h=>h6 (Uh.1 h).1)],Z.tail.tail.tail⟩
  refine wD 3 (v:=I x.1) ag Z ?_;refine z6 ?_;have h6:=dg.1 h6;exact⟨s.roots.length-(k+1),H,[(1,_),(3,_),(5,I x.1),(39,_),(40,_),(41,I (k+1:Nat))],sB,k+1,x.1,H,rfl,rfl,⟨H,Uh.trans ⟨fun h=>h.2,fun h=>⟨h6,h⟩⟩⟩,Z.tail⟩
 have oY:k=s.roots.length:=H;rw[oY,ZF]at Uh;have Uh:lO s.next 0 s.roots:=Uh.2 trivial;have aaN:cp s=if¬∀r∈s.roots,rm (bd s.cf).pages r.2 then 5 else 0:=by rw[aaO,aj (fun h=>h Uh)]
 refine wD 5 (v:= .slice ra s.roots.length rc) bD Z ?_;refine eE rfl kR bp rfl ?_;refine z3 ?_;refine bx (fun m e w=>∃(k:Nat),k<=s.roots.length/\m=s.roots.length-k/\e=[(1,pQ b1),(3,pQ b3),(58, .slice ra s.roots.length rc),(59,I s.roots.length),(60,I k)]/\(∀r∈s.roots.take k,rm (bd s.cf).pages r.2)∧
 aw G (N b3 (jI (bd s.cf)) 155::N b1 (eH s (.slice ra s.roots.length rc)) 74::L) w)
  (m:=s.roots.length) sB
  ⟨0,de _,rfl,rfl,(fun r hr=>by simp at hr),Z⟩ ?_
 rintro m e w ⟨k,hk,rfl,rfl,Kd,Z⟩;refine wI 5 (fun h7=>?_) fun h7=>?_
 ·have gn:k<s.roots.length:=H;obtain⟨x,E⟩:∃x,s.roots[k]?=some x:=⟨_,dG gn⟩;obtain⟨bb,oo,rfl⟩:=((kr.of sF).at Z).nn (by rw[cg];omega);refine wX 5 bp dx ?_;refine bg rfl rfl (aD.many (cs:=cA x) fM rfl (by rw[cZ];exact((kr.of sF).at Z).at (by rw[dh,E];rfl))) ?_;refine wL 0 wJ Z fun w b9 Z=>?_;refine wN 0 (cs:=cA x) (l':=cA x) fM (Jj x) Z fun w Z=>?_;refine wA 3 (l:=jI (bd s.cf)) bE Z ?_;refine z1 ?_;refine bg rfl rfl (aD.xM (cs:=dI x.2) ez Z pK rfl rfl) ?_;refine wC rfl Na rfl (PJ Z H) fun w Z=>?_
  refine cU rfl rfl ?_;refine aK ?_;refine wI 0 (fun h8=>?_) fun h8=>?_
  ·refine dk 5 ?_;exact⟨by rw[aaN,aB (fun h=>h8 (h x (fK E)))],Z.tail.tail.tail⟩
  refine z5 ?_;have h8:=dg.1 h8;refine⟨s.roots.length-(k+1),H,[(1,_),(3,_),(58,_),(59,_),(60,I (k+1:Nat))],sB,k+1,H,rfl,rfl,?_,Z.tail⟩;rw[bV E];intro r hr;rcases eZ.1 hr with hr|hr
  ·exact Kd r hr
  simp at hr;subst hr;exact h8
 refine dk 6 ?_;exact⟨by rw[aaN,aj (fun h=>h (by rw[kH H]at Kd;exact Kd))],Z.tail.tail⟩
def Lc{f:Nat->Option (List Int)}:∀{k:Nat} {c:List Int},j5 f k=some c->∀i,i<k->∃l,f i=some l
 |k+1,c,h,i,hi=>by
  rw[j5]at h;split at h
  ·cases h
  rename_i a ha;split at h
  ·cases h
  rename_i b hb;rcases oA i k with Y|Y
  ·exact Lc ha i Y
  have:i=k:=H;subst this;exact⟨b,hb⟩
def Hi{f g:Nat->Option (List Int)}:∀{k:Nat},(∀i,i<k->f i=g i)->j5 f k=j5 g k
 |0,_=>rfl
 |k+1,h=>by rw[j5,j5,Hi (k:=k) (fun i hi=>h i H),h k H]
def UQ{f:Nat->Option (List Int)}(hi:i<k)(h:f i=none):j5 f k=none:=by
 cases hc:j5 f k with
 |none=>rfl
 |some c=>obtain⟨l,hl⟩:=Lc hc i hi;rw[h]at hl;cases hl
def vX{s:Su}{Bk:Nat->bZ}:∀{k:Nat} {c:List Int},(k:Int)*240<=(bd s.cf).pages+239->j5 (nT s Bk) k=some c->c.length=min (240*k) (bd s.cf).pages.toNat
 |0,c,hk,h=>by cases h;simp
 |k+1,c,hk,h=>by
  rw[j5]at h;split at h
  ·cases h
  rename_i a ha;split at h
  ·cases h
  rename_i b hb;cases h;have Y:=vX (k:=k) (by push_cast at hk ⊢;omega) ha;have J:=(GC hb).1;rw[di,Y,J];unfold TV
  push_cast at hk
  omega
def NT{rd:Int->Option Pg}{c:List Int}:∀{k:Nat} {l:List (Int×Pg)},zj rd c k=some l->(∀i,i<k->c.getD i 0≠0->∃p,rd ((i:Int)+1)=some p/\((i:Int)+1,p)∈l)/\(∀x∈l,rd x.1=some x.2/\1<=x.1/\x.1<=k/\c.getD (x.1-1).toNat 0≠0)/\l.length<=k
 |0,l,h=>by cases h;exact⟨fun i hi=>by omega,by simp,by simp⟩
 |k+1,l,h=>by
  rw[zj]at h;split at h
  ·cases h
  rename_i a ha;obtain⟨Y,J,h3⟩:=NT ha
  by_cases hz:c.getD k 0=0
  ·rw[aB hz]at h;cases h;refine⟨fun i hi hn=>?_,fun x E=>?_,H⟩
   ·rcases oA i k with h4|h4
    ·exact Y i h4 hn
    have:i=k:=H;subst this;exact aS hz hn
   obtain⟨a1,a2,a3,a4⟩:=J x E;exact⟨a1,a2,H,a4⟩
  rw[aj hz]at h;split at h
  ·cases h
  rename_i p hp;cases h;refine⟨fun i hi hn=>?_,fun x E=>?_,by simp;omega⟩
  ·rcases oA i k with h4|h4
   ·obtain⟨q,h5,h6⟩:=Y i h4 hn;exact⟨q,h5,lT _ h6⟩
   have:i=k:=H;subst this;exact⟨p,hp,by simp⟩
  rcases eZ.1 E with E|E
  ·obtain⟨a1,a2,a3,a4⟩:=J x E;exact⟨a1,a2,H,a4⟩
  simp at E;subst E;exact⟨hp,by show(1:Int)<=(k:Int)+1;omega,by show(k:Int)+1<=((k+1:Nat):Int);omega,by show c.getD ((k:Int)+1-1).toNat 0≠0;rw[show((k:Int)+1-1).toNat=k by omega];exact hz⟩
def NU{rd:Int->Option Pg}(hi:i<k)(hc:c.getD i 0≠0)(h:rd ((i:Int)+1)=none):zj rd c k=none:=by
 cases hp:zj rd c k with
 |none=>rfl
 |some l=>obtain⟨p,Y,-⟩:=(NT hp).1 i hi hc;rw[h]at Y;cases Y
structure uM(s:Su)(Bk:Nat->bZ)(c:List Int)(l:List (Int×Pg))(rp:Rp):Prop where
 sup:cp s=0
 load:uu s Bk=some (c,l)
 ok:yj s.cf.refs c l
 whole:ve (kK s.cf.refs c l).rd c (s.roots.map (·.2)) rp 0
section
variable{s:Su}{Bk Bk':Nat->bZ}{l:List (Int×Pg)}
def SC(s:Su)(n:Int):Int:=(bd s.cf).first+n-1
def adB(hs:cp s=0)(hi:(i:Int)<(bd s.cf).nC):2<=jO (bd s.cf) s.gen+i/\jO (bd s.cf) s.gen+i<(bd s.cf).first:=by
 obtain⟨Y,J,h3,h4,h5,h6⟩:=qm (iS hs).1;unfold jO;split<;>omega
end
end
end Go.Proofs.YtjbkgbilbnccnaaGreatDoor.X
