/- Part 2 of what the proof of this claim stands on: rules for walking the code, and what its functions answer; no conditions. -/
import Derived.Test.YtjbkgbilbnccnaaGreatDoorY1
namespace Go.Proofs.YtjbkgbilbnccnaaGreatDoor.X
open _root_.Go.Proofs.Tryz _root_.Go.Proofs.YtjbkgbilbnccnaaGreatDoor.Tryz
set_option linter.defProp false
noncomputable section
set_option linter.unusedVariables false
set_option linter.unusedSimpArgs false
set_option maxRecDepth 20000
set_option maxHeartbeats 8000000
variable{af:Array Edge}{O:Array aP}{dr:Bool}{u v:C}{Q:C->ae->Prop}{fn:Func}{G:Gh}{a lo n refs:Int}{rs:List (Int×Int)}{on:List (Int×dL)}{xs:List C}{c l l':List Int}{r:List Nat}{L L' R:List aF}{S:List dL}{d i j k m o q qb vq z:Nat}{g:Option (Nat×Bool)}{A:Option Addr}{ro:Option Nat}{α β:Type}{T s t:aC}{y:aM}{w:ae}{P:au}{x:cP}{e:cX}{K:cX->ae->Prop}{p:dL}
def eJ(n:Int):Prop:=1<=n/\n<=65536
instance(n:Int):Decidable (eJ n):=by unfold eJ;infer_instance
def gp(kind level next:Int)(n d:Nat):Prop:=
 (kind=1->d=0/\next=0/\level=0/\1<=n/\n<=8)/\(kind=2->d=0/\next=0/\1<=level/\level<12/\2<=n/\n<=8)/\(kind≠1->kind≠2->level=0/\n=0/\1<=d/\d<=480)
instance(kind level next:Int)(n d:Nat):Decidable (gp kind level next n d):=by unfold gp;infer_instance
def fst(a b:Int):Int:=if a=0 then b else a
def m0(a b c:Int):fst (fst a b) c=fst a (fst b c):=by unfold fst;repeat' split<;>simp_all
def RZ(a:Int):fst a 0=a:=by unfold fst;split<;>simp_all
def nE(a:Int):fst 0 a=a:=rfl
def uq(q:Prop)[Decidable q](e:Int):Int:=if q then 0 else e
def lF(kind:Int)(i:Nat)(x:It):Int:=if kind=2/\i=0 then uq (x.key.length=0) 7 else uq (1<=x.key.length/\x.key.length<=24) 7
def w7(kind:Int)(i:Nat)(cW:bZ)(x:It):Int:=if kind=2/\i=0 then 0 else uq (i=0\/0<fy x.key cW) 11
def jq(kind:Int)(x:It):Int:=if kind=2 then uq (x.value.length=0/\x.size=0) 8 else fst (uq (0<=x.size/\x.size<=3840) 8) (if x.size<=32 then uq ((x.value.length:Int)=x.size) 8 else uq (x.value.length=0) 8)
def mD(kind:Int)(x:It):Int:=if kind=2 then uq (eJ x.child) 15 else if x.size<=32 then uq (x.child=0) 15 else uq (eJ x.child) 15
def q8(kind:Int)(i:Nat)(cW:bZ)(x:It):Int:=fst (lF kind i x) (fst (w7 kind i cW x) (fst (jq kind x) (mD kind x)))
def fa(kind:Int):Nat->bZ->List It->Int
 |_,_,[]=>0
 |i,cW,x::r=>fst (q8 kind i cW x) (fa kind (i+1) x.key r)
def dv(p:Pg):Int:=
 fst (fst (uq (1<=p.kind/\p.kind<=3) 22) (uq (gp p.kind p.level p.next p.items.length p.data.length) 5))
  (fst (fa p.kind 0 [] p.items) (uq (p.next=0\/eJ p.next) 15))
def cu(p:Pg):List Int:=
 (p.items.filterMap fun x=>if p.kind=2\/(p.kind=1/\x.child≠0)then some x.child else none)++(if p.kind=3/\p.next≠0 then [p.next]else [])
def kL(cW:bZ)(l:List It):bZ:=(l.getLast?.map It.key).getD cW
def zu(kind:Int)(x:It):∀(l:List It) (i:Nat) (cW:bZ),fa kind i cW (l++[x])=fst (fa kind i cW l) (q8 kind (i+l.length) (kL cW l) x)
 |[],i,cW=>by simp[fa,kL,RZ,nE]
 |y::l,i,cW=>by
  simp only[nI,fa,zu kind x l,m0,kZ];rw[show i+1+l.length=i+(l.length+1) by omega]
  congr 3
  unfold kL;cases l<;>simp[List.getLast?_cons]
def bf(l:List Int):List C:=l.map (I ·)
def bC(l:List Int):(bf l).length=l.length:=by simp[bf]
def pI(Z:aw G L w):aA prog 177 #[I n] w (bU fun r w'=>r= .bool (decide (eJ n))/\aw G L w'):=by
 refine wF [_] func177 ntmps177 ?_;refine z9 ?_;refine ar (d:=5) rfl (fun Y=>?_) fun Y=>?_
 ·refine dk 6 ?_;exact⟨by unfold eJ;congr 1;exact bI.2 H,Z⟩
 refine dk 6 ?_;exact⟨by unfold eJ;congr 1;exact(cN H).symm,Z⟩
def nY(Z:aw G L w):aA prog 146 #[I n] w (bU fun r w'=>r= .bool (decide (eJ n))/\aw G L w'):=by
 refine wF [_] func146 ntmps146 ?_;refine z9 ?_;refine ar (d:=5) rfl (fun Y=>?_) fun Y=>?_
 ·refine dk 6 ?_;exact⟨by unfold eJ;congr 1;exact bI.2 H,Z⟩
 refine dk 6 ?_;exact⟨by unfold eJ;congr 1;exact(cN H).symm,Z⟩
def PY(Z:aw G L w)(hp:p.Ok L):
  aA prog 175 #[gQ p.cells] w (bU fun r w'=>r= .bool (decide (gp p.kind p.level p.next p.l.length p.data.length))/\aw G L w'):=by
 obtain⟨a1,c1,Y,-,-⟩:=(hp.its.sl.at Z).form;obtain⟨a2,c2,J⟩:=(hp.data.at Z).form;rw[cg]at Y;simp only[dL.cells,Y,J];clear Y J;refine wF [_] func175 ntmps175 ?_;refine wB 2 Z fun w b1 Z=>?_;refine z3 ?_;refine wQ [0,1,2,3,4,5,6,7,8,9,10,11,12,13] Z fun Z=>?_
 refine wD 1 aH Z ?_;refine wD 2 ao Z ?_;refine z3 ?_;refine bw (l1:=[8,9,10,11]) (l2:=[12,13]) rfl (d:=16) ((p.data.length:Int)=0/\p.next=0) rfl ?_ ?_
 ·refine ar (d:=12) rfl (fun Y=>?_) fun Y=>?_
  ·refine wD 1 ag Z ?_;exact wq 3
  exact wq 5
 refine wD 7 ag Z ?_;refine wI 7 (fun J=>?_) fun J=>?_
 ·refine z4 ?_;refine ar (d:=22) rfl (fun h3=>?_) fun h3=>?_
  ·refine wD 1 ag Z ?_;refine z3 ?_;refine ar (d:=27) rfl (fun h4=>?_) fun h4=>?_
   ·refine z4 ?_;refine ar (d:=31) rfl (fun h5=>?_) fun h5=>?_
    ·refine dk 6 ?_;exact⟨aU Value.bool (by unfold gp;exact dC),Z.tail⟩
    refine dk 6 ?_;exact⟨aU Value.bool (by unfold gp;exact dC),Z.tail⟩
   refine dk 10 ?_;exact⟨aU Value.bool (by unfold gp;exact dC),Z.tail⟩
  refine dk 15 ?_;exact⟨aU Value.bool (by unfold gp;exact dC),Z.tail⟩
 refine wI 5 (fun h6=>?_) fun h6=>?_
 ·refine z4 ?_;refine ar (d:=38) rfl (fun h7=>?_) fun h7=>?_
  ·refine wD 1 ag Z ?_;refine z3 ?_;refine ar (d:=43) rfl (fun h8=>?_) fun h8=>?_
   ·refine wD 1 ag Z ?_;refine z3 ?_;refine ar (d:=48) rfl (fun h9=>?_) fun h9=>?_
    ·refine z4 ?_;refine ar (d:=52) rfl (fun jR=>?_) fun jR=>?_
     ·refine dk 6 ?_;exact⟨aU Value.bool (by unfold gp;exact dC),Z.tail⟩
     refine dk 6 ?_;exact⟨aU Value.bool (by unfold gp;exact dC),Z.tail⟩
    refine dk 10 ?_;exact⟨aU Value.bool (by unfold gp;exact dC),Z.tail⟩
   refine dk 15 ?_;exact⟨aU Value.bool (by unfold gp;exact dC),Z.tail⟩
  refine dk 20 ?_;exact⟨aU Value.bool (by unfold gp;exact dC),Z.tail⟩
 refine wD 4 ag Z ?_;refine z2 ?_;refine ar (d:=59) rfl (fun qH=>?_) fun qH=>?_
 ·refine z4 ?_;refine ar (d:=63) rfl (fun xX=>?_) fun xX=>?_
  ·refine wD 1 ao Z ?_;refine z4 ?_;refine ar (d:=69) rfl (fun BG=>?_) fun BG=>?_
   ·refine wD 1 ao Z ?_;refine dk 6 ?_;exact⟨aU Value.bool (by unfold gp;exact dC),Z.tail⟩
   refine dk 8 ?_;exact⟨aU Value.bool (by unfold gp;exact dC),Z.tail⟩
  refine dk 14 ?_;exact⟨aU Value.bool (by unfold gp;exact dC),Z.tail⟩
 refine dk 18 ?_;exact⟨aU Value.bool (by unfold gp;exact dC),Z.tail⟩
def MY(Z:aw G L w)(hp:p.Ok L)(hk:1<=p.kind/\p.kind<=3):
  aA prog 189 #[gQ p.cells] w (bU fun r w'=>r= .bool (decide (gp p.kind p.level p.next p.l.length p.data.length))/\aw G L w'):=by
 obtain⟨a1,c1,Y,-,-⟩:=(hp.its.sl.at Z).form;obtain⟨a2,c2,J⟩:=(hp.data.at Z).form;rw[cg]at Y;simp only[dL.cells,Y,J];clear Y J;refine wF [_] func189 ntmps189 ?_;refine wB 2 Z fun w b1 Z=>?_;refine wD 5 aH Z ?_;refine wD 7 ag Z ?_;refine wI 2 (fun Y=>?_) fun Y=>?_
 ·refine wD 3 ag Z ?_;refine z2 ?_;refine ar (d:=13) rfl (fun J=>?_) fun J=>?_
  ·refine z4 ?_;refine ar (d:=17) rfl (fun h3=>?_) fun h3=>?_
   ·refine wD 1 ao Z ?_;refine z4 ?_;refine ar (d:=23) rfl (fun h4=>?_) fun h4=>?_
    ·refine wD 1 ao Z ?_;refine dk 6 ?_;exact⟨aU Value.bool (by unfold gp;exact dC),Z.tail⟩
    refine dk 8 ?_;exact⟨aU Value.bool (by unfold gp;exact dC),Z.tail⟩
   refine dk 14 ?_;exact⟨aU Value.bool (by unfold gp;exact dC),Z.tail⟩
  refine dk 18 ?_;exact⟨aU Value.bool (by unfold gp;exact dC),Z.tail⟩
 refine wD 5 ao Z ?_;refine z3 ?_;refine bw (l1:=[5,6,7,8]) (l2:=[9,10,11,12]) rfl (d:=37) (¬(p.data.length:Int)=0\/p.next≠0) rfl ?_ ?_
 ·refine ar (d:=33) rfl (fun h5=>?_) fun h5=>?_
  ·exact wq 5
  refine wD 1 ag Z ?_;exact wq 3
 refine z1 ?_;refine bw (l1:=[10,11,12]) (l2:=[]) rfl (d:=41) (¬(p.data.length:Int)=0\/p.next≠0\/8<p.l.length) rfl ?_ ?_
 ·refine ar (d:=38) rfl (fun h6=>?_) fun h6=>?_
  ·exact wq 4
  exact wq 4
 refine aK ?_;refine wI 0 (fun h7=>?_) fun h7=>?_
 ·refine dk 5 ?_;exact⟨aU Value.bool (by unfold gp;exact dC),Z.tail⟩
 refine wD 5 ag Z ?_;refine wI 2 (fun h8=>?_) fun h8=>?_
 ·refine wD 3 ag Z ?_;refine z2 ?_;refine ar (d:=48) rfl (fun h9=>?_) fun h9=>?_
  ·refine dk 6 ?_;exact⟨aU Value.bool (by unfold gp;exact dC),Z.tail⟩
  refine dk 6 ?_;exact⟨aU Value.bool (by unfold gp;exact dC),Z.tail⟩
 refine wD 4 ag Z ?_;refine z2 ?_;refine ar (d:=55) rfl (fun jR=>?_) fun jR=>?_
 ·refine wD 1 ag Z ?_;refine z3 ?_;refine ar (d:=60) rfl (fun qH=>?_) fun qH=>?_
  ·refine dk 6 ?_;exact⟨aU Value.bool (by unfold gp;exact dC),Z.tail⟩
  refine dk 6 ?_;exact⟨aU Value.bool (by unfold gp;exact dC),Z.tail⟩
 refine dk 11 ?_;exact⟨aU Value.bool (by unfold gp;exact dC),Z.tail⟩
def dU{q:Prop}[Decidable q]{er fe:Int}{b:Nat}(Z:aw G (N b [I fe] 41::L) w):
  aA prog 174 #[.bool (decide q),I er,pQ b] w (bU fun r w'=>r= .tuple #[]/\aw G (N b [I (fst fe (uq q er))] 41::L) w'):=by
 refine wF [_,_,_] func174 ntmps174 ?_;refine z3 ?_;refine cU rfl rfl ?_;refine z1 ?_;refine bw (l1:=[3,4,5]) (l2:=[]) rfl (d:=10) (¬q/\fe=0) rfl ?_ ?_
 ·refine ar (d:=7) rfl (fun Y=>?_) fun Y=>?_
  ·refine wD 0 bP Z ?_;refine z3 ?_;refine cQ ?_
   first|(exact(cN (fun h=>J h.2)).symm)|(exact bI.2 ⟨fun h=>⟨Y,h⟩,fun h=>h.2⟩)|(exact(cN (fun h=>Y h.1)).symm)
  refine z4 ?_;refine cQ ?_
  first|(exact(cN (fun h=>J h.2)).symm)|(exact bI.2 ⟨fun h=>⟨Y,h⟩,fun h=>h.2⟩)|(exact(cN (fun h=>Y h.1)).symm)
 refine aK ?_;refine wI 0 (fun J=>?_) fun J=>?_
 ·refine z2 ?_;refine rU rfl tV rfl rfl bP rfl Z pK rfl rfl rfl fun w Z=>?_;refine aK ?_;exact u6 rfl rfl ⟨rfl,by unfold fst uq;rw[aB J.2,aj J.1];exact Z⟩
 refine jo ?_;exact u6 rfl rfl ⟨rfl,by
 have e1:fst fe (uq q er)=fe:=by
  unfold fst uq
  by_cases hf:fe=0
  ·rw[aB hf,aB (dg.1 fun hq=>J ⟨hq,hf⟩),hf]
  ·rw[aj hf]
 rw[e1];exact Z⟩
def D'(cW:bZ)(l:List It)(x:It):kL cW (l++[x])=x.key:=by simp[kL]
def sN{q q':Prop}[Decidable q][Decidable q']{e:Int}(h:q↔q'):uq q e=uq q' e:=by unfold uq;exact ite_congr (propext h) (fun _=>rfl) (fun _=>rfl)
def Bf{l:bZ}{e:Int}:uq ((l.length:Int)=0) e=uq (l.length=0) e:=sN H
def vH{l:bZ}{e:Int}:uq ((l.length:Int)=0/\n=0) e=uq (l.length=0/\n=0) e:=sN H
def vY(p:dL):dv p.pg=fst (fst (uq (1<=p.kind/\p.kind<=3) 22) (uq (gp p.kind p.level p.next p.l.length p.data.length) 5)) (fst (fa p.kind 0 [] (p.l.map cP.it)) (uq (p.next=0\/eJ p.next) 15)):=by
 unfold dv;refine congr (aU fst (aU (fst _) (sN ?_))) rfl;simp only[dL.pg,cg]
def xn(a b:Int)(h:a≠0):fst a b=a:=by simp[fst,h]
def u7(Z:aw G L w)(hp:p.Ok L):
  aA prog 96 #[gQ p.cells] w (bU fun r w'=>r=I (dv p.pg)/\aw G L w'):=by
 obtain⟨a1,c1,Y,-,-⟩:=(hp.its.sl.at Z).form;obtain⟨a2,c2,J⟩:=(hp.data.at Z).form;have YI:=hp.its.len;have pW:=hp.its;have jr:=hp.its.sl;rw[cg]at Y;rw[Y]at jr
 have gC:p.cells=[I p.kind,I p.level, .slice a1 p.l.length c1, .slice a2 p.data.length c2,I p.next]:=by simp only[dL.cells,Y,J]
 have aj9:#[I p.kind,I p.level, .slice a1 p.l.length c1, .slice a2 p.data.length c2,I p.next]=p.cells.toArray:=by rw[gC]
 rw[gC];refine wF [_] func96 ntmps96 ?_;refine wB 2 Z fun w b1 Z=>?_;refine wL 4 yV Z fun w b3 Z=>?_;refine wS 0 (l':=[I 0]) bP Z fun w Z=>?_;refine z3 ?_;refine o7 (v1:=#[]) (v2:=#[pQ b3]) rfl (by intro z hz;simp at hz;subst hz;exact⟨_,rfl⟩) sM (by simp only[su,ey,l9];rfl) ?_;refine wD 6 ag Z ?_;refine z2 ?_;refine bw (l1:=[5,6,7,8]) (l2:=[9]) rfl (d:=18) (1<=p.kind/\p.kind<=3) rfl ?_ ?_
 ·refine ar (d:=14) rfl (fun Y=>?_) fun Y=>?_
  ·refine wD 1 ag Z ?_;exact wq 3
  exact wq 5
 refine iN rfl rfl dO rfl rfl (dU (q:=1<=p.kind/\p.kind<=3) (er:=22) (fe:=0) (Z.pick (A:=N b3 _ _) pK)) rfl fun w Zg hv=>?_;obtain⟨-,Z⟩:=hv;rw[nE]at Z;refine z4 ?_;refine bg rfl rfl (aD.dB ay Z pK sM) ?_;refine wC rfl Nn rfl (by have h:=PY (p:=p) Z (hp.of sF);rw[gC]at h;exact h) fun w Z=>?_
 refine iN rfl rfl dO rfl rfl (dU (q:=gp p.kind p.level p.next p.l.length p.data.length) (er:=5) (Z.pick (A:=N b3 _ _) pK)) rfl fun w v23 hv=>?_;obtain⟨-,Z⟩:=hv;refine wD 4 bP Z ?_;refine wI 2 (fun J=>?_) fun J=>?_
 ·refine wD 2 bP Z ?_;refine dk 3 ?_;exact⟨by rw[vY,xn _ (fst (fa _ _ _ _) _) J],Z.tail.tail⟩
 refine wD 9 aH Z ?_;refine z4 ?_;have hF:=dg.1 J;rw[hF]at Z;refine bx (fun m e w=>∃(k:Nat) (av:C),k<=p.l.length/\m=p.l.length-k/\e=[(1,pQ b1),(3,pQ b3),(4, .func (.func 174) #[] #[pQ b3]),(5,av),(28, .slice a1 p.l.length c1),(29,I p.l.length),(30,I k)]/\aL L (eB av (kL [] ((p.l.map cP.it).take k)))/\aw G (N b3 [I (fa p.kind 0 [] ((p.l.map cP.it).take k))] 41::N b1 [I p.kind,I p.level, .slice a1 p.l.length c1, .slice a2 p.data.length c2,I p.next] 104::L) w)
  (m:=p.l.length) sB
  ⟨0,_,de _,rfl,rfl,fun _ _ _=> .inl ⟨⟨none,rfl⟩,rfl⟩,Z⟩ ?_
 rintro m e w ⟨k,av,hk,rfl,rfl,hav,Z⟩;refine wI 5 (fun h3=>?_) fun h3=>?_
 ·have gn:k<p.l.length:=H;obtain⟨x,E⟩:∃x,p.l[k]?=some x:=⟨_,dG gn⟩;have lG:=pW.it x (fK E);have xj:=lG.k;have kA:(p.l.map cP.cells)[k]?=some x.cells:=by rw[dh,E];rfl
  obtain⟨ak,ck,XW⟩:=(lG.k.at Z.tail.tail).form;obtain⟨av2,cv2,hvv⟩:=(lG.v.at Z.tail.tail).form;have Qh:x.cells=[.slice ak x.it.key.length ck, .slice av2 x.it.value.length cv2,I x.it.child,I x.it.size]:=by simp only[cP.cells,XW,hvv]
  rw[XW]at xj;obtain⟨aav,cav,hfv⟩:=(hav.at Z.tail.tail).form;obtain⟨ab,Hb⟩:∃ab,ab=kL [] ((p.l.map cP.it).take k):=⟨_,rfl⟩;obtain⟨hx,hE⟩:∃hx,hx=fa p.kind 0 [] ((p.l.map cP.it).take k):=⟨_,rfl⟩;have X7:fa p.kind 0 [] ((p.l.map cP.it).take (k+1))=fst hx (q8 p.kind k ab x.it):=by
   rw[rE,dh,E,hE,Hb];simp only[Js,TF];rw[zu,gJ,cg,mT,Jq H]
  have hL1:kL [] ((p.l.map cP.it).take (k+1))=x.it.key:=by
   rw[rE,dh,E];exact D' _ _ _
  rw[<-Hb]at hav hfv;rw[<-hE]at Z
  obtain⟨bb,oo,rfl⟩:=((jr.of sF).at Z).nn (by rw[cg];omega);refine wX 6 aV bz ?_;refine bg rfl rfl (aD.many bA rfl (by rw[cZ];exact((jr.of sF).at Z).at kA)) ?_;refine wL 0 jc Z fun w b7 Z=>?_;refine z1 ?_;refine ue (cs:=x.cells) (l':=x.cells) rfl tV rfl rfl bA rfl (w9 (lG.of sF) Z) Z pK sM rfl rfl fun w Z=>?_;rw[Qh]at Z;refine wD 4 ao Z ?_;refine z3 ?_;refine qg (fun e w=>e=[(1,pQ b1),(3,pQ b3),(4, .func (.func 174) #[] #[pQ b3]),(5,av),(7,pQ b7),(28, .slice (some ⟨bb,oo,none⟩) p.l.length c1),(29,I p.l.length),(30,I k)]/\aw G (N b3 [I (fst hx (fst (lF p.kind k x.it) (w7 p.kind k ab x.it)))] 41::N b7 [.slice ak x.it.key.length ck, .slice av2 x.it.value.length cv2,I x.it.child,I x.it.size] 198::N b1 [I p.kind,I p.level, .slice (some ⟨bb,oo,none⟩) p.l.length c1, .slice a2 p.data.length c2,I p.next] 104::L) w) ?_ ?_
  ·refine wD 3 ag Z ?_;refine z2 ?_;refine bw (l1:=[4,5,6]) (l2:=[]) rfl (d:=44) (p.kind=2/\k=0) rfl ?_ ?_
   ·refine ar (d:=41) rfl (fun h4=>?_) fun h4=>?_
    ·exact wq 4
    exact wq 4
   refine aK ?_;refine wI 0 (fun h5=>?_) fun h5=>?_
   ·refine z4 ?_;refine iN rfl rfl dO rfl rfl (dU (q:=(x.it.key.length:Int)=0) (er:=7) (Z.pick (A:=N b3 _ _) pK)) rfl fun w v48 hv=>?_;obtain⟨-,Z⟩:=hv;refine aK ?_;have e1:fst (lF p.kind k x.it) (w7 p.kind k ab x.it)=uq ((x.it.key.length:Int)=0) 7:=by
     unfold lF w7;rw[aB h5,aB h5,RZ];exact sN H
    rw[e1];exact⟨[(1,_),(3,_),(4,_),(5,_),(7,_),(28,_),(29,_),(30,_)],sB,rfl,Z.b [N b3 _ _,N b7 _ _,N b1 _ _]⟩
   refine z6 ?_;refine bw (l1:=[4,5,6]) (l2:=[7]) rfl (d:=55) (1<=(x.it.key.length:Int)/\(x.it.key.length:Int)<=24) rfl ?_ ?_
   ·refine ar (d:=52) rfl (fun h6=>?_) fun h6=>?_
    ·exact wq 4
    exact wq 4
   refine iN rfl rfl dO rfl rfl (dU (q:=1<=(x.it.key.length:Int)/\(x.it.key.length:Int)<=24) (er:=7) (Z.pick (A:=N b3 _ _) pK)) rfl fun w v56 hv=>?_;obtain⟨-,Z⟩:=hv;refine z6 ?_;refine sn (l1:=[4,5,6,7,8,9]) (l2:=[10]) rfl (d:=66) (k=0\/0<fy x.it.key ab) (fun w=>aw G (N b3 [I (fst hx (uq (1<=(x.it.key.length:Int)/\(x.it.key.length:Int)<=24) 7))] 41::N b7 [.slice ak x.it.key.length ck, .slice av2 x.it.value.length cv2,I x.it.child,I x.it.size] 198::N b1 [I p.kind,I p.level, .slice (some ⟨bb,oo,none⟩) p.l.length c1, .slice a2 p.data.length c2,I p.next] 104::L) w) rfl ?_ ?_
   ·refine ar (d:=60) rfl (fun h7=>?_) fun h7=>?_
    ·refine z7 ?_;refine⟨Z,aU some (aU Value.bool ?_)⟩;exact dC
    refine wD 1 ao Z ?_;refine z1 ?_;refine wC rfl jD rfl (j0 Z (xj.of sF) (hav.of sF)) fun w Z=>?_
    refine z3 ?_;refine⟨Z,aU some (aU Value.bool ?_)⟩;exact dC
   clear Z;intro w Z;refine iN rfl rfl dO rfl rfl (dU (q:=k=0\/0<fy x.it.key ab) (er:=11) (Z.pick (A:=N b3 _ _) pK)) rfl fun w v67 hv=>?_;obtain⟨-,Z⟩:=hv;refine aK ?_;have e1:fst (lF p.kind k x.it) (w7 p.kind k ab x.it)=fst (uq (1<=(x.it.key.length:Int)/\(x.it.key.length:Int)<=24) 7) (uq (k=0\/0<fy x.it.key ab) 11):=by
    unfold lF w7;rw[aj h5,aj h5];exact congr (aU fst (sN H)) (sN H)
   rw[e1,<-m0];exact⟨[(1,_),(3,_),(4,_),(5,_),(7,_),(28,_),(29,_),(30,_)],sB,rfl,Z.b [N b3 _ _,N b7 _ _,N b1 _ _]⟩
  clear Z;rintro e w ⟨rfl,Z⟩;refine wD 3 ao Z ?_;refine wD 6 ag Z ?_;refine wI 2 (fun h8=>?_) fun h8=>?_
  ·refine wD 4 ao Z ?_;refine z3 ?_;refine bw (l1:=[6,7,8,9]) (l2:=[10]) rfl (d:=82) ((x.it.value.length:Int)=0/\x.it.size=0) rfl ?_ ?_
   ·refine ar (d:=78) rfl (fun h9=>?_) fun h9=>?_
    ·refine wD 1 ag Z ?_;exact wq 3
    exact wq 5
   refine iN rfl rfl dO rfl rfl (dU (q:=(x.it.value.length:Int)=0/\x.it.size=0) (er:=8) (Z.pick (A:=N b3 _ _) pK)) rfl fun w Vc hv=>?_;obtain⟨-,Z⟩:=hv;refine wD 5 ag Z ?_;refine wC rfl oe rfl (pI Z) fun w Z=>?_
   refine iN rfl rfl dO rfl rfl (dU (q:=eJ x.it.child) (er:=15) (Z.pick (A:=N b3 _ _) pK)) rfl fun w v88 hv=>?_;obtain⟨-,Z⟩:=hv;refine z6 ?_;refine⟨p.l.length-(k+1),H,[(1,_),(3,_),(4,_),(5,_),(28,_),(29,_),(30,I (k+1:Nat))],sB,k+1,_,H,rfl,rfl,by rw[hL1];exact xj,?_⟩;rw[X7];simp only[m0,Bf,vH]at Z;unfold q8 jq mD;rw[aB h8,aB h8]
   try simp only[m0,Bf,vH]
   exact(Z.b [N b7 _ _,N b3 _ _,N b1 _ _]).tail
  refine wD 5 ag Z ?_;refine z2 ?_;refine bw (l1:=[5,6,7,8]) (l2:=[9]) rfl (d:=97) (0<=x.it.size/\x.it.size<=3840) rfl ?_ ?_
  ·refine ar (d:=93) rfl (fun jR=>?_) fun jR=>?_
   ·refine wD 1 ag Z ?_;exact wq 3
   exact wq 5
  refine iN rfl rfl dO rfl rfl (dU (q:=0<=x.it.size/\x.it.size<=3840) (er:=8) (Z.pick (A:=N b3 _ _) pK)) rfl fun w v98 hv=>?_;obtain⟨-,Z⟩:=hv;refine wD 4 ag Z ?_;refine wI 2 (fun qH=>?_) fun qH=>?_
  ·refine wD 4 ao Z ?_;refine wD 2 ag Z ?_;refine z1 ?_;refine iN rfl rfl dO rfl rfl (dU (q:=(x.it.value.length:Int)=x.it.size) (er:=8) (Z.pick (A:=N b3 _ _) pK)) rfl fun w ajN hv=>?_;obtain⟨-,Z⟩:=hv;refine wD 4 ag Z ?_;refine z1 ?_;refine iN rfl rfl dO rfl rfl (dU (q:=x.it.child=0) (er:=15) (Z.pick (A:=N b3 _ _) pK)) rfl fun w ahS hv=>?_;obtain⟨-,Z⟩:=hv;refine z5 ?_;refine⟨p.l.length-(k+1),H,[(1,_),(3,_),(4,_),(5,_),(28,_),(29,_),(30,I (k+1:Nat))],sB,k+1,_,H,rfl,rfl,by rw[hL1];exact xj,?_⟩;rw[X7];simp only[m0,Bf,vH]at Z;unfold q8 jq mD;rw[aj h8,aB qH,aj h8,aB qH]
   try simp only[m0,Bf,vH]
   exact(Z.b [N b7 _ _,N b3 _ _,N b1 _ _]).tail
  refine wD 4 ao Z ?_;refine z2 ?_;refine iN rfl rfl dO rfl rfl (dU (q:=(x.it.value.length:Int)=0) (er:=8) (Z.pick (A:=N b3 _ _) pK)) rfl fun w ahR hv=>?_;obtain⟨-,Z⟩:=hv;refine wD 4 ag Z ?_;refine wC rfl oe rfl (pI Z) fun w Z=>?_
  refine iN rfl rfl dO rfl rfl (dU (q:=eJ x.it.child) (er:=15) (Z.pick (A:=N b3 _ _) pK)) rfl fun w ajL hv=>?_;obtain⟨-,Z⟩:=hv;refine z5 ?_;refine⟨p.l.length-(k+1),H,[(1,_),(3,_),(4,_),(5,_),(28,_),(29,_),(30,I (k+1:Nat))],sB,k+1,_,H,rfl,rfl,by rw[hL1];exact xj,?_⟩;rw[X7];simp only[m0,Bf,vH]at Z;unfold q8 jq mD;rw[aj h8,aj qH,aj h8,aj qH]
  try simp only[m0,Bf,vH]
  exact(Z.b [N b7 _ _,N b3 _ _,N b1 _ _]).tail
 refine wD 5 ag Z ?_;refine z2 ?_;refine sn (l1:=[5,6,7,8]) (l2:=[9]) rfl (d:=135) (p.next=0\/eJ p.next) (fun w=>aw G (N b3 [I (fa p.kind 0 [] ((p.l.map cP.it).take k))] 41::N b1 [I p.kind,I p.level, .slice a1 p.l.length c1, .slice a2 p.data.length c2,I p.next] 104::L) w) rfl ?_ ?_
 ·refine ar (d:=131) rfl (fun xX=>?_) fun xX=>?_
  ·refine z5 ?_;refine⟨Z,aU some (aU Value.bool ?_)⟩
   first|exact(eW (Or.inl xX)).symm|exact bI.2 ⟨.inr,fun h=>h.resolve_left xX⟩
  refine wD 1 ag Z ?_;refine wC rfl oe rfl (pI Z) fun w Z=>?_
  refine z2 ?_;refine⟨Z,aU some (aU Value.bool ?_)⟩
  first|exact(eW (Or.inl xX)).symm|exact bI.2 ⟨.inr,fun h=>h.resolve_left xX⟩
 clear Z;intro w Z;refine iN rfl rfl dO rfl rfl (dU (q:=p.next=0\/eJ p.next) (er:=15) (Z.pick (A:=N b3 _ _) pK)) rfl fun w ajJ hv=>?_;obtain⟨-,Z⟩:=hv;refine wD 3 bP Z ?_;refine z3 ?_;exact dt rfl rfl rfl ⟨by
 rw[vY,hF,nE,show(p.l.map cP.it).take k=p.l.map cP.it from kH (by rw[cg];omega)],Z.tail.tail⟩
def cG{q:Prop}[Decidable q]{e:Int}(h:e≠0):uq q e=0↔q:=by unfold uq;by_cases hq:q<;>simp[hq,h]
def xe{q:Prop}[Decidable q]{e:Int}(h:q):uq q e=0:=aB h
def JN{q:Prop}[Decidable q]{e:Int}(h:¬q):uq q e=e:=aj h
def bH{b:Int}:fst a b=0↔a=0/\b=0:=by unfold fst;by_cases h:a=0<;>simp[h]
def dL.Ok.form(h:p.Ok L)(Z:aw G L w):∃a1 c1 a2 c2,p.s= .slice a1 p.l.length c1/\p.d= .slice a2 p.data.length c2/\p.cells=[I p.kind,I p.level, .slice a1 p.l.length c1, .slice a2 p.data.length c2,I p.next]:=by
 obtain⟨a1,c1,Y,-,-⟩:=(h.its.sl.at Z).form;obtain⟨a2,c2,J⟩:=(h.data.at Z).form;rw[cg]at Y;exact⟨a1,c1,a2,c2,Y,J,by simp only[dL.cells,Y,J]⟩
def cP.Ok.form(h:x.Ok L)(Z:aw G L w):∃a1 c1 a2 c2,x.kv= .slice a1 x.it.key.length c1/\x.vv= .slice a2 x.it.value.length c2/\x.cells=[.slice a1 x.it.key.length c1, .slice a2 x.it.value.length c2,I x.it.child,I x.it.size]:=by
 obtain⟨a1,c1,Y⟩:=(h.k.at Z).form;obtain⟨a2,c2,J⟩:=(h.v.at Z).form;exact⟨a1,c1,a2,c2,Y,J,by simp only[cP.cells,Y,J]⟩
def q7(kind:Int)(l:List It):List Int:=l.filterMap fun x=>if kind=2\/(kind=1/\x.child≠0)then some x.child else none
def JZ(kind:Int)(l:List It)(x:It):q7 kind (l++[x])=q7 kind l++(if kind=2\/(kind=1/\x.child≠0)then [x.child]else []):=by
 unfold q7;rw[List.filterMap_append]
 by_cases h:kind=2\/(kind=1/\x.child≠0)<;>simp[h]
def Bi(kind:Int)(l:List It):(q7 kind l).length<=l.length:=List.length_filterMap_le _ _
def Eb(p:dL):cu p.pg=q7 p.kind (p.l.map cP.it)++(if p.kind=3/\p.next≠0 then [p.next]else []):=rfl
def AW(E:p.l[k]?=some x):(p.l.map cP.it).take (k+1)=(p.l.map cP.it).take k++[x.it]:=by
 rw[rE,dh,E];rfl
def I8(h:p.l.length<=k):(p.l.map cP.it).take k=p.l.map cP.it:=kH (by rw[cg];omega)
def ln(l:List Int)(n:Int):bf (l++[n])=bf l++[I n]:=by simp[bf]
def PS(Z:aw G L w)(hp:p.Ok L)(E:p.l[k]?=some x):
  aA prog 190 #[gQ p.cells,I k] w (bU fun r w'=>r= .bool (decide (lF p.kind k x.it=0))/\aw G L w'):=by
 have gn:k<p.l.length:=(qj.1 E).1;have YI:=hp.its.len;have jr:=hp.its.sl;obtain⟨a1,c1,a2,c2,Y,J,gC⟩:=hp.form Z;have lG:=hp.its.it x (fK E);obtain⟨a3,c3,a4,c4,h3,h4,Qh⟩:=lG.form Z;have kA:(p.l.map cP.cells)[k]?=some x.cells:=by rw[dh,E];rfl
 rw[Qh]at kA;rw[Y]at jr
 rw[gC];obtain⟨b,o,rfl⟩:=(jr.at Z).nn (by rw[cg];omega);clear Y J h3 h4;refine wF [_,_] func190 ntmps190 ?_;refine wB 2 Z fun w b2 Z=>?_;refine wD 5 aH Z ?_;refine wX 1 aV bz ?_;refine cC rfl gu rfl ?_;refine bg rfl rfl (aD.one ao (((jr.of sF).at Z).cell kA rfl)) ?_;refine wD 7 ag Z ?_;refine z2 ?_;refine bw (l1:=[4,5,6]) (l2:=[]) rfl (d:=19) (p.kind=2/\k=0) rfl ?_ ?_
 ·refine ar (d:=16) rfl (fun Y=>?_) fun Y=>?_
  ·exact wq 4
  exact wq 4
 refine aK ?_;refine wI 0 (fun J=>?_) fun J=>?_
 ·refine dk 7 ?_;exact⟨aU Value.bool (bI.2 (by unfold lF;rw[aB J,cG dM];omega)),Z.tail⟩
 refine z6 ?_;refine bw (l1:=[3,4,5]) (l2:=[6]) rfl (d:=27) (1<=(x.it.key.length:Int)/\(x.it.key.length:Int)<=24) rfl ?_ ?_
 ·refine ar (d:=24) rfl (fun h3=>?_) fun h3=>?_
  ·exact wq 4
  exact wq 4
 refine dk 3 ?_;exact⟨aU Value.bool (bI.2 (by unfold lF;rw[aj J,cG dM];omega)),Z.tail⟩
def K1(Z:aw G L w)(hp:p.Ok L)(lG:x.Ok L):
  aA prog 192 #[gQ p.cells,gQ x.cells] w (bU fun r w'=>r= .bool (decide (jq p.kind x.it=0))/\aw G L w'):=by
 obtain⟨a1,c1,a2,c2,Y,J,gC⟩:=hp.form Z;obtain⟨a3,c3,a4,c4,h3,h4,Qh⟩:=lG.form Z;rw[gC,Qh];clear Y J h3 h4;refine wF [_,_] func192 ntmps192 ?_;refine wB 2 Z fun w b2 Z=>?_;refine wB 0 Z fun w b3 Z=>?_;refine wD 6 ag Z ?_;refine wI 2 (fun Y=>?_) fun Y=>?_
 ·refine wD 3 ao Z ?_;refine z3 ?_;refine bw (l1:=[5,6,7,8]) (l2:=[9]) rfl (d:=16) (x.it.value.length=0/\x.it.size=0) rfl ?_ ?_
  ·refine ar (d:=12) rfl (fun J=>?_) fun J=>?_
   ·refine wD 1 ag Z ?_;exact wq 3
   exact wq 5
  refine dk 3 ?_;exact⟨aU Value.bool (by first|exact bI.2 (by unfold jq;repeat' split;all_goals(try rw[bH]);all_goals(repeat rw[cG dM]);all_goals omega)|exact(cN (by unfold jq;repeat' split;all_goals(try rw[bH]);all_goals(repeat rw[cG dM]);all_goals omega)).symm),Z.tail.tail⟩
 refine wD 5 ag Z ?_;refine z2 ?_;refine bw (l1:=[4,5,6,7]) (l2:=[]) rfl (d:=24) (x.it.size<0\/3840<x.it.size) rfl ?_ ?_
 ·refine ar (d:=20) rfl (fun h3=>?_) fun h3=>?_
  ·exact wq 5
  refine wD 1 ag Z ?_;exact wq 3
 refine aK ?_;refine wI 0 (fun h4=>?_) fun h4=>?_
 ·refine dk 5 ?_;exact⟨aU Value.bool (by first|exact bI.2 (by unfold jq;repeat' split;all_goals(try rw[bH]);all_goals(repeat rw[cG dM]);all_goals omega)|exact(cN (by unfold jq;repeat' split;all_goals(try rw[bH]);all_goals(repeat rw[cG dM]);all_goals omega)).symm),Z.tail.tail⟩
 refine wD 5 ag Z ?_;refine wI 2 (fun h5=>?_) fun h5=>?_
 ·refine wD 3 ao Z ?_;refine wD 2 ag Z ?_;refine dk 4 ?_;exact⟨aU Value.bool (by first|exact bI.2 (by unfold jq;repeat' split;all_goals(try rw[bH]);all_goals(repeat rw[cG dM]);all_goals omega)|exact(cN (by unfold jq;repeat' split;all_goals(try rw[bH]);all_goals(repeat rw[cG dM]);all_goals omega)).symm),Z.tail.tail⟩
 refine wD 4 ao Z ?_;refine dk 5 ?_;exact⟨aU Value.bool (by first|exact bI.2 (by unfold jq;repeat' split;all_goals(try rw[bH]);all_goals(repeat rw[cG dM]);all_goals omega)|exact(cN (by unfold jq;repeat' split;all_goals(try rw[bH]);all_goals(repeat rw[cG dM]);all_goals omega)).symm),Z.tail.tail⟩
def K3(Z:aw G L w)(hp:p.Ok L)(lG:x.Ok L)(hk:p.kind=1\/p.kind=2):
  aA prog 193 #[gQ p.cells,gQ x.cells] w (bU fun r w'=>r= .bool (decide (mD p.kind x.it=0))/\aw G L w'):=by
 obtain⟨a1,c1,a2,c2,Y,J,gC⟩:=hp.form Z;obtain⟨a3,c3,a4,c4,h3,h4,Qh⟩:=lG.form Z;rw[gC,Qh];clear Y J h3 h4;refine wF [_,_] func193 ntmps193 ?_;refine wB 2 Z fun w b2 Z=>?_;refine wB 0 Z fun w b3 Z=>?_;refine wD 6 ag Z ?_;refine z2 ?_;refine bw (l1:=[4,5,6,7]) (l2:=[]) rfl (d:=12) (p.kind=1/\x.it.size<=32) rfl ?_ ?_
 ·refine ar (d:=8) rfl (fun Y=>?_) fun Y=>?_
  ·refine wD 1 ag Z ?_;exact wq 3
  exact wq 5
 refine aK ?_;refine wI 0 (fun J=>?_) fun J=>?_
 ·refine wD 3 ag Z ?_;refine z4 ?_;exact dt rfl rfl rfl ⟨aU Value.bool (bI.2 (by
 have e1:mD p.kind x.it=uq (x.it.child=0) 15:=by unfold mD;rw[aj H,aB J.2]
 rw[e1,cG dM])),Z.tail.tail⟩
 refine wD 4 ag Z ?_;refine wC rfl m9 rfl (nY Z) fun w Z=>?_
 refine z3 ?_;exact dt rfl rfl rfl ⟨aU Value.bool (bI.2 (by
 have e1:mD p.kind x.it=uq (eJ x.it.child) 15:=by
  unfold mD
  by_cases h9:p.kind=2
  ·rw[aB h9]
  ·rw[aj h9,aj H]
 rw[e1,cG dM])),Z.tail.tail⟩
def EC(Z:aw G L w)(hp:p.Ok L):
  aA prog 137 #[gQ p.cells] w (bU fun r w'=>aw G (row 3 1 r (cu p.pg).length (bf (cu p.pg))::L) w'):=by
 have YI:=hp.its.len;have pW:=hp.its;have jr:=hp.its.sl;obtain⟨a1,c1,a2,c2,Y,J,gC⟩:=hp.form Z;rw[Y]at jr;rw[gC];clear Y J;refine wF [_] func137 ntmps137 ?_;refine wB 2 Z fun w b1 Z=>?_;refine wD 10 aH Z ?_;refine z4 ?_;have Z:=bB Z 3 1;refine bx (fun m e w=>∃(k:Nat) (u:C),k<=p.l.length/\m=p.l.length-k/\e=[(1,pQ b1),(3,u),(7, .slice a1 p.l.length c1),(8,I p.l.length),(9,I k)]/\aw G (row 3 1 u (q7 p.kind ((p.l.map cP.it).take k)).length (bf (q7 p.kind ((p.l.map cP.it).take k)))::N b1 [I p.kind,I p.level, .slice a1 p.l.length c1, .slice a2 p.data.length c2,I p.next] 104::L) w)
  (m:=p.l.length) sB
  ⟨0,_,de _,rfl,rfl,Z⟩ ?_
 rintro m e w ⟨k,u,hk,rfl,rfl,Z⟩;refine wI 5 (fun Y=>?_) fun Y=>?_
 ·have gn:k<p.l.length:=H;obtain⟨x,E⟩:∃x,p.l[k]?=some x:=⟨_,dG gn⟩;have lG:=pW.it x (fK E);have kA:(p.l.map cP.cells)[k]?=some x.cells:=by rw[dh,E];rfl
  obtain⟨b,o,rfl⟩:=((jr.of sF).at Z).nn (by rw[cg];omega);have yp:(q7 p.kind ((p.l.map cP.it).take k)).length<=k:=Ht (Bi _ _) (by rw[gJ];omega);have X7:=JZ p.kind ((p.l.map cP.it).take k) x.it;rw[<-AW E]at X7;refine wX 5 aV bz ?_;refine bg rfl rfl (aD.many bA rfl (by rw[cZ];exact((jr.of sF).at Z).at kA)) ?_;refine wL 0 jc Z fun w b5 Z=>?_;refine ue (cs:=x.cells) (l':=x.cells) rfl tV rfl rfl bA rfl (w9 (lG.of sF) Z) Z pK sM rfl rfl fun w Z=>?_;refine wD 4 ag Z ?_;refine z2 ?_;refine bw (l1:=[4,5,6,7,8,9,10,11,12]) (l2:=[]) rfl (d:=25) (p.kind=2\/(p.kind=1/\x.it.child≠0)) rfl ?_ ?_
  ·refine ar (d:=16) rfl (fun J=>?_) fun J=>?_
   ·exact wq 10
   refine wD 1 ag Z ?_;refine z2 ?_;refine ar (d:=20) rfl (fun h3=>?_) fun h3=>?_
   ·refine wD 1 ag Z ?_;refine z1 ?_;refine iM rfl rfl rfl rfl ?_;exact wq 2
   refine z3 ?_;refine iw rfl rfl rfl rfl ?_;exact wq 2
  refine aK ?_;refine wI 0 (fun h4=>?_) fun h4=>?_
  ·refine wD 3 ag Z ?_;refine fb (cs:=[I x.it.child]) rfl aY bF fh dM rfl rfl rfl Z rfl fun w b29 Z=>?_;refine eF (m:=(q7 p.kind ((p.l.map cP.it).take k)).length) (k:=1) (news:=[I x.it.child]) rfl aY bF j7 fh rfl rfl Z pK (Rd.iq Z pK) rfl (by intro z hz;simp at hz;subst hz;rfl) mL H rfl (fun w v30 Z=>?_);refine z6 ?_;refine⟨p.l.length-(k+1),H,[(1,_),(3,_),(7,_),(8,_),(9,I (k+1:Nat))],sB,k+1,_,H,rfl,rfl,?_⟩;rw[X7,aB h4,ln,di,Jy];exact(Z.b [N b29 _ _,N b5 _ _,row 3 1 v30 _ _,N b1 _ _]).t2
  refine z5 ?_;refine⟨p.l.length-(k+1),H,[(1,_),(3,_),(7,_),(8,_),(9,I (k+1:Nat))],sB,k+1,_,H,rfl,rfl,?_⟩;rw[X7,aj h4,kF];exact(Z.b [N b5 _ _,row 3 1 u _ _,N b1 _ _]).tail
 rw[I8 H]at Z;have yp:(q7 p.kind (p.l.map cP.it)).length<=p.l.length:=Ht (Bi _ _) (by rw[cg];omega);refine wD 5 ag Z ?_;refine z2 ?_;refine bw (l1:=[4,5,6,7]) (l2:=[]) rfl (d:=39) (p.kind=3/\p.next≠0) rfl ?_ ?_
 ·refine ar (d:=35) rfl (fun h5=>?_) fun h5=>?_
  ·refine wD 1 ag Z ?_;exact wq 3
  exact wq 5
 refine aK ?_;refine wI 0 (fun h6=>?_) fun h6=>?_
 ·refine wD 3 ag Z ?_;refine fb (cs:=[I p.next]) rfl aY bF fh dM rfl rfl rfl Z rfl fun w b43 Z=>?_;refine eF (m:=(q7 p.kind (p.l.map cP.it)).length) (k:=1) (news:=[I p.next]) rfl aY bF j7 fh rfl rfl Z pK (Rd.iq Z pK) rfl (by intro z hz;simp at hz;subst hz;rfl) mL H rfl (fun w v44 Z=>?_);refine z8 ?_;exact dt rfl rfl rfl (by
 rw[Eb,aB h6,ln,di,Jy];exact(Z.b [N b43 _ _,N b1 _ _,row 3 1 v44 _ _]).t2)
 refine z7 ?_;exact dt rfl rfl rfl (by
 rw[Eb,aj h6,kF];exact(Z.b [N b1 _ _,row 3 1 u _ _]).tail)
def aeY(kind:Int)(x:It):jq kind x=0\/jq kind x=8:=by
 have m:∀(q:Prop) [Decidable q],uq q 8=0\/uq q 8=8:=fun q _=>by by_cases h:q;exact .inl (xe h);exact .inr (JN h)
 have f:∀a b:Int,(a=0\/a=8)->(b=0\/b=8)->fst a b=0\/fst a b=8:=fun a b ha hb=>by
  rcases ha with rfl|rfl
  ·exact hb
  exact .inr (xn 8 b dM)
 unfold jq
 by_cases h:kind=2
 ·rw[aB h];exact m _
 rw[aj h];refine f _ _ (m _) ?_
 by_cases h:x.size<=32
 ·rw[aB h];exact m _
 rw[aj h];exact m _
def Ph{y:cP}(h:0<k)(hy:p.l[k-1]?=some y):kL [] ((p.l.map cP.it).take k)=y.it.key:=by
 obtain⟨j,rfl⟩:∃j,k=j+1:=⟨k-1,H⟩;have hy':p.l[j]?=some y:=hy;rw[AW hy'];exact D' _ _ _
def acL(h:gp p.kind p.level p.next p.l.length p.data.length)(h3:1<=p.kind/\p.kind<=3)(hl:0<p.l.length):p.kind=1\/p.kind=2:=by
 unfold gp at h;omega
def acF(h:gp p.kind p.level p.next p.l.length p.data.length)(h3:1<=p.kind/\p.kind<=3)(hn:¬p.kind=3):p.next=0:=by
 unfold gp at h;omega
def G2(E:p.l[k]?=some x):fa p.kind 0 [] ((p.l.map cP.it).take (k+1))=fst (fa p.kind 0 [] ((p.l.map cP.it).take k)) (q8 p.kind k (kL [] ((p.l.map cP.it).take k)) x.it):=by
 have hk:k<p.l.length:=(qj.1 E).1;rw[AW E,zu,gJ,cg,mT,Jq H]
def Pk(E:p.l[k]?=some x)(h0:fa p.kind 0 [] ((p.l.map cP.it).take k)=0)(h:q8 p.kind k (kL [] ((p.l.map cP.it).take k)) x.it≠0):
  fa p.kind 0 [] (p.l.map cP.it)=q8 p.kind k (kL [] ((p.l.map cP.it).take k)) x.it:=by
 have app:∀(l r:List It) (i:Nat) (a:bZ),fa p.kind i a (l++r)=fst (fa p.kind i a l) (fa p.kind (i+l.length) (kL a l) r):=by
  intro l
  induction l with
  |nil=>intro r i a;rfl
  |cons y l ih=>
   intro r i a;simp only[nI,fa,ih,m0,kZ];rw[show i+1+l.length=i+(l.length+1) by omega]
   congr 3
   unfold kL;cases l<;>simp[List.getLast?_cons]
 have e:=G2 E;rw[h0,nE]at e;have e2:=app ((p.l.map cP.it).take (k+1)) ((p.l.map cP.it).drop (k+1)) 0 [];rw[Mp,e,xn _ _ h]at e2
 exact e2
def zX(Z:aw G L w)(hp:p.Ok L):
  aA prog 107 #[gQ p.cells] w (bU fun r w'=>r=I (dv p.pg)/\aw G L w'):=by
 have YI:=hp.its.len;have pW:=hp.its;have jr:=hp.its.sl;obtain⟨a1,c1,a2,c2,Y,J,gC⟩:=hp.form Z;rw[Y]at jr;rw[gC];clear Y J;refine wF [_] func107 ntmps107 ?_;refine wB 2 Z fun w b1 Z=>?_;refine wD 6 ag Z ?_;refine z2 ?_;refine bw (l1:=[4,5,6,7]) (l2:=[8,9,10,11,12]) rfl (d:=11) (p.kind≠1/\p.kind≠2) rfl ?_ ?_
 ·refine ar (d:=7) rfl (fun Y=>?_) fun Y=>?_
  ·refine wD 1 ag Z ?_;exact wq 3
  exact wq 5
 refine z1 ?_;refine bw (l1:=[9,10,11,12]) (l2:=[]) rfl (d:=16) (p.kind≠1/\p.kind≠2/\p.kind≠3) rfl ?_ ?_
 ·refine ar (d:=12) rfl (fun J=>?_) fun J=>?_
  ·refine wD 1 ag Z ?_;exact wq 3
  exact wq 5
 refine aK ?_;refine wI 0 (fun h3=>?_) fun h3=>?_
 ·refine dk 5 ?_;exact⟨by rw[vY,JN H];rfl,Z.tail⟩
 refine z4 ?_;refine bg rfl rfl (aD.dB ay Z pK sM) ?_;refine wC rfl Ly rfl (by have h:=MY (p:=p) Z (hp.of sF) H;rw[gC]at h;exact h) fun w Z=>?_
 refine cU rfl rfl ?_;refine aK ?_;refine wI 0 (fun h4=>?_) fun h4=>?_
 ·refine dk 5 ?_;exact⟨by rw[vY,xe H,nE,JN (by simpa using h4)];rfl,Z.tail⟩
 refine z7 ?_;have SY:1<=p.kind/\p.kind<=3:=H;have aaX:gp p.kind p.level p.next p.l.length p.data.length:=by simpa using h4
 have lr:dv p.pg=fst (fa p.kind 0 [] (p.l.map cP.it)) (uq (p.next=0\/eJ p.next) 15):=by rw[vY,xe SY,xe aaX];rfl
 rw[lr];refine bx (fun m e w=>∃(k:Nat),k<=p.l.length/\m=p.l.length-k/\e=[(1,pQ b1),(3,I k)]/\fa p.kind 0 [] ((p.l.map cP.it).take k)=0/\aw G (N b1 [I p.kind,I p.level, .slice a1 p.l.length c1, .slice a2 p.data.length c2,I p.next] 104::L) w)
  (m:=p.l.length) sB
  ⟨0,de _,rfl,rfl,rfl,Z⟩ ?_
 rintro m e w ⟨k,hk,rfl,rfl,hE0,Z⟩;refine wD 5 aH Z ?_;refine wI 3 (fun h5=>?_) fun h5=>?_
 ·have gn:k<p.l.length:=H;have aiE:=acL aaX SY H;obtain⟨x,E⟩:∃x,p.l[k]?=some x:=⟨_,dG gn⟩;obtain⟨y,hy⟩:∃y,p.l[k-1]?=some y:=⟨_,dG H⟩;have lG:=pW.it x (fK E);have Ue:=pW.it y (fK hy);have xj:=lG.k;have hyk:=Ue.k;have kA:(p.l.map cP.cells)[k]?=some x.cells:=by rw[dh,E];rfl
  have XM:(p.l.map cP.cells)[k-1]?=some y.cells:=by rw[dh,hy];rfl
  obtain⟨b,o,rfl⟩:=((jr.of sF).at Z).nn (by rw[cg];omega);have uS:=Pk E hE0;have jQ:=G2 E;rw[hE0,nE]at jQ;have aip:w7 p.kind k (kL [] ((p.l.map cP.it).take k)) x.it=if 0<k/\fy x.it.key y.it.key<=0 then 11 else 0:=by
   unfold w7
   by_cases h0:k=0
   ·rw[xe (.inl h0),aj (show¬(0<k/\fy x.it.key y.it.key<=0) from fun h=>by omega)];split<;>rfl
   rw[Ph H hy,aj (fun h=>h0 h.2)]
   by_cases hc:fy x.it.key y.it.key<=0
   ·rw[JN (fun h=>by omega),aB ⟨H,hc⟩]
   rw[xe (.inr H),aj (fun h=>hc h.2)]
  unfold q8 at uS jQ;rw[aip]at uS jQ
  refine z6 ?_;refine bg rfl rfl (aD.dB ay Z pK sM) ?_;refine z1 ?_;refine wC rfl Ni rfl (by have h:=PS (p:=p) (k:=k) (x:=x) Z (hp.of sF) E;rw[gC]at h;exact h) fun w Z=>?_
  refine cU rfl rfl ?_;refine aK ?_;refine wI 0 (fun h6=>?_) fun h6=>?_
  ·refine z5 ?_;exact dt rfl rfl rfl ⟨by
 have RS:lF p.kind k x.it≠0:=by simpa using h6
 have h7:lF p.kind k x.it=7:=by unfold lF uq at RS ⊢;repeat' split<;>simp_all
 rw[uS (by rw[xn _ _ RS];exact RS),xn _ _ RS,h7];rfl,Z.tail⟩
  have RS:lF p.kind k x.it=0:=by simpa using h6
  rw[RS,nE]at uS jQ;refine z3 ?_;refine wQ [0,1,2,3,4,5,6,7,8,9,10,11,12,13,14,15,16,17,18] Z fun Z=>?_
  refine z3 ?_;refine sn (l1:=[3,4,5,6,7,8,9,10,11,12,13,14,15,16,17,18]) (l2:=[]) rfl (d:=49) (0<k/\fy x.it.key y.it.key<=0) (fun w=>aw G (N b1 [I p.kind,I p.level, .slice (some ⟨b,o,none⟩) p.l.length c1, .slice a2 p.data.length c2,I p.next] 104::L) w) rfl ?_ ?_
  ·refine ar (d:=33) rfl (fun h7=>?_) fun h7=>?_
   ·refine wD 1 aH Z ?_;refine wX 1 aV bz ?_;refine cC rfl gu rfl ?_;refine bg rfl rfl (aD.one ao (((jr.of sF).at Z).cell kA rfl)) ?_;refine wD 1 aH Z ?_;refine z1 ?_;refine uO rfl rfl rfl H ?_;refine wX 0 aV bz ?_;refine cC rfl gu rfl ?_;refine bg rfl rfl (aD.one ao (by rw[show((k:Int)-1).toNat=((k-1:Nat):Int).toNat by omega];exact((jr.of sF).at Z).cell XM rfl)) ?_;refine wC rfl iC rfl (ja Z (xj.of sF) (hyk.of sF) lG.sk Ue.sk) fun w Z=>?_
    refine z3 ?_;refine⟨Z,aU some (aU Value.bool ?_)⟩;exact dC
   refine z17 ?_;refine⟨Z,aU some (aU Value.bool ?_)⟩;exact dC
  clear Z;intro w Z;refine aK ?_;refine wI 0 (fun h8=>?_) fun h8=>?_
  ·refine z5 ?_;exact dt rfl rfl rfl ⟨by
 rw[aB h8]at uS;rw[uS (by rw[xn 11 _ dM];decide),xn 11 _ dM];rfl,Z.tail⟩
  rw[aj h8,nE]at uS jQ;refine z3 ?_;refine wQ [0,1,2,3,4,5,6,7] Z fun Z=>?_
  refine bg rfl rfl (aD.dB ay Z pK sM) ?_;refine wD 1 aH Z ?_;refine wX 1 aV bz ?_;refine bg rfl rfl (aD.many bA rfl (by rw[cZ];exact((jr.of sF).at Z).at kA)) ?_;refine wC rfl Ie rfl (by have h:=K1 (p:=p) (x:=x) Z (hp.of sF) (lG.of sF);rw[gC]at h;exact h) fun w Z=>?_
  refine cU rfl rfl ?_;refine aK ?_;refine wI 0 (fun h9=>?_) fun h9=>?_
  ·refine z5 ?_;exact dt rfl rfl rfl ⟨by
 have h9':jq p.kind x.it≠0:=by simpa using h9
 have h7:=(aeY p.kind x.it).resolve_left h9';rw[uS (by rw[xn _ _ h9'];exact h9'),xn _ _ h9',h7];rfl,Z.tail⟩
  have h9':jq p.kind x.it=0:=by simpa using h9
  rw[h9',nE]at uS jQ;refine z2 ?_;refine wQ [0,1,2,3,4,5,6,7] Z fun Z=>?_
  refine bg rfl rfl (aD.dB ay Z pK sM) ?_;refine wD 1 aH Z ?_;refine wX 1 aV bz ?_;refine bg rfl rfl (aD.many bA rfl (by rw[cZ];exact((jr.of sF).at Z).at kA)) ?_;refine wC rfl Ih rfl (by have h:=K3 (p:=p) (x:=x) Z (hp.of sF) (lG.of sF) aiE;rw[gC]at h;exact h) fun w Z=>?_
  refine cU rfl rfl ?_;refine aK ?_;refine wI 0 (fun jR=>?_) fun jR=>?_
  ·refine z5 ?_;exact dt rfl rfl rfl ⟨by
 have ahu:mD p.kind x.it≠0:=by simpa using jR
 have h7:mD p.kind x.it=15:=by unfold mD uq at ahu ⊢;repeat' split<;>simp_all
 rw[uS ahu,h7];rfl,Z.tail⟩
  refine z6 ?_;exact⟨p.l.length-(k+1),H,[(1,_),(3,I (k+1:Nat))],sB,k+1,H,rfl,rfl,by rw[jQ];simpa using jR,Z⟩
 rw[I8 H]at hE0;rw[hE0,nE];refine wD 5 ag Z ?_;refine z2 ?_;refine bw (l1:=[4,5,6,7]) (l2:=[8,9,10,11,12,13]) rfl (d:=73) (p.kind=3/\p.next≠0) rfl ?_ ?_
 ·refine ar (d:=69) rfl (fun qH=>?_) fun qH=>?_
  ·refine wD 1 ag Z ?_;exact wq 3
  exact wq 5
 refine z1 ?_;refine sn (l1:=[9,10,11,12,13]) (l2:=[]) rfl (d:=79) (p.kind=3/\p.next≠0/\¬eJ p.next) (fun w=>aw G (N b1 [I p.kind,I p.level, .slice a1 p.l.length c1, .slice a2 p.data.length c2,I p.next] 104::L) w) rfl ?_ ?_
 ·refine ar (d:=74) rfl (fun xX=>?_) fun xX=>?_
  ·refine wD 1 ag Z ?_;refine wC rfl m9 rfl (nY Z) fun w Z=>?_
   refine cU rfl rfl ?_;refine z2 ?_;refine⟨Z,aU some (aU Value.bool ?_)⟩
   try rw[<-decide_not]
   first|exact bI.2 ⟨fun h=>⟨H,H,h⟩,fun h=>h.2.2⟩|exact(cN H).symm
  refine z6 ?_;refine⟨Z,aU some (aU Value.bool ?_)⟩
  try rw[<-decide_not]
  first|exact bI.2 ⟨fun h=>⟨H,H,h⟩,fun h=>h.2.2⟩|exact(cN H).symm
 clear Z;intro w Z;refine aK ?_;refine wI 0 (fun BG=>?_) fun BG=>?_
 ·refine dk 5 ?_;exact⟨by rw[JN (fun h=>h.elim (fun h=>aS h BG.2.1) BG.2.2)],Z.tail⟩
 refine z6 ?_;exact dt rfl rfl rfl ⟨by
 rw[xe (vC fun h=>?_)];have hn:=acF aaX SY;rw[not_or]at h;exact BG ⟨vC fun h3=>h.1 (hn h3),h.1,h.2⟩,Z.tail⟩
def Cq(Z:aw G L w)(hp:p.Ok L):
  aA prog 48 #[gQ p.cells] w (bU fun r w'=>aw G (row 3 1 r (cu p.pg).length (bf (cu p.pg))::L) w'):=by
 have YI:=hp.its.len;have pW:=hp.its;have jr:=hp.its.sl;obtain⟨a1,c1,a2,c2,Y,J,gC⟩:=hp.form Z;rw[Y]at jr;rw[gC];clear Y J;refine wF [_] func48 ntmps48 ?_;refine wB 2 Z fun w b1 Z=>?_;refine z4 ?_;refine IY rfl aY bF Z rfl fun w b5 Z=>?_;refine z8 ?_;have Z:=jx (z:=1) (m:=0) Z rfl mL;refine bx (fun m e w=>∃(k:Nat) (u:C),k<=p.l.length/\m=p.l.length-k/\e=[(1,pQ b1),(3,u),(4,I k)]/\aw G (row 3 1 u (q7 p.kind ((p.l.map cP.it).take k)).length (bf (q7 p.kind ((p.l.map cP.it).take k)))::N b1 [I p.kind,I p.level, .slice a1 p.l.length c1, .slice a2 p.data.length c2,I p.next] 104::L) w)
  (m:=p.l.length) sB
  ⟨0,_,de _,rfl,rfl,Z⟩ ?_
 rintro m e w ⟨k,u,hk,rfl,rfl,Z⟩;refine wD 5 aH Z ?_;refine wI 3 (fun Y=>?_) fun Y=>?_
 ·have gn:k<p.l.length:=H;obtain⟨x,E⟩:∃x,p.l[k]?=some x:=⟨_,dG gn⟩;have kA:(p.l.map cP.cells)[k]?=some x.cells:=by rw[dh,E];rfl
  obtain⟨b,o,rfl⟩:=((jr.of sF).at Z).nn (by rw[cg];omega);have yp:(q7 p.kind ((p.l.map cP.it).take k)).length<=k:=Ht (Bi _ _) (by rw[gJ];omega);have X7:=JZ p.kind ((p.l.map cP.it).take k) x.it;rw[<-AW E]at X7;refine wD 6 ag Z ?_;refine z2 ?_;refine bw (l1:=[4,5,6,7,8,9,10,11,12,13,14,15,16]) (l2:=[]) rfl (d:=29) (p.kind=2\/(p.kind=1/\x.it.child≠0)) rfl ?_ ?_
  ·refine ar (d:=16) rfl (fun J=>?_) fun J=>?_
   ·exact wq 14
   refine wD 1 ag Z ?_;refine z2 ?_;refine ar (d:=20) rfl (fun h3=>?_) fun h3=>?_
   ·refine wD 1 aH Z ?_;refine wX 1 aV bz ?_;refine cC rfl nM rfl ?_;refine bg rfl rfl (aD.one ag (((jr.of sF).at Z).cell kA rfl)) ?_;refine z1 ?_;refine iM rfl rfl rfl rfl ?_;exact wq 2
   refine z7 ?_;refine iw rfl rfl rfl rfl ?_;exact wq 2
  refine aK ?_;refine wI 0 (fun h4=>?_) fun h4=>?_
  ·refine wD 3 aH Z ?_;refine wX 1 aV bz ?_;refine cC rfl nM rfl ?_;refine bg rfl rfl (aD.one ag (((jr.of sF).at Z).cell kA rfl)) ?_;refine fb (cs:=[I x.it.child]) rfl aY bF fh dM rfl rfl rfl Z rfl fun w b37 Z=>?_;refine eF (m:=(q7 p.kind ((p.l.map cP.it).take k)).length) (k:=1) (news:=[I x.it.child]) rfl aY bF j7 fh rfl rfl Z pK (Rd.iq Z pK) rfl (by intro z hz;simp at hz;subst hz;rfl) mL H rfl (fun w v38 Z=>?_);refine z7 ?_;refine⟨p.l.length-(k+1),H,[(1,_),(3,_),(4,I (k+1:Nat))],sB,k+1,_,H,rfl,rfl,?_⟩;rw[X7,aB h4,ln,di,Jy];exact(Z.b [N b37 _ _,row 3 1 v38 _ _,N b1 _ _]).tail
  refine z6 ?_;refine⟨p.l.length-(k+1),H,[(1,_),(3,_),(4,I (k+1:Nat))],sB,k+1,_,H,rfl,rfl,?_⟩;rw[X7,aj h4,kF];exact Z
 rw[I8 H]at Z;have yp:(q7 p.kind (p.l.map cP.it)).length<=p.l.length:=Ht (Bi _ _) (by rw[cg];omega);refine wD 5 ag Z ?_;refine z2 ?_;refine bw (l1:=[4,5,6,7]) (l2:=[]) rfl (d:=46) (p.kind=3/\p.next≠0) rfl ?_ ?_
 ·refine ar (d:=42) rfl (fun h5=>?_) fun h5=>?_
  ·refine wD 1 ag Z ?_;exact wq 3
  exact wq 5
 refine aK ?_;refine wI 0 (fun h6=>?_) fun h6=>?_
 ·refine wD 3 ag Z ?_;refine fb (cs:=[I p.next]) rfl aY bF fh dM rfl rfl rfl Z rfl fun w b50 Z=>?_;refine eF (m:=(q7 p.kind (p.l.map cP.it)).length) (k:=1) (news:=[I p.next]) rfl aY bF j7 fh rfl rfl Z pK (Rd.iq Z pK) rfl (by intro z hz;simp at hz;subst hz;rfl) mL H rfl (fun w v51 Z=>?_);refine z8 ?_;exact dt rfl rfl rfl (by
 rw[Eb,aB h6,ln,di,Jy];exact(Z.b [N b50 _ _,N b1 _ _,row 3 1 v51 _ _]).t2)
 refine z7 ?_;exact dt rfl rfl rfl (by
 rw[Eb,aj h6,kF];exact(Z.b [N b1 _ _,row 3 1 u _ _]).tail)
section
variable{n:Nat}{done:List Nat}{s' c:aC}{p:String}{x:aM}
def agE{b dl dc:Nat}{l:bZ}{cur l':List C}(ho:O[i]?=some ⟨some d, .call ⟨.builtin .copy,#[x,y],#[s,s']⟩,t,p,af,g⟩)(hs:P.underlying s=some (.slice c))(Dx:(P.info? c).map (·.size)=some 1)(E:ev e x=some (.slice (some ⟨b,o,none⟩) dl dc))(hy:ev e y=some v)(Z:aw G L w)(hp:dE (N b cur T) L R)(hr:eB v l w)(hl:l.length<=dl)(nr:o+l.length<=cur.length)(hl':cur.take o++cI l++cur.drop (o+l.length)=l')(hpd:gZ P O dr done i=[])(h:∀w',aw G (N b l' T::R) w'->XL P n O dr (i::done) r K ((d,I l.length)::e) w')(hd:Nat.blt d n=true:=by exact rfl)(hg:Gd O e g:=by exact gD):XL P n O dr done (i::r) K e w:=by
 rcases hr with⟨⟨a,rfl⟩,rfl⟩|⟨b',o',cap,rfl,hc,hR⟩
 ·have hl2:l'=cur:=by rw[<-hl'];show cur.take o++[]++cur.drop (o+0)=cur;simp
  subst hl2;have SV:=run_copy_none (P:=P) w s s' t c (some ⟨b,o,none⟩) a dl dc 0 0 hs Dx (Nat.zero_min _);refine jG ho (by simpa [dA]using hd) hg (ρ:=rh e) (by intro z hZ;simp[Op.operands,Call.operands]at hZ;exact Hz E hy hZ) rfl (v:=I 0) (w':=w) ?_ (gM hpd) (h _ (Z.pick hp));simp only[execOp,resolve,invoke,builtin,al,aG,ah,su,ey,l9,bM E,bM hy,SV];rfl
 have hb:(cI l).length=l.length:=dH l;refine abR (cs:=cI l) (l':=l') (hd:=hd) (hg:=hg) ho hs Dx E hy Z hp hR (by rw[hb];exact(Jq hl).symm) (k6 _) (by rw[hb];exact nr) (by rw[hb];exact hl') hpd (fun w' mP=>?_);rw[hb];exact h w' mP
end
structure Rg where
 lo:bZ
 hi:bZ
 Bc:Bool
structure rS where
 rg:Rg
 lv:C
 hv:C
def rS.cells(r:rS):List C:=[r.lv,r.hv, .bool r.rg.Bc]
structure rS.Ok(L:List aF)(r:rS):Prop where
 lo:aL L (eB r.lv r.rg.lo)
 hi:aL L (eB r.hv r.rg.hi)
 sl:dP r.rg.lo
 sh:dP r.rg.hi
def rS.Ok.of{r:rS}(h:r.Ok L)(s:Qr L L'):r.Ok L':=⟨h.lo.of s,h.hi.of s,h.sl,h.sh⟩
def lP(r:rS):List aF:=[row 5 1 r.lv r.rg.lo.length (cI r.rg.lo),row 5 1 r.hv r.rg.hi.length (cI r.rg.hi)]
def CJ{r:rS}(Y:dP r.rg.lo)(J:dP r.rg.hi)(p1:dE (row 5 1 r.lv r.rg.lo.length (cI r.rg.lo)) L R){R':List aF}(p2:dE (row 5 1 r.hv r.rg.hi.length (cI r.rg.hi)) L R'):r.Ok L:=⟨Hr rfl p1,Hr rfl p2,Y,J⟩
def kM(k:bZ):Prop:=1<=k.length/\k.length<=24
instance(k:bZ):Decidable (kM k):=by unfold kM;infer_instance
def pD(r:Rg)(k:bZ):Prop:=kM k/\0<=fy k r.lo/\(r.Bc=true\/fy k r.hi<0)
instance(r:Rg)(k:bZ):Decidable (pD r k):=by unfold pD;infer_instance
def fL(a b:bZ):bZ:=if fy a b<0 then b else a
def qX(a b:bZ):bZ:=if 0<fy a b then b else a
def eR(a b:Rg):Rg:=⟨fL a.lo b.lo,if a.Bc=true then(if b.Bc=true then []else b.hi)else if b.Bc=true then a.hi else qX a.hi b.hi,a.Bc&&b.Bc⟩
def TY{a b:bZ}(ha:dP a)(hb:dP b):dP (fL a b):=by unfold fL;split<;>assumption
def TX{a b:bZ}(ha:dP a)(hb:dP b):dP (qX a b):=by unfold qX;split<;>assumption
def jV:dP []:=de _
def xf{a b:Rg}(Y:dP a.lo)(J:dP a.hi)(h3:dP b.lo)(h4:dP b.hi):dP (eR a b).lo/\dP (eR a b).hi:=by
 refine⟨TY Y h3,?_⟩
 show dP (if a.Bc=true then(if b.Bc=true then []else b.hi)else if b.Bc=true then a.hi else qX a.hi b.hi)
 repeat' split
 all_goals first|exact jV|exact h4|exact J|exact TX J h4
def sV(b:Bool):∃q:Prop,∃_:Decidable q,b=decide q/\(b=true↔q):=⟨b=true,inferInstance,by simp,Iff.rfl⟩
def Cm{l:bZ}(Z:aw G L w)(kl:aL L (eB v l)):aA prog 278 #[v] w (bU fun r w'=>r= .bool (decide (kM l))/\aw G L w'):=by
 obtain⟨a,cap,rfl⟩:=(kl.at Z).form;refine wF [_] func278 ntmps278 ?_;refine B' ?_;refine bw (l1:=[4,5,6,7]) (l2:=[8]) rfl (d:=10) (kM l) rfl ?_ ?_
 ·refine ar (d:=6) rfl (fun Y=>?_) fun Y=>?_
  ·refine z5 ?_;refine cQ ?_;unfold kM;exact dC
  refine z5 ?_;refine cQ ?_;unfold kM;exact dC
 refine dk 3 ?_;exact⟨rfl,Z⟩
def PT{l:bZ}(Z:aw G L w)(kl:aL L (eB v l)):aA prog 318 #[v] w (bU fun r w'=>r= .bool (decide (kM l))/\aw G L w'):=by
 obtain⟨a,cap,rfl⟩:=(kl.at Z).form;refine wF [_] func318 ntmps318 ?_;refine B' ?_;refine bw (l1:=[4,5,6,7]) (l2:=[8]) rfl (d:=10) (kM l) rfl ?_ ?_
 ·refine ar (d:=6) rfl (fun Y=>?_) fun Y=>?_
  ·refine z5 ?_;refine cQ ?_;unfold kM;exact dC
  refine z5 ?_;refine cQ ?_;unfold kM;exact dC
 refine dk 3 ?_;exact⟨rfl,Z⟩
def zR{r:rS}{k:bZ}(Z:aw G L w)(hr:r.Ok L)(kl:aL L (eB v k)):
  aA prog 213 #[gQ r.cells,v] w (bU fun u w'=>u= .bool (decide (pD r.rg k))/\aw G L w'):=by
 have Us:=hr.lo;have hhi:=hr.hi;obtain⟨q,dq,hq1,Qj⟩:=sV r.rg.Bc;have gC:r.cells=[r.lv,r.hv, .bool (decide q)]:=by rw[<-hq1];rfl
 rw[gC];refine wF [_,_] func213 ntmps213 ?_;refine wB 2 Z fun w b2 Z=>?_;refine z5 ?_;refine wC rfl Al rfl (Cm Z (kl.of sF)) fun w Z=>?_
 refine z1 ?_;refine sn (l1:=[3,4,5,6,7,8]) (l2:=[9,10,11,12,13,14,15,16,17,18,19,20]) rfl (d:=13) (kM k/\0<=fy k r.rg.lo) (fun w=>aw G (N b2 [r.lv,r.hv, .bool (decide q)] 64::L) w) rfl ?_ ?_
 ·refine ar (d:=7) rfl (fun Y=>?_) fun Y=>?_
  ·refine wD 2 ao Z ?_;refine wC rfl jD rfl (j0 Z (kl.of sF) (Us.of sF)) fun w Z=>?_
   refine z3 ?_;refine⟨Z,aU some (aU Value.bool ?_)⟩
   first|exact(cN (fun h=>Y h.1)).symm|exact bI.2 ⟨fun h=>⟨Y,h⟩,fun h=>h.2⟩
  refine z7 ?_;refine⟨Z,aU some (aU Value.bool ?_)⟩
  first|exact(cN (fun h=>Y h.1)).symm|exact bI.2 ⟨fun h=>⟨Y,h⟩,fun h=>h.2⟩
 clear Z;intro w Z;refine z1 ?_;refine sn (l1:=[10,11,12,13,14,15,16,17,18,19]) (l2:=[20]) rfl (d:=24) (pD r.rg k) (fun w=>aw G (N b2 [r.lv,r.hv, .bool (decide q)] 64::L) w) rfl ?_ ?_
 ·refine ar (d:=14) rfl (fun J=>?_) fun J=>?_
  ·refine wD 1 bS Z ?_;refine z1 ?_;refine ar (d:=17) rfl (fun h3=>?_) fun h3=>?_
   ·refine z5 ?_;refine iM rfl rfl rfl rfl ?_;refine z2 ?_;refine⟨Z,aU some (aU Value.bool ?_)⟩
    first|exact(eW ⟨J.1,J.2, .inl (Qj.2 h3)⟩).symm|exact bI.2 ⟨fun h=>⟨J.1,J.2, .inr h⟩,fun h=>h.2.2.resolve_left (fun h4=>h3 (Qj.1 h4))⟩|exact(cN (fun h=>J ⟨h.1,h.2.1⟩)).symm
   refine wD 2 ao Z ?_;refine wC rfl jD rfl (j0 Z (kl.of sF) (hhi.of sF)) fun w Z=>?_
   refine z1 ?_;refine iw rfl rfl rfl rfl ?_;refine z2 ?_;refine⟨Z,aU some (aU Value.bool ?_)⟩
   first|exact(eW ⟨J.1,J.2, .inl (Qj.2 h3)⟩).symm|exact bI.2 ⟨fun h=>⟨J.1,J.2, .inr h⟩,fun h=>h.2.2.resolve_left (fun h4=>h3 (Qj.1 h4))⟩|exact(cN (fun h=>J ⟨h.1,h.2.1⟩)).symm
  refine SP ?_;refine⟨Z,aU some (aU Value.bool ?_)⟩
  first|exact(eW ⟨J.1,J.2, .inl (Qj.2 h3)⟩).symm|exact bI.2 ⟨fun h=>⟨J.1,J.2, .inr h⟩,fun h=>h.2.2.resolve_left (fun h4=>h3 (Qj.1 h4))⟩|exact(cN (fun h=>J ⟨h.1,h.2.1⟩)).symm
 clear Z;intro w Z;refine dk 3 ?_;exact⟨rfl,Z.tail⟩
def PU{r:rS}{k:bZ}(Z:aw G L w)(hr:r.Ok L)(kl:aL L (eB v k))(yn:dP k):
  aA prog 261 #[gQ r.cells,v] w (bU fun u w'=>u= .bool (decide (pD r.rg k))/\aw G L w'):=by
 have Us:=hr.lo;have hhi:=hr.hi;obtain⟨q,dq,hq1,Qj⟩:=sV r.rg.Bc;have gC:r.cells=[r.lv,r.hv, .bool (decide q)]:=by rw[<-hq1];rfl
 rw[gC];refine wF [_,_] func261 ntmps261 ?_;refine wB 2 Z fun w b2 Z=>?_;refine z5 ?_;refine wC rfl Nj rfl (PT Z (kl.of sF)) fun w Z=>?_
 refine z1 ?_;refine sn (l1:=[3,4,5,6,7,8]) (l2:=[9,10,11,12,13,14,15,16,17,18,19,20]) rfl (d:=13) (kM k/\0<=fy k r.rg.lo) (fun w=>aw G (N b2 [r.lv,r.hv, .bool (decide q)] 64::L) w) rfl ?_ ?_
 ·refine ar (d:=7) rfl (fun Y=>?_) fun Y=>?_
  ·refine wD 2 ao Z ?_;refine wC rfl iC rfl (ja Z (kl.of sF) (Us.of sF) yn hr.sl) fun w Z=>?_
   refine z3 ?_;refine⟨Z,aU some (aU Value.bool ?_)⟩
   first|exact(cN (fun h=>Y h.1)).symm|exact bI.2 ⟨fun h=>⟨Y,h⟩,fun h=>h.2⟩
  refine z7 ?_;refine⟨Z,aU some (aU Value.bool ?_)⟩
  first|exact(cN (fun h=>Y h.1)).symm|exact bI.2 ⟨fun h=>⟨Y,h⟩,fun h=>h.2⟩
 clear Z;intro w Z;refine z1 ?_;refine sn (l1:=[10,11,12,13,14,15,16,17,18,19]) (l2:=[20]) rfl (d:=24) (pD r.rg k) (fun w=>aw G (N b2 [r.lv,r.hv, .bool (decide q)] 64::L) w) rfl ?_ ?_
 ·refine ar (d:=14) rfl (fun J=>?_) fun J=>?_
  ·refine wD 1 bS Z ?_;refine z1 ?_;refine ar (d:=17) rfl (fun h3=>?_) fun h3=>?_
   ·refine z5 ?_;refine iM rfl rfl rfl rfl ?_;refine z2 ?_;refine⟨Z,aU some (aU Value.bool ?_)⟩
    first|exact(eW ⟨J.1,J.2, .inl (Qj.2 h3)⟩).symm|exact bI.2 ⟨fun h=>⟨J.1,J.2, .inr h⟩,fun h=>h.2.2.resolve_left (fun h4=>h3 (Qj.1 h4))⟩|exact(cN (fun h=>J ⟨h.1,h.2.1⟩)).symm
   refine wD 2 ao Z ?_;refine wC rfl iC rfl (ja Z (kl.of sF) (hhi.of sF) yn hr.sh) fun w Z=>?_
   refine z1 ?_;refine iw rfl rfl rfl rfl ?_;refine z2 ?_;refine⟨Z,aU some (aU Value.bool ?_)⟩
   first|exact(eW ⟨J.1,J.2, .inl (Qj.2 h3)⟩).symm|exact bI.2 ⟨fun h=>⟨J.1,J.2, .inr h⟩,fun h=>h.2.2.resolve_left (fun h4=>h3 (Qj.1 h4))⟩|exact(cN (fun h=>J ⟨h.1,h.2.1⟩)).symm
  refine SP ?_;refine⟨Z,aU some (aU Value.bool ?_)⟩
  first|exact(eW ⟨J.1,J.2, .inl (Qj.2 h3)⟩).symm|exact bI.2 ⟨fun h=>⟨J.1,J.2, .inr h⟩,fun h=>h.2.2.resolve_left (fun h4=>h3 (Qj.1 h4))⟩|exact(cN (fun h=>J ⟨h.1,h.2.1⟩)).symm
 clear Z;intro w Z;refine dk 3 ?_;exact⟨rfl,Z.tail⟩
def iW{l:bZ}(Z:aw G L w)(kl:aL L (eB v l))(hs:dP l)(hm:m<=64):aA prog 259 #[v,I m] w (bU fun r w'=>aw G (row 5 1 r l.length (cI l)::L) w'):=by
 obtain⟨a,cap,rfl⟩:=(kl.at Z).form;unfold dP at hs;refine wF [_,_] func259 ntmps259 ?_;refine YW ?_;refine yY rfl aR bo fF wH rfl rfl ⟨H,H⟩ H H Z rfl fun w Dz Z=>?_;refine z6 ?_;refine agE (l:=l) rfl aR bo rfl rfl Z pK ((kl.of sF).at Z) sM (by simp[kE];omega) rfl rfl (fun w Z=>?_);refine dk 7 ?_;exact lC (xs:=cI l) (m:=l.length) Z (by rw[dH,DV]) H mL (by simp[kE,dH];omega)
def Eu{a b:bZ}(Z:aw G L w)(ka:aL L (eB v a))(kb:aL L (eB u b))(ha:dP a)(hb:dP b):aA prog 258 #[v,u] w (bU fun r w'=>aw G (row 5 1 r (fL a b).length (cI (fL a b))::L) w'):=by
 refine wF [_,_] func258 ntmps258 ?_;refine z9 ?_;refine wC rfl jD rfl (j0 Z (ka.of sF) (kb.of sF)) fun w Z=>?_
 refine wI 2 (fun Y=>?_) fun Y=>?_
 ·refine z7 ?_;refine aO rfl il rfl (iW (m:=0) Z (kb.of sF) hb H) rfl fun w v11 hv=>?_;refine dk 3 ?_;exact by rw[show fL a b=b from aB Y];exact hv
 refine z4 ?_;refine aO rfl il rfl (iW (m:=0) Z (ka.of sF) ha H) rfl fun w v11 hv=>?_;refine dk 3 ?_;exact by rw[show fL a b=a from aj Y];exact hv
def PK{a b:bZ}(Z:aw G L w)(ka:aL L (eB v a))(kb:aL L (eB u b))(ha:dP a)(hb:dP b):aA prog 260 #[v,u] w (bU fun r w'=>aw G (row 5 1 r (qX a b).length (cI (qX a b))::L) w'):=by
 refine wF [_,_] func260 ntmps260 ?_;refine z9 ?_;refine wC rfl jD rfl (j0 Z (ka.of sF) (kb.of sF)) fun w Z=>?_
 refine wI 2 (fun Y=>?_) fun Y=>?_
 ·refine z7 ?_;refine aO rfl il rfl (iW (m:=0) Z (kb.of sF) hb H) rfl fun w v11 hv=>?_;refine dk 3 ?_;exact by rw[show qX a b=b from aB Y];exact hv
 refine z4 ?_;refine aO rfl il rfl (iW (m:=0) Z (ka.of sF) ha H) rfl fun w v11 hv=>?_;refine dk 3 ?_;exact by rw[show qX a b=a from aj Y];exact hv
def Gf{a b:bZ}(Z:aw G L w)(ka:aL L (eB v a))(kb:aL L (eB u b))(ha:dP a)(hb:dP b):aA prog 319 #[v,u] w (bU fun r w'=>aw G (row 5 1 r (fL a b).length (cI (fL a b))::L) w'):=by
 refine wF [_,_] func319 ntmps319 ?_;refine z9 ?_;refine wC rfl iC rfl (ja Z (ka.of sF) (kb.of sF) ha hb) fun w Z=>?_
 refine wI 2 (fun Y=>?_) fun Y=>?_
 ·refine z3 ?_;refine aO rfl bX rfl (cy Z (ka.of sF) ha) rfl fun w v10 hv=>?_;refine dk 3 ?_;exact by rw[show fL a b=a from aj H];exact hv
 refine z4 ?_;refine aO rfl bX rfl (cy Z (kb.of sF) hb) rfl fun w v12 hv=>?_;refine dk 3 ?_;exact by rw[show fL a b=b from aB H];exact hv
def H2{a b:bZ}(Z:aw G L w)(ka:aL L (eB v a))(kb:aL L (eB u b))(ha:dP a)(hb:dP b):aA prog 320 #[v,u] w (bU fun r w'=>aw G (row 5 1 r (qX a b).length (cI (qX a b))::L) w'):=by
 refine wF [_,_] func320 ntmps320 ?_;refine z9 ?_;refine wC rfl iC rfl (ja Z (ka.of sF) (kb.of sF) ha hb) fun w Z=>?_
 refine wI 2 (fun Y=>?_) fun Y=>?_
 ·refine z3 ?_;refine aO rfl bX rfl (cy Z (ka.of sF) ha) rfl fun w v10 hv=>?_;refine dk 3 ?_;exact by rw[show qX a b=a from aj H];exact hv
 refine z4 ?_;refine aO rfl bX rfl (cy Z (kb.of sF) hb) rfl fun w v12 hv=>?_;refine dk 3 ?_;exact by rw[show qX a b=b from aB H];exact hv
def ph(pre:List Nat)(listed:Array Bool):Array Bool:=pre.foldl (fun l i=>l.setIfInBounds i true) listed
def WS(P:au)(O:Array aP):List Nat->Array Bool->Bool
 |[],_=>true
 |i::r,listed=>(Region.ready .any O listed).contains i&&aeB P O listed i&&WS P O r (listed.setIfInBounds i true)
def E8{n:Nat}(gC:GL P .any O n){Q:Act->ae->Prop}(fuel:Nat)(Kc:Act->ae->Prop):∀(pre:List Nat) (listed:Array Bool) (done:List Nat) (a:Act) (w:ae),a.tmps.size=n->kU .any O listed→
  (∀q∈done,listed.getD q false=true)->WS P O pre listed=true→
  (∀a w,Kc a w->a.tmps.size=n->kU .any O (ph pre listed)->(∀q∈pre.reverse++done,(ph pre listed).getD q false=true)->GJ P .any O Q fuel (ph pre listed) (pre.reverse++done) a w)→
  SL P O Kc done pre a w->GJ P .any O Q (pre.length+fuel) listed done a w
 |[],listed,done,a,w,lH,hc,hd,_,hk,h=>by
  have:=hk a w h lH hc (by simpa [ph]using hd)
  simpa [ph]using this
 |i::r,listed,done,a,w,lH,hc,hd,hB,hk,h=>by
  simp only[WS,gG]at hB;obtain⟨⟨hr,hf⟩,hB'⟩:=hB;have CX:i∈Region.ready .any O listed:=by simpa using hr
  obtain⟨_,oi,XU,_⟩:=mem_ready.1 CX;simp only[SL,XU]at h;have hfe:(i::r).length+fuel=(r.length+fuel)+1:=by simp only[kZ];omega
  rw[hfe];refine LZ gC XU (r.length+fuel) listed done a w lH hc hd (fun j oj hj ux Ps SX=>?_) CX ?_
  ·have fR:j<O.size:=(mV.1 hj).1;have Y:=w5.1 hf j (sr.2 fR);have hb:(j==i)=false:=by simpa using ux
   have vm:(yu .any O i).contains j=false:=by
    cases E:(yu .any O i).contains j with
    |false=>rfl
    |true=>exact aS (FB.1 E) SX
   simp only[hb,Ps,vm,Bool.false_or,XU,hj,gG]at Y;exact Y
  refine jb (fun v w' h'=>E8 gC fuel Kc r _ _ _ _ (qT lH _ _) (hc.set CX) (fun q hq=>?_) hB' (fun a w hK hs YN vk=>?_) h') h
  ·rcases cE.1 hq with rfl|hq
   ·have fR:q<listed.size:=by rw[hc.size];exact(mV.1 XU).1
    simp[fR]
   exact getD_set_true (hd q hq)
  have agZ:(i::r).reverse++done=r.reverse++i::done:=by simp
  have Mw:ph (i::r) listed=ph r (listed.setIfInBounds i true):=rfl;have:=hk a w hK hs (by rw[Mw];exact YN) (by rw[agZ,Mw];exact vk);rw[agZ,Mw]at this;exact this
def ae6(P:au)(O:Array aP)(n:Nat)(pre:List Nat)(i:Nat)(r1:List Nat)(j:Nat)(r2:List Nat):Bool:=
 Region.noSelect O&&ade n O&&OZ P O&&(pre.length+(r1.length+1)==O.size)&&(r2.length==r1.length)&&WS P O pre (Array.replicate O.size false)&&
  (Region.ready .any O (ph pre (Array.replicate O.size false))).all (fun k=>k==i||k==j)&&!(Region.ready .any O (ph pre (Array.replicate O.size false))).isEmpty&&
  Mt P O r1 ((ph pre (Array.replicate O.size false)).setIfInBounds i true)&&Mt P O r2 ((ph pre (Array.replicate O.size false)).setIfInBounds j true)
def OE{n:Nat}(gC:GL P .any O n){Q:Act->ae->Prop}{listed:Array Bool}{done:List Nat}{a:Act}(lH:a.tmps.size=n)(hc:kU .any O listed)(hd:∀q∈done,listed.getD q false=true)(hr:i∈Region.ready .any O listed)(hB:Mt P O r (listed.setIfInBounds i true)=true)(h:SL P O Q done (i::r) a w):∀o,O[i]?=some o->nV P .any O done i o (GJ P .any O Q r.length (listed.setIfInBounds i true) (i::done)) a w:=by
 intro o ho;simp only[SL,ho]at h;refine jb (fun v w' h'=>E9 gC r _ _ _ _ (qT lH _ _) (hc.set hr) (fun q hq=>?_) hB h') h;rcases cE.1 hq with rfl|hq
 ·have fR:q<listed.size:=by rw[hc.size];exact(mV.1 ho).1
  simp[fR]
 exact getD_set_true (hd q hq)
def I1{n:Nat}(pre:List Nat)(i:Nat)(r1:List Nat)(j:Nat)(r2:List Nat){id:Nat}{Q:Exit->Act->ae->Prop}{a:Act}(hm:P.follows .mixedOrders=true)(hB:ae6 P O n pre i r1 j r2=true)(lH:a.tmps.size=n)(h:SL P O (fun a' w'=>SL P O (Q .normal) pre.reverse (i::r1) a' w'/\SL P O (Q .normal) pre.reverse (j::r2) a' w') [] pre a {w with drawn:=w.drawn+1}):(Code.region id O true).wpIn (Fw ro) 0 P Q a w:=by
 simp only[ae6,gG,beq_iff_eq]at hB;obtain⟨⟨⟨⟨⟨⟨⟨⟨⟨Y,J⟩,h3⟩,h4⟩,h5⟩,h6⟩,h7⟩,h8⟩,h9⟩,jR⟩:=hB;refine wpIn_region_any hm (qz (Q:=Q .normal) (fun _ _ h=>h) _ _ [] _ _ ?_);have gC:=Le (n:=n) Y J h3;have rH:=E8 gC (Q:=Q .normal) (r1.length+1) (fun a' w'=>SL P O (Q .normal) pre.reverse (i::r1) a' w'/\SL P O (Q .normal) pre.reverse (j::r2) a' w') pre (Array.replicate O.size false) [] a _ lH ⟨by simp,fun j o ho hl=>?_⟩ (fun q hq=>by cases hq) h6
  (fun a' w' hK hs hc hd=>⟨fun h0=>?_,fun k hk o ho=>?_⟩) h
 ·rw[h4]at rH;exact rH
 ·exfalso;rcases oA j O.size with h'|h'
  ·simp[h']at hl
  simp[FC (show(Array.replicate O.size false).size<=j by simpa using h')]at hl
 ·rw[h0]at h8;simp at h8
 have vk:∀q∈pre.reverse,(ph pre (Array.replicate O.size false)).getD q false=true:=fun q hq=>hd q (by simpa using hq)
 have h7':=w5.1 h7 k hk;simp only[Jt,beq_iff_eq]at h7';rw[show pre.reverse++([]:List Nat)=pre.reverse from kF _];rcases h7' with rfl|rfl
 ·exact OE gC hs hc vk hk h9 hK.1 o ho
 rw[<-h5];exact OE gC hs hc vk hk jR hK.2 o ho
section
variable{n:Nat}{K:jF}{hx:List (Nat×jF)}{F:jF}
def OL{id:Nat}(pre:List Nat)(i:Nat)(r1:List Nat)(j:Nat)(r2:List Nat)(hm:P.follows .mixedOrders=true)(hB:ae6 P O n pre i r1 j r2=true)
  (h:XL P n O true [] pre (fun e' w'=>XL P n O true pre.reverse (i::r1) K e' w'/\XL P n O true pre.reverse (j::r2) K e' w') e {w with drawn:=w.drawn+1}):X P n ro (.region id O true) K hx F e w:=fun a ha=>by
 refine I1 pre i r1 j r2 hm hB ha.size ?_;refine uK (fun a' w' ⟨e',FU,Y,J⟩=>⟨Y a' FU,J a' FU⟩) _ _ _ _ (h a ha)
end
def Ev{a b:rS}(Z:aw G L w)(ha:a.Ok L)(hb:b.Ok L):
  aA prog 182 #[gQ a.cells,gQ b.cells] w (bU fun u w'=>∃r:rS,u=gQ r.cells/\r.rg=eR a.rg b.rg/\lK r.cells/\aw G (lP r++L) w'):=by
 have hal:=ha.lo;have hah:=ha.hi;have tW:=hb.lo;have hbh:=hb.hi;obtain⟨qa,dqa,Oe,YP⟩:=sV a.rg.Bc;obtain⟨qb,dqb,tX,vm⟩:=sV b.rg.Bc;have HG:a.cells=[a.lv,a.hv, .bool (decide qa)]:=by rw[<-Oe];rfl
 have S4:b.cells=[b.lv,b.hv, .bool (decide qb)]:=by rw[<-tX];rfl
 rw[HG,S4];have ho:(eR a.rg b.rg).Bc=decide (qa/\qb):=by show(a.rg.Bc&&b.rg.Bc)=_;rw[Oe,tX,Bool.decide_and]
 have hh:(eR a.rg b.rg).hi=if a.rg.Bc=true then(if b.rg.Bc=true then []else b.rg.hi)else if b.rg.Bc=true then a.rg.hi else qX a.rg.hi b.rg.hi:=rfl
 refine wF [_,_] func182 ntmps182 ?_;refine wB 2 Z fun w b2 Z=>?_;refine wB 0 Z fun w b3 Z=>?_;refine wL 0 iP Z fun w b4 Z=>?_;refine aK ?_;refine qg (fun e w=>∃(nD:Option Addr) (pR b5:Nat),e=[(2,pQ b2),(3,pQ b3),(4,pQ b4),(5,pQ b5)]/\aw G (N b2 [a.lv,a.hv, .bool (decide qa)] 64::N b3 [b.lv,b.hv, .bool (decide qb)] 64::N b4 [nQ,nQ, .bool false] 64::N b5 [.slice nD (fL a.rg.lo b.rg.lo).length pR,nQ, .bool (decide (qa/\qb))] 64::row 5 1 (.slice nD (fL a.rg.lo b.rg.lo).length pR) (fL a.rg.lo b.rg.lo).length (cI (fL a.rg.lo b.rg.lo))::L) w) ?_ ?_
 ·refine OL [0,1,2,3,5,6] 4 [7,8,9,10,11,12,13] 12 [4,7,8,9,10,11,13] Cg kR ?_;replace Z:=Z.drawn (w.drawn+1);refine wD 1 ao Z ?_;refine wD 1 ao Z ?_;refine wD 1 bS Z ?_;refine aK ?_;refine⟨?_,?_⟩
  ·refine ed rfl Cw rfl (Eu Z (hal.of sF) (tW.of sF) ha.sl hb.sl) (fun w v10 hv q' hq=>?_) fun w v10 hv=>?_
   ·have Z:aw G (row 5 1 v10 _ _::_) w:=hv;have hq:=bK (l:=[6]) kR hq;simp only[cE,fQ,or_false]at hq;subst hq;exact bG rfl rfl rfl (aD.cw bS Z pK rfl)
   have Z:aw G (row 5 1 v10 _ _::_) w:=hv;obtain⟨nD,pR,rfl⟩:=aT Z;refine z1 ?_;refine ar (d:=13) rfl (fun Y=>?_) fun Y=>?_
   ·refine wD 1 bS Z ?_;refine wV 1 (v:= .agg #[.slice nD (fL a.rg.lo b.rg.lo).length pR,nQ, .bool (decide qb)]) ?_;refine kX rfl iP Z (fun w b5 Z q' hq=>?_) fun w b5 Z=>?_
    ·have hq:=bK (l:=[9,6,3,1]) kR hq;simp only[cE,fQ,or_false]at hq;rcases hq with rfl|rfl|rfl|rfl
     ·exact bG rfl rfl rfl (aD.cw bS Z pK rfl)
     ·exact bG rfl rfl rfl (aD.cw bS Z pK rfl)
     ·exact bG rfl rfl rfl (aD.cw ao Z pK rfl)
     exact bG rfl rfl rfl (aD.cw ao Z pK rfl)
    refine wN 0 (cs:=[.slice nD (fL a.rg.lo b.rg.lo).length pR,nQ, .bool (decide qb)]) (l':=[.slice nD (fL a.rg.lo b.rg.lo).length pR,nQ, .bool (decide qb)]) aQ (by intro u hu;simp at hu;rcases hu with rfl|rfl|rfl<;>rfl) Z (fun w Z=>?_);refine aK ?_;have e1:decide (qa/\qb)=decide qb:=bI.2 ⟨fun h=>h.2,fun h=>⟨Y,h⟩⟩;rw[e1];exact⟨[(2,_),(3,_),(4,_),(5,_)],sB,_,_,b5,rfl,Z.b [N b2 _ _,N b3 _ _,N b4 _ _,N b5 _ _,row 5 1 _ _ _]⟩
   refine wV 3 (v:= .agg #[.slice nD (fL a.rg.lo b.rg.lo).length pR,nQ, .bool (false)]) ?_;refine kX rfl iP Z (fun w b5 Z q' hq=>?_) fun w b5 Z=>?_
   ·have hq:=bK (l:=[9,6,3,1]) kR hq;simp only[cE,fQ,or_false]at hq;rcases hq with rfl|rfl|rfl|rfl
    ·exact adr rfl rfl rfl rfl rfl
    ·exact bG rfl rfl rfl (aD.cw bS Z pK rfl)
    ·exact bG rfl rfl rfl (aD.cw ao Z pK rfl)
    exact bG rfl rfl rfl (aD.cw ao Z pK rfl)
   refine wN 0 (cs:=[.slice nD (fL a.rg.lo b.rg.lo).length pR,nQ, .bool (false)]) (l':=[.slice nD (fL a.rg.lo b.rg.lo).length pR,nQ, .bool (false)]) aQ (by intro u hu;simp at hu;rcases hu with rfl|rfl|rfl<;>rfl) Z (fun w Z=>?_);refine aK ?_;have e1:decide (qa/\qb)=false:=cN (fun h=>Y h.1);rw[e1];exact⟨[(2,_),(3,_),(4,_),(5,_)],sB,_,_,b5,rfl,Z.b [N b2 _ _,N b3 _ _,N b4 _ _,N b5 _ _,row 5 1 _ _ _]⟩
  refine kX rfl iP Z (fun w b5 Z q' hq=>?_) fun w b5 Z=>?_
  ·have hq:=bK (l:=[6,3,1]) kR hq;simp only[cE,fQ,or_false]at hq;rcases hq with rfl|rfl|rfl
   ·exact bG rfl rfl rfl (aD.cw bS Z pK rfl)
   ·exact bG rfl rfl rfl (aD.cw ao Z pK rfl)
   exact bG rfl rfl rfl (aD.cw ao Z pK rfl)
  refine ed rfl Cw rfl (Eu Z (hal.of sF) (tW.of sF) ha.sl hb.sl) (fun w v10 hv q' hq=>?_) fun w v10 hv=>?_
  ·have Z:aw G (row 5 1 v10 _ _::_) w:=hv;have hq:=bK (l:=[6]) kR hq;simp only[cE,fQ,or_false]at hq;subst hq;exact bG rfl rfl rfl (aD.cw bS Z pK rfl)
  have Z:aw G (row 5 1 v10 _ _::_) w:=hv;obtain⟨nD,pR,rfl⟩:=aT Z;refine z1 ?_;refine ar (d:=13) rfl (fun J=>?_) fun J=>?_
  ·refine wD 1 bS Z ?_;refine wV 1 (v:= .agg #[.slice nD (fL a.rg.lo b.rg.lo).length pR,nQ, .bool (decide qb)]) ?_;refine wN 0 (cs:=[.slice nD (fL a.rg.lo b.rg.lo).length pR,nQ, .bool (decide qb)]) (l':=[.slice nD (fL a.rg.lo b.rg.lo).length pR,nQ, .bool (decide qb)]) aQ (by intro u hu;simp at hu;rcases hu with rfl|rfl|rfl<;>rfl) Z (fun w Z=>?_);refine aK ?_;have e1:decide (qa/\qb)=decide qb:=bI.2 ⟨fun h=>h.2,fun h=>⟨J,h⟩⟩;rw[e1];exact⟨[(2,_),(3,_),(4,_),(5,_)],sB,_,_,b5,rfl,Z.b [N b2 _ _,N b3 _ _,N b4 _ _,N b5 _ _,row 5 1 _ _ _]⟩
  refine wV 3 (v:= .agg #[.slice nD (fL a.rg.lo b.rg.lo).length pR,nQ, .bool (false)]) ?_;refine wN 0 (cs:=[.slice nD (fL a.rg.lo b.rg.lo).length pR,nQ, .bool (false)]) (l':=[.slice nD (fL a.rg.lo b.rg.lo).length pR,nQ, .bool (false)]) aQ (by intro u hu;simp at hu;rcases hu with rfl|rfl|rfl<;>rfl) Z (fun w Z=>?_);refine aK ?_;have e1:decide (qa/\qb)=false:=cN (fun h=>J h.1);rw[e1];exact⟨[(2,_),(3,_),(4,_),(5,_)],sB,_,_,b5,rfl,Z.b [N b2 _ _,N b3 _ _,N b4 _ _,N b5 _ _,row 5 1 _ _ _]⟩
 clear Z;rintro e w ⟨nD,pR,b5,rfl,Z⟩;refine wD 5 bS Z ?_;refine wI 2 (fun h3=>?_) fun h3=>?_
 ·refine z3 ?_;refine bg rfl rfl (aD.dB aQ Z pK sM) ?_;refine wN 0 (cs:=[.slice nD (fL a.rg.lo b.rg.lo).length pR,nQ, .bool (decide (qa/\qb))]) (l':=[.slice nD (fL a.rg.lo b.rg.lo).length pR,nQ, .bool (decide (qa/\qb))]) aQ (by intro u hu;simp at hu;rcases hu with rfl|rfl|rfl<;>rfl) Z (fun w Z=>?_);refine z2 ?_;exact dt rfl rfl ⟨_,rfl,(aD.dB aQ Z pK sM)⟩ (by
 have e1:(eR a.rg b.rg).hi=[]:=by rw[hh];rw[aB (YP.2 h3.1),aB (vm.2 h3.2)]
 refine⟨⟨eR a.rg b.rg, .slice nD (fL a.rg.lo b.rg.lo).length pR,nQ⟩,by rw[rS.cells,ho],rfl,by intro u hu;simp[rS.cells]at hu;rcases hu with rfl|rfl|rfl<;>rfl,?_⟩;have Z:=bB Z 5 1;unfold lP;simp only[e1];have hz:=(Z.b [N b2 _ _,N b3 _ _,N b4 _ _,N b5 _ _,row 5 1 (.slice nD _ _) _ _,row 5 1 (.slice none _ _) _ _]).t4;exact hz)
 refine wD 3 bS Z ?_;refine wI 2 (fun h4=>?_) fun h4=>?_
 ·refine wD 2 ao Z ?_;refine aO rfl il rfl (iW (m:=0) Z (hbh.of sF) hb.sh H) rfl fun w v32 hv=>?_;have Z:aw G (row 5 1 v32 _ _::_) w:=hv;obtain⟨a32,c32,rfl⟩:=aT Z;refine wS 1 (l':=[.slice nD (fL a.rg.lo b.rg.lo).length pR, .slice a32 (b.rg.hi).length c32, .bool (decide (qa/\qb))]) ao Z fun w Z=>?_;refine z3 ?_;refine bg rfl rfl (aD.dB aQ Z pK sM) ?_;refine wN 0 (cs:=[.slice nD (fL a.rg.lo b.rg.lo).length pR, .slice a32 (b.rg.hi).length c32, .bool (decide (qa/\qb))]) (l':=[.slice nD (fL a.rg.lo b.rg.lo).length pR, .slice a32 (b.rg.hi).length c32, .bool (decide (qa/\qb))]) aQ (by intro u hu;simp at hu;rcases hu with rfl|rfl|rfl<;>rfl) Z (fun w Z=>?_);refine z2 ?_;exact dt rfl rfl ⟨_,rfl,(aD.dB aQ Z pK sM)⟩ (by
 have e1:(eR a.rg b.rg).hi=b.rg.hi:=by rw[hh];rw[aB (YP.2 h4),aj (fun h=>h3 ⟨h4,vm.1 h⟩)]
 refine⟨⟨eR a.rg b.rg, .slice nD (fL a.rg.lo b.rg.lo).length pR, .slice a32 (b.rg.hi).length c32⟩,by rw[rS.cells,ho],rfl,by intro u hu;simp[rS.cells]at hu;rcases hu with rfl|rfl|rfl<;>rfl,?_⟩;unfold lP;simp only[e1];have hz:=(Z.b [N b2 _ _,N b3 _ _,N b4 _ _,N b5 _ _,row 5 1 (.slice nD _ _) _ _,row 5 1 (.slice a32 _ _) _ _]).t4;exact hz)
 refine wD 3 bS Z ?_;refine wI 2 (fun h5=>?_) fun h5=>?_
 ·refine wD 2 ao Z ?_;refine aO rfl il rfl (iW (m:=0) Z (hah.of sF) ha.sh H) rfl fun w v39 hv=>?_;have Z:aw G (row 5 1 v39 _ _::_) w:=hv;obtain⟨a39,c39,rfl⟩:=aT Z;refine wS 1 (l':=[.slice nD (fL a.rg.lo b.rg.lo).length pR, .slice a39 (a.rg.hi).length c39, .bool (decide (qa/\qb))]) ao Z fun w Z=>?_;refine z3 ?_;refine bg rfl rfl (aD.dB aQ Z pK sM) ?_;refine wN 0 (cs:=[.slice nD (fL a.rg.lo b.rg.lo).length pR, .slice a39 (a.rg.hi).length c39, .bool (decide (qa/\qb))]) (l':=[.slice nD (fL a.rg.lo b.rg.lo).length pR, .slice a39 (a.rg.hi).length c39, .bool (decide (qa/\qb))]) aQ (by intro u hu;simp at hu;rcases hu with rfl|rfl|rfl<;>rfl) Z (fun w Z=>?_);refine z2 ?_;exact dt rfl rfl ⟨_,rfl,(aD.dB aQ Z pK sM)⟩ (by
 have e1:(eR a.rg b.rg).hi=a.rg.hi:=by rw[hh];rw[aj (fun h=>h4 (YP.1 h)),aB (vm.2 h5)]
 refine⟨⟨eR a.rg b.rg, .slice nD (fL a.rg.lo b.rg.lo).length pR, .slice a39 (a.rg.hi).length c39⟩,by rw[rS.cells,ho],rfl,by intro u hu;simp[rS.cells]at hu;rcases hu with rfl|rfl|rfl<;>rfl,?_⟩;unfold lP;simp only[e1];have hz:=(Z.b [N b2 _ _,N b3 _ _,N b4 _ _,N b5 _ _,row 5 1 (.slice nD _ _) _ _,row 5 1 (.slice a39 _ _) _ _]).t4;exact hz)
 refine wD 2 ao Z ?_;refine wD 1 ao Z ?_;refine aO rfl Nb rfl (PK Z (hah.of sF) (hbh.of sF) ha.sh hb.sh) rfl fun w v22 hv=>?_;have Z:aw G (row 5 1 v22 _ _::_) w:=hv;obtain⟨a22,c22,rfl⟩:=aT Z;refine wS 1 (l':=[.slice nD (fL a.rg.lo b.rg.lo).length pR, .slice a22 (qX a.rg.hi b.rg.hi).length c22, .bool (decide (qa/\qb))]) ao Z fun w Z=>?_;refine z3 ?_;refine bg rfl rfl (aD.dB aQ Z pK sM) ?_;refine wN 0 (cs:=[.slice nD (fL a.rg.lo b.rg.lo).length pR, .slice a22 (qX a.rg.hi b.rg.hi).length c22, .bool (decide (qa/\qb))]) (l':=[.slice nD (fL a.rg.lo b.rg.lo).length pR, .slice a22 (qX a.rg.hi b.rg.hi).length c22, .bool (decide (qa/\qb))]) aQ (by intro u hu;simp at hu;rcases hu with rfl|rfl|rfl<;>rfl) Z (fun w Z=>?_);refine z2 ?_;exact dt rfl rfl ⟨_,rfl,(aD.dB aQ Z pK sM)⟩ (by
 have e1:(eR a.rg b.rg).hi=qX a.rg.hi b.rg.hi:=by rw[hh];rw[aj (fun h=>h4 (YP.1 h)),aj (fun h=>h5 (vm.1 h))]
 refine⟨⟨eR a.rg b.rg, .slice nD (fL a.rg.lo b.rg.lo).length pR, .slice a22 (qX a.rg.hi b.rg.hi).length c22⟩,by rw[rS.cells,ho],rfl,by intro u hu;simp[rS.cells]at hu;rcases hu with rfl|rfl|rfl<;>rfl,?_⟩;unfold lP;simp only[e1];have hz:=(Z.b [N b2 _ _,N b3 _ _,N b4 _ _,N b5 _ _,row 5 1 (.slice nD _ _) _ _,row 5 1 (.slice a22 _ _) _ _]).t4;exact hz)
def Cr{a b:rS}(Z:aw G L w)(ha:a.Ok L)(hb:b.Ok L):
  aA prog 262 #[gQ a.cells,gQ b.cells] w (bU fun u w'=>∃r:rS,u=gQ r.cells/\r.rg=eR a.rg b.rg/\lK r.cells/\aw G (lP r++L) w'):=by
 have hal:=ha.lo;have hah:=ha.hi;have tW:=hb.lo;have hbh:=hb.hi;obtain⟨qa,dqa,Oe,YP⟩:=sV a.rg.Bc;obtain⟨qb,dqb,tX,vm⟩:=sV b.rg.Bc;have HG:a.cells=[a.lv,a.hv, .bool (decide qa)]:=by rw[<-Oe];rfl
 have S4:b.cells=[b.lv,b.hv, .bool (decide qb)]:=by rw[<-tX];rfl
 rw[HG,S4];have ho:(eR a.rg b.rg).Bc=decide (qa/\qb):=by show(a.rg.Bc&&b.rg.Bc)=_;rw[Oe,tX,Bool.decide_and]
 have hh:(eR a.rg b.rg).hi=if a.rg.Bc=true then(if b.rg.Bc=true then []else b.rg.hi)else if b.rg.Bc=true then a.rg.hi else qX a.rg.hi b.rg.hi:=rfl
 refine wF [_,_] func262 ntmps262 ?_;refine wB 2 Z fun w b2 Z=>?_;refine wB 0 Z fun w b3 Z=>?_;refine wL 0 iP Z fun w b4 Z=>?_;refine wD 4 ao Z ?_;refine wD 1 ao Z ?_;refine aO rfl EU rfl (Gf Z (hal.of sF) (tW.of sF) ha.sl hb.sl) rfl fun w v10 hv=>?_;have Z:aw G (row 5 1 v10 _ _::_) w:=hv;obtain⟨nD,pR,rfl⟩:=aT Z;refine wV 0 (v:= .agg #[.slice nD (fL a.rg.lo b.rg.lo).length pR,nQ, .bool false]) ?_;refine wL 0 iP Z fun w b5 Z=>?_;refine wN 0 (cs:=[.slice nD (fL a.rg.lo b.rg.lo).length pR,nQ, .bool false]) (l':=[.slice nD (fL a.rg.lo b.rg.lo).length pR,nQ, .bool false]) aQ (by intro u hu;simp at hu;rcases hu with rfl|rfl|rfl<;>rfl) Z (fun w Z=>?_);refine wD 6 bS Z ?_;refine z1 ?_;refine bw (l1:=[3,4,5]) (l2:=[6]) rfl (d:=24) (qa/\qb) rfl ?_ ?_
 ·refine ar (d:=21) rfl (fun Y=>?_) fun Y=>?_
  ·refine wD 1 bS Z ?_;refine z2 ?_;refine cQ ?_
   first|exact(cN (fun h=>Y h.1)).symm|exact bI.2 ⟨fun h=>⟨Y,h⟩,fun h=>h.2⟩
  refine z4 ?_;refine cQ ?_
  first|exact(cN (fun h=>Y h.1)).symm|exact bI.2 ⟨fun h=>⟨Y,h⟩,fun h=>h.2⟩
 refine wI 2 (fun J=>?_) fun J=>?_
 ·refine wS 2 (l':=[.slice nD (fL a.rg.lo b.rg.lo).length pR,nQ, .bool true]) bS Z fun w Z=>?_;refine z3 ?_;refine bg rfl rfl (aD.dB aQ Z pK sM) ?_;refine wN 0 (cs:=[.slice nD (fL a.rg.lo b.rg.lo).length pR,nQ, .bool true]) (l':=[.slice nD (fL a.rg.lo b.rg.lo).length pR,nQ, .bool true]) aQ (by intro u hu;simp at hu;rcases hu with rfl|rfl|rfl<;>rfl) Z (fun w Z=>?_);refine z2 ?_;exact dt rfl rfl ⟨_,rfl,(aD.dB aQ Z pK sM)⟩ (by
 have e1:(eR a.rg b.rg).hi=[]:=by rw[hh];rw[aB (YP.2 J.1),aB (vm.2 J.2)]
 have e2:(eR a.rg b.rg).Bc=true:=by rw[ho];exact eW J
 refine⟨⟨eR a.rg b.rg, .slice nD (fL a.rg.lo b.rg.lo).length pR,nQ⟩,by rw[rS.cells,e2],rfl,by intro u hu;simp[rS.cells]at hu;rcases hu with rfl|rfl|rfl<;>rfl,?_⟩;have Z:=bB Z 5 1;unfold lP;simp only[e1];have hz:=(Z.b [N b2 _ _,N b3 _ _,N b4 _ _,N b5 _ _,row 5 1 (.slice nD _ _) _ _,row 5 1 (.slice none _ _) _ _]).t4;exact hz)
 refine wD 3 bS Z ?_;refine wI 2 (fun h3=>?_) fun h3=>?_
 ·refine wD 2 ao Z ?_;refine aO rfl bX rfl (cy Z (hbh.of sF) hb.sh) rfl fun w v31 hv=>?_;have Z:aw G (row 5 1 v31 _ _::_) w:=hv;obtain⟨a31,c31,rfl⟩:=aT Z;refine wS 1 (l':=[.slice nD (fL a.rg.lo b.rg.lo).length pR, .slice a31 (b.rg.hi).length c31, .bool false]) ao Z fun w Z=>?_;refine z3 ?_;refine bg rfl rfl (aD.dB aQ Z pK sM) ?_;refine wN 0 (cs:=[.slice nD (fL a.rg.lo b.rg.lo).length pR, .slice a31 (b.rg.hi).length c31, .bool false]) (l':=[.slice nD (fL a.rg.lo b.rg.lo).length pR, .slice a31 (b.rg.hi).length c31, .bool false]) aQ (by intro u hu;simp at hu;rcases hu with rfl|rfl|rfl<;>rfl) Z (fun w Z=>?_);refine z2 ?_;exact dt rfl rfl ⟨_,rfl,(aD.dB aQ Z pK sM)⟩ (by
 have e1:(eR a.rg b.rg).hi=b.rg.hi:=by rw[hh];rw[aB (YP.2 h3),aj (fun h=>J ⟨h3,vm.1 h⟩)]
 have e2:(eR a.rg b.rg).Bc=false:=by rw[ho];exact cN J
 refine⟨⟨eR a.rg b.rg, .slice nD (fL a.rg.lo b.rg.lo).length pR, .slice a31 (b.rg.hi).length c31⟩,by rw[rS.cells,e2],rfl,by intro u hu;simp[rS.cells]at hu;rcases hu with rfl|rfl|rfl<;>rfl,?_⟩;unfold lP;simp only[e1];have hz:=(Z.b [N b2 _ _,N b3 _ _,N b4 _ _,N b5 _ _,row 5 1 (.slice nD _ _) _ _,row 5 1 (.slice a31 _ _) _ _]).t4;exact hz)
 refine wD 3 bS Z ?_;refine wI 2 (fun h4=>?_) fun h4=>?_
 ·refine wD 2 ao Z ?_;refine aO rfl bX rfl (cy Z (hah.of sF) ha.sh) rfl fun w v38 hv=>?_;have Z:aw G (row 5 1 v38 _ _::_) w:=hv;obtain⟨a38,c38,rfl⟩:=aT Z;refine wS 1 (l':=[.slice nD (fL a.rg.lo b.rg.lo).length pR, .slice a38 (a.rg.hi).length c38, .bool false]) ao Z fun w Z=>?_;refine z3 ?_;refine bg rfl rfl (aD.dB aQ Z pK sM) ?_;refine wN 0 (cs:=[.slice nD (fL a.rg.lo b.rg.lo).length pR, .slice a38 (a.rg.hi).length c38, .bool false]) (l':=[.slice nD (fL a.rg.lo b.rg.lo).length pR, .slice a38 (a.rg.hi).length c38, .bool false]) aQ (by intro u hu;simp at hu;rcases hu with rfl|rfl|rfl<;>rfl) Z (fun w Z=>?_);refine z2 ?_;exact dt rfl rfl ⟨_,rfl,(aD.dB aQ Z pK sM)⟩ (by
 have e1:(eR a.rg b.rg).hi=a.rg.hi:=by rw[hh];rw[aj (fun h=>h3 (YP.1 h)),aB (vm.2 h4)]
 have e2:(eR a.rg b.rg).Bc=false:=by rw[ho];exact cN J
 refine⟨⟨eR a.rg b.rg, .slice nD (fL a.rg.lo b.rg.lo).length pR, .slice a38 (a.rg.hi).length c38⟩,by rw[rS.cells,e2],rfl,by intro u hu;simp[rS.cells]at hu;rcases hu with rfl|rfl|rfl<;>rfl,?_⟩;unfold lP;simp only[e1];have hz:=(Z.b [N b2 _ _,N b3 _ _,N b4 _ _,N b5 _ _,row 5 1 (.slice nD _ _) _ _,row 5 1 (.slice a38 _ _) _ _]).t4;exact hz)
 refine wD 2 ao Z ?_;refine wD 1 ao Z ?_;refine aO rfl Gx rfl (H2 Z (hah.of sF) (hbh.of sF) ha.sh hb.sh) rfl fun w v16 hv=>?_;have Z:aw G (row 5 1 v16 _ _::_) w:=hv;obtain⟨a16,c16,rfl⟩:=aT Z;refine wS 1 (l':=[.slice nD (fL a.rg.lo b.rg.lo).length pR, .slice a16 (qX a.rg.hi b.rg.hi).length c16, .bool false]) ao Z fun w Z=>?_;refine z3 ?_;refine bg rfl rfl (aD.dB aQ Z pK sM) ?_;refine wN 0 (cs:=[.slice nD (fL a.rg.lo b.rg.lo).length pR, .slice a16 (qX a.rg.hi b.rg.hi).length c16, .bool false]) (l':=[.slice nD (fL a.rg.lo b.rg.lo).length pR, .slice a16 (qX a.rg.hi b.rg.hi).length c16, .bool false]) aQ (by intro u hu;simp at hu;rcases hu with rfl|rfl|rfl<;>rfl) Z (fun w Z=>?_);refine z2 ?_;exact dt rfl rfl ⟨_,rfl,(aD.dB aQ Z pK sM)⟩ (by
 have e1:(eR a.rg b.rg).hi=qX a.rg.hi b.rg.hi:=by rw[hh];rw[aj (fun h=>h3 (YP.1 h)),aj (fun h=>h4 (vm.1 h))]
 have e2:(eR a.rg b.rg).Bc=false:=by rw[ho];exact cN J
 refine⟨⟨eR a.rg b.rg, .slice nD (fL a.rg.lo b.rg.lo).length pR, .slice a16 (qX a.rg.hi b.rg.hi).length c16⟩,by rw[rS.cells,e2],rfl,by intro u hu;simp[rS.cells]at hu;rcases hu with rfl|rfl|rfl<;>rfl,?_⟩;unfold lP;simp only[e1];have hz:=(Z.b [N b2 _ _,N b3 _ _,N b4 _ _,N b5 _ _,row 5 1 (.slice nD _ _) _ _,row 5 1 (.slice a16 _ _) _ _]).t4;exact hz)
def fG(x:Int×Int):List C:=[I x.1,I x.2]
def tN(x:Int×Int):Prop:=-1099511627776<=x.1/\x.1<=1099511627776/\-1099511627776<=x.2/\x.2<=1099511627776
def pL(r x:Int×Int):Int×Int:=(max x.1 r.1,min x.2 r.2)
def eV(r:Int×Int)(rs:List (Int×Int)):List (Int×Int):=(rs.map (pL r)).filter fun x=>decide (x.1<=x.2)
def ON(r:Int×Int)(rs:List (Int×Int))(x:Int×Int):eV r (rs++[x])=eV r rs++(if(pL r x).1<=(pL r x).2 then [pL r x]else []):=by
 unfold eV;rw[jX,Mn]
 by_cases h:(pL r x).1<=(pL r x).2<;>simp[h]
def OT(rs:List (Int×Int)):∀r∈rs.map fG,r.length=2:=fun r hr=>by
 obtain⟨x,_,rfl⟩:=dY.1 hr;rfl
def y6(r:Int×Int)(l l':List (Int×Int)):eV r (l++l')=eV r l++eV r l':=by
 unfold eV;rw[jX,Mn]
def I2{r x:Int×Int}(E:rs[k]?=some x)(hc:(pL r x).1<=(pL r x).2):(eV r rs)[(eV r (rs.take k)).length]?=some (pL r x):=by
 have hk:k<rs.length:=(qj.1 E).1;have e:rs=rs.take k++([x]++rs.drop (k+1)):=by
  have Y:=Mp k rs;rw[Ms hk]at Y;have J:rs[k]=x:=by rw[dG hk]at E;exact Option.some.inj E
  rw[J]at Y;exact Y.symm
 have e2:eV r rs=eV r (rs.take k)++([pL r x]++eV r (rs.drop (k+1))):=by
  conv=>lhs;rw[e]
  rw[y6,y6];have:eV r [x]=[pL r x]:=by unfold eV;simp[hc]
  rw[this]
 rw[e2,Xd (fP _),Tx];rfl
def DL{r x:Int×Int}(E:rs[k]?=some x):eV r (rs.take (k+1))=eV r (rs.take k)++(if(pL r x).1<=(pL r x).2 then [pL r x]else []):=by
 rw[rE,E];exact ON _ _ _
def ajo(r:Int×Int)(rs:List (Int×Int))(k:Nat)(args:List C)(_:List aF):Prop:=∃x,(eV r rs)[k]?=some x/\args=[gQ (fG x)]
def vp{A B:Prop}(h:(v= .bool true/\A)\/(v= .bool false/\B)):∃b:Bool,v= .bool b/\(b=true->A)/\(b=false->B):=by
 rcases h with⟨rfl,h⟩|⟨rfl,h⟩
 ·exact⟨true,rfl,fun _=>h,fun h=>by cases h⟩
 exact⟨false,rfl,(fun h=>by cases h),fun _=>h⟩
def Ga{b:Int}(Z:aw G L w):aA prog 274 #[.int .u64 n, .agg #[I a,I b]] w (bU fun r w'=>(∃m,r= .int .u64 m)/\aw G L w'):=by
 refine wF [_,_] func274 ntmps274 ?_;refine wB 2 Z fun w b3 Z=>?_;refine wD 5 ag Z ?_;refine CF rfl kR WB AJ rfl ?_;refine wD 1 ag Z ?_;refine CF rfl kR WB AJ rfl ?_;refine Y3 rfl rfl rfl ?_;refine z7 ?_;refine Y3 rfl rfl rfl ?_;refine wI 2 (fun Y=>?_) fun Y=>?_
 ·refine dk 5 ?_;exact⟨⟨_,rfl⟩,Z.tail⟩
 refine z5 ?_;refine NA rfl rfl rfl ?_;refine NA rfl rfl rfl ?_;refine dk 3 ?_;exact⟨⟨_,rfl⟩,Z.tail⟩
def xz{q:C}{b:Int}(Z:aw G L w)(hq:∃z,q= .pointer z):aA prog 328 #[q, .agg #[I a,I b]] w (bU fun r w'=>∃b2 b3,r= .func (.func 350) #[] #[pQ b2,pQ b3]/\aw G (N b2 [q] 111::N b3 [I a,I b] 379::L) w'):=by
 obtain⟨z,rfl⟩:=hq;refine wF [_,_] func328 ntmps328 ?_;refine wB 2 Z fun w b2 Z=>?_;refine wB 0 Z fun w b3 Z=>?_;refine z4 ?_;refine o7 (v1:=#[]) (v2:=#[pQ b2,pQ b3]) rfl (by intro z hz;simp at hz;rcases hz with rfl|rfl<;>exact⟨_,rfl⟩) sM (by simp only[su,ey,l9];rfl) ?_;refine dk 3 ?_;exact⟨b2,b3,rfl,Z.b [N b2 _ _,N b3 _ _]⟩
def XI{b:Int}{b2 b3:Nat}(fx:rs.length<=1000000):IA prog 350 [pQ b2,pQ b3] G (N b2 [pQ qb] 111::N b3 [I a,I b] 379::N qb [v] 377::row 379 2 v rs.length (rs.map fG).flatten::L) w (eV (a,b) rs).length (ajo (a,b) rs) (N b2 [pQ qb] 111::N b3 [I a,I b] 379::N qb [v] 377::row 379 2 v rs.length (rs.map fG).flatten::L):=by
 intro l h2 Jx w hy Z;have jr:aL (row 379 2 v rs.length (rs.map fG).flatten::L) (jk 2 v (rs.map fG)):=(jk.row sM (OT rs)).head _;obtain⟨sa,sc,Y,-,-⟩:=((jr.of sF).at Z).form;rw[cg]at Y;subst Y;refine wF [_,_,_] func350 ntmps350 ?_;refine wD 2 kJ Z ?_;refine wD 2 iH Z ?_;refine eE rfl kR bQ rfl ?_;refine z3 ?_;refine bx (fun m e w=>∃k:Nat,k<=rs.length/\m=rs.length-k/\e=[(0, .func (.yield l) #[] #[]),(1,pQ b2),(2,pQ b3),(9, .slice sa rs.length sc),(10,I rs.length),(11,I k)]/\aw G (h2 (eV (a,b) (rs.take k)).length::N b2 [pQ qb] 111::N b3 [I a,I b] 379::N qb [.slice sa rs.length sc] 377::row 379 2 (.slice sa rs.length sc) rs.length (rs.map fG).flatten::L) w)
  (m:=rs.length) sB
  ⟨0,de _,rfl,rfl,Z⟩ ?_
 rintro m e w ⟨k,hk,rfl,rfl,Z⟩;refine wI 5 (fun Y=>?_) fun Y=>?_
 ·have gn:k<rs.length:=H;obtain⟨x,E⟩:∃x,rs[k]?=some x:=⟨_,dG gn⟩;have kA:(rs.map fG)[k]?=some (fG x):=by rw[dh,E];rfl
  obtain⟨bb,oo,rfl⟩:=((jr.of sF).at Z).nn (by rw[cg];omega);refine wX 5 bQ fO ?_;refine bg rfl rfl (aD.many cH rfl (by rw[cZ];exact((jr.of sF).at Z).at kA)) ?_;refine wL 0 lY Z fun w b5 Z=>?_;refine wN 0 (cs:=fG x) (l':=[I x.1,I x.2]) cH (by intro u hu;simp[fG]at hu;rcases hu with rfl|rfl<;>rfl) Z (fun w Z=>?_);refine z2 ?_;refine wQ [0,1,2,3,4,5,6,7,8,9,10,11,12,13] Z fun Z=>?_
  refine wD 1 ag Z ?_;refine wD 1 ag Z ?_;refine Th rfl rfl rfl ?_;refine wD 1 ag Z ?_;refine wD 1 ag Z ?_;refine yZ rfl rfl rfl ?_;refine z1 ?_;refine Fh (l':=[_,_]) rfl tV rfl rfl ag rfl Z pK rfl rfl (fun w Z q' hq=>?_) fun w Z=>?_
  ·have hq:=bK (l:=[8]) kR hq;simp only[cE,fQ,or_false]at hq;subst hq;exact bG rfl rfl rfl (aD.cw ag Z pK rfl)
  refine wS 1 (l':=[_,_]) ag Z fun w Z=>?_;refine wD 4 ag Z ?_;refine wD 1 ag Z ?_;refine z2 ?_;refine ar (d:=32) rfl (fun J=>?_) fun J=>?_
  ·have h2c:(pL (a,b) x).1<=(pL (a,b) x).2:=J;refine z1 ?_;refine bg rfl rfl (aD.dB cH Z pK sM) ?_;refine wK rfl rfl rfl (hy (eV (a,b) (rs.take k)).length _ _ w ((qj.1 (I2 E h2c)).1) ⟨_,I2 E h2c,rfl⟩ (Z.pick (A:=h2 _) pK)) rfl fun w v35 hv=>?_;obtain⟨bq,rfl,tX,vm⟩:=vp hv;refine nh rfl rfl ?_;refine z2 ?_;refine fJ rfl (fun h3=>?_) fun h3=>?_
   ·refine Ca ?_;exact u6 rfl rfl (.inr ((vm (by simpa using h3)).b [N b5 _ _,Jx,N b2 _ _,N b3 _ _,N qb _ _,row _ _ _ _ _]).tail)
   refine z5 ?_;have Z:=((tX (by simpa using h3)).b [N b5 _ _,h2 _,N b2 _ _,N b3 _ _,N qb _ _,row _ _ _ _ _]).tail;refine⟨rs.length-(k+1),H,[(0,_),(1,_),(2,_),(9,_),(10,_),(11,I (k+1:Nat))],sB,k+1,H,rfl,rfl,?_⟩;rw[DL E,aB h2c,di];exact Z
  have h2c:¬(pL (a,b) x).1<=(pL (a,b) x).2:=J;refine z6 ?_;refine cD rfl ?_;refine z5 ?_;have Z:=(Z.b [N b5 _ _,h2 _,N b2 _ _,N b3 _ _,N qb _ _,row _ _ _ _ _]).tail;refine⟨rs.length-(k+1),H,[(0,_),(1,_),(2,_),(9,_),(10,_),(11,I (k+1:Nat))],sB,k+1,H,rfl,rfl,?_⟩;rw[DL E,aj h2c,kF];exact Z
 refine z1 ?_;exact u6 rfl rfl (.inl (by
 rw[kH H]at Z;exact Z))
def mu{n:Nat}{D:Nat}{ds:List C}(Z:aw G L w)(hp:dE (fS D) L R)(h:∀w',aw G R w'->sj P n fn Q e ds w'):sj P n fn Q e (pQ D::ds) w:=
 T1 ((Z.pick hp).eh) (h _ ((oB (Z.pick hp) _).tail))
def xm(hi:Int):List (Int×Int)->Int->List (Int×Int)
 |[],lo=>[(lo,hi)]
 |x::ws,lo=>(if lo<x.1 then [(lo,x.1-1)]else [])++(if x.2=hi then []else xm hi ws (x.2+1))
def Tl{r x:Int×Int}(h:(eV r rs)[k]?=some x):x.1<=x.2/\r.1<=x.1/\x.2<=r.2:=by
 have hm:=fK h;unfold eV at hm;obtain⟨Y,J⟩:=Ml.1 hm;obtain⟨y,_,rfl⟩:=dY.1 Y;unfold pL at J ⊢
 simp at J ⊢;omega
def ajr(gs:List (Int×Int))(k:Nat)(args:List C)(_:List aF):Prop:=∃x,gs[k]?=some x/\args=[gQ (fG x)]
def V7{l r:List α}{x:α}{g:Nat}(h:l.drop g=x::r):l[g]?=some x/\l.drop (g+1)=r/\g<l.length:=by
 have Y:(l.drop g)[0]?=some x:=by rw[h];rfl
 rw[QV,WY]at Y;refine⟨Y,?_,(qj.1 Y).1⟩;rw[<-TA,h];rfl
def m6{l:List α}{x:α}(h:l[k]?=some x):l.drop k=x::l.drop (k+1):=by
 have hk:=(qj.1 h).1;rw[Ms hk];rw[dG hk]at h;rw[Option.some.inj h]
def drop_nil{l:List α}{g:Nat}(h:l.drop g=[])(hg:g<=l.length):g=l.length:=by
 have:=aU List.length h;rw[jm,DY]at this;omega
def zS{q:C}{b:Int}(Z:aw G L w)(hq:∃z,q= .pointer z):aA prog 273 #[q, .agg #[I a,I b]] w (bU fun r w'=>∃b2 b3,r= .func (.func 327) #[] #[pQ b2,pQ b3]/\aw G (N b2 [q] 111::N b3 [I a,I b] 379::L) w'):=by
 obtain⟨z,rfl⟩:=hq;refine wF [_,_] func273 ntmps273 ?_;refine wB 2 Z fun w b2 Z=>?_;refine wB 0 Z fun w b3 Z=>?_;refine z4 ?_;refine o7 (v1:=#[]) (v2:=#[pQ b2,pQ b3]) rfl (by intro z hz;simp at hz;rcases hz with rfl|rfl<;>exact⟨_,rfl⟩) sM (by simp only[su,ey,l9];rfl) ?_;refine dk 3 ?_;exact⟨b2,b3,rfl,Z.b [N b2 _ _,N b3 _ _]⟩
def ai8(Jo:Nat->aF)(gs:List (Int×Int))(ws:List (Int×Int))(b:Int)(c3 b3 lo:Nat)(k:Nat):aF:=
 ex fun z:Int×Nat=>mr (gs.drop z.2=xm b (ws.drop k) z.1/\z.2<=gs.length/\-1099511627776<=z.1/\z.1<=1099511627777) (bt [Jo z.2,N c3 [I z.1,I b] 379,N b3 [.func (.yield lo) #[] #[]] 425])
def acO{b:Int}{c2 c3:Nat}(fx:rs.length<=1000000)(Hb:tN (a,b)):IA prog 327 [pQ c2,pQ c3] G (N c2 [pQ qb] 111::N c3 [I a,I b] 379::N qb [v] 377::row 379 2 v rs.length (rs.map fG).flatten::L) w (xm b (eV (a,b) rs) a).length (ajr (xm b (eV (a,b) rs) a)) (N qb [v] 377::row 379 2 v rs.length (rs.map fG).flatten::L):=by
 intro lo Jo Jx w hy Z;obtain⟨gs,hgs⟩:∃gs,gs=xm b (eV (a,b) rs) a:=⟨_,rfl⟩;rw[<-hgs]at hy ⊢;have akd:-1099511627776<=a/\a<=1099511627776/\-1099511627776<=b/\b<=1099511627776:=Hb;clear Hb;refine wF [_,_,_] func327 ntmps327 ?_;refine wB 2 Z fun w b3 Z=>?_;refine wD 4 kJ Z ?_;refine bg rfl rfl (aD.dB cH Z pK sM) ?_;refine aO rfl we rfl (xz Z ⟨_,rfl⟩) rfl fun w v7 hv=>?_;obtain⟨w2,w3,rfl,Z⟩:=hv;refine z2 ?_;have Z:=(Z.b [Jo 0,N c3 _ _,N b3 _ _,N w2 _ _,N w3 _ _,N qb _ _,row _ _ _ _ _]);have Z:=aw.oU (F:=fun z:Int×Nat=>mr (gs.drop z.2=xm b ((eV (a,b) rs).drop 0) z.1/\z.2<=gs.length/\-1099511627776<=z.1/\z.1<=1099511627777) (bt [Jo z.2,N c3 [I z.1,I b] 379,N b3 [.func (.yield lo) #[] #[]] 425])) (a,0) (aw.qE ⟨hgs,de _,H,H⟩ (aw.bJ (M:=[_,_,_]) Z));refine DG (e₀:=[(2,pQ c3),(3,pQ b3)]) (ai8 Jo gs (eV (a,b) rs) b c3 b3 lo) (ex fun q:Bool=>if q=true then Jo gs.length else Jx) [] rfl tZ rfl sG rfl Z (fun k args M h=>by obtain⟨x,_,rfl⟩:=h;rfl) (XI fx) ?_ ?_ ?_ ?_
 ·clear Z;intro l D1 o k args M w hk rI Z;obtain⟨x,E,rfl⟩:=rI;have lG:=Tl E;simp only at lG;obtain⟨⟨z,g⟩,Z⟩:=aw.nt Z;obtain⟨hz,Z⟩:=aw.lf Z;have Z:=aw.eY Z;simp only[nI,lE]at Z hz
  obtain⟨hz1,hz2,hz3,hz4⟩:=hz;rw[m6 E]at hz1;unfold xm at hz1
  refine wL 1 lY Z fun w b4 Z=>?_;refine wN 0 (cs:=fG x) (l':=[I x.1,I x.2]) cH (by intro u hu;simp[fG]at hu;rcases hu with rfl|rfl<;>rfl) Z (fun w Z=>?_);refine aK ?_;refine⟨_,Z.pick (A:=pt l o) pK,fun o' w Z=>?_⟩;refine z1 ?_;refine qg (fun e w=>∃g':Nat,e=[(2,pQ c3),(3,pQ b3),(4,pQ b4)]/\(gs.drop g'=(if x.2=b then []else xm b ((eV (a,b) rs).drop (k+1)) (x.2+1))/\g'<=gs.length)/\aw G (Jo g'::N c3 [I z,I b] 379::N b4 [I x.1,I x.2] 379::N b3 [.func (.yield lo) #[] #[]] 425::pt l o'::fS D1::M) w) ?_ ?_
  ·refine wD 3 ag Z ?_;refine wD 1 ag Z ?_;refine z2 ?_;refine ar (d:=14) rfl (fun Y=>?_) fun Y=>?_
   ·rw[aB H]at hz1;obtain⟨hg1,hg2,hg3⟩:=V7 hz1;refine wD 0 nk Z ?_;refine wD 1 ag Z ?_;refine wD 1 ag Z ?_;refine uO rfl rfl rfl H ?_;refine wV 0 (v:=gQ (fG (z,x.1-1))) ?_;refine wK rfl rfl rfl (hy g _ _ w hg3 ⟨_,hg1,rfl⟩ (Z.pick (A:=Jo _) pK)) rfl fun w v22 hv=>?_;obtain⟨bq,rfl,tX,vm⟩:=vp hv;refine nh rfl rfl ?_;refine z2 ?_;refine fJ rfl (fun J=>?_) fun J=>?_
    ·refine Ca ?_;exact aw.oU (F:=fun q:Bool=>if q=true then Jo gs.length else Jx) false (((vm (by simpa using J)).b [N b4 _ _,N c3 _ _,N b3 _ _,Jx,pt l _,fS D1]).t3)
    refine jo ?_;exact⟨[(2,_),(3,_),(4,_)],sB,g+1,rfl,⟨hg2,hg3⟩,(tX (by simpa using J)).b [Jo _,N c3 _ _,N b4 _ _,N b3 _ _,pt l _,fS D1]⟩
   rw[aj H,lE]at hz1;refine SP ?_;refine cD rfl ?_;refine jo ?_;exact⟨[(2,_),(3,_),(4,_)],sB,g,rfl,⟨hz1,hz2⟩,Z.b [Jo _,N c3 _ _,N b4 _ _,N b3 _ _,pt l _,fS D1]⟩
  clear Z;rintro e w ⟨g',rfl,⟨X2,hd2⟩,Z⟩;refine wD 4 ag Z ?_;refine wD 1 ag Z ?_;refine wI 2 (fun h3=>?_) fun h3=>?_
  ·refine Ca ?_;exact aw.oU (F:=fun q:Bool=>if q=true then Jo gs.length else Jx) true (by rw[aB h3]at X2;rw[drop_nil X2 hd2]at Z;exact(Z.b [N b4 _ _,N c3 _ _,N b3 _ _,Jo _,pt l _,fS D1]).t3)
  refine wD 3 ag Z ?_;refine wS 2 (l':=[_,_]) ag Z fun w Z=>?_;refine aK ?_;rw[aj h3]at X2;have Z:=(Z.b [N b4 _ _,Jo _,N c3 _ _,N b3 _ _,pt l _,fS D1]).tail;exact aw.oU (F:=fun z:Int×Nat=>mr (gs.drop z.2=xm b ((eV (a,b) rs).drop (k+1)) z.1/\z.2<=gs.length/\-1099511627776<=z.1/\z.1<=1099511627777) (bt [Jo z.2,N c3 [I z.1,I b] 379,N b3 [.func (.yield lo) #[] #[]] 425])) (x.2+1,g') (aw.qE ⟨X2,hd2,H,H⟩ (aw.bJ (M:=[_,_,_]) Z))
 ·clear Z;intro D1 w Z;obtain⟨⟨z,g⟩,Z⟩:=aw.nt Z;obtain⟨hz,Z⟩:=aw.lf Z;have Z:=aw.eY Z;simp only[nI,lE]at Z hz;obtain⟨hz1,hz2,hz3,hz4⟩:=hz;rw[ZF]at hz1
  obtain⟨hg1,hg2,hg3⟩:=V7 (show gs.drop g=(z,b)::[] from hz1);refine wD 1 nk Z ?_;refine bg rfl rfl (aD.dB cH Z pK sM) ?_;refine wK rfl rfl rfl (hy g [gQ (fG (z,b))] _ w hg3 ⟨_,hg1,rfl⟩ (Z.pick (A:=Jo _) pK)) rfl fun w v36 hv=>?_;have hge:=drop_nil hg2 hg3;have Z:=hv.elim (fun h=>aw.oU (F:=fun q:Bool=>if q=true then Jo gs.length else Jx) true (by have J:=h.2;rw[hge]at J;exact J)) (fun h=>aw.oU (F:=fun q:Bool=>if q=true then Jo gs.length else Jx) false h.2);refine aK ?_;refine cV rfl ?_;refine mu Z pK fun w Z=>?_;exact JS rfl (by
 obtain⟨q,Z⟩:=aw.nt Z;cases q
 ·have Z:aw G (Jx::_) w:=Z;have hz:=(Z.b [N c3 _ _,N b3 _ _,N w2 _ _,N w3 _ _,N c2 _ _,Jx,N qb _ _,row _ _ _ _ _]).t5;exact .inr hz
 ·have Z:aw G (Jo gs.length::_) w:=Z;have hz:=(Z.b [N c3 _ _,N b3 _ _,N w2 _ _,N w3 _ _,N c2 _ _,Jo _,N qb _ _,row _ _ _ _ _]).t5;exact .inl hz)
 ·clear Z;intro D1 w Z;refine cV rfl ?_;refine mu Z pK fun w Z=>?_;exact JS rfl (by
 obtain⟨q,Z⟩:=aw.nt Z;cases q
 ·have Z:aw G (Jx::_) w:=Z;have hz:=(Z.b [N w2 _ _,N w3 _ _,N c2 _ _,Jx,N qb _ _,row _ _ _ _ _]).t3;exact .inr hz
 ·have Z:aw G (Jo gs.length::_) w:=Z;have hz:=(Z.b [N w2 _ _,N w3 _ _,N c2 _ _,Jo _,N qb _ _,row _ _ _ _ _]).t3;exact .inl hz)
 intro id A hA;cases hA
section
variable{n:Nat}{done:List Nat}{s':aC}{p:String}{x:aM}
def aeU{c:aC}{kn kq:IntKind}{bytes:Nat}(ho:O[i]?=some ⟨some d, .call ⟨.builtin .append,#[x,y],#[s,s']⟩,t,p,af,g⟩)(hs:P.underlying s=some (.slice c))(hs':P.underlying s'=some (.int kn))(Dx:(P.info? c).map (·.size)=some z)(hz:0<z)(X4:(P.info? c).map (·.bytes)=some bytes)(Ed:(cd P c).map (·.size)=some z)(E:ev e x=some (nQ))(hy:ev e y=some (.int kq (k:Nat)))(hk:0<k)(Z:aw G L w)(X8:k<=maxLen)(VS:k*bytes<=140737488355328)(hpd:gZ P O dr done i=[])(h:∀w' b cap cells,k<=cap->cap<=maxLen->cells.length=cap*z->aw G (N b cells c::L) w'->XL P n O dr (i::done) r K ((d,sQ b k cap)::e) w')(hd:Nat.blt d n=true:=by exact rfl)(hg:Gd O e g:=by exact gD):XL P n O dr done (i::r) K e w:=by
 have Ul:k<=9223372036854775807:=by simp only[maxLen]at X8;omega
 cases hi:P.info? c with
 |none=>simp[hi]at Dx
 |some inf=>
  have lH:inf.size=z:=by simpa [hi]using Dx
  have RR:inf.bytes=bytes:=by simpa [hi]using X4
  cases sy:inf.zero with
  |none=>simp[cd,hi,sy]at Ed
  |some zv=>
   have Mc:zv.cells.size=z:=by simpa [cd,hi,sy]using Ed
   have SV:=Go.Lib.run_append_nil_zeros (P:=P) w s s' t c inf zv kq kn hs hs' hi sy k hk H H (by rw[RR];omega);have hge:=grownCap_ge w k 0 c;have YM:grownCap w k 0 c<=maxLen:=grownCap_le_maxLen w k 0 c X8;have J:=(Z.drawn (w.drawn+1)).push (.cells (Builtin.zeroCells zv.cells k++Builtin.zeroCells zv.cells (grownCap w k 0 c-k)) c (0,0));have e1:Builtin.zeroCells zv.cells k++Builtin.zeroCells zv.cells (grownCap w k 0 c-k)=((Builtin.zeroCells zv.cells k).toList++(Builtin.zeroCells zv.cells (grownCap w k 0 c-k)).toList).toArray:=by apply Array.ext';simp
   refine jG ho (by simpa [dA]using hd) hg (ρ:=rh e) (by intro z hZ;simp[Op.operands,Call.operands]at hZ;exact Hz E hy hZ) rfl (v:= .slice (some ⟨w.heap.size,0,none⟩) k (grownCap w k 0 c)) (w':=w.drew.alloc (.cells (Builtin.zeroCells zv.cells k++Builtin.zeroCells zv.cells (grownCap w k 0 c-k)) c)) ?_ (gM hpd) (h _ _ _ ((Builtin.zeroCells zv.cells k).toList++(Builtin.zeroCells zv.cells (grownCap w k 0 c-k)).toList) hge YM ?_ ?_)
   ·simp only[execOp,resolve,invoke,builtin,al,aG,ah,su,ey,l9,bM E,bM hy,SV]
   ·rw[di,TJ,TJ,size_zeroCells,size_zeroCells,Mc,<-zg]
    congr 1;omega
   rw[e1]at J ⊢;exact J
def Fj{c:aC}{bytes:Nat}{rs:List (List C)}(ho:O[i]?=some ⟨some d, .call ⟨.builtin .append,#[x,y],#[s,s]⟩,t,p,af,g⟩)(hs:P.underlying s=some (.slice c))(Dx:(P.info? c).map (·.size)=some z)(X4:(P.info? c).map (·.bytes)=some bytes)(Ed:(cd P c).map (·.size)=some z)(E:ev e x=some v)(hy:ev e y=some u)(Z:aw G L w)(hp:dE (row c z v m xs) L R)(hr:jk z u rs w)(Y:lK rs.flatten)(X8:m+rs.length<=maxLen)(VS:(m+rs.length)*bytes<=140737488355328)(hpd:gZ P O dr done i=[])(h:∀w' v',aw G (row c z v' (m+rs.length) (xs++rs.flatten)::R) w'->XL P n O dr (i::done) r K ((d,v')::e) w')(hd:Nat.blt d n=true:=by exact rfl)(hg:Gd O e g:=by exact gD):XL P n O dr done (i::r) K e w:=by
 rcases hr with⟨a,rfl,-,rfl⟩|⟨b,o,cap,rfl,J,h3,h4⟩
 ·cases hi:P.info? c with
  |none=>simp[hi]at Dx
  |some inf=>
   have hle:∃a' c',v= .slice a' m c'/\m<=c':=by
    obtain⟨_,h|⟨b,cap,cur,h,h',_⟩⟩:=qR (Z.pick hp)
    ·obtain⟨rfl,rfl,_⟩:=h;exact⟨none,0,rfl,fP _⟩
    exact⟨_,cap,h,h'⟩
   obtain⟨a',c',rfl,hle⟩:=hle;have hl:∀(x:Addr),(loadCells x 0).run P w= .ok #[] w:=fun x=>by simpa using run_loadCells_list (P:=P) w x [] sM
   have SV:(Builtin.append_ #[s,s] t #[.slice a' m c', .slice a 0 0]).run P w= .ok (.slice a' m c') w:=by
    cases a'<;>cases a<;>simp[Builtin.append_,aE hs,Builtin.lenOf,Builtin.firstCells,sizeOf,typeInfo,hi,hle,storeCells,hl]
   refine jG ho (by simpa [dA]using hd) hg (ρ:=rh e) (by intro z hZ;simp[Op.operands,Call.operands]at hZ;exact Hz E hy hZ) rfl (v:= .slice a' m c') (w':=w) ?_ (gM hpd) (h _ _ (by simpa using Z.pick hp));simp only[execOp,resolve,invoke,builtin,al,aG,ah,su,ey,l9,bM E,bM hy,SV]
 exact eF (k:=rs.length) (hd:=hd) (hg:=hg) ho hs Dx X4 Ed E hy Z hp h4 (gy h3) Y X8 VS hpd h
end
def BN(Z:aw G L w)(h0:0<k)(hk:k<=1000000000):aA prog 329 #[nQ,I k] w (bU fun r w'=>aw G (row 379 2 r 0 []::L) w'):=by
 refine wF [_,_] func329 ntmps329 ?_;refine wI 10 (fun Y=>?_) fun Y=>?_
 ·exact aS Y H
 refine z6 ?_;refine aei rfl bQ rfl ?_;refine z1 ?_;refine eE rfl kR bQ rfl ?_;refine wI 9 (fun h3=>?_) fun h3=>?_
 ·refine z3 ?_;refine aei rfl bQ rfl ?_;refine y0 rfl bQ vu rfl sM rfl ⟨H,H⟩ ?_;refine z1 ?_;refine aeU (k:=k) rfl bQ dD fO dM og iF rfl (by show some (I ((k:Int)))=_;rfl) h0 Z mL H rfl (fun w b22 cap cells Uz X3 hc3 Z=>?_);refine z1 ?_;refine eE rfl kR bQ rfl ?_;refine y0 rfl bQ vu rfl sM rfl ⟨H,H⟩ ?_;refine dk 8 ?_;exact lC (xs:=[]) (cur:=cells) Z rfl (de _) X3 (by simpa using hc3)
 exact aS h3 H
def so(ls:List (List (Int×Int))):Nat:=(ls.map List.length).sum
def NL(ls:List (List (Int×Int)))(l:List (Int×Int)):so (ls++[l])=so ls+l.length:=by simp[so]
def wP:∀(ls:List (List (Int×Int))) (k:Nat),so (ls.take k)<=so ls
 |[],k=>by simp
 |l::ls,0=>by simp[so]
 |l::ls,k+1=>by
  have:=wP ls k;simp only[so,Xa,ey,QS]at this ⊢;omega
def Xo(l:List (Int×Int)):lK (l.map fG).flatten:=fun u hu=>by
 obtain⟨r,hr,hu⟩:=List.mem_flatten.1 hu;obtain⟨x,_,rfl⟩:=dY.1 hr;simp[fG]at hu;rcases hu with rfl|rfl<;>rfl
def bV{l:List α}{x:α}(h:l[k]?=some x):l.take (k+1)=l.take k++[x]:=by rw[rE,h];rfl
def yy{vs:List C}{ls:List (List (Int×Int))}(Z:aw G L w)(XO:aL L (oJ v vs))(hlen:vs.length=ls.length)(xU:∀(k:Nat) (u:C) (l:List (Int×Int)),vs[k]?=some u->ls[k]?=some l->aL L (jk 2 u (l.map fG)))(h0:0<so ls)(hk:so ls<=1000000000)(hl9:ls.length<=1000000):
  aA prog 275 #[v] w (bU fun r w'=>aw G (row 379 2 r (so ls) (ls.flatten.map fG).flatten::L) w'):=by
 obtain⟨sa,sc,Y⟩:=(XO.at Z).form;subst Y;refine wF [_] func275 ntmps275 ?_;refine YW ?_;refine eE rfl kR ir rfl ?_;refine z3 ?_;refine bx (fun m e w=>∃k:Nat,k<=ls.length/\m=ls.length-k/\e=[(0, .slice sa vs.length sc),(3,I (so (ls.take k):Nat)),(9, .slice sa vs.length sc),(10,I vs.length),(11,I k)]/\aw G L w)
  (m:=ls.length) sB
  ⟨0,de _,rfl,rfl,Z⟩ ?_
 rintro m e w ⟨k,yp,rfl,rfl,Z⟩;refine wI 5 (fun Y=>?_) fun Y=>?_
 ·have gn:k<ls.length:=H;obtain⟨x,E⟩:∃x,ls[k]?=some x:=⟨_,dG gn⟩;obtain⟨u,hu⟩:∃u,vs[k]?=some u:=⟨_,dG H⟩;have hku:=xU k u x hu E;obtain⟨ua,uc,J,-,-⟩:=(hku.at Z).form;rw[cg]at J;subst J;have VN:so (ls.take (k+1))=so (ls.take k)+x.length:=by rw[bV E];exact NL _ _
  have hs2:=wP ls (k+1);obtain⟨bb,oo,rfl⟩:=(XO.at Z).nn H;refine wY 5 ir oy ?_;refine bg rfl rfl (aD.one iH ((XO.at Z).at (by rw[cZ];exact hu))) ?_;refine z6 ?_;refine eE rfl kR bQ rfl ?_;refine wI 8 (fun J=>?_) fun J=>?_
  ·exact aS J H
  refine z5 ?_;exact⟨ls.length-(k+1),H,[(0,_),(3,I (so (ls.take (k+1)):Nat)),(9,_),(10,_),(11,I (k+1:Nat))],si.mk (gd.cons rfl (gd.cons (by rw[VN];rfl) (gd.cons rfl (gd.cons rfl (gd.cons rfl (gd.nil _)))))) rfl,k+1,H,rfl,rfl,Z⟩
 have oY:k=ls.length:=H;subst oY;rw[qS];refine z4 ?_;refine aO rfl lh rfl (BN (k:=so ls) Z h0 hk) rfl fun w v24 hv=>?_;have Z:aw G (row 379 2 v24 0 []::_) w:=hv;refine z6 ?_;refine eE rfl kR ir rfl ?_;refine z3 ?_;refine bx (fun m e w=>∃(k:Nat) (z:C),k<=ls.length/\m=ls.length-k/\e=[(6,z),(25, .slice sa vs.length sc),(26,I vs.length),(27,I k)]/\aw G (row 379 2 z (so (ls.take k)) ((ls.take k).flatten.map fG).flatten::L) w)
  (m:=ls.length) sB
  ⟨0,_,de _,rfl,rfl,Z⟩ ?_
 rintro m e w ⟨k,z,yp,rfl,rfl,Z⟩;refine wI 5 (fun h3=>?_) fun h3=>?_
 ·have gn:k<ls.length:=H;obtain⟨x,E⟩:∃x,ls[k]?=some x:=⟨_,dG gn⟩;obtain⟨u,hu⟩:∃u,vs[k]?=some u:=⟨_,dG H⟩;have hku:=xU k u x hu E;have VN:so (ls.take (k+1))=so (ls.take k)+x.length:=by rw[bV E];exact NL _ _
  have hs2:=wP ls (k+1);have Uz:((ls.take (k+1)).flatten.map fG).flatten=((ls.take k).flatten.map fG).flatten++(x.map fG).flatten:=by rw[bV E];simp
  obtain⟨bb,oo,rfl⟩:=((XO.of sF).at Z).nn H;refine wY 5 ir oy ?_;refine bg rfl rfl (aD.one iH (((XO.of sF).at Z).at (by rw[cZ];exact hu))) ?_;refine z5 ?_;refine Fj (m:=so (ls.take k)) (rs:=x.map fG) rfl bQ fO og iF rfl rfl Z pK ((hku.of sF).at Z) (Xo x) (by rw[cg];simp only[maxLen];omega) (by rw[cg];omega) rfl (fun w v33 Z=>?_);refine z6 ?_;refine⟨ls.length-(k+1),H,[(6,_),(25,_),(26,_),(27,I (k+1:Nat))],sB,k+1,_,H,rfl,rfl,?_⟩;rw[VN,Uz];rw[cg]at Z;exact Z
 refine z7 ?_;exact dt rfl rfl rfl (by
 have oY:k=ls.length:=H;subst oY;rw[qS]at Z;exact Z)
structure abK where
 below:List (Int×Int)
 cW:List (Int×Int)
 r:Int×Int
def ie(s:abK)(x:Int×Int):abK:=
 if x.2<s.r.1/\x.2+1<s.r.1 then⟨s.below++[x],s.cW,s.r⟩
 else if s.r.2<x.1/\s.r.2<x.1-1 then⟨s.below,s.cW++[x],s.r⟩
 else⟨s.below,s.cW,(min s.r.1 x.1,max s.r.2 x.2)⟩
def AI(rs:List (Int×Int))(lo hi:Int):abK:=rs.foldl ie ⟨[],[],(lo,hi)⟩
def E4(rs:List (Int×Int))(lo hi:Int):List (Int×Int):=(AI rs lo hi).below++[(AI rs lo hi).r]++(AI rs lo hi).cW
def Yw(rs:List (Int×Int))(x:Int×Int)(lo hi:Int):AI (rs++[x]) lo hi=ie (AI rs lo hi) x:=by unfold AI;rw[List.foldl_append];rfl
def OC{x:Int×Int}(lo hi:Int)(E:rs[k]?=some x):AI (rs.take (k+1)) lo hi=ie (AI (rs.take k) lo hi) x:=by rw[bV E,Yw]
structure ahH(n:Nat)(s:abK):Prop where
 r:tN s.r
 b:s.below.length+s.cW.length<=n
def aeH{hi:Int}(h:tN (lo,hi))(Dy:∀x∈rs,tN x):∀k,k<=rs.length->ahH k (AI (rs.take k) lo hi):=by
 intro k
 induction k with
 |zero=>intro _;exact⟨h,by simp[AI]⟩
 |succ k ih=>
  intro hk;have lR:=ih H;obtain⟨x,E⟩:∃x,rs[k]?=some x:=⟨_,dG H⟩;have lG:=Dy x (fK E);rw[OC lo hi E];obtain⟨Y,J⟩:=lR;unfold ie
  repeat' split
  ·exact⟨Y,by simp;omega⟩
  ·exact⟨Y,by simp;omega⟩
  refine⟨?_,by simp;omega⟩;unfold tN at Y lG ⊢;simp only;omega
def BO{hi:Int}(Z:aw G (N qb [v] 377::row 379 2 v rs.length (rs.map fG).flatten::L) w)(hlh:lo<=hi)(fx:tN (lo,hi))(Dy:∀x∈rs,tN x)(YI:rs.length<=100000):
  aA prog 210 #[pQ qb,I lo,I hi] w (bU fun r w'=>(∃n,r=I n)/\∃v',aw G (N qb [v'] 377::row 379 2 v' (E4 rs lo hi).length ((E4 rs lo hi).map fG).flatten::L) w'):=by
 obtain⟨va,vc,rfl⟩:=aT (Z.pick (A:=row _ _ v _ _) pK);have jr:aL (row 379 2 (.slice va rs.length vc) rs.length (rs.map fG).flatten::L) (jk 2 (.slice va rs.length vc) (rs.map fG)):=(jk.row sM (OT rs)).head _;refine wF [_,_,_] func210 ntmps210 ?_;refine wI 11 (fun Y=>?_) fun Y=>?_
 ·exact aS Y H
 refine wV 5 (v:=gQ (fG (lo,hi))) ?_;refine wL 0 lY Z fun w b7 Z=>?_;refine wN 0 (cs:=fG (lo,hi)) (l':=fG (lo,hi)) cH (by intro u hu;simp[fG]at hu;rcases hu with rfl|rfl<;>rfl) Z (fun w Z=>?_);refine wL 3 Qv Z fun w b8 Z=>?_;refine wS 0 (l':=[.int .u64 0]) qC Z fun w Z=>?_;refine z5 ?_;refine bg rfl rfl (aD.dB cH Z pK (by simp[fG])) ?_;refine aO rfl yL rfl (zS Z ⟨_,rfl⟩) rfl fun w v22 hv=>?_;obtain⟨c2,c3,rfl,Z⟩:=hv;refine z2 ?_;have Z:=aw.oU (F:=fun n:Int=>N b8 [.int .u64 n] 380) 0 (Z.b [N b8 _ _,N c2 _ _,N c3 _ _,N qb _ _,row _ _ _ _ _,N b7 _ _]);refine DG (e₀:=[(8,pQ b8)]) (fun _=>ex fun n:Int=>N b8 [.int .u64 n] 380) (fun _=>False) [] rfl wg rfl sG rfl Z (fun k args M h=>by obtain⟨x,_,rfl⟩:=h;rfl) (acO H fx) ?_ ?_ ?_ ?_
 ·clear Z;intro l D1 o k args M w hk rI Z;obtain⟨x,E,rfl⟩:=rI;obtain⟨n,Z⟩:=aw.nt Z;refine wL 1 lY Z fun w b9 Z=>?_;refine wN 0 (cs:=fG x) (l':=[I x.1,I x.2]) cH (by intro u hu;simp[fG]at hu;rcases hu with rfl|rfl<;>rfl) Z (fun w Z=>?_);refine aK ?_;refine⟨_,Z.pick (A:=pt l o) pK,fun o' w Z=>?_⟩;refine wD 2 qC Z ?_;refine bg rfl rfl (aD.dB cH Z pK sM) ?_;refine aO rfl EP rfl (Ga Z) rfl fun w v26 hv=>?_;obtain⟨⟨m',rfl⟩,Z⟩:=hv;refine wS 0 (l':=[.int .u64 m']) qC Z fun w Z=>?_;refine aK ?_;exact aw.oU m' (Z.b [N b9 _ _,N b8 _ _,pt l _,fS D1]).tail
 ·clear Z;intro D1 w Z;obtain⟨n,Z⟩:=aw.nt Z;refine wD 11 iH Z ?_;refine eE rfl kR bQ rfl ?_;refine z3 ?_;have Z:=bB (bB Z 379 2) 379 2;have Z:=Z.b [N b7 _ _,row _ _ (nQ) _ _,row _ _ (nQ) _ _,N b8 _ _,fS D1,N qb _ _,row _ _ _ _ _];refine bx (fun m e w=>∃(k:Nat) (v1 v2:C),k<=rs.length/\m=rs.length-k/\e=[(1000000000,pQ D1),(0,pQ qb),(7,pQ b7),(8,pQ b8),(10,v1),(11,v2),(30, .slice va rs.length vc),(31,I rs.length),(32,I k)]/\aw G (N b7 (fG (AI (rs.take k) lo hi).r) 379::row 379 2 v1 (AI (rs.take k) lo hi).below.length ((AI (rs.take k) lo hi).below.map fG).flatten::row 379 2 v2 (AI (rs.take k) lo hi).cW.length ((AI (rs.take k) lo hi).cW.map fG).flatten::N b8 [.int .u64 n] 380::fS D1::N qb [.slice va rs.length vc] 377::row 379 2 (.slice va rs.length vc) rs.length (rs.map fG).flatten::L) w)
   (m:=rs.length) sB
   ⟨0,_,_,de _,rfl,rfl,Z⟩ ?_
  rintro m e w ⟨k,v1,v2,hk,rfl,rfl,Z⟩;have hao:=aeH fx Dy k hk;have jQ:=fun x E=>OC (rs:=rs) (k:=k) (x:=x) lo hi E
  obtain⟨S,hS⟩:∃S,S=AI (rs.take k) lo hi:=⟨_,rfl⟩;rw[<-hS]at hao Z jQ;obtain⟨hr,tW⟩:=hao;unfold tN at hr
  refine wI 5 (fun J=>?_) fun J=>?_
  ·have gn:k<rs.length:=H;obtain⟨x,E⟩:∃x,rs[k]?=some x:=⟨_,dG gn⟩;have lG:=Dy x (fK E);unfold tN at lG;have kA:(rs.map fG)[k]?=some (fG x):=by rw[dh,E];rfl
   have jQ:=jQ x E;unfold ie at jQ;obtain⟨bb,oo,rfl⟩:=((jr.of sF).at Z).nn (by rw[cg];omega);refine wX 5 bQ fO ?_;refine bg rfl rfl (aD.many cH rfl (by rw[cZ];exact((jr.of sF).at Z).at kA)) ?_;refine wL 0 lY Z fun w b13 Z=>?_;refine wN 0 (cs:=fG x) (l':=[I x.1,I x.2]) cH (by intro u hu;simp[fG]at hu;rcases hu with rfl|rfl<;>rfl) Z (fun w Z=>?_);refine wD 5 ag Z ?_;refine wD 1 ag Z ?_;refine z2 ?_;refine bw (l1:=[6,7,8,9,10,11,12]) (l2:=[13]) rfl (d:=61) (x.2<S.r.1/\x.2+1<S.r.1) rfl ?_ ?_
   ·refine ar (d:=54) rfl (fun h3=>?_) fun h3=>?_
    ·refine wD 1 ag Z ?_;refine CG rfl rfl rfl H ?_;refine wD 1 ag Z ?_;exact wq 3
    exact wq 8
   refine wI 2 (fun h4=>?_) fun h4=>?_
   ·refine z2 ?_;refine bg rfl rfl (aD.dB cH Z pK sM) ?_;refine fb (cs:=fG x) rfl bQ fO iF dM rfl rfl rfl Z rfl fun w b64 Z=>?_;refine eF (m:=S.below.length) (k:=1) (news:=fG x) rfl bQ fO og iF rfl rfl Z (show dE (row 379 2 v1 _ _) _ _ from pK) (Rd.iq Z pK) rfl (by intro u hu;simp[fG]at hu;rcases hu with rfl|rfl<;>rfl) mL H rfl (fun w v65 Z=>?_);refine z6 ?_;refine⟨rs.length-(k+1),H,[(1000000000,_),(0,_),(7,_),(8,_),(10,_),(11,_),(30,_),(31,_),(32,I (k+1:Nat))],sB,k+1,_,_,H,rfl,rfl,?_⟩;rw[jQ,aB h4];have e1:((S.below++[x]).map fG).flatten=(S.below.map fG).flatten++fG x:=by simp
    simp only[di,Jy,e1];exact(Z.b [N b64 _ _,N b13 _ _,N b7 _ _,row _ _ v65 _ _,row _ _ v2 _ _,N b8 _ _,fS D1,N qb _ _,row _ _ _ _ _]).t2
   refine wD 3 ag Z ?_;refine wD 1 ag Z ?_;refine z2 ?_;refine bw (l1:=[6,7,8,9,10,11,12]) (l2:=[13]) rfl (d:=79) (S.r.2<x.1/\S.r.2<x.1-1) rfl ?_ ?_
   ·refine ar (d:=72) rfl (fun h5=>?_) fun h5=>?_
    ·refine wD 1 ag Z ?_;refine uO rfl rfl rfl H ?_;refine wD 1 ag Z ?_;exact wq 3
    exact wq 8
   refine wI 2 (fun h6=>?_) fun h6=>?_
   ·refine z2 ?_;refine bg rfl rfl (aD.dB cH Z pK sM) ?_;refine fb (cs:=fG x) rfl bQ fO iF dM rfl rfl rfl Z rfl fun w b82 Z=>?_;refine eF (m:=S.cW.length) (k:=1) (news:=fG x) rfl bQ fO og iF rfl rfl Z (show dE (row 379 2 v2 _ _) _ _ from pK) (Rd.iq Z pK) rfl (by intro u hu;simp[fG]at hu;rcases hu with rfl|rfl<;>rfl) mL H rfl (fun w Vc Z=>?_);refine z6 ?_;refine⟨rs.length-(k+1),H,[(1000000000,_),(0,_),(7,_),(8,_),(10,_),(11,_),(30,_),(31,_),(32,I (k+1:Nat))],sB,k+1,_,_,H,rfl,rfl,?_⟩;rw[jQ,aj h4,aB h6];have e1:((S.cW++[x]).map fG).flatten=(S.cW.map fG).flatten++fG x:=by simp
    simp only[di,Jy,e1];exact(Z.b [N b82 _ _,N b13 _ _,N b7 _ _,row _ _ v1 _ _,row _ _ Vc _ _,N b8 _ _,fS D1,N qb _ _,row _ _ _ _ _]).t2
   refine wQ [0,1,2,3,4,5,6,7,8,9,10,11,12,13] Z fun Z=>?_
   refine wD 1 ag Z ?_;refine wD 1 ag Z ?_;refine yZ rfl rfl rfl ?_;refine wD 1 ag Z ?_;refine wD 1 ag Z ?_;refine Th rfl rfl rfl ?_;refine z1 ?_;refine Fh (l':=[_,_]) rfl tV rfl rfl ag rfl Z pK rfl rfl (fun w Z q' hq=>?_) fun w Z=>?_
   ·have hq:=bK (l:=[8]) kR hq;simp only[cE,fQ,or_false]at hq;subst hq;exact bG rfl rfl rfl (aD.cw ag Z pK rfl)
   refine wS 1 (l':=[_,_]) ag Z fun w Z=>?_;refine z5 ?_;refine⟨rs.length-(k+1),H,[(1000000000,_),(0,_),(7,_),(8,_),(10,_),(11,_),(30,_),(31,_),(32,I (k+1:Nat))],sB,k+1,_,_,H,rfl,rfl,?_⟩;rw[jQ,aj h4,aj h6];have hz:=(Z.b [N b13 _ _,N b7 _ _,row _ _ v1 _ _,row _ _ v2 _ _,N b8 _ _,fS D1,N qb _ _,row _ _ _ _ _]).tail;exact hz
  have oY:k=rs.length:=H;subst oY;rw[qS]at hS;obtain⟨a1,c1,rfl⟩:=aT (Z.pick (A:=row _ _ v1 _ _) pK);obtain⟨a2,c2',rfl⟩:=aT (Z.pick (A:=row _ _ v2 _ _) pK);refine z5 ?_;refine bg rfl rfl (aD.dB cH Z pK (by simp[fG])) ?_;refine fb (cs:=fG S.r) rfl bQ fO iF dM rfl rfl rfl Z rfl fun w b88 Z=>?_;have Z:=jx (z:=2) (m:=1) Z rfl mL;refine z1 ?_;refine aej (cs:=[.slice a1 S.below.length c1,sQ b88 1 1, .slice a2 S.cW.length c2']) rfl ir oy DC dM rfl kR Z rfl fun w b90 Z=>?_;have Z:=jx (z:=1) (m:=3) Z rfl mL;refine aO rfl kp rfl (yy (vs:=[.slice a1 S.below.length c1,sQ b88 1 1, .slice a2 S.cW.length c2']) (ls:=[S.below,[S.r],S.cW]) Z (oJ.row.head _) rfl (fun k u l hu hl=>by
 match k,hu,hl with
 |0,hu,hl=>
  obtain rfl:=Option.some.inj hu;obtain rfl:=Option.some.inj hl;exact((jk.row (T:=379) (m:=S.below.length) sM (OT S.below)).head _).of sF
 |1,hu,hl=>
  obtain rfl:=Option.some.inj hu;obtain rfl:=Option.some.inj hl;exact((jk.row (T:=379) (m:=1) (rs:=[fG S.r]) sM (by intro r hr;simp at hr;subst hr;rfl)).head _).of sF
 |2,hu,hl=>
  obtain rfl:=Option.some.inj hu;obtain rfl:=Option.some.inj hl;exact((jk.row (T:=379) (m:=S.cW.length) sM (OT S.cW)).head _).of sF
 |k+3,hu,hl=>simp at hu) (by simp[so];omega) (by simp[so];omega) sM) rfl (fun w v91 hv=>?_)
  have Z:aw G (row 379 2 v91 _ _::_) w:=hv;obtain⟨a91,c91,rfl⟩:=aT Z;refine wS 2 (l':=[_]) iH Z fun w Z=>?_;refine wD 3 qC Z ?_;refine CF rfl kR AJ dD rfl ?_;refine z3 ?_;refine cV rfl ?_;refine mu Z pK fun w Z=>?_;exact xg rfl rfl (by
 refine⟨⟨_,rfl⟩, .slice a91 (so [S.below,[S.r],S.cW]) c91,?_⟩;have e1:E4 rs lo hi=[S.below,[S.r],S.cW].flatten:=by unfold E4;rw[<-hS];simp
 have e2:(E4 rs lo hi).length=so [S.below,[S.r],S.cW]:=by rw[e1];simp[so];omega
 rw[e2,e1];exact(Z.b [row 375 _ _ _ _,row _ _ (sQ b88 _ _) _ _,N b7 _ _,row _ _ (.slice a1 S.below.length c1) _ _,row _ _ (.slice a2 S.cW.length c2') _ _,N b8 _ _,row _ _ (.slice va rs.length vc) _ _,N qb _ _,row _ _ (.slice a91 _ c91) _ _]).t7)
 ·clear Z;intro D w Z;exact(nU Z).elim fun _ h=>h.1.elim
 intro id A hA;cases hA
def HV(Z:aw G L w):aA prog 209 #[nQ] w (bU fun r w'=>∃qb,r=pQ qb/\aw G (N qb [nQ] 377::row 379 2 (nQ) 0 []::L) w'):=by
 refine wF [_] func209 ntmps209 ?_;refine wV 6 (v:= .agg #[nQ]) ?_;refine wB 0 Z fun w b7 Z=>?_;refine B' ?_;refine bx (fun m e w=>m=0/\e=[(3,pQ b7),(9,I 0),(10,I 0)]/\aw G (N b7 [nQ] 377::L) w)
  (m:=0) sB
  ⟨rfl,rfl,Z⟩ ?_
 rintro m e w ⟨rfl,rfl,Z⟩;refine wI 5 (fun Y=>?_) fun Y=>?_
 ·exact aS Y H
 refine dk 7 ?_;exact⟨b7,rfl,(bB Z 379 2).b [N b7 _ _,row _ _ _ _ _]⟩
structure L3 where
 refs:Int
 counts:List Int
 cv:C
 last:List Bool
 lv:C
 fr:Option Addr
 t0:Int
 t1:Int
 t2:Int
 t3:Int
 t4:Int
 av:C
 na:Nat
 floor:Int
def L3.cells(p:L3):List C:=[I p.refs,p.cv,p.lv, .pointer p.fr,I p.t0,I p.t1,I p.t2,I p.t3,I p.t4,p.av,I p.floor]
def gW(l:List Bool):List C:=l.map (.bool ·)
def kQ(l:List Bool):(gW l).length=l.length:=by simp[gW]
def L3.tal(p:L3)(k:Int):Int:=if k=0 then p.t0 else if k=1 then p.t1 else if k=2 then p.t2 else if k=3 then p.t3 else p.t4
abbrev je(c:List Int)(n:Int):Prop:=1<=n/\n<=(c.length:Int)
def gP(c:List Int)(n:Int):Int:=if je c n then c.getD (n-1).toNat 0 else 0
def WQ(c:List Int)(l:List Bool)(n:Int):Int:=
 if je c n then(if 0<c.getD (n-1).toNat 0 then(if l.getD (n-1).toNat false=true then 4 else 3)else if l.getD (n-1).toNat false=true then 2 else 1)else 0
def Bj(h:j<c.length):(bf c)[j]?=some (I (c.getD j 0)):=by
 simp only[bf,dh,List.getD];rw[dG h];rfl
def LJ{c:List Bool}(h:j<c.length):(gW c)[j]?=some (.bool (decide (c.getD j false=true))):=by
 have e:∀b:Bool,Value.bool (decide (b=true))= .bool b:=fun b=>by cases b<;>rfl
 rw[e];simp only[gW,dh,List.getD,dG h];rfl
def oz:aL (row 3 1 v c.length (bf c)::R) (oJ v (bf c)):=by
 have h:=(oJ.row (T:=3) (v:=v) (cs:=bf c)).head R;rw[bC]at h;exact h
def Tu{c:List Bool}:aL (row 4 1 v c.length (gW c)::R) (oJ v (gW c)):=by
 have h:=(oJ.row (T:=4) (v:=v) (cs:=gW c)).head R;rw[kQ]at h;exact h
abbrev Cd(q:Nat)(p:L3)(L:List aF):List aF:=N q p.cells 115::row 3 1 p.cv p.counts.length (bf p.counts)::row 4 1 p.lv p.last.length (gW p.last)::L
def uo{p:L3}(Z:aw G (Cd q p L) w):∃ca cc la lc,Cd q p L=(N q [I p.refs, .slice ca p.counts.length cc, .slice la p.last.length lc, .pointer p.fr,I p.t0,I p.t1,I p.t2,I p.t3,I p.t4,p.av,I p.floor] 115::row 3 1 (.slice ca p.counts.length cc) p.counts.length (bf p.counts)::row 4 1 (.slice la p.last.length lc) p.last.length (gW p.last)::L):=by
 obtain⟨ca,cc,Y⟩:=aT (Z.pick (A:=row 3 1 p.cv _ _) (.there .here));obtain⟨la,lc,J⟩:=aT (Z.pick (A:=row 4 1 p.lv _ _) (.there (.there .here)));exact⟨ca,cc,la,lc,by unfold Cd;simp only[L3.cells,Y,J]⟩
def M1{r:Int}(Z:aw G L w):aA prog 108 #[I n,I r] w (bU fun u w'=>u= .bool (decide (1<=n/\n<=65536/\2<=r/\r<65536))/\aw G L w'):=by
 refine wF [_,_] func108 ntmps108 ?_;refine z9 ?_;refine bw (l1:=[3,4,5]) (l2:=[6,7,8,9,10,11,12,13,14]) rfl (d:=10) (1<=n/\n<=65536) rfl ?_ ?_
 ·refine ar (d:=7) rfl (fun Y=>?_) fun Y=>?_
  ·exact wq 4
  exact wq 4
 refine z1 ?_;refine bw (l1:=[7,8,9]) (l2:=[10,11,12,13,14]) rfl (d:=14) (1<=n/\n<=65536/\2<=r) rfl ?_ ?_
 ·refine ar (d:=11) rfl (fun J=>?_) fun J=>?_
  ·exact wq 4
  exact wq 4
 refine z1 ?_;refine bw (l1:=[11,12,13]) (l2:=[14]) rfl (d:=18) (1<=n/\n<=65536/\2<=r/\r<65536) rfl ?_ ?_
 ·refine ar (d:=15) rfl (fun h3=>?_) fun h3=>?_
  ·exact wq 4
  exact wq 4
 refine dk 3 ?_;exact⟨rfl,Z⟩
def tt{p:L3}(Z:aw G (Cd q p L) w):aA prog 142 #[pQ q,I n] w (bU fun u w'=>u= .bool (decide (je p.counts n))/\aw G (Cd q p L) w'):=by
 obtain⟨ca,cc,la,lc,he⟩:=uo Z;rw[he]at Z;refine wF [_,_] func142 ntmps142 ?_;refine z9 ?_;refine bw (l1:=[3,4,5,6,7,8,9,10]) (l2:=[11]) rfl (d:=15) (1<=n/\n<=(p.counts.length:Int)) rfl ?_ ?_
 ·refine ar (d:=7) rfl (fun Y=>?_) fun Y=>?_
  ·refine z2 ?_;refine vr rfl rfl ?_;refine wD 1 dS Z ?_;refine eE rfl kR aY rfl ?_;exact wq 3
  exact wq 9
 refine dk 3 ?_;exact⟨rfl,by rw[he];exact Z⟩
def Gj{p:L3}(Z:aw G (Cd q p L) w):aA prog 102 #[pQ q] w (bU fun u w'=>u=I p.counts.length/\aw G (Cd q p L) w'):=by
 obtain⟨ca,cc,la,lc,he⟩:=uo Z;rw[he]at Z;refine wF [_] func102 ntmps102 ?_;refine wD 9 dS Z ?_;refine dk 4 ?_;exact⟨rfl,by rw[he];exact Z⟩
def tw{p:L3}(Z:aw G (Cd q p L) w)(hl:p.counts.length<=65536):aA prog 72 #[pQ q,I n] w (bU fun u w'=>u=I (gP p.counts n)/\aw G (Cd q p L) w'):=by
 obtain⟨ca,cc,la,lc,he⟩:=uo Z;refine wF [_,_] func72 ntmps72 ?_;refine z9 ?_;refine wC rfl r9 rfl (tt Z) fun w Z=>?_
 refine cU rfl rfl ?_;refine aK ?_;refine wI 0 (fun Y=>?_) fun Y=>?_
 ·have FV:¬je p.counts n:=by simpa using Y
  refine dk 5 ?_;exact⟨by unfold gP;rw[aj FV],Z⟩
 have FV:je p.counts n:=by simpa using Y
 rw[he]at Z;have kB:aL (row 3 1 (.slice ca p.counts.length cc) p.counts.length (bf p.counts)::row 4 1 (.slice la p.last.length lc) p.last.length (gW p.last)::L) (oJ (.slice ca p.counts.length cc) (bf p.counts)):=oz;obtain⟨bb,oo,rfl⟩:=((kB.of sF).at Z).nn (by rw[bC];omega);refine wD 6 dS Z ?_;refine wY 2 aY bF ?_;refine bg rfl rfl (aD.one ag (((kB.of sF).at Z).at (Bj H))) ?_;refine dk 3 ?_;exact⟨by unfold gP;rw[aB FV],by rw[he];exact Z⟩
def tu{p:L3}(Z:aw G (Cd q p L) w)(hl:p.counts.length<=65536)(sP:p.last.length=p.counts.length):aA prog 82 #[pQ q,I n] w (bU fun u w'=>u=I (WQ p.counts p.last n)/\aw G (Cd q p L) w'):=by
 obtain⟨ca,cc,la,lc,he⟩:=uo Z;refine wF [_,_] func82 ntmps82 ?_;refine B' ?_;refine wC rfl r9 rfl (tt Z) fun w Z=>?_
 refine cU rfl rfl ?_;refine wI 2 (fun Y=>?_) fun Y=>?_
 ·have FV:¬je p.counts n:=by simpa using Y
  refine dk 5 ?_;exact⟨by unfold WQ;rw[aj FV],Z⟩
 have FV:je p.counts n:=by simpa using Y
 rw[he]at Z;have kB:aL (row 3 1 (.slice ca p.counts.length cc) p.counts.length (bf p.counts)::row 4 1 (.slice la p.last.length lc) p.last.length (gW p.last)::L) (oJ (.slice ca p.counts.length cc) (bf p.counts)):=oz;have Ur:aL (row 4 1 (.slice la p.last.length lc) p.last.length (gW p.last)::L) (oJ (.slice la p.last.length lc) (gW p.last)):=Tu;obtain⟨bb,oo,rfl⟩:=((kB.of sF).at Z).nn (by rw[bC];omega);obtain⟨b2,o2,rfl⟩:=((Ur.of sF).at Z).nn (by rw[kQ];omega);obtain⟨c,hc⟩:∃c,c=p.counts.getD (n-1).toNat 0:=⟨_,rfl⟩;obtain⟨b,hb⟩:∃b,b=p.last.getD (n-1).toNat false:=⟨_,rfl⟩;have jQ:WQ p.counts p.last n=(if 0<c then(if b=true then 4 else 3)else if b=true then 2 else 1):=by unfold WQ;rw[aB FV,hc,hb]
 have Uz:(bf p.counts)[(n-1).toNat]?=some (I c):=by rw[hc];exact Bj H
 have tX:(gW p.last)[(n-1).toNat]?=some (.bool (decide (b=true))):=by rw[hb];exact LJ H
 rw[jQ];refine wD 5 dS Z ?_;refine wY 2 aY bF ?_;refine bg rfl rfl (aD.one ag (((kB.of sF).at Z).at Uz)) ?_;refine z2 ?_;refine bw (l1:=[10,11,12,13,14,15,16,17,18]) (l2:=[19]) rfl (d:=29) (0<c/\b=true) rfl ?_ ?_
 ·refine ar (d:=20) rfl (fun J=>?_) fun J=>?_
  ·refine z1 ?_;refine vr rfl rfl ?_;refine wD 1 iU Z ?_;refine z1 ?_;refine uO rfl rfl rfl H ?_;refine wY 0 dV gg ?_;refine bg rfl rfl (aD.one bS (((Ur.of sF).at Z).at tX)) ?_;refine z2 ?_;refine cQ ?_
   first|exact bI.2 ⟨fun h=>⟨J,h⟩,fun h=>h.2⟩|exact(cN (fun h=>J h.1)).symm
  refine B' ?_;refine cQ ?_
  first|exact bI.2 ⟨fun h=>⟨J,h⟩,fun h=>h.2⟩|exact(cN (fun h=>J h.1)).symm
 refine wI 2 (fun h3=>?_) fun h3=>?_
 ·refine dk 5 ?_;exact⟨by rw[aB h3.1,aB h3.2],by rw[he];exact Z⟩
 refine wD 5 dS Z ?_;refine wY 2 aY bF ?_;refine bg rfl rfl (aD.one ag (((kB.of sF).at Z).at Uz)) ?_;refine wI 3 (fun h4=>?_) fun h4=>?_
 ·refine dk 5 ?_;exact⟨by rw[aB h4,aj (fun h=>h3 ⟨h4,h⟩)],by rw[he];exact Z⟩
 refine wD 5 iU Z ?_;refine wY 2 dV gg ?_;refine bg rfl rfl (aD.one bS (((Ur.of sF).at Z).at tX)) ?_;refine wI 2 (fun h5=>?_) fun h5=>?_
 ·refine dk 5 ?_;exact⟨by rw[aj h4,aB h5],by rw[he];exact Z⟩
 refine dk 6 ?_;exact⟨by rw[aj h4,aj h5],by rw[he];exact Z⟩
def Fs(x:Int):Int:=if 0<x then 4 else 1
def ly(l:List Int)(k:Int):Int:=((l.filter fun x=>decide (Fs x=k)).length:Int)
def NI(l:List Int)(x k:Int):ly (l++[x]) k=ly l k+(if Fs x=k then 1 else 0):=by
 unfold ly;rw[Mn,di]
 by_cases h:Fs x=k<;>simp[h]
def Vf(l:List Int)(k:Int):0<=ly l k/\ly l k<=l.length:=by
 unfold ly;have:=QX (fun x=>decide (Fs x=k)) l;omega
def R0(s:Nat×List (Int×Int))(x:Int):Nat×List (Int×Int):=(s.1+1,if x=0 then E4 s.2 ((s.1:Int)+1) ((s.1:Int)+1)else s.2)
def Of(l:List Int):Nat×List (Int×Int):=l.foldl R0 (0,[])
def jh(l:List Int):List (Int×Int):=(Of l).2
def Yb(l:List Int):(Of l).1=l.length:=by
 have:∀(l:List Int) (s:Nat×List (Int×Int)),(l.foldl R0 s).1=s.1+l.length:=by
  intro l
  induction l with
  |nil=>intro s;rfl
  |cons x l ih=>intro s;rw[QT,ih];simp only[R0,kZ];omega
 rw[Of,this];simp
def C0(l:List Int)(x:Int):jh (l++[x])=if x=0 then E4 (jh l) ((l.length:Int)+1) ((l.length:Int)+1)else jh l:=by
 unfold jh;rw[show Of (l++[x])=R0 (Of l) x by unfold Of;rw[List.foldl_append];rfl];unfold R0;rw[Yb]
def SF{lo hi:Int}:∀(rs:List (Int×Int)) (s:abK) (x:Int×Int),(x∈(rs.foldl ie s).below\/x∈(rs.foldl ie s).cW)->x∈s.below\/x∈s.cW\/x∈rs:=by
 intro rs
 induction rs with
 |nil=>intro s x h;rcases h with h|h;exact .inl h;exact .inr (.inl h)
 |cons y rs ih=>
  intro s x h;rw[QT]at h;rcases ih _ x h with h|h|h
  ·unfold ie at h;split at h
   ·rcases eZ.1 h with h|h
    ·exact .inl h
    exact .inr (.inr (by simp at h;simp[h]))
   split at h<;>exact .inl h
  ·unfold ie at h;split at h
   ·exact .inr (.inl h)
   split at h
   ·rcases eZ.1 h with h|h
    ·exact .inr (.inl h)
    exact .inr (.inr (by simp at h;simp[h]))
   exact .inr (.inl h)
  exact .inr (.inr (kG _ h))
def ad5{hi:Int}(h:tN (lo,hi))(Dy:∀x∈rs,tN x):(∀x∈E4 rs lo hi,tN x)/\(E4 rs lo hi).length<=rs.length+1:=by
 have ha:=aeH h Dy rs.length (fP _);rw[qS]at ha;refine⟨fun x E=>?_,?_⟩
 ·unfold E4 at E;rcases eZ.1 E with E|E
  ·rcases eZ.1 E with E|E
   ·rcases SF (lo:=lo) (hi:=hi) rs _ x (.inl E)with h|h|h
    ·cases h
    ·cases h
    exact Dy x h
   simp at E;subst E;exact ha.r
  rcases SF (lo:=lo) (hi:=hi) rs _ x (.inr E)with h|h|h
  ·cases h
  ·cases h
  exact Dy x h
 have:=ha.b;unfold E4;simp only[di,Jy];omega
def aa9:∀(n:Nat) (l:List Int),l.length<=n->n<=1000000->(∀x∈jh l,tN x)/\(jh l).length<=l.length:=by
 intro n
 induction n with
 |zero=>
  intro l hl _;have:l=[]:=vD H;subst this;exact⟨fun x E=>(by cases E),fP _⟩
 |succ n ih=>
  intro l hl hn;rcases l.eq_nil_or_concat with rfl|⟨l',x,rfl⟩
  ·exact⟨fun x E=>(by cases E),de _⟩
  simp only[List.concat_eq_append]at hl ⊢;rw[di,Jy]at hl ⊢
  obtain⟨Y,J⟩:=ih l' H H;rw[C0];split
  ·have h3:=ad5 (rs:=jh l') (lo:=(l'.length:Int)+1) (hi:=(l'.length:Int)+1) (by unfold tN;simp only;omega) Y;exact⟨h3.1,H⟩
  exact⟨Y,H⟩
def EB{p:L3}(Z:aw G (Cd q p L) w)(hav:∃a c,p.av= .slice a p.na c)(hf:0<=p.floor/\p.floor+p.na<=1000000000000000):aA prog 204 #[pQ q] w (bU fun u w'=>u=I (p.floor+p.na)/\aw G (Cd q p L) w'):=by
 obtain⟨ca,cc,la,lc,he⟩:=uo Z;obtain⟨aa,ac,hav⟩:=hav;rw[hav]at he;rw[he]at Z
 refine wF [_] func204 ntmps204 ?_;refine z5 ?_;refine wQ [0,1,2,3,4,5,6,7,8,9,10] Z fun Z=>?_
 refine wD 3 ag Z ?_;refine wD 3 xT Z ?_;refine eE rfl kR Ns rfl ?_;refine dk 4 ?_;exact⟨rfl,by rw[he];exact Z⟩
def Db{p:L3}{k:Int}(Z:aw G (Cd q p L) w):aA prog 20 #[pQ q,I k] w (bU fun u w'=>u=I (if k<1\/4<k then 0 else p.tal k)/\aw G (Cd q p L) w'):=by
 obtain⟨ca,cc,la,lc,he⟩:=uo Z;rw[he]at Z;refine wF [_,_] func20 ntmps20 ?_;refine B' ?_;refine bw (l1:=[3,4,5]) (l2:=[]) rfl (d:=10) (k<1\/4<k) rfl ?_ ?_
 ·refine ar (d:=7) rfl (fun Y=>?_) fun Y=>?_
  ·exact wq 4
  exact wq 4
 refine aK ?_;refine wI 0 (fun J=>?_) fun J=>?_
 ·refine dk 5 ?_;exact⟨by rw[aB J],by rw[he];exact Z⟩
 have h3:k=1\/k=2\/k=3\/k=4:=H;refine z7 ?_;refine IX rfl LX bF rfl rfl ⟨H,H⟩ ?_;refine bg rfl rfl (aD.cw (v:=I (p.tal k)) ag Z pK (by rcases h3 with rfl|rfl|rfl|rfl<;>rfl)) ?_;refine dk 3 ?_;exact⟨by rw[aj J],by rw[he];exact Z⟩
def oW(Z:aw G L w)(ka:aL L (oJ v (bf l)))(sP:l.length<=1000000000):
  aA prog 39 #[v] w (bU fun r w'=>aw G (row 3 1 r l.length (bf l)::L) w'):=by
 obtain⟨a,cap,rfl⟩:=(ka.at Z).form;rw[bC];refine wF [_] func39 ntmps39 ?_;refine z8 ?_;refine DH rfl aY rfl ?_;refine aK ?_;refine fJ rfl (fun Y=>?_) fun Y=>?_
 ·refine z5 ?_;exact dt rfl rfl rfl (by
 rcases ka.at Z with⟨-,h⟩|⟨b,o,cap,h,-⟩
 ·have:l=[]:=by simpa [bf]using h
  subst this;exact bB Z _ _
 ·cases h;cases Y)
 obtain⟨x,rfl⟩:∃x,a=some x:=by cases a with|none=>cases Y|some x=>exact⟨x,rfl⟩
 refine z3 ?_;refine IY rfl aY bF Z rfl fun w b5 Z=>?_;have Z:=jx (z:=1) (m:=0) Z rfl mL;have sA:Rd w x (bf l):=by
  rcases(ka.cons (row 3 1 (sQ b5 0 0) 0 [])).at Z with⟨-,h⟩|⟨b,o,cap,h,-,hR⟩
  ·rw[h];exact Rd.nil
  cases h;exact hR
 refine z1 ?_;refine eF (m:=0) (k:=l.length) (news:=bf l) rfl aY bF j7 fh rfl rfl Z pK sA (by rw[bC];omega) (by intro u hu;obtain⟨z,_,rfl⟩:=dY.1 hu;rfl) mL H rfl (fun w v7 Z=>?_);refine dk 3 ?_;exact by rw[mT,lE]at Z;exact Z
def BW{p:L3}(Z:aw G (Cd q p L) w)(hl:p.counts.length<=65536):aA prog 10 #[pQ q] w (bU fun u w'=>aw G (row 3 1 u p.counts.length (bf p.counts)::Cd q p L) w'):=by
 obtain⟨ca,cc,la,lc,he⟩:=uo Z;rw[he]at Z;have kB:aL (row 3 1 (.slice ca p.counts.length cc) p.counts.length (bf p.counts)::row 4 1 (.slice la p.last.length lc) p.last.length (gW p.last)::L) (oJ (.slice ca p.counts.length cc) (bf p.counts)):=oz;refine wF [_] func10 ntmps10 ?_;refine wD 9 dS Z ?_;refine aO rfl nP rfl (oW Z (kB.of sF) H) rfl fun w v7 hv=>?_;refine dk 3 ?_;exact by rw[he];exact hv
def q6(c:List Int)(l:List Bool)(k:Nat):List Bool:=(c.take k).map (fun x=>decide (0<x))++l.drop k
def pz{l:List Bool}(h:l.length=c.length)(hk:k<=c.length):(q6 c l k).length=c.length:=by
 unfold q6;simp only[di,cg,gJ,jm];omega
def N5{l:List Bool}{x:Int}(h:l.length=c.length)(E:c[k]?=some x):(q6 c l k).set k (decide (0<x))=q6 c l (k+1):=by
 have hk:k<c.length:=(qj.1 E).1;unfold q6;rw[bV E,jX,ack _ _ (by simp;omega)];rw[show k-(List.map (fun x=>decide (0<x)) (List.take k c)).length=0 by simp;omega];rw[gm]
 congr 1
 rw[Ms (by omega:k<l.length)];rfl
def aax{l:List Bool}{x:Int}(h:l.length=c.length)(E:c[k]?=some x):(q6 c l (k+1)).getD k false=decide (0<x):=by
 have hk:k<c.length:=(qj.1 E).1;rw[<-N5 h E,List.getD];rw[List.getElem?_set_self (by rw[pz h H];exact hk)];rfl
def Xz{l:List Bool}(h:l.length=c.length):q6 c l c.length=c.map fun x=>decide (0<x):=by
 unfold q6;rw[qS,vB H,kF]
def QJ{l:List Bool}{x:Int}(h:l.length=c.length)(E:c[k]?=some x):WQ c (q6 c l (k+1)) ((k:Int)+1)=Fs x:=by
 have hk:k<c.length:=(qj.1 E).1;unfold WQ Fs;rw[aB (by omega:je c ((k:Int)+1)),show((k:Int)+1-1).toNat=k by omega,aax h E];have hc:c.getD k 0=x:=by rw[List.getD,E];rfl
 rw[hc]
 by_cases h0:0<x<;>simp[h0]
def ZZ{p:L3}(Z:aw G (Cd q p L) w):∃ca cc la lc,p.cv= .slice ca p.counts.length cc/\p.lv= .slice la p.last.length lc/\Cd q p L=(N q [I p.refs, .slice ca p.counts.length cc, .slice la p.last.length lc, .pointer p.fr,I p.t0,I p.t1,I p.t2,I p.t3,I p.t4,p.av,I p.floor] 115::row 3 1 (.slice ca p.counts.length cc) p.counts.length (bf p.counts)::row 4 1 (.slice la p.last.length lc) p.last.length (gW p.last)::L):=by
 obtain⟨ca,cc,Y⟩:=aT (Z.pick (A:=row 3 1 p.cv _ _) (.there .here));obtain⟨la,lc,J⟩:=aT (Z.pick (A:=row 4 1 p.lv _ _) (.there (.there .here)));exact⟨ca,cc,la,lc,Y,J,by unfold Cd;simp only[L3.cells,Y,J]⟩
def BV{p:L3}(Z:aw G (Cd q p L) w)(hav:∃a c,p.av= .slice a p.na c)(hf:0<=p.floor/\p.floor+p.na<=1000000000000000)(hl:p.counts.length<=65536)(sP:p.last.length=p.counts.length)(YH:∀x∈p.counts,0<=x):
  aA prog 119 #[pQ q] w (bU fun u w'=>u= .tuple #[]/\∃(fq:Nat) (fv:C),aw G (Cd q {p with last:=p.counts.map (fun x=>decide (0<x)),fr:=some ⟨fq,0,none⟩,t0:=0,t1:=ly p.counts 1,t2:=0,t3:=0,t4:=ly p.counts 4,av:=nQ,na:=0,floor:=p.floor+p.na} (N fq [fv] 377::row 379 2 fv (jh p.counts).length ((jh p.counts).map fG).flatten::L)) w'):=by
 obtain⟨ca,cc,la,lc,hcv,IL,he⟩:=ZZ Z;rw[sP]at he IL;refine wF [_] func119 ntmps119 ?_;refine z5 ?_;refine wC rfl Dj rfl (EB Z hav hf) fun w Z=>?_
 rw[he]at Z;refine wS 2 (l':=[_,_,_,_,_,_,_,_,_,_,_]) ag Z fun w Z=>?_;refine wS 2 (l':=[_,_,_,_,_,_,_,_,_,_,_]) xT Z fun w Z=>?_;refine z4 ?_;refine aO rfl Gr rfl (HV Z) rfl fun w v13 hv=>?_;obtain⟨fq,rfl,Z⟩:=hv;refine wS 2 (l':=[_,_,_,_,_,_,_,_,_,_,_]) kJ Z fun w Z=>?_;refine wV 4 (v:= .agg #[I 0,I 0,I 0,I 0,I 0]) ?_;refine wN 2 (cs:=[I 0,I 0,I 0,I 0,I 0]) (l':=[I p.refs, .slice ca p.counts.length cc, .slice la p.counts.length lc,pQ fq,I 0,I 0,I 0,I 0,I 0,nQ,I (p.floor+p.na)]) Rj (by intro u hu;simp at hu;subst hu;rfl) Z (fun w Z=>?_);refine wD 6 dS Z ?_;refine z4 ?_;have Z:=Z.b [N q _ _,row 3 _ _ _ _,row 4 _ _ _ _,N fq _ _,row 379 _ _ _ _];refine bx (fun m e w=>∃(k:Nat) (fv:C),k<=p.counts.length/\m=p.counts.length-k/\e=[(0,pQ q),(23, .slice ca p.counts.length cc),(24,I p.counts.length),(25,I k)]/\aw G (N q [I p.refs, .slice ca p.counts.length cc, .slice la p.counts.length lc,pQ fq,I 0,I (ly (p.counts.take k) 1),I 0,I 0,I (ly (p.counts.take k) 4),nQ,I (p.floor+p.na)] 115::row 3 1 (.slice ca p.counts.length cc) p.counts.length (bf p.counts)::row 4 1 (.slice la p.counts.length lc) p.counts.length (gW (q6 p.counts p.last k))::N fq [fv] 377::row 379 2 fv (jh (p.counts.take k)).length ((jh (p.counts.take k)).map fG).flatten::L) w)
  (m:=p.counts.length) sB
  ⟨0,nQ,de _,rfl,rfl,Z⟩ ?_
 rintro m e w ⟨k,fv,hk,rfl,rfl,Z⟩;refine wI 5 (fun Y=>?_) fun Y=>?_
 ·have gn:k<p.counts.length:=H;obtain⟨x,E⟩:∃x,p.counts[k]?=some x:=⟨_,dG gn⟩;have Qi:=YH x (fK E);have G5:(bf p.counts)[k]?=some (I x):=by simp only[bf,dh,E];rfl
  have kB:aL (row 3 1 (.slice ca p.counts.length cc) p.counts.length (bf p.counts)::row 4 1 (.slice la p.counts.length lc) p.counts.length (gW (q6 p.counts p.last k))::N fq [fv] 377::row 379 2 fv (jh (p.counts.take k)).length ((jh (p.counts.take k)).map fG).flatten::L) (oJ (.slice ca p.counts.length cc) (bf p.counts)):=oz;obtain⟨bb,oo,rfl⟩:=((kB.of sF).at Z).nn (by rw[bC];omega);have MB:=aa9 p.counts.length (p.counts.take k) (by rw[gJ];omega) H;rw[gJ]at MB;have hT1:ly (p.counts.take (k+1)) 1=ly (p.counts.take k) 1+(if Fs x=1 then 1 else 0):=by rw[bV E];exact NI _ _ _
  have hT4:ly (p.counts.take (k+1)) 4=ly (p.counts.take k) 4+(if Fs x=4 then 1 else 0):=by rw[bV E];exact NI _ _ _
  have ai5:=Vf (p.counts.take k) 1;have ai4:=Vf (p.counts.take k) 4;rw[gJ]at ai5 ai4;have hfs:jh (p.counts.take (k+1))=if x=0 then E4 (jh (p.counts.take k)) ((k:Int)+1) ((k:Int)+1)else jh (p.counts.take k):=by rw[bV E,C0,gJ,Jq H]
  refine wY 6 aY bF ?_;refine bg rfl rfl (aD.one ag (((kB.of sF).at Z).at (by rw[cZ];exact G5))) ?_;refine wD 8 iU Z ?_;have Z:=Z.pick (A:=row 4 _ _ _ _) pK;obtain⟨-,lb,ah2,rfl,hl1,hl2,hl3,Z⟩:=fZ Z H;refine wY 3 dV gg ?_;refine rU (l':=gW (q6 p.counts p.last (k+1))++ah2) rfl tV rfl rfl bS rfl Z pK (by simp[kQ,pz sP (by omega:k<=p.counts.length)];omega) (by rw[mT,cZ,List.set_append_left _ _ (by rw[kQ,pz sP H];exact gn),<-N5 sP E];simp[gW,QR]) rfl (fun w Z=>?_);have hle:=pz (k:=k+1) sP H;have Z:=lC (xs:=gW (q6 p.counts p.last (k+1))) (m:=p.counts.length) (z:=1) Z (by rw[kQ,hle,DV]) hl1 hl2 (by rw[<-hl3,di,di,kQ,kQ,hle,pz sP H]);have hz:=Z.b [N q _ _,row 3 _ _ _ _,row 4 _ _ _ _];have hw2:aw G (Cd q ⟨p.refs,p.counts, .slice (some ⟨bb,oo,none⟩) p.counts.length cc,q6 p.counts p.last (k+1),sQ lb p.counts.length lc,some ⟨fq,0,none⟩,0,(ly (p.counts.take k) 1),0,0,(ly (p.counts.take k) 4),nQ,0,p.floor+p.na⟩ (N fq [fv] 377::row 379 2 fv (jh (p.counts.take k)).length ((jh (p.counts.take k)).map fG).flatten::L)) w:=by
   show aw G (N q _ _::row 3 1 _ _ _::row 4 1 _ (q6 p.counts p.last (k+1)).length _::_) w
   rw[hle];exact hz
  clear Z;have Z:=hw2;obtain⟨sx,hsx⟩:∃sx,sx=Fs x:=⟨_,rfl⟩;have h14:sx=1\/sx=4:=by rw[hsx];unfold Fs;split<;>simp
  obtain⟨tx,ht1,ht4,htb⟩:∃tx:Int,(sx=1->tx=(ly (p.counts.take k) 1))/\(sx=4->tx=(ly (p.counts.take k) 4))/\(0<=tx/\tx<=65536):=by
   rcases h14 with h|h
   ·exact⟨_,fun _=>rfl,fun h'=>by omega,H⟩
   exact⟨_,fun h'=>by omega,fun _=>rfl,H⟩
  refine z2 ?_;refine wQ [0,1,2,3,5,6,10,11,4,7,8,9,12,13] Z fun Z=>?_
  refine z8 ?_;refine aO rfl se rfl (tu Z hl hle) kR fun w L8 hv=>?_;have hv:L8=I sx/\aw G (N q [I p.refs, .slice (some ⟨bb,oo,none⟩) p.counts.length cc,sQ lb p.counts.length lc,pQ fq,I 0,I (ly (p.counts.take k) 1),I 0,I 0,I (ly (p.counts.take k) 4),nQ,I (p.floor+p.na)] 115::row 3 1 (.slice (some ⟨bb,oo,none⟩) p.counts.length cc) p.counts.length (bf p.counts)::row 4 1 (sQ lb p.counts.length lc) p.counts.length (gW (q6 p.counts p.last (k+1)))::N fq [fv] 377::row 379 2 fv (jh (p.counts.take k)).length ((jh (p.counts.take k)).map fG).flatten::L) w:=by
   obtain⟨h3,h4⟩:=hv;have h5:aw G (N q _ _::row 3 1 _ _ _::row 4 1 _ (q6 p.counts p.last (k+1)).length _::_) w:=h4;rw[hle]at h5;exact⟨by rw[hsx,<-QJ sP E];exact h3,h5⟩
  obtain⟨rfl,Z⟩:=hv;refine IX rfl LX bF rfl rfl ⟨H,H⟩ ?_;refine bg rfl rfl (aD.cw (v:=I tx) ag Z pK (by rcases h14 with rfl|rfl;(rw[ht1 rfl];rfl);(rw[ht4 rfl];rfl))) ?_;refine z1 ?_;refine IX rfl LX bF rfl rfl ⟨H,H⟩ ?_;refine rU (l':=[I p.refs, .slice (some ⟨bb,oo,none⟩) p.counts.length cc,sQ lb p.counts.length lc,pQ fq,I 0,I (ly (p.counts.take (k+1)) 1),I 0,I 0,I (ly (p.counts.take (k+1)) 4),nQ,I (p.floor+p.na)]) rfl tV rfl rfl ag rfl Z pK (by rcases h14 with rfl|rfl<;>rfl) (by
   rw[hT1,hT4,<-hsx];rcases h14 with rfl|rfl
   ·rw[ht1 rfl];rfl
   ·rw[ht4 rfl];rfl) kR (fun w Z=>?_)
  refine wI 6 (fun J=>?_) fun J=>?_
  ·refine wD 4 kJ Z ?_;refine z4 ?_;refine aO rfl Am rfl (BO (Z.b [N fq _ _,row 379 _ _ _ _]) H (by unfold tN;simp only;omega) MB.1 H) rfl (fun w v61 hv=>?_);obtain⟨-,fv',Z⟩:=hv;refine z5 ?_;rw[aB J]at hfs;refine⟨p.counts.length-(k+1),H,[(0,_),(23,_),(24,_),(25,I (k+1:Nat))],sB,k+1,fv',H,rfl,rfl,?_⟩;rw[hfs];exact Z.b [N q _ _,row 3 _ _ _ _,row 4 _ _ _ _,N fq _ _,row 379 _ _ _ _]
  refine z5 ?_;rw[aj J]at hfs;refine⟨p.counts.length-(k+1),H,[(0,_),(23,_),(24,_),(25,I (k+1:Nat))],sB,k+1,fv,H,rfl,rfl,?_⟩;rw[hfs];exact Z
 refine z1 ?_;exact u6 rfl rfl (by
 have oY:k=p.counts.length:=H;subst oY;rw[qS,Xz sP]at Z;refine⟨rfl,fq,fv,?_⟩
 show aw G (N q _ _::row 3 1 _ _ _::row 4 1 _ (p.counts.map fun x=>decide (0<x)).length _::_) w
 rw[cg];simp only[L3.cells,hcv,IL];exact Z)
def Z0(refs:Int)(c:List Int)(cv lv:C)(fq:Nat):L3:=⟨refs,c,cv,c.map (fun x=>decide (0<x)),lv,some ⟨fq,0,none⟩,0,ly c 1,0,0,ly c 4,nQ,0,0⟩
abbrev QK(fq:Nat)(fv:C)(rs:List (Int×Int))(L:List aF):List aF:=N fq [fv] 377::row 379 2 fv rs.length (rs.map fG).flatten::L
def yw(Z:aw G L w)(ka:aL L (oJ v (bf l)))(h0:0<l.length)(hl:l.length<=1000000000):aA prog 172 #[v] w (bU fun r w'=>(∃m,r=I m/\m∈l/\∀x∈l,m<=x)/\aw G L w'):=by
 obtain⟨a,cap,rfl⟩:=(ka.at Z).form;rw[bC];rw[bC]at ka;obtain⟨bb,oo,rfl⟩:=(ka.at Z).nn (by rw[bC];omega);refine wF [_] func172 ntmps172 ?_;refine wI 11 (fun Y=>?_) fun Y=>?_
 ·exact aS Y H
 refine wY 4 aY bF ?_;refine bg rfl rfl (aD.one ag ((ka.at Z).at (i:=0) (Bj h0))) ?_;refine z8 ?_;refine bx (fun m e w=>∃(k:Nat) (mn:Int),k<=l.length/\m=l.length-k/\e=[(0, .slice (some ⟨bb,oo,none⟩) l.length cap),(3,I mn),(4,I k)]/\(mn∈l/\∀x∈l.take k,mn<=x)/\aw G L w)
  (m:=l.length-1) sB
  ⟨1,_,H,rfl,rfl,by
 cases l with
 |nil=>simp at h0
 |cons x l=>simp,Z⟩ ?_
 rintro m e w ⟨k,mn,hk,rfl,rfl,⟨hm1,ym⟩,Z⟩;refine wI 8 (fun h3=>?_) fun h3=>?_
 ·have gn:k<l.length:=H;obtain⟨x,E⟩:∃x,l[k]?=some x:=⟨_,dG gn⟩;refine wY 7 aY bF ?_;refine bg rfl rfl (aD.one ag ((ka.at Z).at (u:=I x) (by rw[cZ];simp only[bf,dh,E];rfl))) ?_;refine yZ rfl rfl rfl ?_;refine z7 ?_;exact⟨l.length-(k+1),H,[(0,_),(3,_),(4,I (k+1:Nat))],sB,k+1,min mn x,H,rfl,rfl,⟨by
    rcases Int.le_total mn x with h|h
    ·rw[Int.min_eq_left h];exact hm1
    ·rw[Int.min_eq_right h];exact fK E,fun y hy=>by
    rw[bV E]at hy;rcases eZ.1 hy with hy|hy
    ·have:=ym y hy;omega
    ·simp at hy;omega⟩,Z⟩
 refine dk 7 ?_;exact⟨⟨mn,rfl,hm1,fun x E=>ym x (by rw[kH H];exact E)⟩,Z⟩
def yx(Z:aw G L w)(ka:aL L (oJ v (bf l)))(h0:0<l.length)(hl:l.length<=1000000000):aA prog 173 #[v] w (bU fun r w'=>(∃m,r=I m/\m∈l/\∀x∈l,x<=m)/\aw G L w'):=by
 obtain⟨a,cap,rfl⟩:=(ka.at Z).form;rw[bC];rw[bC]at ka;obtain⟨bb,oo,rfl⟩:=(ka.at Z).nn (by rw[bC];omega);refine wF [_] func173 ntmps173 ?_;refine wI 11 (fun Y=>?_) fun Y=>?_
 ·exact aS Y H
 refine wY 4 aY bF ?_;refine bg rfl rfl (aD.one ag ((ka.at Z).at (i:=0) (Bj h0))) ?_;refine z8 ?_;refine bx (fun m e w=>∃(k:Nat) (mn:Int),k<=l.length/\m=l.length-k/\e=[(0, .slice (some ⟨bb,oo,none⟩) l.length cap),(3,I mn),(4,I k)]/\(mn∈l/\∀x∈l.take k,x<=mn)/\aw G L w)
  (m:=l.length-1) sB
  ⟨1,_,H,rfl,rfl,by
 cases l with
 |nil=>simp at h0
 |cons x l=>simp,Z⟩ ?_
 rintro m e w ⟨k,mn,hk,rfl,rfl,⟨hm1,ym⟩,Z⟩;refine wI 8 (fun h3=>?_) fun h3=>?_
 ·have gn:k<l.length:=H;obtain⟨x,E⟩:∃x,l[k]?=some x:=⟨_,dG gn⟩;refine wY 7 aY bF ?_;refine bg rfl rfl (aD.one ag ((ka.at Z).at (u:=I x) (by rw[cZ];simp only[bf,dh,E];rfl))) ?_;refine Th rfl rfl rfl ?_;refine z7 ?_;exact⟨l.length-(k+1),H,[(0,_),(3,_),(4,I (k+1:Nat))],sB,k+1,max mn x,H,rfl,rfl,⟨by
    rcases Int.le_total mn x with h|h
    ·rw[Int.max_eq_right h];exact fK E
    ·rw[Int.max_eq_left h];exact hm1,fun y hy=>by
    rw[bV E]at hy;rcases eZ.1 hy with hy|hy
    ·have:=ym y hy;omega
    ·simp at hy;omega⟩,Z⟩
 refine dk 7 ?_;exact⟨⟨mn,rfl,hm1,fun x E=>ym x (by rw[kH H];exact E)⟩,Z⟩
def PV(Z:aw G (row 3 1 v c.length (bf c)::L) w)(hl:c.length<=65536)(YH:∀x∈c,0<=x):aA prog 109 #[I refs,v] w (bU fun r w'=>∃q cv lv fq fv,r=pQ q/\aw G (Cd q (Z0 refs c cv lv fq) (QK fq fv (jh c) L)) w'):=by
 obtain⟨a,cap,rfl⟩:=aT Z;refine wF [_,_] func109 ntmps109 ?_;refine B' ?_;refine yY rfl dV gg Bt OJ rfl rfl ⟨H,H⟩ H H Z rfl fun w S9 Z=>?_;have Z:aw G (N S9 (gW (List.replicate c.length false)) 4::row 3 1 (.slice a c.length cap) c.length (bf c)::L) w:=by
  have e:gW (List.replicate c.length false)=L9 c.length (.bool false):=by simp[gW,L9]
  rw[e];exact Z
 have Z:=jx (z:=1) (m:=c.length) Z (by rw[kQ,Mq,DV]) mL;refine wV 0 (v:= .agg #[I refs, .slice a c.length cap,sQ S9 c.length c.length, .pointer none,I 0,I 0,I 0,I 0,I 0,nQ,I 0]) ?_;refine wB 0 Z fun w Dz Z=>?_;have hw2:aw G (Cd Dz ⟨refs,c, .slice a c.length cap,List.replicate c.length false,sQ S9 c.length c.length,none,0,0,0,0,0,nQ,0,0⟩ L) w:=by
  have hz:=Z.b [N Dz _ _,row 3 _ _ _ _,row 4 _ _ _ _]
  show aw G (N Dz _ _::row 3 1 _ _ _::row 4 1 _ (List.replicate c.length false).length _::_) w
  rw[Mq];exact hz
 refine z5 ?_;refine aO rfl Az rfl (BV hw2 ⟨none,0,rfl⟩ (show(0:Int)<=0/\(0:Int)+((0:Nat):Int)<=1000000000000000 by decide) hl sM YH) rfl fun w v14 hv=>?_;obtain⟨-,fq,fv,Z⟩:=hv;refine dk 7 ?_;exact⟨Dz,_,_,fq,fv,rfl,Z⟩
def PW(Z:aw G L w)(ka:aL L (oJ v (bf c)))(hl9:c.length<=1000000000):aA prog 95 #[I refs,v] w (bU fun r w'=>
  (¬(1<=(c.length:Int)/\(c.length:Int)<=65536/\2<=refs/\refs<65536)/\r= .tuple #[.pointer none,I 1]/\aw G L w')∨
  ((1<=(c.length:Int)/\(c.length:Int)<=65536/\2<=refs/\refs<65536)/\((¬(∀x∈c,0<=x/\x<=refs)/\r= .tuple #[.pointer none,I 13]/\aw G L w')∨
   ((∀x∈c,0<=x/\x<=refs)/\∃q cv lv fq fv,r= .tuple #[pQ q,I 0]/\aw G (Cd q (Z0 refs c cv lv fq) (QK fq fv (jh c) L)) w')))):=by
 obtain⟨a,cap,rfl⟩:=(ka.at Z).form;rw[bC];rw[bC]at ka;refine wF [_,_] func95 ntmps95 ?_;refine SP ?_;refine wC rfl LB rfl (M1 Z) fun w Z=>?_
 refine cU rfl rfl ?_;refine aK ?_;refine wI 0 (fun Y=>?_) fun Y=>?_
 ·have FV:¬(1<=(c.length:Int)/\(c.length:Int)<=65536/\2<=refs/\refs<65536):=by simpa using Y
  refine ui 6 ?_;exact .inl ⟨FV,rfl,Z⟩
 have FV:1<=(c.length:Int)/\(c.length:Int)<=65536/\2<=refs/\refs<65536:=by simpa using Y
 refine z5 ?_;refine aO rfl xG rfl (yw Z ka H hl9) rfl fun w v12 hv=>?_;obtain⟨⟨mn,rfl,hm1,ym⟩,Z⟩:=hv;refine z2 ?_;refine ar (d:=14) rfl (fun J=>?_) fun J=>?_
 ·refine z6 ?_;refine cr rfl ?_;refine ui 6 ?_;exact .inr ⟨FV, .inl ⟨fun h=>by have:=(h mn hm1).1;omega,rfl,Z⟩⟩
 refine z1 ?_;refine aO rfl xH rfl (yx Z ka H hl9) rfl fun w v16 hv=>?_;obtain⟨⟨mx,rfl,hx1,YF⟩,Z⟩:=hv;refine wI 4 (fun h3=>?_) fun h3=>?_
 ·refine ui 6 ?_;exact .inr ⟨FV, .inl ⟨fun h=>by have:=(h mx hx1).2;omega,rfl,Z⟩⟩
 have jg:∀x∈c,0<=x/\x<=refs:=fun x E=>⟨by have:=ym x E;omega,by have:=YF x E;omega⟩
 refine z5 ?_;refine aO rfl nP rfl (oW Z ka hl9) rfl fun w v22 hv=>?_;have Z:aw G (row 3 1 v22 c.length (bf c)::L) w:=hv;refine aO rfl Nl rfl (PV Z H (fun x E=>(jg x E).1)) rfl fun w v23 hv=>?_;obtain⟨q,cv,lv,fq,fv,rfl,Z⟩:=hv;refine ui 4 ?_;exact .inr ⟨FV, .inr ⟨jg,q,cv,lv,fq,fv,rfl,Z⟩⟩
section
variable{n:Nat}{done:List Nat}{kt et:aC}{p:String}{x:aM}{kv:KV}
def aeR(ho:O[i]?=some ⟨some d, .call ⟨.builtin .len,#[x],#[s]⟩,t,p,af,g⟩)(hs:P.underlying s=some (.map kt et))(E:ev e x=some (.map (some m)))
  (Z:aw G L w)(hp:dE (dm m kv) L R)(h:XL P n O dr (i::done) r K ((d,I kv.length)::e) w)(hd:Nat.blt d n=true:=by exact rfl)(hg:Gd O e g:=by exact gD):XL P n O dr done (i::r) K e w:=by
 obtain⟨es,ck,hf,mP⟩:=mY (Z.pick hp);have Y:=fV (P:=P) mP.eh sM;have hl:es.size=kv.length:=by
  have:=aU List.length hf.p3
  simpa using this
 refine AU ho (by simpa [dA]using hd) hg (ρ:=rh e) (by intro z hZ;simp[Op.operands,Call.operands]at hZ;exact HA E hZ) (by simp[eQ,hs]) (v:=I kv.length) ?_ h;simp[execOp,resolve,invoke,builtin,bM E,Builtin.len_,aE hs,Y,goInt,hl]
def adt{z:C}{gq:Option (Nat×Bool)}{pq:String}{aq:Array Edge}{tq:aC}(ho:O[q]?=some ⟨some d, .lookup s x y true,tq,pq,aq,gq⟩)(hs:P.underlying s=some (.map kt et))(hk:P.underlying kt=some (.int .i64))(hz:(P.info? et).bind (·.zero)=some z)(E:ev e x=some (.map (some m)))(hy:ev e y=some (I a)){v0:C}{b0:Bool}(hv:get e d=some (.tuple #[v0, .bool b0]))(Z:aw G L w)(hp:dE (dm m kv) L R)(XO:(dJ kv a).getD z=v0)(hb0:(dJ kv a).isSome=b0):xQ P n O q e w:=by
 intro o' Oc a' ha J9;have:o'=⟨some d, .lookup s x y true,tq,pq,aq,gq⟩:=Option.some.inj (Oc.symm.trans ho);subst this;subst XO hb0;obtain⟨es,ck,hf,mP⟩:=mY (Z.pick hp);refine⟨.tuple #[(dJ kv a).getD z, .bool (dJ kv a).isSome],?_,fun d' vk=>?_⟩
 ·have hxa:=ha.ev E;have hya:=ha.ev hy;have Y:=fV (P:=P) mP.eh sM;have J:=xh a kv 0;cases hi:P.info? et with
  |none=>simp[hi]at hz
  |some inf=>
   have sy:inf.zero=some z:=by simpa [hi]using hz
   cases yR:pA kv a 0 with
   |none=>rw[yR]at J;simp at J;simp[execOp,hxa,hya,Instr.lookup,aE hs,Y,gY hk,iT hk hf,yR,zeroValue,typeInfo,hi,sy,<-J]
   |some q=>obtain⟨q,u⟩:=q;rw[yR]at J;simp at J;simp[execOp,hxa,hya,Instr.lookup,aE hs,Y,gY hk,iT hk hf,yR,<-J]
 cases vk;exact ha.get d _ hv
end
def vtC(pq:Nat)(om:Nat)(av:C)(floor:Int):List C:=[pQ pq, .map (some om),av,I floor]
def BB(on:List (Int×dL)):KV:=on.map fun x=>(x.1,gQ x.2.cells)
def NX(n:Int):∀on:List (Int×dL),dJ (BB on) n=(on.find? fun x=>x.1==n).map fun x=>gQ x.2.cells
 |[]=>rfl
 |x::on=>by
  have ih:=NX n on;simp only[BB,ey,dJ,List.find?_cons]at ih ⊢
  by_cases h:x.1=n
  ·subst h;simp
  have J:(x.1==n)=false:=by simpa using h
  rw[J];simp only[ih]
  first|rw[aj h]|rw[aj (fun e=>h e.symm)]
def gz(S:List dL):aF:=bt (S.map fg)
def dL.Ok.nR{A M B ad:List aF}(h:p.Ok A)(e:M=B++(A++ad)):p.Ok [bt M]:=
 ⟨⟨h.its.sl.nR e,fun x E=>⟨(h.its.it x E).k.nR e,(h.its.it x E).v.nR e,(h.its.it x E).sk,(h.its.it x E).sv⟩,h.its.len⟩,h.data.nR e,h.sd⟩
def dL.Ok.pick{A:aF}(h:p.Ok [A])(q:dE A L R):p.Ok L:=
 ⟨⟨(h.its.sl.head _).pick q,fun x E=>⟨((h.its.it x E).k.head _).pick q,((h.its.it x E).v.head _).pick q,(h.its.it x E).sk,(h.its.it x E).sv⟩,h.its.len⟩,(h.data.head _).pick q,h.sd⟩
def lB(hm:p∈S)(hs:p.Sm)(q:dE (gz S) L R):p.Ok L:=by
 obtain⟨B,ad,rfl⟩:=O4 hm;have Y:p.Ok [fg p]:=cL hs .here;exact(Y.nR (B:=B.map fg) (ad:=ad.map fg) sM).pick q
def jz(h:p.Ok L)(Z:aw G L w):lK p.cells:=fun u hu=>by
 obtain⟨a1,c1,a2,c2,Y,J,gC⟩:=h.form Z;rw[gC]at hu;simp only[cE,fQ,or_false]at hu
 rcases hu with rfl|rfl|rfl|rfl|rfl<;>rfl
def gi:dL:=⟨0,0,[],nQ,nQ,[],0⟩
def TU(on:List (Int×dL))(n:Int):Option dL:=(on.find? fun x=>x.1==n).map (·.2)
def JW(on:List (Int×dL))(n:Int):dJ (BB on) n=(TU on n).map fun p=>gQ p.cells:=by
 rw[NX,TU,Option.map_map];rfl
abbrev vtP(vq pq om:Nat)(av:C)(floor:Int)(p:L3)(on:List (Int×dL))(S:List dL)(L:List aF):List aF:=N vq (vtC pq om av floor) 38::dm om (BB on)::gz S::Cd pq p L
def yS:(prog.info? 104).bind (·.zero)=some (.agg #[I 0,I 0,nQ,nQ,I 0]):=kR
def BM{pq om:Nat}{av:C}{floor:Int}{p:L3}(Z:aw G (vtP vq pq om av floor p on S L) w)(hl:p.counts.length<=65536)(hon:gP p.counts n≠0->∃pg,TU on n=some pg/\pg∈S/\pg.Sm):aA prog 44 #[pQ vq,I n] w (bU fun r w'=>
  (gP p.counts n=0/\r= .tuple #[gQ gi.cells,I 15]/\aw G (vtP vq pq om av floor p on S L) w')∨
  (gP p.counts n≠0/\∃pg p',TU on n=some pg/\r= .tuple #[gQ p'.cells,I 0]/\p'.pg=pg.pg/\p'.Sm/\aw G (fg p'::vtP vq pq om av floor p on S L) w')):=by
 refine wF [_,_] func44 ntmps44 ?_;refine wL 2 bW Z fun w b4 Z=>?_;refine wD 8 gB Z ?_;refine z1 ?_;refine wC rfl sf rfl (tw (p:=p) (q:=pq) (Z.b [N pq _ _,row 3 _ _ _ _,row 4 _ _ _ _]) hl) fun w Z=>?_
 refine wI 2 (fun Y=>?_) fun Y=>?_
 ·refine wV 2 (v:=gQ gi.cells) ?_;refine wN 0 (cs:=gi.cells) (l':=gi.cells) ay (by intro u hu;simp only[gi,dL.cells,cE,fQ,or_false]at hu;rcases hu with rfl|rfl|rfl|rfl|rfl<;>rfl) Z (fun w Z=>?_);refine z3 ?_;exact ga rfl rfl ⟨_,rfl,(aD.dB ay Z pK rfl)⟩ rfl (.inl ⟨Y,rfl,(Z.b [N b4 _ _,N vq _ _,dm _ _,gz _,N pq _ _,row 3 _ _ _ _,row 4 _ _ _ _]).tail⟩)
 obtain⟨pg,uR,aaS,rY⟩:=hon Y;refine wD 6 gK Z ?_;refine z1 ?_;refine GQ (v0:=gQ pg.cells) rfl j9 dD yS rfl rfl Z pK (by rw[JW,uR];rfl) ?_;refine aO rfl wb rfl (xY (p:=pg) Z (lB aaS rY pK)) rfl fun w v20 hv=>?_;obtain⟨p',rfl,Mz,oR,Z⟩:=hv;refine ue (cs:=p'.cells) (l':=p'.cells) rfl tV rfl rfl ay rfl (jz (cL oR pK) Z) Z pK (by simp[dL.cells]) rfl rfl fun w Z=>?_;refine z3 ?_;exact ga rfl rfl ⟨_,rfl,(aD.dB ay Z pK rfl)⟩ rfl (.inr ⟨Y,pg,p',uR,rfl,Mz,oR,(Z.b [N b4 _ _,fg _,N vq _ _,dm _ _,gz _,N pq _ _,row 3 _ _ _ _,row 4 _ _ _ _]).tail⟩)
def nK(x:Int×dL):List C:=I x.1::x.2.cells
def oQ(c:List Int):List Int->List (Int×Pg)->Int
 |_,[]=>0
 |seen,x::r=>if gP c x.1=0 then 15 else if x.1∈seen then 10 else if dv x.2≠0 then dv x.2 else oQ c (x.1::seen) r
def qU(refs:Int)(c:List Int):Int:=if¬(1<=(c.length:Int)/\(c.length:Int)<=65536/\2<=refs/\refs<65536)then 1 else if¬(∀x∈c,0<=x/\x<=refs)then 13 else 0
def uj(refs:Int)(c:List Int)(l:List (Int×Pg)):Int:=if qU refs c≠0 then qU refs c else if oQ c [] l≠0 then oQ c [] l else if(l.length:Int)<ly c 4 then 9 else 0
def mW(l:List (Int×dL)):List (Int×Pg):=l.map fun x=>(x.1,x.2.pg)
def aaf(l:List (Int×dL)):∀r∈l.map nK,r.length=6:=fun r hr=>by obtain⟨x,_,rfl⟩:=dY.1 hr;rfl
def JI(on:List (Int×dL))(n:Int):(TU on n).isSome=true↔n∈on.map (·.1):=by
 unfold TU;rw[Option.isSome_map,List.find?_isSome];simp only[dY,beq_iff_eq]
def Vu(h:TU on n=some p):(n,p)∈on:=by
 unfold TU at h;obtain⟨x,E,rfl⟩:=Option.map_eq_some_iff.1 h;have Y:=List.find?_some E;have J:=acq E;simp at Y
 rw[<-Y];exact J
def Xp(on:List (Int×dL)):(BB on).map (·.1)=on.map (·.1):=by simp[BB,Fz,Function.comp_def]
def aad(h:n∉on.map (·.1)):oC (BB on) n (gQ p.cells)=BB (on++[(n,p)]):=by
 rw[JV (by rw[Xp];exact h)];simp[BB]
def Q5{l:List (Int×dL)}{x:Int×dL}(h:l[k]?=some x):(mW l).drop k=(x.1,x.2.pg)::(mW l).drop (k+1):=m6 (by unfold mW;rw[dh,h];rfl)
def MQ{vc vl:C}{l:List (Int×dL)}(Z:aw G L w)(kc:aL L (oJ vc (bf c)))(hl9:c.length<=1000000000)(kl:aL L (jk 6 vl (l.map nK)))(Us:∀x∈l,x.2.Ok L)(sP:l.length<=1000000000):
  aA prog 37 #[I refs,vc,vl] w (bU fun r w'=>(uj refs c (mW l)≠0/\r= .tuple #[.pointer none,I (uj refs c (mW l))]/\aw G L w')∨
   (uj refs c (mW l)=0/\∃vq pq om cv lv fq fv on,r= .tuple #[pQ vq,I 0]/\mW on=mW l/\(∀x∈on,x.2.Sm)/\aw G (vtP vq pq om (nQ) 0 (Z0 refs c cv lv fq) on (on.map (·.2)) (QK fq fv (jh c) L)) w')):=by
 obtain⟨la,lc,Y,-,-⟩:=(kl.at Z).form;rw[cg]at Y;subst Y;refine wF [_,_,_] func37 ntmps37 ?_;refine z9 ?_;refine aO rfl Nm rfl (PW Z kc hl9) rfl fun w Zg hv=>?_;have hv:∃(pp:Option Addr) (er:Int),Zg= .tuple #[.pointer pp,I er]/\((er≠0/\er=qU refs c/\aw G L w)\/(er=0/\qU refs c=0/\(1<=(c.length:Int)/\(c.length:Int)<=65536)/\∃q cv lv fq fv,pp=some ⟨q,0,none⟩/\aw G (Cd q (Z0 refs c cv lv fq) (QK fq fv (jh c) L)) w)):=by
  rcases hv with⟨Y,J,h3⟩|⟨Y,⟨J,h3,h4⟩|⟨J,q,cv,lv,fq,fv,h3,h4⟩⟩
  ·exact⟨none,1,J, .inl ⟨by decide,by unfold qU;rw[aB Y],h3⟩⟩
  ·exact⟨none,13,h3, .inl ⟨by decide,by unfold qU;rw[aj (fun h=>h Y),aB J],h4⟩⟩
  exact⟨some ⟨q,0,none⟩,0,h3, .inr ⟨rfl,by unfold qU;rw[aj (fun h=>h Y),aj (fun h=>h J)],⟨Y.1,Y.2.1⟩,q,cv,lv,fq,fv,rfl,h4⟩⟩
 obtain⟨pp,er,rfl,Ug⟩:=hv;refine wI 12 (fun Y=>?_) fun Y=>?_
 ·obtain⟨-,rfl,Z⟩:=Ug.resolve_right (fun h=>Y h.1);refine ui 7 ?_;exact .inl ⟨by unfold uj;rw[aB Y];exact Y,by unfold uj;rw[aB Y],Z⟩
 obtain⟨rfl,wy,gC,q,cv,lv,fq,fv,rfl,Z⟩:=Ug.resolve_left (fun h=>h.1 H);have BC:uj refs c (mW l)=if oQ c [] (mW l)≠0 then oQ c [] (mW l)else if(l.length:Int)<ly c 4 then 9 else 0:=by unfold uj;rw[aj H,show(mW l).length=l.length from cg ..]
 refine z4 ?_;refine Ny rfl Z rfl fun w m26 Z=>?_;refine wV 0 (v:=gQ (vtC q m26 (nQ) 0)) ?_;refine wB 0 Z fun w b28 Z=>?_;refine z6 ?_;refine eE rfl kR eA rfl ?_;refine z3 ?_;have Z:=bB Z 3 1;have Z:=Z.tail;have Z:=aw.bJ (M:=([]:List dL).map fg) Z;have Z:=Z.b [N b28 _ _,dm _ _,bt _,N q _ _,row 3 _ _ _ _,row 4 _ _ _ _,N fq _ _,row 379 _ _ _ _];refine bx (fun m e w=>∃(k:Nat) (on:List (Int×dL)),k<=l.length/\m=l.length-k/\e=[(10,pQ b28),(29, .slice la l.length lc),(30,I l.length),(31,I k)]/\(mW on=(mW l).take k/\(∀x∈on,x.2.Sm)/\oQ c [] (mW l)=oQ c ((((mW l).take k).map (·.1)).reverse) ((mW l).drop k))/\aw G (vtP b28 q m26 (nQ) 0 (Z0 refs c cv lv fq) on (on.map (·.2)) (QK fq fv (jh c) L)) w)
  (m:=l.length) sB
  ⟨0,[],de _,rfl,rfl,⟨rfl,(fun x E=>by cases E),rfl⟩,Z⟩ ?_
 rintro m e w ⟨k,on,hk,rfl,rfl,⟨ho1,ho2,Qk⟩,Z⟩;refine wI 5 (fun J=>?_) fun J=>?_
 ·have gn:k<l.length:=H;obtain⟨x,E⟩:∃x,l[k]?=some x:=⟨_,dG gn⟩;have lG:=Us x (fK E);have kA:(l.map nK)[k]?=some (nK x):=by rw[dh,E];rfl
  have RO:on.map (·.1)=((mW l).take k).map (·.1):=by rw[<-ho1];simp[mW,Fz,Function.comp_def]
  rw[Q5 E]at Qk;simp only[oQ,List.mem_reverse,<-RO]at Qk
  obtain⟨bb,oo,rfl⟩:=((kl.of sF).at Z).nn (by rw[cg];omega);have Ed:∃p0:dL,(dJ (BB on) x.1).getD (gQ gi.cells)=gQ p0.cells/\lK p0.cells:=by
   rw[JW];cases hf:TU on x.1 with
   |none=>exact⟨gi,rfl,by intro u hu;simp only[gi,dL.cells,cE,fQ,or_false]at hu;rcases hu with rfl|rfl|rfl|rfl|rfl<;>rfl⟩
   |some p0=>
    have hm:=Vu hf;exact⟨p0,rfl,jz (lB (S:=on.map (·.2)) (dY.2 ⟨_,hm,rfl⟩) (ho2 _ hm) (.there (.there .here))) Z⟩
  obtain⟨p0,hp0,BD⟩:=Ed;have hb0:(dJ (BB on) x.1).isSome=decide (x.1∈on.map (·.1)):=by
   rw[JW,Option.isSome_map]
   by_cases h:x.1∈on.map (·.1)
   ·rw[eW h];exact(JI _ _).2 h
   rw[cN h];cases h9:(TU on x.1).isSome with
   |false=>rfl
   |true=>exact aS ((JI _ _).1 h9) h
  refine wX 5 eA gA ?_;refine bg rfl rfl (aD.many ur rfl (by rw[cZ];exact((kl.of sF).at Z).at kA)) ?_;refine wL 0 IW Z fun w Dz Z=>?_;refine wN 0 (cs:=nK x) (l':=nK x) ur (by intro u hu;rcases cE.1 hu with rfl|hu;rfl;exact jz (lG.of sF) Z u hu) Z (fun w Z=>?_);refine z3 ?_;refine wQ [0,1,2,3,4,5,6,7] Z fun Z=>?_
  refine wD 3 gB Z ?_;refine wD 1 ag Z ?_;refine wC rfl sf rfl (tw (p:=Z0 refs c cv lv fq) (q:=q) (Z.b [N q _ _,row 3 _ _ _ _,row 4 _ _ _ _]) (show c.length<=65536 by omega)) fun w Z=>?_
  refine wI 2 (fun h3=>?_) fun h3=>?_
  ·refine z6 ?_;exact ga rfl rfl rfl rfl (.inl (by
 have h3':gP c x.1=0:=h3;rw[aB h3']at Qk;have e15:uj refs c (mW l)=15:=by rw[BC,Qk,aB dM]
 exact⟨by rw[e15];decide,by rw[e15],(by repeat(first|exact Z|replace Z:=Z.tail))⟩))
  have h3':¬gP c x.1=0:=h3;rw[aj h3']at Qk;refine z3 ?_;refine wQ [0,1,2,3,4,5,6,7,8,9,10,11,12] Z fun Z=>?_
  refine wD 3 gK Z ?_;refine wD 1 ag Z ?_;refine aeg (v0:=gQ p0.cells) (b0:=decide (x.1∈on.map (·.1))) rfl j9 dD yS rfl rfl Z pK hp0 hb0 ?_;refine z3 ?_;refine kX rfl bW Z (fun w b13 Z q' hq=>?_) fun w b13 Z=>?_
  ·have hq:=bK (l:=[6,5,3]) kR hq;simp only[cE,fQ,or_false]at hq;rcases hq with rfl|rfl|rfl
   ·exact adt rfl j9 dD yS rfl rfl rfl Z pK hp0 hb0
   ·exact bG rfl rfl rfl (aD.cw ag Z pK rfl)
   exact bG rfl rfl rfl (aD.cw gK Z pK rfl)
  refine wN 0 (cs:=p0.cells) (l':=p0.cells) ay BD Z fun w Z=>?_;refine wI 6 (fun h4=>?_) fun h4=>?_
  ·refine z6 ?_;exact ga rfl rfl rfl rfl (.inl (by
 rw[aB h4]at Qk;have e10:uj refs c (mW l)=10:=by rw[BC,Qk,aB dM]
 exact⟨by rw[e10];decide,by rw[e10],(by repeat(first|exact Z|replace Z:=Z.tail))⟩))
  rw[aj h4]at Qk;refine z5 ?_;refine bg rfl rfl (aD.xM (cs:=x.2.cells) ay Z pK rfl rfl) ?_;refine wC rfl tH rfl (u7 (p:=x.2) Z (lG.of sF)) fun w Z=>?_
  refine wI 7 (fun h5=>?_) fun h5=>?_
  ·refine z7 ?_;exact ga rfl rfl rfl rfl (.inl (by
 rw[aB h5]at Qk;have ek:uj refs c (mW l)=dv x.2.pg:=by rw[BC,Qk,aB h5]
 exact⟨by rw[ek];exact h5,by rw[ek],(by repeat(first|exact Z|replace Z:=Z.tail))⟩))
  rw[aj h5]at Qk;refine jo ?_;refine wQ [0,1,2,3,4,5,6,7,8,9] Z fun Z=>?_
  refine wD 3 gK Z ?_;refine wD 1 ag Z ?_;refine z1 ?_;refine bg rfl rfl (aD.xM (cs:=x.2.cells) ay Z pK rfl rfl) ?_;refine ed rfl wb rfl (xY (p:=x.2) Z (lG.of sF)) (fun w v68 hv q' hq=>?_) fun w v68 hv=>?_
  ·obtain⟨p',rfl,Mz,oR,Z⟩:=hv;have hq:=bK (l:=[5,3]) kR hq;simp only[cE,fQ,or_false]at hq;rcases hq with rfl|rfl
   ·exact bG rfl rfl rfl (aD.cw ag Z pK rfl)
   exact bG rfl rfl rfl (aD.cw gK Z pK rfl)
  obtain⟨p',rfl,Mz,oR,Z⟩:=hv;refine WI rfl tV j9 dD rfl rfl rfl Z pK kR fun w Z=>?_;refine z5 ?_;rw[aad h4]at Z;have Z:=aw.iD (Z.b [gz _,fg p']);have hpx:(mW l)[k]?=some (x.1,x.2.pg):=by unfold mW;rw[dh,E];rfl
  have Z:=(Z.b [N b13 _ _,N Dz _ _,N b28 _ _,dm _ _,bt _,N q _ _,row 3 _ _ _ _,row 4 _ _ _ _,N fq _ _,row 379 _ _ _ _]).t2;refine⟨l.length-(k+1),H,[(10,_),(29,_),(30,_),(31,I (k+1:Nat))],sB,k+1,on++[(x.1,p')],H,rfl,rfl,⟨?_,?_,?_⟩,?_⟩
  ·rw[bV hpx,<-ho1,<-Mz];simp[mW]
  ·intro y hy;rcases eZ.1 hy with hy|hy
   ·exact ho2 y hy
   simp at hy;subst hy;exact oR
  ·rw[bV hpx,jX,aci,<-RO];exact Qk
  show aw G (N b28 _ _::dm _ _::bt ((on++[(x.1,p')]).map (·.2)|>.map fg)::_) w
  have e:((on++[(x.1,p')]).map (·.2)).map fg=(on.map (·.2)).map fg++[fg p']:=by simp
  rw[e];exact Z
 have oY:k=l.length:=H;subst oY;rw[show(mW l).drop l.length=[] from vB (by simp[mW])]at Qk;rw[kH (by simp[mW])]at ho1
 have hol:(BB on).length=l.length:=by
  have h:=aU List.length ho1
  simpa [mW,BB]using h
 have rJ:oQ c [] (mW l)=0:=Qk;rw[rJ,aj dM]at BC;refine z3 ?_;refine wQ [0,1,2,3,4,5,6,7,8,9,10] Z fun Z=>?_
 refine wD 3 gK Z ?_;refine aeR rfl j9 rfl Z pK ?_;refine wD 3 gB Z ?_;refine wC rfl B5 rfl (Db (p:=Z0 refs c cv lv fq) (q:=q) (k:=4) (Z.b [N q _ _,row 3 _ _ _ _,row 4 _ _ _ _])) fun w Z=>?_
 refine wI 2 (fun h6=>?_) fun h6=>?_
 ·refine z6 ?_;exact ga rfl rfl rfl rfl (.inl (by
 have RS:((BB on).length:Int)<ly c 4:=h6;rw[hol]at RS;rw[aB RS]at BC
 exact⟨by rw[BC];decide,by rw[BC],(by repeat(first|exact Z|replace Z:=Z.tail))⟩))
 refine z8 ?_;exact ga rfl rfl rfl rfl (.inr (by
 have RS:¬((BB on).length:Int)<ly c 4:=h6;rw[hol]at RS;rw[aj RS]at BC
 have hz:=Z.b [N b28 _ _,dm _ _,gz _,N q _ _,row 3 _ _ _ _,row 4 _ _ _ _,N fq _ _,row 379 _ _ _ _];exact⟨BC,b28,q,m26,cv,lv,fq,fv,on,rfl,ho1,ho2,hz⟩))
structure AL where
 r:Int
 c:List Int
 cv:C
 l:List Bool
 lv:C
 p:List dL
 pv:C
 av:C
 floor:Int
 RG:Bool
def AL.cells(v:AL):List C:=[I v.r,v.cv,v.lv,v.pv,v.av,I v.floor, .bool v.RG]
abbrev nj(q:Nat)(v:AL)(L:List aF):List aF:=N q v.cells 129::row 3 1 v.cv v.c.length (bf v.c)::row 4 1 v.lv v.l.length (gW v.l)::row 104 5 v.pv v.p.length (v.p.map dL.cells).flatten::L
def DQ{v:AL}(Z:aw G (nj q v L) w):∃ca cc la lc pa pc,∀M,nj q v M=(N q [I v.r, .slice ca v.c.length cc, .slice la v.l.length lc, .slice pa v.p.length pc,v.av,I v.floor, .bool v.RG] 129::row 3 1 (.slice ca v.c.length cc) v.c.length (bf v.c)::row 4 1 (.slice la v.l.length lc) v.l.length (gW v.l)::row 104 5 (.slice pa v.p.length pc) v.p.length (v.p.map dL.cells).flatten::M):=by
 obtain⟨ca,cc,Y⟩:=aT (Z.pick (A:=row 3 1 v.cv _ _) (.there .here));obtain⟨la,lc,J⟩:=aT (Z.pick (A:=row 4 1 v.lv _ _) (.there (.there .here)));obtain⟨pa,pc,h3⟩:=aT (Z.pick (A:=row 104 5 v.pv _ _) (.there (.there (.there .here))));exact⟨ca,cc,la,lc,pa,pc,fun M=>by unfold nj;simp only[AL.cells,Y,J,h3]⟩
def NS(l:List dL):∀r∈l.map dL.cells,r.length=5:=fun r hr=>by obtain⟨x,_,rfl⟩:=dY.1 hr;rfl
def Gc{r:Int}(Z:aw G L w):aA prog 188 #[I r] w (bU fun u w'=>u= .bool (decide (2<=r/\r<65536))/\aw G L w'):=by
 refine wF [_] func188 ntmps188 ?_;refine z9 ?_;refine bw (l1:=[3,4,5]) (l2:=[6]) rfl (d:=8) (2<=r/\r<65536) rfl ?_ ?_
 ·refine ar (d:=5) rfl (fun Y=>?_) fun Y=>?_
  ·exact wq 4
  exact wq 4
 refine dk 3 ?_;exact⟨rfl,Z⟩
def uC{v:AL}(Z:aw G (nj q v L) w):aA prog 157 #[pQ q,I n] w (bU fun u w'=>u= .bool (decide (je v.c n))/\aw G (nj q v L) w'):=by
 obtain⟨ca,cc,la,lc,pa,pc,he⟩:=DQ Z;rw[he]at Z;refine wF [_,_] func157 ntmps157 ?_;refine z9 ?_;refine bw (l1:=[3,4,5,6,7,8,9,10]) (l2:=[11]) rfl (d:=15) (1<=n/\n<=(v.c.length:Int)) rfl ?_ ?_
 ·refine ar (d:=7) rfl (fun Y=>?_) fun Y=>?_
  ·refine z2 ?_;refine vr rfl rfl ?_;refine wD 1 dS Z ?_;refine eE rfl kR aY rfl ?_;exact wq 3
  exact wq 9
 refine dk 3 ?_;exact⟨rfl,by rw[he];exact Z⟩
def ji{v:AL}(Z:aw G (nj q v L) w):aA prog 45 #[pQ q] w (bU fun u w'=>u=I v.c.length/\aw G (nj q v L) w'):=by
 obtain⟨ca,cc,la,lc,pa,pc,he⟩:=DQ Z;rw[he]at Z;refine wF [_] func45 ntmps45 ?_;refine wD 9 dS Z ?_;refine dk 4 ?_;exact⟨rfl,by rw[he];exact Z⟩
def jB{v:AL}(Z:aw G (nj q v L) w)(hl:v.c.length<=65536):aA prog 104 #[pQ q,I n] w (bU fun u w'=>u= .bool (decide (0<gP v.c n))/\aw G (nj q v L) w'):=by
 obtain⟨ca,cc,la,lc,pa,pc,he⟩:=DQ Z;refine wF [_,_] func104 ntmps104 ?_;refine z8 ?_;refine wC rfl tC rfl (uC Z) fun w Z=>?_
 rw[he]at Z;refine z1 ?_;refine ar (d:=8) rfl (fun Y=>?_) fun Y=>?_
 ·have kB:aL (row 3 1 (.slice ca v.c.length cc) v.c.length (bf v.c)::row 4 1 (.slice la v.l.length lc) v.l.length (gW v.l)::row 104 5 (.slice pa v.p.length pc) v.p.length (v.p.map dL.cells).flatten::L) (oJ (.slice ca v.c.length cc) (bf v.c)):=oz;obtain⟨bb,oo,rfl⟩:=((kB.of sF).at Z).nn (by rw[bC];omega);have hcn:gP v.c n=v.c.getD (n-1).toNat 0:=by unfold gP;rw[aB Y]
  refine z1 ?_;refine vr rfl rfl ?_;refine wD 1 dS Z ?_;refine z1 ?_;refine uO rfl rfl rfl H ?_;refine wY 0 aY bF ?_;refine bg rfl rfl (aD.one ag (((kB.of sF).at Z).at (Bj H))) ?_;refine dk 5 ?_;exact⟨by rw[hcn],by rw[he];exact Z⟩
 refine z13 ?_;exact dt rfl rfl rfl ⟨by
 have e:gP v.c n=0:=by unfold gP;rw[aj Y]
 rw[e];rfl,by rw[he];exact Z⟩
def BS{v:AL}(Z:aw G (nj q v (gz S::L)) w)(hl:v.c.length<=65536)(wy:v.p.length=v.c.length)(hon:0<gP v.c n->∀pg,v.p[(n-1).toNat]?=some pg->pg∈S/\pg.Sm):aA prog 81 #[pQ q,I n] w (bU fun r w'=>
  (¬0<gP v.c n/\r= .tuple #[gQ gi.cells,I 15]/\aw G (nj q v (gz S::L)) w')∨
  (0<gP v.c n/\∃pg p',v.p[(n-1).toNat]?=some pg/\r= .tuple #[gQ p'.cells,I 0]/\p'.pg=pg.pg/\p'.Sm/\aw G (fg p'::nj q v (gz S::L)) w')):=by
 obtain⟨ca,cc,la,lc,pa,pc,he⟩:=DQ Z;refine wF [_,_] func81 ntmps81 ?_;refine wL 2 bW Z fun w b4 Z=>?_;refine z7 ?_;refine wC rfl jl rfl (jB (Z.b [N q _ _,row 3 _ _ _ _,row 4 _ _ _ _,row 104 _ _ _ _]) hl) fun w Z=>?_
 rw[he]at Z;refine cU rfl rfl ?_;refine aK ?_;refine wI 0 (fun Y=>?_) fun Y=>?_
 ·refine wV 2 (v:=gQ gi.cells) ?_;refine wN 0 (cs:=gi.cells) (l':=gi.cells) ay (by intro u hu;simp only[gi,dL.cells,cE,fQ,or_false]at hu;rcases hu with rfl|rfl|rfl|rfl|rfl<;>rfl) Z (fun w Z=>?_);refine z3 ?_;exact ga rfl rfl ⟨_,rfl,(aD.dB ay Z pK rfl)⟩ rfl (.inl ⟨Y,rfl,by rw[he];exact(Z.b [N b4 _ _,N q _ _,row 3 _ _ _ _,row 4 _ _ _ _,row 104 _ _ _ _]).tail⟩)
 have FV:0<gP v.c n:=dg.1 Y;have hth:je v.c n:=by
  refine vC fun h=>?_
  unfold gP at FV;rw[aj h]at FV;omega
 have jr:aL (row 104 5 (.slice pa v.p.length pc) v.p.length (v.p.map dL.cells).flatten::N b4 gi.cells 104::gz S::L) (jk 5 (.slice pa v.p.length pc) (v.p.map dL.cells)):=(jk.row sM (NS v.p)).head _;obtain⟨bb,oo,rfl⟩:=((jr.of sF).at Z).nn (by rw[cg];omega);obtain⟨pg,uR⟩:∃pg,v.p[(n-1).toNat]?=some pg:=⟨_,dG H⟩;obtain⟨aaS,rY⟩:=hon FV pg uR;refine wD 6 eI Z ?_;refine wX 2 gw iR ?_;refine bg rfl rfl (aD.many ay rfl (((jr.of sF).at Z).at (by rw[dh,uR];rfl))) ?_;refine aO rfl tG rfl (uE (p:=pg) Z (lB aaS rY pK)) rfl fun w Zg hv=>?_;obtain⟨p',rfl,Mz,oR,Z⟩:=hv;refine ue (cs:=p'.cells) (l':=p'.cells) rfl tV rfl rfl ay rfl (jz (cL oR pK) Z) Z pK (by simp[dL.cells]) rfl rfl fun w Z=>?_;refine z3 ?_;exact ga rfl rfl ⟨_,rfl,(aD.dB ay Z pK rfl)⟩ rfl (.inr ⟨FV,pg,p',uR,rfl,Mz,oR,by rw[he];exact(Z.b [N b4 _ _,fg _,N q _ _,row 3 _ _ _ _,row 4 _ _ _ _,row 104 _ _ _ _]).tail⟩)
def aaj(refs:Int)(k:Nat)(cv lv pv:C):AL:=⟨refs,List.replicate k 0,cv,List.replicate k false,lv,List.replicate k gi,pv,nQ,0,false⟩
def PR(Z:aw G L w):aA prog 106 #[I n,I refs] w (bU fun r w'=>(¬(1<=n/\n<=65536/\2<=refs/\refs<65536)/\r= .tuple #[.pointer none,I 1]/\aw G L w')∨
  ((1<=n/\n<=65536/\2<=refs/\refs<65536)/\∃q cv lv pv,r= .tuple #[pQ q,I 0]/\aw G (nj q (aaj refs n.toNat cv lv pv) L) w')):=by
 refine wF [_,_] func106 ntmps106 ?_;refine SP ?_;refine bw (l1:=[3,4,5]) (l2:=[6,7,8,9,10]) rfl (d:=13) (n<1\/65536<n) rfl ?_ ?_
 ·refine ar (d:=10) rfl (fun Y=>?_) fun Y=>?_
  ·exact wq 4
  exact wq 4
 refine z1 ?_;refine sn (l1:=[7,8,9,10]) (l2:=[]) rfl (d:=18) (n<1\/65536<n\/¬(2<=refs/\refs<65536)) (fun w=>aw G (L) w) rfl ?_ ?_
 ·refine ar (d:=14) rfl (fun J=>?_) fun J=>?_
  ·refine z5 ?_;refine⟨Z,aU some (aU Value.bool ?_)⟩
   try rw[<-decide_not]
   exact dC
  refine z1 ?_;refine wC rfl ES rfl (Gc Z) fun w Z=>?_
  refine cU rfl rfl ?_;refine z2 ?_;refine⟨Z,aU some (aU Value.bool ?_)⟩
  try rw[<-decide_not]
  exact dC
 clear Z;intro w Z;refine aK ?_;refine wI 0 (fun h3=>?_) fun h3=>?_
 ·refine ui 6 ?_;exact .inl ⟨H,rfl,Z⟩
 refine wV 4 (v:= .agg #[I refs,nQ,nQ,nQ,nQ,I 0, .bool false]) ?_;refine wB 0 Z fun w b21 Z=>?_;refine z8 ?_;have Z:=bB (bB (bB Z 104 5) 4 1) 3 1;have Z:=Z.b [N b21 _ _,row 3 _ _ _ _,row 4 _ _ _ _,row 104 _ _ _ _];refine bx (fun m e w=>∃(k:Nat) (cv lv pv:C),(k:Int)<=n/\m=n.toNat-k/\e=[(0,I n),(6,pQ b21),(7,I k)]/\aw G (N b21 [I refs,cv,lv,pv,nQ,I 0, .bool false] 129::row 3 1 cv k (bf (List.replicate k 0))::row 4 1 lv k (gW (List.replicate k false))::row 104 5 pv k ((List.replicate k gi).map dL.cells).flatten::L) w)
  (m:=n.toNat) sB
  ⟨0,nQ,nQ,nQ,H,rfl,rfl,Z⟩ ?_
 rintro m e w ⟨k,cv,lv,pv,hk,rfl,rfl,Z⟩;refine wI 7 (fun h4=>?_) fun h4=>?_
 ·refine wD 9 dS Z ?_;refine fb (cs:=[I 0]) rfl aY bF fh dM rfl rfl rfl Z rfl fun w Wh Z=>?_;refine eF (m:=k) (k:=1) (news:=[I 0]) rfl aY bF j7 fh rfl rfl Z pK (Rd.iq Z pK) rfl (by intro u hu;simp at hu;subst hu;rfl) mL H rfl (fun w v33 Z=>?_);obtain⟨a33,c33,rfl⟩:=aT Z;refine wS 2 (l':=[_,_,_,_,_,_,_]) dS Z fun w Z=>?_;refine wD 7 iU Z ?_;refine fb (cs:=[.bool false]) rfl dV gg IC dM rfl rfl rfl Z rfl fun w b41 Z=>?_;refine eF (m:=k) (k:=1) (news:=[.bool false]) rfl dV gg Bt IC rfl rfl Z pK (Rd.iq Z pK) rfl (by intro u hu;simp at hu;subst hu;rfl) mL H rfl (fun w L8 Z=>?_);obtain⟨a42,c42,rfl⟩:=aT Z;refine wS 2 (l':=[_,_,_,_,_,_,_]) iU Z fun w Z=>?_;refine wD 6 eI Z ?_;refine wV 0 (v:=gQ gi.cells) ?_;refine fb (cs:=gi.cells) rfl gw iR GP dM rfl rfl rfl Z rfl fun w b51 Z=>?_;refine eF (m:=k) (k:=1) (news:=gi.cells) rfl gw iR Sw GP rfl rfl Z pK (Rd.iq Z pK) rfl (by intro u hu;simp only[gi,dL.cells,cE,fQ,or_false]at hu;rcases hu with rfl|rfl|rfl|rfl|rfl<;>rfl) mL H rfl (fun w v52 Z=>?_);obtain⟨a52,c52,rfl⟩:=aT Z;refine wS 2 (l':=[_,_,_,_,_,_,_]) eI Z fun w Z=>?_;refine z6 ?_;have e1:bf (List.replicate (k+1) 0)=bf (List.replicate k 0)++[I 0]:=by rw[ZP];simp[bf]
  have e2:gW (List.replicate (k+1) false)=gW (List.replicate k false)++[.bool false]:=by rw[ZP];simp[gW]
  have e3:((List.replicate (k+1) gi).map dL.cells).flatten=((List.replicate k gi).map dL.cells).flatten++gi.cells:=by rw[ZP];simp
  refine⟨n.toNat-(k+1),H,[(0,_),(6,_),(7,I (k+1:Nat))],sB,k+1, .slice a33 (k+1) c33, .slice a42 (k+1) c42, .slice a52 (k+1) c52,H,rfl,rfl,?_⟩;rw[e1,e2,e3];exact(Z.b [N Wh _ _,N b41 _ _,N b51 _ _,N b21 _ _,row 3 _ _ _ _,row 4 _ _ _ _,row 104 _ _ _ _]).t3
 refine z8 ?_;exact ga rfl rfl rfl rfl (.inr (by
 have oY:n.toNat=k:=H;refine⟨H,b21,cv,lv,pv,rfl,?_⟩;rw[oY]
 show aw G (N b21 _ _::row 3 1 _ (List.replicate k (0:Int)).length _::row 4 1 _ (List.replicate k false).length _::row 104 5 _ (List.replicate k gi).length _::_) w
 rw[Mq,Mq,Mq];exact Z))
def kN{x:Int}(h:l[k]?=some x):(bf l)[k]?=some (I x):=by simp only[bf,dh,h];rfl
def vV(Z:aw G L w)(ka:aL L (oJ v (bf l)))(kb:aL L (oJ u (bf l')))(hl:l.length<=1000000000):aA prog 43 #[v,u] w (bU fun r w'=>r= .bool (decide (l=l'))/\aw G L w'):=by
 obtain⟨a,cap,rfl⟩:=(ka.at Z).form;obtain⟨a',mG,rfl⟩:=(kb.at Z).form;rw[bC,bC];rw[bC]at ka kb;refine wF [_,_] func43 ntmps43 ?_;refine wI 13 (fun Y=>?_) fun Y=>?_
 ·refine dk 5 ?_;exact⟨aU Value.bool (cN (fun h=>by subst h;omega)).symm,Z⟩
 refine z9 ?_;refine bx (fun m e w=>∃k:Nat,k<=l.length/\m=l.length-k/\e=[(0, .slice a l.length cap),(1, .slice a' l'.length mG),(12,I l.length),(13,I k)]/\l.take k=l'.take k/\aw G L w)
  (m:=l.length) sB
  ⟨0,de _,rfl,rfl,rfl,Z⟩ ?_
 rintro m e w ⟨k,hk,rfl,rfl,hE,Z⟩;refine wI 5 (fun J=>?_) fun J=>?_
 ·have gn:k<l.length:=H;obtain⟨x,E⟩:∃x,l[k]?=some x:=⟨_,dG gn⟩;obtain⟨y,hy⟩:∃y,l'[k]?=some y:=⟨_,dG H⟩;obtain⟨bb,oo,rfl⟩:=(ka.at Z).nn (by rw[bC];omega);obtain⟨b2,o2,rfl⟩:=(kb.at Z).nn (by rw[bC];omega);refine z9 ?_;refine wQ [0,1,2,3,4,5,6,7,8] Z fun Z=>?_
  refine wY 2 aY bF ?_;refine bg rfl rfl (aD.one ag ((ka.at Z).at (by rw[cZ];exact kN E))) ?_;refine wY 2 aY bF ?_;refine bg rfl rfl (aD.one ag ((kb.at Z).at (by rw[cZ];exact kN hy))) ?_;refine wI 2 (fun h3=>?_) fun h3=>?_
  ·refine z5 ?_;exact dt rfl rfl rfl ⟨aU Value.bool (cN (fun h=>by
 subst h;rw[E]at hy;exact h3 (Option.some.inj hy))).symm,Z⟩
  refine z5 ?_;exact⟨l.length-(k+1),H,[(0,_),(1,_),(12,_),(13,I (k+1:Nat))],sB,k+1,H,rfl,rfl,by rw[bV E,bV hy,hE,dg.1 h3],Z⟩
 refine z6 ?_;exact dt rfl rfl rfl ⟨aU Value.bool (eW (by
 rw[kH H,kH H]at hE;exact hE)).symm,Z⟩
structure Tr where
 root:Int
 bh:Int
 items:Int
deriving DecidableEq
def dI(t:Tr):List C:=[I t.root,I t.bh,I t.items]
def cA(x:Int×Tr):List C:=[I x.1,I x.2.root,I x.2.bh,I x.2.items]
def agS{f:α->β}{l:List α}{a b c:β}(h:l.map f=[a,b,c]):∃x y z,l=[x,y,z]/\f x=a/\f y=b/\f z=c:=by
 match l,h with
 |[x,y,z],h=>simp at h;exact⟨x,y,z,rfl,h.1,h.2.1,h.2.2⟩
def afq{f:α->β}{l:List α}{a b:β}(h:l.map f=[a,b]):∃x y,l=[x,y]/\f x=a/\f y=b:=by
 match l,h with
 |[x,y],h=>simp at h;exact⟨x,y,rfl,h.1,h.2⟩
def za(d:Nat)(w:ae)(a b:Tr):(Op.equalIn (d+2) 62 (gQ (dI a)) (gQ (dI b))).run prog w= .ok (decide (a.root=b.root/\a.bh=b.bh/\a.items=b.items)) w:=by
 have hf:((prog.fieldsOf 62).toList.map fun f=>(f.name != "_",f.type,f.offset))=[(true,3,0),(true,3,1),(true,3,2)]:=by kernel_rfl
 obtain⟨f1,f2,f3,h,Y,J,h3⟩:=agS hf;have hu:prog.underlying 3=some (.int .i64):=dD;have hi:(prog.info? 3).map (·.size)=some 1:=bF;simp only[Prod.mk.injEq,bne_iff_ne,ne_eq]at Y J h3;have hp:∀(xs:Array C) (o:Nat) (v:C) (w:ae),xs[o]?=some v->(part 3 xs o).run prog w= .ok v w:=by
  intro xs o v w hv;exact run_part_plain w kR hv
 rw[run_equalIn_agg _ _ _ _ _ kR kR,h];simp[Op.eqFields,Y,J,h3,hp,dI,run_equalIn_int _ _ _ _ _ _ _ hu]
 by_cases e1:a.root=b.root<;>by_cases e2:a.bh=b.bh<;>by_cases e3:a.items=b.items<;>simp[e1,e2,e3]
def Mj(x:Int×Tr)(w:ae):(part 62 (cA x).toArray 1).run prog w= .ok (gQ (dI x.2)) w:=by
 obtain⟨Y,J,i,hi,hs⟩:=CP ez;unfold part;rw[al,oP J Y];simp[sizeOf,typeInfo,hi,hs,cA,dI]
def QM(d:Nat)(w:ae)(a b:Int×Tr):(Op.equalIn (d+3) 69 (gQ (cA a)) (gQ (cA b))).run prog w= .ok (decide (a=b)) w:=by
 have hf:((prog.fieldsOf 69).toList.map fun f=>(f.name != "_",f.type,f.offset))=[(true,3,0),(true,62,1)]:=by kernel_rfl
 obtain⟨f1,f2,h,Y,J⟩:=afq hf;have hu:prog.underlying 3=some (.int .i64):=dD;simp only[Prod.mk.injEq,bne_iff_ne,ne_eq]at Y J;have hp:∀(x:Int×Tr) (w:ae),(part 3 (cA x).toArray 0).run prog w= .ok (I x.1) w:=fun x w=>run_part_plain w kR rfl
 rw[run_equalIn_agg _ _ _ _ _ kR kR,h];simp[Op.eqFields,Y,J,hp,Mj,run_equalIn_int _ _ _ _ _ _ _ hu,za];obtain⟨i,r,s,t⟩:=a;obtain⟨j,r',s',t'⟩:=b
 by_cases e1:i=j<;>simp[e1]
 by_cases e2:r=r'<;>by_cases e3:s=s'<;>by_cases e4:t=t'<;>simp[e2,e3,e4]
def Gi{l l':List (Int×Tr)}(Z:aw G L w)(ka:aL L (jk 4 v (l.map cA)))(kb:aL L (jk 4 u (l'.map cA)))(hl:l.length<=1000000000):aA prog 16 #[v,u] w (bU fun r w'=>r= .bool (decide (l=l'))/\aw G L w'):=by
 obtain⟨a,cap,Y,-,-⟩:=(ka.at Z).form;obtain⟨a',mG,J,-,-⟩:=(kb.at Z).form;rw[cg]at Y J;subst Y;subst J;refine wF [_,_] func16 ntmps16 ?_;refine z8 ?_;refine eE rfl kR bp rfl ?_;refine z1 ?_;refine eE rfl kR bp rfl ?_;refine wI 2 (fun Y=>?_) fun Y=>?_
 ·refine dk 5 ?_;exact⟨aU Value.bool (cN (fun h=>by subst h;omega)).symm,Z⟩
 refine z7 ?_;refine bx (fun m e w=>∃k:Nat,k<=l.length/\m=l.length-k/\e=[(0, .slice a l.length cap),(1, .slice a' l'.length mG),(5,I k)]/\l.take k=l'.take k/\aw G L w)
  (m:=l.length) sB
  ⟨0,de _,rfl,rfl,rfl,Z⟩ ?_
 rintro m e w ⟨k,hk,rfl,rfl,hE,Z⟩;refine z5 ?_;refine eE rfl kR bp rfl ?_;refine wI 2 (fun J=>?_) fun J=>?_
 ·have gn:k<l.length:=H;obtain⟨x,E⟩:∃x,l[k]?=some x:=⟨_,dG gn⟩;obtain⟨y,hy⟩:∃y,l'[k]?=some y:=⟨_,dG H⟩;obtain⟨bb,oo,rfl⟩:=(ka.at Z).nn (by rw[cg];omega);obtain⟨b2,o2,rfl⟩:=(kb.at Z).nn (by rw[cg];omega);refine z4 ?_;refine wQ [0,1,2,3,4,5,6,7,8] Z fun Z=>?_
  refine wX 2 bp dx ?_;refine bg rfl rfl (aD.many fM rfl (by rw[cZ];exact(ka.at Z).at (by rw[dh,E];rfl))) ?_;refine wX 2 bp dx ?_;refine bg rfl rfl (aD.many fM rfl (by rw[cZ];exact(kb.at Z).at (by rw[dh,hy];rfl))) ?_;refine jS (v:= .bool (decide (x≠y))) rfl kR rfl rfl (fun w'=>by
    rw[al,run_eqGuard_agg w' _ _ _ _ _ _ kR,ah,run_neq_struct,QM 9997]
    by_cases h:x=y<;>simp[h]) ?_
  refine aK ?_;refine wI 0 (fun h3=>?_) fun h3=>?_
  ·refine z5 ?_;exact dt rfl rfl rfl ⟨aU Value.bool (cN (fun h=>by
 subst h;rw[E]at hy;exact h3 (Option.some.inj hy))).symm,Z⟩
  refine z6 ?_;exact⟨l.length-(k+1),H,[(0,_),(1,_),(5,I (k+1:Nat))],sB,k+1,H,rfl,rfl,by rw[bV E,bV hy,hE,dg.1 h3],Z⟩
 refine z6 ?_;exact dt rfl rfl rfl ⟨aU Value.bool (eW (by
 rw[kH H,kH H]at hE;exact hE)).symm,Z⟩
structure Rp where
 trees:Int
 pages:Int
 leaves:Int
 index:Int
 E2:Int
 items:Int
 bytes:Int
 bad:List Int
deriving DecidableEq
structure vg where
 r:Rp
 bv:C
def vg.cells(a:vg):List C:=[I a.r.trees,I a.r.pages,I a.r.leaves,I a.r.index,I a.r.E2,I a.r.items,I a.r.bytes,a.bv]
structure vg.Ok(L:List aF)(a:vg):Prop where
 bad:aL L (oJ a.bv (bf a.r.bad))
 len:a.r.bad.length<=1000000000
def RA(h:k<l.length):(bf l)[(k:Int).toNat]?=some (I (l.getD k 0)):=by simp[bf,h]
def vg.Ok.of{a:vg}(h:a.Ok L)(s:Qr L L'):a.Ok L':=⟨h.bad.of s,h.len⟩
def aem(a b:Rp):a=b↔(a.trees=b.trees/\a.pages=b.pages/\a.leaves=b.leaves/\a.index=b.index/\a.E2=b.E2/\a.items=b.items/\a.bytes=b.bytes)/\a.bad=b.bad:=by
 obtain⟨a1,a2,a3,a4,a5,a6,a7,a8⟩:=a;obtain⟨b1,b2,b3,b4,b5,b6,b7,b8⟩:=b;simp only[Rp.mk.injEq,and_assoc]
def nZ{v':C}(Z:aw G L w)(ka:aL L (oJ v (bf l)))(kb:aL L (oJ v' (bf l')))(hl:l.length<=140737488355328)(hl':l'.length<=140737488355328):
  aA prog 15 #[v,v'] w (bU fun r w'=>r= .bool (decide (l=l'))/\aw G L w'):=by
 obtain⟨a,cap,rfl⟩:=((ka.of sF).at Z).form;obtain⟨a',mG,rfl⟩:=((kb.of sF).at Z).form;simp only[bC]at ka kb ⊢;refine wF [_,_] func15 ntmps15 ?_;refine wI 13 (fun Y=>?_) fun Y=>?_
 ·have oS:¬l=l':=fun h=>by subst h;omega
  refine dk 5 ?_;exact⟨by simp[oS],Z⟩
 have sP:l.length=l'.length:=H;refine z7 ?_;refine bx (fun m e w=>∃k:Nat,k<=l.length/\m=l.length-k/\e=[(0, .slice a l.length cap),(1, .slice a' l'.length mG),(5,I k)]/\(∀j,j<k->l.getD j 0=l'.getD j 0)/\aw G L w)
  (m:=l.length) sB
  ⟨0,de _,rfl,rfl,(fun j h=>by omega),Z⟩ ?_
 rintro m e w ⟨k,hk,rfl,rfl,hci,Z⟩;refine wI 8 (fun J=>?_) fun J=>?_
 ·have gn:k<l.length:=H;obtain⟨b,o,rfl⟩:=((ka.of sF).at Z).nn (by rw[bC];omega);obtain⟨b',o',rfl⟩:=((kb.of sF).at Z).nn (by rw[bC];omega);refine z4 ?_;refine wQ [0,1,2,3,4,5,6,7,8] Z fun Z=>?_
  refine wY 2 aY bF ?_;refine bg rfl rfl (aD.one ag (((ka.of sF).at Z).at (RA gn))) ?_;refine wY 2 aY bF ?_;refine bg rfl rfl (aD.one ag (((kb.of sF).at Z).at (RA (by omega:k<l'.length)))) ?_;refine wI 2 (fun h3=>?_) fun h3=>?_
  ·have oS:¬l=l':=fun h=>h3 (by rw[h])
   refine dk 5 ?_;exact⟨by simp[oS],Z⟩
  refine z6 ?_;refine⟨l.length-(k+1),H,[(0,_),(1,_),(5,I (k+1:Nat))],sB,k+1,H,rfl,rfl,fun j hj=>?_,Z⟩
  by_cases hjk:j=k
  ·subst hjk;exact dg.1 h3
  exact hci j H
 refine z6 ?_;exact dt rfl rfl rfl (by
 have Fg:k=l.length:=H;have he:l=l':=by
  apply ZG sP;intro j Y J;have:=hci j H
  simpa [Y,J]using this
 exact⟨by simp[he],Z⟩)
def Ey{a b:vg}(Z:aw G L w)(ha:a.Ok L)(hb:b.Ok L):aA prog 50 #[gQ a.cells,gQ b.cells] w (bU fun u w'=>u= .bool (decide (a.r=b.r))/\aw G L w'):=by
 have Hb:=ha.bad;have RR:=hb.bad;have hal:=ha.len;have tW:=hb.len;refine wF [_,_] func50 ntmps50 ?_;refine wB 2 Z fun w b2 Z=>?_;refine wB 0 Z fun w b3 Z=>?_;refine wD 5 ag Z ?_;refine wD 1 ag Z ?_;refine z2 ?_;refine bw (l1:=[6,7,8,9,10,11]) (l2:=[12,13,14,15,16,17,18,19,20,21,22,23,24,25,26,27,28,29,30,31,32,33,34,35,36,37,38,39,40,41,42,43,44,45,46,47,48,49,50,51,52,53,54]) rfl (d:=16) (a.r.trees=b.r.trees/\a.r.pages=b.r.pages) rfl ?_ ?_
 ·refine ar (d:=10) rfl (fun Y=>?_) fun Y=>?_
  ·refine wD 1 ag Z ?_;refine wD 1 ag Z ?_;exact wq 3
  exact wq 7
 refine z1 ?_;refine bw (l1:=[13,14,15,16,17,18]) (l2:=[19,20,21,22,23,24,25,26,27,28,29,30,31,32,33,34,35,36,37,38,39,40,41,42,43,44,45,46,47,48,49,50,51,52,53,54]) rfl (d:=23) (a.r.trees=b.r.trees/\a.r.pages=b.r.pages/\a.r.leaves=b.r.leaves) rfl ?_ ?_
 ·refine ar (d:=17) rfl (fun J=>?_) fun J=>?_
  ·refine wD 1 ag Z ?_;refine wD 1 ag Z ?_;exact wq 3
  exact wq 7
 refine z1 ?_;refine bw (l1:=[20,21,22,23,24,25]) (l2:=[26,27,28,29,30,31,32,33,34,35,36,37,38,39,40,41,42,43,44,45,46,47,48,49,50,51,52,53,54]) rfl (d:=30) (a.r.trees=b.r.trees/\a.r.pages=b.r.pages/\a.r.leaves=b.r.leaves/\a.r.index=b.r.index) rfl ?_ ?_
 ·refine ar (d:=24) rfl (fun h3=>?_) fun h3=>?_
  ·refine wD 1 ag Z ?_;refine wD 1 ag Z ?_;exact wq 3
  exact wq 7
 refine z1 ?_;refine bw (l1:=[27,28,29,30,31,32]) (l2:=[33,34,35,36,37,38,39,40,41,42,43,44,45,46,47,48,49,50,51,52,53,54]) rfl (d:=37) (a.r.trees=b.r.trees/\a.r.pages=b.r.pages/\a.r.leaves=b.r.leaves/\a.r.index=b.r.index/\a.r.E2=b.r.E2) rfl ?_ ?_
 ·refine ar (d:=31) rfl (fun h4=>?_) fun h4=>?_
  ·refine wD 1 ag Z ?_;refine wD 1 ag Z ?_;exact wq 3
  exact wq 7
 refine z1 ?_;refine bw (l1:=[34,35,36,37,38,39]) (l2:=[40,41,42,43,44,45,46,47,48,49,50,51,52,53,54]) rfl (d:=44) (a.r.trees=b.r.trees/\a.r.pages=b.r.pages/\a.r.leaves=b.r.leaves/\a.r.index=b.r.index/\a.r.E2=b.r.E2/\a.r.items=b.r.items) rfl ?_ ?_
 ·refine ar (d:=38) rfl (fun h5=>?_) fun h5=>?_
  ·refine wD 1 ag Z ?_;refine wD 1 ag Z ?_;exact wq 3
  exact wq 7
 refine z1 ?_;refine bw (l1:=[41,42,43,44,45,46]) (l2:=[47,48,49,50,51,52,53,54]) rfl (d:=51) (a.r.trees=b.r.trees/\a.r.pages=b.r.pages/\a.r.leaves=b.r.leaves/\a.r.index=b.r.index/\a.r.E2=b.r.E2/\a.r.items=b.r.items/\a.r.bytes=b.r.bytes) rfl ?_ ?_
 ·refine ar (d:=45) rfl (fun h6=>?_) fun h6=>?_
  ·refine wD 1 ag Z ?_;refine wD 1 ag Z ?_;exact wq 3
  exact wq 7
 refine z1 ?_;refine ar (d:=52) rfl (fun h7=>?_) fun h7=>?_
 ·refine wD 1 dS Z ?_;refine wD 1 dS Z ?_;refine wC rfl nb rfl (nZ Z (Hb.of sF) (RR.of sF) H H) fun w Z=>?_
  refine dk 4 ?_;exact⟨aU Value.bool (bI.2 ((aem a.r b.r).trans (and_iff_right h7)).symm),Z.tail.tail⟩
 refine dk 9 ?_;exact⟨aU Value.bool (cN (fun h=>h7 ((aem a.r b.r).1 h).1)).symm,Z.tail.tail⟩
def ny{a b:vg}(Z:aw G L w)(ha:a.Ok L)(hb:b.Ok L):aA prog 14 #[gQ a.cells,gQ b.cells] w (bU fun u w'=>u= .bool (decide (a.r=b.r))/\aw G L w'):=by
 refine wF [_,_] func14 ntmps14 ?_;refine wB 2 Z fun w b2 Z=>?_;refine wB 0 Z fun w b3 Z=>?_;refine wA 4 aJ Z ?_;refine wA 0 aJ Z ?_;refine wC rfl Dg rfl (Ey Z (ha.of sF) (hb.of sF)) fun w Z=>?_
 refine dk 3 ?_;exact⟨rfl,Z.tail.tail⟩
section
variable{n:Nat}{done:List Nat}{p:String}{x:aM}
def sX{b cap:Nat}{xs':List C}(ho:O[i]?=some ⟨none, .store s x y,t,p,af,g⟩)(hg:Gd O e g)(E:ev e x=some (.pointer (some ⟨b,o,none⟩)))(hy:ev e y=some v)(Y:kg P s=true)(hv:v.oneCell'=true)(Z:aw G L w)(hp:dE (row T 1 (sQ b m cap) m xs) L R)(hj:j<m)(xW:o=j)(Md:xs.set j v=xs')(hpd:gZ P O dr done i=[])(h:∀w',aw G (row T 1 (sQ b m cap) m xs'::R) w'->XL P n O dr (i::done) r K e w'):XL P n O dr done (i::r) K e w:=by
 subst xW Md;obtain⟨hl,b',cur,hb,Uz,X3,hc3,mP⟩:=fZ (Z.pick hp) H;cases hb;have hlx:xs.length=m:=H;refine rU (l':=xs.set o v++cur) ho hg E hy Y hv mP .here ?_ ?_ hpd (fun w2 hw2=>h w2 ?_)
 ·rw[tS,di];omega
 ·rw[List.set_append_left _ _ H]
 exact lC hw2 (by rw[Hu];exact hl) Uz X3 (by rw[<-hc3,di,di,Hu])
end
def Eo{z:Nat}:∀{rs:List (List C)} {j:Nat} {cs cur:List C},(∀r∈rs,r.length=z)->cs.length=z->j<rs.length->(rs.flatten++cur).take (j*z)++cs++(rs.flatten++cur).drop (j*z+z)=(rs.set j cs).flatten++cur
 |[],j,cs,cur,_,_,hj=>by simp at hj
 |r::rs,0,cs,cur,hz,hc,_=>by
  have hr:=hz r (kf ..);simp only[Mm,Nat.zero_mul,DX,lE,mT,List.set_cons_zero];rw[gm,<-hr,List.drop_left,gm]
 |r::rs,j+1,cs,cur,hz,hc,hj=>by
  have hr:=hz r (kf ..);have ih:=Eo (rs:=rs) (j:=j) (cs:=cs) (cur:=cur) (fun r h=>hz r (kG _ h)) hc (by simpa using hj);simp only[Mm,List.set_cons_succ,gm]at ih ⊢;have e1:(j+1)*z=r.length+j*z:=by rw[hr,zg];omega
  rw[e1,Nat.add_assoc,List.take_append,kH H,Nat.add_sub_cancel_left,List.drop_append,vB H,Nat.add_sub_cancel_left,lE,gm,ih]
section
variable{n:Nat}{done:List Nat}{p:String}{x:aM}
def aeM{b cap:Nat}{cs:List C}{rs rs':List (List C)}(ho:O[i]?=some ⟨none, .store s x y,t,p,af,g⟩)(hg:Gd O e g)(E:ev e x=some (.pointer (some ⟨b,o,none⟩)))(hy:ev e y=some (gQ cs))(Y:jn P s z=true)(hz:cs.length=z)(hv:lK cs)(Z:aw G L w)(hrz:∀r∈rs,r.length=z)(hp:dE (row T z (sQ b rs.length cap) rs.length rs.flatten) L R)(hj:j<rs.length)(xW:o=j*z)(Dy:rs.set j cs=rs')(hpd:gZ P O dr done i=[])(h:∀w',aw G (row T z (sQ b rs.length cap) rs.length rs'.flatten::R) w'->XL P n O dr (i::done) r K e w'):XL P n O dr done (i::r) K e w:=by
 subst xW Dy;obtain⟨hl,b',cur,hb,Uz,X3,hc3,mP⟩:=fZ (Z.pick hp) H;cases hb;have hjz:j*z+z<=rs.length*z:=by
  have:=ZQ z (show j+1<=rs.length from hj);rw[zg,Nat.one_mul]at this;exact this
 have lH:∀r∈rs.set j cs,r.length=z:=fun r hr=>by
  rcases List.mem_or_eq_of_mem_set hr with hr|hr
  ·exact hrz r hr
  rw[hr];exact hz
 have CY:(rs.set j cs).flatten.length=rs.length*z:=by rw[gy lH,Hu]
 refine ue (l':=(rs.set j cs).flatten++cur) ho hg E hy Y hz hv mP .here ?_ (Eo hrz hz hj) hpd (fun w2 hw2=>h w2 ?_)
 ·rw[di,hl];omega
 exact lC hw2 CY Uz X3 (by rw[<-hc3,di,di,CY,hl])
end
def PG{fn:Fn}{v1 v2:Array C}(Z:aw G L w):aA prog 99 #[.func fn v1 v2] w (bU fun r w'=>∃b1,r= .func (.func 183) #[] #[pQ b1]/\aw G (N b1 [.func fn v1 v2] 215::L) w'):=by
 refine wF [_] func99 ntmps99 ?_;refine wB 2 Z fun w b1 Z=>?_;refine z4 ?_;refine o7 (v1:=#[]) (v2:=#[pQ b1]) rfl (by intro z hz;simp at hz;subst hz;exact⟨_,rfl⟩) sM (by simp only[su,ey,l9];rfl) ?_;refine dk 3 ?_;exact⟨b1,rfl,Z⟩
def pY{a:Option Addr}{n c:Nat}(Z:aw G L w):aA prog 100 #[.slice a n c] w (bU fun r w'=>∃b1,r= .func (.func 184) #[] #[pQ b1]/\aw G (N b1 [.slice a n c] 58::L) w'):=by
 refine wF [_] func100 ntmps100 ?_;refine wB 2 Z fun w b1 Z=>?_;refine z4 ?_;refine o7 (v1:=#[]) (v2:=#[pQ b1]) rfl (by intro z hz;simp at hz;subst hz;exact⟨_,rfl⟩) sM (by simp only[su,ey,l9];rfl) ?_;refine dk 3 ?_;exact⟨b1,rfl,Z⟩
def zT{cq mb nm mc:Nat}{keys:Int}{v:AL}{met:List Bool}(Z:aw G (N cq [pQ q,sQ mb nm mc,I keys] 221::row 4 1 (sQ mb nm mc) nm (gW met)::nj q v L) w)(hl:v.c.length<=65536)(hm:met.length=nm)(G8:nm=v.c.length+1):
  aA prog 185 #[pQ cq,I n] w (bU fun r w'=>
   ((¬0<gP v.c n\/met.getD n.toNat false=true)/\r= .bool false/\aw G (N cq [pQ q,sQ mb nm mc,I keys] 221::row 4 1 (sQ mb nm mc) nm (gW met)::nj q v L) w')∨
   (¬(¬0<gP v.c n\/met.getD n.toNat false=true)/\r= .bool true/\aw G (N cq [pQ q,sQ mb nm mc,I keys] 221::row 4 1 (sQ mb nm mc) nm (gW (met.set n.toNat true))::nj q v L) w')):=by
 have hth:0<gP v.c n->1<=n/\n<=(v.c.length:Int):=fun h=>by
  unfold gP at h;split at h
  ·assumption
  omega
 refine wF [_,_] func185 ntmps185 ?_;refine wD 10 hJ Z ?_;refine z1 ?_;refine wC rfl jl rfl (jB (q:=q) (v:=v) (Z.b [N q _ _,row 3 _ _ _ _,row 4 1 v.lv _ _,row 104 _ _ _ _]) hl) fun w Z=>?_
 have Z:=Z.b [N cq _ _,row 4 1 (sQ mb nm mc) _ _];have hmk:aL (N cq [pQ q,sQ mb nm mc,I keys] 221::row 4 1 (sQ mb nm mc) nm (gW met)::nj q v L) (oJ (sQ mb nm mc) (gW met)):=by
  have h:=Tu (v:=sQ mb nm mc) (c:=met) (R:=nj q v L);rw[hm]at h;exact h.cons _
 refine cU rfl rfl ?_;refine z1 ?_;refine bw (l1:=[8,9,10,11,12,13,14,15]) (l2:=[]) rfl (d:=20) (¬0<gP v.c n\/met.getD n.toNat false=true) rfl ?_ ?_
 ·refine ar (d:=12) rfl (fun Y=>?_) fun Y=>?_
  ·refine z9 ?_;refine cQ ?_
   first|exact(eW (Or.inl Y)).symm|exact bI.2 ⟨.inr,fun h=>h.resolve_left Y⟩
  refine z1 ?_;refine vr rfl rfl ?_;refine wD 1 iU Z ?_;refine wY 1 dV gg ?_;refine bg rfl rfl (aD.one bS ((hmk.at Z).at (LJ (by have:=hth (dg.1 Y);omega)))) ?_;refine z2 ?_;refine cQ ?_
  first|exact(eW (Or.inl Y)).symm|exact bI.2 ⟨.inr,fun h=>h.resolve_left Y⟩
 refine aK ?_;refine wI 0 (fun J=>?_) fun J=>?_
 ·refine dk 5 ?_;exact .inl ⟨J,rfl,Z⟩
 have h3:=hth (dg.1 (fun h=>J (.inl h)));refine wD 6 iU Z ?_;refine wY 1 dV gg ?_;refine sX (xs':=gW (met.set n.toNat true)) (m:=nm) (j:=n.toNat) rfl tV rfl rfl bS rfl Z pK (by have:=hth (dg.1 (fun h=>J (.inl h)));omega) (mT _) (by simp[gW,QR]) rfl (fun w Z=>?_);refine dk 6 ?_;exact .inr ⟨J,rfl,Z.b [N cq _ _,row 4 1 (sQ mb nm mc) _ _]⟩
def inR(rs:List (Int×Int))(n:Int):Prop:=∃x∈rs,x.1<=n/\n<=x.2
def Iw:Int->List (Int×Int)->Prop
 |_,[]=>True
 |b,x::r=>b<=x.1/\x.1<=x.2/\Iw (x.2+2) r
def Iw.mono{b b':Int}(h:b'<=b):∀{rs:List (Int×Int)},Iw b rs->Iw b' rs
 |[],_=>trivial
 |x::r,hr=>⟨by have:=hr.1;omega,hr.2.1,hr.2.2⟩
def zx{x:Int×Int}{r:List (Int×Int)}:inR (x::r) n↔(x.1<=n/\n<=x.2)\/inR r n:=by
 unfold inR;simp only[cE,exists_eq_or_imp]
def acR:¬inR [] n:=fun⟨_,h,_⟩=>by cases h
def J6(a b:Int):List (Int×Int)->List (Int×Int)
 |[]=>[(a,b)]
 |x::r=>if x.2<a/\x.2+1<a then x::J6 a b r else if b<x.1/\b<x.1-1 then(a,b)::x::r else J6 (min a x.1) (max b x.2) r
def SG:∀(rs:List (Int×Int)) (B A:List (Int×Int)) (a b c:Int),a<=b->Iw c rs->b+1<c->rs.foldl ie ⟨B,A,(a,b)⟩=⟨B,A++rs,(a,b)⟩
 |[],B,A,a,b,c,_,_,_=>by simp
 |x::r,B,A,a,b,c,Hb,h,hb=>by
  have Y:=h.1;have J:=h.2.1;rw[QT];have e:ie ⟨B,A,(a,b)⟩ x=⟨B,A++[x],(a,b)⟩:=by
   unfold ie;simp only;rw[aj H,aB H]
  rw[e,SG r B (A++[x]) a b _ Hb h.2.2 H];simp
def U2:∀(rs:List (Int×Int)) (B:List (Int×Int)) (a b c:Int),a<=b->Iw c rs->(rs.foldl ie ⟨B,[],(a,b)⟩).below++[(rs.foldl ie ⟨B,[],(a,b)⟩).r]++(rs.foldl ie ⟨B,[],(a,b)⟩).cW=B++J6 a b rs
 |[],B,a,b,c,_,_=>by simp[J6]
 |x::r,B,a,b,c,Hb,h=>by
  rw[QT,J6]
  by_cases Y:x.2<a/\x.2+1<a
  ·have e:ie ⟨B,[],(a,b)⟩ x=⟨B++[x],[],(a,b)⟩:=by unfold ie;simp only;rw[aB Y]
   rw[e,aB Y,U2 r (B++[x]) a b _ Hb h.2.2];simp
  rw[aj Y]
  by_cases J:b<x.1/\b<x.1-1
  ·have e:ie ⟨B,[],(a,b)⟩ x=⟨B,[x],(a,b)⟩:=by unfold ie;simp only;rw[aj Y,aB J];rfl
   rw[e,aB J,SG r B [x] a b _ Hb h.2.2 (by have:=h.2.1;omega)];simp
  have e:ie ⟨B,[],(a,b)⟩ x=⟨B,[],(min a x.1,max b x.2)⟩:=by unfold ie;simp only;rw[aj Y,aj J]
  rw[e,aj J,U2 r B _ _ _ H h.2.2]
def abB{b c:Int}(Hb:a<=b)(h:Iw c rs):E4 rs a b=J6 a b rs:=by
 unfold E4 AI;rw[U2 rs [] a b c Hb h];simp
def Pp:∀(rs:List (Int×Int)) (a b c:Int),a<=b->Iw c rs->c<=a->Iw c (J6 a b rs)
 |[],a,b,c,Hb,_,hc=>⟨hc,Hb,trivial⟩
 |x::r,a,b,c,Hb,h,hc=>by
  have Y:=h.1;have J:=h.2.1;rw[J6];split
  ·exact⟨Y,J,Pp r a b _ Hb h.2.2 H⟩
  split
  ·exact⟨hc,Hb,by simp only;omega,J,h.2.2⟩
  exact Pp r _ _ _ H (h.2.2.mono H) H
def Pq:∀(rs:List (Int×Int)) (a b c:Int),a<=b->Iw c rs->∀n,inR (J6 a b rs) n↔(a<=n/\n<=b)\/inR rs n
 |[],a,b,c,Hb,_,n=>by rw[J6,zx]
 |x::r,a,b,c,Hb,h,n=>by
  have Y:=h.1;have J:=h.2.1;rw[J6];split
  ·rw[zx,zx,Pq r a b _ Hb h.2.2 n]
   constructor
   ·rintro(h|h|h)
    ·exact .inr (.inl h)
    ·exact .inl h
    exact .inr (.inr h)
   rintro(h|h|h)
   ·exact .inr (.inl h)
   ·exact .inl h
   exact .inr (.inr h)
  split
  ·rw[zx]
  rw[Pq r _ _ _ H h.2.2 n,zx]
  constructor
  ·rintro(h|h)
   ·by_cases E:x.1<=n/\n<=x.2
    ·exact .inr (.inl E)
    exact .inl H
   exact .inr (.inr h)
  rintro(h|h|h)
  ·exact .inl H
  ·exact .inl H
  exact .inr h
def st2(x:Int)(b:Bool):Int:=if 0<x then(if b=true then 4 else 3)else if b=true then 2 else 1
def Yn(k:Int):List Int->List Bool->Int
 |x::c,b::l=>(if st2 x b=k then 1 else 0)+Yn k c l
 |_,_=>0
def Sh(k:Int):∀c:List Int,Yn k c (c.map fun x=>decide (0<x))=ly c k
 |[]=>by simp[Yn,ly]
 |x::c=>by
  have ih:=Sh k c;have e:st2 x (decide (0<x))=Fs x:=by unfold st2 Fs;by_cases h:0<x<;>simp[h]
  simp only[ey,Yn,ih,e,ly,FA]
  by_cases h:Fs x=k<;>simp[h]<;>omega
structure Po where
 refs:Int
 c:List Int
 l:List Bool
 pa:List (Int×Int)
 pf:Int
def agJ(c:List Int)(n b:Int):List Int:=c.set (n-1).toNat (c.getD (n-1).toNat 0+b)
def Vd(c:List Int)(pa:List (Int×Int)):List Int:=pa.foldr (fun a c=>agJ c a.1 (-a.2)) c
def Po.st(P:Po)(n:Int):Int:=WQ P.c P.l n
def Po.Mg(P:Po)(n:Int):Int:=gP P.c n
def Po.ahW(P:Po)(k:Nat):Po:={P with c:=Vd P.c (P.pa.drop k),pa:=P.pa.take k}
structure Po.Ok(P:Po):Prop where
 len:P.c.length<=65536
 last:P.l.length=P.c.length
 refs:2<=P.refs/\P.refs<65536
 alq:∀a∈P.pa,je P.c a.1/\(a.2=1\/a.2=-1)
 aiG:∀k,k<=P.pa.length->∀x∈Vd P.c (P.pa.drop k),0<=x/\x<=P.refs
def upd(f:Int->Option α)(n:Int)(x:Option α):Int->Option α:=fun m=>if m=n then x else f m
def ae2(f:Int->Option α)(was:List (Int×Option α)):Int->Option α:=was.foldr (fun a f=>upd f a.1 a.2) f
structure Va where
 po:Po
 on:Int->Option Pg
 va:List (Int×List (Int×Option Pg))
 vf:Int
variable{V:Va}
def Va.Mg(V:Va)(n:Int):Int:=V.po.Mg n
def Va.pg(V:Va)(n:Int):Pg:=(V.on n).getD gi.pg
def Va.back(V:Va)(mark:Int)(was:List (Int×Option Pg)):Va:={V with po:=V.po.ahW (mark-V.po.pf).toNat,on:=ae2 V.on was}
def Po.mark(P:Po):Int:=P.pf+P.pa.length
def UF:∀(n:Nat) (c:List Int),c.length=n->Iw 1 (jh c)/\∀k,inR (jh c) k↔je c k/\c.getD (k-1).toNat 0=0:=by
 intro n
 induction n with
 |zero=>
  intro c hc;have:c=[]:=vD hc;subst this;exact⟨trivial,fun k=>⟨fun h=>aS h acR,fun h=>by unfold je at h;simp at h;omega⟩⟩
 |succ n ih=>
  intro c hc;rcases c.eq_nil_or_concat with rfl|⟨c',x,rfl⟩
  ·simp at hc
  simp only[List.concat_eq_append]at hc ⊢;have hl:c'.length=n:=by simpa using hc
  obtain⟨Y,J⟩:=ih c' hl;have hg:∀k,je (c'++[x]) k/\(c'++[x]).getD (k-1).toNat 0=0↔(je c' k/\c'.getD (k-1).toNat 0=0)\/(k=n+1/\x=0):=fun k=>by
   unfold je;rw[di,Jy,hl]
   by_cases hk:(k-1).toNat<n
   ·have e:(c'++[x]).getD (k-1).toNat 0=c'.getD (k-1).toNat 0:=by simp only[ma];rw[TM H]
    rw[e]
    constructor
    ·rintro⟨h3,h4⟩;exact .inl ⟨H,h4⟩
    rintro(⟨h3,h4⟩|⟨h3,h4⟩)
    ·exact⟨H,h4⟩
    omega
   by_cases RP:(k-1).toNat=n
   ·have e:(c'++[x]).getD (k-1).toNat 0=x:=by rw[RP,<-hl];simp
    rw[e]
    constructor
    ·rintro⟨h3,h4⟩;exact .inr ⟨H,h4⟩
    rintro(⟨h3,h4⟩|⟨h3,h4⟩)
    ·omega
    exact⟨H,h4⟩
   constructor
   ·rintro⟨h3,h4⟩;omega
   rintro(⟨h3,h4⟩|⟨h3,h4⟩)<;>omega
  rw[C0];split
  ·rename_i E;rw[hl,abB (Int.le_refl _) Y];refine⟨Pp _ _ _ _ (Int.le_refl _) Y H,fun k=>?_⟩;rw[Pq _ _ _ _ (Int.le_refl _) Y,J,hg]
   constructor
   ·rintro(h|h)
    ·exact .inr ⟨H,E⟩
    exact .inl h
   rintro(h|h)
   ·exact .inr h
   exact .inl H
  rename_i E;refine⟨Y,fun k=>?_⟩;rw[J,hg]
  constructor
  ·exact .inl
  rintro(h|h)
  ·exact h
  exact aS h.2 E
def nH{f:bN}{a:Array C}{Q':C->ae->Prop}(h:aA P f a w (bU Q))(hq:∀v w',Q v w'->Q' v w'):aA P f a w (bU Q'):=
 h.mono fun e w' ⟨v,he,hR⟩=>⟨v,he,hq v w' hR⟩
abbrev aeb:=(Nat×Nat×Nat)×(Int×Int)
def afe(a:aeb):C:= .func (.func 271) #[] #[.pointer (some ⟨a.1.1,0,none⟩), .pointer (some ⟨a.1.2.1,0,none⟩), .pointer (some ⟨a.1.2.2,0,none⟩)]
def acx(q:Nat)(a:aeb):List aF:=[N a.1.1 [pQ q] 34,N a.1.2.1 [I a.2.1] 3,N a.1.2.2 [I a.2.2] 3]
structure PoV where
 cv:C
 lv:C
 fq:Nat
 fv:C
 av:C
 rs:List (Int×Int)
 Iu:List aeb
def tlP(c:List Int)(l:List Bool)(k:Int):Int:=if k=0 then 0 else Yn k c l
abbrev plT(P:Po)(m:PoV)(T:Int->Int):L3:=⟨P.refs,P.c,m.cv,P.l,m.lv,some ⟨m.fq,0,none⟩,T 0,T 1,T 2,T 3,T 4,m.av,P.pa.length,P.pf⟩
abbrev paO(q:Nat)(Iu:List aeb):aF:=bt (Iu.flatMap (acx q))
abbrev poR(q:Nat)(n:Nat)(m:PoV)(L:List aF):List aF:=QK m.fq m.fv m.rs (row 374 1 m.av n (m.Iu.map afe)::paO q m.Iu::L)
abbrev poP(q:Nat)(P:Po)(m:PoV)(L:List aF):List aF:=Cd q (plT P m (tlP P.c P.l)) (poR q P.pa.length m L)
structure PoF(P:Po)(m:PoV):Prop where
 Iu:m.Iu.map (·.2)=P.pa
 rs:Iw 1 m.rs
 fr:∀n,inR m.rs n↔WQ P.c P.l n=1
def GY(q:Nat)(P:Po):aF:=ex fun m:PoV=>mr (PoF P m) (bt (poP q P m []))
def zi{P:Po}(h:aw G (GY q P::L) w):∃m,PoF P m/\aw G (poP q P m L) w:=by
 obtain⟨m,h⟩:=h.nt;obtain⟨hf,h⟩:=h.lf;exact⟨m,hf,h.eY⟩
def s4{P:Po}{m:PoV}(hf:PoF P m)(h:aw G (poP q P m L) w):aw G (GY q P::L) w:=
 aw.oU m (aw.qE hf (aw.bJ (M:=poP q P m []) h))
def IG{T c:Nat}(Z:aw G (row T 1 (.slice A m c) m xs::L) w)(hj:j<=m):aw G (row T 1 (.slice A j c) j (xs.take j)::L) w:=by
 refine Z.gN fun h ⟨hl,hh⟩=>?_
 rw[DV]at hl;refine⟨by rw[gJ];omega,?_⟩;rcases hh with⟨Y,J⟩|⟨b,cap,cur,hv,hb,Y,J,h3⟩
 ·subst J;have:j=0:=H;subst this;exact .inl ⟨Y,rfl⟩
 cases hv;refine .inr ⟨b,c,xs.drop j++cur,rfl,?_,H,J,?_⟩
 ·rw[<-gm,Mp];exact hb
 rw[<-gm,Mp];exact h3
def PX{P:Po}(Z:aw G (GY q P::L) w)(fx:P.Ok):aA prog 82 #[pQ q,I n] w (bU fun u w'=>u=I (P.st n)/\aw G (GY q P::L) w'):=by
 obtain⟨m,hf,Z⟩:=zi Z;exact nH (tu Z fx.len fx.last) fun v w' h=>⟨h.1,s4 hf h.2⟩
def UL{P:Po}(Z:aw G (GY q P::L) w):aA prog 102 #[pQ q] w (bU fun u w'=>u=I P.c.length/\aw G (GY q P::L) w'):=by
 obtain⟨m,hf,Z⟩:=zi Z;exact nH (Gj Z) fun v w' h=>⟨h.1,s4 hf h.2⟩
def Cs{P:Po}(Z:aw G (GY q P::L) w)(fx:P.Ok):aA prog 10 #[pQ q] w (bU fun u w'=>aw G (row 3 1 u P.c.length (bf P.c)::GY q P::L) w'):=by
 obtain⟨m,hf,Z⟩:=zi Z;exact nH (BW Z fx.len) fun v w' h=>(s4 hf (h.b [N q _ _,row 3 1 m.cv P.c.length (bf P.c),row 4 _ _ _ _,N m.fq _ _,row 379 _ _ _ _,row 374 _ _ _ _,paO q m.Iu])).b [row 3 1 v _ _,GY q P]
abbrev ad7:=Int×dL×Bool
def ahN(x:ad7):List C:=I x.1::x.2.1.cells++[.bool x.2.2]
def ahE(S:List dL)(y:ad7):Prop:=(y.2.2=true->y.2.1∈S)/\(y.2.2=false->y.2.1=gi)
def ahM(x:ad7):Int×Option Pg:=(x.1,if x.2.2=true then some x.2.1.pg else none)
abbrev aec:=Int×C×List ad7
def ahD(a:aec):List C:=[I a.1,a.2.1]
abbrev QF(a:aec):aF:=row 359 7 a.2.1 a.2.2.length (a.2.2.map ahN).flatten
def ajn(a:aec):Int×List (Int×Option Pg):=(a.1,a.2.2.map ahM)
structure VaV where
 q:Nat
 om:Nat
 av:C
 on:List (Int×dL)
 S:List dL
 Iu:List aec
abbrev vaP(vq:Nat)(V:Va)(m:VaV)(L:List aF):List aF:=N vq (vtC m.q m.om m.av V.vf) 38::dm m.om (BB m.on)::gz m.S::row 284 2 m.av m.Iu.length (m.Iu.map ahD).flatten::bt (m.Iu.map QF)::GY m.q V.po::L
structure VaF(V:Va)(m:VaV):Prop where
 on:∀n,(TU m.on n).map dL.pg=V.on n
 onS:∀n p,TU m.on n=some p->p∈m.S
 sm:∀p∈m.S,p.Sm
 Iu:m.Iu.map ajn=V.va
 alr:∀a∈m.Iu,∀x∈a.2.2,ahE m.S x
def gX(vq:Nat)(V:Va):aF:=ex fun m:VaV=>mr (VaF V m) (bt (vaP vq V m []))
def y7(h:aw G (gX vq V::L) w):∃m,VaF V m/\aw G (vaP vq V m L) w:=by
 obtain⟨m,h⟩:=h.nt;obtain⟨hf,h⟩:=h.lf;exact⟨m,hf,h.eY⟩
def sY{m:VaV}(hf:VaF V m)(h:aw G (vaP vq V m L) w):aw G (gX vq V::L) w:=
 aw.oU m (aw.qE hf (aw.bJ (M:=vaP vq V m []) h))
def fj:lK gi.cells:=by intro u hu;simp only[gi,dL.cells,cE,fQ,or_false]at hu;rcases hu with rfl|rfl|rfl|rfl|rfl<;>rfl


def Va.pop(V:Va):Va:=match V.va.getLast? with
 |some a=>{V.back a.1 a.2 with va:=V.va.dropLast}
 |none=>V
def Va.agN:Nat->Va->Va
 |0,V=>V
 |k+1,V=>V.pop.agN k
structure Va.agl(V:Va):Prop where
 po:V.po.Ok
 pf:0<=V.po.pf
 vf:0<=V.vf
 on:∀n p,V.on n=some p->dv p=0
 th:∀n,V.po.Mg n≠0->V.on n≠none
 mrk:∀a,V.va.getLast?=some a->V.po.pf<=a.1/\a.1<=V.po.mark
 wl:∀a∈V.va,a.2.length<=1000000000000
structure Va.Ok(V:Va):Prop extends Va.agl V where
 aiG:∀k,k<=V.va.length->(V.agN k).agl


def Zs{T c:Nat}{rs:List (List C)}(Z:aw G (row T z (.slice A m c) m rs.flatten::L) w)(hm:rs.length=m)(hz:∀r∈rs,r.length=z)(hj:j<=m):aw G (row T z (.slice A j c) j (rs.take j).flatten::L) w:=by
 refine Z.gN fun h ⟨hl,hh⟩=>?_
 have e:rs.flatten=(rs.take j).flatten++(rs.drop j).flatten:=by rw[<-List.flatten_append,Mp]
 have hlj:(rs.take j).flatten.length=j*z:=by rw[gy (fun r hr=>hz r (Xb hr)),gJ];congr 1;omega
 refine⟨hlj,?_⟩;rcases hh with⟨Y,J⟩|⟨b,cap,cur,hv,hb,Y,J,h3⟩
 ·subst J;have:j=0:=H;subst this;exact .inl ⟨Y,rfl⟩
 cases hv;refine .inr ⟨b,c,(rs.drop j).flatten++cur,rfl,?_,H,J,?_⟩
 ·rw[<-gm,<-e];exact hb
 rw[<-gm,<-e];exact h3

section
variable{n:Nat}{done:List Nat}{p:String}{x:aM}
def abQ{c:aC}{q:Option Addr}{len cap:Nat}{kl:IntKind}{l:aM}(ho:O[i]?=some ⟨some d, .slice s x (some l) none none,t,p,af,g⟩)(hs:P.underlying s=some (.slice c))(hz:(P.info? c).map (·.size)=some z)(E:ev e x=some (.slice q len cap))(hl:ev e l=some (.int kl lo))(hb:0<=lo/\lo<=len)(hc:len<=cap)(hq:lo<cap->∃b o,q=some ⟨b,o,none⟩)(h:∀v',(∀b o,q=some ⟨b,o,none⟩->lo<cap->v'= .slice (some ⟨b,o+lo.toNat*z,none⟩) (len-lo.toNat) (cap-lo.toNat))->(lo=cap->v'= .slice q 0 0)->XL P n O dr (i::done) r K ((d,v')::e) w)(hd:Nat.blt d n=true:=by exact rfl)(hg:Gd O e g:=by exact gD):XL P n O dr done (i::r) K e w:=by
 by_cases Ut:lo<cap
 ·obtain⟨b,o,rfl⟩:=hq Ut;exact Y8 (hd:=hd) (hg:=hg) ho hs hz E hl hb Ut (h _ (fun b' o' Y _=>by cases Y;rfl) (fun Y=>by omega))
 have hlen:len=cap:=H;subst hlen;exact abP (hd:=hd) (hg:=hg) ho hs (by rw[hz];rfl) E hl H (h _ (fun b' o' _ Y=>aS Y Ut) (fun _=>rfl))
end
def Yo:∀a:bZ,fy a a=0:=fun a=>EL.2 rfl
def eB.arm{b:bZ}(h:eB v b w)(hb:0<b.length):∃bb ob c,v= .slice (some ⟨bb,ob,none⟩) b.length c/\b.length<=c:=by
 rcases h with⟨_,h⟩|⟨bb,ob,c,Y,J,_⟩
 ·subst h;simp at hb
 exact⟨bb,ob,c,Y,J⟩
def opt(c:Prop)(A:aF):aF:=fun h=>c->A h
def acA{c:Prop}{A:aF}(hc:c)(h:aw G (opt c A::R) w):aw G (A::R) w:=h.gN fun _ h=>h hc
def afh{c:Prop}{A:aF}(h:aw G (A::R) w):aw G (opt c A::R) w:=h.gN fun _ h _=>h
def afg{c:Prop}{A:aF}(hc:¬c)(h:aw G R w):aw G (opt c A::R) w:=by
 have h':aw G (bt ([]:List aF)::R) w:=aw.bJ h;exact h'.gN fun _ _ h=>aS h hc
def Rv(l:List It)(k:Nat):bZ:=(l[k]?.map It.key).getD []
def PB{p:Prop}(hp:p)(h:aw G R w):aw G (mr p (bt [])::R) w:=aw.qE hp (aw.bJ (M:=[]) h)
def Va.rd(V:Va)(n:Int):Option Pg:=if V.Mg n=0 then none else some (V.pg n)
def uv(rd:Int->Option Pg)(size:Int):Nat->Int->bZ->Int×bZ
 |0,_,out=>(0,out)
 |f+1,n,out=>if size<=(out.length:Int)then(0,out)else match rd n with
  |none=>(15,[])
  |some p=>if p.kind≠3 then(15,[])else if¬((p.data.length:Int)=min (size-out.length) 480/\(p.next=0↔size-out.length<=480))then(5,[])else uv rd size f p.next (out++p.data)
def eg(rd:Int->Option Pg)(x:It):Int×bZ:=
 if(x.size<0\/3840<x.size)\/(x.size<=32/\¬(x.value.length:Int)=x.size)then(8,[])else if x.size<=32 then(0,x.value)else uv rd x.size x.size.toNat x.child []
def JP(rd:Int->Option Pg)(size:Int)(f:Nat)(n:Int)(out:bZ)(h:size<=(out.length:Int)):uv rd size f n out=(0,out):=by
 cases f with
 |zero=>rfl
 |succ f=>rw[uv,aB h]
def mB(Z:aw G (gX vq V::L) w)(fx:V.Ok):aA prog 44 #[pQ vq,I n] w (bU fun r w'=>∃(p':dL) (er:Int) (A:aF),
  r= .tuple #[gQ p'.cells,I er]/\lK p'.cells/\((V.rd n=none/\er=15/\p'=gi/\A=bt [])\/(V.rd n=some p'.pg/\er=0/\A=fg p'/\p'.Sm))/\aw G (A::gX vq V::L) w'):=by
 obtain⟨m,hf,Z⟩:=y7 Z;obtain⟨pm,hpf,Z⟩:=zi (Z.b [GY m.q V.po]);have hz:=Z.b [N vq _ _,dm _ _,gz _,N m.q _ _,row 3 1 pm.cv V.po.c.length (bf V.po.c),row 4 1 pm.lv V.po.l.length (gW V.po.l)];refine nH (BM (vq:=vq) (pq:=m.q) (om:=m.om) (av:=m.av) (floor:=V.vf) (n:=n) (p:=plT V.po pm (tlP V.po.c V.po.l)) (on:=m.on) (S:=m.S) hz fx.po.len (fun hc=>?_)) fun r w' hr=>?_
 ·have Y:=fx.th n hc;have J:=hf.on n;cases ho:TU m.on n with
  |none=>rw[ho]at J;exact aS J.symm Y
  |some pg=>exact⟨pg,rfl,hf.onS n pg ho,hf.sm pg (hf.onS n pg ho)⟩
 have back:∀{w':ae} {M:List aF},aw G (M++(vtP vq m.q m.om m.av V.vf (plT V.po pm (tlP V.po.c V.po.l)) m.on m.S (row 284 2 m.av m.Iu.length (m.Iu.map ahD).flatten::bt (m.Iu.map QF)::L))) w'->True:=fun _=>trivial
 rcases hr with⟨hc,rfl,mP⟩|⟨hc,pg,p',uR,rfl,Mz,oR,mP⟩
 ·refine⟨gi,15,bt [],rfl,fj, .inl ⟨aB hc,rfl,rfl,rfl⟩,aw.bJ (M:=[]) ?_⟩;have hz:=mP.b [N m.q _ _,row 3 1 pm.cv V.po.c.length (bf V.po.c),row 4 1 pm.lv V.po.l.length (gW V.po.l),N pm.fq _ _,row 379 _ _ _ _,row 374 _ _ _ _,paO m.q pm.Iu];have hz:=s4 hpf hz;have hz:=hz.b [N vq _ _,dm _ _,gz _,row 284 _ _ _ _,bt (m.Iu.map QF),GY _ _];exact sY hf hz
 have hon:=hf.on n;rw[uR]at hon;refine⟨p',0,fg p',rfl,jz (cL oR pK) mP, .inr ⟨?_,rfl,rfl,oR⟩,?_⟩
 ·unfold Va.rd Va.Mg Va.pg;have hc:¬V.po.Mg n=0:=hc;rw[aj hc,<-hon,Mz];rfl
 have hz:=mP.b [N m.q _ _,row 3 1 pm.cv V.po.c.length (bf V.po.c),row 4 1 pm.lv V.po.l.length (gW V.po.l),N pm.fq _ _,row 379 _ _ _ _,row 374 _ _ _ _,paO m.q pm.Iu];have hz:=s4 hpf hz;have hz:=hz.b [N vq _ _,dm _ _,gz _,row 284 _ _ _ _,bt (m.Iu.map QF),GY _ _];have hz:=sY hf hz;exact hz.b [fg p',gX vq V]
def P4(Z:aw G (gX vq V::L) w)(fx:V.Ok)(E:x.Ok L):aA prog 121 #[pQ vq,gQ x.cells] w (bU fun r w'=>∃v,r= .tuple #[v,I (eg V.rd x.it).1]/\aw G (row 5 1 v (eg V.rd x.it).2.length (cI (eg V.rd x.it).2)::gX vq V::L) w'):=by
 obtain⟨a1,c1,a2,c2,hk,hv1,gC⟩:=E.form Z.tail;have G6:=E.sv;unfold dP at G6;refine wF [_,_] func121 ntmps121 ?_;refine wB 2 Z fun w b3 Z=>?_;refine wD 7 (v:=I x.it.size) ag Z ?_;refine z2 ?_;refine bw (l1:=[4,5,6,7]) (l2:=[8,9,10,11,12,13,14,15,16,17,18,19,20]) rfl (d:=18) (x.it.size<0\/3840<x.it.size) rfl ?_ ?_
 ·refine ar (d:=14) rfl (fun Y=>?_) fun Y=>?_
  ·exact wq 5
  refine wD 1 (v:=I x.it.size) ag Z ?_;exact wq 3
 refine z1 ?_;refine bw (l1:=[9,10,11,12,13,14,15,16,17,18,19,20]) (l2:=[]) rfl (d:=31) ((x.it.size<0\/3840<x.it.size)\/(x.it.size<=32/\¬(x.it.value.length:Int)=x.it.size)) rfl ?_ ?_
 ·refine ar (d:=19) rfl (fun J=>?_) fun J=>?_
  ·refine z13 ?_;refine cQ ?_
   first|exact(eW (Or.inl (by assumption))).symm|exact bI.2 ⟨fun h=> .inr h,fun h=>h.resolve_left (by assumption)⟩
  refine wD 1 (v:=I x.it.size) ag Z ?_;refine z2 ?_;refine bw (l1:=[13,14,15,16,17,18,19]) (l2:=[20]) rfl (d:=30) (x.it.size<=32/\¬(x.it.value.length:Int)=x.it.size) rfl ?_ ?_
  ·refine ar (d:=23) rfl (fun h3=>?_) fun h3=>?_
   ·refine z1 ?_;refine bg rfl rfl (aD.cw (v:= .slice a2 x.it.value.length c2) ao Z pK (by rw[<-hv1];rfl)) ?_;refine wD 2 (v:=I x.it.size) ag Z ?_;refine z1 ?_;refine iM rfl rfl rfl rfl ?_;refine aK ?_;refine cQ ?_
    first|exact bI.2 ⟨fun h=>⟨by assumption,h⟩,fun h=>h.2⟩|exact(cN (fun h=>by omega)).symm
   refine z6 ?_;refine iw rfl rfl rfl rfl ?_;refine aK ?_;refine cQ ?_
   first|exact bI.2 ⟨fun h=>⟨by assumption,h⟩,fun h=>h.2⟩|exact(cN (fun h=>by omega)).symm
  refine z2 ?_;refine cQ ?_
  first|exact(eW (Or.inl (by assumption))).symm|exact bI.2 ⟨fun h=> .inr h,fun h=>h.resolve_left (by assumption)⟩
 refine aK ?_;refine wI 0 (fun h4=>?_) fun h4=>?_
 ·refine z6 ?_;exact ga rfl rfl rfl rfl (by
 have e:eg V.rd x.it=(8,[]):=by unfold eg;rw[aB h4]
 rw[e];exact⟨_,rfl,bB (Z.b [N b3 _ _]).tail _ _⟩)
 refine wD 5 (v:=I x.it.size) ag Z ?_;refine wI 2 (fun h5=>?_) fun h5=>?_
 ·refine wD 3 (v:=x.vv) ao Z ?_;refine aO rfl Io rfl (K9 Z (E.v.of sF) E.sv) rfl fun w v37 hv=>?_;have Z:aw G (row 5 1 v37 x.it.value.length (cI x.it.value)::_) _:=hv;refine z4 ?_;exact ga rfl rfl rfl rfl (by
 have e:eg V.rd x.it=(0,x.it.value):=by unfold eg;rw[aj h4,aB h5]
 rw[e];exact⟨_,rfl,(Z.b [N b3 _ _]).tail⟩)
 refine wD 4 (v:=I x.it.size) ag Z ?_;refine yY rfl aR bo fF wH rfl rfl ⟨H,H⟩ H H Z rfl fun w b40 Z=>?_;refine wD 6 (v:=I x.it.child) ag Z ?_;refine z3 ?_;have rJ:eg V.rd x.it=uv V.rd x.it.size x.it.size.toNat x.it.child []:=by unfold eg;rw[aj h4,aj h5]
 have Z:=lC (xs:=[]) (m:=0) (cap:=x.it.size.toNat) (z:=1) (by rw[lE];exact Z) rfl (de _) mL (by simp[kE]);refine bx (fun m e w=>∃(f:Nat) (n:Int) (out:bZ) (u:C),m=f+1/\e=[(0,pQ vq),(3,pQ b3),(6,u),(7,I n)]/\(eg V.rd x.it=uv V.rd x.it.size f n out/\x.it.size<=out.length+f/\(out.length:Int)<=3840)/\aw G (row 5 1 u out.length (cI out)::N b3 x.cells 198::gX vq V::L) w)
  (m:=x.it.size.toNat+1) sB
  ⟨x.it.size.toNat,x.it.child,[],_,rfl,rfl,⟨rJ,by simp;omega,by simp⟩,Z⟩ ?_
 rintro m e w ⟨f,n,out,u,rfl,rfl,⟨BE,hf1,hf2⟩,Z⟩;obtain⟨ua,uc,rfl⟩:=aT Z;refine wD 6 (v:=I x.it.size) ag Z ?_;refine wI 2 (fun h6=>?_) fun h6=>?_
 ·obtain⟨f,rfl⟩:∃g,f=g+1:=⟨f-1,H⟩;rw[uv,aj H]at BE;refine z6 ?_;refine aO rfl fk rfl (mB (n:=n) (Z.b [gX vq V]) fx) rfl fun w v51 hv=>?_;obtain⟨p',er,A,rfl,nq,kB,Z⟩:=hv;refine wL 3 bW Z fun w b8 Z=>?_;refine wN 0 (cs:=p'.cells) (l':=p'.cells) ay nq Z fun w Z=>?_;refine z8 ?_;refine bw (l1:=[3,4,5,6]) (l2:=[]) rfl (d:=60) (er≠0\/¬p'.kind=3) rfl ?_ ?_
  ·refine ar (d:=56) rfl (fun h7=>?_) fun h7=>?_
   ·exact wq 5
   refine wD 1 (v:=I p'.kind) ag Z ?_;exact wq 3
  refine aK ?_;refine wI 0 (fun h8=>?_) fun h8=>?_
  ·refine z6 ?_;exact ga rfl rfl rfl rfl (by
 rcases kB with⟨hr,rfl,rfl,rfl⟩|⟨hr,rfl,rfl,oR⟩
 ·rw[hr]at BE;rw[BE];exact⟨_,rfl,bB (Z.b [N b8 _ _,bt _,row _ _ _ _ _,N b3 _ _]).t4 _ _⟩
 ·rw[hr]at BE;simp only at BE
  rw[aB (by show¬p'.kind=3;omega)]at BE;rw[BE];exact⟨_,rfl,bB (Z.b [N b8 _ _,fg p',row _ _ _ _ _,N b3 _ _]).t4 _ _⟩)
  obtain⟨hr,rfl,rfl,oR⟩:=kB.resolve_left (fun h=>by have:=h.2.1;omega);rw[hr]at BE;simp only at BE
  rw[aj (by show¬¬p'.kind=3;omega)]at BE;have YG:p'.Ok [fg p']:=cL oR .here;obtain⟨da,dc,hd⟩:∃da dc,p'.d= .slice da p'.data.length dc:=by
   obtain⟨a,c,h⟩:=(YG.data.at (Z.pick (A:=fg p') pK).head).form;exact⟨a,c,h⟩
  refine wD 4 (v:=I x.it.size) ag Z ?_;refine z9 ?_;refine bg rfl rfl (aD.cw (v:= .slice da p'.data.length dc) ao Z pK (by rw[<-hd];rfl)) ?_;refine z2 ?_;refine yZ rfl rfl rfl ?_;refine z2 ?_;refine bw (l1:=[7,8,9,10,11,12,13]) (l2:=[]) rfl (d:=79) (¬((p'.data.length:Int)=min (x.it.size-out.length) 480/\(p'.next=0↔x.it.size-out.length<=480))) rfl ?_ ?_
  ·refine ar (d:=72) rfl (fun h9=>?_) fun h9=>?_
   ·refine z8 ?_;refine cQ ?_
    first|(symm;rw[decide_eq_true_eq];intro h;exact aS h.1 h9)|(refine bI.2 ?_;have hq:=dg.1 h9;by_cases ha:p'.next=0<;>by_cases hb:x.it.size-out.length<=480<;>simp[ha,hb,hq])
   refine wD 1 (v:=I p'.next) ag Z ?_;refine z3 ?_;refine QC rfl kR LW rfl rfl ?_;refine z2 ?_;refine cQ ?_
   first|(symm;rw[decide_eq_true_eq];intro h;exact aS h.1 h9)|(refine bI.2 ?_;have hq:=dg.1 h9;by_cases ha:p'.next=0<;>by_cases hb:x.it.size-out.length<=480<;>simp[ha,hb,hq])
  refine aK ?_;refine wI 0 (fun jR=>?_) fun jR=>?_
  ·refine z6 ?_;exact ga rfl rfl rfl rfl (by
 rw[aB (show¬((p'.pg.data.length:Int)=min (x.it.size-out.length) 480/\(p'.pg.next=0↔x.it.size-out.length<=480)) from jR)]at BE;rw[BE];exact⟨_,rfl,bB (Z.b [N b8 _ _,fg p',row _ _ _ _ _,N b3 _ _]).t4 _ _⟩)
  rw[aj (show¬¬((p'.pg.data.length:Int)=min (x.it.size-out.length) 480/\(p'.pg.next=0↔x.it.size-out.length<=480)) from jR)]at BE;obtain⟨SZ,hnx⟩:=dg.1 jR;refine z5 ?_;refine bg rfl rfl (aD.cw (v:= .slice da p'.data.length dc) ao Z pK (by rw[<-hd];rfl)) ?_;have hsb:eB (.slice da p'.data.length dc) p'.data w:=by rw[<-hd];exact YG.data.at (Z.pick (A:=fg p') pK).head
  obtain⟨db,od,dc',hda,-⟩:=hsb.arm H;cases hda;have sA:Rd w ⟨db,od,none⟩ (cI p'.data):=by
   rcases hsb with⟨_,h⟩|⟨_,_,_,Y,_,h3⟩
   ·rw[h]at SZ;simp only[DY]at SZ;omega
   cases Y;exact h3
  refine eF (m:=out.length) (k:=p'.data.length) (news:=cI p'.data) rfl aR bo fF eU rfl rfl Z pK sA (by rw[dH];omega) (k6 _) mL H rfl (fun w Vc Z=>?_);refine wD 4 (v:=I p'.next) ag Z ?_;refine z2 ?_;have hz:=(Z.b [N b8 _ _,fg p',row _ _ _ _ _,N b3 _ _,gX vq V]).t2;refine⟨f+1,H,[(0,_),(3,_),(6,Vc),(7,I p'.next)],sB,f,p'.next,out++p'.data,Vc,rfl,rfl,⟨BE,by rw[di];omega,by rw[di];omega⟩,?_⟩;rw[di,xL];exact hz
 refine z8 ?_;exact ga rfl rfl rfl rfl (by
 rw[JP _ _ _ _ _ H]at BE;rw[BE];exact⟨_,rfl,(Z.b [N b3 _ _]).tail⟩)
def kP(l:List It)(k:Nat):Int:=(l[k]?.map It.child).getD 0
def ij{p:Pg}(h:dv p=0):p.items.length<=8/\(p.kind=2->2<=p.items.length)/\(p.kind=1->1<=p.items.length)/\(1<=p.kind/\p.kind<=3):=by
 unfold dv at h;simp only[bH]at h
 have Y:=(cG dM).1 h.1.1;have J:=(cG dM).1 h.1.2;unfold gp at J;refine⟨?_,fun hk=>?_,fun hk=>?_,Y⟩
 ·rcases Decidable.em (p.kind=1)with e|e
  ·have:=J.1 e;omega
  rcases Decidable.em (p.kind=2)with e2|e2
  ·have:=J.2.1 e2;omega
  have:=J.2.2 e e2;omega
 ·have:=J.2.1 hk;omega
 have:=J.1 hk;omega
def Va.Zx(fx:V.Ok){p:Pg}(h:V.rd n=some p):dv p=0:=by
 unfold Va.rd at h;split at h
 ·cases h
 rename_i hc;cases h;unfold Va.pg;cases ho:V.on n with
 |none=>exact aS ho (fx.th n hc)
 |some q=>exact fx.on n q ho
def EZ(P:au)(n:Nat)(fn:Func)(R:C->ae->Prop):jF:=fun e w=>
 marks e=[]/\∀a,dZ n e a->∃v,(results fn a.tmps).run P w= .ok v w/\R v w
section
variable{n:Nat}{R:C->ae->Prop}
def Ol(hr:fn.results=#[])(hm:marks e=[])(h:R (.tuple #[]) w):EZ P n fn R e w:=⟨hm,fun a _=>⟨.tuple #[],by simp[results,hr],h⟩⟩
end


def dL.Sm.form(h:p.Sm)(Z:aw G L w)(hp:dE (fg p) L R):∃ia ic,p.s= .slice ia p.l.length ic:=by
 obtain⟨a,c,Y,_⟩:=((cL h (L:=[fg p]) .here).its.sl.at (Z.pick hp).head).form;rw[cg]at Y;exact⟨a,c,Y⟩
def Pa:aL L (eB (nQ) []):=fun _ _ _=> .inl ⟨⟨none,rfl⟩,rfl⟩
def J3{p:Pg}(h:dv p=0):∀x∈p.items,x.key.length<=24:=by
 have key:∀(l:List It) (i:Nat) (cW:bZ),fa p.kind i cW l=0->∀x∈l,x.key.length<=24:=by
  intro l
  induction l with
  |nil=>intro i cW _ x E;cases E
  |cons y l ih=>
   intro i cW he x E;simp only[fa,bH]at he;rcases cE.1 E with rfl|E
   ·have Y:=he.1;unfold q8 at Y;simp only[bH]at Y
    have J:=Y.1;unfold lF at J;split at J
    ·have:=(cG dM).1 J;omega
    have:=(cG dM).1 J;omega
   exact ih _ _ he.2 x E
 unfold dv at h;simp only[bH]at h
 exact key p.items 0 [] h.2.1
def OV{l:List cP}(h:l[k]?=some x):kP (l.map cP.it) k=x.it.child:=by unfold kP;rw[dh,h];rfl

def trZ:Tr:=⟨0,0,0⟩
end
end Go.Proofs.YtjbkgbilbnccnaaGreatDoor.X
