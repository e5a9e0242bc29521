/- Part 9 of what the proof of this claim stands on: rules for walking the code, and what its functions answer; no conditions. -/
import Derived.Test.YtjbkgbilbnccnaaGreatDoorY8
namespace Go.Proofs.YtjbkgbilbnccnaaGreatDoor.X
open _root_.Go.Proofs.Tryz _root_.Go.Proofs.YtjbkgbilbnccnaaGreatDoor.Tryz
set_option linter.defProp false
noncomputable section
set_option linter.unusedVariables false
set_option linter.unusedSimpArgs false
set_option maxRecDepth 20000
set_option maxHeartbeats 8000000
variable{r rv v:C}{er:Int}{dp n:Nat}{Bk:Nat->bZ}{pp:Option Addr}{rp:Rp}{s:Su}{A:aF}{l:bZ}
def VE{kind:Int}:∀{l:List It} {i:Nat} {cW:bZ},fa kind i cW l=0->∀x∈l,mD kind x=0
 |y::l,i,cW,h,x,E=>by
  simp only[fa,bH]at h;rcases cE.1 E with rfl|E
  ·have Y:=h.1;unfold q8 at Y;simp only[bH]at Y
   exact Y.2.2.2
  exact VE h.2 x E
def aaz{p:Pg}(h:dv p=0):∀k∈cu p,eJ k:=fun k hk=>by
 unfold dv at h;simp only[bH]at h
 have Y:=VE h.2.1;have J:=(cG dM).1 h.2.2;unfold cu at hk;rcases eZ.1 hk with hk|hk
 ·obtain⟨x,E,h3⟩:=ZK.1 hk;split at h3
  ·rename_i h4;cases h3;have h5:=Y x E;unfold mD at h5;rcases h4 with h4|⟨h4,h6⟩
   ·rw[aB h4]at h5;exact(cG dM).1 h5
   rw[aj H]at h5;split at h5
   ·exact aS ((cG dM).1 h5) h6
   exact(cG dM).1 h5
  cases h3
 split at hk
 ·rename_i h4;simp at hk;subst hk;exact J.resolve_left h4.2
 cases hk
def adx(s:Su)(x:CK):Prop:=(1<=x.1/\x.1<=(bd s.cf).pages)/\-1<=x.2/\x.2<=12
def SB(hs:cp s=0):SO s Bk (adx s):=by
 refine⟨fun x E=>?_,fun x h=>h.1,fun x E k hk y hy=>?_⟩
 ·unfold fH at E;obtain⟨r,hr,rfl⟩:=dY.1 E;rw[Ml]at hr
  have Y:=(iS hs).2.2.2 r hr.1;have J:r.2.root≠0:=of_decide_eq_true hr.2;unfold rm fY at Y;unfold adx;simp only;omega
 unfold vn at hk;cases hp:jy s Bk x.1 with
 |none=>rw[hp]at hk;cases hk
 |some p=>
  rw[hp]at hk;simp only at hk
  split at hk
  ·cases hk
  split at hk
  ·cases hk
  rename_i Y;cases hk;obtain⟨z,hz,rfl⟩:=dY.1 hy;have J:=aaz (JE hp) z hz;have h3:¬(bd s.cf).pages<z:=fun h=>Y ⟨z,hz,h⟩
  unfold eJ at J;have YF:=E.2;refine⟨⟨by show 1<=z;omega,by show z<=_;omega⟩,?_⟩
  show-1<=(if kz x.2=2 then x.2-1 else-1)/\(if kz x.2=2 then x.2-1 else-1)<=12
  split
  ·rename_i h4;unfold kz at h4;split at h4
   ·cases h4
   omega
  omega
def aao:∀{a b:List Int},a.Pairwise (·<·)->b.Pairwise (·<·)->(∀x,x∈a↔x∈b)->a=b
 |[],[],_,_,_=>rfl
 |[],y::b,_,_,h=>aS ((h y).2 sM) sM
 |x::a,[],_,_,h=>aS ((h x).1 sM) sM
 |x::a,y::b,ha,hb,h=>by
  rw[List.pairwise_cons]at ha hb;have e:x=y:=by
   rcases cE.1 ((h x).1 sM)with Y|Y
   ·exact Y
   rcases cE.1 ((h y).2 sM)with J|J
   ·exact J.symm
   have:=hb.1 x Y;have:=ha.1 y J;omega
  subst e;rw[aao ha.2 hb.2 fun z=>⟨fun hz=>?_,fun hz=>?_⟩]
  ·rcases cE.1 ((h z).1 (kG _ hz))with Y|Y
   ·have:=ha.1 z hz;omega
   exact Y
  rcases cE.1 ((h z).2 (kG _ hz))with Y|Y
  ·have:=hb.1 z hz;omega
  exact Y
def Cls.same{f:CK->Option (List CK)}{rs W W':List CK}(h:Cls f rs W)(h':Cls f rs W')(c:CK):c∈W↔c∈W':=
 ⟨h.min (·∈W') h'.root (fun c hc l hl k hk=>h'.XF c hc l hl k hk) c,h'.min (·∈W) h.root (fun c hc l hl k hk=>h.XF c hc l hl k hk) c⟩
def BQ(s:Su)(Bk:Nat->bZ)(n:Nat)(bl:List Int)(er:Int):Prop:=
 (cp s≠0/\er=cp s/\bl=[])\/(cp s=0/\(n:Int)≠s.cf.blocks/\er=25/\bl=[])∨
 (cp s=0/\(n:Int)=s.cf.blocks/\er=0/\∃W,Cls (vn s Bk) (fH s.roots) W/\bl.Pairwise (·<·)/\∀x,x∈bl↔rT s Bk (bd s.cf).nC.toNat x\/xP s Bk W x)
def BQ.one{bl bl':List Int}{er':Int}(h:BQ s Bk n bl er)(h':BQ s Bk n bl' er'):bl'=bl/\er'=er:=by
 rcases h with⟨Y,rfl,rfl⟩|⟨Y,J,rfl,rfl⟩|⟨Y,J,rfl,W,h3,h4,h5⟩<;>rcases h' with⟨g1,rfl,rfl⟩|⟨g1,g2,rfl,rfl⟩|⟨g1,g2,rfl,W',g3,g4,g5⟩
 ·exact⟨rfl,rfl⟩
 ·exact aS g1 Y
 ·exact aS g1 Y
 ·exact aS Y g1
 ·exact⟨rfl,rfl⟩
 ·exact aS g2 J
 ·exact aS Y g1
 ·exact aS J g2
 refine⟨aao g4 h4 fun x=>?_,rfl⟩;rw[h5,g5];refine or_congr Iff.rfl ⟨fun⟨c,hc,h⟩=>⟨c,(g3.same h3 c).1 hc,h⟩,fun⟨c,hc,h⟩=>⟨c,(g3.same h3 c).2 hc,h⟩⟩
def PLR(s:Su)(l:bZ)(pp:Option Addr)(er:Int)(rp:Rp)(A:aF):Prop:=
 (pp=none/\er≠0/\er=(if cp s≠0 then cp s else 18)/\rp=jf/\(((l.length/512:Nat):Int)=s.cf.blocks->∀c pl rp,¬uM s (js l).bY c pl rp))∨
 (er=0/\rp.bad=[]/\((l.length/512:Nat):Int)=s.cf.blocks/\∃c pl vq,pp=some ⟨vq,0,none⟩/\uM s (js l).bY c pl rp/\A=gX vq (kK s.cf.refs c pl))
def PLR.pl(h:PLR s l pp er rp A):PL s l pp A:=by
 rcases h with⟨Y,-,-,-,J⟩|⟨-,-,Y,c,pl,vq,J,h3,h4⟩
 ·exact .inl ⟨Y,J⟩
 exact .inr ⟨c,pl,rp,vq,J,Y,h3,h4⟩
def PLR.rl{um:Option Addr}{rC:Int}{qA:Rp}{M:List aF}(h:PLR s l pp er rp A)(h':RL s l um rC qA M):er=rC/\rp=qA/\rp.bad=[]/\qA.bad=[]:=by
 rcases h with⟨Y,J,h3,rfl,h5⟩|⟨rfl,J,h3,c,pl,vq,h4,h5,h6⟩<;>rcases h' with⟨g1,g2,g3,rfl,g5,g6⟩|⟨rfl,g2,g3,c',pl',q,rv,S,g4,g5,g6⟩
 ·exact⟨h3.trans g3.symm,rfl,rfl,rfl⟩
 ·exact aS g5 (h5 g3 _ _ _)
 ·exact aS h5 (g6 h3 _ _ _)
 have h9:=h5.load;rw[g5.load]at h9;cases h9;exact⟨rfl,(ve.one h5.whole g5.whole).1,J,g2⟩
def AY{r:Rp}(h:r.bad=[])(L:List aF):(⟨r,nQ⟩:vg).Ok L:=⟨fun g w Z=>by rw[h];exact .inl ⟨⟨none,rfl⟩,rfl⟩,by rw[h];simp⟩
section
variable{G:Gh}{L R:List aF}{w:ae}
def ZW(h:(∃er,er≠0/\r= .tuple #[.pointer none,gQ (cY jf),I er]/\(er=if cp s≠0 then cp s else 18)/\((cp s=0/\((js l).gS.length:Int)=s.cf.blocks)->er=18/\∀c l' rp,¬uM s (js l).bY c l' rp)/\aw G (eD dp (js l)::L) w)∨
    (∃c l' vq rp,uM s (js l).bY c l' rp/\rp.bad=[]/\((js l).gS.length:Int)=s.cf.blocks/\r= .tuple #[pQ vq,gQ (cY rp),I 0]/\aw G (gX vq (kK s.cf.refs c l')::eD dp (js l)::L) w)):
  ∃(pp:Option Addr) (er:Int) (rp:Rp) (A:aF),r= .tuple #[.pointer pp,gQ (cY rp),I er]/\PLR s l pp er rp A/\aw G (A::eD dp (js l)::L) w:=by
 rw[KQ]at h;rcases h with⟨er,Y,J,h3,h4,h5⟩|⟨c,pl,vq,rp,Y,J,h3,h4,h5⟩
 ·exact⟨none,er,jf,bt [],J, .inl ⟨rfl,Y,h3,rfl,fun hm c pl rp hF=>(h4 ⟨hF.sup,hm⟩).2 c pl rp hF⟩,aw.bJ (M:=[]) h5⟩
 exact⟨_,0,rp,_,h4, .inr ⟨rfl,J,h3,c,pl,vq,rfl,Y,rfl⟩,h5⟩
def Lb(Z:aw G (eD dp (js l)::L) w)(h8:oX l)(kr:aL L (jk 4 rv (s.roots.map cA)))(hn:s.roots.length<=1000)(ke:aL L EtK):
  aA prog 23 #[pQ dp,gQ (eH s rv)] w (bU fun r w'=>∃(v:C) (bl:List Int) (er:Int),r= .tuple #[v,I er]/\BQ s (js l).bY (l.length/512) bl er/\aw G (row 3 1 v bl.length (bf bl)::eD dp (js l)::L) w'):=by
 by_cases hs:cp s=0
 ·by_cases hm:((js l).gS.length:Int)=s.cf.blocks
  ·refine nH (Sb (U:=adx s) Z (V8 h8) kr hn rfl ke hs hm (SB hs) (fun x E=>E.2)) fun r w' h=>?_
   obtain⟨v,bl,W,Y,J,h3,h4,h5⟩:=h;exact⟨v,bl,0,Y, .inr (.inr ⟨hs,by rw[<-KQ];exact hm,rfl,W,J,h3,h4⟩),h5⟩
  refine nH (H8 Z kr hn rfl hs hm) fun r w' h=>?_
  exact⟨_,[],25,h.1, .inr (.inl ⟨hs,by rw[<-KQ];exact hm,rfl,rfl⟩),bB h.2 3 1⟩
 have hb:qy s (js l).on=cp s:=by unfold qy;rw[aB hs]
 refine nH (Ab Z kr hn (by rw[hb];exact hs)) fun r w' h=>?_
 rw[hb]at h;exact⟨_,[],_,h.1, .inl ⟨hs,rfl,rfl⟩,bB h.2 3 1⟩
def abv(h:(∃er,er≠0/\r= .tuple #[nQ,I er]/\er=(if cp s≠0 then cp s else 25)/\¬(cp s=0/\(n:Int)=s.cf.blocks)/\aw G L w)∨
    (cp s=0/\(n:Int)=s.cf.blocks/\∃(u:C) (l:List Int) (W:List CK),r= .tuple #[u,I 0]/\Cls (vn s Bk) (fH s.roots) W/\l.Pairwise (·<·)/\(∀x,x∈l↔rT s Bk (bd s.cf).nC.toNat x\/xP s Bk W x)/\l.length<=n/\aw G (row 3 1 u l.length (bf l)::L) w)):
  ∃(u:C) (bl:List Int) (er:Int),r= .tuple #[u,I er]/\BQ s Bk n bl er/\bl.length<=n/\aw G (row 3 1 u bl.length (bf bl)::L) w:=by
 rcases h with⟨er,Y,J,h3,h4,h5⟩|⟨Y,J,u,bl,W,h3,h4,h5,h6,h7,h8⟩
 ·refine⟨_,[],er,J,?_,de _,bB h5 3 1⟩
  by_cases hs:cp s=0
  ·rw[aj H]at h3;exact .inr (.inl ⟨hs,fun h=>h4 ⟨hs,h⟩,h3,rfl⟩)
  rw[aB hs]at h3;exact .inl ⟨hs,h3,rfl⟩
 exact⟨u,bl,0,h3, .inr (.inr ⟨Y,J,rfl,W,h4,h5,h6⟩),h7,h8⟩
def M3(Z:aw G L w)(ka:aL L (eB v l))(sP:l.length<=140737488355328):
  aA prog 21 #[v] w (bU fun r w'=>(¬oX l/\r= .pointer none/\aw G L w')\/(oX l/\∃p,r=pQ p/\aw G (eD p (Dk.new (nA l (l.length/512)))::L) w')):=by
 refine wF [_] func21 ntmps21 ?_;refine z7 ?_;refine aO rfl Nq rfl (P3 Z ka sP) rfl fun w v7 hv=>?_;have hz:∃(er:Int) (pp:Option Addr) (A:aF),v7= .tuple #[.pointer pp,I er]/\(er≠0->¬oX l/\A=bt [])/\(er=0->oX l/\∃p,pp=some ⟨p,0,none⟩/\A=eD p (Dk.new (nA l (l.length/512))))/\aw G (A::L) w:=by
  rcases hv with⟨Y,J,h3⟩|⟨Y,p,J,h3⟩
  ·exact⟨1,none,bt [],J,fun _=>⟨Y,rfl⟩,(fun h=>by cases h),aw.bJ (M:=[]) h3⟩
  exact⟨0,_,_,J,(fun h=>aS rfl h),fun _=>⟨Y,p,rfl,rfl⟩,h3⟩
 obtain⟨er,pp,A,rfl,Kg,Hc,Z⟩:=hz;refine wI 12 (fun Y=>?_) fun Y=>?_
 ·refine dk 5 ?_;exact .inl ⟨(Kg Y).1,rfl,Z.tail⟩
 refine z7 ?_;exact dt rfl rfl rfl (by
 obtain⟨J,p,rfl,rfl⟩:=Hc (dg.1 Y);exact .inr ⟨J,p,rfl,Z⟩)
def Ya(h:(¬oX l/\r= .pointer none/\aw G L w)\/(oX l/\∃p,r=pQ p/\aw G (eD p (Dk.new (nA l (l.length/512)))::L) w)):
  ∃(pp:Option Addr) (A:aF),r= .pointer pp/\(pp=none->¬oX l)/\(pp≠none->oX l/\∃p,pp=some ⟨p,0,none⟩/\A=eD p (js l))/\aw G (A::L) w:=by
 rcases h with⟨Y,J,h3⟩|⟨Y,p,J,h3⟩
 ·exact⟨none,bt [],J,fun _=>Y,(fun h=>aS rfl h),aw.bJ (M:=[]) h3⟩
 exact⟨_,_,J,(fun h=>by cases h),fun _=>⟨Y,p,rfl,rfl⟩,h3⟩
def UM(Z:aw G L w)(ke:aL L EtK)(YE:aL L EvK)(ka:aL L (eB v l))(sP:l.length<=140737488355328)(kr:aL L (jk 4 rv (s.roots.map cA)))(hn:s.roots.length<=140737488355328):
  aA prog 6 #[v,gQ (eH s rv)] w (bU fun r w'=>r= .bool true/\aw G L w'):=by
 obtain⟨ia,ic,rfl⟩:=(ka.at Z).form;obtain⟨ra,rc,h0,-,-⟩:=(kr.at Z).form;rw[cg]at h0;subst h0;refine wF [_,_] func6 ntmps6 ?_;refine wB 2 Z fun w b3 Z=>?_;refine z5 ?_;refine wC rfl Ik rfl (H6 Z (show aL _ aea from(YE.of sF))) fun w Z=>?_
 refine nh rfl rfl ?_;refine aK ?_;refine fJ rfl (fun Y=>?_) fun Y=>?_
 ·cases Y
 refine z8 ?_;refine ar (d:=27) rfl (fun J=>?_) fun J=>?_
 ·refine z6 ?_;refine cr rfl ?_;refine dk 5 ?_;exact⟨by first|rfl|simp,(by repeat(first|exact Z|replace Z:=Z.tail))⟩
 refine wD 1 (v:=(.slice ra s.roots.length rc)) bD Z ?_;refine eE rfl kR bp rfl ?_;refine wI 3 (fun h3=>?_) fun h3=>?_
 ·refine dk 5 ?_;exact⟨by first|rfl|simp,(by repeat(first|exact Z|replace Z:=Z.tail))⟩
 have aiA:l.length<=524288:=H;have hn:s.roots.length<=1000:=H;refine z4 ?_;refine aO rfl LC rfl (M3 (l:=l) Z (ka.of sF) H) rfl fun w Zf hv=>?_;obtain⟨pp,A,rfl,Kg,Hc,Z⟩:=Ya hv;refine z6 ?_;refine AV rfl kR Nt rfl ?_;refine aK ?_;refine fJ rfl (fun h4=>?_) fun h4=>?_
 ·have h4':¬oX l:=Kg (by cases pp with|none=>rfl|some x=>cases h4);unfold oX at h4';refine z4 ?_;refine Tg rfl rfl rfl H H ?_;refine z2 ?_;refine ar (d:=41) rfl (fun h5=>?_) fun h5=>?_
  ·refine dk 7 ?_;exact⟨by first|rfl|simp,(by repeat(first|exact Z|replace Z:=Z.tail))⟩
  refine z7 ?_;exact dt rfl rfl rfl ⟨by
 have h6:(l.length:Int)<4096:=H
 first|exact aU Value.bool (eW h6)|simp[h6],(by repeat(first|exact Z|replace Z:=Z.tail))⟩
 have hp0:pp≠none:=fun h=>by rw[h]at h4;cases h4
 obtain⟨nr,p,rfl,rfl⟩:=Hc hp0;refine wA 3 (l:=eH s (.slice ra s.roots.length rc)) br Z ?_;refine aO rfl B3 rfl (C' (s:=s) Z (kr.of sF) H) rfl fun w v47 hv=>?_;obtain⟨u,rfl,Z⟩:=hv;have hku:∀R,aL (row 69 4 u s.roots.length (s.roots.map cA).flatten::R) (jk 4 u (s.roots.map cA)):=fun R=>(jk.row (by rw[cg]) (ab8 _)).head R
 have hu1:lK (eH s u):=by obtain⟨ua,uc,h⟩:=aT Z;rw[h];intro z hz;simp[eH]at hz;rcases hz with rfl|rfl|rfl|rfl|rfl|rfl<;>rfl
 refine wL 0 yU Z fun w b6 Z=>?_;refine wN 0 (cs:=eH s u) (l':=eH s u) br hu1 Z fun w Z=>?_;refine wA 4 (l:=eH s u) br Z ?_;refine aO rfl CA rfl (P1 (s:=s) (rv:=u) (D:=js l) (Z.b [eD p (js l)]) (V8 nr) ((hku _).of sF) hn rfl (ke.of sF) (YE.of sF)) rfl fun w v51 hv=>?_;obtain⟨pp,er,rp,Ap,rfl,hPR,Z⟩:=ZW hv;refine wL 4 fN Z fun w b8 Z=>?_;refine wN 1 (cs:=cY rp) (l':=cY rp) aJ (fD _) Z fun w Z=>?_;refine z3 ?_;refine Vb (G:=G) (α:=fun _=>C×List C×Option Addr×Int×Rp×List aF) [0,2] [[1],[3,4,5,6,7]] [⟨8,11,(vg.cells ⟨jf,nQ⟩),40⟩] [9,10,11] [2] (fun k (x:C×List C×Option Addr×Int×Rp×List aF)=>match k,x with|0,(v57,vs,um,rC,qA,M)=>[(0,(.slice ia l.length ic)),(3,pQ b3),(5,pQ p),(6,pQ b6),(7, .pointer pp),(8,pQ b8),(9,I er),(56,(.slice ia l.length ic)),(58,gQ (eH s (.slice ra s.roots.length rc)))]|1,(v57,vs,um,rC,qA,M)=>(57,v57)::[(0,(.slice ia l.length ic)),(3,pQ b3),(5,pQ p),(6,pQ b6),(7, .pointer pp),(8,pQ b8),(9,I er),(56,(.slice ia l.length ic)),(58,gQ (eH s (.slice ra s.roots.length rc)))]|_,(v57,vs,um,rC,qA,M)=>(60, .pointer um)::(61,gQ (cY qA))::(62,I rC)::[(0,(.slice ia l.length ic)),(3,pQ b3),(5,pQ p),(6,pQ b6),(7, .pointer pp),(8,pQ b8),(9,I er),(56,(.slice ia l.length ic)),(58,gQ (eH s (.slice ra s.roots.length rc)))]) (fun k (x:C×List C×Option Addr×Int×Rp×List aF)=>match k,x with|0,(v57,vs,um,rC,qA,M)=>Ap::row 69 4 u s.roots.length (s.roots.map cA).flatten::N b8 (cY rp) 40::N b6 (eH s u) 74::N b3 (eH s (.slice ra s.roots.length rc)) 74::eD p (js l)::L|1,(v57,vs,um,rC,qA,M)=>mr (vs.length=l.length/512/\∀i u,vs[i]?=some u->aL L (eB u (iA l i))/\(iA l i).length=512) (bt [])::row 55 1 v57 vs.length vs::Ap::row 69 4 u s.roots.length (s.roots.map cA).flatten::N b8 (cY rp) 40::N b6 (eH s u) 74::N b3 (eH s (.slice ra s.roots.length rc)) 74::eD p (js l)::L|_,(v57,vs,um,rC,qA,M)=>mr (RL s l um rC qA M) (bt [])::bt M::Ap::row 69 4 u s.roots.length (s.roots.map cA).flatten::N b8 (cY rp) 40::N b6 (eH s u) 74::N b3 (eH s (.slice ra s.roots.length rc)) 74::eD p (js l)::L) Cg kR kR ?_ ?_ ?_ ?_ ?_ ?_
 ·intro f hf;simp only[cE,fQ,or_false]at hf;subst hf;exact⟨_,_,_,rfl,fN,rfl,fun q hq=>bK (l:=[2]) kR hq⟩
 ·rintro(_|_|_) ⟨v57,vs,um,rC,qA,M⟩<;>rfl
 ·intro k hk x w F Z qq hqq;refine Wc (e1:=[(0,(.slice ia l.length ic)),(3,pQ b3),(5,pQ p),(6,pQ b6),(7, .pointer pp),(8,pQ b8),(9,I er),(56,(.slice ia l.length ic)),(58,gQ (eH s (.slice ra s.roots.length rc)))]) (by
       rcases x with⟨v57,vs,um,rC,qA,M⟩;rcases k with _|_|_
       ·exact(show si _ ([(0,(.slice ia l.length ic)),(3,pQ b3),(5,pQ p),(6,pQ b6),(7, .pointer pp),(8,pQ b8),(9,I er),(56,(.slice ia l.length ic)),(58,gQ (eH s (.slice ra s.roots.length rc)))]) from sB)
       ·exact(show si _ ((57,v57)::[(0,(.slice ia l.length ic)),(3,pQ b3),(5,pQ p),(6,pQ b6),(7, .pointer pp),(8,pQ b8),(9,I er),(56,(.slice ia l.length ic)),(58,gQ (eH s (.slice ra s.roots.length rc)))]) from sB)
       ·exact(show si _ ((60, .pointer um)::(61,gQ (cY qA))::(62,I rC)::[(0,(.slice ia l.length ic)),(3,pQ b3),(5,pQ p),(6,pQ b6),(7, .pointer pp),(8,pQ b8),(9,I er),(56,(.slice ia l.length ic)),(58,gQ (eH s (.slice ra s.roots.length rc)))]) from sB)) ?_
  have hz:∃R,aw G (N b3 (eH s (.slice ra s.roots.length rc)) 74::R) w:=by
   rcases x with⟨v57,vs,um,rC,qA,M⟩;rcases k with _|_|_
   ·replace Z:aw G (F::Ap::row 69 4 u s.roots.length (s.roots.map cA).flatten::N b8 (cY rp) 40::N b6 (eH s u) 74::N b3 (eH s (.slice ra s.roots.length rc)) 74::eD p (js l)::L) w:=Z;exact⟨_,Z.b [N b3 (eH s (.slice ra s.roots.length rc)) 74]⟩
   ·replace Z:aw G (F::mr (vs.length=l.length/512/\∀i u,vs[i]?=some u->aL L (eB u (iA l i))/\(iA l i).length=512) (bt [])::row 55 1 v57 vs.length vs::Ap::row 69 4 u s.roots.length (s.roots.map cA).flatten::N b8 (cY rp) 40::N b6 (eH s u) 74::N b3 (eH s (.slice ra s.roots.length rc)) 74::eD p (js l)::L) w:=Z;exact⟨_,Z.b [N b3 (eH s (.slice ra s.roots.length rc)) 74]⟩
   replace Z:aw G (F::mr (RL s l um rC qA M) (bt [])::bt M::Ap::row 69 4 u s.roots.length (s.roots.map cA).flatten::N b8 (cY rp) 40::N b6 (eH s u) 74::N b3 (eH s (.slice ra s.roots.length rc)) 74::eD p (js l)::L) w:=Z;exact⟨_,Z.b [N b3 (eH s (.slice ra s.roots.length rc)) 74]⟩
  clear Z;obtain⟨R,Z⟩:=hz;simp only[cE,fQ,or_false]at hqq;subst hqq;exact bG rfl rfl rfl (aD.dB (l:=eH s (.slice ra s.roots.length rc)) br Z pK rfl)
 ·replace Z:=Z.drawn (w.drawn+1);refine wA 1 (l:=eH s (.slice ra s.roots.length rc)) br Z ?_;refine aK ?_;refine⟨(u,[],none,0,jf,[]),(show si ([(0,(.slice ia l.length ic)),(3,pQ b3),(5,pQ p),(6,pQ b6),(7, .pointer pp),(8,pQ b8),(9,I er),(56,(.slice ia l.length ic)),(58,gQ (eH s (.slice ra s.roots.length rc)))]) _ from sB),?_⟩;exact Z.b [Ap,row 69 4 u _ _,N b8 _ _,N b6 _ _,N b3 _ _,eD p _]
 ·clear Z;intro k seg hk x w F Z;rcases x with⟨v57,vs,um,rC,qA,M⟩;rcases k with _|_|k
  ·cases hk;replace Z:aw G (F::Ap::row 69 4 u s.roots.length (s.roots.map cA).flatten::N b8 (cY rp) 40::N b6 (eH s u) 74::N b3 (eH s (.slice ra s.roots.length rc)) 74::eD p (js l)::L) w:=Z;refine ll (si.refl ([(0,(.slice ia l.length ic)),(3,pQ b3),(5,pQ p),(6,pQ b6),(7, .pointer pp),(8,pQ b8),(9,I er),(56,(.slice ia l.length ic)),(58,gQ (eH s (.slice ra s.roots.length rc)))])) ?_;refine ed rfl qv rfl (rN (l:=l) (L0:=L) Z ka sF H) (fun w v57 hv q' hq=>?_) fun w v57 hv=>?_
   ·obtain⟨vs,BC,xU,Z⟩:=hv;have hq:=bK (l:=[2]) kR hq;simp only[cE,fQ,or_false]at hq;subst hq;exact bG rfl rfl rfl (aD.dB (l:=eH s (.slice ra s.roots.length rc)) br Z pK rfl)
   obtain⟨vs,BC,xU,Z⟩:=hv;refine aK ?_;refine⟨(v57,vs,none,0,jf,[]),(show si ((57,v57)::[(0,(.slice ia l.length ic)),(3,pQ b3),(5,pQ p),(6,pQ b6),(7, .pointer pp),(8,pQ b8),(9,I er),(56,(.slice ia l.length ic)),(58,gQ (eH s (.slice ra s.roots.length rc)))]) _ from sB),?_⟩;have hz:=PB (p:=vs.length=l.length/512/\∀i u,vs[i]?=some u->aL L (eB u (iA l i))/\(iA l i).length=512) ⟨BC,xU⟩ Z;exact hz.b [F,mr _ _,row 55 1 v57 _ _,Ap,row 69 4 u _ _,N b8 _ _,N b6 _ _,N b3 _ _,eD p _]
  ·cases hk;replace Z:aw G (F::mr (vs.length=l.length/512/\∀i u,vs[i]?=some u->aL L (eB u (iA l i))/\(iA l i).length=512) (bt [])::row 55 1 v57 vs.length vs::Ap::row 69 4 u s.roots.length (s.roots.map cA).flatten::N b8 (cY rp) 40::N b6 (eH s u) 74::N b3 (eH s (.slice ra s.roots.length rc)) 74::eD p (js l)::L) w:=Z;refine ll (si.refl ((57,v57)::[(0,(.slice ia l.length ic)),(3,pQ b3),(5,pQ p),(6,pQ b6),(7, .pointer pp),(8,pQ b8),(9,I er),(56,(.slice ia l.length ic)),(58,gQ (eH s (.slice ra s.roots.length rc)))])) ?_;obtain⟨⟨BC,xU⟩,Z⟩:=(Z.b [mr _ _]).lf;replace Z:=Z.tail;refine aO rfl An rfl (Cn (s:=s) (rv:=(.slice ra s.roots.length rc)) Z (UY BC xU sF ((oJ.row.head _).of sF)) (kr.of sF) hn H) kR fun w v59 hv=>?_;obtain⟨um,rC,qA,M,rfl,YQ,Z⟩:=Vk BC hv;refine z5 ?_;refine⟨(u,[],um,rC,qA,M),(show si ((60, .pointer um)::(61,gQ (cY qA))::(62,I rC)::[(0,(.slice ia l.length ic)),(3,pQ b3),(5,pQ p),(6,pQ b6),(7, .pointer pp),(8,pQ b8),(9,I er),(56,(.slice ia l.length ic)),(58,gQ (eH s (.slice ra s.roots.length rc)))]) _ from sB),?_⟩;have hz:=PB (p:=RL s l um rC qA M) YQ (aw.bJ Z);exact(hz.b [row 55 1 v57 _ _]).tail.b [F,mr _ _,bt M,Ap,row 69 4 u _ _,N b8 _ _,N b6 _ _,N b3 _ _,eD p _]
  simp at hk
 clear Z;rintro⟨v57,vs,um,rC,qA,M⟩ w bs Z;obtain⟨wo,afN⟩:∃b,b=bs 8:=⟨_,rfl⟩;replace Z:aw G (N wo (vg.cells ⟨jf,nQ⟩) 40::mr (RL s l um rC qA M) (bt [])::bt M::Ap::row 69 4 u s.roots.length (s.roots.map cA).flatten::N b8 (cY rp) 40::N b6 (eH s u) 74::N b3 (eH s (.slice ra s.roots.length rc)) 74::eD p (js l)::L) w:=by
  subst afN;exact Z
 refine ll (e':=(11,pQ wo)::(60, .pointer um)::(61,gQ (cY qA))::(62,I rC)::[(0,(.slice ia l.length ic)),(3,pQ b3),(5,pQ p),(6,pQ b6),(7, .pointer pp),(8,pQ b8),(9,I er),(56,(.slice ia l.length ic)),(58,gQ (eH s (.slice ra s.roots.length rc)))]) (by
       subst afN;exact si.refl _) ?_
 clear afN;obtain⟨YQ,Z⟩:=(Z.b [mr _ _]).lf;replace Z:=Z.tail;refine wN 1 (cs:=cY qA) (l':=cY qA) aJ (fD _) Z fun w Z=>?_;refine wA 5 (l:=eH s u) br Z ?_;refine aO rfl xK rfl (Lb (s:=s) (rv:=u) (l:=l) (Z.b [eD p (js l)]) nr ((hku _).of sF) hn (ke.of sF)) rfl fun w v66 hv=>?_;obtain⟨u1,bl,er3,rfl,hB1,Z⟩:=hv;obtain⟨xa,xc,rfl⟩:=aT Z;refine z7 ?_;refine wQ [0,2,1,3,4,5,6,7,8] Z fun Z=>?_
 refine wA 1 (l:=eH s (.slice ra s.roots.length rc)) br Z ?_;refine ed rfl qv rfl (rN (l:=l) (L0:=L) Z ka sF H) (fun w v71 hv q' hq=>?_) fun w v71 hv=>?_
 ·obtain⟨vs,BC,xU,Z⟩:=hv;have hq:=bK (l:=[2]) kR hq;simp only[cE,fQ,or_false]at hq;subst hq;exact bG rfl rfl rfl (aD.dB (l:=eH s (.slice ra s.roots.length rc)) br Z pK rfl)
 obtain⟨vs,BC,xU,Z⟩:=hv;refine aO rfl Nf rfl (PO (s:=s) (rv:=(.slice ra s.roots.length rc)) (U:=adx s) Z (UY BC xU sF ((oJ.row.head _).of sF)) (kr.of sF) hn H (fun h=>SB h) (fun x E=>E.2)) kR fun w v73 hv=>?_;obtain⟨u2,P9,er4,rfl,hB2,ac0,Z⟩:=abv hv;rw[BC]at hB2 ac0;obtain⟨rfl,rfl⟩:=hB1.one hB2;refine z13 ?_;refine ar (d:=79) rfl (fun h6=>?_) fun h6=>?_
 ·exact aS (hPR.rl YQ).1 h6
 refine z5 ?_;refine ar (d:=84) rfl (fun h7=>?_) fun h7=>?_
 ·exact aS rfl h7
 refine wA 0 (l:=cY rp) aJ Z ?_;refine wA 0 (l:=cY qA) aJ Z ?_;refine wC rfl mH rfl (ny (a:=⟨rp,nQ⟩) (b:=⟨qA,nQ⟩) Z (AY (hPR.rl YQ).2.2.1 _) (AY (hPR.rl YQ).2.2.2 _)) fun w Z=>?_
 refine cU rfl rfl ?_;refine z2 ?_;refine ar (d:=90) rfl (fun h8=>?_) fun h8=>?_
 ·exact aS (hPR.rl YQ).2.1 h8
 refine z2 ?_;refine wC rfl nb rfl (nZ (l:=P9) (l':=P9) Z ((oz (v:= .slice xa P9.length xc) (c:=P9)).of sF) ((oz (v:=u2) (c:=P9)).of sF) H H) fun w Z=>?_
 refine cU rfl rfl ?_;refine z2 ?_;refine ar (d:=96) rfl (fun h9=>?_) fun h9=>?_
 ·exact aS rfl h9
 refine wA 2 (l:=eH s (.slice ra s.roots.length rc)) br Z ?_;refine wC rfl B6 rfl (Dc (s:=s) (pp:=pp) (Ax:=Ap) (Z.b [Ap]) hPR.pl (ka.of sF) aiA (kr.of sF) hn) fun w Z=>?_
 refine nh rfl rfl ?_;refine wA 2 (l:=eH s u) br Z ?_;refine wA 0 (l:=eH s (.slice ra s.roots.length rc)) br Z ?_;refine wC rfl EV rfl (Gg (s:=s) Z ((hku _).of sF) (kr.of sF) H) fun w Z=>?_
 refine nh rfl rfl ?_;refine z2 ?_;refine fJ rfl (fun qH=>?_) fun qH=>?_
 ·cases qH
 refine z7 ?_;have Z:=(Z.b [Ap,row 55 1 _ _ _,N wo _ _,bt M,row 3 1 (.slice xa P9.length xc) _ _,row 3 1 u2 _ _,row 69 4 u _ _,N b8 _ _,N b6 _ _,N b3 _ _,eD p _]).t4;refine bx (fun m e w=>∃(k:Nat) (xs:List C),k<=P9.length/\m=P9.length-k/\e=[(3,pQ b3),(5,pQ p),(6,pQ b6),(8,pQ b8),(13, .slice xa P9.length xc),(15,u2),(16,I er4),(17,I k)]/\xs.length=P9.length/\aw G (row 3 1 (.slice xa P9.length xc) P9.length xs::row 3 1 u2 P9.length (bf P9)::row 69 4 u s.roots.length (s.roots.map cA).flatten::N b8 (cY rp) 40::N b6 (eH s u) 74::N b3 (eH s (.slice ra s.roots.length rc)) 74::eD p (js l)::L) w)
  (m:=P9.length) sB
  ⟨0,bf P9,de _,rfl,rfl,bC _,Z⟩ ?_
 rintro m e w ⟨k,xs,hk,rfl,rfl,vi,Z⟩;refine wI 8 (fun xX=>?_) fun xX=>?_
 ·have gn:k<P9.length:=H;obtain⟨-,xb,-,hxa,-⟩:=fZ Z H;subst hxa;refine wY 6 aY bF ?_;refine sX (xs':=xs.set k (I (-1))) (m:=P9.length) (j:=k) rfl tV rfl rfl ag rfl Z pK H H rfl rfl fun w Z=>?_;refine z6 ?_;exact⟨P9.length-(k+1),H,[(3,_),(5,_),(6,_),(8,_),(13,_),(15,_),(16,_),(17,I (k+1:Nat))],sB,k+1,_,H,rfl,rfl,by rw[Hu];exact vi,Z⟩
 refine wA 4 (l:=eH s u) br Z ?_;refine aO rfl xK rfl (Lb (s:=s) (rv:=u) (l:=l) (Z.b [eD p (js l)]) nr ((hku _).of sF) hn (ke.of sF)) rfl fun w ae0 hv=>?_;obtain⟨u3,bl3,er5,rfl,hB3,Z⟩:=hv;obtain⟨rfl,rfl⟩:=hB2.one hB3;refine z9 ?_;refine wC rfl Dq rfl (EH (Z.b [eD p (js l)])) fun w Z=>?_
 refine YW ?_;refine ar (d:=131) rfl (fun BG=>?_) fun BG=>?_
 ·exact aS rfl BG
 refine z4 ?_;refine ar (d:=135) rfl (fun h14=>?_) fun h14=>?_
 ·exact aS rfl h14
 refine z5 ?_;refine ar (d:=140) rfl (fun h15=>?_) fun h15=>?_
 ·exact aS rfl h15
 refine z2 ?_;refine wC rfl nb rfl (nZ (l:=bl3) (l':=bl3) Z ((oz (v:=u3) (c:=bl3)).of sF) ((oz (v:=u2) (c:=bl3)).of sF) H H) fun w Z=>?_
 refine cU rfl rfl ?_;refine wI 2 (fun h16=>?_) fun h16=>?_
 ·exact aS rfl h16
 refine z4 ?_;refine wC rfl EY rfl (af3 (Z.b [eD p (js l)])) fun w Z=>?_
 have hbe:qy s (js l).failed.on=(if cp s≠0 then cp s else 17):=rfl;have hb0:qy s (js l).failed.on≠0:=by rw[hbe];split<;>omega
 refine wA 4 (l:=eH s u) br Z ?_;refine wC rfl CA rfl (H7 (s:=s) (rv:=u) (Z.b [eD p (js l).failed]) ((hku _).of sF) hn hb0) fun w Z=>?_
 refine wN 5 (cs:=cY jf) (l':=cY jf) aJ (fD _) Z fun w Z=>?_;refine wA 5 (l:=eH s u) br Z ?_;refine wC rfl xK rfl (Ab (s:=s) (rv:=u) (Z.b [eD p (js l).failed]) ((hku _).of sF) hn hb0) fun w Z=>?_
 rw[hbe];refine wA 13 (l:=eH s (.slice ra s.roots.length rc)) br Z ?_;refine wC rfl rP rfl (tm (s:=s) Z (kr.of sF) hn) fun w Z=>?_
 refine wI 7 (fun UD=>?_) fun UD=>?_
 ·refine z7 ?_;refine AV rfl kR oh rfl ?_;refine wA 1 (l:=cY jf) aJ Z ?_;refine wV 0 (v:=gQ (cY jf)) ?_;refine wC rfl mH rfl (ny (a:=⟨jf,nQ⟩) (b:=⟨jf,nQ⟩) Z (AY rfl _) (AY rfl _)) fun w Z=>?_
  refine z2 ?_;refine ar (d:=173) rfl (fun h19=>?_) fun h19=>?_
  ·refine z1 ?_;refine eE rfl kR aY rfl ?_;refine z3 ?_;refine ar (d:=178) rfl (fun h20=>?_) fun h20=>?_
   ·refine z5 ?_;refine ar (d:=183) rfl (fun h21=>?_) fun h21=>?_
    ·refine dk 7 ?_;exact⟨aU Value.bool (eW (by rw[aB UD])),(by repeat(first|exact Z|replace Z:=Z.tail))⟩
    exact aS (by rw[aB UD]) h21
   exact aS rfl h20
  exact aS rfl h19
 refine z4 ?_;refine AV rfl kR oh rfl ?_;refine wA 1 (l:=cY jf) aJ Z ?_;refine wV 0 (v:=gQ (cY jf)) ?_;refine wC rfl mH rfl (ny (a:=⟨jf,nQ⟩) (b:=⟨jf,nQ⟩) Z (AY rfl _) (AY rfl _)) fun w Z=>?_
 refine z2 ?_;refine ar (d:=173) rfl (fun h23=>?_) fun h23=>?_
 ·refine z1 ?_;refine eE rfl kR aY rfl ?_;refine z3 ?_;refine ar (d:=178) rfl (fun h24=>?_) fun h24=>?_
  ·refine z5 ?_;refine ar (d:=183) rfl (fun h25=>?_) fun h25=>?_
   ·refine dk 7 ?_;exact⟨aU Value.bool (eW (by rw[aj UD])),(by repeat(first|exact Z|replace Z:=Z.tail))⟩
   exact aS (by rw[aj UD]) h25
  exact aS rfl h24
 exact aS rfl h23
end
section
open Go.ChangeShapes Go.WideShapes Go.RowKit
def ahy:prog.cellsOf 69=4:=kR
def aje:prog.bytesOf 69=32:=kR
def ahz:prog.cellsOf 72=3:=kR
def ajd:prog.cellsOf 31=1:=kR
section
variable{oM:Type}{enc:aC×C->oM}{W:ae}{cs:List C}{x:DataW oM×List MemPlace}
def aaa(hv:∃a len cap,v= .slice a len cap/\∀x,a=some x->x.spot=none)(h:DataW.trod enc prog W 0 (fun _=>true) true n 55 v.cells.toList=some x)(SS:∀q∈DataW.weights prog 55 x.1,q<=reachBytes):
  ∃l,aL [Old W] (eB v l)/\l.length<=140737488351232:=by
 obtain⟨a,len,cap,rfl,ha⟩:=hv;obtain⟨v,l,kB,hs,hb⟩:=TS aR ig coU boU h SS;obtain rfl:Value.slice a len cap=v:=by simpa [Value.cells]using kB
 exact⟨l,hs.qV,hb⟩
def Z'(h:DataW.trod enc prog W 0 (fun _=>true) true n 72 cs=some x):∃c:Cf,cs=M6 c:=by
 obtain⟨xs,m,rfl,rfl,hl,vi,hf⟩:=DataW.trod_struct underlying72 h;have hl4:cs.length=3:=hl.trans ahz
 match cs,hl4 with
 |[a,b,c],_=>
  match xs,(show xs.length=3 from vi)with
  |[x0,x1,x2],_=>
   have h0:DataW.trod enc prog W 0 (fun _=>true) true m 3 (([a,b,c].drop 0).take (prog.cellsOf 3))=some x0:=hf 0 _ rfl;have Y:DataW.trod enc prog W 0 (fun _=>true) true m 3 (([a,b,c].drop 1).take (prog.cellsOf 3))=some x1:=hf 1 _ rfl;have J:DataW.trod enc prog W 0 (fun _=>true) true m 3 (([a,b,c].drop 2).take (prog.cellsOf 3))=some x2:=hf 2 _ rfl;rw[coI]at h0 Y J;simp only[W3,W9,Xa,DX]at h0 Y J
   obtain⟨i,hi,-,-⟩:=DataW.trod_int dD h0;obtain⟨j,hj,-,-⟩:=DataW.trod_int dD Y;obtain⟨k,hk,-,-⟩:=DataW.trod_int dD J;simp only[List.cons.injEq,and_true]at hi hj hk;subst hi;subst hj;subst hk;exact⟨⟨i,j,k⟩,rfl⟩
def Xn(h:DataW.trod enc prog W 0 (fun _=>true) true n 69 cs=some x):∃r:Int×Tr,cs=cA r:=by
 obtain⟨xs,m,rfl,rfl,hl,vi,hf⟩:=DataW.trod_struct underlying69 h;have hl4:cs.length=4:=hl.trans ahy
 match cs,hl4 with
 |[a,b,c,d],_=>
  match xs,(show xs.length=2 from vi)with
  |[x0,x1],_=>
   have h0:DataW.trod enc prog W 0 (fun _=>true) true m 3 (([a,b,c,d].drop 0).take (prog.cellsOf 3))=some x0:=hf 0 _ rfl;have Y:DataW.trod enc prog W 0 (fun _=>true) true m 62 (([a,b,c,d].drop 1).take (prog.cellsOf 62))=some x1:=hf 1 _ rfl;rw[coI]at h0;rw[coT]at Y
   simp only[W3,W9,Xa,DX]at h0 Y;obtain⟨i,hi,-,-⟩:=DataW.trod_int dD h0;obtain⟨t,ht⟩:=Xm Y;simp only[List.cons.injEq,and_true]at hi
   simp only[dI,List.cons.injEq,and_true]at ht;obtain⟨rfl,rfl,rfl⟩:=ht;subst hi;exact⟨(i,t),rfl⟩
def TQ(h:DataW.trod enc prog W 0 (fun _=>true) true n 31 cs=some x)(SS:∀q∈DataW.weights prog 31 x.1,q<=reachBytes):∃(v:C) (l:List (Int×Tr)),cs=[v]/\jk 4 v (l.map cA) W/\l.length<=140737488355328:=by
 obtain⟨v,rows,rfl,hb,hs,hr⟩:=JF bp ahy dM aje h SS;obtain⟨l,rfl,-⟩:=afc (f:=cA) (Q:=fun _=>True) rows fun r hm=>by
  obtain⟨m,y,Y,_⟩:=hr r hm;obtain⟨t,rfl⟩:=Xn Y;exact⟨t,rfl,trivial⟩
 exact⟨v,l,rfl,ae4 (fun r hr=>by obtain⟨t,-,rfl⟩:=dY.1 hr;rfl) hs,by rw[cg]at hb;simp[reachBytes]at hb;omega⟩
def afi{r:Reach}{b0:Nat}(hv:Value.okWide prog W r b0 74 v)(h:DataW.trod enc prog W 0 (fun _=>true) true n 74 v.cells.toList=some x)(SS:∀q∈DataW.weights prog 74 x.1,q<=reachBytes):
  ∃(s:Su) (rv:C),v=gQ (eH s rv)/\aL [Old W] (jk 4 rv (s.roots.map cA))/\s.roots.length<=140737488355328:=by
 have hu:=underlying74;obtain⟨ca,rfl,_⟩:=okWide_struct hu hv;obtain⟨xs,m,rfl,rfl,hl,vi,hf⟩:=DataW.trod_struct hu h;have hl2:ca.toList.length=6:=hl.trans kR
 match HG:ca.toList,hl2 with
 |[a,b,c,d,e,f],_=>
  have Uy:(Value.agg ca).cells.toList=[a,b,c,d,e,f]:=HG
  match xs,(show xs.length=4 from vi)with
  |[x0,x1,x2,x3],_=>
   have h0:DataW.trod enc prog W 0 (fun _=>true) true m 3 (((Value.agg ca).cells.toList.drop 0).take (prog.cellsOf 3))=some x0:=hf 0 _ rfl;have Y:DataW.trod enc prog W 0 (fun _=>true) true m 72 (((Value.agg ca).cells.toList.drop 1).take (prog.cellsOf 72))=some x1:=hf 1 _ rfl;have J:DataW.trod enc prog W 0 (fun _=>true) true m 3 (((Value.agg ca).cells.toList.drop 4).take (prog.cellsOf 3))=some x2:=hf 2 _ rfl;have h3:DataW.trod enc prog W 0 (fun _=>true) true m 31 (((Value.agg ca).cells.toList.drop 5).take (prog.cellsOf 31))=some x3:=hf 3 _ rfl;rw[Uy,coI]at h0 J;rw[Uy,ahz]at Y
   rw[Uy,ajd]at h3;simp only[W3,W9,Xa,DX]at h0 Y J h3
   obtain⟨i,hi,-,-⟩:=DataW.trod_int dD h0;obtain⟨cf,hcf⟩:=Z' Y;obtain⟨k,hk,-,-⟩:=DataW.trod_int dD J;simp only[DataW.weights,hu,ey,l9,DataW.weightsEach,kF]at SS;obtain⟨v3,l3,hv3,hs3,hb3⟩:=TQ h3 fun q hq=>SS q (by simp[hq])
   simp only[List.cons.injEq,and_true]at hi hk hv3;simp only[M6,List.cons.injEq,and_true]at hcf
   obtain⟨rfl,rfl,rfl⟩:=hcf;subst hi;subst hk;subst hv3;refine⟨⟨i,cf,k,l3⟩,f,?_,hs3.qV,hb3⟩
   congr 1
   apply Array.ext';exact HG
end
end
end
end Go.Proofs.YtjbkgbilbnccnaaGreatDoor.X
