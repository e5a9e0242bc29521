/- Part 3 of what the proof of this claim stands on: rules for walking the code, and what its functions answer; no conditions. -/
import Derived.Test.YtjbkgbilbnccnaaGreatDoorY2
namespace Go.Proofs.YtjbkgbilbnccnaaGreatDoor.X
open _root_.Go.Proofs.Tryz _root_.Go.Proofs.YtjbkgbilbnccnaaGreatDoor.Tryz
set_option linter.defProp false
noncomputable section
set_option linter.unusedVariables false
set_option linter.unusedSimpArgs false
set_option maxRecDepth 20000
set_option maxHeartbeats 8000000
variable{v:AL}{cv fv lv:C}{G:Gh}{keys least n refs:Int}{x:It}{kv:KV}{l:List (Int×Pg)}{on:List (Int×dL)}{ml:List Bool}{lb:List C}{A W c met roots:List Int}{s:List Int×Int}{L R:List aF}{F:List aF->Prop}{S:List dL}{ai b1 cq d fq i j k m mb mc mq nm q vq:Nat}{p:Pg}{t:Tr}{α:Type}{V:Va}{B ad:aF}{w:ae}{P:au}{e:cX}{r:rS}
def vT(l:List α)(k:Nat)(z:α):List α:=l.take k++List.replicate (l.length-k) z
def Og{l:List α}{z x:α}(h:l[k]?=some x):(vT l k z).set k x=vT l (k+1) z:=by
 have hk:k<l.length:=by
  rw[qj]at h;exact h.1
 unfold vT;rw[bV h,ack _ _ (by rw[gJ];omega),gJ,Jq H,Tx];obtain⟨d,hd⟩:∃d,l.length-k=d+1:=⟨l.length-k-1,H⟩;rw[hd,List.replicate_succ,List.set_cons_zero,show l.length-(k+1)=d by omega,gm];rfl
def Oh{l:List α}{z:α}:vT l l.length z=l:=by unfold vT;simp
def KP{l:List α}{z:α}:vT l 0 z=List.replicate l.length z:=by unfold vT;simp
def sw(c:List Int):List Bool:=c.map fun x=>decide (0<x)
def acv{x:Int}(h:c[k]?=some x):(sw c)[k]?=some (decide (0<x)):=by unfold sw;rw[dh,h];rfl
def zh:(sw c).length=c.length:=by simp[sw]
def acK(c:List Int)(l:List (Int×Pg)):Prop:=∀(i:Nat) (x:Int),c[i]?=some x->0<x->(i:Int)+1∈l.map (·.1)
def yj(refs:Int)(c:List Int)(l:List (Int×Pg)):Prop:=qU refs c=0/\oQ c [] l=0/\acK c l
structure Yz(refs:Int)(c:List Int)(l:List (Int×Pg))(v:AL)(S:List dL):Prop where
 er:v.r=refs
 ec:v.c=c
 el:v.l=sw c
 ea:v.av=nQ
 ef:v.floor=0
 O6:v.p.length=c.length
 ep:∀i:Nat,i<c.length->∃pg,v.p[i]?=some pg/\(match l.find? (fun x=>x.1==(i:Int)+1)with|none=>pg=gi|some x=>pg.pg=x.2/\pg∈S/\pg.Sm)
def rvx{ps:List dL}{cb cc lb lc pb pc:Nat}{av:C}{fl:Int}{hu:Bool}(h:ps.length=c.length):
  nj q ⟨refs,c,sQ cb c.length cc,sw c,sQ lb c.length lc,ps,sQ pb c.length pc,av,fl,hu⟩ L=
   N q [I refs,sQ cb c.length cc,sQ lb c.length lc,sQ pb c.length pc,av,I fl, .bool hu] 129::row 3 1 (sQ cb c.length cc) c.length (bf c)::row 4 1 (sQ lb c.length lc) c.length (gW (sw c))::row 104 5 (sQ pb c.length pc) c.length (ps.map dL.cells).flatten::L:=by
 unfold nj AL.cells;simp only[zh,h]
def E1{l:List Bool}{b:Bool}:(gW l).set j (.bool b)=gW (l.set j b):=by simp[gW,QR]
def J5{l:List Int}{b:Int}:(bf l).set j (I b)=bf (l.set j b):=by simp[bf,QR]
section
variable{n:Nat}{O:Array aP}{dr:Bool}{done r:List Nat}{K:cX->ae->Prop}{t s T:aC}{p:String}{af:Array Edge}{g:Option (Nat×Bool)}{x y:aM}
def aeO{b o cap z:Nat}{cs:List C}{rs rs':List (List C)}(ho:O[i]?=some ⟨none, .store s x y,t,p,af,g⟩)(hg:Gd O e g)(E:ev e x=some (.pointer (some ⟨b,o,none⟩)))(hy:ev e y=some (gQ cs))(Y:jn P s z=true)(hz:cs.length=z)(hv:lK cs)(Z:aw G L w)(hrz:∀r∈rs,r.length=z)(hm:rs.length=m)(hp:dE (row T z (sQ b m cap) m rs.flatten) L R)(hj:j<m)(xW:o=j*z)(Dy:rs.set j cs=rs')(hpd:gZ P O dr done i=[])(h:∀w',aw G (row T z (sQ b m cap) m rs'.flatten::R) w'->XL P n O dr (i::done) r K e w'):XL P n O dr done (i::r) K e w:=by
 subst hm;exact aeM ho hg E hy Y hz hv Z hrz hp hj xW Dy hpd h
end
def MX{vc vl:C}{l:List (Int×dL)}(Z:aw G L w)(kc:aL L (oJ vc (bf c)))(hl9:c.length<=1000000000)(kl:aL L (jk 6 vl (l.map nK)))(Us:∀x∈l,x.2.Ok L)(sP:l.length<=1000000000):
  aA prog 49 #[I refs,vc,vl] w (bU fun r w'=>(∃er,er≠0/\¬yj refs c (mW l)/\r= .tuple #[.pointer none,I er]/\aw G L w')∨
   (yj refs c (mW l)/\∃q v S,r= .tuple #[pQ q,I 0]/\Yz refs c (mW l) v S/\v.RG=false/\aw G (nj q v (gz S::L)) w')):=by
 obtain⟨la,lac,Y,-,-⟩:=(kl.at Z).form;rw[cg]at Y;subst Y;obtain⟨ca0,cc0,rfl⟩:=(kc.at Z).form;rw[bC];rw[bC]at kc
 refine wF [_,_,_] func49 ntmps49 ?_;refine B' ?_;refine aO rfl Nh rfl (PR Z) rfl fun w v20 hv=>?_;have Ug:∃(pp:Option Addr) (er:Int),v20= .tuple #[.pointer pp,I er]/\((er=1/\¬(1<=(c.length:Int)/\(c.length:Int)<=65536/\2<=refs/\refs<65536)/\aw G L w)\/(er=0/\(1<=(c.length:Int)/\(c.length:Int)<=65536/\2<=refs/\refs<65536)/\∃q cv lv pv,pp=some ⟨q,0,none⟩/\aw G (nj q (aaj refs c.length cv lv pv) L) w)):=by
  rcases hv with⟨Y,J,h3⟩|⟨Y,q,cv,lv,pv,J,h3⟩
  ·exact⟨none,1,J, .inl ⟨rfl,Y,h3⟩⟩
  exact⟨some ⟨q,0,none⟩,0,J, .inr ⟨rfl,Y,q,cv,lv,pv,rfl,by simpa using h3⟩⟩
 obtain⟨pp,er,rfl,Ug⟩:=Ug;refine wI 12 (fun Y=>?_) fun Y=>?_
 ·refine z7 ?_;exact ga rfl rfl rfl rfl (by
 obtain⟨rfl,tU,Z⟩:=Ug.resolve_right (fun h=>Y h.1);exact .inl ⟨1,by decide,(fun h=>by have J:=h.1;unfold qU at J;rw[aB tU]at J;cases J),rfl,Z⟩)
 obtain⟨rfl,lH,q,cv,lv,pv,rfl,Z⟩:=Ug.resolve_left (fun h=>Y (by rw[h.1];decide));have hN:1<=c.length/\c.length<=65536:=H;have wy:qU refs c=if¬(∀x∈c,0<=x/\x<=refs)then 13 else 0:=by unfold qU;rw[aj (fun h=>h lH)]
 have Uf:aw G (N q [I refs,cv,lv,pv,nQ,I 0, .bool false] 129::row 3 1 cv c.length (bf (List.replicate c.length 0))::row 4 1 lv c.length (gW (List.replicate c.length false))::row 104 5 pv c.length ((List.replicate c.length gi).map dL.cells).flatten::L) w:=by
  have h:=Z;unfold nj aaj AL.cells at h;simp only[Mq]at h
  exact h
 clear Z;obtain⟨ca,cc,rfl⟩:=aT (Uf.pick (A:=row 3 1 cv _ _) (.there .here));obtain⟨laa,lc,rfl⟩:=aT (Uf.pick (A:=row 4 1 lv _ _) (.there (.there .here)));obtain⟨pa,pc,rfl⟩:=aT (Uf.pick (A:=row 104 5 pv _ _) (.there (.there (.there .here))));obtain⟨-,cb,-,rfl,-⟩:=fZ (Uf.pick (A:=row 3 1 _ _ _) (.there .here)) H;obtain⟨-,lb,-,rfl,-⟩:=fZ (Uf.pick (A:=row 4 1 _ _ _) (.there (.there .here))) H;obtain⟨-,pb,-,rfl,-⟩:=fZ (Uf.pick (A:=row 104 5 _ _ _) (.there (.there (.there .here)))) H;rw[<-KP (l:=c),show List.replicate c.length false=vT (sw c) 0 false by rw[KP,zh]]at Uf;have Z:=Uf;clear Uf;refine SP ?_;have Z:=bB Z 4 1;refine bx (fun m e w=>∃(k:Nat) (lz:C),k<=c.length/\m=c.length-k/\e=[(0,I refs),(1, .slice ca0 c.length cc0),(2, .slice la l.length lac),(8,pQ q),(10,lz),(11,I k)]/\(∀x∈c.take k,0<=x/\x<=refs)/\aw G (row 4 1 lz k (gW (List.replicate k false))::N q [I refs, .slice (some ⟨cb,0,none⟩) c.length cc, .slice (some ⟨lb,0,none⟩) c.length lc, .slice (some ⟨pb,0,none⟩) c.length pc,nQ,I 0, .bool false] 129::row 3 1 (.slice (some ⟨cb,0,none⟩) c.length cc) c.length (bf (vT c k 0))::row 4 1 (.slice (some ⟨lb,0,none⟩) c.length lc) c.length (gW (vT (sw c) k false))::row 104 5 (.slice (some ⟨pb,0,none⟩) c.length pc) c.length ((List.replicate c.length gi).map dL.cells).flatten::L) w)
  (m:=c.length) sB
  ⟨0,_,de _,rfl,rfl,(fun x E=>by simp at E),Z⟩ ?_
 rintro m e w ⟨k,lz,hk,rfl,rfl,hr,Z⟩;refine wI 8 (fun J=>?_) fun J=>?_
 ·have gn:k<c.length:=H;obtain⟨x,E⟩:∃x,c[k]?=some x:=⟨_,dG gn⟩;obtain⟨bb,oo,rfl⟩:=((kc.of sF).at Z).nn (by rw[bC];omega);obtain⟨az,cz,rfl⟩:=aT Z;refine wY 8 aY bF ?_;refine bg rfl rfl (aD.one ag (((kc.of sF).at Z).at (by rw[cZ];exact kN E))) ?_;refine z2 ?_;refine bw (l1:=[6,7,8,9,10,11,12]) (l2:=[]) rfl (d:=44) (x<0\/refs<x) rfl ?_ ?_
  ·refine ar (d:=37) rfl (fun h3=>?_) fun h3=>?_
   ·exact wq 8
   refine wY 2 aY bF ?_;refine bg rfl rfl (aD.one ag (((kc.of sF).at Z).at (by rw[cZ];exact kN E))) ?_;exact wq 4
  refine aK ?_;refine wI 0 (fun h4=>?_) fun h4=>?_
  ·refine z6 ?_;exact ga rfl rfl rfl rfl (.inl (by
 have aa3:¬(∀x∈c,0<=x/\x<=refs):=fun h=>by have:=h x (fK E);omega
 exact⟨13,by decide,(fun h=>by have J:=h.1;rw[wy,aB aa3]at J;cases J),rfl,(Z.b [row 4 1 (.slice az k cz) _ _,N q _ _,row 3 _ _ _ _,row 4 1 (.slice (some ⟨lb,0,none⟩) _ _) _ _,row 104 _ _ _ _]).t5⟩))
  refine z2 ?_;refine wQ [0,1,2,3,4,5,6,7,8,9,10] Z fun Z=>?_
  refine wD 3 (v:= .slice (some ⟨cb,0,none⟩) c.length cc) dS Z ?_;refine wY 3 aY bF ?_;refine bg rfl rfl (aD.one ag (((kc.of sF).at Z).at (by rw[cZ];exact kN E))) ?_;refine wY 0 aY bF ?_;refine sX (xs':=bf (vT c (k+1) 0)) (m:=c.length) (j:=k) rfl tV rfl rfl ag rfl Z pK H sM (by rw[J5,Og E]) kR fun w Z=>?_;refine z2 ?_;refine wQ [0,1,2,3,4,5,6,7,8,9,10,11] Z fun Z=>?_
  refine wD 3 (v:= .slice (some ⟨lb,0,none⟩) c.length lc) iU Z ?_;refine wY 3 aY bF ?_;refine bg rfl rfl (aD.one ag (((kc.of sF).at Z).at (by rw[cZ];exact kN E))) ?_;refine wY 1 dV gg ?_;refine sX (xs':=gW (vT (sw c) (k+1) false)) (m:=c.length) (j:=k) rfl tV rfl rfl bS rfl Z pK H sM (by rw[E1,Og (acv E)]) kR fun w Z=>?_;refine z3 ?_;refine fb (cs:=[.bool false]) rfl dV gg IC dM rfl rfl rfl Z rfl fun w b67 Z=>?_;refine eF (m:=k) (k:=1) (news:=[.bool false]) rfl dV gg Bt IC rfl rfl Z pK (Rd.iq Z pK) rfl (by intro u hu;simp at hu;subst hu;rfl) mL H rfl (fun w v68 Z=>?_);refine z7 ?_;have e2:gW (List.replicate (k+1) false)=gW (List.replicate k false)++[.bool false]:=by rw[ZP];simp[gW]
  refine⟨c.length-(k+1),H,[(0,_),(1,_),(2,_),(8,_),(10,_),(11,I (k+1:Nat))],sB,k+1,_,H,rfl,rfl,?_,?_⟩
  ·intro y hy;rw[bV E]at hy;rcases eZ.1 hy with hy|hy
   ·exact hr y hy
   simp at hy;subst hy;omega
  rw[e2];exact(Z.b [N b67 _ _,row 4 1 v68 _ _,N q _ _,row 3 _ _ _ _,row 4 1 (.slice (some ⟨lb,0,none⟩) _ _) _ _,row 104 _ _ _ _]).tail
 have oY:k=c.length:=H;subst oY;rw[qS]at hr;rw[aj (not_not_intro hr)]at wy
 rw[Oh,show vT (sw c) c.length false=sw c by rw[<-zh (c:=c),Oh]]at Z;obtain⟨az,cz,rfl⟩:=aT Z;obtain⟨-,zb,-,rfl,-⟩:=fZ Z H;refine z7 ?_;have Z:=aw.bJ (M:=([]:List dL).map fg) Z;have Z:=Z.b [row 4 1 (.slice (some ⟨zb,0,none⟩) _ _) _ _,N q _ _,row 3 _ _ _ _,row 4 1 (.slice (some ⟨lb,0,none⟩) _ _) _ _,row 104 _ _ _ _,bt _];refine bx (fun m e w=>∃(k:Nat) (ld:List Bool) (ps S:List dL),k<=l.length/\m=l.length-k/\e=[(0,I refs),(1, .slice ca0 c.length cc0),(2, .slice la l.length lac),(8,pQ q),(10, .slice (some ⟨zb,0,none⟩) c.length cz),(12,I k)]/\(ld.length=c.length/\ps.length=c.length/\(∀i:Nat,i<c.length->ld[i]?=some (decide ((i:Int)+1∈((mW l).take k).map (·.1))))/\(∀i:Nat,i<c.length->∃pg,ps[i]?=some pg/\(match((mW l).take k).find? (fun x=>x.1==(i:Int)+1)with|none=>pg=gi|some x=>pg.pg=x.2/\pg∈S/\pg.Sm))/\oQ c [] (mW l)=oQ c ((((mW l).take k).map (·.1)).reverse) ((mW l).drop k))/\aw G (row 4 1 (.slice (some ⟨zb,0,none⟩) c.length cz) c.length (gW ld)::N q [I refs, .slice (some ⟨cb,0,none⟩) c.length cc, .slice (some ⟨lb,0,none⟩) c.length lc, .slice (some ⟨pb,0,none⟩) c.length pc,nQ,I 0, .bool false] 129::row 3 1 (.slice (some ⟨cb,0,none⟩) c.length cc) c.length (bf c)::row 4 1 (.slice (some ⟨lb,0,none⟩) c.length lc) c.length (gW (sw c))::row 104 5 (.slice (some ⟨pb,0,none⟩) c.length pc) c.length (ps.map dL.cells).flatten::gz S::L) w)
  (m:=l.length) sB
  ⟨0,List.replicate c.length false,List.replicate c.length gi,[],de _,rfl,rfl,⟨by simp,by simp,fun i hi=>by simp[hi],fun i hi=>⟨gi,by simp[hi],by simp⟩,rfl⟩,Z⟩ ?_
 rintro m e w ⟨k,ld,ps,S,hk,rfl,rfl,⟨rJ,XT,hla,hpa,hle⟩,Z⟩;refine z5 ?_;refine eE rfl kR eA rfl ?_;refine wI 2 (fun h5=>?_) fun h5=>?_
 ·have gn:k<l.length:=H;obtain⟨x,E⟩:∃x,l[k]?=some x:=⟨_,dG gn⟩;have lG:=Us x (fK E);have kA:(l.map nK)[k]?=some (nK x):=by rw[dh,E];rfl
  obtain⟨bb,oo,rfl⟩:=((kl.of sF).at Z).nn (by rw[cg];omega);rw[Q5 E]at hle;simp only[oQ,List.mem_reverse]at hle
  have hcn:∀n,0<=gP c n:=fun n=>by
   unfold gP;split
   ·simp only[ma];cases h:c[(n-1).toNat]?with
    |none=>simp
    |some y=>exact(hr y (fK h)).1
   omega
  refine wX 7 eA gA ?_;refine cC rfl uA rfl ?_;refine bg rfl rfl (aD.one ag (by
 have h:=(kl.of sF).at Z;exact jk.cell (j:=0) h kA rfl)) ?_
  refine z7 ?_;refine wC rfl jl rfl (jB (q:=q) (v:=⟨refs,c, .slice (some ⟨cb,0,none⟩) c.length cc,sw c, .slice (some ⟨lb,0,none⟩) c.length lc,ps, .slice (some ⟨pb,0,none⟩) c.length pc,nQ,0,false⟩) (n:=x.1) (by rw[rvx XT];exact Z.b [N q _ _,row 3 _ _ _ _,row 4 1 (.slice (some ⟨lb,0,none⟩) _ _) _ _,row 104 _ _ _ _]) hN.2) fun w Z=>?_
  rw[rvx XT]at Z;refine nh rfl rfl ?_;refine aK ?_;refine fJ rfl (fun h6=>?_) fun h6=>?_
  ·refine z6 ?_;exact ga rfl rfl rfl rfl (.inl (by
 have RS:gP c x.1=0:=by have:=hcn x.1;simp at h6;omega
 rw[aB RS]at hle;exact⟨15,by decide,(fun h=>by have J:=h.2.1;rw[hle]at J;cases J),rfl,(Z.b [row 4 1 (.slice (some ⟨zb,0,none⟩) _ _) _ _,N q _ _,row 3 _ _ _ _,row 4 1 (.slice (some ⟨lb,0,none⟩) _ _) _ _,row 104 _ _ _ _,gz _]).t6⟩))
  have RS:¬gP c x.1=0:=by have:=hcn x.1;simp at h6;omega
  rw[aj RS]at hle;have hth:je c x.1:=by
   refine vC fun h=>RS ?_
   unfold gP;rw[aj h]
  have Ha:1<=x.1/\x.1<=(c.length:Int):=hth;obtain⟨j,hj⟩:∃j:Nat,x.1=(j:Int)+1:=⟨(x.1-1).toNat,H⟩;have pU:j<c.length:=H;have hjz:(x.1-1).toNat=j:=H;have afD:=hla j pU;have hzk:aL (row 4 1 (.slice (some ⟨zb,0,none⟩) c.length cz) c.length (gW ld)::gz S::L) (oJ (.slice (some ⟨zb,0,none⟩) c.length cz) (gW ld)):=by
   have h:=Tu (v:= .slice (some ⟨zb,0,none⟩) c.length cz) (c:=ld) (R:=gz S::L);rw[rJ]at h;exact h
  (try unfold sQ at afD);rw[<-hj]at afD
  refine wY 7 dV gg ?_;refine bg rfl rfl (aD.one (v:= .bool (decide (x.1∈((mW l).take k).map (·.1)))) bS (((hzk.of sF).at Z).at (by rw[hjz];simp only[gW,dh,afD];rfl))) ?_;refine aK ?_;refine wI 0 (fun h7=>?_) fun h7=>?_
  ·refine z6 ?_;exact ga rfl rfl rfl rfl (.inl (by
 rw[aB (by simpa using h7)]at hle;exact⟨10,by decide,(fun h=>by have J:=h.2.1;rw[hle]at J;cases J),rfl,(Z.b [row 4 1 (.slice (some ⟨zb,0,none⟩) _ _) _ _,N q _ _,row 3 _ _ _ _,row 4 1 (.slice (some ⟨lb,0,none⟩) _ _) _ _,row 104 _ _ _ _,gz _]).t6⟩))
  have h7':x.1∉((mW l).take k).map (·.1):=by simpa using h7
  rw[aj h7']at hle;refine wX 5 eA gA ?_;refine cC rfl pG rfl ?_;refine bg rfl rfl (aD.many ay rfl (by have h:=(((kl.of sF).at Z).at kA).drop 1;rw[cZ];exact h)) ?_;refine wC rfl x9 rfl (zX (p:=x.2) Z (lG.of sF)) fun w Z=>?_
  refine wI 8 (fun h8=>?_) fun h8=>?_
  ·refine z7 ?_;exact ga rfl rfl rfl rfl (.inl (by
 rw[aB h8]at hle;exact⟨dv x.2.pg,h8,(fun h=>by have J:=h.2.1;rw[hle]at J;exact h8 J),rfl,(Z.b [row 4 1 (.slice (some ⟨zb,0,none⟩) _ _) _ _,N q _ _,row 3 _ _ _ _,row 4 1 (.slice (some ⟨lb,0,none⟩) _ _) _ _,row 104 _ _ _ _,gz _]).t6⟩))
  rw[aj h8]at hle;refine wY 6 dV gg ?_;refine sX (xs':=gW (ld.set j true)) (m:=c.length) (j:=j) rfl tV rfl rfl bS rfl Z pK pU (by rw[hjz];exact mT _) E1 rfl (fun w Z=>?_);refine aK ?_;refine wQ [0,1,2,3,4,5,6,7,8,9,10,11,12,13] Z fun Z=>?_
  refine wD 3 (v:= .slice (some ⟨pb,0,none⟩) c.length pc) eI Z ?_;refine wX 4 eA gA ?_;refine cC rfl pG rfl ?_;refine bg rfl rfl (aD.many ay rfl (by have h:=(((kl.of sF).at Z).at kA).drop 1;rw[cZ];exact h)) ?_;refine ed rfl tG rfl (uE (p:=x.2) Z (lG.of sF)) (fun w ae1 hv q' hq=>?_) fun w ae1 hv=>?_
  ·obtain⟨p',rfl,Mz,oR,Z⟩:=hv;have hq:=bK (l:=[3]) kR hq;simp only[cE,fQ,or_false]at hq;subst hq;exact bG rfl rfl rfl (aD.cw (v:= .slice (some ⟨pb,0,none⟩) c.length pc) eI Z pK rfl)
  obtain⟨p',rfl,Mz,oR,Z⟩:=hv;refine wX 0 gw iR ?_;refine aeO (cs:=p'.cells) (rs:=ps.map dL.cells) (rs':=(ps.set j p').map dL.cells) (m:=c.length) (j:=j) (z:=5) rfl tV rfl rfl ay rfl (jz (cL oR pK) Z) Z (NS ps) (by simp[XT]) pK pU (by rw[hjz];exact mT _) (by rw[QR]) kR (fun w Z=>?_);refine z6 ?_;have hpx:(mW l)[k]?=some (x.1,x.2.pg):=by unfold mW;rw[dh,E];rfl
  have Z:=aw.iD (Z.b [gz _,fg p']);have hz:=Z.b [row 4 1 (.slice (some ⟨zb,0,none⟩) _ _) _ _,N q _ _,row 3 _ _ _ _,row 4 1 (.slice (some ⟨lb,0,none⟩) _ _) _ _,row 104 _ _ _ _,bt _];have hee:S.map fg++[fg p']=(S++[p']).map fg:=by simp
  rw[hee]at hz;refine⟨l.length-(k+1),H,[(0,_),(1,_),(2,_),(8,_),(10,_),(12,I (k+1:Nat))],sB,k+1,ld.set j true,ps.set j p',S++[p'],H,rfl,rfl,⟨by simp[rJ],by simp[XT],fun i hi=>?_,fun i hi=>?_,?_⟩,hz⟩
  ·rw[O3,bV hpx]
   by_cases hij:j=i
   ·subst hij;rw[aB rfl,aB H];simp[hj]
   rw[aj hij,hla i hi];have h9:¬(i:Int)+1=x.1:=H;simp only[jX,ey,l9,eZ,Hw,h9,or_false]
  ·rw[O3,bV hpx,List.find?_append]
   by_cases hij:j=i
   ·subst hij;rw[aB rfl,aB H];have h9:((mW l).take k).find? (fun x=>x.1==(j:Int)+1)=none:=by
     rw[List.find?_eq_none];intro y hy hyj;simp at hyj;exact h7' (dY.2 ⟨y,hy,H⟩)
    have jR:[(x.1,x.2.pg)].find? (fun x=>x.1==(j:Int)+1)=some (x.1,x.2.pg):=by simp[hj]
    rw[h9,jR];exact⟨p',rfl,Mz,by simp,oR⟩
   rw[aj hij];have jR:[(x.1,x.2.pg)].find? (fun x=>x.1==(i:Int)+1)=none:=by
    have:¬x.1=(i:Int)+1:=H;simp[this]
   rw[jR,Option.or_none];obtain⟨pg,qH,xX⟩:=hpa i hi;refine⟨pg,qH,?_⟩;cases hf:((mW l).take k).find? (fun x=>x.1==(i:Int)+1)with
   |none=>rw[hf]at xX;exact xX
   |some y=>rw[hf]at xX;exact⟨xX.1,lT _ xX.2.1,xX.2.2⟩
  rw[bV hpx,jX,aci];exact hle
 have oY:k=l.length:=H;subst oY;have zy:(mW l).take l.length=mW l:=kH (by simp[mW]);rw[show(mW l).drop l.length=[] from vB (by simp[mW])]at hle;rw[zy]at hla hpa
 have hlz:oQ c [] (mW l)=0:=hle;refine z7 ?_;refine bx (fun m e w=>∃(k:Nat),k<=c.length/\m=c.length-k/\e=[(1, .slice ca0 c.length cc0),(8,pQ q),(10, .slice (some ⟨zb,0,none⟩) c.length cz),(15,I k)]/\(∀(i:Nat) (y:Int),i<k->c[i]?=some y->0<y->(i:Int)+1∈(mW l).map (·.1))/\aw G (row 4 1 (.slice (some ⟨zb,0,none⟩) c.length cz) c.length (gW ld)::N q [I refs, .slice (some ⟨cb,0,none⟩) c.length cc, .slice (some ⟨lb,0,none⟩) c.length lc, .slice (some ⟨pb,0,none⟩) c.length pc,nQ,I 0, .bool false] 129::row 3 1 (.slice (some ⟨cb,0,none⟩) c.length cc) c.length (bf c)::row 4 1 (.slice (some ⟨lb,0,none⟩) c.length lc) c.length (gW (sw c))::row 104 5 (.slice (some ⟨pb,0,none⟩) c.length pc) c.length (ps.map dL.cells).flatten::gz S::L) w)
  (m:=c.length) sB
  ⟨0,de _,rfl,rfl,(fun i y hi=>aS hi H),Z⟩ ?_
 rintro m e w ⟨k,hk,rfl,rfl,Mf,Z⟩;refine wI 8 (fun h9=>?_) fun h9=>?_
 ·have gn:k<c.length:=H;obtain⟨x,E⟩:∃x,c[k]?=some x:=⟨_,dG gn⟩;obtain⟨bb,oo,rfl⟩:=((kc.of sF).at Z).nn (by rw[bC];omega);have hzk:aL (row 4 1 (.slice (some ⟨zb,0,none⟩) c.length cz) c.length (gW ld)::N q [I refs, .slice (some ⟨cb,0,none⟩) c.length cc, .slice (some ⟨lb,0,none⟩) c.length lc, .slice (some ⟨pb,0,none⟩) c.length pc,nQ,I 0, .bool false] 129::row 3 1 (.slice (some ⟨cb,0,none⟩) c.length cc) c.length (bf c)::row 4 1 (.slice (some ⟨lb,0,none⟩) c.length lc) c.length (gW (sw c))::row 104 5 (.slice (some ⟨pb,0,none⟩) c.length pc) c.length (ps.map dL.cells).flatten::gz S::L) (oJ (.slice (some ⟨zb,0,none⟩) c.length cz) (gW ld)):=by
   have h:=Tu (v:= .slice (some ⟨zb,0,none⟩) c.length cz) (c:=ld) (R:=N q [I refs, .slice (some ⟨cb,0,none⟩) c.length cc, .slice (some ⟨lb,0,none⟩) c.length lc, .slice (some ⟨pb,0,none⟩) c.length pc,nQ,I 0, .bool false] 129::row 3 1 (.slice (some ⟨cb,0,none⟩) c.length cc) c.length (bf c)::row 4 1 (.slice (some ⟨lb,0,none⟩) c.length lc) c.length (gW (sw c))::row 104 5 (.slice (some ⟨pb,0,none⟩) c.length pc) c.length (ps.map dL.cells).flatten::gz S::L);rw[rJ]at h;exact h
  refine wY 7 aY bF ?_;refine bg rfl rfl (aD.one ag (((kc.of sF).at Z).at (by rw[cZ];exact kN E))) ?_;refine z2 ?_;refine bw (l1:=[6,7,8,9,10,11]) (l2:=[]) rfl (d:=132) (0<x/\¬((k:Int)+1∈(mW l).map (·.1))) rfl ?_ ?_
  ·refine ar (d:=126) rfl (fun jR=>?_) fun jR=>?_
   ·refine wY 2 dV gg ?_;refine bg rfl rfl (aD.one (v:= .bool (decide ((k:Int)+1∈(mW l).map (·.1)))) bS (((hzk.of sF).at Z).at (by rw[cZ];simp only[gW,dh,hla k gn];rfl))) ?_;refine cU rfl rfl ?_;refine z2 ?_;refine cQ ?_
    first|exact(cN (fun h=>jR h.1)).symm|exact bI.2 ⟨fun h=>⟨jR,h⟩,fun h=>h.2⟩|(rw[<-decide_not];exact bI.2 ⟨fun h=>⟨jR,h⟩,fun h=>h.2⟩)
   refine z7 ?_;refine cQ ?_
   first|exact(cN (fun h=>jR h.1)).symm|exact bI.2 ⟨fun h=>⟨jR,h⟩,fun h=>h.2⟩|(rw[<-decide_not];exact bI.2 ⟨fun h=>⟨jR,h⟩,fun h=>h.2⟩)
  refine aK ?_;refine wI 0 (fun qH=>?_) fun qH=>?_
  ·refine ui 6 ?_;exact .inl ⟨9,by decide,(fun h=>qH.2 (h.2.2 k x E qH.1)),rfl,(Z.b [row 4 1 (.slice (some ⟨zb,0,none⟩) _ _) _ _,N q _ _,row 3 _ _ _ _,row 4 1 (.slice (some ⟨lb,0,none⟩) _ _) _ _,row 104 _ _ _ _,gz _]).t6⟩
  refine z6 ?_;refine⟨c.length-(k+1),H,[(1,_),(8,_),(10,_),(15,I (k+1:Nat))],sB,k+1,H,rfl,rfl,fun i y hi hy hy0=>?_,Z⟩
  by_cases hik:i<k
  ·exact Mf i y hik hy hy0
  obtain rfl:i=k:=H;rw[E]at hy;cases hy;exact dg.1 (fun h=>qH ⟨hy0,h⟩)
 refine z8 ?_;exact ga rfl rfl rfl rfl (.inr (by
 have oY:k=c.length:=H;subst oY;refine⟨⟨wy,hlz,fun i y hy hy0=>Mf i y (by have:=(qj.1 hy).1;exact this) hy hy0⟩,q,⟨refs,c, .slice (some ⟨cb,0,none⟩) c.length cc,sw c, .slice (some ⟨lb,0,none⟩) c.length lc,ps, .slice (some ⟨pb,0,none⟩) c.length pc,nQ,0,false⟩,S,rfl,⟨rfl,rfl,rfl,rfl,rfl,XT,hpa⟩,rfl,?_⟩;rw[rvx XT];exact Z.tail))
def px{α:Type}[BEq α][LawfulBEq α]:∀{l m:List α},l.Nodup->(∀x∈l,x∈m)->l.length<=m.length
 |[],m,_,_=>de _
 |x::l,m,hn,hs=>by
  have E:x∈m:=hs x (kf ..);rw[Bx]at hn;have ih:=px (l:=l) (m:=m.erase x) hn.2 (fun y hy=>(ZO (fun h=>hn.1 (by rw[<-h];exact hy))).2 (hs y (kG _ hy)));rw[acp E]at ih
  have:0<m.length:=List.length_pos_of_mem E;simp only[kZ];omega
def BA:Nat->List Int->List Int
 |_,[]=>[]
 |s,x::c=>if 0<x then((s:Int)+1)::BA (s+1) c else BA (s+1) c
def D3(n:Int):∀(c:List Int) (s:Nat),n∈BA s c↔∃(i:Nat) (x:Int),c[i]?=some x/\0<x/\n=(s:Int)+i+1
 |[],s=>by simp[BA]
 |y::c,s=>by
  have ih:=D3 n c (s+1);have key:(∃(i:Nat) (x:Int),(y::c)[i]?=some x/\0<x/\n=(s:Int)+i+1)↔((0<y/\n=(s:Int)+1)\/∃(i:Nat) (x:Int),c[i]?=some x/\0<x/\n=((s+1:Nat):Int)+i+1):=by
   constructor
   ·rintro⟨i,x,Y,J,h3⟩;cases i with
    |zero=>simp at Y;subst Y;exact .inl ⟨J,by simpa using h3⟩
    |succ i=>exact .inr ⟨i,x,by simpa using Y,J,H⟩
   rintro(⟨Y,J⟩|⟨i,x,Y,J,h3⟩)
   ·exact⟨0,y,rfl,Y,by simpa using J⟩
   exact⟨i+1,x,by simpa using Y,J,H⟩
  rw[key,<-ih,BA];split
  ·rename_i h;simp[h]
  rename_i h;simp[h]
def Q2:∀(c:List Int) (s:Nat),(∀n∈BA s c,(s:Int)<n)/\(BA s c).Nodup
 |[],s=>by simp[BA]
 |y::c,s=>by
  obtain⟨Y,J⟩:=Q2 c (s+1);rw[BA];split
  ·refine⟨fun n hn=>?_,?_⟩
   ·rcases cE.1 hn with rfl|hn
    ·omega
    have:=Y n hn;omega
   rw[Bx];exact⟨fun h=>by have:=Y _ h;omega,J⟩
  exact⟨fun n hn=>by have:=Y n hn;omega,J⟩
def Q3:∀(c:List Int) (s:Nat),((BA s c).length:Int)=ly c 4
 |[],s=>by simp[BA,ly]
 |y::c,s=>by
  have ih:=Q3 c (s+1);rw[BA];unfold ly at ih ⊢;rw[FA];have e:decide (Fs y=4)=decide (0<y):=by unfold Fs;by_cases h:0<y<;>simp[h]
  rw[e]
  by_cases h:0<y
  ·rw[aB h,eW h,aB rfl];simp only[kZ];omega
  rw[aj h,cN h];simpa using ih
def Ld:0<gP c n↔∃(i:Nat) (x:Int),c[i]?=some x/\0<x/\n=(i:Int)+1:=by
 unfold gP je
 constructor
 ·intro h;split at h
  ·rename_i Y;have J:(n-1).toNat<c.length:=H;refine⟨(n-1).toNat,c[(n-1).toNat],dG J,?_,H⟩;rw[ma,dG J]at h;exact h
  omega
 rintro⟨i,x,Y,J,h3⟩;have hi:=(qj.1 Y).1;rw[aB H,show(n-1).toNat=i by omega,ma,Y];exact J
def uw{c:List Int}:∀{l:List (Int×Pg)} {seen:List Int},oQ c seen l=0->(l.map (·.1)).Nodup/\(∀x∈l,gP c x.1≠0/\x.1∉seen/\dv x.2=0)
 |[],seen,_=>by simp
 |x::l,seen,h=>by
  rw[oQ]at h;split at h
  ·cases h
  rename_i h0;split at h
  ·cases h
  rename_i Y;split at h
  ·rename_i J;exact aS h J
  rename_i J;obtain⟨h3,h4⟩:=uw h;refine⟨?_,fun y hy=>?_⟩
  ·rw[ey,Bx];refine⟨fun hm=>?_,h3⟩;obtain⟨y,hy,hyx⟩:=dY.1 hm;exact(h4 y hy).2.1 (by rw[hyx];exact kf ..)
  rcases cE.1 hy with rfl|hy
  ·exact⟨h0,Y,dg.1 J⟩
  have:=h4 y hy;exact⟨this.1,fun hs=>this.2.1 (kG _ hs),this.2.2⟩
def sK(h:qU refs c=0):∀x∈c,0<=x/\x<=refs:=by
 unfold qU at h;split at h
 ·cases h
 split at h
 ·cases h
 rename_i Y;exact dg.1 Y
def Zc:uj refs c l=0↔yj refs c l:=by
 unfold uj yj
 by_cases Y:qU refs c=0
 ·rw[aj (not_not_intro Y)]
  by_cases J:oQ c [] l=0
  ·rw[aj (not_not_intro J)];have YH:∀n,0<=gP c n:=fun n=>by
    unfold gP;split
    ·rw[ma];cases h:c[(n-1).toNat]?with
     |none=>simp
     |some y=>exact(sK Y y (fK h)).1
    omega
   obtain⟨h3,h4⟩:=uw J;have aaL:∀n∈l.map (·.1),n∈BA 0 c:=fun n hn=>by
    obtain⟨x,E,rfl⟩:=dY.1 hn;have h5:0<gP c x.1:=by have:=YH x.1;have:=(h4 x E).1;omega
    obtain⟨i,y,h6,h7,h8⟩:=Ld.1 h5;exact(D3 _ _ _).2 ⟨i,y,h6,h7,H⟩
   have wy:=Q3 c 0;have SX:=(Q2 c 0).2;have hlm:(l.map (·.1)).length=l.length:=cg ..
   constructor
   ·intro h;refine⟨Y,J,fun i x E Qi=>vC fun hn=>?_⟩;have hm:(i:Int)+1∈BA 0 c:=(D3 _ _ _).2 ⟨i,x,E,Qi,H⟩;have h5:=px h3 (m:=(BA 0 c).erase ((i:Int)+1)) (fun n hn'=>(ZO (fun he=>hn (by rw[<-he];exact hn'))).2 (aaL n hn'));rw[acp hm]at h5;have:0<(BA 0 c).length:=List.length_pos_of_mem hm;rw[aB H]at h
    cases h
   rintro⟨-,-,h⟩;have h5:=px SX (m:=l.map (·.1)) (fun n hn=>by
     obtain⟨i,x,h6,h7,h8⟩:=(D3 _ _ _).1 hn;rw[h8,show((0:Nat):Int)+(i:Int)+1=(i:Int)+1 by omega];exact h i x h6 h7)
   rw[aj H]
  rw[aB J];exact⟨fun h=>aS h J,fun h=>aS h.2.1 J⟩
 rw[aB Y];exact⟨fun h=>aS h Y,fun h=>aS h.1 Y⟩
def FK(refs:Int)(c:List Int):Po:=⟨refs,c,sw c,[],0⟩
def kK(refs:Int)(c:List Int)(l:List (Int×Pg)):Va:=⟨FK refs c,fun n=>(l.find? fun x=>x.1==n).map (·.2),[],0⟩
def NH{k:Int}(Y:k≠1)(h4:k≠4):ly c k=0:=by
 unfold ly;rw[aco.2 (fun x _=>by
  simp only[decide_eq_true_eq];unfold Fs;split<;>omega)]
 rfl
def acw{rs:List (Int×Int)}:Z0 refs c cv lv fq=plT (FK refs c) ⟨cv,lv,fq,fv,nQ,rs,[]⟩ (tlP c (sw c)):=by
 have e:∀k,Yn k c (sw c)=ly c k:=fun k=>Sh k c
 simp only[plT,FK,tlP,Z0,e];have J:=NH (c:=c) (k:=2) dM dM;have h3:=NH (c:=c) (k:=3) dM dM;simp[J,h3,sw]
def Zn(h:∀x∈c,0<=x):WQ c (sw c) n=1↔je c n/\c.getD (n-1).toNat 0=0:=by
 unfold WQ
 by_cases ht:je c n
 ·rw[aB ht];have hi:(n-1).toNat<c.length:=by unfold je at ht;omega
  have E:=h c[(n-1).toNat] (QU hi);obtain⟨y,hy⟩:∃y,y=c[(n-1).toNat]:=⟨_,rfl⟩;simp only[ma,sw,dh,dG hi,TD,Js,ht,true_and,<-hy]
  (try unfold sQ at E);rw[<-hy]at E
  by_cases h0:0<y
  ·rw[aB h0,eW h0,aB rfl];omega
  rw[aj h0,cN h0,aj dM];omega
 rw[aj ht];simp[ht]
def Pd(hc:∀x∈c,0<=x)(Z:aw G (Cd q (Z0 refs c cv lv fq) (QK fq fv (jh c) L)) w):aw G (GY q (FK refs c)::L) w:=by
 obtain⟨Y,J⟩:=UF c.length c rfl;refine s4 (m:=⟨cv,lv,fq,fv,nQ,jh c,[]⟩) ⟨rfl,Y,fun n=>?_⟩ ?_
 ·rw[J];exact(Zn hc).symm
 rw[acw (fv:=fv) (rs:=jh c)]at Z;have hz:=bB Z 374 1;have hz:=aw.bJ (M:=[]) hz;have hz:=hz.b [N q _ _,row 3 _ _ _ _,row 4 _ _ _ _,N fq _ _,row 379 _ _ _ _,row 374 _ _ _ _,bt _];exact hz
def acC:(TU on n).map dL.pg=((mW on).find? fun x=>x.1==n).map (·.2):=by
 unfold TU mW
 induction on with
 |nil=>rfl
 |cons x on ih=>
  simp only[ey,List.find?_cons]
  by_cases h:x.1==n
  ·simp[h]
  simp only[h];exact ih
def Xt{pq om:Nat}(hc:∀x∈c,0<=x)(rY:∀x∈on,x.2.Sm)(Z:aw G (vtP vq pq om (nQ) 0 (Z0 refs c cv lv fq) on (on.map (·.2)) (QK fq fv (jh c) L)) w):aw G (gX vq (kK refs c (mW on))::L) w:=by
 have Y:=Pd hc (Z.b [N pq _ _,row 3 _ _ _ _,row 4 _ _ _ _,N fq _ _,row 379 _ _ _ _]);refine sY (m:=⟨pq,om,nQ,on,on.map (·.2),[]⟩) ⟨fun n=>acC,fun n p h=>dY.2 ⟨_,Vu h,rfl⟩,fun p hp=>?_,rfl,(fun a ha=>by cases ha)⟩ ?_
 ·obtain⟨x,E,rfl⟩:=dY.1 hp;exact rY x E
 have hz:=bB Y 284 2;have hz:=aw.bJ (M:=[]) hz;have hz:=hz.b [N vq _ _,dm _ _,gz _,row 284 _ _ _ _,bt [],GY _ _];exact hz
def N3(h:yj refs c l):(kK refs c l).Ok:=by
 obtain⟨Y,J,h3⟩:=h;obtain⟨h4,h5⟩:=uw J;have wy:1<=(c.length:Int)/\(c.length:Int)<=65536/\2<=refs/\refs<65536:=by
  refine vC fun hn=>?_
  unfold qU at Y;rw[aB hn]at Y;cases Y
 have hb:(kK refs c l).agl:=by
  refine⟨⟨?_,zh,⟨wy.2.2.1,wy.2.2.2⟩,(fun a ha=>by cases ha),fun k hk x E=>?_⟩,by simp[kK,FK],by simp[kK],fun n p hp=>?_,fun n hn=>?_,(fun a ha=>by cases ha),(fun a ha=>by cases ha)⟩
  ·have:=wy.2.1;simp only[kK,FK];omega
  ·have h6:Vd c ([].drop k)=c:=by rw[List.drop_nil];rfl
   have J8:x∈Vd c ([].drop k):=E;rw[h6]at J8;exact sK Y x J8
  ·have hp':(l.find? fun x=>x.1==n).map (·.2)=some p:=hp;obtain⟨y,hy,rfl⟩:=Option.map_eq_some_iff.1 hp';exact(h5 y (acq hy)).2.2
  have hn':gP c n≠0:=hn;have afA:0<gP c n:=by
   unfold gP at hn' ⊢;split
   ·rename_i ht;rw[aB ht]at hn';have hi:(n-1).toNat<c.length:=by unfold je at ht;omega
    rw[ma,dG hi]at hn' ⊢;have:=(sK Y _ (QU hi)).1;simp only[TD]at hn' ⊢
    omega
   rename_i ht;rw[aj ht]at hn';omega
  obtain⟨i,x,h6,h7,h8⟩:=Ld.1 afA;have h9:=h3 i x h6 h7
  (try unfold sQ at h9);rw[<-h8]at h9
  obtain⟨y,hy,hyn⟩:=dY.1 h9;intro he;have X1:(l.find? fun x=>x.1==n).map (·.2)=none:=he;rw[Option.map_eq_none_iff,List.find?_eq_none]at X1;exact X1 y hy (by simp[hyn])
 exact⟨hb,fun k hk=>by
  have:k=0:=by simp only[kK,DY]at hk;omega
  subst this;exact hb⟩
def cR(rd:Int->Option Pg)(met:List Int)(n:Int):Option Pg:=if n∈met then none else rd n
def gR(rd:Int->Option Pg):Nat->Int->Int->List Int->Int×List Int
 |0,_,_,met=>(0,met)
 |f+1,left,n,met=>if left<=0 then(0,met)else match cR rd met n with
  |none=>(15,met)
  |some p=>if¬p.kind=3 then(15,n::met)else if¬((p.data.length:Int)=min 480 left/\(p.next=0↔left-min 480 left=0))then(5,n::met)else gR rd f (left-min 480 left) p.next (n::met)
def Hj{rd:Int->Option Pg}{f:Nat}{left:Int}(h:left<=0):gR rd f left n met=(0,met):=by
 cases f with
 |zero=>rfl
 |succ f=>rw[gR,aB h]
def gV(rd:Int->Option Pg)(x:It)(r:Rg)(s:List Int×Int):Int×List Int×Int:=
 if¬pD r x.key then(11,s)else if x.size<=32 then(0,s.1,s.2+1)else((gR rd x.size.toNat x.size x.child s.1).1,(gR rd x.size.toNat x.size x.child s.1).2,s.2+1)
def pT(p:Pg)(i:Nat):Rg:=⟨Rv p.items i,if i+1<p.items.length then Rv p.items (i+1)else [],decide (¬i+1<p.items.length)⟩
def kC{α:Type}(g:Nat->α->List Int×Int->Int×List Int×Int):Nat->List α->List Int×Int->Int×List Int×Int
 |_,[],s=>(0,s)
 |i,x::l,s=>if(g i x s).1≠0 then g i x s else kC g (i+1) l (g i x s).2
def lZ(k:Nat)(p:Pg):Prop:=if k=0 then¬p.kind=1 else¬(p.kind=2/\p.level=k)
instance(k:Nat)(p:Pg):Decidable (lZ k p):=by unfold lZ;infer_instance
def eX(rd:Int->Option Pg):Nat->Int->Int->Rg->List Int×Int->Int×List Int×Int
 |k,n,least,r,s=>match cR rd s.1 n with
  |none=>(15,s)
  |some p=>if lZ k p then(15,n::s.1,s.2)else if(p.items.length:Int)<least then(5,n::s.1,s.2)else
   match k with
   |0=>kC (fun _ x s=>gV rd x r s) 0 p.items (n::s.1,s.2)
   |k+1=>kC (fun i x s=>eX rd k x.child 4 (eR r (pT p i)) s) 0 p.items (n::s.1,s.2)
structure tM(rd:Int->Option Pg)(v:AL)(S:List dL):Prop where
 one:1<=v.c.length
 len:v.c.length<=65536
 ah1:v.l.length=v.c.length
 O6:v.p.length=v.c.length
 no:∀n,¬0<gP v.c n->rd n=none
 yes:∀n,0<gP v.c n->∃pg,v.p[(n-1).toNat]?=some pg/\pg∈S/\pg.Sm/\rd n=some pg.pg/\dv pg.pg=0
def tM.th{rd:Int->Option Pg}(h:tM rd v S)(hn:rd n≠none):0<gP v.c n:=vC fun hc=>hn (h.no n hc)
def qJ(h:0<gP c n):1<=n/\n<=(c.length:Int):=by
 unfold gP at h;split at h
 ·assumption
 omega
def AP(v:AL)(ml:List Bool)(met:List Int):Prop:=ml.length=v.c.length+1/\∀n,0<gP v.c n->ml.getD n.toNat false=decide (n∈met)
def AP.set(h:AP v ml met)(hn:0<gP v.c n):AP v (ml.set n.toNat true) (n::met):=by
 refine⟨by rw[Hu];exact h.1,fun j hj=>?_⟩;have Y:=qJ hn;have J:=qJ hj;have h3:=h.1;rw[ma,O3]
 by_cases hjn:n=j
 ·subst hjn;rw[aB rfl,aB H];simp
 rw[aj H,<-ma,h.2 j hj];have:¬j=n:=fun h=>hjn h.symm
 simp[this]
def aft(h:p.items[k]?=some x):Rv p.items k=x.key:=by unfold Rv;rw[h];rfl
def tM.enter{rd:Int->Option Pg}(h:tM rd v S)(he:cR rd met n=some p):∃pg,v.p[(n-1).toNat]?=some pg/\pg∈S/\pg.Sm/\p=pg.pg/\(1<=n/\n<=(v.p.length:Int))/\dv p=0:=by
 unfold cR at he;split at he
 ·cases he
 have hc:=h.th (n:=n) (by rw[he];simp);obtain⟨pg,Y,J,h3,h4,h5⟩:=h.yes n hc;rw[he]at h4;cases h4;exact⟨pg,Y,J,h3,rfl,by rw[h.O6];exact qJ hc,h5⟩
def tM.pv{rd:Int->Option Pg}(h:tM rd v S)(Z:aw G (nj q v L) w):∃pb pc,v.pv=sQ pb v.p.length pc:=by
 have Y:=h.one;have J:=h.O6;have hz:=Z.pick (A:=row 104 5 v.pv v.p.length _) (.there (.there (.there .here)));obtain⟨pa,pc,h3⟩:=aT hz;rw[h3]at hz;obtain⟨-,pb,-,h4,-⟩:=fZ hz H;exact⟨pb,pc,by rw[h3,h4]⟩
def Hh{rd:Int->Option Pg}(hI:tM rd v S)(Z:aw G (N cq [pQ q,sQ mb nm mc,I keys] 221::row 4 1 (sQ mb nm mc) nm (gW ml)::nj q v L) w)(hm:AP v ml met)(G8:nm=v.c.length+1):
  aA prog 185 #[pQ cq,I n] w (bU fun r w'=>∃IH,r= .bool (decide (cR rd met n≠none))/\AP v IH (if(cR rd met n).isSome then n::met else met)∧
   (∀p,cR rd met n=some p->0<gP v.c n/\n∉met)∧
   aw G (N cq [pQ q,sQ mb nm mc,I keys] 221::row 4 1 (sQ mb nm mc) nm (gW IH)::nj q v L) w'):=by
 refine nH (zT (n:=n) Z hI.len (by rw[hm.1,G8]) G8) fun r w' hr=>?_
 rcases hr with⟨Y,J,h3⟩|⟨Y,J,h3⟩
 ·have e:cR rd met n=none:=by
   unfold cR
   by_cases hc:0<gP v.c n
   ·have h4:=Y.resolve_left (fun h=>h hc);rw[hm.2 n hc]at h4;rw[aB (by simpa using h4)]
   rw[hI.no n hc];simp
  refine⟨ml,by rw[e,J];simp,by rw[e];exact hm,(fun p hp=>by rw[e]at hp;cases hp),h3⟩
 have hc:0<gP v.c n:=vC fun h=>Y (.inl h)
 have h4:¬ml.getD n.toNat false=true:=fun h=>Y (.inr h)
 rw[hm.2 n hc]at h4;have h5:n∉met:=by simpa using h4
 obtain⟨pg,-,-,-,h6,-⟩:=hI.yes n hc;have e:cR rd met n=some pg.pg:=by unfold cR;rw[aj h5,h6]
 exact⟨ml.set n.toNat true,by rw[e,J];simp,by rw[e];exact hm.set hc,fun p hp=>⟨hc,h5⟩,h3⟩
def BR{rd:Int->Option Pg}{x:cP}(hI:tM rd v S)(Z:aw G (N cq [pQ q, .slice (some ⟨mb,0,none⟩) nm mc,I keys] 221::row 4 1 (.slice (some ⟨mb,0,none⟩) nm mc) nm (gW ml)::nj q v (gz S::L)) w)(hm:AP v ml met)(G8:nm=v.c.length+1)(hk:0<=keys/\keys<=1000000000)(E:x.Ok (gz S::L))(Md:x.it.size<=1000000000)(hr:r.Ok (gz S::L)):
  aA prog 186 #[pQ cq,gQ x.cells,gQ r.cells] w (bU fun u w'=>∃IH,u=I (gV rd x.it r.rg (met,keys)).1/\AP v IH (gV rd x.it r.rg (met,keys)).2.1∧
   aw G (N cq [pQ q, .slice (some ⟨mb,0,none⟩) nm mc,I (gV rd x.it r.rg (met,keys)).2.2] 221::row 4 1 (.slice (some ⟨mb,0,none⟩) nm mc) nm (gW IH)::nj q v (gz S::L)) w'):=by
 obtain⟨pb,pc,My⟩:=hI.pv (Z.b [N q _ _,row 3 _ _ _ _,row 4 1 v.lv _ _,row 104 _ _ _ _]);have hN:=hI.len;have hP:=hI.O6;have jr:∀R,aL (row 104 5 v.pv v.p.length (v.p.map dL.cells).flatten::R) (jk 5 (.slice (some ⟨pb,0,none⟩) v.p.length pc) (v.p.map dL.cells)):=fun R=>by
  rw[My];exact(jk.row sM (NS v.p)).head R
 refine wF [_,_,_] func186 ntmps186 ?_;refine wB 2 Z fun w b4 Z=>?_;refine wB 0 Z fun w b5 Z=>?_;refine wA 5 (l:=r.cells) aQ Z ?_;refine wD 1 (v:=x.kv) ao Z ?_;refine wC rfl Nk rfl (PU (r:=r) (k:=x.it.key) Z (hr.of sF) (E.k.of sF) E.sk) fun w Z=>?_
 refine cU rfl rfl ?_;refine aK ?_;refine wI 0 (fun Y=>?_) fun Y=>?_
 ·refine z5 ?_;exact dt rfl rfl rfl (by
 have e:gV rd x.it r.rg (met,keys)=(11,met,keys):=by unfold gV;rw[aB (by simpa using Y)]
 rw[e];exact⟨ml,rfl,hm,(Z.b [N b5 _ _,N b4 _ _]).t2⟩)
 have aaW:pD r.rg x.it.key:=by simpa using Y
 refine wD 6 (v:=I keys) ag Z ?_;refine wS 3 (l':=[pQ q, .slice (some ⟨mb,0,none⟩) nm mc,I (keys+1)]) ag Z fun w Z=>?_;refine wD 5 (v:=I x.it.size) ag Z ?_;refine wI 2 (fun J=>?_) fun J=>?_
 ·refine z5 ?_;exact dt rfl rfl rfl (by
 have e:gV rd x.it r.rg (met,keys)=(0,met,keys+1):=by unfold gV;rw[aj (not_not_intro aaW),aB J]
 rw[e];exact⟨ml,rfl,hm,(Z.b [N b5 _ _,N b4 _ _,N cq _ _,row 4 1 (.slice (some ⟨mb,0,none⟩) nm mc) _ _]).t2⟩)
 have e:gV rd x.it r.rg (met,keys)=((gR rd x.it.size.toNat x.it.size x.it.child met).1,(gR rd x.it.size.toNat x.it.size x.it.child met).2,keys+1):=by unfold gV;rw[aj (not_not_intro aaW),aj J]
 rw[e];refine wD 4 (v:=I x.it.size) ag Z ?_;refine wD 5 (v:=I x.it.child) ag Z ?_;refine z4 ?_;have hz:=(Z.b [N b5 _ _,N b4 _ _,N cq _ _,row 4 1 (.slice (some ⟨mb,0,none⟩) nm mc) _ _,N q _ _,row 3 _ _ _ _,row 4 1 v.lv _ _,row 104 _ _ _ _]).t2;clear Z;have Z:=hz;clear hz;refine bx (fun m e w=>∃(f:Nat) (left n:Int) (gH:List Int) (IH:List Bool),m=f+1/\e=[(0,pQ cq),(7,I left),(8,I n)]/\(left<=f/\left<=1000000000/\0<=left/\AP v IH gH/\gR rd x.it.size.toNat x.it.size x.it.child met=gR rd f left n gH)/\aw G (N cq [pQ q, .slice (some ⟨mb,0,none⟩) nm mc,I (keys+1)] 221::row 4 1 (.slice (some ⟨mb,0,none⟩) nm mc) nm (gW IH)::nj q v (gz S::L)) w)
  (m:=x.it.size.toNat+1) sB
  ⟨x.it.size.toNat,x.it.size,x.it.child,met,ml,rfl,rfl,⟨H,Md,H,hm,rfl⟩,Z⟩ ?_
 rintro m e w ⟨f,left,n,gH,IH,rfl,rfl,⟨hlf,hl9,hl0,G9,zA⟩,Z⟩;refine wI 6 (fun h3=>?_) fun h3=>?_
 ·obtain⟨f,rfl⟩:∃g,f=g+1:=⟨f-1,H⟩;rw[gR,aj H]at zA;refine z7 ?_;refine aO rfl p8 rfl (Hh (n:=n) (met:=gH) hI Z G9 G8) rfl fun w Zf hv=>?_;obtain⟨ml2,rfl,ym,aiN,Z⟩:=hv;refine cU rfl rfl ?_;refine z1 ?_;refine bw (l1:=[5,6,7,8,9,10,11,12,13,14,15,16,17,18]) (l2:=[]) rfl (d:=50) (¬(cR rd gH n).map Pg.kind=some 3) rfl ?_ ?_
  ·refine ar (d:=36) rfl (fun h4=>?_) fun h4=>?_
   ·refine z15 ?_;refine cQ ?_
    first|exact(eW (by have h5:cR rd gH n=none:=dg.1 h4;rw[h5];simp)).symm|(rw[hp];refine bI.2 ?_;show¬pg.kind=3↔¬some pg.kind=some 3;simp)
   obtain⟨p,hp⟩:∃p,cR rd gH n=some p:=ZT.1 (dg.1 h4);obtain⟨pg,uR,RK,Pt,rfl,Ha,lr⟩:=hI.enter hp;have hpr:(v.p.map dL.cells)[(n-1).toNat]?=some pg.cells:=by rw[dh,uR];rfl
   refine z1 ?_;refine vr rfl rfl ?_;refine wD 1 (v:=pQ q) hJ Z ?_;refine vr rfl rfl ?_;refine z1 ?_;refine bg rfl rfl (aD.cw (v:= .slice (some ⟨pb,0,none⟩) v.p.length pc) eI Z pK (by first|exact aU some My|(rw[<-My];rfl))) ?_;refine z1 ?_;refine uO rfl rfl rfl H ?_;refine wX 0 gw iR ?_;refine cC rfl u5 rfl ?_;refine bg rfl rfl (aD.one (v:=I pg.kind) ag (by have h:=((((jr _).of sF).at Z).at hpr) 0 _ rfl;rwa [eK]at h)) ?_;refine z3 ?_;refine cQ ?_
   first|exact(eW (by have h5:cR rd gH n=none:=dg.1 h4;rw[h5];simp)).symm|(rw[hp];refine bI.2 ?_;show¬pg.kind=3↔¬some pg.kind=some 3;simp)
  refine aK ?_;refine wI 0 (fun h5=>?_) fun h5=>?_
  ·refine z5 ?_;exact dt rfl rfl rfl (by
 have e2:gR rd x.it.size.toNat x.it.size x.it.child met=(15,if(cR rd gH n).isSome then n::gH else gH):=by
  rw[zA];cases he:cR rd gH n with
  |none=>rfl
  |some p=>
   rw[he]at h5;simp only;rw[aB (by simpa using h5)];rfl
 rw[e2];exact⟨ml2,rfl,ym,Z⟩)
  obtain⟨p,hp⟩:∃p,cR rd gH n=some p:=by
   cases he:cR rd gH n with
   |none=>rw[he]at h5;simp at h5
   |some p=>exact⟨p,rfl⟩
  rw[hp]at h5 ym zA;obtain⟨pg,uR,RK,Pt,rfl,Ha,lr⟩:=hI.enter hp;have hpr:(v.p.map dL.cells)[(n-1).toNat]?=some pg.cells:=by rw[dh,uR];rfl
  have SY:pg.pg.kind=3:=by simpa using h5
  simp only at zA;rw[aj (not_not_intro SY)]at zA
  refine wD 6 (v:=pQ q) hJ Z ?_;refine z2 ?_;refine bg rfl rfl (aD.cw (v:= .slice (some ⟨pb,0,none⟩) v.p.length pc) eI Z pK (by first|exact aU some My|(rw[<-My];rfl))) ?_;refine wX 2 gw iR ?_;refine bg rfl rfl (aD.many (cs:=pg.cells) ay rfl ((((jr _).of sF).at Z).at hpr)) ?_;refine wL 0 bW Z fun w b9 Z=>?_;refine ue (cs:=pg.cells) (l':=pg.cells) rfl tV rfl rfl ay rfl (jz (lB RK Pt pK) Z) Z pK (by simp[dL.cells]) rfl rfl fun w Z=>?_;obtain⟨da,dc,hd⟩:=((lB RK Pt pK).data.at Z).form;refine z4 ?_;refine yZ rfl rfl rfl ?_;refine z13 ?_;refine bg rfl rfl (aD.cw (v:= .slice da pg.data.length dc) ao Z pK (by first|exact aU some hd|(rw[<-hd];rfl))) ?_;refine z4 ?_;refine bw (l1:=[6,7,8,9,10,11,12]) (l2:=[]) rfl (d:=79) (¬((pg.data.length:Int)=min 480 left/\(pg.next=0↔left-min 480 left=0))) rfl ?_ ?_
  ·refine ar (d:=72) rfl (fun h6=>?_) fun h6=>?_
   ·refine z8 ?_;refine cQ ?_
    first|(symm;rw[decide_eq_true_eq];exact fun h=>h6 h.1)|exact bI.2 ⟨fun h J=>h (bI.2 J.2),fun h J=>h ⟨dg.1 h6,bI.1 J⟩⟩
   refine wD 1 (v:=I pg.next) ag Z ?_;refine z3 ?_;refine QC rfl kR LW rfl rfl ?_;refine z2 ?_;refine cQ ?_
   first|(symm;rw[decide_eq_true_eq];exact fun h=>h6 h.1)|exact bI.2 ⟨fun h J=>h (bI.2 J.2),fun h J=>h ⟨dg.1 h6,bI.1 J⟩⟩
  refine aK ?_;refine wI 0 (fun h7=>?_) fun h7=>?_
  ·refine z5 ?_;exact dt rfl rfl rfl (by
 rw[aB (show¬((pg.pg.data.length:Int)=min 480 left/\(pg.pg.next=0↔left-min 480 left=0)) from h7)]at zA;rw[zA];exact⟨ml2,rfl,ym,(Z.b [N b9 _ _]).tail⟩)
  rw[aj (show¬¬((pg.pg.data.length:Int)=min 480 left/\(pg.pg.next=0↔left-min 480 left=0)) from h7)]at zA;refine wD 3 (v:=I pg.next) ag Z ?_;refine z2 ?_;exact⟨f+1,H,[(0,_),(7,_),(8,_)],sB,f,left-min 480 left,pg.next,n::gH,ml2,rfl,rfl,⟨H,H,H,ym,zA⟩,(Z.b [N b9 _ _]).tail⟩
 refine z6 ?_;exact dt rfl rfl rfl (by
 rw[zA,Hj H];exact⟨IH,rfl,G9,Z⟩)
def FE(h:p.items[i]?=some x)(hl:¬i+1<p.items.length):pT p i=⟨x.key,[],true⟩:=by
 unfold pT;rw[aft h,aj hl,eW hl]
def FD{y:It}(h:p.items[i]?=some x)(J:p.items[i+1]?=some y):pT p i=⟨x.key,y.key,false⟩:=by
 have hl:i+1<p.items.length:=(qj.1 J).1;unfold pT;rw[aft h,aB hl,aft J,cN (not_not_intro hl)]
def HW{p:dL}(Z:aw G L w)(hp:p.Ok L)(hr:r.Ok L)(hi:i<p.l.length)(hl:p.l.length<=1000000000):aA prog 187 #[gQ p.cells,I i,gQ r.cells] w (bU fun u w'=>∃r':rS,u=gQ r'.cells/\r'.rg=eR r.rg (pT p.pg i)/\dP r'.rg.lo/\dP r'.rg.hi/\lK r'.cells/\aw G (lP r'++L) w'):=by
 obtain⟨ia,ic,hs,-,-⟩:=(hp.its.sl.at Z).form;rw[cg]at hs;have jr:aL L (jk 4 (.slice ia p.l.length ic) (p.l.map cP.cells)):=by rw[<-hs];exact hp.its.sl
 obtain⟨ib,io,rfl⟩:=(jr.at Z).nn (by rw[cg];omega);obtain⟨x,E⟩:∃x,p.l[i]?=some x:=⟨_,dG hi⟩;have kA:(p.l.map cP.cells)[i]?=some x.cells:=by rw[dh,E];rfl
 have G5:p.pg.items[i]?=some x.it:=by show(p.l.map cP.it)[_]?=_;rw[dh,E];rfl
 have lG:=hp.its.it x (fK E);have wy:p.pg.items.length=p.l.length:=by simp[dL.pg]
 obtain⟨ka,kc,XW⟩:=(lG.k.at Z).form;refine wF [_,_,_] func187 ntmps187 ?_;refine wB 2 Z fun w b3 Z=>?_;refine wB 0 Z fun w b5 Z=>?_;refine wL 0 iP Z fun w b6 Z=>?_;refine z4 ?_;refine bg rfl rfl (aD.cw (v:= .slice (some ⟨ib,io,none⟩) p.l.length ic) aH Z pK (by first|exact aU some hs|(rw[<-hs];rfl))) ?_;refine wX 1 aV bz ?_;refine cC rfl gu rfl ?_;refine bg rfl rfl (aD.one (v:= .slice ka x.it.key.length kc) ao (by rw[<-XW];exact((jr.of sF).at Z).cell (j:=0) kA rfl)) ?_;refine wV 0 (v:= .agg #[.slice ka x.it.key.length kc,nQ, .bool true]) ?_;refine wL 0 iP Z fun w b7 Z=>?_;refine wN 0 (cs:=[.slice ka x.it.key.length kc,nQ, .bool true]) (l':=[.slice ka x.it.key.length kc,nQ, .bool true]) aQ (by intro u hu;simp at hu;rcases hu with rfl|rfl|rfl<;>rfl) Z (fun w Z=>?_);refine z7 ?_;refine bg rfl rfl (aD.cw (v:= .slice (some ⟨ib,io,none⟩) p.l.length ic) aH Z pK (by first|exact aU some hs|(rw[<-hs];rfl))) ?_;refine wI 3 (fun Y=>?_) fun Y=>?_
 ·obtain⟨y,hy⟩:∃y,p.l[i+1]?=some y:=⟨_,dG H⟩;have XM:(p.l.map cP.cells)[i+1]?=some y.cells:=by rw[dh,hy];rfl
  have hyi:p.pg.items[i+1]?=some y.it:=by show(p.l.map cP.it)[_]?=_;rw[dh,hy];rfl
  have Ue:=hp.its.it y (fK hy);obtain⟨la,lc,IL⟩:=(Ue.k.at Z.tail.tail.tail.tail).form;refine wS 3 (l':=[.slice ka x.it.key.length kc,nQ, .bool false]) bS Z fun w Z=>?_;refine z3 ?_;refine bg rfl rfl (aD.cw (v:= .slice (some ⟨ib,io,none⟩) p.l.length ic) aH Z pK (by first|exact aU some hs|(rw[<-hs];rfl))) ?_;refine wX 2 aV bz ?_;refine cC rfl gu rfl ?_;refine bg rfl rfl (aD.one (v:= .slice la y.it.key.length lc) ao (by rw[<-IL];exact((jr.of sF).at Z).cell (j:=0) XM rfl)) ?_;refine wS 1 (l':=[.slice ka x.it.key.length kc, .slice la y.it.key.length lc, .bool false]) ao Z fun w Z=>?_;refine wA 3 (l:=r.cells) aQ Z ?_;refine wA 0 (l:=[.slice ka x.it.key.length kc, .slice la y.it.key.length lc, .bool false]) aQ Z ?_;refine aO rfl Av rfl (Cr (a:=r) (b:=⟨⟨x.it.key,y.it.key,false⟩, .slice ka x.it.key.length kc, .slice la y.it.key.length lc⟩) Z (hr.of sF) ⟨by rw[<-XW];exact lG.k.of sF,by rw[<-IL];exact Ue.k.of sF,lG.sk,Ue.sk⟩) rfl (fun w v32 hv=>?_);obtain⟨r',rfl,CX,Uo,Z⟩:=hv;have rY:=xf hr.sl hr.sh (b:=⟨x.it.key,y.it.key,false⟩) lG.sk Ue.sk;refine wN 0 (cs:=r'.cells) (l':=r'.cells) aQ Uo Z fun w Z=>?_;refine z2 ?_;refine dt rfl rfl ⟨_,rfl,(aD.dB (l:=r'.cells) aQ Z pK rfl)⟩ ⟨r',rfl,by rw[FD G5 hyi];exact CX,by rw[CX];exact rY.1,by rw[CX];exact rY.2,Uo,?_⟩;have hz:=(Z.b [N b6 _ _,row 5 1 r'.lv _ _,row 5 1 r'.hv _ _,N b7 _ _,N b5 _ _,N b3 _ _]);exact(hz.b [N b6 _ _,N b7 _ _,N b5 _ _,N b3 _ _]).t4
 refine wA 3 (l:=r.cells) aQ Z ?_;refine wA 0 (l:=[.slice ka x.it.key.length kc,nQ, .bool true]) aQ Z ?_;refine aO rfl Av rfl (Cr (a:=r) (b:=⟨⟨x.it.key,[],true⟩, .slice ka x.it.key.length kc,nQ⟩) Z (hr.of sF) ⟨by rw[<-XW];exact lG.k.of sF,Pa,lG.sk,jV⟩) rfl (fun w v32 hv=>?_);obtain⟨r',rfl,CX,Uo,Z⟩:=hv;have rY:=xf hr.sl hr.sh (b:=⟨x.it.key,[],true⟩) lG.sk jV;refine wN 0 (cs:=r'.cells) (l':=r'.cells) aQ Uo Z fun w Z=>?_;refine z2 ?_;refine dt rfl rfl ⟨_,rfl,(aD.dB (l:=r'.cells) aQ Z pK rfl)⟩ ⟨r',rfl,by rw[FE G5 H];exact CX,by rw[CX];exact rY.1,by rw[CX];exact rY.2,Uo,?_⟩;exact(Z.b [N b6 _ _,N b7 _ _,N b5 _ _,N b3 _ _]).t4
structure Ks(rd:Int->Option Pg)(d:Nat)(s:List Int×Int):Prop where
 lo:0<=s.2
 hi:s.2+d<=8*s.1.length
 nd:s.1.Nodup
 th:∀n∈s.1,rd n≠none
def Ks.mono{rd:Int->Option Pg}{d':Nat}(h:Ks rd d s)(hd:d'<=d):Ks rd d' s:=⟨h.lo,by have:=h.hi;omega,h.nd,h.th⟩
def gE{rd:Int->Option Pg}(h:cR rd met n=some p):n∉met/\rd n=some p:=by
 unfold cR at h;split at h
 ·cases h
 exact⟨by assumption,h⟩
def Ks.enter{rd:Int->Option Pg}(h:Ks rd d s)(he:cR rd s.1 n=some p):Ks rd (d+8) (n::s.1,s.2):=by
 obtain⟨Y,J⟩:=gE he;refine⟨h.lo,?_,Bx.2 ⟨Y,h.nd⟩,fun j hj=>?_⟩
 ·have:=h.hi;simp only[kZ];omega
 rcases cE.1 hj with rfl|hj
 ·rw[J];simp
 exact h.th j hj
def Ks.chain{rd:Int->Option Pg}{d:Nat}{keys:Int}:∀{f:Nat} {left n:Int} {met:List Int},Ks rd d (met,keys)->Ks rd d ((gR rd f left n met).2,keys)
 |0,_,_,_,h=>h
 |f+1,left,n,met,h=>by
  rw[gR];split
  ·exact h
  cases he:cR rd met n with
  |none=>exact h
  |some p=>
   have Y:Ks rd d (n::met,keys):=(h.enter he).mono H;simp only;split
   ·exact Y
   split
   ·exact Y
   exact Ks.chain Y
def Ks.item{rd:Int->Option Pg}{r:Rg}(h:Ks rd (d+1) s):Ks rd d (gV rd x r s).2:=by
 have Y:Ks rd d (s.1,s.2+1):=⟨by have:=h.lo;show 0<=s.2+1;omega,by have:=h.hi;show s.2+1+(d:Int)<=8*(s.1.length:Int);omega,h.nd,h.th⟩;unfold gV;split
 ·exact h.mono H
 split
 ·exact Y
 exact Ks.chain Y
def Ks.fold{α:Type}{rd:Int->Option Pg}{g:Nat->α->List Int×Int->Int×List Int×Int}{c:Nat}(hc:c<=1)(hg:∀{d i x s},Ks rd (d+c) s->Ks rd d (g i x s).2):∀{l:List α} {i d:Nat} {s:List Int×Int},Ks rd (d+l.length) s->Ks rd d (kC g i l s).2
 |[],i,d,s,h=>h
 |x::l,i,d,s,h=>by
  have Y:Ks rd (d+l.length) (g i x s).2:=hg (h.mono (by simp only[kZ];omega));rw[kC];split
  ·exact Y.mono H
  exact Ks.fold hc hg Y
def Ks.TP{rd:Int->Option Pg}(lr:∀n p,rd n=some p->p.items.length<=8):∀{k:Nat} {d:Nat} {n least:Int} {r:Rg} {s:List Int×Int},Ks rd d s->Ks rd d (eX rd k n least r s).2:=by
 intro k
 induction k with
 |zero=>
  intro d n least r s h;unfold eX;cases he:cR rd s.1 n with
  |none=>exact h
  |some p=>
   have Y:=h.enter he;have hl:=lr n p (gE he).2;simp only;split
   ·exact Y.mono H
   split
   ·exact Y.mono H
   exact Ks.fold (c:=1) (fP _) (fun h=>h.item) (Y.mono H)
 |succ k ih=>
  intro d n least r s h;unfold eX;cases he:cR rd s.1 n with
  |none=>exact h
  |some p=>
   have Y:=h.enter he;have hl:=lr n p (gE he).2;simp only;split
   ·exact Y.mono H
   split
   ·exact Y.mono H
   exact Ks.fold (c:=0) H (fun h=>ih h) (Y.mono H)
def tM.rF{rd:Int->Option Pg}(h:tM rd v S)(hn:met.Nodup)(hm:∀n∈met,rd n≠none):met.length<=65536:=by
 have Y:=px hn (m:=(List.range v.c.length).map fun i:Nat=>(i:Int)+1) (fun n E=>by
  have J:=qJ (h.th (hm n E));exact dY.2 ⟨(n-1).toNat,sr.2 H,H⟩)
 rw[cg,W5]at Y;have:=h.len;omega
def tM.afu{rd:Int->Option Pg}(h:tM rd v S)(hp:rd n=some p):p.items.length<=8:=by
 obtain⟨pg,-,-,-,h4,h5⟩:=h.yes n (h.th (by rw[hp];simp));rw[hp]at h4;cases h4;exact(ij h5).1
def N4(h:dv p=0)(hk:p.kind=1):∀x∈p.items,x.size<=3840:=by
 have key:∀(l:List It) (i:Nat) (cW:bZ),fa p.kind i cW l=0->∀x∈l,x.size<=3840:=by
  intro l
  induction l with
  |nil=>intro i cW _ x E;cases E
  |cons y l ih=>
   intro i cW he x E;simp only[fa,bH]at he;rcases cE.1 E with rfl|E
   ·have Y:=he.1;unfold q8 at Y;simp only[bH]at Y
    have J:=Y.2.2.1;unfold jq at J;rw[aj H]at J
    simp only[bH]at J;have:=(cG dM).1 J.1;omega
   exact ih _ _ he.2 x E
 unfold dv at h;simp only[bH]at h
 exact key p.items 0 [] h.2.1
def s3(rd:Int->Option Pg):Nat->Pg->Rg->Nat->It->List Int×Int->Int×List Int×Int
 |0,_,r,_,x,s=>gV rd x r s
 |k+1,p,r,i,x,s=>eX rd k x.child 4 (eR r (pT p i)) s
def me{rd:Int->Option Pg}{r:Rg}(h:cR rd s.1 n=none):eX rd k n least r s=(15,s):=by
 cases k<;>(unfold eX;rw[h])
def kI{rd:Int->Option Pg}{r:Rg}(h:cR rd s.1 n=some p):eX rd k n least r s=if lZ k p then(15,n::s.1,s.2)else if(p.items.length:Int)<least then(5,n::s.1,s.2)else kC (s3 rd k p r) 0 p.items (n::s.1,s.2):=by
 cases k<;>(unfold eX;rw[h];rfl)
def aL.Q8{A:aF}{p:ae->Prop}(h:aL (A::L) p):aL (A::B::ad::L) p:=fun g w Z=>by
 have hz:=Z.b [B,ad];exact(h.of sF).at hz
def rS.Ok.Q8{A:aF}(h:r.Ok (A::L)):r.Ok (A::B::ad::L):=⟨h.lo.Q8,h.hi.Q8,h.sl,h.sh⟩
def Mb(ro:Int)(k:Nat):Int:=if ro=1 then(if k=0 then 0 else 2)else 4
def U7(k:Nat):Prop:=∀{G:Gh} {L:List aF} {w:ae} {cq q mb nm mc:Nat} {keys n ro:Int} {v:AL} {ml:List Bool} {met:List Int} {rd:Int->Option Pg} {S:List dL} {r:rS},tM rd v S->aw G (N cq [pQ q,sQ mb nm mc,I keys] 221::row 4 1 (sQ mb nm mc) nm (gW ml)::nj q v (gz S::L)) w->AP v ml met->nm=v.c.length+1->Ks rd 0 (met,keys)->r.Ok (gz S::L)→
 aA prog 103 #[pQ cq,I n,I k,gQ r.cells, .bool (decide (ro=1))] w (bU fun u w'=>∃IH,u=I (eX rd k n (Mb ro k) r.rg (met,keys)).1/\AP v IH (eX rd k n (Mb ro k) r.rg (met,keys)).2.1∧
  aw G (N cq [pQ q,sQ mb nm mc,I (eX rd k n (Mb ro k) r.rg (met,keys)).2.2] 221::row 4 1 (sQ mb nm mc) nm (gW IH)::nj q v (gz S::L)) w')
def On(hk:k<=1000)(ih:∀j,k=j+1->U7 j){ro:Int}{rd:Int->Option Pg}(hI:tM rd v S)(Z:aw G (N cq [pQ q, .slice (some ⟨mb,0,none⟩) nm mc,I keys] 221::row 4 1 (.slice (some ⟨mb,0,none⟩) nm mc) nm (gW ml)::nj q v (gz S::L)) w)(hm:AP v ml met)(G8:nm=v.c.length+1)(yn:Ks rd 0 (met,keys))(hr:r.Ok (gz S::L)):
  aA prog 103 #[pQ cq,I n,I k,gQ r.cells, .bool (decide (ro=1))] w (bU fun u w'=>∃IH,u=I (eX rd k n (Mb ro k) r.rg (met,keys)).1/\AP v IH (eX rd k n (Mb ro k) r.rg (met,keys)).2.1∧
   aw G (N cq [pQ q, .slice (some ⟨mb,0,none⟩) nm mc,I (eX rd k n (Mb ro k) r.rg (met,keys)).2.2] 221::row 4 1 (.slice (some ⟨mb,0,none⟩) nm mc) nm (gW IH)::nj q v (gz S::L)) w'):=by
 obtain⟨pb,pc,My⟩:=hI.pv (Z.b [N q _ _,row 3 _ _ _ _,row 4 1 v.lv _ _,row 104 _ _ _ _]);have hN:=hI.len;have hP:=hI.O6;have jr:∀R,aL (row 104 5 v.pv v.p.length (v.p.map dL.cells).flatten::R) (jk 5 (.slice (some ⟨pb,0,none⟩) v.p.length pc) (v.p.map dL.cells)):=fun R=>by
  rw[My];exact(jk.row sM (NS v.p)).head R
 refine wF [_,_,_,_,_] func103 ntmps103 ?_;refine wB 2 Z fun w b8 Z=>?_;refine z7 ?_;refine aO rfl p8 rfl (Hh (n:=n) (met:=met) hI (Z.b [N cq _ _,row 4 1 (.slice (some ⟨mb,0,none⟩) nm mc) _ _,N q _ _,row 3 _ _ _ _,row 4 1 v.lv _ _,row 104 _ _ _ _]) hm G8) rfl fun w v16 hv=>?_;obtain⟨ml2,rfl,ym,aiN,Z⟩:=hv;refine cU rfl rfl ?_;refine aK ?_;refine wI 0 (fun Y=>?_) fun Y=>?_
 ·refine z5 ?_;exact dt rfl rfl rfl (by
 have he:cR rd met n=none:=dg.1 Y;rw[me he];rw[he]at ym;exact⟨ml2,rfl,ym,(Z.b [N b8 _ _]).tail⟩)
 obtain⟨p,hp⟩:∃p,cR rd met n=some p:=ZT.1 (dg.1 Y);rw[hp]at ym;have afE:=yn.enter hp;obtain⟨pg,uR,RK,Pt,rfl,Ha,lr⟩:=hI.enter hp;have hpr:(v.p.map dL.cells)[(n-1).toNat]?=some pg.cells:=by rw[dh,uR];rfl
 rw[kI hp];have wy:pg.pg.items.length=pg.l.length:=by simp[dL.pg]
 have hp8:=(ij lr).1;obtain⟨ia,ic,hs⟩:∃ia ic,pg.s= .slice ia pg.l.length ic:=by
  obtain⟨ia,ic,hs,-,-⟩:=((lB RK Pt pK).its.sl.at Z).form;rw[cg]at hs;exact⟨ia,ic,hs⟩
 refine wD 6 (v:=pQ q) hJ Z ?_;refine z2 ?_;refine bg rfl rfl (aD.cw (v:= .slice (some ⟨pb,0,none⟩) v.p.length pc) eI Z pK (by first|exact aU some My|(rw[<-My];rfl))) ?_;refine wX 2 gw iR ?_;refine bg rfl rfl (aD.many (cs:=pg.cells) ay rfl (((jr _).of sF).at Z|>.at hpr)) ?_;refine wL 0 bW Z fun w wo Z=>?_;refine ue (cs:=pg.cells) (l':=pg.cells) rfl tV rfl rfl ay rfl (jz (lB RK Pt pK) Z) Z pK (by simp[dL.cells]) rfl rfl fun w Z=>?_;refine z7 ?_;refine bw (l1:=[3,4,5,6]) (l2:=[7,8,9,10,11,12,13,14,15,16,17,18,19,20,21]) rfl (d:=35) ((k:Int)=0/\¬pg.kind=1) rfl ?_ ?_
 ·refine ar (d:=31) rfl (fun J=>?_) fun J=>?_
  ·refine wD 1 (v:=I pg.kind) ag Z ?_;exact wq 3
  exact wq 5
 refine z1 ?_;refine bw (l1:=[8,9,10,11,12,13,14,15,16,17,18,19,20,21]) (l2:=[]) rfl (d:=50) (((k:Int)=0/\¬pg.kind=1)\/(0<(k:Int)/\(¬pg.kind=2\/¬pg.level=(k:Int)))) rfl ?_ ?_
 ·refine ar (d:=36) rfl (fun h3=>?_) fun h3=>?_
  ·exact wq 15
  refine z3 ?_;refine ar (d:=39) rfl (fun h4=>?_) fun h4=>?_
  ·refine wD 1 (v:=I pg.kind) ag Z ?_;refine z2 ?_;refine ar (d:=43) rfl (fun h5=>?_) fun h5=>?_
   ·refine z4 ?_;refine iM rfl rfl rfl rfl ?_;refine iM rfl rfl rfl rfl ?_;exact wq 2
   refine wD 1 (v:=I pg.level) ag Z ?_;refine z2 ?_;refine iw rfl rfl rfl rfl ?_;refine iM rfl rfl rfl rfl ?_;exact wq 2
  refine z9 ?_;refine iw rfl rfl rfl rfl ?_;exact wq 2
 refine aK ?_;refine wI 0 (fun h6=>?_) fun h6=>?_
 ·have hwr:lZ k pg.pg:=by
   unfold lZ
   show if k=0 then¬pg.kind=1 else¬(pg.kind=2/\pg.level=(k:Int))
   split<;>omega
  refine z5 ?_;exact dt rfl rfl rfl (by
 rw[aB hwr];exact⟨ml2,rfl,ym,(Z.b [N wo _ _,N b8 _ _,N cq _ _,row 4 1 (.slice (some ⟨mb,0,none⟩) nm mc) _ _,N q _ _,row 3 _ _ _ _,row 4 1 v.lv _ _,row 104 _ _ _ _]).t2⟩)
 have hwr:¬lZ k pg.pg:=by
  unfold lZ
  show¬if k=0 then¬pg.kind=1 else¬(pg.kind=2/\pg.level=(k:Int))
  split<;>omega
 rw[aj hwr,wy];refine z5 ?_;refine cU rfl rfl ?_;refine z1 ?_;refine bw (l1:=[3,4,5,6,7]) (l2:=[8,9,10,11,12,13,14,15,16,17,18,19,20]) rfl (d:=58) (¬ro=1/\(pg.l.length:Int)<4) rfl ?_ ?_
 ·refine ar (d:=53) rfl (fun h7=>?_) fun h7=>?_
  ·refine z1 ?_;refine bg rfl rfl (aD.cw (v:= .slice ia pg.l.length ic) aH Z pK (by first|exact aU some hs|(rw[<-hs];rfl))) ?_;refine eE rfl kR aV rfl ?_;exact wq 3
  exact wq 6
 refine z1 ?_;refine bw (l1:=[9,10,11,12,13,14,15,16,17,18,19,20]) (l2:=[]) rfl (d:=71) ((¬ro=1/\(pg.l.length:Int)<4)\/(ro=1/\0<(k:Int)/\(pg.l.length:Int)<2)) rfl ?_ ?_
 ·refine ar (d:=59) rfl (fun h8=>?_) fun h8=>?_
  ·exact wq 13
  refine z2 ?_;refine ar (d:=61) rfl (fun h9=>?_) fun h9=>?_
  ·refine z2 ?_;refine iM rfl rfl rfl rfl ?_;refine z1 ?_;refine ar (d:=65) rfl (fun jR=>?_) fun jR=>?_
   ·refine z1 ?_;refine bg rfl rfl (aD.cw (v:= .slice ia pg.l.length ic) aH Z pK (by first|exact aU some hs|(rw[<-hs];rfl))) ?_;refine eE rfl kR aV rfl ?_;refine z1 ?_;refine iM rfl rfl rfl rfl ?_;exact wq 2
   refine z4 ?_;refine iw rfl rfl rfl rfl ?_;exact wq 2
  refine z2 ?_;refine iw rfl rfl rfl rfl ?_;refine z5 ?_;refine iw rfl rfl rfl rfl ?_;exact wq 2
 refine aK ?_;refine wI 0 (fun qH=>?_) fun qH=>?_
 ·refine z5 ?_;exact dt rfl rfl rfl (by
 rw[aB (by unfold Mb;split<;>(try split)<;>omega)];exact⟨ml2,rfl,ym,(Z.b [N wo _ _,N b8 _ _,N cq _ _,row 4 1 (.slice (some ⟨mb,0,none⟩) nm mc) _ _,N q _ _,row 3 _ _ _ _,row 4 1 v.lv _ _,row 104 _ _ _ _]).t2⟩)
 rw[aj (by unfold Mb;split<;>(try split)<;>omega)];obtain⟨fin,Pu⟩:∃fin,fin=kC (s3 rd k pg.pg r.rg) 0 pg.pg.items (n::met,keys):=⟨_,rfl⟩;rw[<-Pu];refine z7 ?_;have hz:=(Z.b [N cq _ _,row 4 1 (.slice (some ⟨mb,0,none⟩) nm mc) _ _,N q _ _,row 3 _ _ _ _,row 4 1 v.lv _ _,row 104 _ _ _ _,gz S,N wo _ _,N b8 _ _]);clear Z;have Z:=hz;clear hz;refine bx (fun m e w=>∃(i:Nat) (gH:List Int) (jM:Int) (IH:List Bool),i<=pg.l.length/\m=pg.l.length-i/\e=[(0,pQ cq),(2,I k),(8,pQ b8),(11,pQ wo),(12,I i)]/\(AP v IH gH/\Ks rd (8-i) (gH,jM)/\fin=kC (s3 rd k pg.pg r.rg) i (pg.pg.items.drop i) (gH,jM))/\aw G (N cq [pQ q, .slice (some ⟨mb,0,none⟩) nm mc,I jM] 221::row 4 1 (.slice (some ⟨mb,0,none⟩) nm mc) nm (gW IH)::nj q v (gz S::N wo pg.cells 104::N b8 r.cells 64::L)) w)
  (m:=pg.l.length) sB
  ⟨0,n::met,keys,ml2,de _,rfl,rfl,⟨ym,afE,Pu⟩,Z⟩ ?_
 rintro m e w ⟨i,gH,jM,IH,hi,rfl,rfl,⟨G9,IM,BF⟩,Z⟩;refine z5 ?_;refine bg rfl rfl (aD.cw (v:= .slice ia pg.l.length ic) aH Z pK (by first|exact aU some hs|(rw[<-hs];rfl))) ?_;refine wI 3 (fun xX=>?_) fun xX=>?_
 ·have lR:i<pg.l.length:=H;obtain⟨x,E⟩:∃x,pg.l[i]?=some x:=⟨_,dG lR⟩;have kA:(pg.l.map cP.cells)[i]?=some x.cells:=by rw[dh,E];rfl
  have G5:pg.pg.items[i]?=some x.it:=by show(pg.l.map cP.it)[_]?=_;rw[dh,E];rfl
  rw[m6 G5,kC]at BF;have YG:pg.Ok (gz S::L):=lB RK Pt .here;have lG:=YG.its.it x (fK E);have wz:aL (gz S::L) (jk 4 (.slice ia pg.l.length ic) (pg.l.map cP.cells)):=by rw[<-hs];exact YG.its.sl
  have acY:∀R,aL (gz S::R) (jk 4 (.slice ia pg.l.length ic) (pg.l.map cP.cells)):=fun R=>by rw[<-hs];exact(lB (L:=gz S::R) RK Pt .here).its.sl
  obtain⟨ib,io,rfl⟩:=(((acY _).of sF).at Z).nn (by rw[cg];omega);have afC:=hI.rF IM.nd IM.th;have yp:=IM.lo;have hkh:=IM.hi;simp only at yp hkh afC;refine wI 13 (fun BG=>?_) fun BG=>?_
  ·obtain rfl:k=0:=H;have IN:pg.pg.kind=1:=by
    refine vC fun h=>hwr ?_
    unfold lZ;rw[aB rfl];exact h
   have Md:=N4 lr IN x.it (fK G5);refine wQ [0,1,2,3,4,5,6,7,8] Z fun Z=>?_
   refine z2 ?_;refine bg rfl rfl (aD.cw (v:= .slice (some ⟨ib,io,none⟩) pg.l.length ic) aH Z pK (by first|exact aU some hs|(rw[<-hs];rfl))) ?_;refine wX 1 aV bz ?_;refine bg rfl rfl (aD.many (cs:=x.cells) bA rfl (by have h:=(((acY _).of sF).at Z).at kA;rw[cZ];exact h)) ?_;refine wA 0 (l:=r.cells) aQ Z ?_;refine aO rfl Ao rfl (BR (x:=x) (r:=r) hI Z G9 G8 H ((lB RK Pt .here).its.it x (fK E)) H hr.Q8) kR fun w v88 hv=>?_;obtain⟨ml3,rfl,zz,Z⟩:=hv;have jQ:s3 rd 0 pg.pg r.rg i x.it (gH,jM)=gV rd x.it r.rg (gH,jM):=rfl;rw[jQ]at BF;have Ka:Ks rd (8-(i+1)) (gV rd x.it r.rg (gH,jM)).2:=Ks.item (IM.mono H);obtain⟨res,rH⟩:∃res,res=gV rd x.it r.rg (gH,jM):=⟨_,rfl⟩;rw[<-rH]at BF zz Z Ka
   rw[<-rH];refine wI 7 (fun h14=>?_) fun h14=>?_
   ·refine z6 ?_;exact dt rfl rfl rfl (by
 rw[aB h14]at BF;rw[BF];exact⟨ml3,rfl,zz,(Z.b [N wo _ _,N b8 _ _,N cq _ _,row 4 1 (.slice (some ⟨mb,0,none⟩) nm mc) _ _,N q _ _,row 3 _ _ _ _,row 4 1 v.lv _ _,row 104 _ _ _ _]).t2⟩)
   refine z6 ?_;rw[aj h14]at BF;exact⟨pg.l.length-(i+1),H,[(0,_),(2,_),(8,_),(11,_),(12,I (i+1:Nat))],sB,i+1,res.2.1,res.2.2,ml3,H,rfl,rfl,⟨zz,Ka,BF⟩,Z⟩
  obtain⟨j,rfl⟩:∃j,k=j+1:=⟨k-1,H⟩;refine wQ [0,1,2,3,4,5,6,7,8,9,10,11,12,13,14] Z fun Z=>?_
  refine z2 ?_;refine bg rfl rfl (aD.cw (v:= .slice (some ⟨ib,io,none⟩) pg.l.length ic) aH Z pK (by first|exact aU some hs|(rw[<-hs];rfl))) ?_;refine wX 1 aV bz ?_;refine cC rfl nM rfl ?_;refine bg rfl rfl (aD.one (v:=I x.it.child) ag ((((acY _).of sF).at Z).cell (j:=2) kA rfl)) ?_;refine z2 ?_;have RQ:((j+1:Nat):Int)-1=j:=H;rw[RQ];refine wA 0 (l:=pg.cells) ay Z ?_;refine wA 1 (l:=r.cells) aQ Z ?_;refine ed rfl Gs rfl (HW (p:=pg) (i:=i) (r:=r) Z (lB RK Pt pK) (hr.Q8.of sF) lR H) (fun w ahV hv q' hq=>?_) fun w ahV hv=>?_
  ·obtain⟨r',rfl,CX,hr2,hr3,Uo,Z⟩:=hv;have hq:=bK (l:=[6,2]) kR hq;simp only[cE,fQ,or_false]at hq;rcases hq with rfl|rfl
   ·exact bG rfl rfl rfl (aD.one (v:=I x.it.child) ag ((((acY _).of sF).at Z).cell (j:=2) kA rfl))
   exact bG rfl rfl rfl (aD.cw (v:= .slice (some ⟨ib,io,none⟩) pg.l.length ic) aH Z pK (by first|exact aU some hs|(rw[<-hs];rfl)))
  obtain⟨r',rfl,CX,hr2,hr3,Uo,Z⟩:=hv;simp only[lP,nI,lE]at Z;have hz:=Z.b [N cq _ _,row 4 1 (.slice (some ⟨mb,0,none⟩) nm mc) _ _,N q _ _,row 3 _ _ _ _,row 4 1 v.lv _ _,row 104 _ _ _ _,gz S,row 5 1 r'.lv _ _,row 5 1 r'.hv _ _];refine aO rfl rr rfl (@ih j rfl G _ _ cq q mb nm mc jM x.it.child 0 v IH gH rd S r' hI hz G9 G8 (IM.mono (de _)) (CJ hr2 hr3 pK pK)) kR fun w agI hv=>?_;obtain⟨ml3,rfl,zz,Z⟩:=hv;rw[CX,show Mb 0 j=4 from rfl]at zz Z
  rw[CX,show Mb 0 j=4 from rfl];have jQ:s3 rd (j+1) pg.pg r.rg i x.it (gH,jM)=eX rd j x.it.child 4 (eR r.rg (pT pg.pg i)) (gH,jM):=rfl;rw[jQ]at BF;have Ka:Ks rd (8-(i+1)) (eX rd j x.it.child 4 (eR r.rg (pT pg.pg i)) (gH,jM)).2:=Ks.TP (fun n p hnp=>hI.afu hnp) (IM.mono H);obtain⟨res,rH⟩:∃res,res=eX rd j x.it.child 4 (eR r.rg (pT pg.pg i)) (gH,jM):=⟨_,rfl⟩;rw[<-rH]at BF zz Z Ka
  rw[<-rH];refine wI 7 (fun h15=>?_) fun h15=>?_
  ·refine z6 ?_;exact dt rfl rfl rfl (by
 rw[aB h15]at BF;rw[BF];exact⟨ml3,rfl,zz,(Z.b [row 5 1 r'.lv _ _,row 5 1 r'.hv _ _,N wo _ _,N b8 _ _,N cq _ _,row 4 1 (.slice (some ⟨mb,0,none⟩) nm mc) _ _,N q _ _,row 3 _ _ _ _,row 4 1 v.lv _ _,row 104 _ _ _ _]).t4⟩)
  refine z6 ?_;rw[aj h15]at BF;exact⟨pg.l.length-(i+1),H,[(0,_),(2,_),(8,_),(11,_),(12,I (i+1:Nat))],sB,i+1,res.2.1,res.2.2,ml3,H,rfl,rfl,⟨zz,Ka,BF⟩,(Z.b [row 5 1 r'.lv _ _,row 5 1 r'.hv _ _,N cq _ _,row 4 1 (.slice (some ⟨mb,0,none⟩) nm mc) _ _,N q _ _,row 3 _ _ _ _,row 4 1 v.lv _ _,row 104 _ _ _ _,gz S,N wo _ _,N b8 _ _]).t2⟩
 refine z6 ?_;exact dt rfl rfl rfl (by
 have VQ:i=pg.l.length:=H;rw[vB H,kC]at BF;rw[BF];exact⟨IH,rfl,G9,(Z.b [N wo _ _,N b8 _ _,N cq _ _,row 4 1 (.slice (some ⟨mb,0,none⟩) nm mc) _ _,N q _ _,row 3 _ _ _ _,row 4 1 v.lv _ _,row 104 _ _ _ _]).t2⟩)
def BP(k:Nat)(hk:k<=1000):U7 k:=by
 induction k with
 |zero=>
  intro G L w cq q mb nm mc keys n ro v ml met rd S r hI Z hm G8 yn hr;exact On hk (fun j h=>aS h H) hI Z hm G8 yn hr
 |succ k ih=>
  intro G L w cq q mb nm mc keys n ro v ml met rd S r hI Z hm G8 yn hr;have h0:∀j,k+1=j+1->U7 j:=by
   intro j h;have:j=k:=H;rw[this];exact @ih H
  exact On hk h0 hI Z hm G8 yn hr
def nG:Rg:=⟨[],[],true⟩
def fY(t:Tr):Prop:=t.root=0/\t.bh=0/\t.items=0
instance(t:Tr):Decidable (fY t):=by unfold fY;infer_instance
def jT(t:Tr):Prop:=¬t.root=0/\1<=t.bh/\t.bh<=12/\1<=t.items
instance(t:Tr):Decidable (jT t):=by unfold jT;infer_instance
def qu(rd:Int->Option Pg)(t:Tr):Int:=
 if fY t then 0 else if¬jT t then 5 else
 let c:=eX rd (t.bh-1).toNat t.root (Mb 1 (t.bh-1).toNat) nG ([],0)
 if c.1≠0 then c.1 else if¬c.2.2=t.items then 4 else 0
def KZ{rd:Int->Option Pg}(hI:tM rd v S)(Z:aw G (nj q v (gz S::L)) w):
  aA prog 46 #[pQ q,gQ (dI t)] w (bU fun u w'=>u=I (qu rd t)/\aw G (nj q v (gz S::L)) w'):=by
 refine wF [_,_] func46 ntmps46 ?_;refine wB 2 Z fun w b3 Z=>?_;refine wD 6 (v:=I t.root) ag Z ?_;refine z2 ?_;refine bw (l1:=[4,5,6,7]) (l2:=[8,9,10,11,12]) rfl (d:=14) (t.root=0/\t.bh=0) rfl ?_ ?_
 ·refine ar (d:=10) rfl (fun Y=>?_) fun Y=>?_
  ·refine wD 1 (v:=I t.bh) ag Z ?_;exact wq 3
  exact wq 5
 refine z1 ?_;refine bw (l1:=[9,10,11,12]) (l2:=[]) rfl (d:=19) (t.root=0/\t.bh=0/\t.items=0) rfl ?_ ?_
 ·refine ar (d:=15) rfl (fun J=>?_) fun J=>?_
  ·refine wD 1 (v:=I t.items) ag Z ?_;exact wq 3
  exact wq 5
 refine aK ?_;refine wI 0 (fun h3=>?_) fun h3=>?_
 ·refine z5 ?_;exact dt rfl rfl rfl (by
 have e:qu rd t=0:=by unfold qu;rw[aB (show fY t from h3)]
 rw[e];exact⟨rfl,(Z.b [N b3 _ _,N q _ _,row 3 _ _ _ _,row 4 _ _ _ _,row 104 _ _ _ _]).tail⟩)
 refine wD 5 (v:=I t.root) ag Z ?_;refine z2 ?_;refine bw (l1:=[4,5,6,7]) (l2:=[8,9,10,11,12,13,14,15,16,17]) rfl (d:=27) (t.root=0\/t.bh<1) rfl ?_ ?_
 ·refine ar (d:=23) rfl (fun h4=>?_) fun h4=>?_
  ·exact wq 5
  refine wD 1 (v:=I t.bh) ag Z ?_;exact wq 3
 refine z1 ?_;refine bw (l1:=[9,10,11,12]) (l2:=[13,14,15,16,17]) rfl (d:=32) (t.root=0\/t.bh<1\/12<t.bh) rfl ?_ ?_
 ·refine ar (d:=28) rfl (fun h5=>?_) fun h5=>?_
  ·exact wq 5
  refine wD 1 (v:=I t.bh) ag Z ?_;exact wq 3
 refine z1 ?_;refine bw (l1:=[14,15,16,17]) (l2:=[]) rfl (d:=37) (t.root=0\/t.bh<1\/12<t.bh\/t.items<1) rfl ?_ ?_
 ·refine ar (d:=33) rfl (fun h6=>?_) fun h6=>?_
  ·exact wq 5
  refine wD 1 (v:=I t.items) ag Z ?_;exact wq 3
 refine aK ?_;refine wI 0 (fun h7=>?_) fun h7=>?_
 ·refine z5 ?_;exact dt rfl rfl rfl (by
 have e:qu rd t=5:=by unfold qu;rw[aj (show¬fY t from h3),aB (fun h=>by unfold jT at h;omega)]
 rw[e];exact⟨rfl,(Z.b [N b3 _ _,N q _ _,row 3 _ _ _ _,row 4 _ _ _ _,row 104 _ _ _ _]).tail⟩)
 have htf:jT t:=by unfold jT;omega
 have e:qu rd t=if(eX rd (t.bh-1).toNat t.root (Mb 1 (t.bh-1).toNat) nG ([],0)).1≠0 then(eX rd (t.bh-1).toNat t.root (Mb 1 (t.bh-1).toNat) nG ([],0)).1 else if¬(eX rd (t.bh-1).toNat t.root (Mb 1 (t.bh-1).toNat) nG ([],0)).2.2=t.items then 4 else 0:=by
  unfold qu;rw[aj (show¬fY t from h3),aj (not_not_intro htf)]
 refine z5 ?_;refine wC rfl iL rfl (ji (q:=q) (v:=v) (Z.b [N q _ _,row 3 _ _ _ _,row 4 _ _ _ _,row 104 _ _ _ _])) fun w Z=>?_
 have hN:=hI.len;refine z1 ?_;refine yY rfl dV gg Bt OJ rfl rfl ⟨H,H⟩ H H Z rfl fun w b42 Z=>?_;have G8:((v.c.length:Int)+1).toNat=v.c.length+1:=H;rw[G8]at Z;rw[G8];have tW:L9 (v.c.length+1) (Value.bool false)=gW (List.replicate (v.c.length+1) false)++[]:=by simp[gW,L9]
 rw[tW]at Z;have Z:=lC (z:=1) (m:=v.c.length+1) (cap:=v.c.length+1) Z (by simp[gW]) (fP _) mL (by simp[gW]);refine wV 0 (v:= .agg #[pQ q, .slice (some ⟨b42,0,none⟩) (v.c.length+1) (v.c.length+1),I 0]) ?_;refine wB 0 Z fun w Mh Z=>?_;refine wD 6 (v:=I t.root) ag Z ?_;refine wD 1 (v:=I t.bh) ag Z ?_;refine wV 1 (v:= .agg #[nQ,nQ, .bool true]) ?_;obtain⟨k,hk⟩:∃k:Nat,t.bh-1=(k:Int):=⟨(t.bh-1).toNat,H⟩;have hkt:(t.bh-1).toNat=k:=H;rw[hkt]at e
 rw[hk];have hz:=Z.b [N Mh _ _,row 4 1 (.slice (some ⟨b42,0,none⟩) _ _) _ _,N q _ _,row 3 _ _ _ _,row 4 1 v.lv _ _,row 104 _ _ _ _,gz S];have G9:AP v (List.replicate (v.c.length+1) false) []:=⟨by simp,fun n hn=>by
    have:=qJ hn;rw[ma,Xc,aB H];rfl⟩
 refine aO rfl rr rfl (@BP k H G _ _ Mh q b42 _ _ 0 t.root 1 v _ [] rd S ⟨nG,nQ,nQ⟩ hI hz G9 rfl ⟨by decide,by decide,Tz,(fun n hn=>by cases hn)⟩ ⟨Pa,Pa,jV,jV⟩) rfl fun w v52 hv=>?_;obtain⟨IH,rfl,hm',Z⟩:=hv;obtain⟨res,rH⟩:∃res,res=eX rd k t.root (Mb 1 k) nG ([],0):=⟨_,rfl⟩;have Z:aw G (N Mh [pQ q, .slice (some ⟨b42,0,none⟩) (v.c.length+1) (v.c.length+1),I res.2.2] 221::row 4 1 (.slice (some ⟨b42,0,none⟩) (v.c.length+1) (v.c.length+1)) (v.c.length+1) (gW IH)::nj q v (gz S::N b3 (dI t) 62::L)) w:=by rw[rH];exact Z
 rw[<-rH]at e;rw[show eX rd k t.root (Mb 1 k) (rS.rg ⟨nG,nQ,nQ⟩) ([],0)=res from rH.symm];refine wI 8 (fun h8=>?_) fun h8=>?_
 ·refine z6 ?_;exact dt rfl rfl rfl (by
 rw[aB h8]at e;rw[e];exact⟨rfl,(Z.b [N Mh _ _,row 4 1 (.slice (some ⟨b42,0,none⟩) _ _) _ _,N b3 _ _,N q _ _,row 3 _ _ _ _,row 4 1 v.lv _ _,row 104 _ _ _ _]).t3⟩)
 rw[aj h8]at e;refine z3 ?_;refine wQ [0,1,2,3,4,5,6] Z fun Z=>?_
 refine wD 3 (v:=I res.2.2) ag Z ?_;refine wD 1 (v:=I t.items) ag Z ?_;refine wI 2 (fun h9=>?_) fun h9=>?_
 ·refine z5 ?_;exact dt rfl rfl rfl (by
 rw[aB h9]at e;rw[e];exact⟨rfl,(Z.b [N Mh _ _,row 4 1 (.slice (some ⟨b42,0,none⟩) _ _) _ _,N b3 _ _,N q _ _,row 3 _ _ _ _,row 4 1 v.lv _ _,row 104 _ _ _ _]).t3⟩)
 refine z6 ?_;exact dt rfl rfl rfl (by
 rw[aj h9]at e;rw[e];exact⟨rfl,(Z.b [N Mh _ _,row 4 1 (.slice (some ⟨b42,0,none⟩) _ _) _ _,N b3 _ _,N q _ _,row 3 _ _ _ _,row 4 1 v.lv _ _,row 104 _ _ _ _]).t3⟩)
def KX{rd:Int->Option Pg}(hI:tM rd v S)(Z:aw G (nj q v (gz S::L)) w):aA prog 81 #[pQ q,I n] w (bU fun r w'=>∃(p':dL) (er:Int) (A:aF),
  r= .tuple #[gQ p'.cells,I er]/\lK p'.cells/\((rd n=none/\er=15/\p'=gi/\A=bt [])\/(rd n=some p'.pg/\er=0/\A=fg p'/\p'.Sm))/\aw G (A::nj q v (gz S::L)) w'):=by
 refine nH (BS (n:=n) Z hI.len hI.O6 (fun hc pg uR=>?_)) fun r w' hr=>?_
 ·obtain⟨pg',Y,J,h3,-⟩:=hI.yes n hc;rw[uR]at Y;cases Y;exact⟨J,h3⟩
 rcases hr with⟨hc,rfl,mP⟩|⟨hc,pg,p',uR,rfl,Mz,oR,mP⟩
 ·exact⟨gi,15,bt [],rfl,fj, .inl ⟨hI.no n hc,rfl,rfl,rfl⟩,aw.bJ (M:=[]) mP⟩
 obtain⟨pg',Y,-,-,h4,-⟩:=hI.yes n hc;rw[uR]at Y;cases Y;exact⟨p',0,fg p',rfl,jz (cL oR pK) mP, .inr ⟨by rw[h4,Mz],rfl,rfl,oR⟩,mP⟩
def MW{rd:Int->Option Pg}{x:cP}(hI:tM rd v S)(Z:aw G (nj q v (gz S::L)) w)(E:x.Ok (gz S::L)):aA prog 105 #[pQ q,gQ x.cells] w (bU fun r w'=>∃u,r= .tuple #[u,I (eg rd x.it).1]/\aw G (row 5 1 u (eg rd x.it).2.length (cI (eg rd x.it).2)::nj q v (gz S::L)) w'):=by
 obtain⟨a1,c1,a2,c2,hk,hv1,gC⟩:=E.form (Z.b [N q _ _,row 3 _ _ _ _,row 4 _ _ _ _,row 104 _ _ _ _]).t4;have G6:=E.sv;unfold dP at G6;refine wF [_,_] func105 ntmps105 ?_;refine wB 2 Z fun w b3 Z=>?_;refine wD 7 (v:=I x.it.size) ag Z ?_;refine z2 ?_;refine bw (l1:=[4,5,6,7]) (l2:=[8,9,10,11,12,13,14,15,16,17,18,19,20]) rfl (d:=18) (x.it.size<0\/3840<x.it.size) rfl ?_ ?_
 ·refine ar (d:=14) rfl (fun Y=>?_) fun Y=>?_
  ·exact wq 5
  refine wD 1 (v:=I x.it.size) ag Z ?_;exact wq 3
 refine z1 ?_;refine bw (l1:=[9,10,11,12,13,14,15,16,17,18,19,20]) (l2:=[]) rfl (d:=31) ((x.it.size<0\/3840<x.it.size)\/(x.it.size<=32/\¬(x.it.value.length:Int)=x.it.size)) rfl ?_ ?_
 ·refine ar (d:=19) rfl (fun J=>?_) fun J=>?_
  ·refine z13 ?_;refine cQ ?_
   first|exact(eW (Or.inl (by assumption))).symm|exact bI.2 ⟨fun h=> .inr h,fun h=>h.resolve_left (by assumption)⟩
  refine wD 1 (v:=I x.it.size) ag Z ?_;refine z2 ?_;refine bw (l1:=[13,14,15,16,17,18,19]) (l2:=[20]) rfl (d:=30) (x.it.size<=32/\¬(x.it.value.length:Int)=x.it.size) rfl ?_ ?_
  ·refine ar (d:=23) rfl (fun h3=>?_) fun h3=>?_
   ·refine z1 ?_;refine bg rfl rfl (aD.cw (v:= .slice a2 x.it.value.length c2) ao Z pK (by first|exact aU some hv1|(rw[<-hv1];rfl))) ?_;refine wD 2 (v:=I x.it.size) ag Z ?_;refine z1 ?_;refine iM rfl rfl rfl rfl ?_;refine aK ?_;refine cQ ?_
    first|exact bI.2 ⟨fun h=>⟨by assumption,h⟩,fun h=>h.2⟩|exact(cN (fun h=>by omega)).symm
   refine z6 ?_;refine iw rfl rfl rfl rfl ?_;refine aK ?_;refine cQ ?_
   first|exact bI.2 ⟨fun h=>⟨by assumption,h⟩,fun h=>h.2⟩|exact(cN (fun h=>by omega)).symm
  refine z2 ?_;refine cQ ?_
  first|exact(eW (Or.inl (by assumption))).symm|exact bI.2 ⟨fun h=> .inr h,fun h=>h.resolve_left (by assumption)⟩
 refine aK ?_;refine wI 0 (fun h4=>?_) fun h4=>?_
 ·refine z6 ?_;exact ga rfl rfl rfl rfl (by
 have e:eg rd x.it=(8,[]):=by unfold eg;rw[aB h4]
 rw[e];exact⟨_,rfl,bB (Z.b [N b3 _ _]).tail _ _⟩)
 refine wD 5 (v:=I x.it.size) ag Z ?_;refine wI 2 (fun h5=>?_) fun h5=>?_
 ·refine wD 3 (v:=x.vv) ao Z ?_;refine aO rfl bX rfl (cy Z (E.v.of sF) E.sv) rfl fun w v37 hv=>?_;have Z:aw G (row 5 1 v37 x.it.value.length (cI x.it.value)::_) _:=hv;refine z4 ?_;exact ga rfl rfl rfl rfl (by
 have e:eg rd x.it=(0,x.it.value):=by unfold eg;rw[aj h4,aB h5]
 rw[e];exact⟨_,rfl,(Z.b [N b3 _ _]).tail⟩)
 refine z3 ?_;refine IY rfl aR bo Z rfl fun w b38 Z=>?_;refine wD 5 (v:=I x.it.child) ag Z ?_;refine z4 ?_;have rJ:eg rd x.it=uv rd x.it.size x.it.size.toNat x.it.child []:=by unfold eg;rw[aj h4,aj h5]
 have Z:=lC (xs:=[]) (m:=0) (cap:=0) (z:=1) (by rw[lE];exact Z) rfl (fP _) mL sM;have Z:=Z.b [row 5 1 _ 0 _,N b3 _ _,N q _ _,row 3 _ _ _ _,row 4 _ _ _ _,row 104 _ _ _ _];refine bx (fun m e w=>∃(f:Nat) (n:Int) (out:bZ) (u:C),m=f+1/\e=[(0,pQ q),(3,pQ b3),(6,u),(7,I n)]/\(eg rd x.it=uv rd x.it.size f n out/\x.it.size<=out.length+f/\(out.length:Int)<=3840)/\aw G (row 5 1 u out.length (cI out)::N b3 x.cells 198::nj q v (gz S::L)) w)
  (m:=x.it.size.toNat+1) sB
  ⟨x.it.size.toNat,x.it.child,[],_,rfl,rfl,⟨rJ,by simp;omega,by simp⟩,Z⟩ ?_
 rintro m e w ⟨f,n,out,u,rfl,rfl,⟨BE,hf1,hf2⟩,Z⟩;obtain⟨ua,uc,rfl⟩:=aT Z;refine wD 6 (v:=I x.it.size) ag Z ?_;refine wI 2 (fun h6=>?_) fun h6=>?_
 ·obtain⟨f,rfl⟩:∃g,f=g+1:=⟨f-1,H⟩;rw[uv,aj H]at BE;refine z6 ?_;refine aO rfl ru rfl (KX (n:=n) hI (Z.b [N q _ _,row 3 _ _ _ _,row 4 1 v.lv _ _,row 104 _ _ _ _,gz S])) rfl fun w v49 hv=>?_;obtain⟨p',er,A,rfl,nq,kB,Z⟩:=hv;refine wL 3 bW Z fun w b8 Z=>?_;refine wN 0 (cs:=p'.cells) (l':=p'.cells) ay nq Z fun w Z=>?_;refine z8 ?_;refine bw (l1:=[3,4,5,6]) (l2:=[]) rfl (d:=58) (er≠0\/¬p'.kind=3) rfl ?_ ?_
  ·refine ar (d:=54) rfl (fun h7=>?_) fun h7=>?_
   ·exact wq 5
   refine wD 1 (v:=I p'.kind) ag Z ?_;exact wq 3
  refine aK ?_;refine wI 0 (fun h8=>?_) fun h8=>?_
  ·refine z6 ?_;exact ga rfl rfl rfl rfl (by
 rcases kB with⟨hr,rfl,rfl,rfl⟩|⟨hr,rfl,rfl,oR⟩
 ·rw[hr]at BE;rw[BE];exact⟨_,rfl,bB (Z.b [N b8 _ _,bt [],row 5 1 _ _ _,N b3 _ _,N q _ _,row 3 _ _ _ _,row 4 1 v.lv _ _,row 104 _ _ _ _]).t4 _ _⟩
 ·rw[hr]at BE;simp only at BE
  rw[aB (by show¬p'.kind=3;omega)]at BE;rw[BE];exact⟨_,rfl,bB (Z.b [N b8 _ _,fg p',row 5 1 _ _ _,N b3 _ _,N q _ _,row 3 _ _ _ _,row 4 1 v.lv _ _,row 104 _ _ _ _]).t4 _ _⟩)
  obtain⟨hr,rfl,rfl,oR⟩:=kB.resolve_left (fun h=>by have:=h.2.1;omega);rw[hr]at BE;simp only at BE
  rw[aj (by show¬¬p'.kind=3;omega)]at BE;have YG:p'.Ok [fg p']:=cL oR .here;obtain⟨da,dc,hd⟩:∃da dc,p'.d= .slice da p'.data.length dc:=by
   obtain⟨a,c,h⟩:=(YG.data.at (Z.pick (A:=fg p') pK).head).form;exact⟨a,c,h⟩
  refine wD 4 (v:=I x.it.size) ag Z ?_;refine z5 ?_;refine qg (fun e w=>e=[(0,pQ q),(3,pQ b3),(6, .slice ua out.length uc),(8,pQ b8),(10,I (min (x.it.size-out.length) 480))]/\aw G (N b8 p'.cells 104::fg p'::row 5 1 (.slice ua out.length uc) out.length (cI out)::N b3 x.cells 198::nj q v (gz S::L)) w) ?_ ?_
  ·refine wI 5 (fun h9=>?_) fun h9=>?_
   ·refine z3 ?_;have RN:(480:Int)=min (x.it.size-out.length) 480:=H;exact⟨[(0,_),(3,_),(6,_),(8,_),(10,I 480)],sB,by rw[<-RN],Z.b [N b8 _ _,fg p',row 5 1 (.slice ua out.length uc) _ _,N b3 _ _,N q _ _,row 3 _ _ _ _,row 4 1 v.lv _ _,row 104 _ _ _ _]⟩
   refine jo ?_;have RN:x.it.size-out.length=min (x.it.size-out.length) 480:=H;exact⟨[(0,_),(3,_),(6,_),(8,_),(10,I (x.it.size-out.length))],sB,by rw[<-RN],Z.b [N b8 _ _,fg p',row 5 1 (.slice ua out.length uc) _ _,N b3 _ _,N q _ _,row 3 _ _ _ _,row 4 1 v.lv _ _,row 104 _ _ _ _]⟩
  clear Z;rintro e w ⟨rfl,Z⟩;refine z4 ?_;refine bg rfl rfl (aD.cw (v:= .slice da p'.data.length dc) ao Z pK (by first|exact aU some hd|(rw[<-hd];rfl))) ?_;refine z4 ?_;refine bw (l1:=[6,7,8,9,10,11,12,13,14,15,16,17]) (l2:=[]) rfl (d:=83) (¬((p'.data.length:Int)=min (x.it.size-out.length) 480/\(p'.next=0↔x.it.size-out.length<=480))) rfl ?_ ?_
  ·refine ar (d:=71) rfl (fun jR=>?_) fun jR=>?_
   ·refine z13 ?_;refine cQ ?_
    first|(symm;rw[decide_eq_true_eq];intro h;exact aS h.1 jR)|(have hq:=dg.1 jR;have hb:(out.length:Int)+min (x.it.size-out.length) 480=x.it.size↔x.it.size-out.length<=480:=H;exact bI.2 ⟨fun h J=>h (bI.2 (J.2.trans hb.symm)),fun h J=>h ⟨hq,(bI.1 J).trans hb⟩⟩)
   refine wD 1 (v:=I p'.next) ag Z ?_;refine z4 ?_;refine CG rfl rfl rfl H ?_;refine wD 1 (v:=I x.it.size) ag Z ?_;refine z1 ?_;refine QC rfl kR LW rfl rfl ?_;refine z2 ?_;refine cQ ?_
   first|(symm;rw[decide_eq_true_eq];intro h;exact aS h.1 jR)|(have hq:=dg.1 jR;have hb:(out.length:Int)+min (x.it.size-out.length) 480=x.it.size↔x.it.size-out.length<=480:=H;exact bI.2 ⟨fun h J=>h (bI.2 (J.2.trans hb.symm)),fun h J=>h ⟨hq,(bI.1 J).trans hb⟩⟩)
  refine aK ?_;refine wI 0 (fun qH=>?_) fun qH=>?_
  ·refine z6 ?_;exact ga rfl rfl rfl rfl (by
 rw[aB (show¬((p'.pg.data.length:Int)=min (x.it.size-out.length) 480/\(p'.pg.next=0↔x.it.size-out.length<=480)) from qH)]at BE;rw[BE];exact⟨_,rfl,bB (Z.b [N b8 _ _,fg p',row 5 1 (.slice ua _ uc) _ _,N b3 _ _,N q _ _,row 3 _ _ _ _,row 4 1 v.lv _ _,row 104 _ _ _ _]).t4 _ _⟩)
  rw[aj (show¬¬((p'.pg.data.length:Int)=min (x.it.size-out.length) 480/\(p'.pg.next=0↔x.it.size-out.length<=480)) from qH)]at BE;obtain⟨SZ,hnx⟩:=dg.1 qH;refine z5 ?_;refine bg rfl rfl (aD.cw (v:= .slice da p'.data.length dc) ao Z pK (by first|exact aU some hd|(rw[<-hd];rfl))) ?_;have hsb:eB (.slice da p'.data.length dc) p'.data w:=by rw[<-hd];exact YG.data.at (Z.pick (A:=fg p') pK).head
  obtain⟨db,od,dc',hda,-⟩:=hsb.arm H;cases hda;have sA:Rd w ⟨db,od,none⟩ (cI p'.data):=by
   rcases hsb with⟨_,h⟩|⟨_,_,_,Y,_,h3⟩
   ·rw[h]at SZ;simp only[DY]at SZ;omega
   cases Y;exact h3
  refine eF (m:=out.length) (k:=p'.data.length) (news:=cI p'.data) rfl aR bo fF eU rfl rfl Z pK sA (by rw[dH];omega) (k6 _) mL H rfl (fun w Ze Z=>?_);refine wD 4 (v:=I p'.next) ag Z ?_;refine z2 ?_;have hz:=(Z.b [N b8 _ _,fg p',row 5 1 Ze _ _,N b3 _ _,N q _ _,row 3 _ _ _ _,row 4 1 v.lv _ _,row 104 _ _ _ _]).t2;refine⟨f+1,H,[(0,_),(3,_),(6,Ze),(7,I p'.next)],sB,f,p'.next,out++p'.data,Ze,rfl,rfl,⟨BE,by rw[di];omega,by rw[di];omega⟩,?_⟩;rw[di,xL];exact hz
 refine z8 ?_;exact ga rfl rfl rfl rfl (by
 rw[JP _ _ _ _ _ H]at BE;rw[BE];exact⟨_,rfl,(Z.b [N b3 _ _,row 5 1 (.slice ua _ uc) _ _,N q _ _,row 3 _ _ _ _,row 4 1 v.lv _ _,row 104 _ _ _ _]).tail⟩)
abbrev Pr:=bZ×bZ
def O5(rd:Int->Option Pg)(x:It):Pr:=(x.key,(eg rd x).2)
def jU(rd:Int->Option Pg):Nat->Int->Prop
 |0,n=>∃p,rd n=some p/\p.kind=1/\∀x∈p.items,(eg rd x).1=0
 |k+1,n=>∃p,rd n=some p/\p.kind=2/\∀x∈p.items,jU rd k x.child
def jY(rd:Int->Option Pg):Nat->Int->List Pr
 |0,n=>match rd n with
  |none=>[]
  |some p=>p.items.map (O5 rd)
 |k+1,n=>match rd n with
  |none=>[]
  |some p=>p.items.flatMap fun x=>jY rd k x.child
def qo(rd:Int->Option Pg):Nat->Int->Nat
 |0,_=>1
 |k+1,n=>match rd n with
  |none=>1
  |some p=>1+(p.items.map fun x=>qo rd k x.child).sum
def Re(rd:Int->Option Pg)(k:Nat)(n:Int):1<=qo rd k n:=by
 cases k with
 |zero=>exact fP _
 |succ k=>rw[qo];split<;>omega
def lg(k:Nat)(p:Pg):List (Int×Nat):=if p.kind=2 then p.items.map (fun x=>(x.child,k-1))else []
def xR(rd:Int->Option Pg)(st:List (Int×Nat)):List Pr:=st.reverse.flatMap fun x=>jY rd x.2 x.1
def mX(rd:Int->Option Pg)(st:List (Int×Nat)):Nat:=(st.map fun x=>qo rd x.2 x.1).sum
def JL(rd:Int->Option Pg):∀st:List (Int×Nat),st.length<=mX rd st
 |[]=>fP _
 |x::st=>by
  have:=JL rd st;have:=Re rd x.2 x.1;unfold mX at*;simp only[kZ,ey,QS];omega
def vG(rd:Int->Option Pg)(a b:List (Int×Nat)):mX rd (a++b)=mX rd a+mX rd b:=by unfold mX;rw[jX,List.sum_append]
def NO(rd:Int->Option Pg)(a b:List (Int×Nat)):xR rd (a++b)=xR rd b++xR rd a:=by unfold xR;rw[aci,TI]
def JK(rd:Int->Option Pg):∀a:List (Int×Nat),mX rd a.reverse=mX rd a
 |[]=>rfl
 |x::a=>by
  have ih:=JK rd a;rw[List.reverse_cons,vG,ih];unfold mX;simp only[ey,l9,QS,List.sum_nil];omega
def Tp{rd:Int->Option Pg}(h:jU rd k n):∃p,rd n=some p/\(p.kind=1\/p.kind=2)/\(p.kind=1->∀x∈p.items,(eg rd x).1=0)/\(∀x∈lg k p,jU rd x.2 x.1)∧
  jY rd k n=(if p.kind=1 then p.items.map (O5 rd)else [])++xR rd (lg k p).reverse/\qo rd k n=1+mX rd (lg k p):=by
 cases k with
 |zero=>
  obtain⟨p,Y,J,h3⟩:=h;have e:lg 0 p=[]:=by unfold lg;rw[aj H]
  refine⟨p,Y, .inl J,fun _=>h3,(by rw[e];intro x E;cases E),?_,by rw[e];rfl⟩;rw[e,jY,Y,aB J];simp[xR]
 |succ k=>
  obtain⟨p,Y,J,h3⟩:=h;have e:lg (k+1) p=p.items.map (fun x=>(x.child,k)):=by unfold lg;rw[aB J];rfl
  refine⟨p,Y, .inr J,fun h=>by omega,?_,?_,?_⟩
  ·rw[e];intro x E;obtain⟨y,hy,rfl⟩:=dY.1 E;exact h3 y hy
  ·rw[e,jY,Y,aj H];unfold xR;rw[List.reverse_reverse,List.flatMap_map];rfl
  rw[e,qo,Y];unfold mX;rw[Fz];rfl
structure lX where
 pr:Pr
 kv:C
 vv:C
def lX.cells(x:lX):List C:=[x.kv,x.vv]
def cO(x:lX):List aF:=[row 5 1 x.kv x.pr.1.length (cI x.pr.1),row 5 1 x.vv x.pr.2.length (cI x.pr.2)]
abbrev ahZ(u:C)(l:List lX)(L:List aF):List aF:=row 66 2 u l.length (l.map lX.cells).flatten::bt (l.flatMap cO)::L
def PQ{rd:Int->Option Pg}(hI:tM rd v S)(Z:aw G (nj q v (gz S::L)) w)(hs:t.root≠0->jU rd (t.bh-1).toNat t.root)(hb:t.root≠0->(jY rd (t.bh-1).toNat t.root).length<=1000000000/\qo rd (t.bh-1).toNat t.root<=1000000000):
  aA prog 47 #[pQ q,gQ (dI t)] w (bU fun r w'=>∃l:List lX,l.map lX.pr=(if t.root=0 then []else jY rd (t.bh-1).toNat t.root)/\aw G (ahZ r l (nj q v (gz S::L))) w'):=by
 obtain⟨pb,pc,My⟩:=hI.pv (Z.b [N q _ _,row 3 1 v.cv _ _,row 4 1 v.lv _ _,row 104 _ _ _ _]);have hN:=hI.len;have hP:=hI.O6;have jr:∀R,aL (row 104 5 v.pv v.p.length (v.p.map dL.cells).flatten::R) (jk 5 (.slice (some ⟨pb,0,none⟩) v.p.length pc) (v.p.map dL.cells)):=fun R=>by
  rw[My];exact(jk.row sM (NS v.p)).head R
 refine wF [_,_] func47 ntmps47 ?_;refine wB 2 Z fun w b3 Z=>?_;refine wD 6 (v:=I t.root) ag Z ?_;refine wI 2 (fun Y=>?_) fun Y=>?_
 ·refine z5 ?_;exact dt rfl rfl rfl (by
 refine⟨[],by rw[aB Y];rfl,?_⟩;have hz:=(Z.b [N b3 _ _]).tail;exact bB (aw.bJ (M:=[]) hz) 66 2)
 have hs:=hs Y;have hb:=hb Y;rw[aj Y];obtain⟨kk,Fg⟩:∃kk,kk=(t.bh-1).toNat:=⟨_,rfl⟩;rw[<-Fg]at hs hb;rw[<-Fg];refine wD 8 (v:=I t.root) ag Z ?_;refine fb (cs:=[I t.root]) rfl aY bF fh dM rfl rfl rfl Z rfl fun w b18 Z=>?_;refine z4 ?_;have Z:=jx (z:=1) (m:=1) Z rfl mL;have Z:=bB (aw.bJ (M:=[]) Z) 66 2;have Z:=Z.b [row 3 1 (.slice (some ⟨b18,0,none⟩) _ _) _ _,row 66 _ _ _ _,bt [],N b3 _ _,N q _ _,row 3 1 v.cv _ _,row 4 1 v.lv _ _,row 104 _ _ _ _];have Z:aw G (row 3 1 (.slice (some ⟨b18,0,none⟩) 1 1) [(t.root,kk)].length (bf ([(t.root,kk)].map (·.1)))::row 66 2 (nQ) ([]:List lX).length (([]:List lX).map lX.cells).flatten::bt (([]:List lX).flatMap cO)::N b3 (dI t) 62::nj q v (gz S::L)) w:=Z;refine bx (fun m e w=>∃(st:List (Int×Nat)) (ol:List lX) (tv ov:C),m=mX rd st/\e=[(0,pQ q),(5,ov),(6,tv)]/\((∀x∈st,jU rd x.2 x.1)/\jY rd kk t.root=ol.map lX.pr++xR rd st/\mX rd st<=1000000000)/\aw G (row 3 1 tv st.length (bf (st.map (·.1)))::row 66 2 ov ol.length (ol.map lX.cells).flatten::bt (ol.flatMap cO)::N b3 (dI t) 62::nj q v (gz S::L)) w)
  (m:=mX rd [(t.root,kk)]) sB
  ⟨[(t.root,kk)],[],_,_,rfl,rfl,⟨by intro x E;simp at E;subst E;exact hs,by simp[xR],by simpa [mX]using hb.2⟩,Z⟩ ?_
 rintro m e w ⟨st,ol,tv,ov,rfl,rfl,⟨jQ,CY,hns⟩,Z⟩;obtain⟨ta,tc,rfl⟩:=aT Z;obtain⟨oa,oc,rfl⟩:=aT (Z.pick (A:=row 66 2 ov _ _) pK);refine wI 7 (fun J=>?_) fun J=>?_
 ·have aih:0<st.length:=H;obtain⟨eP,x,rfl⟩:∃eP x,st=eP++[x]:=⟨st.dropLast,st.getLast (by intro h;subst h;simp at aih),(Xe _).symm⟩;obtain⟨n,k⟩:=x;obtain⟨p,hp,aew,rJ,Uu,hft,hnt⟩:=Tp (jQ (n,k) sM);simp only at hft hnt Uu hp;have acT:∀x∈eP,jU rd x.2 x.1:=fun x E=>jQ x (lT _ E)
  have hc:=hI.th (n:=n) (by rw[hp];simp);obtain⟨pg,uR,RK,Pt,sA,lr⟩:=hI.yes n hc;rw[hp]at sA;cases sA;have Ha:=qJ hc;have hpr:(v.p.map dL.cells)[(n-1).toNat]?=some pg.cells:=by rw[dh,uR];rfl
  have hl9:=JL rd eP;have ag7:mX rd (eP++[(n,k)])=mX rd eP+qo rd k n:=by rw[vG];simp[mX]
  have hlen:(eP++[(n,k)]).length=eP.length+1:=by simp
  rw[hlen]at Z;rw[hlen];have XQ:(bf ((eP++[(n,k)]).map (·.1)))[eP.length]?=some (I n):=by simp[bf]
  obtain⟨-,tb,-,hta,htc,-⟩:=fZ Z H;subst hta;have zy:aL (row 3 1 (.slice (some ⟨tb,0,none⟩) (eP.length+1) tc) (eP.length+1) (bf ((eP++[(n,k)]).map (·.1)))::row 66 2 (.slice oa ol.length oc) ol.length (ol.map lX.cells).flatten::bt (ol.flatMap cO)::N b3 (dI t) 62::nj q v (gz S::L)) (oJ (.slice (some ⟨tb,0,none⟩) (eP.length+1) tc) (bf ((eP++[(n,k)]).map (·.1)))):=by
   have h:=oz (v:= .slice (some ⟨tb,0,none⟩) (eP.length+1) tc) (c:=(eP++[(n,k)]).map (·.1)) (R:=row 66 2 (.slice oa ol.length oc) ol.length (ol.map lX.cells).flatten::bt (ol.flatMap cO)::N b3 (dI t) 62::nj q v (gz S::L));rw[cg,hlen]at h;exact h
  refine wY 8 aY bF ?_;refine bg rfl rfl (aD.one (v:=I n) ag (by
 have e:(((eP.length+1:Nat):Int)-1).toNat=eP.length:=H;exact(zy.at Z).at (by rw[e];exact XQ))) ?_
  refine z8 ?_;refine y0 rfl aY IF rfl sM rfl ⟨H,H⟩ ?_;have V5:(((eP.length+1:Nat):Int)-1).toNat=eP.length:=H;rw[V5];have Z:=IG Z (j:=eP.length) H;have Ui:(bf ((eP++[(n,k)]).map (·.1))).take eP.length=bf (eP.map (·.1)):=by simp[bf]
  rw[Ui]at Z;refine z7 ?_;refine wC rfl jl rfl (jB (q:=q) (v:=v) (n:=n) (Z.b [N q _ _,row 3 1 v.cv _ _,row 4 1 v.lv _ _,row 104 _ _ _ _]) hN) fun w Z=>?_
  refine cU rfl rfl ?_;refine aK ?_;refine wI 0 (fun h3=>?_) fun h3=>?_
  ·exact aS hc h3
  obtain⟨ia,ic,G6⟩:∃ia ic,pg.s= .slice ia pg.l.length ic:=by
   obtain⟨ia,ic,hs,-,-⟩:=((lB RK Pt pK).its.sl.at Z).form;rw[cg]at hs;exact⟨ia,ic,hs⟩
  have wy:pg.pg.items.length=pg.l.length:=by simp[dL.pg]
  have hp8:=(ij lr).1;have wz:∀R,aL (gz S::R) (jk 4 (.slice ia pg.l.length ic) (pg.l.map cP.cells)):=fun R=>by rw[<-G6];exact(lB (L:=gz S::R) RK Pt .here).its.sl
  have yp:(lg k pg.pg).length=if pg.kind=2 then pg.l.length else 0:=by
   unfold lg
   show(if pg.kind=2 then _ else _:List (Int×Nat)).length=_
   split
   ·rw[cg,wy]
   rfl
  refine z6 ?_;refine bg rfl rfl (aD.cw (v:= .slice (some ⟨pb,0,none⟩) v.p.length pc) eI Z pK (by first|exact aU some My|(rw[<-My];rfl))) ?_;refine wX 2 gw iR ?_;refine bg rfl rfl (aD.many (cs:=pg.cells) ay rfl (((jr _).of sF).at Z|>.at hpr)) ?_;refine wL 0 bW Z fun w b8 Z=>?_;refine ue (cs:=pg.cells) (l':=pg.cells) rfl tV rfl rfl ay rfl (jz (lB RK Pt pK) Z) Z pK (by simp[dL.cells]) rfl rfl fun w Z=>?_;refine z5 ?_;refine bg rfl rfl (aD.cw (v:= .slice ia pg.l.length ic) aH Z pK (by first|exact aU some G6|(rw[<-G6];rfl))) ?_;refine z5 ?_;have hz:=Z.b [row 3 1 (.slice (some ⟨tb,0,none⟩) _ _) _ _,row 66 _ _ _ _,bt (ol.flatMap cO),N b8 _ _,N b3 _ _,N q _ _,row 3 1 v.cv _ _,row 4 1 v.lv _ _,row 104 _ _ _ _,gz S];clear Z;have Z:=hz;clear hz;refine bx (fun m e w=>∃(j:Nat) (tv:C),j<=(lg k pg.pg).length/\m=(lg k pg.pg).length-j/\e=[(0,pQ q),(5, .slice oa ol.length oc),(6,tv),(8,pQ b8),(9,I ((pg.l.length:Int)-1-j))]/\aw G (row 3 1 tv (eP.length+j) (bf ((eP++(lg k pg.pg).reverse.take j).map (·.1)))::row 66 2 (.slice oa ol.length oc) ol.length (ol.map lX.cells).flatten::bt (ol.flatMap cO)::N b8 pg.cells 104::N b3 (dI t) 62::nj q v (gz S::L)) w)
   (m:=(lg k pg.pg).length) (e₀:=[(0,pQ q),(5, .slice oa ol.length oc),(6, .slice (some ⟨tb,0,none⟩) eP.length tc),(8,pQ b8),(9,I ((pg.l.length:Int)-1))]) sB
   ⟨0, .slice (some ⟨tb,0,none⟩) eP.length tc,de _,rfl,by simp,by rw[DX,kF];exact Z⟩ ?_
  rintro m e w ⟨j,tv,hj,rfl,rfl,Z⟩;obtain⟨ta,tc2,rfl⟩:=aT Z;refine z6 ?_;refine bw (l1:=[3,4,5,6]) (l2:=[]) rfl (d:=55) (0<=(pg.l.length:Int)-1-j/\pg.kind=2) rfl ?_ ?_
  ·refine ar (d:=51) rfl (fun h4=>?_) fun h4=>?_
   ·refine wD 1 (v:=I pg.kind) ag Z ?_;exact wq 3
   exact wq 5
  refine aK ?_;refine wI 0 (fun h5=>?_) fun h5=>?_
  ·have pU:j<pg.l.length:=H;have RP:pg.pg.kind=2:=h5.2;rw[aB h5.2]at yp;obtain⟨x,E⟩:∃x,pg.l[pg.l.length-1-j]?=some x:=⟨_,dG H⟩;have kA:(pg.l.map cP.cells)[pg.l.length-1-j]?=some x.cells:=by rw[dh,E];rfl
   obtain⟨ib,io,hia⟩:=(((wz _).of sF).at Z).nn (by rw[cg];omega);subst hia;have hkx:(lg k pg.pg).reverse[j]?=some (x.it.child,k-1):=by
    rw[List.getElem?_reverse H,yp];unfold lg;rw[aB RP]
    show((pg.l.map cP.it).map _)[_]?=_
    rw[dh,dh,E];rfl
   refine z6 ?_;refine bg rfl rfl (aD.cw (v:= .slice (some ⟨ib,io,none⟩) pg.l.length ic) aH Z pK (by first|exact aU some G6|(rw[<-G6];rfl))) ?_;refine wX 1 aV bz ?_;refine cC rfl nM rfl ?_;refine bg rfl rfl (aD.one (v:=I x.it.child) ag (by
 have h:=((((wz _).of sF).at Z).at kA) 2 _ rfl;rw[eK]at h;have e:((pg.l.length:Int)-1-j).toNat=pg.l.length-1-j:=H;rw[e];exact h)) ?_
   refine fb (cs:=[I x.it.child]) rfl aY bF fh dM rfl rfl rfl Z rfl fun w b65 Z=>?_;refine eF (m:=eP.length+j) (k:=1) (news:=[I x.it.child]) rfl aY bF j7 fh rfl rfl Z pK (Rd.iq Z pK) rfl (by intro u hu;simp at hu;subst hu;rfl) mL H rfl (fun w v66 Z=>?_);refine z7 ?_;have hz:=(Z.b [N b65 _ _,row 3 1 v66 _ _,row 66 _ _ _ _,bt (ol.flatMap cO),N b8 _ _,N b3 _ _,N q _ _,row 3 1 v.cv _ _,row 4 1 v.lv _ _,row 104 _ _ _ _,gz S]).tail;have e1:bf ((eP++(lg k pg.pg).reverse.take (j+1)).map (·.1))=bf ((eP++(lg k pg.pg).reverse.take j).map (·.1))++[I x.it.child]:=by
    rw[bV hkx,<-gm,jX,<-ln];rfl
   have RQ:(pg.l.length:Int)-1-j-1=(pg.l.length:Int)-1-((j+1:Nat):Int):=H;rw[RQ];refine⟨(lg k pg.pg).length-(j+1),H,[(0,_),(5,_),(6,v66),(8,_),(9,I ((pg.l.length:Int)-1-((j+1:Nat):Int)))],sB,j+1,v66,H,rfl,rfl,?_⟩;rw[e1];exact hz
  have VO:j=(lg k pg.pg).length:=by
   rw[yp]at hj ⊢;split at hj<;>(rename_i hk;first|rw[aB hk]|rw[aj hk])<;>omega
  subst VO;rw[kH sM,<-show(eP++(lg k pg.pg).reverse).length=eP.length+(lg k pg.pg).length by simp]at Z;rw[<-show(eP++(lg k pg.pg).reverse).length=eP.length+(lg k pg.pg).length by simp];have hnk:mX rd (eP++(lg k pg.pg).reverse)<mX rd (eP++[(n,k)]):=by rw[ag7,vG,JK];omega
  obtain⟨Fs,XR⟩:∃Fs,Fs=eP++(lg k pg.pg).reverse:=⟨_,rfl⟩;have aid:∀x∈Fs,jU rd x.2 x.1:=fun x E=>by
   rw[XR]at E;rcases eZ.1 E with E|E
   ·exact acT x E
   exact Uu x (List.mem_reverse.1 E)
  have aaY:jY rd kk t.root=(ol.map lX.pr++if pg.pg.kind=1 then pg.pg.items.map (O5 rd)else [])++xR rd Fs:=by
   rw[CY,XR,NO,NO,gm,<-gm (if pg.pg.kind=1 then _ else _),<-hft];simp[xR]
  rw[<-XR]at Z hnk;rw[<-XR];have Uv:=aU List.length aaY;simp only[di,cg]at Uv
  refine z6 ?_;refine bx (fun m e w=>∃(j:Nat) (SR:List lX) (ov:C),j<=pg.l.length/\m=pg.l.length-j/\e=[(0,pQ q),(5,ov),(6, .slice ta Fs.length tc2),(8,pQ b8),(10,I j)]/\((¬pg.kind=1->j=0)/\SR.map lX.pr=ol.map lX.pr++(pg.pg.items.take j).map (O5 rd)/\SR.length=ol.length+j)/\aw G (row 3 1 (.slice ta Fs.length tc2) Fs.length (bf (Fs.map (·.1)))::row 66 2 ov SR.length (SR.map lX.cells).flatten::bt (SR.flatMap cO)::N b8 pg.cells 104::N b3 (dI t) 62::nj q v (gz S::L)) w)
   (m:=pg.l.length) sB
   ⟨0,ol,_,de _,rfl,rfl,⟨fun _=>rfl,by simp,rfl⟩,Z⟩ ?_
  rintro m e w ⟨j,SR,ov,hj,rfl,rfl,⟨hj0,hol,acV⟩,Z⟩;obtain⟨oa2,oc2,rfl⟩:=aT (Z.pick (A:=row 66 2 ov _ _) pK);refine z5 ?_;refine bg rfl rfl (aD.cw (v:= .slice ia pg.l.length ic) aH Z pK (by first|exact aU some G6|(rw[<-G6];rfl))) ?_;refine z3 ?_;refine bw (l1:=[6,7,8,9]) (l2:=[]) rfl (d:=76) ((j:Int)<pg.l.length/\pg.kind=1) rfl ?_ ?_
  ·refine ar (d:=72) rfl (fun h6=>?_) fun h6=>?_
   ·refine wD 1 (v:=I pg.kind) ag Z ?_;exact wq 3
   exact wq 5
  refine aK ?_;refine wI 0 (fun h7=>?_) fun h7=>?_
  ·have IN:pg.pg.kind=1:=h7.2;rw[aB IN]at Uv aaY;have pU:j<pg.l.length:=H;obtain⟨x,E⟩:∃x,pg.l[j]?=some x:=⟨_,dG pU⟩;have kA:(pg.l.map cP.cells)[j]?=some x.cells:=by rw[dh,E];rfl
   have G5:pg.pg.items[j]?=some x.it:=by show(pg.l.map cP.it)[_]?=_;rw[dh,E];rfl
   have lG:∀R,x.Ok (gz S::R):=fun R=>(lB (L:=gz S::R) RK Pt .here).its.it x (fK E)
   have ahd:=rJ IN x.it (fK G5);obtain⟨ib,io,hia⟩:=(((wz _).of sF).at Z).nn (by rw[cg];omega);subst hia;rw[cg,wy]at Uv;refine z7 ?_;refine bg rfl rfl (aD.cw (v:= .slice (some ⟨ib,io,none⟩) pg.l.length ic) aH Z pK (by first|exact aU some G6|(rw[<-G6];rfl))) ?_;refine wX 1 aV bz ?_;refine bg rfl rfl (aD.many (cs:=x.cells) bA rfl (by have h:=(((wz _).of sF).at Z).at kA;rw[cZ];exact h)) ?_;refine aO rfl Lv rfl (MW (x:=x) hI (Z.b [N q _ _,row 3 1 v.cv _ _,row 4 1 v.lv _ _,row 104 _ _ _ _,gz S]) (lG _)) rfl fun w v86 hv=>?_;obtain⟨u,rfl,Z⟩:=hv;rw[ahd];obtain⟨ua,uc,rfl⟩:=aT Z;refine wI 12 (fun h8=>?_) fun h8=>?_
   ·exact aS rfl h8
   refine z4 ?_;refine bg rfl rfl (aD.cw (v:= .slice (some ⟨ib,io,none⟩) pg.l.length ic) aH Z pK (by first|exact aU some G6|(rw[<-G6];rfl))) ?_;refine wX 1 aV bz ?_;refine cC rfl gu rfl ?_;refine bg rfl rfl (aD.one (v:=x.kv) ao ((((wz _).of sF).at Z).cell (j:=0) kA rfl)) ?_;refine aO rfl bX rfl (cy (l:=x.it.key) Z ((lG _).k.of sF) (lG []).sk) rfl fun w v98 hv=>?_;have Z:aw G (row 5 1 v98 x.it.key.length (cI x.it.key)::_) _:=hv;obtain⟨ka,kc,rfl⟩:=aT Z;refine wV 1 (v:= .agg #[.slice ka x.it.key.length kc, .slice ua (eg rd x.it).2.length uc]) ?_;refine fb (cs:=[.slice ka x.it.key.length kc, .slice ua (eg rd x.it).2.length uc]) rfl iY oO ud dM rfl rfl rfl Z rfl fun w ajk Z=>?_;refine eF (m:=SR.length) (k:=1) (news:=[.slice ka x.it.key.length kc, .slice ua (eg rd x.it).2.length uc]) rfl iY oO Hk ud rfl rfl Z pK (Rd.iq Z pK) rfl (by
        intro z hz;simp only[cE,fQ,or_false]at hz;rcases hz with rfl|rfl<;>rfl) mL H rfl (fun w agI Z=>?_)
   refine z7 ?_;have hz:=(Z.b [N ajk _ _,bt (SR.flatMap cO),row 5 1 (.slice ka x.it.key.length kc) _ _,row 5 1 (.slice ua (eg rd x.it).2.length uc) _ _,row 3 1 (.slice ta _ _) _ _,row 66 _ _ _ _,N b8 _ _,N b3 _ _,N q _ _,row 3 1 v.cv _ _,row 4 1 v.lv _ _,row 104 _ _ _ _,gz S]).tail;have hz:=aw.iD (aw.iD hz);have hz:=hz.b [row 3 1 (.slice ta _ _) _ _,row 66 _ _ _ _,bt _];have e1:(SR.flatMap cO++[row 5 1 (.slice ka x.it.key.length kc) x.it.key.length (cI x.it.key)])++[row 5 1 (.slice ua (eg rd x.it).2.length uc) (eg rd x.it).2.length (cI (eg rd x.it).2)]=(SR++[(⟨O5 rd x.it, .slice ka x.it.key.length kc, .slice ua (eg rd x.it).2.length uc⟩:lX)]).flatMap cO:=by simp[cO,O5]
   have e2:(SR.map lX.cells).flatten++[.slice ka x.it.key.length kc, .slice ua (eg rd x.it).2.length uc]=((SR++[(⟨O5 rd x.it, .slice ka x.it.key.length kc, .slice ua (eg rd x.it).2.length uc⟩:lX)]).map lX.cells).flatten:=by simp[lX.cells]
   have e3:SR.length+1=(SR++[(⟨O5 rd x.it, .slice ka x.it.key.length kc, .slice ua (eg rd x.it).2.length uc⟩:lX)]).length:=by simp
   rw[e1,e2,e3]at hz;refine⟨pg.l.length-(j+1),H,[(0,_),(5,_),(6,_),(8,_),(10,I (j+1:Nat))],sB,j+1,SR++[⟨O5 rd x.it, .slice ka x.it.key.length kc, .slice ua (eg rd x.it).2.length uc⟩],agI,H,rfl,rfl,⟨fun h=>aS h7.2 h,?_,by simp;omega⟩,hz⟩;rw[bV G5,jX,jX,hol,gm];rfl
  refine z1 ?_;have hz:=(Z.b [N b8 _ _,row 3 1 (.slice ta _ _) _ _,row 66 _ _ _ _,bt _,N b3 _ _,N q _ _,row 3 1 v.cv _ _,row 4 1 v.lv _ _,row 104 _ _ _ _,gz S]).tail;refine⟨mX rd Fs,hnk,[(0,_),(5,_),(6,_)],sB,Fs,SR,_,_,rfl,rfl,⟨aid,?_,H⟩,hz⟩;rw[aaY,hol]
  congr 2
  by_cases IN:pg.pg.kind=1
  ·have VO:j=pg.l.length:=by
    have:pg.kind=1:=IN;omega
   rw[aB IN,VO,<-wy,qS]
  rw[aj IN,hj0 IN];rfl
 refine z7 ?_;exact dt rfl rfl rfl (by
 have hz:st=[]:=vD H;subst hz;refine⟨ol,by rw[CY];simp[xR],?_⟩;exact(Z.b [row 3 1 (.slice ta _ _) _ _,N b3 _ _,row 66 _ _ _ _,bt _]).t2)
def iG(rd:Int->Option Pg)(n:Int):List Int:=match rd n with
 |none=>[]
 |some p=>cu p
structure ub(rd:Int->Option Pg)(s t:List Int):Prop where
 sub:∀n∈s,n∈t
 new:∀n∈t,n∈s\/(rd n≠none/\∀k∈iG rd n,k∈t)
def ub.refl(rd:Int->Option Pg)(s:List Int):ub rd s s:=⟨fun _ h=>h,fun _ h=> .inl h⟩
def ub.trans{rd:Int->Option Pg}{s t u:List Int}(h:ub rd s t)(h':ub rd t u):ub rd s u:=by
 refine⟨fun n hn=>h'.sub n (h.sub n hn),fun n hn=>?_⟩;rcases h'.new n hn with Y|Y
 ·rcases h.new n Y with J|J
  ·exact .inl J
  exact .inr ⟨J.1,fun k hk=>h'.sub k (J.2 k hk)⟩
 exact .inr Y
def ub.TP{rd:Int->Option Pg}{s t:List Int}(hp:rd n=some p)(h:ub rd (n::s) t)(hk:∀k∈cu p,k∈t):ub rd s t:=by
 refine⟨fun m hm=>h.sub m (kG _ hm),fun m hm=>?_⟩;rcases h.new m hm with Y|Y
 ·rcases cE.1 Y with rfl|Y
  ·exact .inr ⟨by rw[hp];simp,by unfold iG;rw[hp];exact hk⟩
  exact .inl Y
 exact .inr Y
def T4(h:p.kind=3)(hi:p.items=[]):∀k∈cu p,k=p.next/\p.next≠0:=by
 intro k hk;unfold cu at hk;rw[hi]at hk
 simp only[List.filterMap_nil,lE]at hk;split at hk
 ·rename_i Y;simp at hk;exact⟨hk,Y.2⟩
 cases hk
def Ru(h:p.kind=2):cu p=p.items.map It.child:=by
 unfold cu;rw[aj H,kF]
 induction p.items with
 |nil=>rfl
 |cons x l ih=>rw[List.filterMap_cons,aB (.inl h)];simp only[ey];rw[ih]
def T3(h:p.kind=1):∀k∈cu p,∃x∈p.items,x.child=k/\k≠0:=by
 intro k hk;unfold cu at hk;rw[aj H,kF]at hk
 obtain⟨x,E,Y⟩:=ZK.1 hk;split at Y
 ·rename_i J;cases Y;exact⟨x,E,rfl,(J.resolve_left H).2⟩
 cases Y
def mF(h:dv p=0):(1<=p.kind/\p.kind<=3)/\gp p.kind p.level p.next p.items.length p.data.length:=by
 unfold dv at h;simp only[bH]at h
 exact⟨(cG dM).1 h.1.1,(cG dM).1 h.1.2⟩
def Xx(h:dv p=0)(hk:p.kind=1):∀x∈p.items,(0<=x.size/\x.size<=3840)/\(x.size<=32->(x.value.length:Int)=x.size/\x.child=0)/\(1<=x.key.length/\x.key.length<=24):=by
 have key:∀(l:List It) (i:Nat) (cW:bZ),fa p.kind i cW l=0->∀x∈l,(0<=x.size/\x.size<=3840)/\(x.size<=32->(x.value.length:Int)=x.size/\x.child=0)/\(1<=x.key.length/\x.key.length<=24):=by
  intro l
  induction l with
  |nil=>intro i cW _ x E;cases E
  |cons y l ih=>
   intro i cW he x E;simp only[fa,bH]at he;rcases cE.1 E with rfl|E
   ·have Y:=he.1;unfold q8 at Y;simp only[bH]at Y
    have h0:=Y.1;have J:=Y.2.2.1;have h3:=Y.2.2.2;unfold lF at h0;unfold jq at J
    unfold mD at h3;rw[aj H]at h0
    rw[aj H]at J;rw[aj H]at h3
    simp only[bH]at J;refine⟨(cG dM).1 J.1,fun hs=>?_,(cG dM).1 h0⟩;have h4:=J.2;rw[aB hs]at h4 h3
    exact⟨(cG dM).1 h4,(cG dM).1 h3⟩
   exact ih _ _ he.2 x E
 unfold dv at h;simp only[bH]at h
 exact key p.items 0 [] h.2.1
def Ix(rd:Int->Option Pg):Prop:=∀n p,rd n=some p->dv p=0
def Lg{rd:Int->Option Pg}(hr:Ix rd):∀{f:Nat} {left n:Int} {met:List Int},left<=f->(gR rd f left n met).1=0->ub rd met (gR rd f left n met).2/\(0<left->n∈(gR rd f left n met).2)
 |0,left,n,met,hf,_=>⟨ub.refl _ _,fun h=>by omega⟩
 |f+1,left,n,met,hf,h=>by
  rw[gR]at h ⊢;split at h
  ·rename_i h0;rw[aB h0];exact⟨ub.refl _ _,fun h=>by omega⟩
  rename_i h0;rw[aj h0];cases he:cR rd met n with
  |none=>rw[he]at h;cases h
  |some p=>
   rw[he]at h;simp only at h ⊢
   split at h
   ·cases h
   rename_i Y;rw[aj Y];split at h
   ·cases h
   rename_i J;rw[aj J];obtain⟨h3,h4⟩:=Lg hr H h;obtain⟨hk,hp⟩:=gE he;have J:=dg.1 J;have Y:=dg.1 Y;have hfm:=(mF (hr n p hp)).2.2.2 H H;refine⟨ub.TP hp h3 fun k hk=>?_,fun _=>h3.sub n (kf ..)⟩;obtain⟨rfl,h5⟩:=T4 Y (vD hfm.2.1) k hk;exact h4 (by have:=J.2;omega)
def Lh{rd:Int->Option Pg}{size:Int}:∀{f:Nat} {n:Int} {met:List Int} {out:bZ},(gR rd f (size-out.length) n met).1=0->(uv rd size f n out).1=0
 |0,n,met,out,_=>rfl
 |f+1,n,met,out,h=>by
  rw[gR]at h;rw[uv];split at h
  ·rw[aB H]
  rename_i h0;rw[aj H];cases he:cR rd met n with
  |none=>rw[he]at h;cases h
  |some p=>
   rw[he]at h;obtain⟨-,hp⟩:=gE he;rw[hp];simp only at h ⊢
   split at h
   ·cases h
   rename_i Y;rw[aj Y];split at h
   ·cases h
   rename_i J;have J:=dg.1 J;have hq:size-(out.length:Int)-min 480 (size-out.length)=0↔size-(out.length:Int)<=480:=H;have Qj:=J.2;rw[hq]at Qj;rw[aj (not_not_intro ⟨H,Qj⟩)];refine Lh (met:=n::met) ?_;have e:size-((out++p.data).length:Int)=size-out.length-min 480 (size-out.length):=by rw[di];omega
   rw[e];exact h
def XG{rd:Int->Option Pg}(hr:Ix rd){r:Rg}(h:(gV rd x r s).1=0)(E:(0<=x.size/\x.size<=3840)/\(x.size<=32->(x.value.length:Int)=x.size/\x.child=0)):pD r x.key/\ub rd s.1 (gV rd x r s).2.1/\(gV rd x r s).2.2=s.2+1/\(x.child≠0->x.child∈(gV rd x r s).2.1)/\(eg rd x).1=0:=by
 unfold gV at h ⊢;split at h
 ·cases h
 rename_i h0;rw[aj h0];have h0:=dg.1 h0;split at h
 ·rename_i Y;rw[aB Y];have J:=E.2 Y;refine⟨h0,ub.refl _ _,rfl,fun h=>aS J.2 h,?_⟩;unfold eg;rw[aj H,aB Y]
 rename_i Y;rw[aj Y];have J:=Lg hr H h;refine⟨h0,J.1,rfl,fun _=>J.2 H,?_⟩;unfold eg;rw[aj H,aj Y];exact Lh (met:=s.1) (by simpa using h)
def FZ{α:Type}{rd:Int->Option Pg}{g:Nat->α->List Int×Int->Int×List Int×Int}{Q:Nat->α->List Int->Prop}{Mg:α->Nat}(hQ:∀{i x t u},Q i x t->ub rd t u->Q i x u):∀{l:List α} {i:Nat} {s:List Int×Int},(∀j x s,l[j]?=some x->(g (i+j) x s).1=0->ub rd s.1 (g (i+j) x s).2.1/\(g (i+j) x s).2.2=s.2+Mg x/\Q (i+j) x (g (i+j) x s).2.1)->(kC g i l s).1=0->ub rd s.1 (kC g i l s).2.1/\(kC g i l s).2.2=s.2+((l.map Mg).sum:Nat)/\∀j x,l[j]?=some x->Q (i+j) x (kC g i l s).2.1
 |[],i,s,_,_=>⟨ub.refl _ _,by simp[kC],fun j x h=>by simp at h⟩
 |y::l,i,s,hg,h=>by
  rw[kC]at h ⊢;split at h
  ·rename_i h0;exact aS h h0
  rename_i h0;rw[aj h0];have h0:=dg.1 h0;obtain⟨Y,J,h3⟩:=hg 0 y s rfl h0;obtain⟨h4,h5,h6⟩:=FZ (rd:=rd) (g:=g) (Q:=Q) (Mg:=Mg) hQ (l:=l) (i:=i+1) (s:=(g i y s).2) (fun j x s E hh=>by
    have h7:=hg (j+1) x s (by simpa using E);rw[show i+(j+1)=i+1+j by omega]at h7;exact h7 hh) h
  refine⟨Y.trans h4,?_,fun j x E=>?_⟩
  ·rw[h5];simp only[WY]at J;rw[J];simp only[ey,QS];omega
  cases j with
  |zero=>simp at E;subst E;exact hQ h3 h4
  |succ j=>
   have h7:=h6 j x (by simpa using E);rw[show i+(j+1)=i+1+j by omega];exact h7
def qp(rd:Int->Option Pg):Nat->Int->Rg->Prop
 |0,n,r=>∃p,rd n=some p/\(1<=p.items.length)/\∀x∈p.items,pD r x.key
 |k+1,n,r=>∃p,rd n=some p/\(1<=p.items.length)/\∀(i:Nat) (x:It),p.items[i]?=some x->qp rd k x.child (eR r (pT p i))
def Xj{rd:Int->Option Pg}(hr:Ix rd):∀{k:Nat} {n least:Int} {r:Rg} {s:List Int×Int},(eX rd k n least r s).1=0->ub rd s.1 (eX rd k n least r s).2.1/\(eX rd k n least r s).2.2=s.2+(jY rd k n).length/\n∈(eX rd k n least r s).2.1/\jU rd k n/\qp rd k n r:=by
 intro k
 induction k with
 |zero=>
  intro n least r s h;cases he:cR rd s.1 n with
  |none=>rw[me he]at h;cases h
  |some p=>
   obtain⟨-,hp⟩:=gE he;rw[kI he]at h ⊢;split at h
   ·cases h
   rename_i h0;rw[aj h0];split at h
   ·cases h
   rename_i Y;rw[aj Y];have hk:p.kind=1:=by
    unfold lZ at h0;rw[aB rfl]at h0;exact dg.1 h0
   have hli:=Xx (hr n p hp) hk;obtain⟨J,h3,h4⟩:=FZ (rd:=rd) (g:=s3 rd 0 p r) (Mg:=fun _=>1) (Q:=fun _ x t=>pD r x.key/\(x.child≠0->x.child∈t)/\(eg rd x).1=0) (fun hq Z=>⟨hq.1,fun h=>Z.sub _ (hq.2.1 h),hq.2.2⟩) (fun j x s E hh=>by
      obtain⟨a,b,c,d,e⟩:=XG hr (show(gV rd x r s).1=0 from hh) ⟨(hli x (fK E)).1,(hli x (fK E)).2.1⟩;exact⟨b,c,a,d,e⟩) h
   have jg:∀x∈p.items,pD r x.key/\(x.child≠0->x.child∈(kC (s3 rd 0 p r) 0 p.items (n::s.1,s.2)).2.1)/\(eg rd x).1=0:=fun x E=>by
    obtain⟨j,hj⟩:=ZN E;exact h4 j x hj
   refine⟨ub.TP hp J fun c hc=>?_,?_,J.sub n (kf ..),⟨p,hp,hk,fun x E=>(jg x E).2.2⟩,⟨p,hp,((ij (hr n p hp)).2.2.1 hk),fun x E=>(jg x E).1⟩⟩
   ·obtain⟨x,E,rfl,hn⟩:=T3 hk c hc;exact(jg x E).2.1 hn
   have Ob:∀l:List It,(l.map fun _=>1).sum=l.length:=by
    intro l
    induction l with
    |nil=>rfl
    |cons x l ih=>rw[ey,QS,ih,kZ];omega
   rw[h3,jY,hp,Ob];simp
 |succ k ih=>
  intro n least r s h;cases he:cR rd s.1 n with
  |none=>rw[me he]at h;cases h
  |some p=>
   obtain⟨-,hp⟩:=gE he;rw[kI he]at h ⊢;split at h
   ·cases h
   rename_i h0;rw[aj h0];split at h
   ·cases h
   rename_i Y;rw[aj Y];have hk:p.kind=2:=by
    unfold lZ at h0;rw[aj H]at h0;exact(dg.1 h0).1
   obtain⟨J,h3,h4⟩:=FZ (rd:=rd) (g:=s3 rd (k+1) p r) (Mg:=fun x=>(jY rd k x.child).length) (Q:=fun i x t=>x.child∈t/\jU rd k x.child/\qp rd k x.child (eR r (pT p i))) (fun hq Z=>⟨Z.sub _ hq.1,hq.2⟩) (fun j x s E hh=>by
      obtain⟨a,b,c,d,e⟩:=ih (show(eX rd k x.child 4 (eR r (pT p (0+j))) s).1=0 from hh);exact⟨a,b,c,d,e⟩) h
   have jg:∀x∈p.items,x.child∈(kC (s3 rd (k+1) p r) 0 p.items (n::s.1,s.2)).2.1/\jU rd k x.child:=fun x E=>by
    obtain⟨j,hj⟩:=ZN E;exact⟨(h4 j x hj).1,(h4 j x hj).2.1⟩
   refine⟨ub.TP hp J fun c hc=>?_,?_,J.sub n (kf ..),⟨p,hp,hk,fun x E=>(jg x E).2⟩,⟨p,hp,by have:=(ij (hr n p hp)).2.1 hk;omega,fun i x E=>by have:=(h4 i x E).2.2;rwa [mT]at this⟩⟩
   ·rw[Ru hk]at hc;obtain⟨x,E,rfl⟩:=dY.1 hc;exact(jg x E).1
   rw[h3,jY,hp];simp only[List.length_flatMap]
def Ou{rd:Int->Option Pg}:∀{f:Nat} {left n:Int} {met:List Int},met.length<=(gR rd f left n met).2.length
 |0,_,_,_=>fP _
 |f+1,left,n,met=>by
  rw[gR];split
  ·exact fP _
  cases he:cR rd met n with
  |none=>exact fP _
  |some p=>
   simp only;split
   ·simp
   split
   ·simp
   exact Ht sM (Ou (f:=f) (left:=left-min 480 left) (n:=p.next) (met:=n::met))
def aaF{rd:Int->Option Pg}{r:Rg}:s.1.length<=(gV rd x r s).2.1.length:=by
 unfold gV;split
 ·exact fP _
 split
 ·exact fP _
 exact Ou
def Kj{α:Type}{g:Nat->α->List Int×Int->Int×List Int×Int}{Mg:α->Nat}(hg:∀i x s,(g i x s).1=0->s.1.length+Mg x<=(g i x s).2.1.length):∀{l:List α} {i:Nat} {s:List Int×Int},(kC g i l s).1=0->s.1.length+(l.map Mg).sum<=(kC g i l s).2.1.length
 |[],i,s,_=>by simp[kC]
 |y::l,i,s,h=>by
  rw[kC]at h ⊢;split at h
  ·rename_i h0;exact aS h h0
  rename_i h0;rw[aj h0];have Y:=hg i y s (dg.1 h0);have J:=Kj (g:=g) (Mg:=Mg) hg (l:=l) (i:=i+1) (s:=(g i y s).2) h;simp only[ey,QS];omega
def Z4{rd:Int->Option Pg}:∀{k:Nat} {n least:Int} {r:Rg} {s:List Int×Int},(eX rd k n least r s).1=0->s.1.length+qo rd k n<=(eX rd k n least r s).2.1.length:=by
 intro k
 induction k with
 |zero=>
  intro n least r s h;cases he:cR rd s.1 n with
  |none=>rw[me he]at h;cases h
  |some p=>
   rw[kI he]at h ⊢;split at h
   ·cases h
   rename_i h0;rw[aj h0];split at h
   ·cases h
   rename_i Y;rw[aj Y];have J:=Kj (g:=s3 rd 0 p r) (Mg:=fun _=>0) (fun i x s _=>aaF (rd:=rd) (x:=x) (r:=r) (s:=s)) h;rw[qo];simp only[kZ]at J;omega
 |succ k ih=>
  intro n least r s h;cases he:cR rd s.1 n with
  |none=>rw[me he]at h;cases h
  |some p=>
   obtain⟨-,hp⟩:=gE he;rw[kI he]at h ⊢;split at h
   ·cases h
   rename_i h0;rw[aj h0];split at h
   ·cases h
   rename_i Y;rw[aj Y];have J:=Kj (g:=s3 rd (k+1) p r) (Mg:=fun x=>qo rd k x.child) (fun i x s hh=>ih hh) h;rw[qo,hp];simp only[kZ]at J ⊢;omega
structure AK(rd:Int->Option Pg)(t:Tr)(M:List Int):Prop where
 form:jT t
 sound:jU rd (t.bh-1).toNat t.root
 keys:qp rd (t.bh-1).toNat t.root nG
 items:((jY rd (t.bh-1).toNat t.root).length:Int)=t.items
 nd:M.Nodup
 th:∀n∈M,rd n≠none
 root:t.root∈M
 kids:∀n∈M,∀k∈iG rd n,k∈M
 num:qo rd (t.bh-1).toNat t.root<=M.length
 many:t.items<=8*M.length
def tA{rd:Int->Option Pg}(hr:Ix rd)(h:qu rd t=0):fY t\/∃M,AK rd t M:=by
 by_cases hn:fY t
 ·exact .inl hn
 refine .inr ?_;unfold qu at h;rw[aj hn]at h
 by_cases hf:jT t
 ·rw[aj (not_not_intro hf)]at h;simp only at h
  split at h
  ·rename_i h0;exact aS h h0
  rename_i h0;split at h
  ·cases h
  rename_i Y;have h0:=dg.1 h0;have Y:=dg.1 Y;obtain⟨J,h3,h4,h5,h6⟩:=Xj hr h0;have h7:=Z4 h0;have h8:=Ks.TP (rd:=rd) (d:=0) (fun n p hp=>(ij (hr n p hp)).1) (k:=(t.bh-1).toNat) (n:=t.root) (least:=Mb 1 (t.bh-1).toNat) (r:=nG) (s:=([],0)) ⟨by decide,by decide,Tz,(fun n hn=>by cases hn)⟩;rw[Y]at h3;have h9:=h8.hi;rw[Y]at h9
  refine⟨_,hf,h5,h6,by simp only[Int.zero_add]at h3;exact h3.symm,h8.nd,h8.th,h4,fun n hn k hk=>?_,by simpa using h7,by simpa using h9⟩;rcases J.new n hn with jR|jR
  ·cases jR
  exact jR.2 k hk
 rw[aB hf]at h;cases h
def jN(ai:Nat)(A:List Int):List Int:=(List.range (ai+1)).map fun(i:Nat)=>((A.count (i:Int):Nat):Int)
def m7(ai:Nat)(A:List Int):(jN ai A).length=ai+1:=by simp[jN]
def sS(h:i<=ai):(jN ai A)[i]?=some ((A.count (i:Int):Nat):Int):=by
 unfold jN;rw[dh,TH H];rfl
def Ym(ai:Nat):jN ai []=List.replicate (ai+1) 0:=by
 apply Ju;intro i
 by_cases h:i<=ai
 ·rw[sS h,Xc,aB H];rfl
 rw[yi (by rw[m7];omega),yi (by simp;omega)]
def Oo{a:Int}(h:0<=a/\a<=ai):(jN ai A).set a.toNat ((A.count a:Nat)+1:Int)=jN ai (A++[a]):=by
 apply Ju;intro i
 by_cases hi:i<=ai
 ·rw[O3,sS hi,sS hi,List.count_append]
  by_cases J:a.toNat=i
  ·rw[aB J,aB (by rw[m7];omega)];have:a=(i:Int):=H;subst this;simp
  rw[aj J];have:¬a=(i:Int):=H;simp[List.count_cons,this]
 rw[yi (by rw[Hu,m7];omega),yi (by rw[m7];omega)]
def cj(ts:List Tr):List Int:=(ts.map Tr.root).filter fun n=>decide (0<n)
def wZ(ts:List Tr)(t:Tr):cj (ts++[t])=cj ts++(if 0<t.root then [t.root]else []):=by
 unfold cj;rw[jX,Mn]
 by_cases h:0<t.root<;>simp[h]
def uk(ts:List Tr):(cj ts).length<=ts.length:=by
 unfold cj;exact Ht (QX _ _) sM
def iZ(l:List Int):Int:=l.foldl (·+·) 0
def vw(l:List Int)(x:Int):iZ (l++[x])=iZ l+x:=by unfold iZ;rw[List.foldl_append];rfl
def fz(l:List Pr):Int:=iZ (l.map fun x=>(x.2.length:Int))
def CR(l:List Pr)(x:Pr):fz (l++[x])=fz l+x.2.length:=by unfold fz;rw[jX,ey,l9,vw]
def dz(rd:Int->Option Pg)(t:Tr):List Pr:=if t.root=0 then []else jY rd (t.bh-1).toNat t.root
def mw(rd:Int->Option Pg)(n:Int):Int:=match rd n with
 |none=>0
 |some p=>p.kind
def fW(rd:Int->Option Pg)(k:Int)(W:List Int):Int:=((W.filter fun n=>decide (mw rd n=k)).length:Int)
def lV(rd:Int->Option Pg)(W:List Int):Int:=((W.filter fun n=>decide (¬mw rd n=1/\¬mw rd n=2)).length:Int)
def jv(rd:Int->Option Pg)(k:Int)(W:List Int)(n:Int):fW rd k (W++[n])=fW rd k W+(if mw rd n=k then 1 else 0):=by
 unfold fW;rw[Mn,di]
 by_cases h:mw rd n=k<;>simp[h]
def sT(rd:Int->Option Pg)(W:List Int)(n:Int):lV rd (W++[n])=lV rd W+(if¬mw rd n=1/\¬mw rd n=2 then 1 else 0):=by
 unfold lV;rw[Mn,di]
 by_cases h:¬mw rd n=1/\¬mw rd n=2
 ·rw[aB h];simp[h]
 rw[aj h,FA,aj (by simpa using h)];simp
def IT(rd:Int->Option Pg)(k:Int)(W:List Int):0<=fW rd k W/\fW rd k W<=W.length:=by
 unfold fW;have:=QX (fun n=>decide (mw rd n=k)) W;omega
def Wa(rd:Int->Option Pg)(W:List Int):0<=lV rd W/\lV rd W<=W.length:=by
 unfold lV;have:=QX (fun n=>decide (¬mw rd n=1/\¬mw rd n=2)) W;omega
def jf:Rp:=⟨0,0,0,0,0,0,0,[]⟩
def Fx(rd:Int->Option Pg)(ts us:List Tr)(W:List Int):Rp:=⟨ts.length,W.length,fW rd 1 W,fW rd 2 W,lV rd W,iZ (us.map Tr.items),iZ (us.map fun t=>fz (dz rd t)),[]⟩
structure Led(rd:Int->Option Pg)(roots W A:List Int):Prop where
 nd:W.Nodup
 arr:A=roots++W.flatMap (iG rd)
 sub:∀a∈A,a∈W
 VH:∀n∈W,n∈A
 min:∀U:Int->Prop,(∀r∈roots,U r)->(∀n,U n->∀k∈iG rd n,U k)->∀n∈W,U n
structure yf(rd:Int->Option Pg)(roots W st A:List Int):Prop where
 nd:W.Nodup
 arr:A=roots++W.flatMap (iG rd)
 sub:∀a∈A,a∈W\/a∈st
 VH:∀n,n∈W\/n∈st->n∈A
 min:∀U:Int->Prop,(∀r∈roots,U r)->(∀n,U n->∀k∈iG rd n,U k)->∀n,n∈W\/n∈st->U n
def yf.start(rd:Int->Option Pg)(roots:List Int):yf rd roots [] roots roots:=
 ⟨Tz,by simp,fun a h=> .inr h,fun n h=>h.resolve_left sM,fun U h _ n hn=>h n (hn.resolve_left sM)⟩
def yf.done{rd:Int->Option Pg}(h:yf rd roots W [] A):Led rd roots W A:=
 ⟨h.nd,h.arr,fun a ha=>(h.sub a ha).resolve_right sM,fun n hn=>h.VH n (.inl hn),fun U Y J n hn=>h.min U Y J n (.inl hn)⟩
def yf.skip{rd:Int->Option Pg}{st:List Int}(h:yf rd roots W (st++[n]) A)(hn:n∈W):yf rd roots W st A:=by
 refine⟨h.nd,h.arr,fun a ha=>?_,fun m hm=>h.VH m (hm.imp id (fun h=>lT _ h)),fun U Y J m hm=>h.min U Y J m (hm.imp id (fun h=>lT _ h))⟩;rcases h.sub a ha with Y|Y
 ·exact .inl Y
 rcases eZ.1 Y with Y|Y
 ·exact .inr Y
 simp at Y;subst Y;exact .inl hn
def yf.visit{rd:Int->Option Pg}{st:List Int}(h:yf rd roots W (st++[n]) A)(hn:n∉W):yf rd roots (W++[n]) (st++iG rd n) (A++iG rd n):=by
 have hA:=h.VH n (.inr sM);refine⟨?_,?_,fun a ha=>?_,fun m hm=>?_,fun U Y J m hm=>?_⟩
 ·rw[Hv];exact⟨h.nd,by simp,fun a ha b hb=>by simp at hb;subst hb;intro e;subst e;exact hn ha⟩
 ·rw[h.arr,TI];simp
 ·rcases eZ.1 ha with ha|ha
  ·rcases h.sub a ha with Y|Y
   ·exact .inl (lT _ Y)
   rcases eZ.1 Y with Y|Y
   ·exact .inr (lT _ Y)
   exact .inl (Jw _ Y)
  exact .inr (Jw _ ha)
 ·rcases hm with hm|hm
  ·rcases eZ.1 hm with hm|hm
   ·exact lT _ (h.VH m (.inl hm))
   simp at hm;subst hm;exact lT _ hA
  rcases eZ.1 hm with hm|hm
  ·exact lT _ (h.VH m (.inr (lT _ hm)))
  exact Jw _ hm
 have hu:=h.min U Y J;rcases hm with hm|hm
 ·rcases eZ.1 hm with hm|hm
  ·exact hu m (.inl hm)
  simp at hm;subst hm;exact hu m (.inr sM)
 rcases eZ.1 hm with hm|hm
 ·exact hu m (.inr (lT _ hm))
 exact J n (hu n (.inr sM)) m hm
def L7(c A:List Int):Prop:=∀(i:Nat) (x:Int),c[i]?=some x->((A.count ((i:Int)+1):Nat):Int)=x
def ve(rd:Int->Option Pg)(c:List Int)(ts:List Tr)(rp:Rp)(er:Int):Prop:=
 ((∃t∈ts,qu rd t≠0)/\rp=jf/\er=18)\/((∀t∈ts,qu rd t=0)/\∃W A,Led rd (cj ts) W A∧
  ((L7 c A/\rp=Fx rd ts ts W/\er=0)\/(¬L7 c A/\rp=jf/\er=18)))
def zt(h:dv p=0):(cu p).length<=8:=by
 obtain⟨Y,J⟩:=mF h;unfold cu;rw[di];have h3:=List.length_filterMap_le (fun x:It=>if p.kind=2\/(p.kind=1/\x.child≠0)then some x.child else none) p.items
 by_cases hk:p.kind=3/\p.next≠0
 ·rw[aB hk];have:=J.2.2 H H;simp only[kZ,DY];omega
 rw[aj hk];have:=(ij h).1;simp only[DY];omega
def Ro{rd:Int->Option Pg}{size:Int}:∀{f:Nat} {n:Int} {out:bZ},(out.length:Int)<=max size 0->((uv rd size f n out).2.length:Int)<=max size 0
 |0,n,out,h=>h
 |f+1,n,out,h=>by
  rw[uv];split
  ·exact h
  cases rd n with
  |none=>simp;omega
  |some p=>
   simp only;split
   ·simp;omega
   split
   ·simp;omega
   rename_i J;have J:=dg.1 J;exact Ro (by rw[di];omega)
def aar(rd:Int->Option Pg)(x:It):(eg rd x).2.length<=3840:=by
 unfold eg;split
 ·simp
 rename_i h;split
 ·simp only;omega
 have:=Ro (rd:=rd) (size:=x.size) (f:=x.size.toNat) (n:=x.child) (out:=[]) (by simp;omega);omega
def xr{rd:Int->Option Pg}:∀{k:Nat} {n:Int},∀x∈jY rd k n,x.2.length<=3840
 |0,n,x,E=>by
  rw[jY]at E;cases h:rd n with
  |none=>rw[h]at E;cases E
  |some p=>
   rw[h]at E;obtain⟨y,hy,rfl⟩:=dY.1 E;exact aar rd y
 |k+1,n,x,E=>by
  rw[jY]at E;cases h:rd n with
  |none=>rw[h]at E;cases E
  |some p=>
   rw[h]at E;obtain⟨y,hy,J⟩:=TC.1 E;exact xr x J
def JQ:∀{l:List Pr},(∀x∈l,x.2.length<=3840)->0<=fz l/\fz l<=3840*l.length:=by
 have key:∀n,∀l:List Pr,l.length=n->(∀x∈l,x.2.length<=3840)->0<=fz l/\fz l<=3840*l.length:=by
  intro n
  induction n with
  |zero=>intro l hl _;rw[vD hl];exact⟨by decide,by decide⟩
  |succ n ih=>
   intro l hl h;obtain⟨l0,x,rfl⟩:∃l0 x,l=l0++[x]:=⟨l.dropLast,l.getLast (by intro e;subst e;simp at hl),(Xe _).symm⟩;have Y:=ih l0 (by simpa using hl) (fun y hy=>h y (lT _ hy));have J:=h x sM;rw[CR,di];simp only[kZ,DY];omega
 exact fun{l} h=>key l.length l rfl h
def tM.rok{rd:Int->Option Pg}(h:tM rd v S):Ix rd:=fun n p hp=>by
 obtain⟨pg,-,-,-,h4,h5⟩:=h.yes n (h.th (by rw[hp];simp));rw[hp]at h4;cases h4;exact h5
def WO{rd:Int->Option Pg}(hI:tM rd v S)(h:qu rd t=0):(0<=t.items/\t.items<=524288)/\((dz rd t).length:Int)=t.items/\(t.root≠0->jU rd (t.bh-1).toNat t.root/\(jY rd (t.bh-1).toNat t.root).length<=1000000000/\qo rd (t.bh-1).toNat t.root<=1000000000)/\(t.root=0\/(0<t.root/\t.root<=(v.c.length:Int))):=by
 rcases tA hI.rok h with Y|⟨M,Y⟩
 ·have J:=Y;unfold fY at J;have e:dz rd t=[]:=by unfold dz;rw[aB J.1]
  exact⟨H,by rw[e];simp;omega,fun h=>aS J.1 h, .inl J.1⟩
 have J:=hI.rF Y.nd Y.th;have h3:=Y.many;have h4:=Y.form;unfold jT at h4;have h5:=Y.items;have h6:=Y.num;have h7:=qJ (hI.th (Y.th _ Y.root));have e:dz rd t=jY rd (t.bh-1).toNat t.root:=by unfold dz;rw[aj h4.1]
 exact⟨H,by rw[e];exact h5,fun _=>⟨Y.sound,H,H⟩, .inr H⟩
def KM{rd:Int->Option Pg}:0<=fz (dz rd t)/\fz (dz rd t)<=3840*(dz rd t).length:=by
 unfold dz;split
 ·exact⟨by decide,by decide⟩
 exact JQ xr
def ZV{ol:List lX}(Z:aw G (bt (ol.flatMap cO)::R) w){x:lX}(E:x∈ol):∃a c,x.vv= .slice a x.pr.2.length c:=by
 obtain⟨A,B,rfl⟩:=O4 E;rw[TI,List.flatMap_cons]at Z;have Y:=Z.eY;rw[gm]at Y
 have J:aw G (bt (A.flatMap cO)::(cO x++B.flatMap cO++R)) w:=aw.bJ Y;have h3:aw G (row 5 1 x.kv x.pr.1.length (cI x.pr.1)::row 5 1 x.vv x.pr.2.length (cI x.pr.2)::(B.flatMap cO++R)) w:=by
  have h4:=J.tail;rw[gm]at h4;exact h4
 exact aT h3.tail
def KY{rd:Int->Option Pg}{l:List (Int×Tr)}(hI:tM rd v S)(Z:aw G (nj q v (gz S::L)) w)(kl:aL L (jk 4 lv (l.map cA)))(sP:l.length<=1000):
  aA prog 12 #[pQ q,lv] w (bU fun r w'=>∃rp er,r= .tuple #[gQ (vg.cells ⟨rp,nQ⟩),I er]/\ve rd v.c (l.map (·.2)) rp er/\rp.bad=[]/\aw G (nj q v (gz S::L)) w'):=by
 obtain⟨pb,pc,My⟩:=hI.pv (Z.b [N q _ _,row 3 1 v.cv _ _,row 4 1 v.lv _ _,row 104 _ _ _ _]);have hN:=hI.len;have hP:=hI.O6;have jr:∀R,aL (row 104 5 v.pv v.p.length (v.p.map dL.cells).flatten::R) (jk 5 (.slice (some ⟨pb,0,none⟩) v.p.length pc) (v.p.map dL.cells)):=fun R=>by
  rw[My];exact(jk.row sM (NS v.p)).head R
 obtain⟨ra,rc,yQ,-,-⟩:=(kl.at Z.tail.tail.tail.tail.tail).form;rw[cg]at yQ;subst yQ;refine wF [_,_] func12 ntmps12 ?_;refine wL 2 fN Z fun w b4 Z=>?_;refine z5 ?_;refine wC rfl iL rfl (ji (q:=q) (v:=v) (Z.b [N q _ _,row 3 1 v.cv _ _,row 4 1 v.lv _ _,row 104 _ _ _ _])) fun w Z=>?_
 refine z1 ?_;refine yY rfl aY bF j7 YV rfl rfl ⟨H,H⟩ H H Z rfl fun w ye Z=>?_;have G8:((v.c.length:Int)+1).toNat=v.c.length+1:=H;rw[G8]at Z;rw[G8];have tW:L9 (v.c.length+1) (I 0)=bf (jN v.c.length [])++[]:=by rw[Ym];simp[bf,L9]
 rw[tW]at Z;have Z:=lC (z:=1) (m:=v.c.length+1) (cap:=v.c.length+1) Z (by simp[bf,m7]) (fP _) mL (by simp[bf,m7]);refine z5 ?_;refine eE rfl kR bp rfl ?_;refine wV 0 (v:= .agg #[I l.length,I 0,I 0,I 0,I 0,I 0,I 0,nQ]) ?_;refine wL 0 fN Z fun w b7 Z=>?_;refine wN 0 (cs:=[I l.length,I 0,I 0,I 0,I 0,I 0,I 0,nQ]) (l':=[I l.length,I 0,I 0,I 0,I 0,I 0,I 0,nQ]) aJ (by intro u hu;simp at hu;rcases hu with rfl|rfl|rfl|rfl<;>rfl) Z (fun w Z=>?_);refine SP ?_;have Z:=bB Z 3 1;have Z:=Z.b [row 3 1 (nQ) _ _,row 3 1 (.slice (some ⟨ye,0,none⟩) _ _) _ _,N b7 _ _,N b4 _ _,N q _ _,row 3 1 v.cv _ _,row 4 1 v.lv _ _,row 104 _ _ _ _];refine bx (fun m e w=>∃(i:Nat) (tv:C),i<=l.length/\m=l.length-i/\e=[(0,pQ q),(1, .slice ra l.length rc),(4,pQ b4),(6, .slice (some ⟨ye,0,none⟩) (v.c.length+1) (v.c.length+1)),(7,pQ b7),(8,tv),(9,I i)]/\((∀t∈(l.map (·.2)).take i,qu rd t=0)/\(0<=iZ (((l.map (·.2)).take i).map Tr.items)/\iZ (((l.map (·.2)).take i).map Tr.items)<=524288*i)/\(0<=iZ (((l.map (·.2)).take i).map fun t=>fz (dz rd t))/\iZ (((l.map (·.2)).take i).map fun t=>fz (dz rd t))<=2013265920*i))/\aw G (row 3 1 tv (cj ((l.map (·.2)).take i)).length (bf (cj ((l.map (·.2)).take i)))::row 3 1 (.slice (some ⟨ye,0,none⟩) (v.c.length+1) (v.c.length+1)) (v.c.length+1) (bf (jN v.c.length (cj ((l.map (·.2)).take i))))::N b7 [I l.length,I 0,I 0,I 0,I 0,I (iZ (((l.map (·.2)).take i).map Tr.items)),I (iZ (((l.map (·.2)).take i).map fun t=>fz (dz rd t))),nQ] 40::N b4 [I 0,I 0,I 0,I 0,I 0,I 0,I 0,nQ] 40::nj q v (gz S::L)) w)
  (m:=l.length) sB
  ⟨0,_,de _,rfl,rfl,⟨(fun t ht=>by simp at ht),⟨by simp[iZ],by simp[iZ]⟩,⟨by simp[iZ],by simp[iZ]⟩⟩,Z⟩ ?_
 rintro m e w ⟨i,tv,hi,rfl,rfl,⟨lr,VP,VS⟩,Z⟩;obtain⟨ta,tc,rfl⟩:=aT Z;refine z5 ?_;refine eE rfl kR bp rfl ?_;refine wI 2 (fun Y=>?_) fun Y=>?_
 ·have lR:i<l.length:=H;obtain⟨x,E⟩:∃x,l[i]?=some x:=⟨_,dG lR⟩;have kA:(l.map cA)[i]?=some (cA x):=by rw[dh,E];rfl
  have hxt:(l.map (·.2))[i]?=some x.2:=by rw[dh,E];rfl
  obtain⟨rb,ro,rfl⟩:=((kl.of sF).at Z).nn (by rw[cg];omega);refine wX 9 bp dx ?_;refine cC rfl gr rfl ?_;refine bg rfl rfl (aD.many (cs:=dI x.2) ez rfl (by have h:=(((kl.of sF).at Z).at kA).drop 1;rw[cZ];exact h)) ?_;refine wC rfl Ib rfl (KZ (t:=x.2) hI (Z.b [N q _ _,row 3 1 v.cv _ _,row 4 1 v.lv _ _,row 104 _ _ _ _,gz S])) fun w Z=>?_
  refine wI 2 (fun J=>?_) fun J=>?_
  ·refine wV 2 (v:= .agg #[I 0,I 0,I 0,I 0,I 0,I 0,I 0,nQ]) ?_;refine wN 0 (cs:=vg.cells ⟨jf,nQ⟩) (l':=vg.cells ⟨jf,nQ⟩) aJ (by intro u hu;simp[vg.cells]at hu;rcases hu with rfl|rfl|rfl|rfl|rfl|rfl|rfl|rfl<;>rfl) Z (fun w Z=>?_);refine z3 ?_;refine ga rfl rfl ⟨_,rfl,(aD.dB (l:=vg.cells ⟨jf,nQ⟩) aJ Z pK rfl)⟩ rfl ⟨jf,18,rfl, .inl ⟨⟨x.2,fK hxt,J⟩,rfl,rfl⟩,rfl,?_⟩;exact(Z.b [N b4 _ _,N b7 _ _,row 3 1 (.slice ta _ tc) _ _,row 3 1 (.slice (some ⟨ye,0,none⟩) _ _) _ _,N q _ _,row 3 1 v.cv _ _,row 4 1 v.lv _ _,row 104 _ _ _ _]).t4
  have hc0:qu rd x.2=0:=dg.1 J;obtain⟨hsi,hsf,SU,hsr⟩:=WO hI hc0;have CY:=KM (rd:=rd) (t:=x.2);refine z2 ?_;refine wQ [0,1,2,3,4,5,6,7,8,9,10] Z fun Z=>?_
  refine wD 1 (v:=I (iZ (((l.map (·.2)).take i).map Tr.items))) ag Z ?_;refine wX 2 bp dx ?_;refine cC rfl gr rfl ?_;refine cC rfl uY rfl ?_;refine bg rfl rfl (aD.one (v:=I x.2.items) ag (((kl.of sF).at Z).cell (j:=3) kA rfl)) ?_;refine wS 2 (l':=[I l.length,I 0,I 0,I 0,I 0,I (iZ (((l.map (·.2)).take i).map Tr.items)+x.2.items),I (iZ (((l.map (·.2)).take i).map fun t=>fz (dz rd t))),nQ]) ag Z fun w Z=>?_;refine wX 6 bp dx ?_;refine cC rfl gr rfl ?_;refine bg rfl rfl (aD.many (cs:=dI x.2) ez rfl (by have h:=(((kl.of sF).at Z).at kA).drop 1;rw[cZ];exact h)) ?_;refine aO rfl Ng rfl (PQ (t:=x.2) hI (Z.b [N q _ _,row 3 1 v.cv _ _,row 4 1 v.lv _ _,row 104 _ _ _ _,gz S]) (fun h=>(SU h).1) (fun h=>(SU h).2)) rfl fun w v55 hv=>?_;obtain⟨ol,aiq,Z⟩:=hv;have RM:ol.map lX.pr=dz rd x.2:=aiq;have air:(ol.length:Int)=x.2.items:=by rw[<-hsf,<-RM,cg]
  obtain⟨oa,oc,rfl⟩:=aT Z;have RF:∀k,fz ((dz rd x.2).take k)<=3840*k/\0<=fz ((dz rd x.2).take k):=fun k=>by
   have Y:=JQ (l:=(dz rd x.2).take k) (fun y hy=>by
     have hy:=Xb hy;unfold dz at hy;split at hy
     ·cases hy
     ·exact xr y hy)
   have J:=ach k (dz rd x.2);omega
  refine z8 ?_;have Z:=Z.b [row 66 2 _ _ _,bt (ol.flatMap cO),row 3 1 (.slice ta _ tc) _ _,row 3 1 (.slice (some ⟨ye,0,none⟩) _ _) _ _,N b7 _ _,N b4 _ _,N q _ _,row 3 1 v.cv _ _,row 4 1 v.lv _ _,row 104 _ _ _ _,gz S];refine bx (fun m e w=>∃(k:Nat),k<=ol.length/\m=ol.length-k/\e=[(0,pQ q),(1, .slice (some ⟨rb,ro,none⟩) l.length rc),(4,pQ b4),(6, .slice (some ⟨ye,0,none⟩) (v.c.length+1) (v.c.length+1)),(7,pQ b7),(8, .slice ta (cj ((l.map (·.2)).take i)).length tc),(9,I i),(10, .slice oa ol.length oc),(11,I k)]/\aw G (row 66 2 (.slice oa ol.length oc) ol.length (ol.map lX.cells).flatten::bt (ol.flatMap cO)::row 3 1 (.slice ta (cj ((l.map (·.2)).take i)).length tc) (cj ((l.map (·.2)).take i)).length (bf (cj ((l.map (·.2)).take i)))::row 3 1 (.slice (some ⟨ye,0,none⟩) (v.c.length+1) (v.c.length+1)) (v.c.length+1) (bf (jN v.c.length (cj ((l.map (·.2)).take i))))::N b7 [I l.length,I 0,I 0,I 0,I 0,I (iZ (((l.map (·.2)).take i).map Tr.items)+x.2.items),I (iZ (((l.map (·.2)).take i).map fun t=>fz (dz rd t))+fz ((dz rd x.2).take k)),nQ] 40::N b4 [I 0,I 0,I 0,I 0,I 0,I 0,I 0,nQ] 40::nj q v (gz S::L)) w)
   (m:=ol.length) sB
   ⟨0,de _,rfl,rfl,by rw[DX,show fz []=0 from rfl,DW];exact Z⟩ ?_
  rintro m e w ⟨k,hk,rfl,rfl,Z⟩;refine z5 ?_;refine eE rfl kR iY rfl ?_;refine wI 2 (fun h3=>?_) fun h3=>?_
  ·have gn:k<ol.length:=H;obtain⟨y,hy⟩:∃y,ol[k]?=some y:=⟨_,dG gn⟩;have XM:(ol.map lX.cells)[k]?=some y.cells:=by rw[dh,hy];rfl
   obtain⟨ya,yc,hyv⟩:=ZV Z.tail (fK hy);have fx:∀R,aL (row 66 2 (.slice oa ol.length oc) ol.length (ol.map lX.cells).flatten::R) (jk 2 (.slice oa ol.length oc) (ol.map lX.cells)):=fun R=>(jk.row sM (fun r hr=>by obtain⟨z,_,rfl⟩:=dY.1 hr;rfl)).head R
   obtain⟨ob,oo,hoa⟩:=(((fx _).of sF).at Z).nn (by rw[cg];omega);subst hoa;have hfy:(dz rd x.2)[k]?=some y.pr:=by rw[<-RM,dh,hy];rfl
   have hv1:=RF k;have Ug:=RF (k+1);have jQ:fz ((dz rd x.2).take (k+1))=fz ((dz rd x.2).take k)+y.pr.2.length:=by rw[bV hfy,CR]
   refine z3 ?_;refine wQ [0,1,2,3,4,5,6,7,8,9,10] Z fun Z=>?_
   refine wD 1 (v:=I (iZ (((l.map (·.2)).take i).map fun t=>fz (dz rd t))+fz ((dz rd x.2).take k))) ag Z ?_;refine wX 2 iY oO ?_;refine cC rfl Ch rfl ?_;refine bg rfl rfl (aD.one (v:= .slice ya y.pr.2.length yc) ao (by rw[<-hyv];exact(((fx _).of sF).at Z).cell (j:=1) XM rfl)) ?_;refine wS 3 (l':=[I l.length,I 0,I 0,I 0,I 0,I (iZ (((l.map (·.2)).take i).map Tr.items)+x.2.items),I (iZ (((l.map (·.2)).take i).map fun t=>fz (dz rd t))+fz ((dz rd x.2).take k)+y.pr.2.length),nQ]) ag Z fun w Z=>?_;refine z6 ?_;exact⟨ol.length-(k+1),H,[(0,_),(1,_),(4,_),(6,_),(7,_),(8,_),(9,_),(10,_),(11,I (k+1:Nat))],sB,k+1,H,rfl,rfl,by
     rw[jQ,<-Int.add_assoc];exact Z.b [row 66 2 _ _ _,bt (ol.flatMap cO),row 3 1 (.slice ta _ tc) _ _,row 3 1 (.slice (some ⟨ye,0,none⟩) _ _) _ _,N b7 _ _]⟩
  have oY:k=ol.length:=H;subst oY;have zy:(dz rd x.2).take ol.length=dz rd x.2:=kH (by rw[<-RM,cg];omega);rw[zy]at Z;have hhn:((l.map (·.2)).take (i+1))=((l.map (·.2)).take i)++[x.2]:=bV hxt;have Uk:iZ (((l.map (·.2)).take (i+1)).map Tr.items)=iZ (((l.map (·.2)).take i).map Tr.items)+x.2.items:=by rw[hhn,jX,ey,l9,vw]
  have Uj:iZ (((l.map (·.2)).take (i+1)).map fun t=>fz (dz rd t))=iZ (((l.map (·.2)).take i).map fun t=>fz (dz rd t))+fz (dz rd x.2):=by rw[hhn,jX,ey,l9,vw]
  have acZ:∀t∈(l.map (·.2)).take (i+1),qu rd t=0:=fun t ht=>by
   rw[hhn]at ht;rcases eZ.1 ht with ht|ht
   ·exact lr t ht
   simp at ht;subst ht;exact hc0
  have hz:=(Z.b [row 66 2 _ _ _,bt (ol.flatMap cO)]).t2;clear Z;have Z:=hz;clear hz;rw[<-Uk,<-Uj]at Z;have hrl:=uk ((l.map (·.2)).take i);have VM:((l.map (·.2)).take i).length=i:=by rw[gJ,cg];omega
  refine wX 5 bp dx ?_;refine cC rfl gr rfl ?_;refine cC rfl jJ rfl ?_;refine bg rfl rfl (aD.one (v:=I x.2.root) ag (((kl.of sF).at Z).cell (j:=1) kA rfl)) ?_;refine wI 2 (fun h4=>?_) fun h4=>?_
  ·have Uo:=hsr.resolve_left H;have hcg:(bf (jN v.c.length (cj ((l.map (·.2)).take i))))[x.2.root.toNat]?=some (I (((cj ((l.map (·.2)).take i)).count x.2.root:Nat):Int)):=by
    rw[bf,dh,sS H,show((x.2.root.toNat:Nat):Int)=x.2.root by omega];rfl
   have gC:(cj ((l.map (·.2)).take i)).count x.2.root<=(cj ((l.map (·.2)).take i)).length:=acj;have aaV:∀R,aL (row 3 1 (.slice (some ⟨ye,0,none⟩) (v.c.length+1) (v.c.length+1)) (v.c.length+1) (bf (jN v.c.length (cj ((l.map (·.2)).take i))))::R) (oJ (.slice (some ⟨ye,0,none⟩) (v.c.length+1) (v.c.length+1)) (bf (jN v.c.length (cj ((l.map (·.2)).take i))))):=fun R=>by
    have h:=oz (v:= .slice (some ⟨ye,0,none⟩) (v.c.length+1) (v.c.length+1)) (c:=jN v.c.length (cj ((l.map (·.2)).take i))) (R:=R);rw[m7]at h;exact h
   have hrn:cj ((l.map (·.2)).take (i+1))=cj ((l.map (·.2)).take i)++[x.2.root]:=by rw[hhn,wZ,aB Uo.1]
   refine wX 5 bp dx ?_;refine cC rfl gr rfl ?_;refine cC rfl jJ rfl ?_;refine bg rfl rfl (aD.one (v:=I x.2.root) ag (((kl.of sF).at Z).cell (j:=1) kA rfl)) ?_;refine wY 0 aY bF ?_;refine bg rfl rfl (aD.one ag ((((aaV _).of sF).at Z).at hcg)) ?_;refine wY 1 aY bF ?_;refine sX (xs':=bf (jN v.c.length (cj ((l.map (·.2)).take i)++[x.2.root]))) (m:=v.c.length+1) (j:=x.2.root.toNat) rfl tV rfl rfl ag rfl Z pK H (mT _) (by rw[J5,Oo H]) rfl fun w Z=>?_;refine wX 5 bp dx ?_;refine cC rfl gr rfl ?_;refine cC rfl jJ rfl ?_;refine bg rfl rfl (aD.one (v:=I x.2.root) ag (((kl.of sF).at Z).cell (j:=1) kA rfl)) ?_;refine fb (cs:=[I x.2.root]) rfl aY bF fh dM rfl rfl rfl Z rfl fun w b97 Z=>?_;refine eF (m:=(cj ((l.map (·.2)).take i)).length) (k:=1) (news:=[I x.2.root]) rfl aY bF j7 fh rfl rfl Z pK (Rd.iq Z pK) rfl (by intro u hu;simp at hu;subst hu;rfl) mL H rfl (fun w v98 Z=>?_);refine z7 ?_;have hz:=(Z.b [N b97 _ _,row 3 1 v98 _ _,row 3 1 (.slice (some ⟨ye,0,none⟩) _ _) _ _,N b7 _ _,N b4 _ _,N q _ _,row 3 1 v.cv _ _,row 4 1 v.lv _ _,row 104 _ _ _ _]).tail;refine⟨l.length-(i+1),H,[(0,_),(1,_),(4,_),(6,_),(7,_),(8,v98),(9,I (i+1:Nat))],sB,i+1,v98,H,rfl,rfl,⟨acZ,by rw[Uk];omega,by rw[Uj];omega⟩,?_⟩;rw[hrn,di,ln];exact hz
  refine z6 ?_;have hrn:cj ((l.map (·.2)).take (i+1))=cj ((l.map (·.2)).take i):=by rw[hhn,wZ,aj H,kF]
  refine⟨l.length-(i+1),H,[(0,_),(1,_),(4,_),(6,_),(7,_),(8,_),(9,I (i+1:Nat))],sB,i+1,_,H,rfl,rfl,⟨acZ,by rw[Uk];omega,by rw[Uj];omega⟩,?_⟩;rw[hrn];exact Z
 have VQ:i=l.length:=H;subst VQ;obtain⟨ts,J'⟩:∃ts,ts=l.map (·.2):=⟨_,rfl⟩;have zy:(l.map (·.2)).take l.length=ts:=by rw[J'];exact kH sM
 have VM:ts.length=l.length:=by rw[J'];simp
 rw[zy]at Z lr VP VS;rw[zy];rw[<-J'];have hrl:=uk ts;obtain⟨I0,hI0⟩:∃x,x=iZ (ts.map Tr.items):=⟨_,rfl⟩;obtain⟨Y0,hY0⟩:∃x,x=iZ (ts.map fun t=>fz (dz rd t)):=⟨_,rfl⟩;rw[<-hI0,<-hY0]at Z
 have hgt:∀n,(∃t∈ts,∃M,AK rd t M/\n∈M)->rd n≠none:=fun n ⟨t,_,M,hM,hn⟩=>hM.th n hn
 have hgr:∀n∈cj ts,∃t∈ts,∃M,AK rd t M/\n∈M:=fun n hn=>by
  unfold cj at hn;rw[Ml]at hn
  obtain⟨t,ht,rfl⟩:=dY.1 hn.1;have h0:0<t.root:=by simpa using hn.2
  rcases tA hI.rok (lr t ht)with Y|⟨M,Y⟩
  ·unfold fY at Y;omega
  exact⟨t,ht,M,Y,Y.root⟩
 refine z4 ?_;refine wC rfl iL rfl (ji (q:=q) (v:=v) (Z.b [N q _ _,row 3 1 v.cv _ _,row 4 1 v.lv _ _,row 104 _ _ _ _])) fun w Z=>?_
 refine z1 ?_;refine yY rfl dV gg Bt OJ rfl rfl ⟨H,H⟩ H H Z rfl fun w AF Z=>?_;have G8:((v.c.length:Int)+1).toNat=v.c.length+1:=H;rw[G8]at Z;rw[G8];have tW:L9 (v.c.length+1) (Value.bool false)=gW (List.replicate (v.c.length+1) false)++[]:=by simp[gW,L9]
 rw[tW]at Z;have Z:=lC (z:=1) (m:=v.c.length+1) (cap:=v.c.length+1) Z (by simp[gW]) (fP _) mL (by simp[gW]);have aiv:AP v (List.replicate (v.c.length+1) false) []:=⟨by simp,fun n hn=>by
   have:=qJ hn;rw[ma,Xc,aB H];rfl⟩
 refine z4 ?_;have Z:=Z.b [row 3 1 (.slice ta _ tc) _ _,row 3 1 (.slice (some ⟨ye,0,none⟩) _ _) _ _,row 4 1 (.slice (some ⟨AF,0,none⟩) _ _) _ _,N b7 _ _,N b4 _ _,N q _ _,row 3 1 v.cv _ _,row 4 1 v.lv _ _,row 104 _ _ _ _];refine bx (fun m e w=>∃(W st A:List Int) (ml:List Bool) (tv:C),m=9*(65536-W.length)+st.length/\e=[(0,pQ q),(4,pQ b4),(6, .slice (some ⟨ye,0,none⟩) (v.c.length+1) (v.c.length+1)),(7,pQ b7),(8,tv),(12, .slice (some ⟨AF,0,none⟩) (v.c.length+1) (v.c.length+1))]/\(yf rd (cj ts) W st A/\AP v ml W/\(∀n∈st,∃t∈ts,∃M,AK rd t M/\n∈M)/\(∀n∈W,rd n≠none)/\A.length<=1000+8*W.length/\st.length<=A.length)/\aw G (row 3 1 tv st.length (bf st)::row 3 1 (.slice (some ⟨ye,0,none⟩) (v.c.length+1) (v.c.length+1)) (v.c.length+1) (bf (jN v.c.length A))::row 4 1 (.slice (some ⟨AF,0,none⟩) (v.c.length+1) (v.c.length+1)) (v.c.length+1) (gW ml)::N b7 [I l.length,I W.length,I (fW rd 1 W),I (fW rd 2 W),I (lV rd W),I I0,I Y0,nQ] 40::N b4 [I 0,I 0,I 0,I 0,I 0,I 0,I 0,nQ] 40::nj q v (gz S::L)) w)
  (m:=9*65536+(cj ts).length) sB
  ⟨[],cj ts,cj ts,List.replicate (v.c.length+1) false,_,rfl,rfl,⟨yf.start rd _,aiv,hgr,(fun n hn=>by cases hn),H,fP _⟩,Z⟩ ?_
 rintro m e w ⟨W,st,A,ml,tv,rfl,rfl,⟨rJ,G9,hgs,SS,hal,hsa⟩,Z⟩;obtain⟨ta,tc,rfl⟩:=aT Z;have hWl:=hI.rF rJ.nd SS;refine wI 7 (fun h5=>?_) fun h5=>?_
 ·obtain⟨eP,n,rfl⟩:∃eP n,st=eP++[n]:=⟨st.dropLast,st.getLast (by intro h;subst h;simp at h5),(Xe _).symm⟩;have hgn:=hgs n sM;have ahj:∀m∈eP,∃t∈ts,∃M,AK rd t M/\m∈M:=fun m hm=>hgs m (lT _ hm)
  have hrn:=hgt n hgn;have hc:=hI.th hrn;have Ha:=qJ hc;obtain⟨pg,uR,RK,Pt,sA,hpc⟩:=hI.yes n hc;have hpr:(v.p.map dL.cells)[(n-1).toNat]?=some pg.cells:=by rw[dh,uR];rfl
  have hkp:iG rd n=cu pg.pg:=by unfold iG;rw[sA]
  have yp:=zt hpc;have hkg:∀k∈cu pg.pg,∃t∈ts,∃M,AK rd t M/\k∈M:=fun k hk=>by
   obtain⟨t,ht,M,hM,hn⟩:=hgn;exact⟨t,ht,M,hM,hM.kids n hn k (by rw[hkp];exact hk)⟩
  have hlen:(eP++[n]).length=eP.length+1:=by simp
  rw[hlen]at Z hsa;rw[hlen];have XQ:(bf (eP++[n]))[eP.length]?=some (I n):=by simp[bf]
  obtain⟨-,tb,-,hta,htc,-⟩:=fZ Z H;subst hta;have zy:∀R,aL (row 3 1 (.slice (some ⟨tb,0,none⟩) (eP.length+1) tc) (eP.length+1) (bf (eP++[n]))::R) (oJ (.slice (some ⟨tb,0,none⟩) (eP.length+1) tc) (bf (eP++[n]))):=fun R=>by
   have h:=oz (v:= .slice (some ⟨tb,0,none⟩) (eP.length+1) tc) (c:=eP++[n]) (R:=R);rw[hlen]at h;exact h
  refine wY 8 aY bF ?_;refine bg rfl rfl (aD.one (v:=I n) ag (by
 have e:(((eP.length+1:Nat):Int)-1).toNat=eP.length:=H;exact(((zy _).of sF).at Z).at (by rw[e];exact XQ))) ?_
  refine z8 ?_;refine y0 rfl aY IF rfl sM rfl ⟨H,H⟩ ?_;have V5:(((eP.length+1:Nat):Int)-1).toNat=eP.length:=H;rw[V5];have Z:=IG Z (j:=eP.length) H;have Ui:(bf (eP++[n])).take eP.length=bf eP:=by simp[bf]
  rw[Ui]at Z;have hmk:∀R,aL (row 4 1 (.slice (some ⟨AF,0,none⟩) (v.c.length+1) (v.c.length+1)) (v.c.length+1) (gW ml)::R) (oJ (.slice (some ⟨AF,0,none⟩) (v.c.length+1) (v.c.length+1)) (gW ml)):=fun R=>by
   have h:=Tu (v:= .slice (some ⟨AF,0,none⟩) (v.c.length+1) (v.c.length+1)) (c:=ml) (R:=R);rw[G9.1]at h;exact h
  have hmn:=G9.2 n hc;refine wY 7 dV gg ?_;refine bg rfl rfl (aD.one bS ((((hmk _).of sF).at Z).at (LJ (by rw[G9.1];omega)))) ?_;refine aK ?_;refine wI 0 (fun h6=>?_) fun h6=>?_
  ·have hnW:n∈W:=by rw[hmn]at h6;simpa using h6
   refine z1 ?_;exact⟨9*(65536-W.length)+eP.length,H,[(0,_),(4,_),(6,_),(7,_),(8,_),(12,_)],sB,W,eP,A,ml,_,rfl,rfl,⟨rJ.skip hnW,G9,ahj,SS,hal,H⟩,Z⟩
  have hnW:n∉W:=by rw[hmn]at h6;simpa using h6
  have RE:=rJ.visit hnW;have agV:∀m∈W++[n],rd m≠none:=fun m hm=>by
   rcases eZ.1 hm with hm|hm
   ·exact SS m hm
   simp at hm;subst hm;exact hrn
  have ake:=hI.rF RE.nd agV;have hWn:(W++[n]).length=W.length+1:=by simp
  have aiu:AP v (ml.set n.toNat true) (W++[n]):=by
   have h:=G9.set hc;exact⟨h.1,fun j hj=>by rw[h.2 j hj];simp[or_comm]⟩
  have Ql:mw rd n=pg.kind:=by unfold mw;rw[sA];rfl
  have IN:=IT rd 1 W;have RP:=IT rd 2 W;have SY:=Wa rd W;rw[hkp]at RE;refine wY 5 dV gg ?_;refine sX (xs':=gW (ml.set n.toNat true)) (m:=v.c.length+1) (j:=n.toNat) rfl tV rfl rfl bS rfl Z pK H (mT _) E1 rfl fun w Z=>?_;refine wD 4 (v:=I W.length) ag Z ?_;refine wS 2 (l':=[I l.length,I ((W.length:Int)+1),I (fW rd 1 W),I (fW rd 2 W),I (lV rd W),I I0,I Y0,nQ]) ag Z fun w Z=>?_;refine aK ?_;refine qg (fun e w=>e=[(0,pQ q),(4,pQ b4),(6, .slice (some ⟨ye,0,none⟩) (v.c.length+1) (v.c.length+1)),(7,pQ b7),(8, .slice (some ⟨tb,0,none⟩) eP.length tc),(12, .slice (some ⟨AF,0,none⟩) (v.c.length+1) (v.c.length+1)),(13,I n)]/\aw G (row 3 1 (.slice (some ⟨tb,0,none⟩) eP.length tc) eP.length (bf eP)::row 3 1 (.slice (some ⟨ye,0,none⟩) (v.c.length+1) (v.c.length+1)) (v.c.length+1) (bf (jN v.c.length A))::row 4 1 (.slice (some ⟨AF,0,none⟩) (v.c.length+1) (v.c.length+1)) (v.c.length+1) (gW (ml.set n.toNat true))::N b7 [I l.length,I ((W++[n]).length:Nat),I (fW rd 1 (W++[n])),I (fW rd 2 (W++[n])),I (lV rd (W++[n])),I I0,I Y0,nQ] 40::N b4 [I 0,I 0,I 0,I 0,I 0,I 0,I 0,nQ] 40::nj q v (gz S::L)) w) ?_ ?_
  ·refine z5 ?_;refine bg rfl rfl (aD.cw (v:= .slice (some ⟨pb,0,none⟩) v.p.length pc) eI Z pK (by first|exact aU some My|(rw[<-My];rfl))) ?_;refine wX 2 gw iR ?_;refine cC rfl u5 rfl ?_;refine bg rfl rfl (aD.one (v:=I pg.kind) ag (by have h:=((((jr _).of sF).at Z).at hpr) 0 _ rfl;rwa [eK]at h)) ?_;refine wI 7 (fun h7=>?_) fun h7=>?_
   ·refine wD 2 (v:=I (fW rd 1 W)) ag Z ?_;refine wS 2 (l':=[I l.length,I ((W.length:Int)+1),I (fW rd 1 W+1),I (fW rd 2 W),I (lV rd W),I I0,I Y0,nQ]) ag Z fun w Z=>?_;refine aK ?_;refine⟨[(0,_),(4,_),(6,_),(7,_),(8,_),(12,_),(13,_)],sB,rfl,?_⟩;rw[jv,jv,sT,Ql,aB h7,aj H,aj H,hWn,DW,DW];exact Z.b [row 3 1 (.slice (some ⟨tb,0,none⟩) _ tc) _ _,row 3 1 (.slice (some ⟨ye,0,none⟩) _ _) _ _,row 4 1 (.slice (some ⟨AF,0,none⟩) _ _) _ _]
   refine wI 5 (fun h8=>?_) fun h8=>?_
   ·refine wD 2 (v:=I (fW rd 2 W)) ag Z ?_;refine wS 2 (l':=[I l.length,I ((W.length:Int)+1),I (fW rd 1 W),I (fW rd 2 W+1),I (lV rd W),I I0,I Y0,nQ]) ag Z fun w Z=>?_;refine aK ?_;refine⟨[(0,_),(4,_),(6,_),(7,_),(8,_),(12,_),(13,_)],sB,rfl,?_⟩;rw[jv,jv,sT,Ql,aj h7,aB h8,aj H,hWn,DW,DW];exact Z.b [row 3 1 (.slice (some ⟨tb,0,none⟩) _ tc) _ _,row 3 1 (.slice (some ⟨ye,0,none⟩) _ _) _ _,row 4 1 (.slice (some ⟨AF,0,none⟩) _ _) _ _]
   refine wD 2 (v:=I (lV rd W)) ag Z ?_;refine wS 2 (l':=[I l.length,I ((W.length:Int)+1),I (fW rd 1 W),I (fW rd 2 W),I (lV rd W+1),I I0,I Y0,nQ]) ag Z fun w Z=>?_;refine aK ?_;refine⟨[(0,_),(4,_),(6,_),(7,_),(8,_),(12,_),(13,_)],sB,rfl,?_⟩;rw[jv,jv,sT,Ql,aj h7,aj h8,aB ⟨h7,h8⟩,hWn,DW,DW];exact Z.b [row 3 1 (.slice (some ⟨tb,0,none⟩) _ tc) _ _,row 3 1 (.slice (some ⟨ye,0,none⟩) _ _) _ _,row 4 1 (.slice (some ⟨AF,0,none⟩) _ _) _ _]
  clear Z;rintro e w ⟨rfl,Z⟩;refine z5 ?_;refine bg rfl rfl (aD.cw (v:= .slice (some ⟨pb,0,none⟩) v.p.length pc) eI Z pK (by first|exact aU some My|(rw[<-My];rfl))) ?_;refine wX 2 gw iR ?_;refine bg rfl rfl (aD.many (cs:=pg.cells) ay rfl (((jr _).of sF).at Z|>.at hpr)) ?_;refine aO rfl Au rfl (Cq (p:=pg) Z (lB RK Pt pK)) rfl fun w ahQ hv=>?_;have Z:aw G (row 3 1 ahQ (cu pg.pg).length (bf (cu pg.pg))::_) _:=hv;obtain⟨ka,kc,rfl⟩:=aT Z;refine z7 ?_;have Z:=Z.b [row 3 1 (.slice (some ⟨tb,0,none⟩) _ tc) _ _,row 3 1 (.slice (some ⟨ye,0,none⟩) _ _) _ _,row 3 1 (.slice ka _ kc) _ _];refine bx (fun m e w=>∃(k:Nat) (tv:C),k<=(cu pg.pg).length/\m=(cu pg.pg).length-k/\e=[(0,pQ q),(4,pQ b4),(6, .slice (some ⟨ye,0,none⟩) (v.c.length+1) (v.c.length+1)),(7,pQ b7),(8,tv),(12, .slice (some ⟨AF,0,none⟩) (v.c.length+1) (v.c.length+1)),(14, .slice ka (cu pg.pg).length kc),(15,I k)]/\aw G (row 3 1 tv (eP.length+k) (bf (eP++(cu pg.pg).take k))::row 3 1 (.slice (some ⟨ye,0,none⟩) (v.c.length+1) (v.c.length+1)) (v.c.length+1) (bf (jN v.c.length (A++(cu pg.pg).take k)))::row 3 1 (.slice ka (cu pg.pg).length kc) (cu pg.pg).length (bf (cu pg.pg))::row 4 1 (.slice (some ⟨AF,0,none⟩) (v.c.length+1) (v.c.length+1)) (v.c.length+1) (gW (ml.set n.toNat true))::N b7 [I l.length,I ((W++[n]).length:Nat),I (fW rd 1 (W++[n])),I (fW rd 2 (W++[n])),I (lV rd (W++[n])),I I0,I Y0,nQ] 40::N b4 [I 0,I 0,I 0,I 0,I 0,I 0,I 0,nQ] 40::nj q v (gz S::L)) w)
   (m:=(cu pg.pg).length) sB
   ⟨0,_,de _,rfl,rfl,by rw[DX,kF,kF];exact Z⟩ ?_
  rintro m e w ⟨k,tv,hk,rfl,rfl,Z⟩;refine wI 8 (fun h9=>?_) fun h9=>?_
  ·have gn:k<(cu pg.pg).length:=H;obtain⟨a,ha⟩:∃a,(cu pg.pg)[k]?=some a:=⟨_,dG gn⟩;have hai:=qJ (hI.th (hgt a (hkg a (fK ha))));have Fg:∀R,aL (row 3 1 (.slice ka (cu pg.pg).length kc) (cu pg.pg).length (bf (cu pg.pg))::R) (oJ (.slice ka (cu pg.pg).length kc) (bf (cu pg.pg))):=fun R=>oz
   obtain⟨kb,ko,hka⟩:=(((Fg _).of sF).at Z).nn (by rw[bC];omega);subst hka;have hcg:(bf (jN v.c.length (A++(cu pg.pg).take k)))[a.toNat]?=some (I (((A++(cu pg.pg).take k).count a:Nat):Int)):=by
    rw[bf,dh,sS H,show((a.toNat:Nat):Int)=a by omega];rfl
   have gC:(A++(cu pg.pg).take k).count a<=(A++(cu pg.pg).take k).length:=acj;have aj8:(A++(cu pg.pg).take k).length<=A.length+k:=by rw[di];have:=ach k (cu pg.pg);omega
   have aaV:∀R,aL (row 3 1 (.slice (some ⟨ye,0,none⟩) (v.c.length+1) (v.c.length+1)) (v.c.length+1) (bf (jN v.c.length (A++(cu pg.pg).take k)))::R) (oJ (.slice (some ⟨ye,0,none⟩) (v.c.length+1) (v.c.length+1)) (bf (jN v.c.length (A++(cu pg.pg).take k)))):=fun R=>by
    have h:=oz (v:= .slice (some ⟨ye,0,none⟩) (v.c.length+1) (v.c.length+1)) (c:=jN v.c.length (A++(cu pg.pg).take k)) (R:=R);rw[m7]at h;exact h
   refine wY 8 aY bF ?_;refine bg rfl rfl (aD.one (v:=I a) ag ((((Fg _).of sF).at Z).at (by rw[cZ];exact kN ha))) ?_;refine wY 0 aY bF ?_;refine bg rfl rfl (aD.one ag ((((aaV _).of sF).at Z).at hcg)) ?_;refine wY 1 aY bF ?_;refine sX (xs':=bf (jN v.c.length (A++(cu pg.pg).take (k+1)))) (m:=v.c.length+1) (j:=a.toNat) rfl tV rfl rfl ag rfl Z pK H (mT _) (by rw[J5,Oo H,bV ha,gm]) rfl fun w Z=>?_;refine wY 5 aY bF ?_;refine bg rfl rfl (aD.one (v:=I a) ag ((((Fg _).of sF).at Z).at (by rw[cZ];exact kN ha))) ?_;refine fb (cs:=[I a]) rfl aY bF fh dM rfl rfl rfl Z rfl fun w ajf Z=>?_;refine eF (m:=eP.length+k) (k:=1) (news:=[I a]) rfl aY bF j7 fh rfl rfl Z pK (Rd.iq Z pK) rfl (by intro u hu;simp at hu;subst hu;rfl) mL H rfl (fun w aeZ Z=>?_);refine z7 ?_;have hz:=(Z.b [N ajf _ _,row 3 1 aeZ _ _,row 3 1 (.slice (some ⟨ye,0,none⟩) _ _) _ _]).tail;refine⟨(cu pg.pg).length-(k+1),H,[(0,_),(4,_),(6,_),(7,_),(8,aeZ),(12,_),(14,_),(15,I (k+1:Nat))],sB,k+1,aeZ,H,rfl,rfl,?_⟩;have e1:bf (eP++(cu pg.pg).take (k+1))=bf (eP++(cu pg.pg).take k)++[I a]:=by rw[bV ha,<-gm,ln]
   rw[e1];exact hz
  refine z1 ?_;have oY:k=(cu pg.pg).length:=H;subst oY;rw[qS]at Z;have hz:=(Z.b [row 3 1 (.slice ka _ kc) _ _]).tail;refine⟨9*(65536-(W++[n]).length)+(eP++cu pg.pg).length,by rw[hWn,di];omega,[(0,_),(4,_),(6,_),(7,_),(8,tv),(12,_)],sB,W++[n],eP++cu pg.pg,A++cu pg.pg,ml.set n.toNat true,tv,rfl,rfl,⟨RE,aiu,fun m hm=>?_,agV,by rw[hWn,di];omega,by rw[di,di];omega⟩,?_⟩
  ·rcases eZ.1 hm with hm|hm
   ·exact ahj m hm
   exact hkg m hm
  rw[di];exact hz
 have hse:st=[]:=vD H;subst hse;have Od:=rJ.done;obtain⟨cb,cc,hcv⟩:∃cb cc,v.cv= .slice (some ⟨cb,0,none⟩) v.c.length cc:=by
  have Y:=hI.one;have hz:=Z.pick (A:=row 3 1 v.cv v.c.length (bf v.c)) pK;obtain⟨ca,cc,h3⟩:=aT hz;rw[h3]at hz;obtain⟨-,cb,-,h4,-⟩:=fZ hz H;exact⟨cb,cc,by rw[h3,h4]⟩
 have afL:∀R,aL (row 3 1 v.cv v.c.length (bf v.c)::R) (oJ (.slice (some ⟨cb,0,none⟩) v.c.length cc) (bf v.c)):=fun R=>by
  rw[hcv];exact oz
 have aaV:∀R,aL (row 3 1 (.slice (some ⟨ye,0,none⟩) (v.c.length+1) (v.c.length+1)) (v.c.length+1) (bf (jN v.c.length A))::R) (oJ (.slice (some ⟨ye,0,none⟩) (v.c.length+1) (v.c.length+1)) (bf (jN v.c.length A))):=fun R=>by
  have h:=oz (v:= .slice (some ⟨ye,0,none⟩) (v.c.length+1) (v.c.length+1)) (c:=jN v.c.length A) (R:=R);rw[m7]at h;exact h
 refine z7 ?_;refine bx (fun m e w=>∃(k:Nat),k<=v.c.length/\m=v.c.length-k/\e=[(0,pQ q),(4,pQ b4),(6, .slice (some ⟨ye,0,none⟩) (v.c.length+1) (v.c.length+1)),(7,pQ b7),(16,I ((k:Int)+1))]/\(∀(i:Nat) (x:Int),i<k->v.c[i]?=some x->((A.count ((i:Int)+1):Nat):Int)=x)/\aw G (row 3 1 (.slice ta ([]:List Int).length tc) ([]:List Int).length (bf [])::row 3 1 (.slice (some ⟨ye,0,none⟩) (v.c.length+1) (v.c.length+1)) (v.c.length+1) (bf (jN v.c.length A))::row 4 1 (.slice (some ⟨AF,0,none⟩) (v.c.length+1) (v.c.length+1)) (v.c.length+1) (gW ml)::N b7 [I l.length,I W.length,I (fW rd 1 W),I (fW rd 2 W),I (lV rd W),I I0,I Y0,nQ] 40::N b4 [I 0,I 0,I 0,I 0,I 0,I 0,I 0,nQ] 40::nj q v (gz S::L)) w)
  (m:=v.c.length) sB
  ⟨0,de _,rfl,rfl,(fun i x hi=>aS hi H),Z⟩ ?_
 rintro m e w ⟨k,hk,rfl,rfl,nr,Z⟩;refine z5 ?_;refine wC rfl iL rfl (ji (q:=q) (v:=v) (Z.b [N q _ _,row 3 1 v.cv _ _,row 4 1 v.lv _ _,row 104 _ _ _ _])) fun w Z=>?_
 refine wI 2 (fun jR=>?_) fun jR=>?_
 ·have gn:k<v.c.length:=H;obtain⟨x,E⟩:∃x,v.c[k]?=some x:=⟨_,dG gn⟩;have hcg:(bf (jN v.c.length A))[k+1]?=some (I ((A.count ((k:Int)+1):Nat):Int)):=by
   rw[bf,dh,sS H];rfl
  refine z4 ?_;refine wQ [0,1,2,3,4,5,6,7,8,9,10,11,12] Z fun Z=>?_
  refine wY 2 aY bF ?_;refine bg rfl rfl (aD.one (v:=I ((A.count ((k:Int)+1):Nat):Int)) ag ((((aaV _).of sF).at Z).at (by rw[show((k:Int)+1).toNat=k+1 by omega];exact hcg))) ?_;refine z3 ?_;refine bg rfl rfl (aD.cw (v:= .slice (some ⟨cb,0,none⟩) v.c.length cc) dS Z pK (by first|exact aU some hcv|(rw[<-hcv];rfl))) ?_;refine wY 2 aY bF ?_;refine bg rfl rfl (aD.one (v:=I x) ag ((((afL _).of sF).at Z).at (by rw[show((k:Int)+1-1).toNat=k by omega];exact kN E))) ?_;refine wI 2 (fun qH=>?_) fun qH=>?_
  ·refine wV 2 (v:= .agg #[I 0,I 0,I 0,I 0,I 0,I 0,I 0,nQ]) ?_;refine wN 0 (cs:=vg.cells ⟨jf,nQ⟩) (l':=vg.cells ⟨jf,nQ⟩) aJ (by intro u hu;simp[vg.cells]at hu;rcases hu with rfl|rfl|rfl|rfl|rfl|rfl|rfl|rfl<;>rfl) Z (fun w Z=>?_);refine z3 ?_;refine ga rfl rfl ⟨_,rfl,(aD.dB (l:=vg.cells ⟨jf,nQ⟩) aJ Z pK rfl)⟩ rfl ⟨jf,18,rfl, .inr ⟨lr,W,A,Od, .inr ⟨fun hf=>qH (hf k x E),rfl,rfl⟩⟩,rfl,?_⟩;exact(Z.b [N b4 _ _,N b7 _ _,row 3 1 (.slice ta _ tc) _ _,row 3 1 (.slice (some ⟨ye,0,none⟩) _ _) _ _,row 4 1 (.slice (some ⟨AF,0,none⟩) _ _) _ _,N q _ _,row 3 1 v.cv _ _,row 4 1 v.lv _ _,row 104 _ _ _ _]).t5
  refine z6 ?_;refine⟨v.c.length-(k+1),H,[(0,_),(4,_),(6,_),(7,_),(16,I (((k+1:Nat):Int)+1))],sB,k+1,H,rfl,rfl,fun i y hi hy=>?_,Z.b [row 3 1 (.slice ta _ tc) _ _,row 3 1 (.slice (some ⟨ye,0,none⟩) _ _) _ _,row 4 1 (.slice (some ⟨AF,0,none⟩) _ _) _ _,N b7 _ _,N b4 _ _]⟩
  by_cases hik:i<k
  ·exact nr i y hik hy
  obtain rfl:i=k:=H;rw[E]at hy;cases hy;exact dg.1 qH
 refine wA 3 (l:=[I l.length,I W.length,I (fW rd 1 W),I (fW rd 2 W),I (lV rd W),I I0,I Y0,nQ]) aJ Z ?_;refine wN 0 (cs:=[I l.length,I W.length,I (fW rd 1 W),I (fW rd 2 W),I (lV rd W),I I0,I Y0,nQ]) (l':=[I l.length,I W.length,I (fW rd 1 W),I (fW rd 2 W),I (lV rd W),I I0,I Y0,nQ]) aJ (by intro u hu;simp at hu;rcases hu with rfl|rfl|rfl|rfl|rfl|rfl|rfl|rfl<;>rfl) Z (fun w Z=>?_);refine z3 ?_;refine ga rfl rfl ⟨_,rfl,(aD.dB (l:=[I l.length,I W.length,I (fW rd 1 W),I (fW rd 2 W),I (lV rd W),I I0,I Y0,nQ]) aJ Z pK rfl)⟩ rfl ⟨Fx rd ts ts W,0,?_, .inr ⟨lr,W,A,Od, .inl ⟨fun i x E=>nr i x (by have:=(qj.1 E).1;omega) E,rfl,rfl⟩⟩,rfl,?_⟩
 ·rw[hI0,hY0];unfold vg.cells Fx;rw[VM]
 exact(Z.b [N b4 _ _,N b7 _ _,row 3 1 (.slice ta _ tc) _ _,row 3 1 (.slice (some ⟨ye,0,none⟩) _ _) _ _,row 4 1 (.slice (some ⟨AF,0,none⟩) _ _) _ _,N q _ _,row 3 1 v.cv _ _,row 4 1 v.lv _ _,row 104 _ _ _ _]).t5
def NM(fx:yj refs c l)(h:Yz refs c l v S):tM (kK refs c l).rd v S:=by
 obtain⟨Y,J,h3⟩:=fx;obtain⟨h4,h5⟩:=uw J;have wy:1<=(c.length:Int)/\(c.length:Int)<=65536/\2<=refs/\refs<65536:=by
  refine vC fun hn=>?_
  unfold qU at Y;rw[aB hn]at Y;cases Y
 have hec:=h.ec;have YH:∀n,0<=gP c n:=fun n=>by
  unfold gP;split
  ·rw[ma];cases h:c[(n-1).toNat]?with
   |none=>simp
   |some y=>exact(sK Y y (fK h)).1
  omega
 refine⟨by rw[hec];omega,by rw[hec];omega,by rw[h.el,hec];exact zh,by rw[hec];exact h.O6,fun n hn=>?_,fun n hn=>?_⟩
 ·rw[hec]at hn;unfold Va.rd;exact aB (by have:=YH n;show gP c n=0;omega)
 rw[hec]at hn;obtain⟨i,x,h6,h7,h8⟩:=Ld.1 hn;have hi:=(qj.1 h6).1;obtain⟨pg,h9,jR⟩:=h.ep i hi;have qH:=h3 i x h6 h7;obtain⟨y,hy,hyn⟩:=dY.1 qH;have xX:(l.find? fun x=>x.1==(i:Int)+1).isSome=true:=by
  rw[List.find?_isSome];exact⟨y,hy,by simp[hyn]⟩
 obtain⟨z,hz⟩:=Option.isSome_iff_exists.1 xX;rw[hz]at jR;have jR:pg.pg=z.2/\pg∈S/\pg.Sm:=jR;refine⟨pg,by rw[show(n-1).toNat=i by omega];exact h9,jR.2.1,jR.2.2,?_,?_⟩
 ·unfold Va.rd;rw[aj (by show¬gP c n=0;omega)]
  show some ((((l.find? fun x=>x.1==n).map (·.2))).getD gi.pg)=_
  rw[h8,hz,jR.1];rfl
 rw[jR.1];exact(h5 z (acq hz)).2.2
def GK(kv:KV)(met:List Int):Prop:=∀n,∃b:Int,(dJ kv n).getD (I 0)=I b/\(0<b↔n∈met)
def GK.nil:GK [] []:=fun n=>⟨0,rfl,by simp⟩
def p6(fx:V.Ok)(Z:aw G (N cq [pQ vq, .map (some mq),I keys] 211::dm mq kv::gX vq V::L) w)(hm:GK kv met):
  aA prog 180 #[pQ cq,I n] w (bU fun r w'=>∃(p':dL) (A:aF) (Bh:KV),r= .tuple #[gQ p'.cells, .bool (decide (cR V.rd met n≠none))]/\lK p'.cells/\GK Bh (if(cR V.rd met n).isSome then n::met else met)/\((cR V.rd met n=none/\A=bt [])\/(cR V.rd met n=some p'.pg/\A=fg p'/\p'.Sm))∧
   aw G (A::N cq [pQ vq, .map (some mq),I keys] 211::dm mq Bh::gX vq V::L) w'):=by
 obtain⟨b,hb,hbm⟩:=hm n;refine wF [_,_] func180 ntmps180 ?_;refine wL 2 bW Z fun w b4 Z=>?_;refine wD 7 (v:=pQ vq) iy Z ?_;refine z1 ?_;refine aO rfl fk rfl (mB (n:=n) (Z.b [gX vq V]) fx) rfl fun w v14 hv=>?_;obtain⟨p',er,A,rfl,nq,kB,Z⟩:=hv;refine wL 3 bW Z fun w b6 Z=>?_;refine wN 0 (cs:=p'.cells) (l':=p'.cells) ay nq Z fun w Z=>?_;refine z8 ?_;refine bw (l1:=[3,4,5,6,7,8,9,10]) (l2:=[]) rfl (d:=27) (cR V.rd met n=none) rfl ?_ ?_
 ·refine ar (d:=19) rfl (fun Y=>?_) fun Y=>?_
  ·refine z9 ?_;refine cQ ?_
   first|(symm;rw[decide_eq_true_eq];unfold cR;rcases kB with⟨hr,-⟩|⟨-,h9,-⟩;(rw[hr];simp);exact aS h9 Y)|(refine bI.2 ?_;rw[hbm];obtain⟨hr,-⟩:=kB.resolve_left (fun h=>by have:=h.2.1;omega);unfold cR;rw[hr];by_cases h9:n∈met<;>simp[h9])
  refine z1 ?_;refine vr rfl rfl ?_;refine wD 1 (v:= .map (some mq)) nJ Z ?_;refine z1 ?_;refine GQ (v0:=I b) rfl iu dD uN rfl rfl Z pK hb ?_;refine z3 ?_;refine cQ ?_
  first|(symm;rw[decide_eq_true_eq];unfold cR;rcases kB with⟨hr,-⟩|⟨-,h9,-⟩;(rw[hr];simp);exact aS h9 Y)|(refine bI.2 ?_;rw[hbm];obtain⟨hr,-⟩:=kB.resolve_left (fun h=>by have:=h.2.1;omega);unfold cR;rw[hr];by_cases h9:n∈met<;>simp[h9])
 refine aK ?_;refine wI 0 (fun J=>?_) fun J=>?_
 ·refine wV 2 (v:=gQ gi.cells) ?_;refine wN 0 (cs:=gi.cells) (l':=gi.cells) ay fj Z fun w Z=>?_;refine z3 ?_;refine ga rfl rfl ⟨_,rfl,(aD.dB (l:=gi.cells) ay Z pK rfl)⟩ rfl ⟨gi,bt [],kv,by rw[J];rfl,fj,by rw[J];exact hm, .inl ⟨J,rfl⟩,?_⟩;have hz:∃B,aw G (B::N b6 p'.cells 104::N b4 gi.cells 104::N cq [pQ vq, .map (some mq),I keys] 211::dm mq kv::gX vq V::L) w:=⟨A,Z.b [A,N b6 _ _,N b4 _ _,N cq _ _,dm _ _,gX vq V]⟩;obtain⟨B,hz⟩:=hz;exact aw.bJ (M:=[]) hz.tail.tail.tail
 obtain⟨p,hp⟩:∃p,cR V.rd met n=some p:=ZT.1 J;obtain⟨G8,sA⟩:=gE hp;obtain⟨hr,-,rfl,oR⟩:=kB.resolve_left (fun h=>by rw[h.1]at sA;cases sA);rw[sA]at hr;cases hr;refine wD 6 (v:= .map (some mq)) nJ Z ?_;refine z1 ?_;refine WI rfl tV iu dD rfl rfl rfl Z pK rfl fun w Z=>?_;refine wA 3 (l:=p'.cells) ay Z ?_;refine wN 0 (cs:=p'.cells) (l':=p'.cells) ay nq Z fun w Z=>?_;refine z3 ?_;refine ga rfl rfl ⟨_,rfl,(aD.dB (l:=p'.cells) ay Z pK rfl)⟩ rfl ⟨p',fg p',oC kv n (I 1),by rw[eW J],nq,?_, .inr ⟨hp,rfl,oR⟩,?_⟩
 ·rw[hp];intro j;rw[FM]
  by_cases hj:j=n
  ·subst hj;exact⟨1,by simp,by simp⟩
  obtain⟨b',S5,aiU⟩:=hm j;exact⟨b',by rw[aj hj];exact S5,by rw[aiU];simp[hj]⟩
 exact(Z.b [N b6 _ _,N b4 _ _,fg p',N cq _ _,dm _ _,gX vq V]).t2
def zO{x:cP}(fx:V.Ok)(Z:aw G (N cq [pQ vq, .map (some mq),I keys] 211::dm mq kv::gX vq V::L) w)(hm:GK kv met)(hk:0<=keys/\keys<=1000000000)(E:x.Ok L)(Md:x.it.size<=1000000000)(hr:r.Ok L):
  aA prog 181 #[pQ cq,gQ x.cells,gQ r.cells] w (bU fun u w'=>∃Bh,u=I (gV V.rd x.it r.rg (met,keys)).1/\GK Bh (gV V.rd x.it r.rg (met,keys)).2.1/\aw G (N cq [pQ vq, .map (some mq),I (gV V.rd x.it r.rg (met,keys)).2.2] 211::dm mq Bh::gX vq V::L) w'):=by
 refine wF [_,_,_] func181 ntmps181 ?_;refine wB 2 Z fun w b4 Z=>?_;refine wB 0 Z fun w b5 Z=>?_;refine wA 5 (l:=r.cells) aQ Z ?_;refine wD 1 (v:=x.kv) ao Z ?_;refine wC rfl xF rfl (zR (r:=r) (k:=x.it.key) Z (hr.of sF) (E.k.of sF)) fun w Z=>?_
 refine cU rfl rfl ?_;refine aK ?_;refine wI 0 (fun Y=>?_) fun Y=>?_
 ·refine z5 ?_;exact dt rfl rfl rfl (by
 have e:gV V.rd x.it r.rg (met,keys)=(11,met,keys):=by unfold gV;rw[aB (by simpa using Y)]
 rw[e];exact⟨kv,rfl,hm,(Z.b [N b5 _ _,N b4 _ _]).t2⟩)
 have aaW:pD r.rg x.it.key:=by simpa using Y
 refine wD 6 (v:=I keys) ag Z ?_;refine wS 3 (l':=[pQ vq, .map (some mq),I (keys+1)]) ag Z fun w Z=>?_;refine wD 4 (v:=I x.it.size) ag Z ?_;refine wI 8 (fun J=>?_) fun J=>?_
 ·refine z5 ?_;exact dt rfl rfl rfl (by
 have e:gV V.rd x.it r.rg (met,keys)=(0,met,keys+1):=by unfold gV;rw[aj (not_not_intro aaW),aB J]
 rw[e];exact⟨kv,rfl,hm,(Z.b [N b5 _ _,N b4 _ _,N cq _ _]).t2⟩)
 have e:gV V.rd x.it r.rg (met,keys)=((gR V.rd x.it.size.toNat x.it.size x.it.child met).1,(gR V.rd x.it.size.toNat x.it.size x.it.child met).2,keys+1):=by unfold gV;rw[aj (not_not_intro aaW),aj J]
 rw[e];refine wD 5 (v:=I x.it.child) ag Z ?_;refine z3 ?_;have hz:=(Z.b [N b5 _ _,N b4 _ _,N cq _ _,dm _ _,gX vq V]).t2;clear Z;have Z:=hz;clear hz;refine bx (fun m e w=>∃(f:Nat) (left n:Int) (gH:List Int) (Bh:KV),m=f+1/\e=[(0,pQ cq),(7,I left),(8,I n)]/\(left<=f/\left<=1000000000/\0<=left/\GK Bh gH/\gR V.rd x.it.size.toNat x.it.size x.it.child met=gR V.rd f left n gH)/\aw G (N cq [pQ vq, .map (some mq),I (keys+1)] 211::dm mq Bh::gX vq V::L) w)
  (m:=x.it.size.toNat+1) sB
  ⟨x.it.size.toNat,x.it.size,x.it.child,met,kv,rfl,rfl,⟨H,Md,H,hm,rfl⟩,Z⟩ ?_
 rintro m e w ⟨f,left,n,gH,Bh,rfl,rfl,⟨hlf,hl9,hl0,G9,zA⟩,Z⟩;refine wI 6 (fun h3=>?_) fun h3=>?_
 ·obtain⟨f,rfl⟩:∃g,f=g+1:=⟨f-1,H⟩;rw[gR,aj H]at zA;refine z6 ?_;refine aO rfl pM rfl (p6 (n:=n) (met:=gH) fx Z G9) rfl fun w v35 hv=>?_;obtain⟨p',A,kv2,rfl,nq,ym,kB,Z⟩:=hv;refine wL 3 bW Z fun w b9 Z=>?_;refine wN 0 (cs:=p'.cells) (l':=p'.cells) ay nq Z fun w Z=>?_;refine z6 ?_;refine cU rfl rfl ?_;refine z1 ?_;refine bw (l1:=[3,4,5,6]) (l2:=[]) rfl (d:=44) (¬(cR V.rd gH n).map Pg.kind=some 3) rfl ?_ ?_
  ·refine ar (d:=40) rfl (fun h4=>?_) fun h4=>?_
   ·refine z5 ?_;refine cQ ?_
    first|exact(eW (by have h5:cR V.rd gH n=none:=dg.1 h4;rw[h5];simp)).symm|(obtain⟨hp,-,-⟩:=kB.resolve_left (fun h=>h4 (not_not_intro h.1));rw[hp];refine bI.2 ?_;show¬p'.kind=3↔¬some p'.kind=some 3;simp)|(obtain⟨hp,-,-⟩:=kB.resolve_left (fun h=>(dg.1 h4) h.1);rw[hp];refine bI.2 ?_;show¬p'.kind=3↔¬some p'.kind=some 3;simp)
   refine wD 1 (v:=I p'.kind) ag Z ?_;refine z3 ?_;refine cQ ?_
   first|exact(eW (by have h5:cR V.rd gH n=none:=dg.1 h4;rw[h5];simp)).symm|(obtain⟨hp,-,-⟩:=kB.resolve_left (fun h=>h4 (not_not_intro h.1));rw[hp];refine bI.2 ?_;show¬p'.kind=3↔¬some p'.kind=some 3;simp)|(obtain⟨hp,-,-⟩:=kB.resolve_left (fun h=>(dg.1 h4) h.1);rw[hp];refine bI.2 ?_;show¬p'.kind=3↔¬some p'.kind=some 3;simp)
  refine aK ?_;refine wI 0 (fun h5=>?_) fun h5=>?_
  ·refine z5 ?_;exact dt rfl rfl rfl (by
 have e2:gR V.rd x.it.size.toNat x.it.size x.it.child met=(15,if(cR V.rd gH n).isSome then n::gH else gH):=by
  rw[zA];cases he:cR V.rd gH n with
  |none=>rfl
  |some p=>
   rw[he]at h5;simp only;rw[aB (by simpa using h5)];rfl
 rw[e2];exact⟨kv2,rfl,ym,(Z.b [N b9 _ _,A]).t2⟩)
  obtain⟨hp,rfl,oR⟩:=kB.resolve_left (fun h=>h5 (by rw[h.1];simp));rw[hp]at h5 ym zA;have SY:p'.pg.kind=3:=by simpa using h5
  simp only at zA;rw[aj (not_not_intro SY)]at zA
  obtain⟨da,dc,hd⟩:=((cL oR pK).data.at Z).form;refine z4 ?_;refine yZ rfl rfl rfl ?_;rw[Int.min_comm];refine z13 ?_;refine bg rfl rfl (aD.cw (v:= .slice da p'.data.length dc) ao Z pK (by first|exact aU some hd|(rw[<-hd];rfl))) ?_;refine z4 ?_;refine bw (l1:=[6,7,8,9,10,11,12]) (l2:=[]) rfl (d:=62) (¬((p'.data.length:Int)=min 480 left/\(p'.next=0↔left-min 480 left=0))) rfl ?_ ?_
  ·refine ar (d:=55) rfl (fun h6=>?_) fun h6=>?_
   ·refine z8 ?_;refine cQ ?_
    first|(symm;rw[decide_eq_true_eq];exact fun h=>h6 h.1)|exact bI.2 ⟨fun h J=>h (bI.2 J.2),fun h J=>h ⟨dg.1 h6,bI.1 J⟩⟩
   refine wD 1 (v:=I p'.next) ag Z ?_;refine z3 ?_;refine QC rfl kR LW rfl rfl ?_;refine z2 ?_;refine cQ ?_
   first|(symm;rw[decide_eq_true_eq];exact fun h=>h6 h.1)|exact bI.2 ⟨fun h J=>h (bI.2 J.2),fun h J=>h ⟨dg.1 h6,bI.1 J⟩⟩
  refine aK ?_;refine wI 0 (fun h7=>?_) fun h7=>?_
  ·refine z5 ?_;exact dt rfl rfl rfl (by
 rw[aB (show¬((p'.pg.data.length:Int)=min 480 left/\(p'.pg.next=0↔left-min 480 left=0)) from h7)]at zA;rw[zA];exact⟨kv2,rfl,ym,(Z.b [N b9 _ _,fg p']).t2⟩)
  rw[aj (show¬¬((p'.pg.data.length:Int)=min 480 left/\(p'.pg.next=0↔left-min 480 left=0)) from h7)]at zA;refine wD 3 (v:=I p'.next) ag Z ?_;refine z2 ?_;exact⟨f+1,H,[(0,_),(7,_),(8,_)],sB,f,left-min 480 left,p'.next,n::gH,kv2,rfl,rfl,⟨H,H,H,ym,zA⟩,(Z.b [N b9 _ _,fg p']).t2⟩
 refine z6 ?_;exact dt rfl rfl rfl (by
 rw[zA,Hj H];exact⟨Bh,rfl,G9,Z⟩)
def Va.Fy(h:V.Ok):Ix V.rd:=fun n p hp=>Va.Zx h hp
def Va.Vm(h:V.rd n≠none):1<=n/\n<=(V.po.c.length:Int):=by
 unfold Va.rd at h;split at h
 ·exact aS rfl h
 rename_i Y;have Y:¬gP V.po.c n=0:=Y;unfold gP at Y;split at Y
 ·assumption
 exact aS rfl Y
def Va.rF(h:V.Ok)(hn:met.Nodup)(hm:∀n∈met,V.rd n≠none):met.length<=65536:=by
 have Y:=px hn (m:=(List.range V.po.c.length).map fun i:Nat=>(i:Int)+1) (fun n E=>by
  have J:=Va.Vm (hm n E);exact dY.2 ⟨(n-1).toNat,sr.2 H,H⟩)
 rw[cg,W5]at Y;have:=h.po.len;omega
def NB(h:dv p=0)(k:Nat):lZ k p↔(¬p.level=k\/¬(p.kind=1↔(k:Int)=0))\/p.kind=3:=by
 obtain⟨Y,J,h3,h4⟩:=mF h;unfold lZ
 by_cases hk:k=0
 ·rw[aB hk]
  by_cases h5:p.kind=1
  ·have:=J h5;omega
  omega
 rw[aj hk]
 by_cases h5:p.kind=1
 ·have:=J h5;omega
 by_cases h6:p.kind=2
 ·omega
 have:=h4 h5 h6;omega
def Qf(k:Nat):Prop:=∀{G:Gh} {L:List aF} {w:ae} {cq vq mq:Nat} {V:Va} {kv:KV} {met:List Int} {keys n least:Int} {r:rS},V.Ok->aw G (N cq [pQ vq, .map (some mq),I keys] 211::dm mq kv::gX vq V::L) w->GK kv met->Ks V.rd 0 (met,keys)->r.Ok L→
 aA prog 98 #[pQ cq,I n,I k,I least,gQ r.cells] w (bU fun u w'=>∃Bh,u=I (eX V.rd k n least r.rg (met,keys)).1/\GK Bh (eX V.rd k n least r.rg (met,keys)).2.1/\aw G (N cq [pQ vq, .map (some mq),I (eX V.rd k n least r.rg (met,keys)).2.2] 211::dm mq Bh::gX vq V::L) w')
def K6(hk:k<=1000)(ih:∀j,k=j+1->Qf j)(fx:V.Ok)(Z:aw G (N cq [pQ vq, .map (some mq),I keys] 211::dm mq kv::gX vq V::L) w)(hm:GK kv met)(yn:Ks V.rd 0 (met,keys))(hr:r.Ok L):
  aA prog 98 #[pQ cq,I n,I k,I least,gQ r.cells] w (bU fun u w'=>∃Bh,u=I (eX V.rd k n least r.rg (met,keys)).1/\GK Bh (eX V.rd k n least r.rg (met,keys)).2.1/\aw G (N cq [pQ vq, .map (some mq),I (eX V.rd k n least r.rg (met,keys)).2.2] 211::dm mq Bh::gX vq V::L) w'):=by
 refine wF [_,_,_,_,_] func98 ntmps98 ?_;refine wB 2 Z fun w b9 Z=>?_;refine z6 ?_;refine aO rfl pM rfl (p6 (n:=n) (met:=met) fx (Z.b [N cq _ _,dm _ _,gX vq V]) hm) rfl fun w v20 hv=>?_;obtain⟨p',A,kv2,rfl,nq,ym,kB,Z⟩:=hv;refine wL 3 bW Z fun w wo Z=>?_;refine wN 0 (cs:=p'.cells) (l':=p'.cells) ay nq Z fun w Z=>?_;refine z7 ?_;refine cU rfl rfl ?_;refine z1 ?_;refine bw (l1:=[3,4,5,6,7]) (l2:=[8,9,10,11,12,13,14,15,16,17,18,19,20,21]) rfl (d:=31) (cR V.rd met n=none\/¬p'.level=(k:Int)) rfl ?_ ?_
 ·refine ar (d:=26) rfl (fun Y=>?_) fun Y=>?_
  ·refine z6 ?_;refine cQ ?_
   first|exact(eW (Or.inl (dg.1 Y))).symm|exact bI.2 ⟨.inr,fun h=>h.resolve_left (dg.1 Y)⟩
  refine wD 1 (v:=I p'.level) ag Z ?_;refine z4 ?_;refine cQ ?_
  first|exact(eW (Or.inl (dg.1 Y))).symm|exact bI.2 ⟨.inr,fun h=>h.resolve_left (dg.1 Y)⟩
 refine z1 ?_;refine bw (l1:=[9,10,11,12,13,14,15]) (l2:=[16,17,18,19,20,21]) rfl (d:=39) ((cR V.rd met n=none\/¬p'.level=(k:Int))\/¬(p'.kind=1↔(k:Int)=0)) rfl ?_ ?_
 ·refine ar (d:=32) rfl (fun J=>?_) fun J=>?_
  ·refine z8 ?_;refine cQ ?_
   first|exact(eW (Or.inl J)).symm|exact bI.2 ⟨fun h=> .inr (fun h3=>h (bI.2 h3)),fun h h3=>h.resolve_left J (bI.1 h3)⟩
  refine wD 1 (v:=I p'.kind) ag Z ?_;refine z3 ?_;refine QC rfl kR LW rfl rfl ?_;refine z2 ?_;refine cQ ?_
  first|exact(eW (Or.inl J)).symm|exact bI.2 ⟨fun h=> .inr (fun h3=>h (bI.2 h3)),fun h h3=>h.resolve_left J (bI.1 h3)⟩
 refine z1 ?_;refine bw (l1:=[17,18,19,20]) (l2:=[21]) rfl (d:=44) (((cR V.rd met n=none\/¬p'.level=(k:Int))\/¬(p'.kind=1↔(k:Int)=0))\/p'.kind=3) rfl ?_ ?_
 ·refine ar (d:=40) rfl (fun h3=>?_) fun h3=>?_
  ·refine z5 ?_;refine cQ ?_
   first|exact(eW (Or.inl h3)).symm|exact bI.2 ⟨.inr,fun h=>h.resolve_left h3⟩
  refine wD 1 (v:=I p'.kind) ag Z ?_;refine z3 ?_;refine cQ ?_
  first|exact(eW (Or.inl h3)).symm|exact bI.2 ⟨.inr,fun h=>h.resolve_left h3⟩
 refine wI 2 (fun h4=>?_) fun h4=>?_
 ·refine z5 ?_;exact dt rfl rfl rfl (by
 rcases kB with⟨he,rfl⟩|⟨he,rfl,oR⟩
 ·rw[me he];rw[he]at ym;exact⟨kv2,rfl,ym,(Z.b [N wo _ _,bt [],N b9 _ _]).t3⟩
 ·have lr:=Va.Fy fx n _ (gE he).2;rw[kI he,aB ((NB lr k).2 (by
   rcases h4 with(h4|h4)|h4
   ·rcases h4 with h4|h4
    ·rw[he]at h4;cases h4
    ·exact .inl (.inl h4)
   ·exact .inl (.inr h4)
   ·exact .inr h4))]
  rw[he]at ym;exact⟨kv2,rfl,ym,(Z.b [N wo _ _,fg p',N b9 _ _]).t3⟩)
 obtain⟨he,rfl,oR⟩:=kB.resolve_left (fun h=>h4 (.inl (.inl (.inl h.1))));have lr:=Va.Fy fx n _ (gE he).2;have hwr:¬lZ k p'.pg:=fun h=>h4 (by
   rcases(NB lr k).1 h with(h|h)|h
   ·exact .inl (.inl (.inr h))
   ·exact .inl (.inr h)
   ·exact .inr h)
 have afE:=yn.enter he;rw[kI he,aj hwr];rw[he]at ym;have wy:p'.pg.items.length=p'.l.length:=by simp[dL.pg]
 have hp8:=(ij lr).1;obtain⟨ia,ic,hs⟩:=oR.form Z pK;rw[wy];refine z3 ?_;refine bg rfl rfl (aD.cw (v:= .slice ia p'.l.length ic) aH Z pK (by first|exact aU some hs|(rw[<-hs];rfl))) ?_;refine wI 5 (fun h5=>?_) fun h5=>?_
 ·refine z5 ?_;exact dt rfl rfl rfl (by
 rw[aB h5];exact⟨kv2,rfl,ym,(Z.b [N wo _ _,fg p',N b9 _ _]).t3⟩)
 rw[aj h5];obtain⟨fin,Pu⟩:∃fin,fin=kC (s3 V.rd k p'.pg r.rg) 0 p'.pg.items (n::met,keys):=⟨_,rfl⟩;rw[<-Pu];refine z5 ?_;refine bg rfl rfl (aD.cw (v:= .slice ia p'.l.length ic) aH Z pK (by first|exact aU some hs|(rw[<-hs];rfl))) ?_;refine z4 ?_;have hz:=(Z.b [fg p',N wo _ _,N b9 _ _,N cq _ _,dm _ _,gX vq V]);clear Z;have Z:=hz;clear hz;refine bx (fun m e w=>∃(i:Nat) (gH:List Int) (jM:Int) (Bh:KV),i<=p'.l.length/\m=p'.l.length-i/\e=[(0,pQ cq),(2,I k),(9,pQ b9),(11,pQ wo),(52, .slice ia p'.l.length ic),(53,I p'.l.length),(54,I i)]/\(GK Bh gH/\Ks V.rd (8-i) (gH,jM)/\fin=kC (s3 V.rd k p'.pg r.rg) i (p'.pg.items.drop i) (gH,jM))/\aw G (fg p'::N wo p'.cells 104::N b9 r.cells 64::N cq [pQ vq, .map (some mq),I jM] 211::dm mq Bh::gX vq V::L) w)
  (m:=p'.l.length) sB
  ⟨0,n::met,keys,kv2,de _,rfl,rfl,⟨ym,afE,Pu⟩,Z⟩ ?_
 rintro m e w ⟨i,gH,jM,Bh,hi,rfl,rfl,⟨G9,IM,BF⟩,Z⟩;refine wI 5 (fun h6=>?_) fun h6=>?_
 ·have lR:i<p'.l.length:=H;obtain⟨x,E⟩:∃x,p'.l[i]?=some x:=⟨_,dG lR⟩;have kA:(p'.l.map cP.cells)[i]?=some x.cells:=by rw[dh,E];rfl
  have G5:p'.pg.items[i]?=some x.it:=by show(p'.l.map cP.it)[_]?=_;rw[dh,E];rfl
  rw[m6 G5,kC]at BF;have YG:∀R,p'.Ok (fg p'::R):=fun R=>cL oR .here
  have lG:∀R,x.Ok (fg p'::R):=fun R=>(YG R).its.it x (fK E)
  have wz:∀R,aL (fg p'::R) (jk 4 (.slice ia p'.l.length ic) (p'.l.map cP.cells)):=fun R=>by rw[<-hs];exact(YG R).its.sl
  obtain⟨ib,io,rfl⟩:=(((wz _).of sF).at Z).nn (by rw[cg];omega);have afC:=Va.rF fx IM.nd IM.th;have yp:=IM.lo;have hkh:=IM.hi;simp only at yp hkh afC;obtain⟨xa,xc,xa2,xc2,xj,N',Qh⟩:=(lG _).form Z;refine wX 6 aV bz ?_;refine bg rfl rfl (aD.many (cs:=x.cells) bA rfl (by have h:=(((wz _).of sF).at Z).at kA;rw[cZ];exact h)) ?_;refine wL 0 jc Z fun w b14 Z=>?_;refine wN 1 (cs:=x.cells) (l':=x.cells) bA (by rw[Qh];intro u hu;simp at hu;rcases hu with rfl|rfl|rfl|rfl<;>rfl) Z (fun w Z=>?_);refine wI 11 (fun h7=>?_) fun h7=>?_
  ·obtain rfl:k=0:=H;have IN:p'.pg.kind=1:=by
    refine vC fun h=>hwr ?_
    unfold lZ;rw[aB rfl];exact h
   have Md:=N4 lr IN x.it (fK G5);have hz:=Z.b [N cq _ _,dm _ _,gX vq V,fg p'];refine wA 2 (l:=x.cells) bA Z ?_;refine wA 0 (l:=r.cells) aQ Z ?_;refine aO rfl yJ rfl (zO (x:=x) (r:=r) fx hz G9 H (lG _) H (hr.of sF)) rfl fun w v64 hv=>?_;obtain⟨kv3,rfl,zz,Z⟩:=hv;have jQ:s3 V.rd 0 p'.pg r.rg i x.it (gH,jM)=gV V.rd x.it r.rg (gH,jM):=rfl;rw[jQ]at BF;have Ka:Ks V.rd (8-(i+1)) (gV V.rd x.it r.rg (gH,jM)).2:=Ks.item (IM.mono H);obtain⟨res,rH⟩:∃res,res=gV V.rd x.it r.rg (gH,jM):=⟨_,rfl⟩;rw[<-rH]at BF zz Z Ka
   rw[<-rH];refine wI 7 (fun h8=>?_) fun h8=>?_
   ·refine z6 ?_;exact dt rfl rfl rfl (by
 rw[aB h8]at BF;rw[BF];exact⟨kv3,rfl,zz,(Z.b [N b14 _ _,N wo _ _,fg p',N b9 _ _]).t4⟩)
   refine z5 ?_;rw[aj h8]at BF;exact⟨p'.l.length-(i+1),H,[(0,_),(2,_),(9,_),(11,_),(52,_),(53,_),(54,I (i+1:Nat))],sB,i+1,res.2.1,res.2.2,kv3,H,rfl,rfl,⟨zz,Ka,BF⟩,(Z.b [N b14 _ _,fg p',N wo _ _,N b9 _ _]).tail⟩
  obtain⟨j,rfl⟩:∃j,k=j+1:=⟨k-1,H⟩;refine z3 ?_;refine bg rfl rfl (aD.cw (v:= .slice xa x.it.key.length xc) ao Z pK (by first|exact aU some xj|(rw[<-xj];rfl))) ?_;refine wV 0 (v:= .agg #[.slice xa x.it.key.length xc,nQ, .bool true]) ?_;refine wL 0 iP Z fun w Ir Z=>?_;refine wN 0 (cs:=[.slice xa x.it.key.length xc,nQ, .bool true]) (l':=[.slice xa x.it.key.length xc,nQ, .bool true]) aQ (by intro u hu;simp at hu;rcases hu with rfl|rfl|rfl<;>rfl) Z (fun w Z=>?_);refine aK ?_;refine qg (fun e w=>∃ow:rS,e=[(0,pQ cq),(2,I ((j+1:Nat):Int)),(9,pQ b9),(11,pQ wo),(14,pQ b14),(16,pQ Ir),(52, .slice (some ⟨ib,io,none⟩) p'.l.length ic),(53,I p'.l.length),(54,I i)]/\(ow.rg=pT p'.pg i/\∀R,ow.Ok (fg p'::R))/\aw G (N Ir ow.cells 64::N b14 x.cells 198::fg p'::N wo p'.cells 104::N b9 r.cells 64::N cq [pQ vq, .map (some mq),I jM] 211::dm mq Bh::gX vq V::L) w) ?_ ?_
  ·refine z5 ?_;refine bg rfl rfl (aD.cw (v:= .slice (some ⟨ib,io,none⟩) p'.l.length ic) aH Z pK (by first|exact aU some hs|(rw[<-hs];rfl))) ?_;refine wI 3 (fun h9=>?_) fun h9=>?_
   ·obtain⟨y,hy⟩:∃y,p'.l[i+1]?=some y:=⟨_,dG H⟩;have XM:(p'.l.map cP.cells)[i+1]?=some y.cells:=by rw[dh,hy];rfl
    have hyi:p'.pg.items[i+1]?=some y.it:=by show(p'.l.map cP.it)[_]?=_;rw[dh,hy];rfl
    have Ue:∀R,y.Ok (fg p'::R):=fun R=>(YG R).its.it y (fK hy)
    obtain⟨ya,yc,hyk⟩:=(((Ue _).k.of sF).at Z).form;refine wQ [0,1,2,3,4,5,6,7,8,9,10] Z fun Z=>?_
    refine z1 ?_;refine bg rfl rfl (aD.cw (v:= .slice (some ⟨ib,io,none⟩) p'.l.length ic) aH Z pK (by first|exact aU some hs|(rw[<-hs];rfl))) ?_;refine wX 2 aV bz ?_;refine cC rfl gu rfl ?_;refine bg rfl rfl (aD.one (v:= .slice ya y.it.key.length yc) ao (by rw[<-hyk];exact(((wz _).of sF).at Z).cell (j:=0) XM rfl)) ?_;refine z1 ?_;refine Fh (l':=[.slice xa x.it.key.length xc,nQ, .bool false]) rfl tV rfl rfl bS rfl Z pK rfl rfl (fun w Z q' hq=>?_) fun w Z=>?_
    ·have hq:=bK (l:=[6,1]) kR hq;simp only[cE,fQ,or_false]at hq;rcases hq with rfl|rfl
     ·exact bG rfl rfl rfl (aD.one (v:= .slice ya y.it.key.length yc) ao (by rw[<-hyk];exact(((wz _).of sF).at Z).cell (j:=0) XM rfl))
     exact bG rfl rfl rfl (aD.cw (v:= .slice (some ⟨ib,io,none⟩) p'.l.length ic) aH Z pK (by first|exact aU some hs|(rw[<-hs];rfl)))
    refine wS 1 (l':=[.slice xa x.it.key.length xc, .slice ya y.it.key.length yc, .bool false]) ao Z fun w Z=>?_;refine aK ?_;have hz:=Z.b [N Ir _ _,N b14 _ _,fg p',N wo _ _,N b9 _ _];exact⟨[(0,_),(2,_),(9,_),(11,_),(14,_),(16,_),(52,_),(53,_),(54,_)],sB,⟨⟨x.it.key,y.it.key,false⟩, .slice xa x.it.key.length xc, .slice ya y.it.key.length yc⟩,rfl,⟨(FD G5 hyi).symm,fun R=>⟨by rw[<-xj];exact(lG R).k,by rw[<-hyk];exact(Ue R).k,(lG R).sk,(Ue R).sk⟩⟩,hz⟩
   refine jo ?_;have hz:=Z.b [N Ir _ _,N b14 _ _,fg p',N wo _ _,N b9 _ _];exact⟨[(0,_),(2,_),(9,_),(11,_),(14,_),(16,_),(52,_),(53,_),(54,_)],sB,⟨⟨x.it.key,[],true⟩, .slice xa x.it.key.length xc,nQ⟩,rfl,⟨(FE G5 H).symm,fun R=>⟨by rw[<-xj];exact(lG R).k,Pa,(lG R).sk,jV⟩⟩,hz⟩
  clear Z;rintro e w ⟨ow,rfl,⟨how,hoo⟩,Z⟩;refine wQ [0,1,2,3,4,5,6,7,8,9] Z fun Z=>?_
  refine wD 2 (v:=I x.it.child) ag Z ?_;refine z2 ?_;have RQ:((j+1:Nat):Int)-1=j:=H;rw[RQ];refine wA 0 (l:=r.cells) aQ Z ?_;refine wA 0 (l:=ow.cells) aQ Z ?_;refine ed rfl Cx rfl (Ev (a:=r) (b:=ow) Z (hr.of sF) ((hoo _).of sF)) (fun w v90 hv q' hq=>?_) fun w v90 hv=>?_
  ·obtain⟨r',rfl,CX,Uo,Z⟩:=hv;have hq:=bK (l:=[2]) kR hq;simp only[cE,fQ,or_false]at hq;subst hq;exact bG rfl rfl rfl (aD.cw (v:=I x.it.child) ag Z pK rfl)
  obtain⟨r',rfl,CX,Uo,Z⟩:=hv;have rY:=xf hr.sl hr.sh (hoo []).sl (hoo []).sh;rw[<-CX]at rY;simp only[lP,nI,lE]at Z
  have hz:=Z.b [N cq _ _,dm _ _,gX vq V,row 5 1 r'.lv _ _,row 5 1 r'.hv _ _];refine aO rfl p7 rfl (@ih j rfl G _ _ cq vq mq V Bh gH jM x.it.child 4 r' fx hz G9 (IM.mono (de _)) (CJ rY.1 rY.2 pK pK)) kR fun w v91 hv=>?_;obtain⟨kv3,rfl,zz,Z⟩:=hv;rw[CX,how]at zz Z;rw[CX,how];have jQ:s3 V.rd (j+1) p'.pg r.rg i x.it (gH,jM)=eX V.rd j x.it.child 4 (eR r.rg (pT p'.pg i)) (gH,jM):=rfl;rw[jQ]at BF
  have Ka:Ks V.rd (8-(i+1)) (eX V.rd j x.it.child 4 (eR r.rg (pT p'.pg i)) (gH,jM)).2:=Ks.TP (fun n p hnp=>(ij (Va.Fy fx n p hnp)).1) (IM.mono H);obtain⟨res,rH⟩:∃res,res=eX V.rd j x.it.child 4 (eR r.rg (pT p'.pg i)) (gH,jM):=⟨_,rfl⟩;rw[<-rH]at BF zz Z Ka;rw[<-rH];refine wI 7 (fun jR=>?_) fun jR=>?_
  ·refine z6 ?_;exact dt rfl rfl rfl (by
 rw[aB jR]at BF;rw[BF];exact⟨kv3,rfl,zz,(Z.b [row 5 1 r'.lv _ _,row 5 1 r'.hv _ _,N Ir _ _,N b14 _ _,fg p',N wo _ _,N b9 _ _]).t7⟩)
  refine z5 ?_;rw[aj jR]at BF;exact⟨p'.l.length-(i+1),H,[(0,_),(2,_),(9,_),(11,_),(52,_),(53,_),(54,I (i+1:Nat))],sB,i+1,res.2.1,res.2.2,kv3,H,rfl,rfl,⟨zz,Ka,BF⟩,(Z.b [row 5 1 r'.lv _ _,row 5 1 r'.hv _ _,N Ir _ _,N b14 _ _,fg p',N wo _ _,N b9 _ _]).t4⟩
 refine z6 ?_;exact dt rfl rfl rfl (by
 rw[vB H,kC]at BF;rw[BF];exact⟨Bh,rfl,G9,(Z.b [fg p',N wo _ _,N b9 _ _]).t3⟩)
def zN(k:Nat)(hk:k<=1000):Qf k:=by
 induction k with
 |zero=>
  intro G L w cq vq mq V kv met keys n least r fx Z hm yn hr;exact K6 hk (fun j h=>aS h H) fx Z hm yn hr
 |succ k ih=>
  intro G L w cq vq mq V kv met keys n least r fx Z hm yn hr;have h0:∀j,k+1=j+1->Qf j:=by
   intro j h;have:j=k:=H;rw[this];exact @ih H
  exact K6 hk h0 fx Z hm yn hr
def EvK(w:ae):Prop:=Rd w ⟨0,0,none⟩ [nQ,nQ, .bool true]
def TO{rd:Int->Option Pg}(hr:Ix rd){r:Rg}:eX rd 0 n 1 r s=eX rd 0 n 0 r s:=by
 cases he:cR rd s.1 n with
 |none=>rw[me he,me he]
 |some p=>
  rw[kI he,kI he]
  by_cases Z:lZ 0 p
  ·rw[aB Z,aB Z]
  rw[aj Z,aj Z];have hk:p.kind=1:=by unfold lZ at Z;rw[aB rfl]at Z;exact dg.1 Z
  have:=(ij (hr n p (gE he).2)).2.2.1 hk;rw[aj H,aj H]
def MP(fx:V.Ok)(Z:aw G (gX vq V::L) w)(YE:aL L EvK):
  aA prog 40 #[pQ vq,gQ (dI t)] w (bU fun u w'=>u=I (qu V.rd t)/\aw G (gX vq V::L) w'):=by
 refine wF [_,_] func40 ntmps40 ?_;refine wB 2 Z fun w b3 Z=>?_;refine wA 5 (l:=dI t) ez Z ?_;refine wV 0 (v:=gQ (dI trZ)) ?_;refine jS (v:= .bool (decide (fY t))) rfl kR rfl rfl (fun w'=>by
  rw[al,run_eqGuard_agg w' _ _ _ _ _ _ kR,ah,run_eql_struct,za 9998];rfl) ?_
 refine aK ?_;refine wI 0 (fun Y=>?_) fun Y=>?_
 ·refine z5 ?_;exact dt rfl rfl rfl (by
 have e:qu V.rd t=0:=by unfold qu;rw[aB Y]
 rw[e];exact⟨rfl,Z.tail⟩)
 refine wD 5 (v:=I t.root) ag Z ?_;refine z2 ?_;refine bw (l1:=[4,5,6,7]) (l2:=[8,9,10,11,12,13,14,15,16,17]) rfl (d:=17) (t.root=0\/t.bh<1) rfl ?_ ?_
 ·refine ar (d:=13) rfl (fun J=>?_) fun J=>?_
  ·exact wq 5
  refine wD 1 (v:=I t.bh) ag Z ?_;exact wq 3
 refine z1 ?_;refine bw (l1:=[9,10,11,12]) (l2:=[13,14,15,16,17]) rfl (d:=22) (t.root=0\/t.bh<1\/12<t.bh) rfl ?_ ?_
 ·refine ar (d:=18) rfl (fun h3=>?_) fun h3=>?_
  ·exact wq 5
  refine wD 1 (v:=I t.bh) ag Z ?_;exact wq 3
 refine z1 ?_;refine bw (l1:=[14,15,16,17]) (l2:=[]) rfl (d:=27) (t.root=0\/t.bh<1\/12<t.bh\/t.items<1) rfl ?_ ?_
 ·refine ar (d:=23) rfl (fun h4=>?_) fun h4=>?_
  ·exact wq 5
  refine wD 1 (v:=I t.items) ag Z ?_;exact wq 3
 refine aK ?_;refine wI 0 (fun h5=>?_) fun h5=>?_
 ·refine z5 ?_;exact dt rfl rfl rfl (by
 have e:qu V.rd t=5:=by unfold qu;rw[aj Y,aB (fun h=>by unfold jT at h;omega)]
 rw[e];exact⟨rfl,Z.tail⟩)
 have htf:jT t:=by unfold jT;omega
 have e:qu V.rd t=if(eX V.rd (t.bh-1).toNat t.root (Mb 1 (t.bh-1).toNat) nG ([],0)).1≠0 then(eX V.rd (t.bh-1).toNat t.root (Mb 1 (t.bh-1).toNat) nG ([],0)).1 else if¬(eX V.rd (t.bh-1).toNat t.root (Mb 1 (t.bh-1).toNat) nG ([],0)).2.2=t.items then 4 else 0:=by
  unfold qu;rw[aj Y,aj (not_not_intro htf)]
 refine z4 ?_;refine Ny rfl Z rfl fun w m29 Z=>?_;refine wV 0 (v:= .agg #[pQ vq, .map (some m29),I 0]) ?_;refine wB 0 Z fun w b31 Z=>?_;refine wD 7 (v:=I t.root) ag Z ?_;refine wD 1 (v:=I t.bh) ag Z ?_;refine wD 2 (v:=I t.bh) ag Z ?_;refine yZ rfl rfl rfl ?_;refine bg rfl rfl (aD.many (cs:=[nQ,nQ, .bool true]) aQ rfl ((YE.of sF).at Z)) ?_;obtain⟨k,hk⟩:∃k:Nat,t.bh-1=(k:Int):=⟨(t.bh-1).toNat,H⟩;have hkt:(t.bh-1).toNat=k:=H;rw[hkt]at e;rw[hk];have Ur:eX V.rd k t.root (Mb 1 k) nG ([],0)=eX V.rd k t.root (min t.bh 2) nG ([],0):=by
  unfold Mb;rw[aB rfl]
  by_cases hk0:k=0
  ·subst hk0;rw[aB rfl,show min t.bh 2=1 by omega];exact(TO (Va.Fy fx)).symm
  rw[aj hk0,show min t.bh 2=2 by omega]
 rw[Ur]at e;have hz:=Z.b [N b31 _ _,dm _ _,gX vq V];refine aO rfl p7 rfl (@zN k H G _ _ b31 vq m29 V [] [] 0 t.root (min t.bh 2) ⟨nG,nQ,nQ⟩ fx hz GK.nil ⟨by decide,by decide,Tz,(fun n hn=>by cases hn)⟩ ⟨Pa,Pa,jV,jV⟩) rfl fun w L8 hv=>?_;obtain⟨Bh,rfl,hm',Z⟩:=hv;obtain⟨res,rH⟩:∃res,res=eX V.rd k t.root (min t.bh 2) nG ([],0):=⟨_,rfl⟩;have Z:aw G (N b31 [pQ vq, .map (some m29),I res.2.2] 211::dm m29 Bh::gX vq V::N b3 (dI t) 62::L) w:=by rw[rH];exact Z
 rw[<-rH]at e;rw[show eX V.rd k t.root (min t.bh 2) (rS.rg ⟨nG,nQ,nQ⟩) ([],0)=res from rH.symm];refine wI 7 (fun h6=>?_) fun h6=>?_
 ·refine z6 ?_;exact dt rfl rfl rfl (by
 rw[aB h6]at e;rw[e];exact⟨rfl,(Z.b [N b31 _ _,dm _ _,N b3 _ _]).t3⟩)
 rw[aj h6]at e;refine z3 ?_;refine wQ [0,1,2,3,4,5,6] Z fun Z=>?_
 refine wD 3 (v:=I res.2.2) ag Z ?_;refine wD 1 (v:=I t.items) ag Z ?_;refine wI 2 (fun h7=>?_) fun h7=>?_
 ·refine z5 ?_;exact dt rfl rfl rfl (by
 rw[aB h7]at e;rw[e];exact⟨rfl,(Z.b [N b31 _ _,dm _ _,N b3 _ _]).t3⟩)
 refine z6 ?_;exact dt rfl rfl rfl (by
 rw[aj h7]at e;rw[e];exact⟨rfl,(Z.b [N b31 _ _,dm _ _,N b3 _ _]).t3⟩)
def pE(k:bZ):bZ:=if kM k then k else k++[0]
def PN{v:C}{k:bZ}(Z:aw G L w)(kl:aL L (eB v k))(hk:k.length<24):aA prog 351 #[v] w (bU fun r w'=>aw G (row 5 1 r (k++[0]).length (cI (k++[0]))::L) w'):=by
 obtain⟨a,cap,rfl⟩:=(kl.at Z).form;refine wF [_] func351 ntmps351 ?_;refine wI 11 (fun Y=>?_) fun Y=>?_
 ·refine z3 ?_;refine aO rfl il rfl (iW (m:=1) Z (kl.of sF) (by unfold dP;omega) H) rfl (fun w v7 hv=>?_);have Z:aw G (row 5 1 v7 k.length (cI k)::_) _:=hv;refine fb (cs:=[.int .u8 0]) rfl aR bo eU dM rfl rfl rfl Z rfl fun w b8 Z=>?_;refine eF (m:=k.length) (k:=1) (news:=[.int .u8 0]) rfl aR bo fF eU rfl rfl Z pK (Rd.iq Z pK) rfl (by intro u hu;simp at hu;subst hu;rfl) mL H rfl (fun w v9 Z=>?_);refine z3 ?_;exact dt rfl rfl rfl (by
 have hz:=(Z.b [N b8 _ _,row 5 1 v9 _ _]).tail;rw[xL,di];exact hz)
 exact aS hk H
def PM{v:C}{k:bZ}(Z:aw G L w)(kl:aL L (eB v k))(hk:k.length<=24):aA prog 331 #[v] w (bU fun r w'=>aw G (row 5 1 r (pE k).length (cI (pE k))::L) w'):=by
 refine wF [_] func331 ntmps331 ?_;refine z8 ?_;refine wC rfl Al rfl (Cm Z kl) fun w Z=>?_
 refine aK ?_;refine wI 0 (fun Y=>?_) fun Y=>?_
 ·refine z3 ?_;refine aO rfl il rfl (iW (m:=0) Z (kl.of sF) (by unfold dP;omega) H) rfl (fun w v6 hv=>?_);have Z:aw G (row 5 1 v6 k.length (cI k)::_) _:=hv;refine z3 ?_;exact dt rfl rfl rfl (by
 have e:pE k=k:=by unfold pE;rw[aB Y]
 rw[e];exact Z)
 refine z4 ?_;refine aO rfl Nd rfl (PN Z (kl.of sF) (by unfold kM at Y;omega)) rfl (fun w v8 hv=>?_);have Z:aw G (row 5 1 v8 (k++[0]).length (cI (k++[0]))::_) _:=hv;refine z3 ?_;exact dt rfl rfl rfl (by
 have e:pE k=k++[0]:=by unfold pE;rw[aj Y]
 rw[e];exact Z)
def MU(Z:aw G L w)(hr:r.Ok L)(hk:r.rg.lo.length<=24):aA prog 277 #[gQ r.cells] w (bU fun u w'=>u= .bool (decide (¬pD r.rg (pE r.rg.lo)))/\aw G L w'):=by
 refine wF [_] func277 ntmps277 ?_;refine wB 2 Z fun w b1 Z=>?_;refine z3 ?_;refine wQ [0,1,2,3,4,5,6] Z fun Z=>?_
 refine wA 0 (l:=r.cells) aQ Z ?_;refine wD 1 (v:=r.lv) ao Z ?_;refine ed rfl Nc rfl (PM Z (hr.lo.of sF) hk) (fun w v6 hv q' hq=>?_) fun w v6 hv=>?_
 ·have Z:aw G (row 5 1 v6 (pE r.rg.lo).length (cI (pE r.rg.lo))::_) _:=hv;have hq:=bK (l:=[0]) kR hq;simp only[cE,fQ,or_false]at hq;subst hq;exact bG rfl rfl rfl (aD.dB (l:=r.cells) aQ Z pK rfl)
 have Z:aw G (row 5 1 v6 (pE r.rg.lo).length (cI (pE r.rg.lo))::_) _:=hv;refine wC rfl xF rfl (zR (r:=r) (k:=pE r.rg.lo) Z (hr.of sF) (Hr rfl pK)) fun w Z=>?_
 refine cU rfl rfl ?_;refine dk 3 ?_;exact⟨rfl,Z.tail.tail⟩
def ajq(F:List aF->Prop)(l:List cP)(k:Nat)(args:List C)(M:List aF):Prop:=∃x,l[l.length-1-k]?=some x/\args=[I ((l.length:Int)-1-k),gQ x.cells]/\F M
def nw{a:Option Addr}{n c:Nat}(Z:aw G L w):aA prog 276 #[.slice a n c] w (bU fun r w'=>∃b1,r= .func (.func 330) #[] #[pQ b1]/\aw G (N b1 [.slice a n c] 102::L) w'):=by
 refine wF [_] func276 ntmps276 ?_;refine wB 2 Z fun w b1 Z=>?_;refine z4 ?_;refine o7 (v1:=#[]) (v2:=#[pQ b1]) rfl (by intro z hz;simp at hz;subst hz;exact⟨_,rfl⟩) sM (by simp only[su,ey,l9];rfl) ?_;refine dk 3 ?_;exact⟨b1,rfl,Z⟩
def FQ{l:List cP}{v:C}(kl:aL L (jk 4 v (l.map cP.cells)))(sP:l.length<=10000000000000)(hF:F (N b1 [v] 102::L)):IA prog 330 [pQ b1] G (N b1 [v] 102::L) w l.length (ajq F l) (N b1 [v] 102::L):=by
 intro lq h2 Jx w hy Z;obtain⟨sa,sc,Y,-,-⟩:=((kl.of sF).at Z).form;rw[cg]at Y;subst Y;refine wF [_,_] func330 ntmps330 ?_;refine wD 2 aH Z ?_;refine z2 ?_;have e0:(l.length:Int)-1=(l.length:Int)-1-(0:Nat):=by simp
 rw[e0];refine z3 ?_;refine bx (fun m e w=>∃k:Nat,k<=l.length/\m=l.length-k/\e=[(0, .func (.yield lq) #[] #[]),(1,pQ b1),(3,I ((l.length:Int)-1-k))]/\aw G (h2 k::N b1 [.slice sa l.length sc] 102::L) w)
  (m:=l.length) sB
  ⟨0,de _,rfl,rfl,Z⟩ ?_
 rintro m e w ⟨k,hk,rfl,rfl,Z⟩;refine wI 6 (fun Y=>?_) fun Y=>?_
 ·have gn:k<l.length:=H;obtain⟨x,E⟩:∃x,l[l.length-1-k]?=some x:=⟨_,dG H⟩;have kA:(l.map cP.cells)[l.length-1-k]?=some x.cells:=by rw[dh,E];rfl
  obtain⟨bb,oo,rfl⟩:=((kl.of sF).at Z).nn (by rw[cg];omega);have hi:((l.length:Int)-1-k).toNat=l.length-1-k:=H;refine wD 7 aH Z ?_;refine wX 1 aV bz ?_;refine bg rfl rfl (aD.many bA rfl (by rw[hi];exact((kl.of sF).at Z).at kA)) ?_;refine wK rfl rfl rfl (hy k _ _ w gn ⟨x,E,rfl,hF⟩ Z) rfl fun w Hp hv=>?_;obtain⟨bq,rfl,tX,vm⟩:=vp hv;refine nh rfl rfl ?_;refine aK ?_;refine fJ rfl (fun J=>?_) fun J=>?_
  ·refine Ca ?_;exact u6 rfl rfl (.inr (vm (by simpa using J)))
  refine z6 ?_;have Z:=tX (by simpa using J);refine⟨l.length-(k+1),H,[(0,_),(1,_),(3,I ((l.length:Int)-1-(k+1:Nat)))],?_,k+1,H,rfl,rfl,Z⟩;rw[show((l.length:Int)-1-(k+1:Nat))=(l.length:Int)-1-k-1 by omega];exact sB
 refine z1 ?_;exact u6 rfl rfl (.inl (by
 have oY:k=l.length:=H;subst oY;exact Z))
def kO(p:Pg)(r:Rg)(i:Nat):Prop:=pD (eR (pT p i) r) (pE (eR (pT p i) r).lo)
instance(p:Pg)(r:Rg)(i:Nat):Decidable (kO p r i):=by unfold kO;infer_instance
def gx(p:Pg)(r:Rg)(k:Nat):List Int:=((((List.range p.items.length).reverse).take k).filter fun i=>decide (kO p r i)).map fun i=>kP p.items i
def OO{r:Rg}(hk:k<p.items.length):gx p r (k+1)=gx p r k++(if kO p r (p.items.length-1-k)then [kP p.items (p.items.length-1-k)]else []):=by
 unfold gx;have h:(List.range p.items.length).reverse[k]?=some (p.items.length-1-k):=by
  rw[List.getElem?_reverse (by simpa using hk),W5,TH H]
 rw[bV h,Mn,jX]
 by_cases hc:kO p r (p.items.length-1-k)<;>simp[hc]
def GR(p:Pg)(r:Rg)(k:Nat):(gx p r k).length<=k:=by
 unfold gx;rw[cg];have Y:=QX (fun i=>decide (kO p r i)) ((List.range p.items.length).reverse.take k);have J:=ach k (List.range p.items.length).reverse;omega
abbrev wiJ(b5 b3 b2:Nat)(r:rS)(p:dL)(A:List Int):aF:=ex fun ov:C=>bt [N b5 [ov] 22,row 3 1 ov A.length (bf A),N b3 r.cells 64,N b2 p.cells 104]
def KW{p:dL}(Z:aw G L w)(hp:p.Ok L)(hr:r.Ok L)(hp8:p.l.length<=8)(aiD:∀i,(eR (pT p.pg i) r.rg).lo.length<=24):aA prog 212 #[gQ p.cells,gQ r.cells] w (bU fun u w'=>aw G (row 3 1 u (gx p.pg r.rg p.l.length).length (bf (gx p.pg r.rg p.l.length))::L) w'):=by
 obtain⟨ia,ic,hs,-,-⟩:=(hp.its.sl.at Z).form;rw[cg]at hs;have jr:aL L (jk 4 (.slice ia p.l.length ic) (p.l.map cP.cells)):=by rw[<-hs];exact hp.its.sl
 have wy:p.pg.items.length=p.l.length:=by simp[dL.pg]
 refine wF [_,_] func212 ntmps212 ?_;refine wB 2 Z fun w b2 Z=>?_;refine wB 0 Z fun w b3 Z=>?_;refine wL 4 YU Z fun w b5 Z=>?_;refine z5 ?_;refine bg rfl rfl (aD.cw (v:= .slice ia p.l.length ic) aH Z pK (by first|exact aU some hs|(rw[<-hs];rfl))) ?_;refine aO rfl m8 rfl (nw Z) rfl fun w v11 hv=>?_;obtain⟨b1,rfl,Z⟩:=hv;refine z2 ?_;have Z:=bB Z 3 1;have hz:=Z.b [N b5 _ _,row 3 1 (nQ) _ _,N b3 _ _,N b2 _ _,N b1 _ _];clear Z;have Z:aw G (wiJ b5 b3 b2 r p (gx p.pg r.rg 0)::N b1 [.slice ia p.l.length ic] 102::L) w:=aw.oU (nQ) (aw.bJ hz);refine DG (e₀:=[(2,pQ b2),(3,pQ b3),(5,pQ b5)]) (fun k=>wiJ b5 b3 b2 r p (gx p.pg r.rg k)) (fun _=>False) [] rfl lW rfl sG rfl Z (fun k args M h=>by obtain⟨x,_,rfl,_⟩:=h;rfl) (FQ (F:=fun M=>p.Ok M/\r.Ok M) (l:=p.l) (jr.of sF) H ⟨hp.of sF,hr.of sF⟩) ?_ ?_ ?_ ?_
 ·clear Z;intro l D1 o k args M w hk rI Z;obtain⟨x,E,rfl,hp,hr⟩:=rI;have jr:aL _ (jk 4 (.slice ia p.l.length ic) (p.l.map cP.cells)):=hs▸hp.its.sl;obtain⟨ov,Z⟩:=Z.nt;have Z:=Z.eY;simp only[nI,lE]at Z;obtain⟨j,hj⟩:∃j,j=p.l.length-1-k:=⟨_,rfl⟩;have hjc:(p.l.length:Int)-1-k=(j:Int):=H
  (try unfold sQ at E);rw[<-hj]at E
  rw[hjc];have kA:(p.l.map cP.cells)[j]?=some x.cells:=by rw[dh,E];rfl
  have G5:p.pg.items[j]?=some x.it:=by show(p.l.map cP.it)[_]?=_;rw[dh,E];rfl
  have lG:=hp.its.it x (fK E);obtain⟨xa,xc,xj⟩:=((lG.k.of sF).at Z).form;obtain⟨xa2,xc2,N'⟩:=((lG.v.of sF).at Z).form;obtain⟨ib,io,hia⟩:=((jr.of sF).at Z).nn (by rw[cg];omega);have jQ:=OO (p:=p.pg) (r:=r.rg) (k:=k) H;rw[wy,<-hj]at jQ;have hwl:=GR p.pg r.rg k;rw[hia]at hs jr
  refine wL 5 jc Z fun w b7 Z=>?_;refine wN 0 (cs:=x.cells) (l':=x.cells) bA (by intro u hu;simp[cP.cells,xj,N']at hu;rcases hu with rfl|rfl|rfl|rfl<;>rfl) Z (fun w Z=>?_);refine aK ?_;refine⟨_,Z.pick (A:=pt l o) pK,fun o' w Z=>?_⟩;refine z4 ?_;refine bg rfl rfl (aD.cw (v:= .slice xa x.it.key.length xc) ao Z pK (by first|exact aU some xj|(rw[<-xj];rfl))) ?_;refine wV 0 (v:= .agg #[.slice xa x.it.key.length xc,nQ, .bool true]) ?_;refine wL 0 iP Z fun w b8 Z=>?_;refine wN 0 (cs:=[.slice xa x.it.key.length xc,nQ, .bool true]) (l':=[.slice xa x.it.key.length xc,nQ, .bool true]) aQ (by intro u hu;simp at hu;rcases hu with rfl|rfl|rfl<;>rfl) Z (fun w Z=>?_);refine aK ?_;refine qg (fun e w=>∃ow:rS,e=[(2,pQ b2),(3,pQ b3),(5,pQ b5),(7,pQ b7),(8,pQ b8)]/\(ow.rg=pT p.pg j/\ow.Ok M)/\aw G (N b8 ow.cells 64::N b7 x.cells 198::N b5 [ov] 22::row 3 1 ov (gx p.pg r.rg k).length (bf (gx p.pg r.rg k))::N b3 r.cells 64::N b2 p.cells 104::pt l o'::fS D1::M) w) ?_ ?_
  ·refine z5 ?_;refine bg rfl rfl (aD.cw (v:= .slice (some ⟨ib,io,none⟩) p.l.length ic) aH Z pK (by first|exact aU some hs|(rw[<-hs];rfl))) ?_;refine wI 3 (fun Y=>?_) fun Y=>?_
   ·obtain⟨y,hy⟩:∃y,p.l[j+1]?=some y:=⟨_,dG H⟩;have XM:(p.l.map cP.cells)[j+1]?=some y.cells:=by rw[dh,hy];rfl
    have hyi:p.pg.items[j+1]?=some y.it:=by show(p.l.map cP.it)[_]?=_;rw[dh,hy];rfl
    have Ue:=hp.its.it y (fK hy);obtain⟨ya,yc,hyk⟩:=((Ue.k.of sF).at Z).form;refine wQ [0,1,2,3,4,5,6,7,8,9,10] Z fun Z=>?_
    refine z1 ?_;refine bg rfl rfl (aD.cw (v:= .slice (some ⟨ib,io,none⟩) p.l.length ic) aH Z pK (by first|exact aU some hs|(rw[<-hs];rfl))) ?_;refine wX 2 aV bz ?_;refine cC rfl gu rfl ?_;refine bg rfl rfl (aD.one (v:= .slice ya y.it.key.length yc) ao (by rw[<-hyk];exact((jr.of sF).at Z).cell (j:=0) XM rfl)) ?_;refine z1 ?_;refine Fh (l':=[.slice xa x.it.key.length xc,nQ, .bool false]) rfl tV rfl rfl bS rfl Z pK rfl rfl (fun w Z q' hq=>?_) fun w Z=>?_
    ·have hq:=bK (l:=[6,1]) kR hq;simp only[cE,fQ,or_false]at hq;rcases hq with rfl|rfl
     ·exact bG rfl rfl rfl (aD.one (v:= .slice ya y.it.key.length yc) ao (by rw[<-hyk];exact((jr.of sF).at Z).cell (j:=0) XM rfl))
     exact bG rfl rfl rfl (aD.cw (v:= .slice (some ⟨ib,io,none⟩) p.l.length ic) aH Z pK (by first|exact aU some hs|(rw[<-hs];rfl)))
    refine wS 1 (l':=[.slice xa x.it.key.length xc, .slice ya y.it.key.length yc, .bool false]) ao Z fun w Z=>?_;refine aK ?_;have hz:=Z.b [N b8 _ _,N b7 _ _,N b5 _ _,row 3 1 ov _ _,N b3 _ _,N b2 _ _];exact⟨[(2,_),(3,_),(5,_),(7,_),(8,_)],sB,⟨⟨x.it.key,y.it.key,false⟩, .slice xa x.it.key.length xc, .slice ya y.it.key.length yc⟩,rfl,⟨(FD G5 hyi).symm,⟨by rw[<-xj];exact lG.k,by rw[<-hyk];exact Ue.k,lG.sk,Ue.sk⟩⟩,hz⟩
   refine jo ?_;have hz:=Z.b [N b8 _ _,N b7 _ _,N b5 _ _,row 3 1 ov _ _,N b3 _ _,N b2 _ _];exact⟨[(2,_),(3,_),(5,_),(7,_),(8,_)],sB,⟨⟨x.it.key,[],true⟩, .slice xa x.it.key.length xc,nQ⟩,rfl,⟨(FE G5 H).symm,⟨by rw[<-xj];exact lG.k,Pa,lG.sk,jV⟩⟩,hz⟩
  clear Z;rintro e w ⟨ow,rfl,⟨how,hoo⟩,Z⟩;refine wA 2 (l:=ow.cells) aQ Z ?_;refine wA 0 (l:=r.cells) aQ Z ?_;refine aO rfl Cx rfl (Ev (a:=ow) (b:=r) Z (hoo.of sF) (hr.of sF)) rfl fun w Zf hv=>?_;obtain⟨r',rfl,CX,Uo,Z⟩:=hv;have rY:=xf hoo.sl hoo.sh hr.sl hr.sh;rw[<-CX]at rY;simp only[lP,nI,lE]at Z
  refine wC rfl Lt rfl (MU (r:=r') Z (CJ rY.1 rY.2 pK pK) (by rw[CX,how];exact aiD j)) fun w Z=>?_
  have zA:pD r'.rg (pE r'.rg.lo)↔kO p.pg r.rg j:=by unfold kO;rw[CX,how]
  have hcx:kP p.pg.items j=x.it.child:=OV E;obtain⟨oa,oc,rfl⟩:=aT (Z.pick (A:=row 3 1 ov _ _) pK);refine cU rfl rfl ?_;refine aK ?_;refine wI 0 (fun J=>?_) fun J=>?_
  ·refine wD 1 (v:= .slice oa (gx p.pg r.rg k).length oc) dS Z ?_;refine wD 1 (v:=I x.it.child) ag Z ?_;refine fb (cs:=[I x.it.child]) rfl aY bF fh dM rfl rfl rfl Z rfl fun w b40 Z=>?_;refine eF (m:=(gx p.pg r.rg k).length) (k:=1) (news:=[I x.it.child]) rfl aY bF j7 fh rfl rfl Z pK (Rd.iq Z pK) rfl (by intro u hu;simp at hu;subst hu;rfl) mL H rfl (fun w v41 Z=>?_);obtain⟨na,nc,rfl⟩:=aT Z;refine wS 0 (l':=[.slice na ((gx p.pg r.rg k).length+1) nc]) dS Z fun w Z=>?_;refine aK ?_;have hc:kO p.pg r.rg j:=zA.1 (dg.1 J);rw[aB hc,hcx]at jQ;have hz:=(Z.b [N b40 _ _,row 5 1 r'.lv _ _,row 5 1 r'.hv _ _,N b8 _ _,N b7 _ _,N b5 _ _,row 3 1 (.slice na _ nc) _ _,N b3 _ _,N b2 _ _]).t5;refine aw.oU (.slice na ((gx p.pg r.rg k).length+1) nc) (aw.bJ ?_);rw[jQ,di,ln];exact hz
  refine jo ?_;have hc:¬kO p.pg r.rg j:=fun h=>J (not_not_intro (zA.2 h))
  rw[aj hc,kF]at jQ;have hz:=(Z.b [row 5 1 r'.lv _ _,row 5 1 r'.hv _ _,N b8 _ _,N b7 _ _,N b5 _ _,row 3 1 _ _ _,N b3 _ _,N b2 _ _]).t4;refine aw.oU (.slice oa (gx p.pg r.rg k).length oc) (aw.bJ ?_);rw[jQ];exact hz
 ·clear Z;intro D1 w Z;obtain⟨ov,Z⟩:=Z.nt;have Z:=Z.eY;simp only[nI,lE]at Z;refine wD 2 (v:=ov) dS Z ?_;refine z3 ?_;refine cV rfl ?_;refine mu Z pK fun w Z=>?_;exact xg rfl rfl (Z.b [N b5 _ _,N b3 _ _,N b2 _ _,N b1 _ _]).t4
 ·clear Z;intro D w Z;exact(nU Z).elim fun _ h=>h.1.elim
 intro id A hA;cases hA
def sU:∀a b:bZ,fy a b=-fy b a
 |[],[]=>rfl
 |[],_::_=>rfl
 |_::_,[]=>rfl
 |a::x,b::y=>by
  have ih:=sU x y;simp only[fy]
  by_cases Y:a.toNat<b.toNat
  ·rw[aB Y,aj H,aB Y]
  by_cases J:b.toNat<a.toNat
  ·rw[aj Y,aB J,aB J];rfl
  rw[aj Y,aj J,aj J,aj Y];exact ih
def nO:∀{a b c:bZ},fy a b<=0->fy b c<0->fy a c<0
 |[],[],_,_,h=>h
 |[],_::_,[],_,h=>by simp[fy]at h
 |[],_::_,_::_,_,_=>by simp[fy]
 |_::_,[],_,h,_=>by simp[fy]at h
 |_::_,_::_,[],_,h=>by simp[fy]at h
 |a::x,b::y,c::z,Y,J=>by
  have ih:=nO (a:=x) (b:=y) (c:=z);simp only[fy]at Y J ⊢
  by_cases h3:a.toNat<b.toNat
  ·by_cases h4:b.toNat<c.toNat
   ·rw[aB H];decide
   rw[aj h4]at J
   by_cases h5:c.toNat<b.toNat
   ·rw[aB h5]at J;omega
   rw[aB H];decide
  rw[aj h3]at Y
  by_cases h6:b.toNat<a.toNat
  ·rw[aB h6]at Y;omega
  rw[aj h6]at Y
  by_cases h4:b.toNat<c.toNat
  ·rw[aB H];decide
  rw[aj h4]at J
  by_cases h5:c.toNat<b.toNat
  ·rw[aB h5]at J;omega
  rw[aj h5]at J;rw[aj H,aj H];exact ih Y J
def Cu{a b c:bZ}(Y:fy a b<=0)(J:fy b c<=0):fy a c<=0:=by
 by_cases h:fy b c=0
 ·rw[EL]at h;subst h;exact Y
 have:=nO Y (show fy b c<0 by omega);omega
def Qs{k:bZ}(h:1<=k.length):fy [0] k<=0:=by
 cases k with
 |nil=>simp at h
 |cons a k=>
  simp only[fy];have h0:(0:UInt8).toNat=0:=rfl;rw[h0]
  by_cases Y:0<a.toNat
  ·rw[aB Y];decide
  rw[aj Y,aj H];cases k<;>simp[fy]
def UC{m:Rg}{k:bZ}(h:pD m k)(hl:m.lo.length<=24):pD m (pE m.lo):=by
 obtain⟨Y,J,h3⟩:=h;have h4:fy (pE m.lo) k<=0/\0<=fy (pE m.lo) m.lo/\kM (pE m.lo):=by
  unfold pE
  by_cases hk:kM m.lo
  ·rw[aB hk];refine⟨?_,by rw[Yo];decide,hk⟩;rw[sU];omega
  rw[aj hk];have hn:m.lo=[]:=by
   unfold kM at hk;exact vD H
  rw[hn];exact⟨Qs Y.1,by decide,by unfold kM;decide⟩
 refine⟨h4.2.2,h4.2.1,?_⟩;rcases h3 with h3|h3
 ·exact .inl h3
 exact .inr (nO h4.1 h3)
def FT{a b:Rg}{k:bZ}:pD (eR a b) k↔pD a k/\pD b k:=by
 have aiw:0<=fy k (fL a.lo b.lo)↔0<=fy k a.lo/\0<=fy k b.lo:=by
  have e1:=sU k a.lo;have e2:=sU k b.lo;unfold fL
  by_cases h:fy a.lo b.lo<0
  ·rw[aB h]
   constructor
   ·intro Y;have:=Cu (a:=a.lo) (b:=b.lo) (c:=k) H H;omega
   exact fun Y=>Y.2
  rw[aj h];have e3:=sU a.lo b.lo
  constructor
  ·intro Y;have:=Cu (a:=b.lo) (b:=a.lo) (c:=k) H H;omega
  exact fun Y=>Y.1
 have RN:fy k (qX a.hi b.hi)<0↔fy k a.hi<0/\fy k b.hi<0:=by
  unfold qX
  by_cases h:0<fy a.hi b.hi
  ·rw[aB h];have e3:=sU a.hi b.hi
   constructor
   ·intro Y;refine⟨?_,Y⟩;exact nO (a:=k) (b:=b.hi) (c:=a.hi) H H
   exact fun Y=>Y.2
  rw[aj h]
  constructor
  ·intro Y;refine⟨Y,?_⟩
   by_cases h0:fy a.hi b.hi=0
   ·rw[EL]at h0;rw[<-h0];exact Y
   exact nO (a:=k) (b:=a.hi) (c:=b.hi) H H
  exact fun Y=>Y.1
 unfold pD eR;simp only[aiw];cases ha:a.Bc<;>cases hb:b.Bc<;>simp[RN]<;>(constructor<;>(intro h;simp_all))
def UR{r:Rg}{k:bZ}(Y:pD (pT p i) k)(J:pD r k)(hl:(eR (pT p i) r).lo.length<=24):kO p r i:=UC (FT.2 ⟨Y,J⟩) hl
def oD(rd:Int->Option Pg):Nat->Int->List It
 |0,n=>match rd n with
  |none=>[]
  |some p=>p.items
 |k+1,n=>match rd n with
  |none=>[]
  |some p=>p.items.flatMap fun x=>oD rd k x.child
def KK{rd:Int->Option Pg}:∀{k:Nat} {n:Int},jY rd k n=(oD rd k n).map (O5 rd)
 |0,n=>by
  rw[jY,oD];cases rd n<;>rfl
 |k+1,n=>by
  rw[jY,oD];cases rd n with
  |none=>rfl
  |some p=>
   simp only;rw[List.map_flatMap]
   congr 1
   funext x
   exact KK
def xi{rd:Int->Option Pg}:∀{k:Nat} {n:Int} {r:Rg},qp rd k n r->∀y∈oD rd k n,pD r y.key
 |0,n,r,h=>by
  obtain⟨p,hp,Y,J⟩:=h;intro y hy;rw[oD,hp]at hy;exact J y hy
 |k+1,n,r,h=>by
  obtain⟨p,hp,Y,J⟩:=h;intro y hy;rw[oD,hp]at hy;obtain⟨x,E,hy⟩:=TC.1 hy;obtain⟨i,hi⟩:=ZN E;exact(FT.1 (xi (J i x hi) y hy)).1
def pB(rd:Int->Option Pg)(r:Rg)(x:Int×Nat):List It:=(oD rd x.2 x.1).filter fun y=>decide (pD r y.key)
def vA(rd:Int->Option Pg)(r:Rg)(st:List (Int×Nat)):List It:=st.reverse.flatMap (pB rd r)
def NP(rd:Int->Option Pg)(r:Rg)(a b:List (Int×Nat)):vA rd r (a++b)=vA rd r b++vA rd r a:=by unfold vA;rw[aci,TI]
def lM(p:Pg)(r:Rg)(k:Nat):List (Int×Nat):=((List.range p.items.length).reverse.filter fun i=>decide (kO p r i)).map fun i=>(kP p.items i,k)
def QE(p:Pg)(r:Rg)(k:Nat):(lM p r k).map (·.1)=gx p r p.items.length:=by
 unfold lM gx;rw[kH sM,Fz];rfl
def rZ{α β:Type}{f:α->List β}{q:α->Bool}:∀{l:List α},(∀x∈l,q x=false->f x=[])->(l.filter q).flatMap f=l.flatMap f
 |[],_=>rfl
 |x::l,h=>by
  have ih:=rZ (f:=f) (q:=q) (l:=l) (fun y hy=>h y (kG _ hy));rw[FA];cases hq:q x with
  |true=>simp[ih]
  |false=>simp[ih,h x (kf ..) hq]
def D6(l:List It):(List.range l.length).map (fun i=>kP l i)=l.map It.child:=by
 apply Ju;intro i;rw[dh,dh]
 by_cases h:i<l.length
 ·rw[TH h,dG h];simp only[Js];unfold kP;rw[dG h];rfl
 rw[yi (by simp;omega),yi H];rfl
def EN{l:List It}(h:l[i]?=some x):kP l i=x.child:=by unfold kP;rw[h];rfl
def T5{rd:Int->Option Pg}{r r':Rg}(hs:jU rd k n)(hk:qp rd k n r')(hl:∀p i,rd n=some p->(eR (pT p i) r).lo.length<=24):∃p,rd n=some p/\(p.kind=1\/p.kind=2)∧
  (p.kind=1->pB rd r (n,k)=p.items.filter fun y=>decide (pD r y.key))∧
  (p.kind=2->∃j,k=j+1/\pB rd r (n,k)=vA rd r (lM p r j)/\(∀x∈lM p r j,jU rd x.2 x.1/\∃r'',qp rd x.2 x.1 r'')/\mX rd (lM p r j)<qo rd k n):=by
 cases k with
 |zero=>
  obtain⟨p,Y,J,h3⟩:=hs;refine⟨p,Y, .inl J,fun _=>?_,fun h=>by omega⟩;unfold pB;simp only[oD,Y]
 |succ j=>
  obtain⟨p,Y,J,h3⟩:=hs;obtain⟨p',FV,h4,h5⟩:=hk;rw[Y]at FV;cases FV;refine⟨p,Y, .inr J,fun h=>by omega,fun _=>⟨j,rfl,?_,fun x E=>?_,?_⟩⟩
  ·have e1:pB rd r (n,j+1)=(p.items.map It.child).flatMap fun c=>pB rd r (c,j):=by
    unfold pB;simp only[oD,Y];rw[List.filter_flatMap,List.flatMap_map]
   rw[e1,<-D6,List.flatMap_map];unfold vA lM;rw[<-List.map_reverse,<-List.filter_reverse,List.reverse_reverse,List.flatMap_map];symm;apply rZ;intro i hi hc;have hi:=sr.1 hi;obtain⟨x,E⟩:∃x,p.items[i]?=some x:=⟨_,dG hi⟩;rw[EN E];unfold pB;rw[aco];intro y hy XM;have h6:=(FT.1 (xi (h5 i x E) y hy)).2;have h7:=UR h6 (by simpa using XM) (hl p i Y);simp[h7]at hc
  ·unfold lM at E;obtain⟨i,hi,rfl⟩:=dY.1 E;have hi:=sr.1 (List.mem_reverse.1 (Ml.1 hi).1);obtain⟨x,E⟩:∃x,p.items[i]?=some x:=⟨_,dG hi⟩;rw[EN E];exact⟨h3 x (fK E),_,h5 i x E⟩
  rw[qo,Y];have key:∀(q:Nat->Bool) (l:List Nat),((l.filter q).map fun i=>qo rd j (kP p.items i)).sum<=(l.map fun i=>qo rd j (kP p.items i)).sum:=by
   intro q l
   induction l with
   |nil=>exact fP _
   |cons i l ih=>
    rw[FA];split
    ·simp only[ey,QS];omega
    simp only[ey,QS];omega
  have h6:=key (fun i=>decide (kO p r i)) (List.range p.items.length);have h7:((List.range p.items.length).map fun i=>qo rd j (kP p.items i))=p.items.map fun x=>qo rd j x.child:=by
   have:=aU (List.map (qo rd j)) (D6 p.items);rw[Fz,Fz]at this;exact this
  rw[h7]at h6;have h8:mX rd (lM p r j)=mX rd (lM p r j).reverse:=(JK rd _).symm;rw[h8];unfold lM mX;rw[<-List.map_reverse,<-List.filter_reverse,List.reverse_reverse,Fz];simp only;have h9:(((List.range p.items.length).filter fun i=>decide (kO p r i)).map ((fun x:Int×Nat=>qo rd x.2 x.1)∘fun i=>(kP p.items i,j))).sum=(((List.range p.items.length).filter fun i=>decide (kO p r i)).map fun i=>qo rd j (kP p.items i)).sum:=rfl;omega
structure abG(L:List aF)(v:C)(l:List lX):Prop where
 sl:aL L (jk 2 v (l.map lX.cells))
 kk:∀x∈l,aL L (eB x.kv x.pr.1)
 kv:∀x∈l,aL L (eB x.vv x.pr.2)
 len:l.length<=1000000000
def aw.aeD{A:aF}(h:aw G (A::B::R) w):aw G (A::R) w:=by
 have hz:=h.b [B];exact hz.tail
def ahG(F:List aF->Prop)(l:List lX)(k:Nat)(args:List C)(M:List aF):Prop:=∃x,l[k]?=some x/\args=[I k,gQ x.cells]/\F M
def Pm{l:List lX}{v:C}(hp:abG L v l)(hF:∀b c,F (N b c 66::N b1 [v] 58::L)):IA prog 184 [pQ b1] G (N b1 [v] 58::L) w l.length (ahG F l) (N b1 [v] 58::L):=by
 intro lq h2 Jx w hy Z;obtain⟨sa,sc,Y,-,-⟩:=((hp.sl.of sF).at Z).form;rw[cg]at Y;subst Y;have sP:=hp.len;refine wF [_,_] func184 ntmps184 ?_;refine wD 2 jt Z ?_;refine eE rfl kR iY rfl ?_;refine z3 ?_;refine bx (fun m e w=>∃k:Nat,k<=l.length/\m=l.length-k/\e=[(0, .func (.yield lq) #[] #[]),(5, .slice sa l.length sc),(6,I l.length),(7,I k)]/\aw G (h2 k::N b1 [.slice sa l.length sc] 58::L) w)
  (m:=l.length) sB
  ⟨0,de _,rfl,rfl,Z⟩ ?_
 rintro m e w ⟨k,hk,rfl,rfl,Z⟩;refine wI 5 (fun Y=>?_) fun Y=>?_
 ·have gn:k<l.length:=H;obtain⟨x,E⟩:∃x,l[k]?=some x:=⟨_,dG gn⟩;have kA:(l.map lX.cells)[k]?=some x.cells:=by rw[dh,E];rfl
  obtain⟨xa,xc,xj⟩:=(((hp.kk x (fK E)).of sF).at Z).form;obtain⟨ya,yc,N'⟩:=(((hp.kv x (fK E)).of sF).at Z).form;obtain⟨bb,oo,hsa⟩:=((hp.sl.of sF).at Z).nn (by rw[cg];omega);cases hsa;refine wX 6 iY oO ?_;refine bg rfl rfl (aD.many (cs:=x.cells) qD rfl (by rw[cZ];exact((hp.sl.of sF).at Z).at kA)) ?_;refine wL 0 IV Z fun w b4 Z=>?_;refine wN 1 (cs:=x.cells) (l':=x.cells) qD (by intro u hu;simp[lX.cells,xj,N']at hu;rcases hu with rfl|rfl<;>rfl) Z (fun w Z=>?_);refine wA 5 (l:=x.cells) qD Z ?_;have hz:=Z.b [h2 k,N b4 _ _];refine wK rfl rfl rfl (hy k _ _ w gn ⟨x,E,rfl,hF _ _⟩ hz) rfl fun w v15 hv=>?_;obtain⟨bq,rfl,tX,vm⟩:=vp hv;refine nh rfl rfl ?_;refine aK ?_;refine fJ rfl (fun J=>?_) fun J=>?_
  ·refine Ca ?_;exact u6 rfl rfl (.inr (by
 have hz:=vm (by simpa using J);exact hz.aeD))
  refine z5 ?_;have hz:=(tX (by simpa using J)).aeD;exact⟨l.length-(k+1),H,[(0,_),(5,_),(6,_),(7,I (k+1:Nat))],sB,k+1,H,rfl,rfl,hz⟩
 refine z1 ?_;exact u6 rfl rfl (.inl (by
 have oY:k=l.length:=H;subst oY;exact Z))
def ahF(l:List lX)(k:Nat)(args:List C)(_:List aF):Prop:=∃x a c a' c',l[k]?=some x/\args=[.slice a x.pr.1.length c, .slice a' x.pr.2.length c']
def acM{ps:List lX}{gf:Nat}{v:C}{Li Lx:List aF}(gC:an prog gf)(sP:∀x∈ps,dP x.pr.1/\dP x.pr.2)(VP:∀(X:aF) w,IA prog gf lb G (X::Li) w ps.length (ahG (fun M=>abG M v ps) ps) (X::Lx)):IA prog 183 [pQ b1] G (N b1 [.func (.func gf) #[] lb.toArray] 215::Li) w ps.length (ahF ps) (N b1 [.func (.func gf) #[] lb.toArray] 215::Lx):=by
 intro lo Jo Jx w hy Z;refine wF [_,_] func183 ntmps183 ?_;refine wB 2 Z fun w b2 Z=>?_;refine wD 3 (v:= .func (.func gf) #[] lb.toArray) s7 Z ?_;refine z2 ?_;have hz:=Z.b [Jo 0,N b2 _ _,N b1 _ _];clear Z;have Z:=aw.bJ (M:=[_,_]) hz;refine DG (e₀:=[(2,pQ b2)]) (fun k=>bt [Jo k,N b2 [.func (.yield lo) #[] #[]] 272]) (Jx) [] rfl gC rfl sG rfl Z (fun k args M h=>by obtain⟨x,_,rfl,_⟩:=h;rfl) (VP _ _) ?_ ?_ ?_ ?_
 ·clear Z;intro l D1 o k args M w hk rI Z;obtain⟨x,E,rfl,hp⟩:=rI;have Z:=Z.eY;simp only[nI,lE]at Z;have hxm:=fK E;obtain⟨xa,xc,xj⟩:=(((hp.kk x hxm).of sF).at Z).form;obtain⟨ya,yc,N'⟩:=(((hp.kv x hxm).of sF).at Z).form;refine wL 1 IV Z fun w b4 Z=>?_;refine wN 0 (cs:=x.cells) (l':=x.cells) qD (by intro u hu;simp[lX.cells,xj,N']at hu;rcases hu with rfl|rfl<;>rfl) Z (fun w Z=>?_);refine aK ?_;refine⟨_,Z.pick (A:=pt l o) pK,fun o' w Z=>?_⟩;refine z2 ?_;refine wQ [0,1,2,4,5,3,6,7,8] Z fun Z=>?_
  refine wD 0 (v:= .func (.yield lo) #[] #[]) gL Z ?_;refine z1 ?_;refine bg rfl rfl (aD.cw (v:= .slice xa x.pr.1.length xc) ao Z pK (by first|exact aU some xj|(rw[<-xj];rfl))) ?_;refine z1 ?_;refine bg rfl rfl (aD.cw (v:= .slice ya x.pr.2.length yc) ao Z pK (by first|exact aU some N'|(rw[<-N'];rfl))) ?_;refine ed rfl fm rfl (fE (l:=x.pr.1) Z (by rw[<-xj];exact(hp.kk x hxm).of sF) (sP x hxm).1) (fun w v11 hv q' hq=>?_) (fun w v11 hv=>?_)
  ·have Z:aw G (row 5 1 v11 x.pr.1.length (cI x.pr.1)::_) _:=hv;have hq:=bK (l:=[5,0]) kR hq;simp only[cE,fQ,or_false]at hq;rcases hq with rfl|rfl
   ·exact bG rfl rfl rfl (aD.cw (v:= .slice ya x.pr.2.length yc) ao Z pK (by first|exact aU some N'|(rw[<-N'];rfl)))
   exact bG rfl rfl rfl (aD.cw (v:= .func (.yield lo) #[] #[]) gL Z pK rfl)
  have Z:aw G (row 5 1 v11 x.pr.1.length (cI x.pr.1)::_) _:=hv;refine ed rfl fm rfl (fE (l:=x.pr.2) Z (by rw[<-N'];exact(hp.kv x hxm).of sF) (sP x hxm).2) (fun w v14 hv q' hq=>?_) (fun w v14 hv=>?_)
  ·have Z:aw G (row 5 1 v14 x.pr.2.length (cI x.pr.2)::_) _:=hv;have hq:=bK (l:=[0]) kR hq;simp only[cE,fQ,or_false]at hq;subst hq;exact bG rfl rfl rfl (aD.cw (v:= .func (.yield lo) #[] #[]) gL Z pK rfl)
  have Z:aw G (row 5 1 v14 x.pr.2.length (cI x.pr.2)::_) _:=hv;obtain⟨va,vc,rfl⟩:=aT Z;obtain⟨wa,wc,rfl⟩:=aT (Z.pick (A:=row 5 1 v11 _ _) pK);refine wK rfl rfl rfl (hy k _ _ w hk ⟨x,wa,wc,va,vc,E,rfl⟩ (Z.pick (A:=Jo _) pK)) kR fun w v15 hv=>?_;obtain⟨bq,rfl,tX,vm⟩:=vp hv;refine nh rfl rfl ?_;refine aK ?_;refine fJ rfl (fun Y=>?_) fun Y=>?_
  ·refine Ca ?_;exact((vm (by simpa using Y)).b [row 5 1 (.slice va _ vc) _ _,row 5 1 (.slice wa _ wc) _ _,N b4 _ _,N b2 _ _,Jx,pt l _,fS D1]).t4
  refine jo ?_;have hz:=((tX (by simpa using Y)).b [row 5 1 (.slice va _ vc) _ _,row 5 1 (.slice wa _ wc) _ _,N b4 _ _,Jo _,N b2 _ _,pt l _,fS D1]).t3;exact aw.bJ (M:=[_,_]) hz
 ·clear Z;intro D1 w Z;have Z:=Z.eY;simp only[nI,lE]at Z;refine cV rfl ?_;refine mu Z pK fun w Z=>?_;exact JS rfl (.inl (Z.b [N b2 _ _]).tail)
 ·clear Z;intro D1 w Z;refine cV rfl ?_;refine mu Z pK fun w Z=>?_;exact JS rfl (.inr Z)
 intro id A hA;cases hA
def MO(Z:aw G L w):aA prog 120 #[pQ vq,gQ (dI t),gQ r.cells] w (bU fun u w'=>∃b3 b4 b5,u= .func (.func 211) #[] #[pQ b4,pQ b3,pQ b5]/\aw G (N b4 (dI t) 62::N b3 [pQ vq] 28::N b5 r.cells 64::L) w'):=by
 refine wF [_,_,_] func120 ntmps120 ?_;refine wB 2 Z fun w b3 Z=>?_;refine wB 0 Z fun w b4 Z=>?_;refine wB 0 Z fun w b5 Z=>?_;refine z4 ?_;refine o7 (v1:=#[]) (v2:=#[pQ b4,pQ b3,pQ b5]) rfl (by intro z hz;simp at hz;rcases hz with rfl|rfl|rfl<;>exact⟨_,rfl⟩) sM (by simp only[su,ey,l9];rfl) ?_;refine dk 3 ?_;exact⟨b3,b4,b5,rfl,Z.b [N b4 _ _,N b3 _ _,N b5 _ _]⟩
def LV(P:au)(G:Gh)(l n:Nat)(OG:Nat->List C->List aF->List aF->Prop)(h2:Nat->aF)(Jx:aF):Prop:=
 ∀k args CZ M w,k<n->OG k args CZ M->aw G (h2 k::(CZ++M)) w->GG P l args w fun v w'=>(v= .bool true/\aw G (h2 (k+1)::M) w')\/(v= .bool false/\aw G (Jx::M) w')
def aeJ(P:au)(gf:bN)(lb:List C)(G:Gh)(L:List aF)(w:ae)(n:Nat)(OG:Nat->List C->List aF->List aF->Prop)(Lx:List aF):Prop:=
 ∀(l:Nat) (h2:Nat->aF) (Jx:aF) (w':ae),LV P G l n OG h2 Jx->aw G (h2 0::L) w'->aA P gf (.func (.yield l) #[] #[]::lb).toArray w' (bU fun _ Cb=>aw G (h2 n::Lx) Cb\/aw G (Jx::Lx) Cb)
section
variable{n:Nat}{K F:jF}{hx:List (Nat×jF)}{e₀:cX}{Lx:List aF}
def Y4{gop:aM}{ps:Array Tmp}{assign body:Code}{gf:bN}{OG:Nat->List C->List aF->List aF->Prop}(h2:Nat->aF)(Jr:aF)(Je:List (Nat×aF))(hg:ev e gop=some (.func (.func gf) #[] lb.toArray))(hf:an P gf)(oR:ps.toList.all (Nat.blt · n)=true)(hs:gd e₀ e)(aaR:marks e₀=[])(Z:aw G (h2 0::L) w)(hlen:∀k args CZ M,OG k args CZ M->ps.toList.length=args.length)(VP:aeJ P gf lb G L w m OG Lx)(re:∀(l D:Nat) (o:Obj) (k:Nat) (args:List C) (CZ M:List aF) (w:ae),k<m->OG k args CZ M->aw G (h2 k::pt l o::fS D::(CZ++M)) w→
   X P n (some l) assign (fun C2 vt=>∃L1,aw G (pt l o::L1) vt/\∀(o':Obj) (Fl:ae),aw G (pt l o'::L1) Fl→
    X P n (some l) body (fun _ w=>aw G (h2 (k+1)::pt l o'::fS D::M) w) (VZ G Je (pt l o'::fS D::M)) (fun _ w=>aw G (Jr::pt l o'::fS D::M) w) C2 Fl) [] (fun _ _=>False) (psE ps.toList args e₀) w)(Od:∀(D:Nat) (w:ae),aw G (h2 m::fS D::Lx) w->K ((1000000000,pQ D)::e) w)(aaP:∀(D:Nat) (w:ae),aw G (Jr::fS D::Lx) w->F ((1000000000,pQ D)::e) w)(hex:∀(id:Nat) (A:aF),(id,A)∈Je->∃K',tf hx id=some K'/\∀(D:Nat) (w:ae),aw G (A::fS D::Lx) w->K' ((1000000000,pQ D)::e) w):
  X P n none (.rangeFunc gop ps assign body) K hx F e w:=fun a ha=>by
 refine wpIn_rangeFunc (F:=Fw none) ?_;intro fn _;obtain⟨D,hD⟩:∃D,D=w.heap.size:=⟨_,rfl⟩;obtain⟨rec,xl⟩:∃rec:LoopState->Option Code->Obj,rec=fun st pe=>agM fn a.tmps ps assign body D st pe:=⟨_,rfl⟩
 have CW:aw G (pt (D+1) (rec .ready none)::fS D::h2 0::L) ((w.alloc (.deferred (some []))).alloc (rec .ready none)):=by
  have Y:=Z.push (.deferred (some []));have J:=Y.push (rec .ready none);simp only[Array.size_push]at J;rw[hD];exact J
 obtain⟨W1,hW1⟩:∃W1,(w.alloc (.deferred (some []))).alloc (rec .ready none)=W1:=⟨_,rfl⟩;rw[hW1]at CW;have Qo:=ha.ev hg;obtain⟨ff,hf1,hf2,hf3⟩:=hf;refine⟨D+1,[{target:= .collected D,args:=#[]}],W1,{target:= .fn (.func gf) lb.toArray,args:=#[.func (.yield (D+1)) #[] #[]]},W1,gf,
  (.func (.yield (D+1)) #[] #[]::lb).toArray,W1,?_,?_,fun _ _=>trivial,?_,(fun hd=>by cases hd),?_⟩
 ·rw[<-hW1,xl,hD];exact run_enterLoop_outer _ _ _ _ _
 ·simp only[resolve,Qo];simp[Deferred.ofValue,Act.eval]
 ·simp only[invoke,callFunc,al,aG,ah,program,Sem.run,hf1,hf2,hf3];simp
 have Kb:∀(st:LoopState) (pe:Option Code) (A:aF) (kY:ae),st≠ .busy->aw G (pt (D+1) (rec st pe)::fS D::A::Lx) kY->∃qP,(Instr.endLoop (D+1)).run P kY= .ok pe qP/\aw G (A::fS D::Lx) qP:=fun st pe A kY jQ h=>by
  have Y:=h.eh;rw[xl]at Y;have J:=run_endLoop (P:=P) (r:={state:=st,pending:=pe,fn,tmps:=a.tmps,params:=ps,assign,body,defers:=D}) Y jQ;exact⟨_,J,((oB h _).tail).pick (.there .here)⟩
 have Kf:dZ n ((1000000000,pQ D)::e) {a with defers:=[{target:= .collected D,args:=#[]}]++a.defers}:=by
  refine⟨?_,ha.size,ha.small,fun t v hv=>?_⟩
  ·simp[marks,Hg,ha.defers]
  rcases mz hv with⟨Y,_⟩|⟨_,J⟩
  ·exact aS Y.symm (zB hv)
  exact ha.get t v J
 have afO:dZ n e₀ {tmps:=a.tmps,defers:=[]}:=⟨by rw[aaR];rfl,ha.size,ha.small,fun t v hv=>ha.get t v (hs t v hv)⟩;obtain⟨Jk,hJk⟩:∃Jk:Nat->aF,Jk=fun k h=>all [pt (D+1) (rec .ready none),fS D,h2 k] h:=⟨_,rfl⟩
 obtain⟨Jx,hJx⟩:∃Jx:aF,Jx=fun h=>all [pt (D+1) (rec .done (some .ret)),fS D,Jr] h\/∃id A,(id,A)∈Je/\all [pt (D+1) (rec .done (some (.exit id))),fS D,A] h:=⟨_,rfl⟩
 have hy:LV P G (D+1) m OG Jk Jx:=fun k args CZ M w' hk rI hS=>by
  rw[hJk]at hS;obtain⟨hh,Y,J⟩:=nU hS;have hS':aw G (pt (D+1) (rec .ready none)::fS D::h2 k::(CZ++M)) w':=J _ Y;have hl:=hlen k args CZ M rI;have Mx:=hS'.eh;rw[xl]at Mx
  refine⟨fn,_,assign,body,run_yield (r:={state:= .ready,pending:=none,fn,tmps:=a.tmps,params:=ps,assign,body,defers:=D}) Mx (by simpa using hl.symm),?_⟩;refine roundIn_of_wpIn (F:=Fw none) trivial ?_;have Ke:((ps.zip args.toArray).foldl (fun tmps x=>tmps.setIfInBounds x.1 x.2) a.tmps)=(ps.toList.zip args).foldl (fun t x=>t.setIfInBounds x.1 x.2) a.tmps:=by
   rw[<-ZJ,Array.toList_zip]
  have hX:=re (D+1) D (rec .ready none) k args CZ M w' hk rI (hS'.LG (As:=[h2 k]) (.cons (.there (.there .here)) .nil)) _ (LU ps.toList args e₀ _ afO oR hl)
  show assign.wpIn (Fw (some (D+1))) 0 P _ {tmps:=((ps.zip args.toArray).foldl (fun tmps x=>tmps.setIfInBounds x.1 x.2) a.tmps),defers:=[]} w'
  rw[Ke];refine wpIn_mono hX fun ex yP vt hq=>?_
  cases ex<;>simp only[vF,tf]at hq<;>simp only[Exit.then]
  case exit=>obtain⟨K',h,_⟩:=hq;cases h
  case ret=>obtain⟨_,_,h⟩:=hq;exact h
  case normal=>
   obtain⟨C2,aa4,L1,hS1,aa1⟩:=hq;have RI:=hS1.eh;rw[xl]at RI;refine⟨_,run_beginRound (r:={state:= .ready,pending:=none,fn,tmps:=a.tmps,params:=ps,assign,body,defers:=D}) RI rfl,?_⟩;refine wpIn_mono (aa1 (rec .busy none) _ (by rw[xl];exact oB hS1 _) yP aa4) fun ex agb Fl hq=>?_
   have Pv:∀(jump:Option Code) (A:aF),aw G (A::pt (D+1) (rec .busy none)::fS D::M) Fl->∃kY,(Instr.endRound (D+1) jump).run P Fl= .ok (.bool jump.isNone) kY/\aw G (pt (D+1) (rec (if jump.isNone then .ready else .done) jump)::fS D::A::M) kY:=fun jump A h=>by
    have h:=h.LG (As:=[pt (D+1) _,fS D]) (.cons (.there .here) (.cons (.there .here) .nil));have Y:=h.eh;rw[xl]at Y;refine⟨_,run_endRound (r:={state:= .busy,pending:=none,fn,tmps:=a.tmps,params:=ps,assign,body,defers:=D}) jump Y,?_⟩;rw[xl];exact oB h _
   cases ex<;>simp only[vF]at hq<;>simp only[roundPost]
   case normal=>
    obtain⟨_,_,h⟩:=hq;obtain⟨kY,h3,h4⟩:=Pv none _ h;exact⟨_,kY,h3,_,rfl, .inl ⟨rfl,by rw[hJk];exact uJ (M:=[_,_,_]) h4 fun _ h=>h⟩⟩
   case ret=>
    obtain⟨_,_,h⟩:=hq;obtain⟨kY,h3,h4⟩:=Pv (some .ret) _ h;exact⟨_,kY,h3,_,rfl, .inr ⟨rfl,by rw[hJx];exact uJ (M:=[_,_,_]) h4 fun _ h=> .inl h⟩⟩
   case exit id=>
    obtain⟨K',gn,_,_,h⟩:=hq;obtain⟨A,hA,rfl⟩:=Oi gn;obtain⟨kY,h3,h4⟩:=Pv (some (.exit id)) _ h;exact⟨_,kY,h3,_,rfl, .inr ⟨rfl,by rw[hJx];exact uJ (M:=[_,_,_]) h4 fun _ h=> .inr ⟨id,A,hA,h⟩⟩⟩
 have h0:aw G (Jk 0::L) W1:=by rw[hJk];exact uJ (M:=[_,_,_]) CW fun _ h=>h
 refine Calls.fw (Calls.mono (VP (D+1) Jk Jx W1 hy h0) fun en kY ⟨v,hv,hR⟩=>?_) none _;subst hv
 show∃jump qP,_
 rcases hR with hR|hR
 ·rw[hJk]at hR;obtain⟨hh,Y,J⟩:=nU hR;obtain⟨qP,h3,h4⟩:=Kb _ _ _ kY sM (J _ Y);exact⟨none,qP,h3,_,Kf,Od D qP h4⟩
 rw[hJx]at hR;obtain⟨hh,Y|⟨id,A,hA,Y⟩,J⟩:=nU hR
 ·obtain⟨qP,h3,h4⟩:=Kb _ _ _ kY sM (J _ Y);exact⟨some .ret,qP,h3,wpIn_ret ⟨_,Kf,aaP D qP h4⟩⟩
 obtain⟨qP,h3,h4⟩:=Kb _ _ _ kY sM (J _ Y);obtain⟨K',gn,hK⟩:=hex id A hA;exact⟨some (.exit id),qP,h3,wpIn_exit ⟨K',gn,_,Kf,hK D qP h4⟩⟩
end
def aeK(vq:Nat)(V:Va)(its:List It)(k:Nat)(args:List C)(CZ M:List aF):Prop:=∃(x:cP) (R:List aF),its[k]?=some x.it/\args=[gQ x.cells]/\CZ=cm x/\dP x.it.key/\dP x.it.value/\dE (gX vq V) M R
def aw.UX{M ai:List aF}(h:aw G (bt (M++ai)::R) w):aw G (M++(bt ai::R)) w:=by
 have Y:=h.eY;rw[gm]at Y;exact Y.mono fun x E=>by
  have key:∀(M:List aF) (x:vh),all (M++(ai++R)) x->all (M++bt ai::R) x:=fun M=>by
   induction M with
   |nil=>exact fun x E=>(all_append ai R x).2 E
   |cons A M ih=>exact fun x E=>jK ih E
  exact key M x E
def vJ(l:List Int):bf l=(l.map fun c=>[I c]).flatten:=by
 induction l with
 |nil=>rfl
 |cons x l ih=>simp only[bf,ey,Mm,List.singleton_append]at ih ⊢;rw[ih]
def aes(v:C)(l:List Int):aL (row 3 1 v l.length (bf l)::R) (jk 1 v (l.map fun c=>[I c])):=by
 rw[vJ];exact(jk.row sM (fun r hr=>by obtain⟨c,_,rfl⟩:=dY.1 hr;rfl)).head R
def aaH{b4 b3 b5 kk:Nat}{its:List It}(fx:V.Ok)(hs:t.root≠0->jU V.rd kk t.root/\∃r',qp V.rd kk t.root r')(pW:its=if t.root=0 then []else pB V.rd r.rg (t.root,kk))(Uq:t.root≠0->qo V.rd kk t.root<=1000000000)(hl:∀n p i,V.rd n=some p->(eR (pT p i) r.rg).lo.length<=24)(hr:r.Ok L):
  aeJ prog 211 [pQ b4,pQ b3,pQ b5] G (N b4 (dI t) 62::N b3 [pQ vq] 28::N b5 r.cells 64::gX vq V::L) w its.length (aeK vq V its) (N b4 (dI t) 62::N b3 [pQ vq] 28::N b5 r.cells 64::gX vq V::L):=by
 intro lo Jo Jx w hy Z;refine wF [_,_,_,_] func211 ntmps211 ?_;refine abN ?_;refine wD 4 (v:=I t.root) ag Z ?_;refine wI 2 (fun Y=>?_) fun Y=>?_
 ·refine Ca ?_;exact u6 rfl rfl (.inl (by
 rw[aB Y]at pW;subst pW;exact Z))
 obtain⟨VN,r',hs2⟩:=hs Y;have Uq:=Uq Y;rw[aj Y]at pW;refine wD 4 (v:=I t.root) ag Z ?_;refine fb (cs:=[I t.root]) rfl aY bF fh dM rfl rfl rfl Z rfl fun w Ir Z=>?_;refine z3 ?_;refine abO ?_;refine z1 ?_;have Z:=jx (z:=1) (m:=1) Z rfl mL;have Z:=Z.b [Jo 0,row 3 1 _ _ _,N b4 _ _,N b3 _ _,N b5 _ _,gX vq V];have Z:aw G (Jo 0::row 3 1 (.slice (some ⟨Ir,0,none⟩) 1 1) [(t.root,kk)].length (bf ([(t.root,kk)].map (·.1)))::N b4 (dI t) 62::N b3 [pQ vq] 28::N b5 r.cells 64::gX vq V::L) w:=Z;refine bx (fun m e w=>∃(st:List (Int×Nat)) (k:Nat) (tv:C),m=mX V.rd st/\e=[(0, .func (.yield lo) #[] #[]),(1,pQ b4),(2,pQ b3),(3,pQ b5),(5,tv)]/\((∀x∈st,jU V.rd x.2 x.1/\∃r',qp V.rd x.2 x.1 r')/\its.drop k=vA V.rd r.rg st/\k<=its.length/\mX V.rd st<=1000000000)/\aw G (Jo k::row 3 1 tv st.length (bf (st.map (·.1)))::N b4 (dI t) 62::N b3 [pQ vq] 28::N b5 r.cells 64::gX vq V::L) w)
  (m:=mX V.rd [(t.root,kk)]) sB
  ⟨[(t.root,kk)],0,_,rfl,rfl,⟨by intro x E;simp at E;subst E;exact⟨VN,r',hs2⟩,by rw[pW];simp[vA],de _,by simpa [mX]using Uq⟩,Z⟩ ?_
 rintro m e w ⟨st,k,tv,rfl,rfl,⟨jQ,CY,yp,hns⟩,Z⟩;obtain⟨ta,tc,rfl⟩:=aT (Z.pick (A:=row 3 1 tv _ _) pK);refine wI 7 (fun J=>?_) fun J=>?_
 ·obtain⟨eP,x,rfl⟩:∃eP x,st=eP++[x]:=⟨st.dropLast,st.getLast (by intro h;subst h;simp at J),(Xe _).symm⟩;obtain⟨n,kn⟩:=x;obtain⟨hsn,rn,Ql⟩:=jQ (n,kn) sM;simp only at hsn Ql;obtain⟨p,sA,aew,ahg,afG⟩:=T5 (r:=r.rg) hsn Ql (fun p i hp=>hl n p i hp);have acT:∀x∈eP,jU V.rd x.2 x.1/\∃r',qp V.rd x.2 x.1 r':=fun x E=>jQ x (lT _ E)
  have hl9:=JL V.rd eP;have ag7:mX V.rd (eP++[(n,kn)])=mX V.rd eP+qo V.rd kn n:=by rw[vG];simp[mX]
  have hnp:=Re V.rd kn n;have Uv:its.drop k=pB V.rd r.rg (n,kn)++vA V.rd r.rg eP:=by rw[CY,NP];simp[vA]
  have hlen:(eP++[(n,kn)]).length=eP.length+1:=by simp
  rw[hlen]at Z;rw[hlen];have XQ:(bf ((eP++[(n,kn)]).map (·.1)))[eP.length]?=some (I n):=by simp[bf]
  have Z:=Z.b [row 3 1 (.slice ta _ tc) _ _];obtain⟨-,tb,-,hta,htc,-⟩:=fZ Z H;have zy:∀R,aL (row 3 1 (.slice (some ⟨tb,0,none⟩) (eP.length+1) tc) (eP.length+1) (bf ((eP++[(n,kn)]).map (·.1)))::R) (oJ (.slice (some ⟨tb,0,none⟩) (eP.length+1) tc) (bf ((eP++[(n,kn)]).map (·.1)))):=fun R=>by
   have h:=oz (v:= .slice (some ⟨tb,0,none⟩) (eP.length+1) tc) (c:=(eP++[(n,kn)]).map (·.1)) (R:=R);rw[cg,hlen]at h;exact h
  rw[hta]at Z;rw[hta];have Z:=Z.b [row 3 1 (.slice (some ⟨tb,0,none⟩) _ tc) _ _,Jo k];have V5:(((eP.length+1:Nat):Int)-1).toNat=eP.length:=H;refine z9 ?_;refine qg (fun e w=>∃(b7:Nat) (p':dL),e=[(0, .func (.yield lo) #[] #[]),(1,pQ b4),(2,pQ b3),(3,pQ b5),(5, .slice (some ⟨tb,0,none⟩) (eP.length+1) tc),(6,I (((eP.length+1:Nat):Int)-1)),(7,pQ b7),(8,I 0)]/\(V.rd n=some p'.pg/\p'.Sm)/\aw G (row 3 1 (.slice (some ⟨tb,0,none⟩) (eP.length+1) tc) (eP.length+1) (bf ((eP++[(n,kn)]).map (·.1)))::N b7 p'.cells 104::fg p'::Jo k::N b4 (dI t) 62::N b3 [pQ vq] 28::N b5 r.cells 64::gX vq V::L) w) ?_ ?_
  ·refine OL [0,1,2,3,4] 5 [6,7,8,9,10,11] 9 [5,6,7,8,10,11] Cg kR ?_;replace Z:=Z.drawn (w.drawn+1);refine wD 0 (v:=pQ vq) iy Z ?_;refine wY 2 aY bF ?_;refine bg rfl rfl (aD.one (v:=I n) ag ((((zy _).of sF).at Z).at (by rw[V5];exact XQ))) ?_;refine aK ?_;refine⟨?_,?_⟩
   ·refine aO rfl fk rfl (mB (n:=n) (Z.b [gX vq V]) fx) kR fun w v29 hv=>?_;obtain⟨p',er,A,rfl,nq,kB,Z⟩:=hv;obtain⟨HB,rfl,rfl,oR⟩:=kB.resolve_left (fun h=>by rw[h.1]at sA;cases sA);refine z3 ?_;refine kX rfl bW Z (fun w b7 Z q' hq=>?_) fun w b7 Z=>?_
    ·have hq:=bK (l:=[4,0]) kR hq;simp only[cE,fQ,or_false]at hq;rcases hq with rfl|rfl
     ·exact bG rfl rfl rfl (aD.one (v:=I n) ag ((((zy _).of sF).at Z).at (by rw[V5];exact XQ)))
     exact bG rfl rfl rfl (aD.cw (v:=pQ vq) iy Z pK rfl)
    refine wN 0 (cs:=p'.cells) (l':=p'.cells) ay nq Z fun w Z=>?_;refine z2 ?_;exact⟨[(0,_),(1,_),(2,_),(3,_),(5,_),(6,_),(7,_),(8,_)],sB,b7,p',rfl,⟨HB,oR⟩,Z.b [row 3 1 (.slice (some ⟨tb,0,none⟩) _ tc) _ _,N b7 _ _,fg p',Jo k,N b4 _ _,N b3 _ _,N b5 _ _,gX vq V]⟩
   refine kX rfl bW Z (fun w b7 Z q' hq=>?_) fun w b7 Z=>?_
   ·have hq:=bK (l:=[4,0]) kR hq;simp only[cE,fQ,or_false]at hq;rcases hq with rfl|rfl
    ·exact bG rfl rfl rfl (aD.one (v:=I n) ag ((((zy _).of sF).at Z).at (by rw[V5];exact XQ)))
    exact bG rfl rfl rfl (aD.cw (v:=pQ vq) iy Z pK rfl)
   refine aO rfl fk rfl (mB (n:=n) (Z.b [gX vq V]) fx) kR fun w v29 hv=>?_;obtain⟨p',er,A,rfl,nq,kB,Z⟩:=hv;obtain⟨HB,rfl,rfl,oR⟩:=kB.resolve_left (fun h=>by rw[h.1]at sA;cases sA);refine wN 3 (cs:=p'.cells) (l':=p'.cells) ay nq Z fun w Z=>?_;refine z2 ?_;exact⟨[(0,_),(1,_),(2,_),(3,_),(5,_),(6,_),(7,_),(8,_)],sB,b7,p',rfl,⟨HB,oR⟩,Z.b [row 3 1 (.slice (some ⟨tb,0,none⟩) _ tc) _ _,N b7 _ _,fg p',Jo k,N b4 _ _,N b3 _ _,N b5 _ _,gX vq V]⟩
  clear Z;rintro e w ⟨b7,p',rfl,⟨HB,oR⟩,Z⟩;rw[sA]at HB;cases HB;have lr:=Va.Fy fx n _ sA;have hp8:=(ij lr).1;have wy:p'.pg.items.length=p'.l.length:=by simp[dL.pg]
  obtain⟨ia,ic,G6⟩:=oR.form Z pK;refine z4 ?_;refine y0 rfl aY IF rfl sM rfl ⟨H,H⟩ ?_;rw[V5];have Z:=IG Z (j:=eP.length) H;have Ui:(bf ((eP++[(n,kn)]).map (·.1))).take eP.length=bf (eP.map (·.1)):=by simp[bf]
  rw[Ui]at Z;refine wI 8 (fun h3=>?_) fun h3=>?_
  ·exact aS rfl h3
  refine wD 5 (v:=I p'.kind) ag Z ?_;refine wI 2 (fun h4=>?_) fun h4=>?_
  ·obtain⟨j,hkj,hir,SU,hnu⟩:=afG h4;have hwl:=GR p'.pg r.rg p'.pg.items.length;refine wA 3 (l:=p'.cells) ay Z ?_;refine wA 0 (l:=r.cells) aQ Z ?_;refine aO rfl H9 rfl (KW (p:=p') (r:=r) Z (cL oR pK) (hr.of sF) H (fun i=>hl n _ i sA)) rfl fun w v43 hv=>?_;have Z:aw G (row 3 1 v43 (gx p'.pg r.rg p'.l.length).length (bf (gx p'.pg r.rg p'.l.length))::_) _:=hv
   (try unfold sQ at Z);rw[<-wy]at Z
   obtain⟨wa,wc,rfl⟩:=aT Z;refine Fj (m:=eP.length) (rs:=(gx p'.pg r.rg p'.pg.items.length).map fun c=>[I c]) rfl aY bF j7 fh rfl rfl Z pK (((aes _ _).of sF).at Z) (by rw[<-vJ];intro u hu;obtain⟨c,_,rfl⟩:=dY.1 hu;rfl) (by rw[cg];simp only[maxLen];omega) (by rw[cg];omega) rfl (fun w v44 Z=>?_);rw[cg,<-vJ]at Z;refine z3 ?_;have hz:=(Z.b [row 3 1 (.slice wa _ wc) _ _,N b7 _ _,fg p',Jo k,row 3 1 v44 _ _,N b4 _ _,N b3 _ _,N b5 _ _,gX vq V]).t3;have RD:=QE p'.pg r.rg j;have e1:bf (eP.map (·.1))++bf (gx p'.pg r.rg p'.pg.items.length)=bf ((eP++lM p'.pg r.rg j).map (·.1)):=by rw[jX,RD];simp[bf]
   have e2:eP.length+(gx p'.pg r.rg p'.pg.items.length).length=(eP++lM p'.pg r.rg j).length:=by rw[<-RD];simp
   rw[e1,e2]at hz;refine⟨mX V.rd (eP++lM p'.pg r.rg j),by rw[vG];omega,[(0,_),(1,_),(2,_),(3,_),(5,v44)],sB,eP++lM p'.pg r.rg j,k,v44,rfl,rfl,⟨fun x E=>?_,by rw[Uv,hir,NP],yp,by rw[vG];omega⟩,hz⟩;rcases eZ.1 E with E|E
   ·exact acT x E
   exact SU x E
  have IN:p'.pg.kind=1:=aew.resolve_right h4;rw[ahg IN]at Uv;refine z4 ?_;refine bg rfl rfl (aD.cw (v:= .slice ia p'.l.length ic) aH Z pK (by first|exact aU some G6|(rw[<-G6];rfl))) ?_;refine z4 ?_;have hz:=aw.eY (M:=qB p') (Z.b [fg p',Jo k,N b7 _ _,row 3 1 (.slice (some ⟨tb,0,none⟩) _ tc) _ _,N b4 _ _,N b3 _ _,N b5 _ _,gX vq V]);simp only[qB,nI,lE,G6]at hz
  have hz:=(hz.b [row 5 1 p'.d _ _,Jo k,row 198 4 (.slice ia p'.l.length ic) p'.l.length (p'.l.map cP.cells).flatten,bt (p'.l.flatMap cm)]).tail;have e0:p'.l.flatMap cm=(p'.l.drop 0).flatMap cm:=by rw[W3]
  rw[e0]at hz;clear Z;have Z:=hz;clear hz;refine bx (fun m e w=>∃(j k':Nat),j<=p'.l.length/\m=p'.l.length-j/\e=[(0, .func (.yield lo) #[] #[]),(1,pQ b4),(2,pQ b3),(3,pQ b5),(5, .slice (some ⟨tb,0,none⟩) eP.length tc),(46, .slice ia p'.l.length ic),(47,I p'.l.length),(48,I j)]/\(its.drop k'=((p'.pg.items.drop j).filter fun y=>decide (pD r.rg y.key))++vA V.rd r.rg eP/\k'<=its.length)/\aw G (Jo k'::row 198 4 (.slice ia p'.l.length ic) p'.l.length (p'.l.map cP.cells).flatten::bt ((p'.l.drop j).flatMap cm)::N b7 p'.cells 104::row 3 1 (.slice (some ⟨tb,0,none⟩) eP.length tc) eP.length (bf (eP.map (·.1)))::N b4 (dI t) 62::N b3 [pQ vq] 28::N b5 r.cells 64::gX vq V::L) w)
   (m:=p'.l.length) sB
   ⟨0,k,de _,rfl,rfl,⟨Uv,yp⟩,Z⟩ ?_
  rintro m e w ⟨j,k',hj,rfl,rfl,⟨hfj,hkj⟩,Z⟩;refine wI 5 (fun h5=>?_) fun h5=>?_
  ·have pU:j<p'.l.length:=H;obtain⟨x,E⟩:∃x,p'.l[j]?=some x:=⟨_,dG pU⟩;have kA:(p'.l.map cP.cells)[j]?=some x.cells:=by rw[dh,E];rfl
   have G5:p'.pg.items[j]?=some x.it:=by show(p'.l.map cP.it)[_]?=_;rw[dh,E];rfl
   have Md:=oR.it x (fK E);have lG:∀R,x.Ok (row 5 1 x.kv x.it.key.length (cI x.it.key)::row 5 1 x.vv x.it.value.length (cI x.it.value)::R):=fun R=>⟨Hr rfl .here,Hr rfl (.there .here),Md.1,Md.2⟩
   have wz:∀R,aL (row 198 4 (.slice ia p'.l.length ic) p'.l.length (p'.l.map cP.cells).flatten::R) (jk 4 (.slice ia p'.l.length ic) (p'.l.map cP.cells)):=fun R=>(jk.row sM (fun r hr=>by obtain⟨x,-,rfl⟩:=dY.1 hr;rfl)).head R
   rw[m6 E,List.flatMap_cons]at Z;have Z:=aw.UX (M:=cm x) (Z.b [bt (cm x++_)]);simp only[cm,nI,lE]at Z
   obtain⟨xa,xc,xa2,xc2,xj,N',Qh⟩:=(lG _).form Z;obtain⟨ib,io,hia⟩:=(((wz _).of sF).at Z).nn (by rw[cg];omega);rw[m6 G5,FA]at hfj;cases hia;refine wX 5 aV bz ?_;refine bg rfl rfl (aD.many (cs:=x.cells) bA rfl (by have h:=(((wz _).of sF).at Z).at kA;rw[cZ];exact h)) ?_;refine wL 0 jc Z fun w S9 Z=>?_;refine wN 0 (cs:=x.cells) (l':=x.cells) bA (by rw[Qh];intro u hu;simp at hu;rcases hu with rfl|rfl|rfl|rfl<;>rfl) Z (fun w Z=>?_);refine wA 3 (l:=r.cells) aQ Z ?_;refine wD 1 (v:=x.kv) ao Z ?_;refine wC rfl xF rfl (zR (r:=r) (k:=x.it.key) Z (hr.of sF) ((lG _).k.of sF)) fun w Z=>?_
   refine z1 ?_;refine ar (d:=56) rfl (fun h6=>?_) fun h6=>?_
   ·rw[aB (eW h6),nI]at hfj;have hik:its[k']?=some x.it:=by rw[<-List.head?_drop,hfj];rfl
    have Fg:k'<its.length:=(qj.1 hik).1;have XZ:its.drop (k'+1)=((p'.pg.items.drop (j+1)).filter fun y=>decide (pD r.rg y.key))++vA V.rd r.rg eP:=by
     rw[m6 hik]at hfj;exact(List.cons.inj hfj).2
    refine wA 1 (l:=x.cells) bA Z ?_;have hz:aw G (Jo k'::(cm x++(N S9 x.cells 198::bt ((p'.l.drop (j+1)).flatMap cm)::row 198 4 (.slice (some ⟨ib,io,none⟩) p'.l.length ic) p'.l.length (p'.l.map cP.cells).flatten::N b7 p'.cells 104::row 3 1 (.slice (some ⟨tb,0,none⟩) eP.length tc) eP.length (bf (eP.map (·.1)))::N b4 (dI t) 62::N b3 [pQ vq] 28::N b5 r.cells 64::gX vq V::L))) w:=Z.b [Jo k',row 5 1 x.kv _ _,row 5 1 x.vv _ _];have rI:aeK vq V its k' [gQ x.cells] (cm x) (N S9 x.cells 198::bt ((p'.l.drop (j+1)).flatMap cm)::row 198 4 (.slice (some ⟨ib,io,none⟩) p'.l.length ic) p'.l.length (p'.l.map cP.cells).flatten::N b7 p'.cells 104::row 3 1 (.slice (some ⟨tb,0,none⟩) eP.length tc) eP.length (bf (eP.map (·.1)))::N b4 (dI t) 62::N b3 [pQ vq] 28::N b5 r.cells 64::gX vq V::L):=⟨x,N S9 x.cells 198::bt ((p'.l.drop (j+1)).flatMap cm)::row 198 4 (.slice (some ⟨ib,io,none⟩) p'.l.length ic) p'.l.length (p'.l.map cP.cells).flatten::N b7 p'.cells 104::row 3 1 (.slice (some ⟨tb,0,none⟩) eP.length tc) eP.length (bf (eP.map (·.1)))::N b4 (dI t) 62::N b3 [pQ vq] 28::N b5 r.cells 64::L,hik,rfl,rfl,Md.1,Md.2,pK⟩;refine wK rfl rfl rfl (hy k' _ _ _ w Fg rI hz) rfl fun w v59 hv=>?_;obtain⟨bq,rfl,tX,vm⟩:=vp hv;refine nh rfl rfl ?_;refine z2 ?_;refine fJ rfl (fun h7=>?_) fun h7=>?_
    ·refine z1 ?_;exact u6 rfl rfl (.inr (by
 have hz:=vm (by simpa using h7);have hz:=hz.b [N S9 _ _,bt _,row 198 4 _ _ _,N b7 _ _,row 3 1 (.slice (some ⟨tb,0,none⟩) _ tc) _ _,Jx];exact hz.tail.tail.tail.tail.tail))
    refine z5 ?_;have hz:=tX (by simpa using h7);have hz:=(hz.b [N S9 _ _,Jo _,row 198 4 _ _ _,bt _]).tail;exact⟨p'.l.length-(j+1),H,[(0,_),(1,_),(2,_),(3,_),(5,_),(46,_),(47,_),(48,I (j+1:Nat))],sB,j+1,k'+1,H,rfl,rfl,⟨XZ,Fg⟩,hz⟩
   refine z6 ?_;refine cD rfl ?_;refine z5 ?_;rw[aj (by simpa using h6)]at hfj;exact⟨p'.l.length-(j+1),H,[(0,_),(1,_),(2,_),(3,_),(5,_),(46,_),(47,_),(48,I (j+1:Nat))],sB,j+1,k',H,rfl,rfl,⟨hfj,hkj⟩,(Z.b [N S9 _ _,row 5 1 x.kv _ _,row 5 1 x.vv _ _,Jo _,row 198 4 _ _ _,bt _]).t3⟩
  refine z1 ?_;have VO:j=p'.l.length:=H;rw[show p'.pg.items.drop j=[] from vB H,List.filter_nil,lE]at hfj;have hz:=(Z.b [row 198 4 _ _ _,bt _,N b7 _ _,Jo k',row 3 1 (.slice (some ⟨tb,0,none⟩) _ tc) _ _]).t3;exact⟨mX V.rd eP,H,[(0,_),(1,_),(2,_),(3,_),(5,_)],sB,eP,k',_,rfl,rfl,⟨acT,hfj,hkj,H⟩,hz⟩
 refine z1 ?_;exact u6 rfl rfl (.inl (by
 have hz:st=[]:=vD H;subst hz;have oY:k=its.length:=by
  have:=aU List.length CY;rw[jm]at this;simp[vA]at this
  omega
 subst oY;exact(Z.b [row 3 1 (.slice ta _ tc) _ _]).tail))
end
end Go.Proofs.YtjbkgbilbnccnaaGreatDoor.X
