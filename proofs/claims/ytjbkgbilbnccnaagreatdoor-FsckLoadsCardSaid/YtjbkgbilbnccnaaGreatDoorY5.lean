/- Part 5 of what the proof of this claim stands on: rules for walking the code, and what its functions answer; no conditions. -/
import Derived.Test.YtjbkgbilbnccnaaGreatDoorY4
namespace Go.Proofs.YtjbkgbilbnccnaaGreatDoor.X
open _root_.Go.Proofs.Tryz _root_.Go.Proofs.YtjbkgbilbnccnaaGreatDoor.Tryz
set_option linter.defProp false
noncomputable section
set_option linter.unusedVariables false
set_option linter.unusedSimpArgs false
set_option maxRecDepth 20000
set_option maxHeartbeats 8000000
variable{O:Array aP}{rv u v:C}{U:CK->Prop}{D:Dk}{G:Gh}{er kind lev:Int}{F:Int->Prop}{mk:KC}{kv:KV}{c:List Int}{L M R:List aF}{T a at_ dp g i j k mm n no pn q t x:Nat}{Bk:Nat->bZ}{ro:Option Nat}{p:Pg}{s:Su}{A:aF}{w:ae}{P:au}{bb l r:bZ}{e:cX}
def mj(dp:Nat)(s:Su)(rv:C):List C:=pQ dp::(eH s rv++jI (bd s.cf))
def zp(q dp:Nat)(s:Su)(rv:C):aF:=N q (mj dp s rv) 157
def S7(f:Nat)(at_ er:Int):aF:=N f [I at_, .iface 41 (I er)] 152
def sR:∃ms,prog.underlying 143=some (.interface ms):=RB kR
structure Lk(s:Su)(D:Dk):Prop where
 sup:cp s=0
 on:D.on=true
 len:(D.gS.length:Int)=s.cf.blocks
def Lk.gen(h:Lk s D):∃g:Nat,s.gen=g/\g<=1099511627776:=⟨s.gen.toNat,by have:=(iS h.sup).2.1;omega,by have:=(iS h.sup).2.1;omega⟩
def Lk.Xf(h:Lk s D):∃pn bn fn:Nat,bd s.cf=⟨pn,bn,fn⟩/\pn<=65536/\bn=pS pn/\bn<=65536/\fn=2+2*bn/\fn+pn<=D.gS.length:=by
 have Y:=(iS h.sup).1;obtain⟨f1,f2,f3,f4,f5,f6⟩:=qm Y;have J:=h.len;have h3:=Y.1;refine⟨(bd s.cf).pages.toNat,(bd s.cf).nC.toNat,(bd s.cf).first.toNat,?_,H,H,H,H,H⟩;cases hp:bd s.cf with
 |mk a b c=>rw[hp]at f1 f2 f3 f4;simp only at f1 f2 f3 f4 ⊢;congr 1<;>omega
def Dt{p:Pl}:jO p g=(if((g%2:Nat):Int)=0 then 2 else if((g%2:Nat):Int)=1 then 2+p.nC else 0):=by
 unfold jO
 by_cases h:(g:Int)%2=0
 ·rw[aB h,aB H]
 rw[aj h,aj H,aB H]
def BX{i:Int}(Z:aw G (zp q dp s rv::L) w)(hL:Lk s D)(hi:0<=i/\i<=65536):aA prog 133 #[pQ q,I i] w (bU fun r w'=>r=I (jO (bd s.cf) s.gen+i)/\aw G (zp q dp s rv::L) w'):=by
 obtain⟨g,hg,hgl⟩:=hL.gen;obtain⟨pn,bn,fn,hp,xV,YO,tW,XZ,CY⟩:=hL.Xf;unfold zp at Z;refine wF [_,_] func133 ntmps133 ?_;refine z5 ?_;refine wQ [0,1,2,3,4,5,6,7,8,11,9,10,12,13] Z fun Z=>?_
 refine z3 ?_;refine bg rfl rfl (aD.xM (cs:=jI (bd s.cf)) bE Z pK rfl rfl) ?_;refine z3 ?_;refine cC rfl pF rfl ?_;refine wD 0 (v:=I s.gen) ag Z ?_;rw[hg];refine z1 ?_;refine ed rfl Lp rfl (MR (g:=g) Z hgl) (fun w v14 hv q' hq=>?_) fun w v14 hv=>?_
 ·obtain⟨rfl,Z⟩:=hv;have hq:=bK (l:=[3]) kR hq;simp only[cE,fQ,or_false]at hq;subst hq;exact bG rfl rfl rfl (aD.xM (cs:=jI (bd s.cf)) bE Z pK rfl rfl)
 obtain⟨rfl,Z⟩:=hv;refine wC rfl Lq rfl (MS (p:=bd s.cf) Z (by rw[hp];simp only;omega)) fun w Z=>?_
 rw[<-Dt];have hbP:2<=jO (bd s.cf) (g:Int)/\jO (bd s.cf) (g:Int)<=65538:=by unfold jO;rw[show(bd s.cf).nC=(bn:Int) by rw[hp]];split<;>omega
 refine dk 4 ?_;exact⟨rfl,Z⟩
def tz(Z:aw G (zp q dp s rv::eD dp D::L) w)(hL:Lk s D)(hi:i<D.gS.length):aA prog 134 #[pQ q,I i] w (bU fun r w'=>∃sv,r= .tuple #[sv, .nilIface]/\aw G (row 5 1 sv 512 (cI (D.bY i))::zp q dp s rv::eD dp D::L) w'):=by
 unfold zp at Z;refine wF [_,_] func134 ntmps134 ?_;refine wD 10 (v:=pQ dp) Hy Z ?_;refine z1 ?_;refine aO rfl Dp rfl (EG (i:=i) (Z.b [eD dp D])) rfl fun w v14 hv=>?_;rcases hv with⟨Y,-⟩|⟨-,Y,-⟩|⟨-,-,sv,rfl,Z⟩
 ·rw[hL.on]at Y;cases Y
 ·exact aS H Y
 rw[cZ]at Z;refine wI 12 (fun Y=>?_) fun Y=>?_
 ·exact aS rfl Y
 refine ui 8 ?_;exact⟨sv,rfl,Z.b [row 5 1 sv _ _,N q _ _,eD dp D]⟩
def rj(Z:aw G (zp q dp s rv::eD dp D::L) w)(fx:D.Ok)(hL:Lk s D)(hi:(i:Int)<(bd s.cf).nC):aA prog 64 #[pQ q,I i] w (bU fun r w'=>
  (∃l v,nT s D.bY i=some l/\r= .tuple #[v, .nilIface]/\aw G (row 3 1 v l.length (bf l)::zp q dp s rv::eD dp D::L) w')∨
  (∃f er,nT s D.bY i=none/\r= .tuple #[nQ, .iface 148 (pQ f)]/\er≠17/\aw G (S7 f (jO (bd s.cf) s.gen+i) er::zp q dp s rv::eD dp D::L) w')):=by
 obtain⟨g,hg,hgl⟩:=hL.gen;obtain⟨pn,bn,fn,hp,xV,YO,tW,XZ,CY⟩:=hL.Xf;have hib:i<bn:=by rw[hp]at hi;simp only at hi;omega
 have VT:=adB hL.sup hi;obtain⟨ms,hI⟩:=sR;obtain⟨at_,my⟩:∃at_:Nat,jO (bd s.cf) s.gen+i=at_:=⟨(jO (bd s.cf) s.gen+i).toNat,H⟩;have h9:(bd s.cf).first=(fn:Int):=by rw[hp]
 have X5:at_<D.gS.length:=H;have hbB:nT s D.bY i=iE g pn i (D.bY at_):=by unfold nT;rw[my,hg,hp,cZ]
 refine wF [_,_] func64 ntmps64 ?_;refine z9 ?_;refine wC rfl AA rfl (BX (i:=i) Z hL H) fun w Z=>?_
 rw[my];refine z6 ?_;refine aO rfl sg rfl (tz Z hL X5) rfl fun w Hp hv=>?_;obtain⟨sv,rfl,Z⟩:=hv;have jr:=DO fx at_;have yn:∀M,aL (row 5 1 sv 512 (cI (D.bY at_))::M) (eB sv (D.bY at_)):=fun M=>by have h:=(eB.row (T:=5) (v:=sv) (l:=D.bY at_)).head M;rw[jr]at h;exact h
 unfold zp at Z;refine B' ?_;refine yX rfl hI rfl ?_;refine aK ?_;refine cD rfl ?_;refine z2 ?_;refine wQ [0,1,2,3,4,5,6,7,8,9,10,11,12,13,14,15,16,17] Z fun Z=>?_
 refine z3 ?_;refine cC rfl pF rfl ?_;refine wD 0 (v:=I s.gen) ag Z ?_;refine z3 ?_;refine cC rfl u4 rfl ?_;refine wD 0 (v:=I (bd s.cf).pages) ag Z ?_;rw[hg,show(bd s.cf).pages=(pn:Int) by rw[hp]];refine z2 ?_;refine aO rfl LF rfl (M5 (g:=g) (pn:=pn) (j:=i) Z ((yn _).of sF) jr hgl xV H) kR fun w v36 hv=>?_
 (try unfold sQ at hv);rw[<-hbB]at hv
 have hz:∃(l:List Int) (v:C) (er:Int) (A:aF),v36= .tuple #[v,I er]/\((nT s D.bY i=some l/\er=0/\A=row 3 1 v l.length (bf l))\/(nT s D.bY i=none/\er≠0/\er≠17/\v=nQ/\A=bt []))/\aw G (A::row 5 1 sv 512 (cI (D.bY at_))::N q (mj dp s rv) 157::eD dp D::L) w:=by
  rcases hv with⟨l,v,Y,J,h3⟩|⟨er,Y,J,h3,h4,h5⟩
  ·exact⟨l,v,0,_,J, .inl ⟨Y,rfl,rfl⟩,h3⟩
  exact⟨[],_,er,_,J, .inr ⟨Y,h3,h4,rfl,rfl⟩,aw.bJ (M:=[]) h5⟩
 obtain⟨l,v,er,A,rfl,hA,Z⟩:=hz;refine wI 12 (fun J=>?_) fun J=>?_
 ·refine z4 ?_;refine uf rfl gb sM rfl ?_;refine wV 0 (v:= .agg #[I at_, .iface 41 (I er)]) ?_;refine wB 0 Z fun w b45 Z=>?_;refine uf rfl mO sM rfl ?_;refine z4 ?_;exact ga rfl rfl rfl rfl (by
 obtain⟨h3,h4,h5,rfl,rfl⟩:=hA.resolve_left (fun h=>J h.2.1);refine .inr ⟨b45,er,h3,rfl,h5,?_⟩;exact(Z.b [bt [],row 5 1 sv _ _,N b45 _ _]).t2)
 refine z8 ?_;exact ga rfl rfl rfl rfl (by
 obtain⟨h3,h4,rfl⟩:=hA.resolve_right (fun h=>J h.2.1);exact .inl ⟨l,v,h3,rfl,(Z.b [row 5 1 sv _ _]).tail⟩)
section
variable{dr:Bool}{done r:List Nat}{K:cX->ae->Prop}{d:Nat}{t:aC}{p:String}{af:Array Edge}{g:Option (Nat×Bool)}{s u:aC}{x:aM}
def Fi{ms:Array (String×aC)}{b:Bool}(ho:O[i]?=some ⟨some d, .binOp .neq s x (.const .nilIface) u,t,p,af,g⟩)(hs:P.underlying s=some (.interface ms))(E:ev e x=some v)(hv:(v= .nilIface/\b=false)\/(∃T z,v= .iface T z)/\b=true)
  (h:XL P n O dr (i::done) r K ((d, .bool b)::e) w)(hd:Nat.blt d n=true:=by exact rfl)(hg:Gd O e g:=by exact gD):XL P n O dr done (i::r) K e w:=by
 rcases hv with⟨rfl,rfl⟩|⟨⟨T,z,rfl⟩,rfl⟩
 ·exact yX (hd:=hd) (hg:=hg) ho hs E h
 exact aeP (hd:=hd) (hg:=hg) ho hs E h
end
def CQ(h:aw G (N q (mj dp s rv) 157::L) w):aw G (zp q dp s rv::L) w:=h
def U6(ev:C)(A:aF):Prop:=(∃(f:Nat) (at_ er:Int),ev= .iface 148 (pQ f)/\er≠17/\A=S7 f at_ er)\/(∃er:Int,ev= .iface 41 (I er)/\er≠17/\A=bt [])
def uF(Z:aw G (zp q dp s rv::eD dp D::L) w)(fx:D.Ok)(hL:Lk s D)(hn:1<=n/\(n:Int)<=(bd s.cf).pages):aA prog 127 #[pQ q,I n] w (bU fun r w'=>
  (∃p:dL,jy s D.bY n=some p.pg/\r= .tuple #[gQ p.cells, .nilIface]/\p.Sm/\aw G (fg p::zp q dp s rv::eD dp D::L) w')∨
  (∃f er,jy s D.bY n=none/\r= .tuple #[gQ gi.cells, .iface 148 (pQ f)]/\er≠17/\aw G (S7 f (SC s n) er::zp q dp s rv::eD dp D::L) w')):=by
 obtain⟨g,hg,hgl⟩:=hL.gen;obtain⟨pn,bn,fn,hp,xV,YO,tW,XZ,CY⟩:=hL.Xf;have BD:(bd s.cf).pages=(pn:Int):=by rw[hp]
 have SW:(bd s.cf).first=(fn:Int):=by rw[hp]
 obtain⟨ms,hI⟩:=sR;obtain⟨at_,my⟩:∃at_:Nat,(bd s.cf).first+(n:Int)-1=at_:=⟨((bd s.cf).first+(n:Int)-1).toNat,H⟩
 have ahr:SC s n=at_:=my;have X5:at_<D.gS.length:=H;have Up:jy s D.bY n=match oF n (D.bY at_)with|some (p,g)=>if g<=s.gen then some p else none|none=>none:=by
  unfold jy;rw[aB ⟨H,hn.2⟩,my,cZ]<;>(cases oF n (D.bY at_)<;>rfl)
 unfold zp at Z;refine wF [_,_] func127 ntmps127 ?_;refine wL 2 bW Z fun w b4 Z=>?_;refine z7 ?_;refine bg rfl rfl (aD.xM (cs:=jI (bd s.cf)) bE Z pK rfl rfl) ?_;refine z1 ?_;refine aO rfl x6 rfl (zQ (p:=bd s.cf) (n:=n) Z H) rfl fun w Zg hv=>?_;obtain⟨h0,Z⟩:=hv;obtain⟨-,rfl⟩:=h0.resolve_left (fun h=>h.1 ⟨H,hn.2⟩);rw[my];refine B' ?_;have hb:=Z.b [N q _ _,eD dp D];refine nh rfl rfl ?_;refine aK ?_;refine fJ rfl (fun Y=>?_) fun Y=>?_
 ·cases Y
 refine z5 ?_;refine aO rfl sg rfl (tz (s:=s) (rv:=rv) (CQ hb) hL X5) rfl fun w v32 hv=>?_;obtain⟨sv,rfl,Z⟩:=hv;have jr:=DO fx at_;have yn:∀M,aL (row 5 1 sv 512 (cI (D.bY at_))::M) (eB sv (D.bY at_)):=fun M=>by have h:=(eB.row (T:=5) (v:=sv) (l:=D.bY at_)).head M;rw[jr]at h;exact h
 unfold zp at Z;refine B' ?_;refine yX rfl hI rfl ?_;refine aK ?_;refine cD rfl ?_;refine z5 ?_;refine aO rfl Ij rfl (K5 (no:=n) (bb:=D.bY at_) Z ((yn _).of sF) jr H) rfl fun w L8 hv=>?_;have hz:∃(p:dL) (gen er:Int) (A:aF),L8= .tuple #[gQ p.cells,I gen,I er]/\lK p.cells/\(0<=gen/\gen<=1099511627776)/\((oF n (D.bY at_)=some (p.pg,gen)/\er=0/\p.Sm/\A=fg p)\/(oF n (D.bY at_)=none/\er≠0/\er≠17/\A=bt []))/\aw G (A::row 5 1 sv 512 (cI (D.bY at_))::N q (mj dp s rv) 157::eD dp D::N b4 [I 0,I 0,nQ,nQ,I 0] 104::L) w:=by
  rcases hv with⟨p,gen,Y,J,h3,h4,h5⟩|⟨er,Y,J,h3,h4,h5⟩
  ·exact⟨p,gen,0,_,h3,jz (cL h4 .here) h5,H, .inl ⟨Y,rfl,h4,rfl⟩,h5.b [fg p,row 5 1 sv _ _,N q _ _,eD dp D,N b4 _ _]⟩
  exact⟨gi,0,er,_,J,fj,H, .inr ⟨Y,h3,h4,rfl⟩,aw.bJ (M:=[]) (h5.b [row 5 1 sv _ _,N q _ _,eD dp D,N b4 _ _])⟩
 obtain⟨p,gen,er,A,rfl,nq,aj4,hA,Z⟩:=hz;refine wL 4 bW Z fun w S9 Z=>?_;refine wN 0 (cs:=p.cells) (l':=p.cells) ay nq Z fun w Z=>?_;refine z9 ?_;refine ar (d:=48) rfl (fun h3=>?_) fun h3=>?_
 ·refine z2 ?_;refine vr rfl rfl ?_;refine z1 ?_;refine cC rfl pF rfl ?_;refine wD 0 (v:=I s.gen) ag Z ?_;refine wI 3 (fun h4=>?_) fun h4=>?_
  ·refine wI 9 (fun h5=>?_) fun h5=>?_
   ·refine wV 2 (v:=gQ gi.cells) ?_;refine z2 ?_;refine uf rfl gb sM rfl ?_;refine wV 0 (v:= .agg #[I at_, .iface 41 (I 25)]) ?_;refine wB 0 Z fun w b64 Z=>?_;refine uf rfl mO sM rfl ?_;refine wN 0 (cs:=gi.cells) (l':=gi.cells) ay fj Z fun w Z=>?_;refine z3 ?_;exact ga rfl rfl ⟨_,rfl,(aD.dB (l:=gi.cells) ay Z pK rfl)⟩ rfl (by
      obtain⟨h8,-,jR,rfl⟩:=hA.resolve_right (fun h=>h.2.1 h3);refine .inr ⟨b64,25,by rw[Up,h8];exact aj H,rfl,by decide,?_⟩;rw[ahr];exact(Z.b [fg p,row 5 1 sv _ _,N b4 _ _,N S9 _ _,N b64 _ _,N q _ _,eD dp D]).t4)
   exact aS dM h5
  refine wI 7 (fun h6=>?_) fun h6=>?_
  ·exact aS h3 h6
  refine wA 3 (l:=p.cells) ay Z ?_;refine wN 0 (cs:=p.cells) (l':=p.cells) ay nq Z fun w Z=>?_;refine z3 ?_;exact ga rfl rfl ⟨_,rfl,(aD.dB (l:=p.cells) ay Z pK rfl)⟩ rfl (by
      obtain⟨h8,-,jR,rfl⟩:=hA.resolve_right (fun h=>h.2.1 h3);refine .inl ⟨p,by rw[Up,h8];exact aB H,rfl,jR,?_⟩;exact(Z.b [row 5 1 sv _ _,N b4 _ _,N S9 _ _,fg p,N q _ _,eD dp D]).t3)
 refine z9 ?_;refine cD rfl ?_;refine wI 7 (fun h7=>?_) fun h7=>?_
 ·refine wV 2 (v:=gQ gi.cells) ?_;refine z2 ?_;refine uf rfl gb sM rfl ?_;refine wV 0 (v:= .agg #[I at_, .iface 41 (I er)]) ?_;refine wB 0 Z fun w b64 Z=>?_;refine uf rfl mO sM rfl ?_;refine wN 0 (cs:=gi.cells) (l':=gi.cells) ay fj Z fun w Z=>?_;refine z3 ?_;exact ga rfl rfl ⟨_,rfl,(aD.dB (l:=gi.cells) ay Z pK rfl)⟩ rfl (by
     obtain⟨h8,h9,jR,rfl⟩:=hA.resolve_left (fun h=>h3 h.2.1);refine .inr ⟨b64,er,by rw[Up,h8],rfl,jR,?_⟩;rw[ahr];exact(Z.b [bt [],row 5 1 sv _ _,N b4 _ _,N S9 _ _,N b64 _ _,N q _ _,eD dp D]).t4)
 exact aS h7 H
def K7(Z:aw G L w):aA prog 128 #[I er] w (bU fun r w'=>((er=0/\r= .nilIface)\/(er≠0/\r= .iface 41 (I er)))/\aw G L w'):=by
 refine wF [_] func128 ntmps128 ?_;refine wI 10 (fun Y=>?_) fun Y=>?_
 ·refine dk 5 ?_;exact⟨.inl ⟨Y,rfl⟩,Z⟩
 refine z4 ?_;refine uf rfl gb sM rfl ?_;refine dk 3 ?_;exact⟨.inr ⟨Y,rfl⟩,Z⟩
def Hd{a b:Int}(h:a≠17)(h':b≠17):fst a b≠17:=by unfold fst;split<;>assumption
def Ce{q:Prop}[Decidable q]{e:Int}(h:e≠17):uq q e≠17:=by unfold uq;split;decide;assumption
def acP{cW:bZ}{x:It}:q8 kind i cW x≠17:=by
 refine Hd ?_ (Hd ?_ (Hd ?_ ?_))
 ·unfold lF;split<;>exact Ce dM
 ·unfold w7;split;decide;exact Ce dM
 ·unfold jq;split
  ·exact Ce dM
  refine Hd (Ce dM) ?_;split<;>exact Ce dM
 unfold mD;split
 ·exact Ce dM
 split<;>exact Ce dM
def Rz{kind:Int}:∀{l:List It} {i:Nat} {cW:bZ},fa kind i cW l≠17
 |[],i,cW=>by unfold fa;decide
 |x::r,i,cW=>Hd acP Rz
def abn:dv p≠17:=Hd (Hd (Ce dM) (Ce dM)) (Hd Rz (Ce dM))
def VD{c:List Int}:∀{l:List (Int×Pg)} {seen:List Int},oQ c seen l≠17
 |[],seen=>by unfold oQ;omega
 |x::r,seen=>by
  rw[oQ];split
  ·omega
  split
  ·omega
  split
  ·exact abn
  exact VD
def abW{refs:Int}{l:List (Int×Pg)}:uj refs c l≠17:=by
 unfold uj;split
 ·unfold qU;split
  ·omega
  split<;>omega
 split
 ·exact VD
 split<;>omega
def ED(Z:aw G (zp q dp s rv::eD dp D::L) w)(fx:D.Ok)(hL:Lk s D):aA prog 60 #[pQ q] w (bU fun r w'=>
  (∃c l vq,uu s D.bY=some (c,l)/\yj s.cf.refs c l/\r= .tuple #[pQ vq, .nilIface]/\aw G (gX vq (kK s.cf.refs c l)::zp q dp s rv::eD dp D::L) w')∨
  (∃ev A,(∀c l,uu s D.bY=some (c,l)->¬yj s.cf.refs c l)/\r= .tuple #[.pointer none,ev]/\U6 ev A/\aw G (A::zp q dp s rv::eD dp D::L) w')):=by
 obtain⟨pn,bn,fn,hp,xV,YO,tW,XZ,CY⟩:=hL.Xf;have BD:(bd s.cf).pages=(pn:Int):=by rw[hp]
 have SW:(bd s.cf).nC=(bn:Int):=by rw[hp]
 have akg:bn*240<=pn+239:=by rw[YO];unfold pS;omega
 obtain⟨ms,hI⟩:=sR;have tU:∀{k:Nat},k<bn->nT s D.bY k=none->∀c l,uu s D.bY=some (c,l)->¬yj s.cf.refs c l:=fun{k} hk hb c l h=>by
  unfold uu at h;rw[UQ (i:=k) H hb]at h;cases h
 unfold zp at Z;refine wF [_] func60 ntmps60 ?_;refine z15 ?_;refine cC rfl u0 rfl ?_;refine wD 0 (v:=I (bd s.cf).nC) ag Z ?_;rw[SW];refine z3 ?_;have Z:=bB Z 3 1;refine bx (fun m e w=>∃(k:Nat) (c:List Int) (u:C),k<=bn/\m=bn-k/\e=[(0,pQ q),(4,u),(19,I bn),(20,I k)]/\j5 (nT s D.bY) k=some c/\aw G (row 3 1 u c.length (bf c)::N q (mj dp s rv) 157::eD dp D::L) w)
  (m:=bn) sB
  ⟨0,[],_,de _,rfl,rfl,rfl,Z⟩ ?_
 rintro m e w ⟨k,c,u,hk,rfl,rfl,hc,Z⟩;refine wI 5 (fun Y=>?_) fun Y=>?_
 ·have gn:k<bn:=H;have gC:c.length<=65536:=by
   have:=vX (s:=s) (Bk:=D.bY) (k:=k) (by rw[BD];omega) hc;rw[BD]at this;omega
  have hb:=CQ (Z.b [N q _ _,eD dp D]);refine YW ?_;refine aO rfl qf rfl (rj (i:=k) hb fx hL (by rw[SW];omega)) rfl (fun w v26 hv=>?_);have hz:∃(l:List Int) (v ev:C) (b:Bool) (A:aF),v26= .tuple #[v,ev]/\(ev= .nilIface/\b=false\/(∃T z,ev= .iface T z)/\b=true)/\((nT s D.bY k=some l/\b=false/\A=row 3 1 v l.length (bf l))\/(nT s D.bY k=none/\b=true/\U6 ev A))/\aw G (A::N q (mj dp s rv) 157::eD dp D::row 3 1 u c.length (bf c)::L) w:=by
   unfold zp at hv;rcases hv with⟨l,v,Y,rfl,J⟩|⟨f,er,Y,rfl,h3,J⟩
   ·exact⟨l,v,_,false,_,rfl, .inl ⟨rfl,rfl⟩, .inl ⟨Y,rfl,rfl⟩,J⟩
   exact⟨[],_,_,true,_,rfl, .inr ⟨⟨_,_,rfl⟩,rfl⟩, .inr ⟨Y,rfl, .inl ⟨f,_,er,rfl,h3,rfl⟩⟩,J⟩
  obtain⟨l,v,ev,b,A,rfl,hnb,hA,Z⟩:=hz;refine B' ?_;refine Fi rfl hI rfl hnb ?_;refine aK ?_;refine fJ rfl (fun J=>?_) fun J=>?_
  ·refine z7 ?_;exact ga rfl rfl rfl rfl (by
 obtain⟨h3,-,h4⟩:=hA.resolve_left (fun h=>by rw[h.2.1]at J;cases J);refine .inr ⟨ev,A,tU gn h3,rfl,h4,?_⟩;exact(Z.b [row 3 1 u _ _,A,N q _ _,eD dp D]).tail)
  obtain⟨h3,-,rfl⟩:=hA.resolve_right (fun h=>by rw[h.2.1]at J;cases J);have sP:=(GC h3).1;have ajX:l.length<=240:=by rw[sP];unfold TV;omega
  refine z4 ?_;refine Fj (m:=c.length) (rs:=l.map fun c=>[I c]) rfl aY bF j7 fh rfl rfl Z pK (((aes _ _).of sF).at Z) (by rw[<-vJ];intro u hu;obtain⟨c,_,rfl⟩:=dY.1 hu;rfl) (by rw[cg];simp only[maxLen];omega) (by rw[cg];omega) rfl (fun w Zf Z=>?_);rw[cg,<-vJ]at Z;refine z6 ?_;have hz:=(Z.b [row 3 1 v _ _,row 3 1 Zf _ _,N q _ _,eD dp D]).tail;have e1:bf c++bf l=bf (c++l):=by simp[bf]
  rw[e1,<-di]at hz;refine⟨bn-(k+1),H,[(0,_),(4,_),(19,_),(20,I (k+1:Nat))],sB,k+1,c++l,_,H,rfl,rfl,?_,hz⟩;rw[j5,hc,h3]
 have oY:k=bn:=H;subst oY;have gC:c.length<=65536:=by
  have:=vX (s:=s) (Bk:=D.bY) (k:=k) (by rw[BD];omega) hc;rw[BD]at this;omega
 have hcp:c.length=pn:=by
  have:=vX (s:=s) (Bk:=D.bY) (k:=k) (by rw[BD];omega) hc;rw[BD]at this;rw[YO]at this;unfold pS at this;omega
 have rJ:uu s D.bY=(zj (jy s D.bY) c c.length).map fun l=>(c,l):=by
  unfold uu;rw[SW,cZ,hc]
  show(match zj (jy s D.bY) c c.length with|none=>none|some l=>some (c,l))=_
  cases zj (jy s D.bY) c c.length<;>rfl
 obtain⟨wa,wc,rfl⟩:=aT Z;refine z13 ?_;have Z:=bB Z 106 6;have Z:=aw.bJ (M:=([]:List dL).map fg) Z;have Z:=Z.b [row 106 _ _ _ _,bt _,row 3 _ _ _ _,N q _ _,eD dp D];refine bx (fun m e w=>∃(k:Nat) (lp:List (Int×dL)) (v:C),k<=c.length/\m=c.length-k/\e=[(0,pQ q),(4, .slice wa c.length wc),(8,v),(36, .slice wa c.length wc),(37,I c.length),(38,I k)]/\(zj (jy s D.bY) c k=some (mW lp)/\(∀x∈lp,x.2.Sm)/\lp.length<=k)/\aw G (row 106 6 v lp.length (lp.map nK).flatten::gz (lp.map (·.2))::row 3 1 (.slice wa c.length wc) c.length (bf c)::N q (mj dp s rv) 157::eD dp D::L) w)
  (m:=c.length) sB
  ⟨0,[],_,de _,rfl,rfl,⟨rfl,(fun x E=>by cases E),fP _⟩,Z⟩ ?_
 rintro m e w ⟨j,lp,v,hj,rfl,rfl,⟨uR,rY,sP⟩,Z⟩;refine wI 5 (fun h3=>?_) fun h3=>?_
 ·have uy:j<c.length:=H;obtain⟨x,E⟩:∃x,c[j]?=some x:=⟨_,dG uy⟩;have hxd:c.getD j 0=x:=by rw[ma,E];rfl
  have kB:aL (row 3 1 (.slice wa c.length wc) c.length (bf c)::N q (mj dp s rv) 157::eD dp D::L) (oJ (.slice wa c.length wc) (bf c)):=oz;obtain⟨bb,oo,rfl⟩:=((kB.of sF).at Z).nn (by rw[bC];omega);have hb:=CQ (Z.b [N q _ _,eD dp D]);refine wY 6 aY bF ?_;refine bg rfl rfl (aD.one ag (((kB.of sF).at Z).at (by rw[cZ];exact kN E))) ?_;refine wI 9 (fun h4=>?_) fun h4=>?_
  ·refine z5 ?_;refine⟨c.length-(j+1),H,[(0,_),(4,_),(8,_),(36,_),(37,_),(38,I (j+1:Nat))],sB,j+1,lp,_,H,rfl,rfl,⟨?_,rY,H⟩,Z⟩;rw[zj,uR];exact aB (by rw[hxd];exact h4)
  refine z6 ?_;refine aO rfl tI rfl (uF (n:=j+1) hb fx hL (by rw[BD];omega)) rfl (fun w v49 hv=>?_);have hz:∃(p:dL) (ev:C) (b:Bool) (A:aF),v49= .tuple #[gQ p.cells,ev]/\lK p.cells/\(ev= .nilIface/\b=false\/(∃T z,ev= .iface T z)/\b=true)/\((jy s D.bY ((j+1:Nat):Int)=some p.pg/\b=false/\p.Sm/\A=fg p)\/(jy s D.bY ((j+1:Nat):Int)=none/\b=true/\U6 ev A))/\aw G (A::N q (mj dp s rv) 157::eD dp D::row 106 6 v lp.length (lp.map nK).flatten::gz (lp.map (·.2))::row 3 1 (.slice (some ⟨bb,oo,none⟩) c.length wc) c.length (bf c)::L) w:=by
   unfold zp at hv;rcases hv with⟨p,Y,rfl,h3,J⟩|⟨f,er,Y,rfl,h3,J⟩
   ·exact⟨p,_,false,_,rfl,jz (cL h3 .here) J, .inl ⟨rfl,rfl⟩, .inl ⟨Y,rfl,h3,rfl⟩,J⟩
   exact⟨gi,_,true,_,rfl,fj, .inr ⟨⟨_,_,rfl⟩,rfl⟩, .inr ⟨Y,rfl, .inl ⟨f,_,er,rfl,h3,rfl⟩⟩,J⟩
  obtain⟨p,ev,b,A,rfl,nq,hnb,hA,Z⟩:=hz;refine wL 3 bW Z fun w wo Z=>?_;refine wN 0 (cs:=p.cells) (l':=p.cells) ay nq Z fun w Z=>?_;refine z6 ?_;refine Fi rfl hI rfl hnb ?_;refine aK ?_;refine fJ rfl (fun h5=>?_) fun h5=>?_
  ·refine z7 ?_;exact ga rfl rfl rfl rfl (by
 obtain⟨h6,-,h7⟩:=hA.resolve_left (fun h=>by rw[h.2.1]at h5;cases h5);refine .inr ⟨ev,A,fun c' l' h=>?_,rfl,h7,?_⟩
 ·rw[rJ,NU (i:=j) uy (by rw[hxd];exact h4) h6]at h;cases h
 ·exact(Z.b [N wo _ _,row 106 _ _ _ _,gz _,row 3 _ _ _ _,A,N q _ _,eD dp D]).t4)
  obtain⟨h6,-,h7,rfl⟩:=hA.resolve_right (fun h=>by rw[h.2.1]at h5;cases h5);refine wA 5 (l:=p.cells) ay Z ?_;refine wV 0 (v:= .agg (nK (((j+1:Nat):Int),p)).toArray) ?_;refine fb (cs:=nK (((j+1:Nat):Int),p)) rfl eA gA nW dM rfl rfl rfl Z kR fun w b60 Z=>?_;refine eF (m:=lp.length) (k:=1) (news:=nK (((j+1:Nat):Int),p)) rfl eA gA yd nW rfl rfl Z pK (Rd.iq Z pK) rfl (by intro u hu;rcases cE.1 hu with rfl|hu;rfl;exact jz (cL h7 pK) Z u hu) mL H kR (fun w v61 Z=>?_);refine z6 ?_;have Z:=aw.iD (Z.b [gz _,fg p]);have hz:=(Z.b [N b60 _ _,N wo _ _,row 106 _ _ _ _,bt _,row 3 _ _ _ _,N q _ _,eD dp D]).t2;have hee:(lp.map (·.2)).map fg++[fg p]=((lp++[(((j+1:Nat):Int),p)]).map (·.2)).map fg:=by simp
  have hen:(lp.map nK).flatten++nK (((j+1:Nat):Int),p)=((lp++[(((j+1:Nat):Int),p)]).map nK).flatten:=by simp
  have hel:lp.length+1=(lp++[(((j+1:Nat):Int),p)]).length:=by simp
  rw[hee,hen,hel]at hz;refine⟨c.length-(j+1),H,[(0,_),(4,_),(8,_),(36,_),(37,_),(38,I (j+1:Nat))],sB,j+1,lp++[(((j+1:Nat):Int),p)],_,H,rfl,rfl,⟨?_,?_,by simp;omega⟩,hz⟩
  ·rw[zj,uR]
   show(if c.getD j 0=0 then some (mW lp)else _)=_
   rw[aj (by rw[hxd];exact h4),show((j:Int)+1)=((j+1:Nat):Int) by simp,h6];simp[mW]
  intro y hy;rcases eZ.1 hy with hy|hy
  ·exact rY y hy
  simp at hy;subst hy;exact h7
 have VO:j=c.length:=H;subst VO;rw[uR]at rJ;refine z6 ?_;refine cC rfl zC rfl ?_;refine cC rfl rK rfl ?_;refine wD 0 (v:=I s.cf.refs) ag Z ?_;have Ql:∀R,aL (row 106 6 v lp.length (lp.map nK).flatten::R) (jk 6 v (lp.map nK)):=fun R=>(jk.row sM (aaf lp)).head R
 refine z2 ?_;refine aO rfl Lo rfl (MQ (c:=c) (l:=lp) Z (oz.of sF) H ((Ql _).of sF) (fun x E=>lB (S:=lp.map (·.2)) (dY.2 ⟨_,E,rfl⟩) (rY x E) pK) H) rfl fun w v72 hv=>?_;have Ug:∃(pp:Option Addr) (er:Int) (A:aF),v72= .tuple #[.pointer pp,I er]/\er≠17/\((er≠0/\¬yj s.cf.refs c (mW lp)/\pp=none/\A=bt [])\/(er=0/\yj s.cf.refs c (mW lp)/\∃vq,pp=some ⟨vq,0,none⟩/\A=gX vq (kK s.cf.refs c (mW lp))))/\aw G (A::row 106 6 v lp.length (lp.map nK).flatten::gz (lp.map (·.2))::row 3 1 (.slice wa c.length wc) c.length (bf c)::N q (mj dp s rv) 157::eD dp D::L) w:=by
  rcases hv with⟨J,h3,h4⟩|⟨J,vq,pq,om,cv,lv,fq,fv,on,h3,h4,h5,h6⟩
  ·exact⟨none,_,bt [],h3,abW, .inl ⟨J,fun h=>J (Zc.2 h),rfl,rfl⟩,aw.bJ (M:=[]) h4⟩
  have fx:=Zc.1 J;have h7:=Xt (fun x E=>(sK fx.1 x E).1) h5 h6;rw[h4]at h7;exact⟨_,0,_,h3,H, .inr ⟨rfl,fx,vq,rfl,rfl⟩,h7⟩
 obtain⟨pp,er,A,rfl,UD,kB,Z⟩:=Ug;refine B' ?_;refine aO rfl Il rfl (K7 (er:=er) Z) rfl fun w v77 hv=>?_;obtain⟨Qo,Z⟩:=hv;refine z4 ?_;exact ga rfl rfl rfl rfl (by
 have hz:=(Z.b [row 106 _ _ _ _,gz _,row 3 _ _ _ _,A,N q _ _,eD dp D]).t3;rcases kB with⟨h4,h5,rfl,rfl⟩|⟨h4,h5,vq,rfl,rfl⟩
 ·obtain⟨-,rfl⟩:=Qo.resolve_left (fun h=>h4 h.1);refine .inr ⟨_,_,fun c' l' h=>?_,rfl, .inr ⟨er,rfl,UD,rfl⟩,hz⟩;rw[rJ]at h;cases h;exact h5
 ·obtain⟨-,rfl⟩:=Qo.resolve_right (fun h=>h.1 h4);exact .inl ⟨c,_,vq,by rw[rJ];rfl,h5,rfl,hz⟩)
section
open Go.RowKit Go.Extern.Stop Go.Stop Go.Extern
def abD:prog.underlying 150=some (.pointer 148):=kR
def ajp:prog.underlying 251=some (.pointer 41):=kR
def U_e:prog.underlying 41=some (.int .i64):=kR
def als:prog.underlying 148=some (.pointer 152):=kR
def LM(h:C)(w:ae):(Go.method 573 323 (.agg #[h]) "Kind").run prog w= .ok (371,h) w:=kR
def LO(h:C)(w:ae):(Go.method 573 323 (.agg #[h]) "Elem").run prog w= .ok (385, .agg #[h]) w:=kR
def LN(h:C)(w:ae):(Go.method 573 323 (.agg #[h]) "Implements").run prog w= .ok (386, .agg #[h]) w:=kR
def LP(h:C)(w:ae):(Go.method 573 323 (.agg #[h]) "AssignableTo").run prog w= .ok (383, .agg #[h]) w:=kR
def Qa(z:Sem C)(f:aC->Addr->Nat->Nat->Sem C)(v:C):
  ReflectliteValue.method z f #[v]=(do match<-ReflectliteValue.parts v with|none=>z|some (t,a,fl)=>f t a fl (fl%32)):=rfl
def abx(v x:C):ReflectliteValue.set #[v,x]=(do
  let(some (dst,a,fl),some (src,b,_)):=(<-ReflectliteValue.parts v,<-ReflectliteValue.parts x)
   |unsupported (.noEntry "extern/(internal/reflectlite.Value).Set.zeroValue")
  if fl/ReflectliteValue.flagAddr%2==0 then unsupported (.noEntry "extern/(internal/reflectlite.Value).Set.unaddressable")
  let val<-loadVar src b
  if<-Rtype.directlyAssignable dst src then storeVar dst a val
  else if<-Rtype.implements dst src then
   if(<-Rtype.kind src)==20 then
    match val with
    | .nilIface=>unsupported (.noEntry "extern/reflectlite: a nil value of one interface type handed on as a value of another")
    |_=>storeVar dst a val
   else storeVar dst a (.iface src val)
  else panicString ("reflectlite.Set: value of type "++(<-Rtype.spelt src)++ " is not assignable to type "++(<-Rtype.spelt dst))
  pure (.tuple #[])):=rfl
def adE(t:Addr)(w:ae):(ReflectliteValue.unpack (.iface 150 (.pointer (some t)))).run prog w= .ok (.agg #[.pointer (some ⟨3,150,none⟩), .pointer (some ⟨w.heap.size,0,none⟩), .int .u64 150]) (w.alloc (.cells #[.pointer (some t)] 150)):=kR
def adG(a:Addr)(w:ae):(ReflectliteValue.methodAny (ReflectliteValue.valueError "reflectlite.Value.Type" 0) (fun t _ _ _=>ReflectliteType.toType t) #[.agg #[.pointer (some ⟨3,150,none⟩), .pointer (some a), .int .u64 150]]).run prog w= .ok (.iface 323 (.agg #[.pointer (some ⟨3,150,none⟩)])) w:=kR
def adT(w:ae):((ReflectliteType.abiMethod fun t=>(fun a:Nat=>Value.int IntKind.u8 (a:Int))<$>Rtype.kind t) #[.pointer (some ⟨3,150,none⟩)]).run prog w= .ok (.int .u8 22) w:=kR
def adU(w:ae):((ReflectliteType.abiMethod fun t=>(fun a:Nat=>Value.int IntKind.u8 (a:Int))<$>Rtype.kind t) #[.pointer (some ⟨3,148,none⟩)]).run prog w= .ok (.int .u8 22) w:=kR
def Wo(a:Addr)(w:ae):(ReflectliteValue.parts (.agg #[.pointer (some ⟨3,150,none⟩), .pointer (some a), .int .u64 150])).run prog w= .ok (some (150,a,150)) w:=kR
def adO(a p:Addr)(W:ae)(ha:W.cell? a=some (.pointer (some p))):(ReflectliteValue.method (ReflectliteValue.valueError "reflectlite.Value.IsNil" 0) ReflectliteValue.isNil #[.agg #[.pointer (some ⟨3,150,none⟩), .pointer (some a), .int .u64 150]]).run prog W= .ok (.bool false) W:=by
 rw[Qa];simp only[al,Wo,Result.andThen];simp[ReflectliteValue.isNil,loadVar,isAgg,underlying,abD,ha,Result.andThen]
def adW(w:ae):(ReflectliteType.method ReflectliteType.elem #[.agg #[.pointer (some ⟨3,150,none⟩)]]).run prog w= .ok (.iface 323 (.agg #[.pointer (some ⟨3,148,none⟩)])) w:=kR
def adV(w:ae):(ReflectliteType.relation "Implements" ReflectliteType.implements_ #[.agg #[.pointer (some ⟨3,148,none⟩)], .iface 323 (.agg #[.pointer (some ⟨3,143,none⟩)])]).run prog w= .ok (.bool true) w:=kR
def Wl(v:C)(w:ae):(ReflectliteType.typeOf #[.iface 148 v]).run prog w= .ok (.iface 323 (.agg #[.pointer (some ⟨3,148,none⟩)])) w:=kR
def adZ(w:ae):(ReflectliteType.relation "AssignableTo" ReflectliteType.assignableTo #[.agg #[.pointer (some ⟨3,148,none⟩)], .iface 323 (.agg #[.pointer (some ⟨3,148,none⟩)])]).run prog w= .ok (.bool true) w:=kR
def adF(x:Addr)(w:ae):(ReflectliteValue.unpack (.iface 148 (.pointer (some x)))).run prog w= .ok (.agg #[.pointer (some ⟨3,148,none⟩), .pointer (some ⟨w.heap.size,0,none⟩), .int .u64 150]) (w.alloc (.cells #[.pointer (some x)] 148)):=kR
def adM(w:ae):(Rtype.elem? 150).run prog w= .ok (some 148) w:=kR
def adP(p:Addr)(w:ae):(ReflectliteValue.mk 148 p ReflectliteValue.flagAddr).run prog w= .ok (.agg #[.pointer (some ⟨3,148,none⟩), .pointer (some p), .int .u64 406]) w:=kR
def adS(a p:Addr)(W:ae)(ha:W.cell? a=some (.pointer (some p))):(ReflectliteValue.method (ReflectliteValue.valueError "reflectlite.Value.Elem" 0) ReflectliteValue.elem #[.agg #[.pointer (some ⟨3,150,none⟩), .pointer (some a), .int .u64 150]]).run prog W
   = .ok (.agg #[.pointer (some ⟨3,148,none⟩), .pointer (some p), .int .u64 406]) W:=by
 rw[Qa];simp only[al,Wo,Result.andThen];simp[ReflectliteValue.elem,loadVar,isAgg,underlying,abD,ha,Result.andThen,adM,adP]
def adK(a:Addr)(w:ae):(ReflectliteValue.parts (.agg #[.pointer (some ⟨3,148,none⟩), .pointer (some a), .int .u64 406])).run prog w= .ok (some (148,a,406)) w:=kR
def adI(a:Addr)(w:ae):(ReflectliteValue.parts (.agg #[.pointer (some ⟨3,148,none⟩), .pointer (some a), .int .u64 150])).run prog w= .ok (some (148,a,150)) w:=kR
def adX(w:ae):(Rtype.directlyAssignable 148 148).run prog w= .ok true w:=kR
def adH(ta b:Addr)(x:Addr)(qV:C)(W:ae)(hb:W.cell? b=some (.pointer (some x)))(ht:W.cell? ta=some qV)(hf:W.frozen? ta=false):
  (ReflectliteValue.set #[.agg #[.pointer (some ⟨3,148,none⟩), .pointer (some ta), .int .u64 406], .agg #[.pointer (some ⟨3,148,none⟩), .pointer (some b), .int .u64 150]]).run prog W= .ok (.tuple #[]) (W.setCell ta (.pointer (some x))):=by
 rw[abx];simp only[al,adK,adI,Result.andThen];simp[ReflectliteValue.flagAddr,loadVar,isAgg,underlying,als,hb,Result.andThen,adX,storeVar,Value.cells,storeCells,Addr.add];rw[run_store prog W ta _ _ (by rfl)];simp[ht,hf]
def Wi(t:Addr)(w:ae):(ReflectliteValue.unpack (.iface 251 (.pointer (some t)))).run prog w= .ok (.agg #[.pointer (some ⟨3,251,none⟩), .pointer (some ⟨w.heap.size,0,none⟩), .int .u64 150]) (w.alloc (.cells #[.pointer (some t)] 251)):=kR
def Wk(a:Addr)(w:ae):(ReflectliteValue.methodAny (ReflectliteValue.valueError "reflectlite.Value.Type" 0) (fun t _ _ _=>ReflectliteType.toType t) #[.agg #[.pointer (some ⟨3,251,none⟩), .pointer (some a), .int .u64 150]]).run prog w= .ok (.iface 323 (.agg #[.pointer (some ⟨3,251,none⟩)])) w:=kR
def Wt(w:ae):((ReflectliteType.abiMethod fun t=>(fun a:Nat=>Value.int IntKind.u8 (a:Int))<$>Rtype.kind t) #[.pointer (some ⟨3,251,none⟩)]).run prog w= .ok (.int .u8 22) w:=kR
def Wu(w:ae):((ReflectliteType.abiMethod fun t=>(fun a:Nat=>Value.int IntKind.u8 (a:Int))<$>Rtype.kind t) #[.pointer (some ⟨3,41,none⟩)]).run prog w= .ok (.int .u8 2) w:=kR
def Wp(a:Addr)(w:ae):(ReflectliteValue.parts (.agg #[.pointer (some ⟨3,251,none⟩), .pointer (some a), .int .u64 150])).run prog w= .ok (some (251,a,150)) w:=kR
def Wq(a p:Addr)(W:ae)(ha:W.cell? a=some (.pointer (some p))):(ReflectliteValue.method (ReflectliteValue.valueError "reflectlite.Value.IsNil" 0) ReflectliteValue.isNil #[.agg #[.pointer (some ⟨3,251,none⟩), .pointer (some a), .int .u64 150]]).run prog W= .ok (.bool false) W:=by
 rw[Qa];simp only[al,Wp,Result.andThen];simp[ReflectliteValue.isNil,loadVar,isAgg,underlying,ajp,ha,Result.andThen]
def Ww(w:ae):(ReflectliteType.method ReflectliteType.elem #[.agg #[.pointer (some ⟨3,251,none⟩)]]).run prog w= .ok (.iface 323 (.agg #[.pointer (some ⟨3,41,none⟩)])) w:=kR
def Wv(w:ae):(ReflectliteType.relation "Implements" ReflectliteType.implements_ #[.agg #[.pointer (some ⟨3,41,none⟩)], .iface 323 (.agg #[.pointer (some ⟨3,143,none⟩)])]).run prog w= .ok (.bool true) w:=kR
def Wm(v:C)(w:ae):(ReflectliteType.typeOf #[.iface 41 v]).run prog w= .ok (.iface 323 (.agg #[.pointer (some ⟨3,41,none⟩)])) w:=kR
def Wx(w:ae):(ReflectliteType.relation "AssignableTo" ReflectliteType.assignableTo #[.agg #[.pointer (some ⟨3,41,none⟩)], .iface 323 (.agg #[.pointer (some ⟨3,41,none⟩)])]).run prog w= .ok (.bool true) w:=kR
def Wj(x:Int)(w:ae):(ReflectliteValue.unpack (.iface 41 (I x))).run prog w= .ok (.agg #[.pointer (some ⟨3,41,none⟩), .pointer (some ⟨w.heap.size,0,none⟩), .int .u64 130]) (w.alloc (.cells #[I x] 41)):=kR
def adN(w:ae):(Rtype.elem? 251).run prog w= .ok (some 41) w:=kR
def adQ(p:Addr)(w:ae):(ReflectliteValue.mk 41 p ReflectliteValue.flagAddr).run prog w= .ok (.agg #[.pointer (some ⟨3,41,none⟩), .pointer (some p), .int .u64 386]) w:=kR
def Ws(a p:Addr)(W:ae)(ha:W.cell? a=some (.pointer (some p))):(ReflectliteValue.method (ReflectliteValue.valueError "reflectlite.Value.Elem" 0) ReflectliteValue.elem #[.agg #[.pointer (some ⟨3,251,none⟩), .pointer (some a), .int .u64 150]]).run prog W
   = .ok (.agg #[.pointer (some ⟨3,41,none⟩), .pointer (some p), .int .u64 386]) W:=by
 rw[Qa];simp only[al,Wp,Result.andThen];simp[ReflectliteValue.elem,loadVar,isAgg,underlying,ajp,ha,Result.andThen,adN,adQ]
def adL(a:Addr)(w:ae):(ReflectliteValue.parts (.agg #[.pointer (some ⟨3,41,none⟩), .pointer (some a), .int .u64 386])).run prog w= .ok (some (41,a,386)) w:=kR
def adJ(a:Addr)(w:ae):(ReflectliteValue.parts (.agg #[.pointer (some ⟨3,41,none⟩), .pointer (some a), .int .u64 130])).run prog w= .ok (some (41,a,130)) w:=kR
def adY(w:ae):(Rtype.directlyAssignable 41 41).run prog w= .ok true w:=kR
def Wn(ta b:Addr)(x:Int)(qV:C)(W:ae)(hb:W.cell? b=some (I x))(ht:W.cell? ta=some qV)(hf:W.frozen? ta=false):
  (ReflectliteValue.set #[.agg #[.pointer (some ⟨3,41,none⟩), .pointer (some ta), .int .u64 386], .agg #[.pointer (some ⟨3,41,none⟩), .pointer (some b), .int .u64 130]]).run prog W= .ok (.tuple #[]) (W.setCell ta (I x)):=by
 rw[abx];simp only[al,adL,adJ,Result.andThen];simp[ReflectliteValue.flagAddr,loadVar,isAgg,underlying,U_e,hb,Result.andThen,adY,storeVar,Value.cells,storeCells,Addr.add];rw[run_store prog W ta _ _ (by rfl)];simp[ht,hf]
def ajl(t:Addr)(qV:C)(x:Addr)(w:ae)(hg:w.cell? ⟨1,0,none⟩=some (.iface 323 (.agg #[.pointer (some ⟨3,143,none⟩)])))(ht0:w.cell? t=some qV)(hf0:w.frozen? t=false):
  aA prog 63 #[.iface 148 (.pointer (some x)), .iface 150 (.pointer (some t))] w fun ev w'=>ev= .returned (.bool true)/\w'=((((w.alloc (.cells #[.pointer (some t)] 150)).alloc (.cells #[.pointer (some ⟨3,150,none⟩), .pointer (some ⟨w.heap.size,0,none⟩), .int .u64 150] 255)).alloc (.cells #[.pointer (some ⟨3,150,none⟩), .pointer (some ⟨w.heap.size,0,none⟩), .int .u64 150] 255)).alloc (.cells #[.pointer (some x)] 148)).setCell t (.pointer (some x)):=by
 have h6:=@run_callFunc_extern prog 129 _ (fun args=>ReflectliteValue.unpack (args.getD 0 (.tuple #[]))) func129 kR kR kR kR;have h7:=@run_callFunc_extern prog 130 _ (ReflectliteValue.methodAny (ReflectliteValue.valueError "reflectlite.Value.Type" 0) (fun t _ _ _=>ReflectliteType.toType t)) func130 kR kR kR kR;have h8:=@run_callFunc_extern prog 131 _ (ReflectliteValue.method (ReflectliteValue.valueError "reflectlite.Value.IsNil" 0) ReflectliteValue.isNil) func131 kR kR kR kR;have h27:=@run_callFunc_extern prog 371 _ (ReflectliteType.abiMethod fun t=>do pure (.int .u8 (<-Rtype.kind t))) func371 kR kR kR kR;have h37:=@run_callFunc_extern prog 385 _ (ReflectliteType.method ReflectliteType.elem) func385 kR kR kR kR;have h38:=@run_callFunc_extern prog 386 _ (ReflectliteType.relation "Implements" ReflectliteType.implements_) func386 kR kR kR kR;have jR:=@run_callFunc_extern prog 219 _ ReflectliteType.typeOf func219 kR kR kR kR;have h35:=@run_callFunc_extern prog 383 _ (ReflectliteType.relation "AssignableTo" ReflectliteType.assignableTo) func383 kR kR kR kR;have qH:=@run_callFunc_extern prog 220 _ (ReflectliteValue.method (ReflectliteValue.valueError "reflectlite.Value.Elem" 0) ReflectliteValue.elem) func220 kR kR kR kR;have xX:=@run_callFunc_extern prog 221 _ ReflectliteValue.set func221 kR kR kR kR;have f6:=adE;have f7:=adG;have k27:=adT;have k25:=adU;have e27:=adW;have i25:=adV;have tO:=Wl;have a25:=adZ;have v25:=adF x;have mK:=LM;have mE:=LO;have mI:=LN;have mA:=LP;have n8:=adO ⟨w.heap.size,0,none⟩ t ((w.alloc (.cells #[.pointer (some t)] 150)).alloc (.cells #[.pointer (some ⟨3,150,none⟩), .pointer (some ⟨w.heap.size,0,none⟩), .int .u64 150] 255)) sM;have fR:1<w.heap.size:=by
  rcases oA 1 w.heap.size with h|h
  ·exact h
  simp[World.cell?,FC h]at hg
 have hg2:((w.alloc (.cells #[.pointer (some t)] 150)).alloc (.cells #[.pointer (some ⟨3,150,none⟩), .pointer (some ⟨w.heap.size,0,none⟩), .int .u64 150] 255)).cell? ⟨1,0,none⟩=some (.iface 323 (.agg #[.pointer (some ⟨3,143,none⟩)])):=by
  rw[aW _ _ ⟨1,0,none⟩ (by simp;omega),aW _ _ ⟨1,0,none⟩ fR];exact hg
 have VM:t.block<w.heap.size:=by
  rcases oA t.block w.heap.size with h|h
  ·exact h
  simp[World.cell?,FC h]at ht0
 have el:=adS ⟨w.heap.size,0,none⟩ t (((w.alloc (.cells #[.pointer (some t)] 150)).alloc (.cells #[.pointer (some ⟨3,150,none⟩), .pointer (some ⟨w.heap.size,0,none⟩), .int .u64 150] 255)).alloc (.cells #[.pointer (some ⟨3,150,none⟩), .pointer (some ⟨w.heap.size,0,none⟩), .int .u64 150] 255)) (by rw[aW _ _ ⟨w.heap.size,0,none⟩ (by simp;omega),aW _ _ ⟨w.heap.size,0,none⟩ sM];simp);have st:=adH t ⟨w.heap.size+1+1+1,0,none⟩ x qV ((((w.alloc (.cells #[.pointer (some t)] 150)).alloc (.cells #[.pointer (some ⟨3,150,none⟩), .pointer (some ⟨w.heap.size,0,none⟩), .int .u64 150] 255)).alloc (.cells #[.pointer (some ⟨3,150,none⟩), .pointer (some ⟨w.heap.size,0,none⟩), .int .u64 150] 255)).alloc (.cells #[.pointer (some x)] 148))
  (by rw[World.cell?_alloc_at _ _ _ _ sM];rfl)
  (by rw[aW _ _ t (by simp;omega),aW _ _ t (by simp;omega),aW _ _ t (by simp;omega),aW _ _ t VM];exact ht0)
  (by rw[bO _ _ t (by simp;omega),bO _ _ t (by simp;omega),bO _ _ t (by simp;omega),bO _ _ t (Nat.ne_of_lt VM)];exact hf0)
 go_enter func63,ntmps63
 go_wp2
 refine wp_loop_rounds 1 ?_;rw[rounds_succ]
 go_wp2
 go_ret
 exact⟨rfl,rfl⟩
def ajm(t:Addr)(qV:C)(x:Int)(w:ae)(hg:w.cell? ⟨1,0,none⟩=some (.iface 323 (.agg #[.pointer (some ⟨3,143,none⟩)])))(ht0:w.cell? t=some qV)(hf0:w.frozen? t=false):
  aA prog 63 #[.iface 41 (I x), .iface 251 (.pointer (some t))] w fun ev w'=>ev= .returned (.bool true)/\w'=((((w.alloc (.cells #[.pointer (some t)] 251)).alloc (.cells #[.pointer (some ⟨3,251,none⟩), .pointer (some ⟨w.heap.size,0,none⟩), .int .u64 150] 255)).alloc (.cells #[.pointer (some ⟨3,251,none⟩), .pointer (some ⟨w.heap.size,0,none⟩), .int .u64 150] 255)).alloc (.cells #[I x] 41)).setCell t (I x):=by
 have h6:=@run_callFunc_extern prog 129 _ (fun args=>ReflectliteValue.unpack (args.getD 0 (.tuple #[]))) func129 kR kR kR kR;have h7:=@run_callFunc_extern prog 130 _ (ReflectliteValue.methodAny (ReflectliteValue.valueError "reflectlite.Value.Type" 0) (fun t _ _ _=>ReflectliteType.toType t)) func130 kR kR kR kR;have h8:=@run_callFunc_extern prog 131 _ (ReflectliteValue.method (ReflectliteValue.valueError "reflectlite.Value.IsNil" 0) ReflectliteValue.isNil) func131 kR kR kR kR;have h27:=@run_callFunc_extern prog 371 _ (ReflectliteType.abiMethod fun t=>do pure (.int .u8 (<-Rtype.kind t))) func371 kR kR kR kR;have h37:=@run_callFunc_extern prog 385 _ (ReflectliteType.method ReflectliteType.elem) func385 kR kR kR kR;have h38:=@run_callFunc_extern prog 386 _ (ReflectliteType.relation "Implements" ReflectliteType.implements_) func386 kR kR kR kR;have jR:=@run_callFunc_extern prog 219 _ ReflectliteType.typeOf func219 kR kR kR kR;have h35:=@run_callFunc_extern prog 383 _ (ReflectliteType.relation "AssignableTo" ReflectliteType.assignableTo) func383 kR kR kR kR;have qH:=@run_callFunc_extern prog 220 _ (ReflectliteValue.method (ReflectliteValue.valueError "reflectlite.Value.Elem" 0) ReflectliteValue.elem) func220 kR kR kR kR;have xX:=@run_callFunc_extern prog 221 _ ReflectliteValue.set func221 kR kR kR kR;have f6:=Wi;have f7:=Wk;have k27:=Wt;have k25:=Wu;have e27:=Ww;have i25:=Wv;have tO:=Wm;have a25:=Wx;have v25:=Wj x;have mK:=LM;have mE:=LO;have mI:=LN;have mA:=LP;have n8:=Wq ⟨w.heap.size,0,none⟩ t ((w.alloc (.cells #[.pointer (some t)] 251)).alloc (.cells #[.pointer (some ⟨3,251,none⟩), .pointer (some ⟨w.heap.size,0,none⟩), .int .u64 150] 255)) sM;have fR:1<w.heap.size:=by
  rcases oA 1 w.heap.size with h|h
  ·exact h
  simp[World.cell?,FC h]at hg
 have hg2:((w.alloc (.cells #[.pointer (some t)] 251)).alloc (.cells #[.pointer (some ⟨3,251,none⟩), .pointer (some ⟨w.heap.size,0,none⟩), .int .u64 150] 255)).cell? ⟨1,0,none⟩=some (.iface 323 (.agg #[.pointer (some ⟨3,143,none⟩)])):=by
  rw[aW _ _ ⟨1,0,none⟩ (by simp;omega),aW _ _ ⟨1,0,none⟩ fR];exact hg
 have VM:t.block<w.heap.size:=by
  rcases oA t.block w.heap.size with h|h
  ·exact h
  simp[World.cell?,FC h]at ht0
 have el:=Ws ⟨w.heap.size,0,none⟩ t (((w.alloc (.cells #[.pointer (some t)] 251)).alloc (.cells #[.pointer (some ⟨3,251,none⟩), .pointer (some ⟨w.heap.size,0,none⟩), .int .u64 150] 255)).alloc (.cells #[.pointer (some ⟨3,251,none⟩), .pointer (some ⟨w.heap.size,0,none⟩), .int .u64 150] 255)) (by rw[aW _ _ ⟨w.heap.size,0,none⟩ (by simp;omega),aW _ _ ⟨w.heap.size,0,none⟩ sM];simp);have st:=Wn t ⟨w.heap.size+1+1+1,0,none⟩ x qV ((((w.alloc (.cells #[.pointer (some t)] 251)).alloc (.cells #[.pointer (some ⟨3,251,none⟩), .pointer (some ⟨w.heap.size,0,none⟩), .int .u64 150] 255)).alloc (.cells #[.pointer (some ⟨3,251,none⟩), .pointer (some ⟨w.heap.size,0,none⟩), .int .u64 150] 255)).alloc (.cells #[I x] 41))
  (by rw[World.cell?_alloc_at _ _ _ _ sM];rfl)
  (by rw[aW _ _ t (by simp;omega),aW _ _ t (by simp;omega),aW _ _ t (by simp;omega),aW _ _ t VM];exact ht0)
  (by rw[bO _ _ t (by simp;omega),bO _ _ t (by simp;omega),bO _ _ t (by simp;omega),bO _ _ t (Nat.ne_of_lt VM)];exact hf0)
 go_enter func63,ntmps63
 go_wp2
 refine wp_loop_rounds 1 ?_;rw[rounds_succ]
 go_wp2
 go_ret
 exact⟨rfl,rfl⟩
def ahA(w:ae):(ReflectliteType.relation "AssignableTo" ReflectliteType.assignableTo #[.agg #[.pointer (some ⟨3,148,none⟩)], .iface 323 (.agg #[.pointer (some ⟨3,41,none⟩)])]).run prog w= .ok (.bool false) w:=kR
def ad1:∃want,prog.underlying 328=some (.interface want)/\(prog.info? 148).map (fun i=>(lacking want i.methods).isEmpty)=some false:=⟨_,underlying328,by kernel_rfl⟩
def ad0:∃want,prog.underlying 331=some (.interface want)/\(prog.info? 148).map (fun i=>(lacking want i.methods).isEmpty)=some true:=⟨_,underlying331,by kernel_rfl⟩
def adR(v:C)(w:ae):(Instr.typeAssert (.iface 148 v) 143 328 true).run prog w= .ok (.tuple #[.nilIface, .bool false]) w:=by
 obtain⟨want,Y,J⟩:=ad1;exact run_typeAssert_lacksB Y J kR v 143 w
def agd(v:C)(w:ae):(Instr.typeAssert (.iface 148 v) 143 331 true).run prog w= .ok (.tuple #[.iface 148 v, .bool true]) w:=by
 obtain⟨want,Y,J⟩:=ad0;exact run_typeAssert_hasB Y J v 143 w
def agc(h:C)(w:ae):(Go.method 573 148 h "Unwrap").run prog w= .ok (378,h) w:=kR
def ahB(t:Addr)(qV:C)(x:Int)(w:ae)(b:Nat)(hfb:w.cell? ⟨b,1,none⟩=some (.iface 41 (I x)))(hg:w.cell? ⟨1,0,none⟩=some (.iface 323 (.agg #[.pointer (some ⟨3,143,none⟩)])))(ht0:w.cell? t=some qV)(hf0:w.frozen? t=false):
  aA prog 63 #[.iface 148 (pQ b), .iface 251 (.pointer (some t))] w fun ev w'=>ev= .returned (.bool true)/\w'=((((w.alloc (.cells #[.pointer (some t)] 251)).alloc (.cells #[.pointer (some ⟨3,251,none⟩), .pointer (some ⟨w.heap.size,0,none⟩), .int .u64 150] 255)).alloc (.cells #[.pointer (some ⟨3,251,none⟩), .pointer (some ⟨w.heap.size,0,none⟩), .int .u64 150] 255)).alloc (.cells #[I x] 41)).setCell t (I x):=by
 have h6:=@run_callFunc_extern prog 129 _ (fun args=>ReflectliteValue.unpack (args.getD 0 (.tuple #[]))) func129 kR kR kR kR;have h7:=@run_callFunc_extern prog 130 _ (ReflectliteValue.methodAny (ReflectliteValue.valueError "reflectlite.Value.Type" 0) (fun t _ _ _=>ReflectliteType.toType t)) func130 kR kR kR kR;have h8:=@run_callFunc_extern prog 131 _ (ReflectliteValue.method (ReflectliteValue.valueError "reflectlite.Value.IsNil" 0) ReflectliteValue.isNil) func131 kR kR kR kR;have h27:=@run_callFunc_extern prog 371 _ (ReflectliteType.abiMethod fun t=>do pure (.int .u8 (<-Rtype.kind t))) func371 kR kR kR kR;have h37:=@run_callFunc_extern prog 385 _ (ReflectliteType.method ReflectliteType.elem) func385 kR kR kR kR;have h38:=@run_callFunc_extern prog 386 _ (ReflectliteType.relation "Implements" ReflectliteType.implements_) func386 kR kR kR kR;have jR:=@run_callFunc_extern prog 219 _ ReflectliteType.typeOf func219 kR kR kR kR;have h35:=@run_callFunc_extern prog 383 _ (ReflectliteType.relation "AssignableTo" ReflectliteType.assignableTo) func383 kR kR kR kR;have qH:=@run_callFunc_extern prog 220 _ (ReflectliteValue.method (ReflectliteValue.valueError "reflectlite.Value.Elem" 0) ReflectliteValue.elem) func220 kR kR kR kR;have xX:=@run_callFunc_extern prog 221 _ ReflectliteValue.set func221 kR kR kR kR;have f6:=Wi;have f7:=Wk;have k27:=Wt;have k25:=Wu;have e27:=Ww;have i25:=Wv;have tO:=Wm;have a25:=Wx;have v25:=Wj x;have mK:=LM;have mE:=LO;have mI:=LN;have mA:=LP;have n8:=Wq ⟨w.heap.size,0,none⟩ t ((w.alloc (.cells #[.pointer (some t)] 251)).alloc (.cells #[.pointer (some ⟨3,251,none⟩), .pointer (some ⟨w.heap.size,0,none⟩), .int .u64 150] 255)) sM;have fR:1<w.heap.size:=by
  rcases oA 1 w.heap.size with h|h
  ·exact h
  simp[World.cell?,FC h]at hg
 have hg2:((w.alloc (.cells #[.pointer (some t)] 251)).alloc (.cells #[.pointer (some ⟨3,251,none⟩), .pointer (some ⟨w.heap.size,0,none⟩), .int .u64 150] 255)).cell? ⟨1,0,none⟩=some (.iface 323 (.agg #[.pointer (some ⟨3,143,none⟩)])):=by
  rw[aW _ _ ⟨1,0,none⟩ (by simp;omega),aW _ _ ⟨1,0,none⟩ fR];exact hg
 have VM:t.block<w.heap.size:=by
  rcases oA t.block w.heap.size with h|h
  ·exact h
  simp[World.cell?,FC h]at ht0
 have el:=Ws ⟨w.heap.size,0,none⟩ t (((w.alloc (.cells #[.pointer (some t)] 251)).alloc (.cells #[.pointer (some ⟨3,251,none⟩), .pointer (some ⟨w.heap.size,0,none⟩), .int .u64 150] 255)).alloc (.cells #[.pointer (some ⟨3,251,none⟩), .pointer (some ⟨w.heap.size,0,none⟩), .int .u64 150] 255)) (by rw[aW _ _ ⟨w.heap.size,0,none⟩ (by simp;omega),aW _ _ ⟨w.heap.size,0,none⟩ sM];simp);have st:=Wn t ⟨w.heap.size+1+1+1,0,none⟩ x qV ((((w.alloc (.cells #[.pointer (some t)] 251)).alloc (.cells #[.pointer (some ⟨3,251,none⟩), .pointer (some ⟨w.heap.size,0,none⟩), .int .u64 150] 255)).alloc (.cells #[.pointer (some ⟨3,251,none⟩), .pointer (some ⟨w.heap.size,0,none⟩), .int .u64 150] 255)).alloc (.cells #[I x] 41))
  (by rw[World.cell?_alloc_at _ _ _ _ sM];rfl)
  (by rw[aW _ _ t (by simp;omega),aW _ _ t (by simp;omega),aW _ _ t (by simp;omega),aW _ _ t VM];exact ht0)
  (by rw[bO _ _ t (by simp;omega),bO _ _ t (by simp;omega),bO _ _ t (by simp;omega),bO _ _ t (Nat.ne_of_lt VM)];exact hf0)
 have tF:=Wl;have aN:=ahA;have lk:=adR;have hs:=agd;have mU:=agc;have tW:b<w.heap.size:=by
  rcases oA b w.heap.size with h|h
  ·exact h
  simp[World.cell?,FC h]at hfb
 have aj6:(((w.alloc (.cells #[.pointer (some t)] 251)).alloc (.cells #[.pointer (some ⟨3,251,none⟩), .pointer (some ⟨w.heap.size,0,none⟩), .int .u64 150] 255)).alloc (.cells #[.pointer (some ⟨3,251,none⟩), .pointer (some ⟨w.heap.size,0,none⟩), .int .u64 150] 255)).cell? ⟨b,1,none⟩=some (.iface 41 (I x)):=by
  rw[aW _ _ ⟨b,1,none⟩ (by simp;omega),aW _ _ ⟨b,1,none⟩ (by simp;omega),aW _ _ ⟨b,1,none⟩ tW];exact hfb
 go_enter func63,ntmps63
 go_wp2
 refine wp_loop_rounds 2 ?_;rw[rounds_succ]
 go_wp2
 rw[rounds_succ]
 go_wp2
 go_ret
 exact⟨rfl,rfl⟩
end
def M4{vq:Nat}{V:Va}{lv:C}{l:List (Int×Tr)}(Z:aw G (gX vq V::L) w)(fx:V.Ok)(kl:aL L (jk 4 lv (l.map cA)))(sP:l.length<=1000)(YE:aL L EvK):
  aA prog 11 #[pQ vq,lv] w (bU fun r w'=>∃rp er,r= .tuple #[gQ (vg.cells ⟨rp,nQ⟩),I er]/\(ve V.rd V.po.c (l.map (·.2)) rp er/\rp.bad=[])/\aw G (gX vq V::L) w'):=by
 obtain⟨ra,rc,yQ,-,-⟩:=(kl.at Z.tail).form;rw[cg]at yQ;subst yQ;have hN:=fx.po.len;refine wF [_,_] func11 ntmps11 ?_;refine wL 2 fN Z fun w b4 Z=>?_;refine z5 ?_;refine eE rfl kR bp rfl ?_;refine wV 0 (v:= .agg #[I l.length,I 0,I 0,I 0,I 0,I 0,I 0,nQ]) ?_;refine wL 0 fN Z fun w b6 Z=>?_;refine wN 0 (cs:=[I l.length,I 0,I 0,I 0,I 0,I 0,I 0,nQ]) (l':=[I l.length,I 0,I 0,I 0,I 0,I 0,I 0,nQ]) aJ (by intro u hu;simp at hu;rcases hu with rfl|rfl|rfl|rfl<;>rfl) Z (fun w Z=>?_);refine z9 ?_;refine eE rfl kR bp rfl ?_;refine z3 ?_;have Z:=bB (aw.bJ (M:=([]:List Nat).map fun D=>fS D) Z) 62 3;have Z:=Z.b [row 62 3 (nQ) _ _,N b6 _ _,N b4 _ _,bt _,gX vq V];refine bx (fun m e w=>∃(i:Nat) (Ds:List Nat) (tv:C),i<=l.length/\m=l.length-i/\e=(0,pQ vq)::(4,pQ b4)::(6,pQ b6)::(7,tv)::(21, .slice ra l.length rc)::(22,I l.length)::(23,I i)::mkE Ds/\((∀t∈((l.map (·.2)).take i),qu V.rd t=0)/\(0<=iZ (((l.map (·.2)).take i).map Tr.items)/\iZ (((l.map (·.2)).take i).map Tr.items)<=524288*i)/\(0<=iZ (((l.map (·.2)).take i).map fun t=>fz (dz V.rd t))/\iZ (((l.map (·.2)).take i).map fun t=>fz (dz V.rd t))<=2013265920*i))/\aw G (row 62 3 tv i (((l.map (·.2)).take i).map dI).flatten::N b6 [I l.length,I 0,I 0,I 0,I 0,I (iZ (((l.map (·.2)).take i).map Tr.items)),I (iZ (((l.map (·.2)).take i).map fun t=>fz (dz V.rd t))),nQ] 40::N b4 (vg.cells ⟨jf,nQ⟩) 40::bt (Ds.map fun D=>fS D)::gX vq V::L) w)
  (m:=l.length) sB
  ⟨0,[],_,de _,rfl,rfl,⟨(fun t ht=>by simp at ht),⟨by simp[iZ],by simp[iZ]⟩,⟨by simp[iZ],by simp[iZ]⟩⟩,Z⟩ ?_
 rintro m e w ⟨i,Ds,tv,hi,rfl,rfl,⟨lr,VP,VS⟩,Z⟩;obtain⟨ta,tc,rfl⟩:=aT Z;refine wI 5 (fun Y=>?_) fun Y=>?_
 ·have lR:i<l.length:=H;obtain⟨x,E⟩:∃x,l[i]?=some x:=⟨_,dG lR⟩;have kA:(l.map cA)[i]?=some (cA x):=by rw[dh,E];rfl
  have hxt:(l.map (·.2))[i]?=some x.2:=by rw[dh,E];rfl
  obtain⟨rb,ro,rfl⟩:=((kl.of sF).at Z).nn (by rw[cg];omega);refine wX 5 bp dx ?_;refine bg rfl rfl (aD.many (cs:=cA x) fM rfl (by rw[cZ];exact((kl.of sF).at Z).at kA)) ?_;refine wL 0 wJ Z fun w b9 Z=>?_;refine wN 0 (cs:=cA x) (l':=cA x) fM (by intro u hu;simp[cA]at hu;rcases hu with rfl|rfl|rfl|rfl<;>rfl) Z (fun w Z=>?_);refine z6 ?_;refine bg rfl rfl (aD.xM (cs:=dI x.2) ez Z pK rfl rfl) ?_;refine wC rfl Ln rfl (MP (t:=x.2) fx (Z.b [gX vq V]) (YE.of sF)) fun w Z=>?_
  refine wI 2 (fun J=>?_) fun J=>?_
  ·refine wV 2 (v:= .agg #[I 0,I 0,I 0,I 0,I 0,I 0,I 0,nQ]) ?_;refine wN 0 (cs:=vg.cells ⟨jf,nQ⟩) (l':=vg.cells ⟨jf,nQ⟩) aJ (by intro u hu;simp[vg.cells]at hu;rcases hu with rfl|rfl|rfl|rfl|rfl|rfl|rfl|rfl<;>rfl) Z (fun w Z=>?_);refine z3 ?_;refine cV (FI Ds) ?_;refine Bg Z pK fun w Z=>?_;refine JR rfl ⟨_,rfl,(aD.dB (l:=vg.cells ⟨jf,nQ⟩) aJ Z pK rfl)⟩ rfl ⟨jf,18,rfl,⟨.inl ⟨⟨x.2,fK hxt,J⟩,rfl,rfl⟩,rfl⟩,?_⟩;exact(Z.b [N b4 _ _,N b6 _ _,row 62 3 _ _ _,N b9 _ _]).t4
  have hc0:qu V.rd x.2=0:=dg.1 J;have jQ:=tA (Va.Fy fx) hc0;obtain⟨hsi,hsf,hsr⟩:=NF fx hc0;have CY:=KM (rd:=V.rd) (t:=x.2);refine z5 ?_;refine bg rfl rfl (aD.xM (cs:=dI x.2) ez Z pK rfl rfl) ?_;refine fb (cs:=dI x.2) rfl qN y8 GN dM rfl rfl rfl Z rfl fun w b36 Z=>?_;refine eF (m:=i) (k:=1) (news:=dI x.2) rfl qN y8 Ss GN rfl rfl Z pK (Rd.iq Z pK) rfl (by intro u hu;simp[dI]at hu;rcases hu with rfl|rfl|rfl<;>rfl) mL H rfl (fun w v37 Z=>?_);have hhn:(l.map (·.2)).take (i+1)=((l.map (·.2)).take i)++[x.2]:=bV hxt;have Uk:iZ (((l.map (·.2)).take (i+1)).map Tr.items)=iZ (((l.map (·.2)).take i).map Tr.items)+x.2.items:=by rw[hhn,jX,ey,l9,vw]
  have Uj:iZ (((l.map (·.2)).take (i+1)).map fun t=>fz (dz V.rd t))=iZ (((l.map (·.2)).take i).map fun t=>fz (dz V.rd t))+fz (dz V.rd x.2):=by rw[hhn,jX,ey,l9,vw]
  have acZ:∀t∈(l.map (·.2)).take (i+1),qu V.rd t=0:=fun t ht=>by
   rw[hhn]at ht;rcases eZ.1 ht with ht|ht
   ·exact lr t ht
   simp at ht;subst ht;exact hc0
  have XZ:(((l.map (·.2)).take i).map dI).flatten++dI x.2=(((l.map (·.2)).take (i+1)).map dI).flatten:=by rw[hhn];simp
  rw[XZ]at Z;obtain⟨I0,hI0⟩:∃y,y=iZ (((l.map (·.2)).take i).map Tr.items):=⟨_,rfl⟩;obtain⟨Y0,hY0⟩:∃y,y=iZ (((l.map (·.2)).take i).map fun t=>fz (dz V.rd t)):=⟨_,rfl⟩;rw[<-hI0,<-hY0]at Z
  rw[<-hI0]at VP Uk;rw[<-hY0]at VS Uj
  refine wD 5 (v:=I I0) ag Z ?_;refine z1 ?_;refine cC rfl uY rfl ?_;refine wD 0 (v:=I x.2.items) ag Z ?_;refine wS 2 (l':=[I l.length,I 0,I 0,I 0,I 0,I ((I0+x.2.items)),I Y0,nQ]) ag Z fun w Z=>?_;refine z5 ?_;refine bg rfl rfl (aD.xM (cs:=dI x.2) ez Z pK rfl rfl) ?_;refine wV 0 (v:=gQ WX.cells) ?_;refine aO rfl M8 rfl (PH (t:=x.2) (Z.b [gX vq V]) fx jQ) rfl fun w v49 hv=>?_;obtain⟨s1,s2,sv,ol,rfl,⟨RM,acV⟩,Z⟩:=hv;have air:(ol.length:Int)=x.2.items:=by rw[<-hsf,<-RM,cg]
  have RF:∀k,fz ((dz V.rd x.2).take k)<=3840*k/\0<=fz ((dz V.rd x.2).take k):=fun k=>by
   have Y:=JQ (l:=(dz V.rd x.2).take k) (fun y hy=>(He (Va.Fy fx) y (Xb hy)).2);have J:=ach k (dz V.rd x.2);omega
  have rY:∀y∈ol,dP y.pr.1/\dP y.pr.2:=fun y hy=>by
   have Y:=He (Va.Fy fx) (t:=x.2) y.pr (by rw[<-RM];exact dY.2 ⟨y,hy,rfl⟩);unfold dP;omega
  refine z2 ?_;have e0:Y0=Y0+fz ((dz V.rd x.2).take 0):=by rw[DX,show fz []=0 from rfl,DW]
  have hz:=Z.b [N b6 _ _,N s2 _ _,N s1 _ _,row 66 2 _ _ _,bt (ol.flatMap cO),N b36 _ _,N b9 _ _,row 62 3 _ _ _,N b4 _ _,bt (Ds.map fun D=>fS D),gX vq V];clear Z;rw[e0]at hz;have Z:=hz;clear hz;refine DG (e₀:=[(6,pQ b6)]) (fun k=>N b6 [I l.length,I 0,I 0,I 0,I 0,I ((I0+x.2.items)),I ((Y0+fz ((dz V.rd x.2).take k))),nQ] 40) (fun _=>False) [] rfl H' rfl sG rfl Z (fun k args M h=>by obtain⟨x,a,c,a',c',_,rfl⟩:=h;rfl) (acN acV rY) ?_ ?_ ?_ ?_
  ·clear Z;intro l D1 o k args M w hk rI Z;obtain⟨y,a,c,a',c',hy,rfl⟩:=rI;have hfy:(dz V.rd x.2)[k]?=some y.pr:=by rw[<-RM,dh,hy];rfl
   have yp:=(qj.1 hy).1;have hv1:=RF k;have Ug:=RF (k+1);have XR:fz ((dz V.rd x.2).take (k+1))=fz ((dz V.rd x.2).take k)+y.pr.2.length:=by rw[bV hfy,CR]
   refine z3 ?_;refine⟨_,Z.pick (A:=pt l o) pK,fun o' w Z=>?_⟩;refine wD 3 (v:=I (Y0+fz ((dz V.rd x.2).take k))) ag Z ?_;refine wS 4 (l':=[I _,I 0,I 0,I 0,I 0,I ((I0+x.2.items)),I ((Y0+fz ((dz V.rd x.2).take k)+y.pr.2.length)),nQ]) ag Z fun w Z=>?_;refine aK ?_;rw[XR,<-Int.add_assoc];exact Z
  ·clear Z;intro D1 w Z;have zy:(dz V.rd x.2).take ol.length=dz V.rd x.2:=kH (by rw[<-RM,cg];omega);rw[zy,<-Uk,<-Uj]at Z;have hz:=(Z.b [N s2 _ _,N s1 _ _,row 66 2 _ _ _,bt (ol.flatMap cO),N b36 _ _,N b9 _ _,fS D1,bt (Ds.map fun D=>fS D)]).t6;have hz:=aw.Sy (M:=[fS D1]) (aw.bJ (M:=[fS D1]) hz);have hz:=hz.b [row 62 3 _ _ _,N b6 _ _,N b4 _ _,bt _,gX vq V];clear Z;have Z:=hz;clear hz;refine z4 ?_;exact⟨l.length-(i+1),H,(0,_)::(4,_)::(6,_)::(7,v37)::(21,_)::(22,_)::(23,I (i+1:Nat))::mkE (D1::Ds),(si.mk (by repeat(first|exact gd.nil _|exact vz _ _|refine gd.mark ?_|refine gd.cons rfl ?_)) (by exact rfl)),i+1,D1::Ds,v37,H,rfl,rfl,⟨acZ,by rw[Uk];omega,by rw[Uj];omega⟩,Z⟩
  ·clear Z;intro D w Z;exact(nU Z).elim fun _ h=>h.1.elim
  intro id A hA;cases hA
 have VQ:i=l.length:=H;subst VQ;obtain⟨ts,J'⟩:∃ts,ts=l.map (·.2):=⟨_,rfl⟩;have zy:(l.map (·.2)).take l.length=ts:=by rw[J'];exact kH sM
 have VM:ts.length=l.length:=by rw[J'];simp
 rw[zy]at Z lr VP VS;rw[<-J'];obtain⟨I0,hI0⟩:∃x,x=iZ (ts.map Tr.items):=⟨_,rfl⟩;obtain⟨Y0,hY0⟩:∃x,x=iZ (ts.map fun t=>fz (dz V.rd t)):=⟨_,rfl⟩;rw[<-hI0,<-hY0]at Z
 obtain⟨U,X6,hU2,hU3⟩:=NQ (Va.Fy fx) lr;have yn:∀R,aL (row 62 3 (.slice ta l.length tc) l.length (ts.map dI).flatten::R) (jk 3 (.slice ta l.length tc) (ts.map dI)):=fun R=>(jk.row (by rw[cg,VM]) (fun r hr=>by obtain⟨x,_,rfl⟩:=dY.1 hr;rfl)).head R
 refine z5 ?_;refine aO rfl Im rfl (K8 (ts:=ts) (Z.b [gX vq V]) fx ((yn _).of sF) H (fun t ht=>(NF fx (lr t ht)).2.2) X6 hU2 hU3) rfl fun w v62 hv=>?_;obtain⟨cv,W,A,rfl,MA,Z⟩:=hv;obtain⟨ca,cc,rfl⟩:=aT Z;have hkc:∀R,aL (row 3 1 (.slice ca V.po.c.length cc) V.po.c.length (bf (V9 V.po.c.length A))::R) (oJ (.slice ca V.po.c.length cc) (bf (V9 V.po.c.length A))):=fun R=>by
  have h:=oz (v:= .slice ca V.po.c.length cc) (c:=V9 V.po.c.length A) (R:=R);rw[IS]at h;exact h
 refine YW ?_;refine ar (d:=67) rfl (fun h3=>?_) fun h3=>?_
 ·exact aS rfl h3
 obtain⟨m,hf,Z⟩:=y7 (Z.b [gX vq V]);refine z2 ?_;refine vr rfl rfl ?_;refine wD 1 (v:= .pointer (some ⟨m.q,0,none⟩)) gB Z ?_;refine aO rfl ry rfl (Cs (Z.b [GY m.q V.po]) fx.po) rfl fun w v73 hv=>?_;have Z:aw G (row 3 1 v73 V.po.c.length (bf V.po.c)::_) _:=hv;obtain⟨da,dc,rfl⟩:=aT Z;have hz:=sY hf (Z.b [N vq _ _,dm m.om _,gz m.S,row 284 2 m.av _ _,bt (m.Iu.map QF),GY m.q V.po]);clear Z;have Z:=hz.b [row 3 1 (.slice da _ dc) _ _,row 3 1 (.slice ca _ cc) _ _];clear hz;refine wC rfl vd rfl (vV (l:=V9 V.po.c.length A) (l':=V.po.c) Z ((hkc _).of sF) (oz.of sF) (by rw[IS];omega)) fun w Z=>?_
 refine cU rfl rfl ?_;refine wI 2 (fun h4=>?_) fun h4=>?_
 ·refine wV 2 (v:= .agg #[I 0,I 0,I 0,I 0,I 0,I 0,I 0,nQ]) ?_;refine wN 0 (cs:=vg.cells ⟨jf,nQ⟩) (l':=vg.cells ⟨jf,nQ⟩) aJ (by intro u hu;simp[vg.cells]at hu;rcases hu with rfl|rfl|rfl|rfl|rfl|rfl|rfl|rfl<;>rfl) Z (fun w Z=>?_);refine z3 ?_;refine cV (FI Ds) ?_;refine Bg Z pK fun w Z=>?_;refine JR rfl ⟨_,rfl,(aD.dB (l:=vg.cells ⟨jf,nQ⟩) aJ Z pK rfl)⟩ rfl ⟨jf,18,rfl,⟨.inr ⟨lr,W,A,MA, .inr ⟨fun hcf=>h4 (Ov.2 hcf),rfl,rfl⟩⟩,rfl⟩,?_⟩;exact(Z.b [N b4 _ _,row 3 1 (.slice da _ dc) _ _,row 3 1 (.slice ca _ cc) _ _,row 62 3 _ _ _,N b6 _ _]).t5
 have hcf:L7 V.po.c A:=Ov.1 (dg.1 h4);have hAW:∀n,n∈A↔n∈W:=fun n=>⟨MA.sub n,MA.VH n⟩
 have hWU:∀n∈W,n∈U:=MA.min (·∈U) X6 hU3;refine z9 ?_;have hz:=Z.b [row 3 1 (.slice ca _ cc) _ _,N b6 _ _,N b4 _ _,bt (Ds.map fun D=>fS D),row 3 1 (.slice da _ dc) _ _,row 62 3 _ _ _,gX vq V];clear Z;have Z:=hz;clear hz;refine bx (fun m e w=>∃(k:Nat),k<=V.po.c.length/\m=V.po.c.length-k/\e=(0,pQ vq)::(4,pQ b4)::(6,pQ b6)::(78, .slice ca V.po.c.length cc)::(79,I V.po.c.length)::(80,I k)::mkE Ds/\aw G (row 3 1 (.slice ca V.po.c.length cc) V.po.c.length (bf (V9 V.po.c.length A))::N b6 [I l.length,I (((ni A k).length:Int)),I (fW V.rd 1 (ni A k)),I (fW V.rd 2 (ni A k)),I (lV V.rd (ni A k)),I I0,I Y0,nQ] 40::N b4 (vg.cells ⟨jf,nQ⟩) 40::bt (Ds.map fun D=>fS D)::row 3 1 (.slice da V.po.c.length dc) V.po.c.length (bf V.po.c)::row 62 3 (.slice ta l.length tc) l.length (ts.map dI).flatten::gX vq V::L) w)
  (m:=V.po.c.length) (si.mk (by repeat(first|exact gd.nil _|exact vz _ _|refine gd.mark ?_|refine gd.cons rfl ?_)) (by exact rfl))
  ⟨0,de _,rfl,rfl,Z⟩ ?_
 rintro m e w ⟨k,hk,rfl,rfl,Z⟩;have hwl:=abV A k;have IN:=IT V.rd 1 (ni A k);have RP:=IT V.rd 2 (ni A k);have SY:=Wa V.rd (ni A k);refine wI 5 (fun h5=>?_) fun h5=>?_
 ·have yp:k<V.po.c.length:=H;have hcg:(bf (V9 V.po.c.length A))[k]?=some (I ((A.count ((k:Int)+1):Nat):Int)):=by rw[bf,dh,PC yp];rfl
  obtain⟨cb,co,HG⟩:=(((hkc _).of sF).at Z).nn (by rw[bC,IS];omega);cases HG;refine wY 6 aY bF ?_;refine bg rfl rfl (aD.one (v:=I ((A.count ((k:Int)+1):Nat):Int)) ag ((((hkc _).of sF).at Z).at (by rw[cZ];exact hcg))) ?_;refine wI 9 (fun h6=>?_) fun h6=>?_
  ·have hni:(k:Int)+1∉A:=fun hm=>by have:=List.count_pos_iff.2 hm;omega
   have RD:ni A (k+1)=ni A k:=by rw[QD,aj hni,kF]
   refine z5 ?_
   (try unfold sQ at Z);rw[<-RD]at Z
   exact⟨V.po.c.length-(k+1),H,(0,_)::(4,_)::(6,_)::(78,_)::(79,_)::(80,I (k+1:Nat))::mkE Ds,(si.mk (by repeat(first|exact gd.nil _|exact vz _ _|refine gd.mark ?_|refine gd.cons rfl ?_)) (by exact rfl)),k+1,H,rfl,rfl,Z⟩
  have Ha:(k:Int)+1∈A:=Classical.byContradiction fun hm=>by have:=acr hm;omega
  obtain⟨p,sA⟩:∃p,V.rd ((k:Int)+1)=some p:=ZT.1 (hU2 _ (hWU _ ((hAW _).1 Ha)));have RD:ni A (k+1)=ni A k++[(k:Int)+1]:=by rw[QD,aB Ha]
  have hko:mw V.rd ((k:Int)+1)=p.kind:=by unfold mw;rw[sA]
  refine z6 ?_;refine aO rfl fk rfl (mB (n:=(k:Int)+1) (Z.b [gX vq V]) fx) rfl fun w v91 hv=>?_;obtain⟨p',er,A',rfl,nq,kB,Z⟩:=hv;obtain⟨HB,rfl,rfl,oR⟩:=kB.resolve_left (fun h=>by rw[h.1]at sA;cases sA);refine wL 3 bW Z fun w Ir Z=>?_;refine wN 0 (cs:=p'.cells) (l':=p'.cells) ay nq Z fun w Z=>?_;rw[sA]at HB;obtain rfl:p=p'.pg:=Option.some.inj HB;have hko:mw V.rd ((k:Int)+1)=p'.kind:=hko;refine wI 8 (fun h7=>?_) fun h7=>?_
  ·exact aS rfl h7
  refine wD 4 (v:=I ((ni A k).length:Int)) ag Z ?_;refine wS 2 (l':=[I l.length,I (((ni A k).length:Int)+1),I (fW V.rd 1 (ni A k)),I (fW V.rd 2 (ni A k)),I (lV V.rd (ni A k)),I I0,I Y0,nQ]) ag Z fun w Z=>?_;refine wD 4 (v:=I p'.kind) ag Z ?_;refine wI 7 (fun h8=>?_) fun h8=>?_
  ·refine wD 2 (v:=I (fW V.rd 1 (ni A k))) ag Z ?_;refine wS 2 (l':=[I l.length,I (((ni A k).length:Int)+1),I (fW V.rd 1 (ni A k)+1),I (fW V.rd 2 (ni A k)),I (lV V.rd (ni A k)),I I0,I Y0,nQ]) ag Z fun w Z=>?_;refine z5 ?_;have e0:(((ni A (k+1)).length:Nat):Int)=((ni A k).length:Int)+1:=by rw[RD,di];rfl
   have e1:fW V.rd 1 (ni A (k+1))=fW V.rd 1 (ni A k)+1:=by rw[RD,jv,hko,aB h8]
   have e2:fW V.rd 2 (ni A (k+1))=fW V.rd 2 (ni A k):=by rw[RD,jv,hko,aj H,DW]
   have e3:lV V.rd (ni A (k+1))=lV V.rd (ni A k):=by rw[RD,sT,hko,aj H,DW]
   rw[<-e0,<-e1,<-e2,<-e3]at Z;exact⟨V.po.c.length-(k+1),H,(0,_)::(4,_)::(6,_)::(78,_)::(79,_)::(80,I (k+1:Nat))::mkE Ds,(si.mk (by repeat(first|exact gd.nil _|exact vz _ _|refine gd.mark ?_|refine gd.cons rfl ?_)) (by exact rfl)),k+1,H,rfl,rfl,(Z.b [N Ir _ _,fg p',row 3 1 (.slice (some ⟨cb,co,none⟩) _ cc) _ _,N b6 _ _,N b4 _ _,bt _,row 3 1 (.slice da _ dc) _ _,row 62 3 _ _ _,gX vq V]).t2⟩
  refine wI 5 (fun h9=>?_) fun h9=>?_
  ·refine wD 2 (v:=I (fW V.rd 2 (ni A k))) ag Z ?_;refine wS 2 (l':=[I l.length,I (((ni A k).length:Int)+1),I (fW V.rd 1 (ni A k)),I (fW V.rd 2 (ni A k)+1),I (lV V.rd (ni A k)),I I0,I Y0,nQ]) ag Z fun w Z=>?_;refine z5 ?_;have e0:(((ni A (k+1)).length:Nat):Int)=((ni A k).length:Int)+1:=by rw[RD,di];rfl
   have e1:fW V.rd 1 (ni A (k+1))=fW V.rd 1 (ni A k):=by rw[RD,jv,hko,aj h8,DW]
   have e2:fW V.rd 2 (ni A (k+1))=fW V.rd 2 (ni A k)+1:=by rw[RD,jv,hko,aB h9]
   have e3:lV V.rd (ni A (k+1))=lV V.rd (ni A k):=by rw[RD,sT,hko,aj H,DW]
   rw[<-e0,<-e1,<-e2,<-e3]at Z;exact⟨V.po.c.length-(k+1),H,(0,_)::(4,_)::(6,_)::(78,_)::(79,_)::(80,I (k+1:Nat))::mkE Ds,(si.mk (by repeat(first|exact gd.nil _|exact vz _ _|refine gd.mark ?_|refine gd.cons rfl ?_)) (by exact rfl)),k+1,H,rfl,rfl,(Z.b [N Ir _ _,fg p',row 3 1 (.slice (some ⟨cb,co,none⟩) _ cc) _ _,N b6 _ _,N b4 _ _,bt _,row 3 1 (.slice da _ dc) _ _,row 62 3 _ _ _,gX vq V]).t2⟩
  refine wD 2 (v:=I (lV V.rd (ni A k))) ag Z ?_;refine wS 2 (l':=[I l.length,I (((ni A k).length:Int)+1),I (fW V.rd 1 (ni A k)),I (fW V.rd 2 (ni A k)),I (lV V.rd (ni A k)+1),I I0,I Y0,nQ]) ag Z fun w Z=>?_;refine z5 ?_;have e0:(((ni A (k+1)).length:Nat):Int)=((ni A k).length:Int)+1:=by rw[RD,di];rfl
  have e1:fW V.rd 1 (ni A (k+1))=fW V.rd 1 (ni A k):=by rw[RD,jv,hko,aj h8,DW]
  have e2:fW V.rd 2 (ni A (k+1))=fW V.rd 2 (ni A k):=by rw[RD,jv,hko,aj h9,DW]
  have e3:lV V.rd (ni A (k+1))=lV V.rd (ni A k)+1:=by rw[RD,sT,hko,aB ⟨h8,h9⟩]
  rw[<-e0,<-e1,<-e2,<-e3]at Z;exact⟨V.po.c.length-(k+1),H,(0,_)::(4,_)::(6,_)::(78,_)::(79,_)::(80,I (k+1:Nat))::mkE Ds,(si.mk (by repeat(first|exact gd.nil _|exact vz _ _|refine gd.mark ?_|refine gd.cons rfl ?_)) (by exact rfl)),k+1,H,rfl,rfl,(Z.b [N Ir _ _,fg p',row 3 1 (.slice (some ⟨cb,co,none⟩) _ cc) _ _,N b6 _ _,N b4 _ _,bt _,row 3 1 (.slice da _ dc) _ _,row 62 3 _ _ _,gX vq V]).t2⟩
 have oY:k=V.po.c.length:=H;subst oY;have Pt:W.Perm (ni A V.po.c.length):=(List.perm_ext_iff_of_nodup MA.nd (WJ A _)).2 fun n=>by
  rw[abU,hAW];exact⟨fun h=>⟨h,Va.Vm (hU2 n (hWU n h))⟩,fun h=>h.1⟩
 have hrp:[I l.length,I (((ni A V.po.c.length).length:Int)),I (fW V.rd 1 (ni A V.po.c.length)),I (fW V.rd 2 (ni A V.po.c.length)),I (lV V.rd (ni A V.po.c.length)),I I0,I Y0,nQ]=vg.cells ⟨Fx V.rd ts ts W,nQ⟩:=by
  rw[Vj Pt];simp only[Fx,vg.cells,<-hI0,<-hY0,VM]
 rw[hrp]at Z;refine wA 3 (l:=vg.cells ⟨Fx V.rd ts ts W,nQ⟩) aJ Z ?_;refine wN 0 (cs:=vg.cells ⟨Fx V.rd ts ts W,nQ⟩) (l':=vg.cells ⟨Fx V.rd ts ts W,nQ⟩) aJ (by intro u hu;simp[vg.cells]at hu;rcases hu with rfl|rfl|rfl|rfl|rfl|rfl|rfl|rfl<;>rfl) Z (fun w Z=>?_);refine z3 ?_;refine cV (FI Ds) ?_;refine Bg Z pK fun w Z=>?_;refine JR rfl ⟨_,rfl,(aD.dB (l:=vg.cells ⟨Fx V.rd ts ts W,nQ⟩) aJ Z pK rfl)⟩ rfl ⟨Fx V.rd ts ts W,0,rfl,⟨.inr ⟨lr,W,A,MA, .inl ⟨hcf,rfl,rfl⟩⟩,rfl⟩,?_⟩;exact(Z.b [row 3 1 (.slice ca _ cc) _ _,N b6 _ _,N b4 _ _,row 3 1 (.slice da _ dc) _ _,row 62 3 _ _ _]).t5
def EtK(w:ae):Prop:=w.cell? ⟨1,0,none⟩=some (.iface 323 (.agg #[.pointer (some ⟨3,143,none⟩)]))
def aw.Is{g:Gh}(h:aw g L w)(o:Obj):aw g L (w.alloc o):=(h.push o).tail
def QL{b:Nat}(h:w.heap[b]?=some (.cells #[u] T (0,0))):w.setCell ⟨b,0,none⟩ v={w with heap:=w.heap.setIfInBounds b (.cells #[v] T (0,0))}:=by
 unfold World.setCell
 congr 1
 apply ZH;intro j;rw[ZR,Array.getElem?_setIfInBounds]
 by_cases hj:b=j
 ·subst hj;have fR:b<w.heap.size:=(mV.1 h).1;simp only[if_true,fR];rw[h];rfl
 rw[aj hj,aj hj]
def aw.Tq{g:Gh}{b:Nat}(h:aw g (N b [u] T::L) w)(v:C):aw g (N b [v] T::L) (w.setCell ⟨b,0,none⟩ v):=by
 rw[QL h.eh];exact h.set _
def Ra{b:Nat}(h:aw G (N b [u] T::L) w):w.cell? ⟨b,0,none⟩=some u/\w.frozen? ⟨b,0,none⟩=false:=by
 have hp:w.heap[b]?=some (.cells #[u] T (0,0)):=h.eh;refine⟨Rd.iq h .here 0 u rfl,?_⟩;unfold World.frozen?;simp[hp]
def UO{qV ev:C}(Z:aw G (N t [qV] T::A::L) w)(hA:U6 ev A)(ke:aL L EtK):aA prog 63 #[ev, .iface 251 (pQ t)] w (bU fun r w'=>r= .bool true/\∃er:Int,er≠17/\aw G (N t [I er] T::A::L) w'):=by
 obtain⟨Y,J⟩:=Ra Z;have h3:EtK w:=ke.at Z.tail.tail;rcases hA with⟨f,at_,er,rfl,UD,rfl⟩|⟨er,rfl,UD,rfl⟩
 ·have hf:w.cell? ⟨f,1,none⟩=some (.iface 41 (I er)):=Rd.iq Z.tail .here 1 _ rfl;refine Calls.mono (ahB ⟨t,0,none⟩ qV er w f hf h3 Y J) fun e w' hh=>?_
  obtain⟨rfl,rfl⟩:=hh;exact⟨_,rfl,rfl,er,UD,((((Z.Is _).Is _).Is _).Is _).Tq _⟩
 refine Calls.mono (ajm ⟨t,0,none⟩ qV er w h3 Y J) fun e w' hh=>?_
 obtain⟨rfl,rfl⟩:=hh;exact⟨_,rfl,rfl,er,UD,((((Z.Is _).Is _).Is _).Is _).Tq _⟩
def Se{f:Nat}{qV:C}{A:aF}(Z:aw G (N t [qV] T::L) w)(ke:aL L EtK):aA prog 63 #[.iface 148 (pQ f), .iface 150 (pQ t)] w (bU fun r w'=>r= .bool true/\aw G (N t [pQ f] T::L) w'):=by
 obtain⟨Y,J⟩:=Ra Z;have h3:EtK w:=ke.at Z.tail;refine Calls.mono (ajl ⟨t,0,none⟩ qV ⟨f,0,none⟩ w h3 Y J) fun e w' hh=>?_
 obtain⟨rfl,rfl⟩:=hh;exact⟨_,rfl,rfl,((((Z.Is _).Is _).Is _).Is _).Tq _⟩
def P0{ev:C}(Z:aw G (A::L) w)(hA:U6 ev A)(ke:aL L EtK):aA prog 61 #[ev] w (bU fun r w'=>r=I 18/\aw G L w'):=by
 refine wF [_] func61 ntmps61 ?_;refine wL 6 yV Z fun w b3 Z=>?_;refine z5 ?_;refine uf rfl underlying251 sM rfl ?_;refine aO rfl CB rfl (UO Z hA ke) rfl fun w v6 hv=>?_;obtain⟨rfl,er,UD,Z⟩:=hv;refine wD 1 (v:=I er) bP Z ?_;refine wI 3 (fun J=>?_) fun J=>?_
 ·exact aS J UD
 refine dk 6 ?_;exact⟨rfl,Z.tail.tail⟩
def u9(Z:aw G (eD dp D::L) w)(kr:aL L (jk 4 rv (s.roots.map cA)))(hn:s.roots.length<=1000)(ho:D.on=true):
  aA prog 58 #[pQ dp,gQ (eH s rv)] w (bU fun r w'=>(cp s≠0/\r= .tuple #[.pointer none,I (cp s)]/\aw G (eD dp D::L) w')∨
   (cp s=0/\∃q,r= .tuple #[pQ q,I 0]/\aw G (zp q dp s rv::eD dp D::L) w')):=by
 refine wF [_,_] func58 ntmps58 ?_;refine wB 2 Z fun w b3 Z=>?_;refine wA 6 (l:=eH s rv) br Z ?_;refine wC rfl x5 rfl (zP (s:=s) Z (kr.of sF) hn) fun w Z=>?_
 refine wI 7 (fun Y=>?_) fun Y=>?_
 ·refine ui 7 ?_;exact .inl ⟨Y,rfl,Z.tail⟩
 refine z5 ?_;refine wC rfl tJ rfl (uG (Z.b [eD dp D])) fun w Z=>?_
 rw[ho];refine nh rfl rfl ?_;refine aK ?_;refine fJ rfl (fun J=>?_) fun J=>?_
 ·cases J
 have hs0:cp s=0:=dg.1 Y;refine z4 ?_;refine bg rfl rfl (aD.xM (cs:=M6 s.cf) fo Z pK rfl rfl) ?_;refine aO rfl Ak rfl (Cl (c:=s.cf) Z) rfl fun w v20 hv=>?_;obtain⟨hpp,Z⟩:=hv;obtain⟨-,rfl⟩:=hpp.resolve_left (fun h=>h.1 (iS hs0).1);refine wL 3 ot Z fun w b7 Z=>?_;refine wN 0 (cs:=jI (bd s.cf)) (l':=jI (bd s.cf)) bE (by intro u hu;simp[jI]at hu;rcases hu with rfl|rfl|rfl<;>rfl) Z (fun w Z=>?_);refine wA 5 (l:=eH s rv) br Z ?_;refine wA 0 (l:=jI (bd s.cf)) bE Z ?_;refine wV 0 (v:=gQ (mj dp s rv)) ?_;refine wB 0 Z fun w b27 Z=>?_;refine ui 5 ?_;exact .inr ⟨hs0,b27,rfl,CQ (Z.b [N b7 _ _,N b3 _ _,N b27 _ _,eD dp D]).t2⟩
def CH{rd:Int->Option Pg}{ts:List Tr}{rp:Rp}(h:ve rd c ts rp er):er=0\/er=18:=by
 rcases h with⟨-,-,h⟩|⟨-,W,A,-,⟨-,-,h⟩|⟨-,-,h⟩⟩
 ·exact .inr h
 ·exact .inl h
 exact .inr h
def Dr{r:C}(h:(cp s≠0/\r= .tuple #[.pointer none,I (cp s)]/\aw G (eD dp D::L) w)∨
    (cp s=0/\∃q,r= .tuple #[pQ q,I 0]/\aw G (zp q dp s rv::eD dp D::L) w)):
  ∃(er:Int) (lp:Option Addr) (A:aF),r= .tuple #[.pointer lp,I er]/\cp s=er/\(er=0->∃q,lp=some ⟨q,0,none⟩/\A=N q (mj dp s rv) 157)/\aw G (A::eD dp D::L) w:=by
 rcases h with⟨Y,J,h3⟩|⟨Y,q,J,h3⟩
 ·exact⟨_,_,bt [],J,rfl,fun h=>aS h Y,aw.bJ (M:=[]) h3⟩
 exact⟨0,_,_,J,Y,fun _=>⟨q,rfl,rfl⟩,h3⟩
def Xu{r:C}(h:(∃c l vq,uu s D.bY=some (c,l)/\yj s.cf.refs c l/\r= .tuple #[pQ vq, .nilIface]/\aw G (gX vq (kK s.cf.refs c l)::zp q dp s rv::eD dp D::L) w)∨
   (∃ev A,(∀c l,uu s D.bY=some (c,l)->¬yj s.cf.refs c l)/\r= .tuple #[.pointer none,ev]/\U6 ev A/\aw G (A::zp q dp s rv::eD dp D::L) w)):
  ∃(ev:C) (b:Bool) (pp:Option Addr) (A:aF),r= .tuple #[.pointer pp,ev]/\((ev= .nilIface/\b=false)\/(∃T z,ev= .iface T z)/\b=true)/\(b=false->∃c l vq,uu s D.bY=some (c,l)/\yj s.cf.refs c l/\pp=some ⟨vq,0,none⟩/\A=gX vq (kK s.cf.refs c l))∧
   (b=true->(∀c l,uu s D.bY=some (c,l)->¬yj s.cf.refs c l)/\U6 ev A)/\aw G (A::N q (mj dp s rv) 157::eD dp D::L) w:=by
 rcases h with⟨c,l,vq,Y,J,h3,h4⟩|⟨ev,A,Y,J,h3,h4⟩
 ·exact⟨_,false,_,_,h3, .inl ⟨rfl,rfl⟩,fun _=>⟨c,l,vq,Y,J,rfl,rfl⟩,(fun h=>by cases h),h4⟩
 exact⟨ev,true,_,A,J, .inr ⟨by rcases h3 with⟨_,_,_,h,_⟩|⟨_,h,_⟩<;>exact⟨_,_,h⟩,rfl⟩,(fun h=>by cases h),fun _=>⟨Y,h3⟩,h4⟩
def cY(rp:Rp):List C:=vg.cells ⟨rp,nQ⟩
def fD(rp:Rp):lK (cY rp):=fun u hu=>by simp[cY,vg.cells]at hu;rcases hu with rfl|rfl|rfl|rfl|rfl|rfl|rfl|rfl<;>rfl
def P1(Z:aw G (eD dp D::L) w)(fx:D.Ok)(kr:aL L (jk 4 rv (s.roots.map cA)))(hn:s.roots.length<=1000)(ho:D.on=true)(ke:aL L EtK)(YE:aL L EvK):
  aA prog 22 #[pQ dp,gQ (eH s rv)] w (bU fun r w'=>
   (∃er,er≠0/\r= .tuple #[.pointer none,gQ (cY jf),I er]/\(er=if cp s≠0 then cp s else 18)/\((cp s=0/\(D.gS.length:Int)=s.cf.blocks)->er=18/\∀c l rp,¬uM s D.bY c l rp)/\aw G (eD dp D::L) w')∨
   (∃c l vq rp,uM s D.bY c l rp/\rp.bad=[]/\(D.gS.length:Int)=s.cf.blocks/\r= .tuple #[pQ vq,gQ (cY rp),I 0]/\aw G (gX vq (kK s.cf.refs c l)::eD dp D::L) w')):=by
 refine wF [_,_] func22 ntmps22 ?_;refine wB 2 Z fun w b3 Z=>?_;refine wL 1 fN Z fun w b5 Z=>?_;refine wA 5 (l:=eH s rv) br Z ?_;refine aO rfl mJ rfl (u9 (s:=s) (Z.b [eD dp D]) (kr.of sF) hn ho) rfl fun w v15 hv=>?_;obtain⟨er,lp,A,rfl,hse,hA,Z⟩:=Dr hv;refine wI 12 (fun Y=>?_) fun Y=>?_
 ·refine wV 2 (v:=gQ (cY jf)) ?_;refine wN 2 (cs:=cY jf) (l':=cY jf) aJ (fD _) Z fun w Z=>?_;refine z3 ?_;exact pH rfl rfl rfl ⟨_,rfl,(aD.dB (l:=cY jf) aJ Z pK rfl)⟩ rfl (.inl ⟨er,Y,rfl,by rw[aB (by rw[hse];exact Y)];exact hse.symm,fun h=>aS (hse▸h.1) Y,(Z.b [N b3 _ _,N b5 _ _,A,eD dp D]).t3⟩)
 have Y:=dg.1 Y;obtain⟨q,rfl,rfl⟩:=hA Y;subst Y;refine z3 ?_;refine wQ [0,1,2,3,4,5] Z fun Z=>?_
 refine z1 ?_;refine cC rfl ju rfl ?_;refine wD 0 (v:=I s.cf.blocks) ag Z ?_;refine z1 ?_;refine ed rfl mM rfl (nz (Z.b [eD dp D])) (fun w v26 hv q' hq=>?_) fun w v26 hv=>?_
 ·obtain⟨rfl,Z⟩:=hv;have hq:=bK (l:=[2]) kR hq;simp only[cE,fQ,or_false]at hq;subst hq;exact bG rfl rfl rfl (aD.cw (v:=I s.cf.blocks) ag Z pK rfl)
 obtain⟨rfl,Z⟩:=hv;refine wI 2 (fun J=>?_) fun J=>?_
 ·refine wV 2 (v:=gQ (cY jf)) ?_;refine wN 1 (cs:=cY jf) (l':=cY jf) aJ (fD _) Z fun w Z=>?_;refine z3 ?_;exact pH rfl rfl rfl ⟨_,rfl,(aD.dB (l:=cY jf) aJ Z pK rfl)⟩ rfl (.inl ⟨18,by decide,rfl,by rw[aj H],fun h=>aS h.2.symm J,(Z.b [N b3 _ _,N b5 _ _,N q _ _,eD dp D]).t3⟩)
 have tW:(D.gS.length:Int)=s.cf.blocks:=(dg.1 J).symm;have hb:=CQ (Z.b [N q _ _,eD dp D]);refine z4 ?_;refine aO rfl Dl rfl (ED hb fx ⟨hse,ho,tW⟩) rfl fun w v31 hv=>?_;obtain⟨ev,b,pp,A,rfl,hnb,Kg,Hc,Z⟩:=Xu hv;obtain⟨ms,hI⟩:=sR;refine B' ?_;refine Fi rfl hI rfl hnb ?_;refine aK ?_;refine fJ rfl (fun h3=>?_) fun h3=>?_
 ·obtain⟨tU,hE⟩:=Hc h3;refine wV 2 (v:=gQ (cY jf)) ?_;refine z1 ?_;refine wC rfl No rfl (P0 Z hE ((ke.cons _).cons _|>.of sF)) fun w Z=>?_
  refine wN 1 (cs:=cY jf) (l':=cY jf) aJ (fD _) Z fun w Z=>?_;refine z3 ?_;exact pH rfl rfl rfl ⟨_,rfl,(aD.dB (l:=cY jf) aJ Z pK rfl)⟩ rfl (.inl ⟨18,by decide,rfl,by rw[aj H],fun h=>⟨rfl,fun c l rp hF=>tU c l hF.load hF.ok⟩,(Z.b [N b3 _ _,N b5 _ _,N q _ _,eD dp D]).t3⟩)
 obtain⟨c,l,vq,rJ,Us,rfl,rfl⟩:=Kg h3;refine wD 5 (v:=rv) bD Z ?_;refine aO rfl LD rfl (M4 (l:=s.roots) Z (N3 Us) (kr.of sF) hn (YE.of sF)) rfl fun w v43 hv=>?_;obtain⟨rp,er,rfl,⟨hW,aa3⟩,Z⟩:=hv;refine wL 3 fN Z fun w wo Z=>?_;refine wN 0 (cs:=cY rp) (l':=cY rp) aJ (fD _) Z fun w Z=>?_;refine wI 8 (fun h4=>?_) fun h4=>?_
 ·refine wV 2 (v:=gQ (cY jf)) ?_;refine wN 2 (cs:=cY jf) (l':=cY jf) aJ (fD _) Z fun w Z=>?_;refine z3 ?_;exact pH rfl rfl rfl ⟨_,rfl,(aD.dB (l:=cY jf) aJ Z pK rfl)⟩ rfl (.inl ⟨er,h4,rfl,by rw[aj H];exact(CH hW).resolve_left h4,fun h=>⟨(CH hW).resolve_left h4,fun c' l' rp' hF=>by
      have h9:=hF.load;rw[rJ]at h9;cases h9;exact h4 (ve.one hW hF.whole).2⟩,(Z.b [N b3 _ _,N b5 _ _,N wo _ _,gX vq _,N q _ _,eD dp D]).t5⟩)
 have h4:=dg.1 h4;subst h4;refine z2 ?_;refine wQ [0,1,2,3,4] Z fun Z=>?_
 refine wA 1 (l:=cY rp) aJ Z ?_;refine wN 1 (cs:=cY rp) (l':=cY rp) aJ (fD _) Z fun w Z=>?_;refine z3 ?_;exact pH rfl rfl rfl ⟨_,rfl,(aD.dB (l:=cY rp) aJ Z pK rfl)⟩ rfl (.inr ⟨c,l,vq,rp,⟨hse,rJ,Us,hW⟩,aa3,tW,rfl,(Z.b [N b3 _ _,N b5 _ _,N wo _ _,N q _ _,gX vq _,eD dp D]).t4⟩)
def Xk{r:C}(h:(∃p:dL,jy s D.bY n=some p.pg/\r= .tuple #[gQ p.cells, .nilIface]/\p.Sm/\aw G (fg p::zp q dp s rv::eD dp D::L) w)∨
   (∃f er,jy s D.bY n=none/\r= .tuple #[gQ gi.cells, .iface 148 (pQ f)]/\er≠17/\aw G (S7 f (SC s n) er::zp q dp s rv::eD dp D::L) w)):
  ∃(p:dL) (ev:C) (b:Bool) (A:aF),r= .tuple #[gQ p.cells,ev]/\lK p.cells/\((ev= .nilIface/\b=false)\/(∃T z,ev= .iface T z)/\b=true)/\(b=false->jy s D.bY n=some p.pg/\p.Sm/\A=fg p)∧
   (b=true->jy s D.bY n=none/\∃f er,ev= .iface 148 (pQ f)/\er≠17/\A=S7 f (SC s n) er)/\aw G (A::N q (mj dp s rv) 157::eD dp D::L) w:=by
 rcases h with⟨p,Y,rfl,h3,J⟩|⟨f,er,Y,rfl,h3,J⟩
 ·exact⟨p,_,false,_,rfl,jz (cL h3 .here) J, .inl ⟨rfl,rfl⟩,fun _=>⟨Y,h3,rfl⟩,(fun h=>by cases h),J⟩
 exact⟨gi,_,true,_,rfl,fj, .inr ⟨⟨_,_,rfl⟩,rfl⟩,(fun h=>by cases h),fun _=>⟨Y,f,er,rfl,h3,rfl⟩,J⟩
def JE{n:Int}(h:jy s Bk n=some p):dv p=0:=by
 unfold jy at h;split at h
 ·cases hd:oF n (Bk ((bd s.cf).first+n-1).toNat)with
  |none=>rw[hd]at h;cases h
  |some x=>
   obtain⟨p',g⟩:=x;rw[hd]at h;simp only at h
   split at h
   ·cases h;exact(abi hd).1
   cases h
 cases h
def Br(l:List CK):List C:=(l.map j6).flatten
def Ac(l:List CK)(c:CK):Br l++j6 c=Br (l++[c]):=by simp[Br]
def EE(Z:aw G (zp q dp s rv::eD dp D::L) w)(fx:D.Ok)(hL:Lk s D)(hn:1<=n/\(n:Int)<=(bd s.cf).pages)(IL:-1<=lev/\lev<=1000):
  aA prog 65 #[pQ q,Cv ((n:Int),lev)] w (bU fun r w'=>
   (∃l v,vn s D.bY ((n:Int),lev)=some l/\l.length<=8/\r= .tuple #[v, .nilIface]/\aw G (row 163 2 v l.length (Br l)::zp q dp s rv::eD dp D::L) w')∨
   (∃f er,vn s D.bY ((n:Int),lev)=none/\r= .tuple #[nQ, .iface 148 (pQ f)]/\er≠17/\aw G (S7 f (SC s n) er::zp q dp s rv::eD dp D::L) w')):=by
 obtain⟨pn,bn,fn,hp,xV,YO,tW,XZ,CY⟩:=hL.Xf;have BD:(bd s.cf).pages=(pn:Int):=by rw[hp]
 have SW:(bd s.cf).first=(fn:Int):=by rw[hp]
 have hlen:=hL.len;have VT:s.cf.blocks<=65536:=(iS hL.sup).1.1.2;obtain⟨at_,my⟩:∃at_:Nat,SC s n=at_:=⟨(SC s n).toNat,by unfold SC;omega⟩;have X5:at_<=65536:=by unfold SC at my;omega
 obtain⟨ms,hI⟩:=sR;refine wF [_,_] func65 ntmps65 ?_;refine wB 2 Z fun w b3 Z=>?_;refine wD 7 (v:=I n) ag Z ?_;have hb:=Z.b [zp _ _ _ _,eD dp D];refine aO rfl tI rfl (uF (n:=n) hb fx hL hn) rfl fun w Zg hv=>?_;obtain⟨p,ev,b,A,rfl,nq,hnb,Kg,Hc,Z⟩:=Xk hv;refine wL 3 bW Z fun w b6 Z=>?_;refine wN 0 (cs:=p.cells) (l':=p.cells) ay nq Z fun w Z=>?_;refine z6 ?_;refine Fi rfl hI rfl hnb ?_;refine aK ?_;refine fJ rfl (fun Y=>?_) fun Y=>?_
 ·refine z7 ?_;exact ga rfl rfl rfl rfl (by
 obtain⟨J,f,er,rfl,UD,rfl⟩:=Hc Y;refine .inr ⟨f,er,by unfold vn;rw[J],rfl,UD,?_⟩;exact(Z.b [N b6 _ _,N b3 _ _,S7 f _ _,N q _ _,eD dp D]).t2)
 obtain⟨Up,rY,rfl⟩:=Kg Y;refine z2 ?_;refine wQ [0,1,2,3,4,5,6,7,8,9,10,11] Z fun Z=>?_
 refine z3 ?_;refine bg rfl rfl (aD.xM (cs:=jI (bd s.cf)) bE Z pK rfl rfl) ?_;refine wD 1 (v:=I n) ag Z ?_;refine aO rfl x6 rfl (zQ (p:=bd s.cf) (n:=n) Z H) kR fun w v32 hv=>?_;obtain⟨h0,Z⟩:=hv;obtain⟨-,rfl⟩:=h0.resolve_left (fun h=>h.1 ⟨H,hn.2⟩);rw[show(bd s.cf).first+(n:Int)-1=at_ from my];refine B' ?_;refine qg (fun e w=>e=[(0,pQ q),(3,pQ b3),(6,pQ b6),(8,I at_),(10,I (kz lev))]/\aw G (N b6 p.cells 104::fg p::N b3 (j6 ((n:Int),lev)) 163::N q (mj dp s rv) 157::eD dp D::L) w) ?_ ?_
 ·refine wD 3 (v:=I lev) ag Z ?_;refine wI 7 (fun J=>?_) fun J=>?_
  ·refine z3 ?_;exact⟨[(0,_),(3,_),(6,_),(8,_),(10,_)],sB,by unfold kz;simp[J],Z.b [N b6 _ _,fg p,N b3 _ _,N q _ _,eD dp D]⟩
  refine wI 5 (fun h3=>?_) fun h3=>?_
  ·refine z3 ?_;exact⟨[(0,_),(3,_),(6,_),(8,_),(10,_)],sB,by unfold kz;simp[J,h3],Z.b [N b6 _ _,fg p,N b3 _ _,N q _ _,eD dp D]⟩
  refine jo ?_;exact⟨[(0,_),(3,_),(6,_),(8,_),(10,_)],sB,by unfold kz;simp[J,h3],Z.b [N b6 _ _,fg p,N b3 _ _,N q _ _,eD dp D]⟩
 clear Z;rintro e w ⟨rfl,Z⟩;have gC:vn s D.bY ((n:Int),lev)=if p.kind≠kz lev\/(kz lev=2/\p.level≠lev)then none else if∃k∈cu p.pg,(bd s.cf).pages<k then none else some ((cu p.pg).map fun k=>(k,if kz lev=2 then lev-1 else-1)):=by
  unfold vn;rw[Up];rfl
 refine wD 4 (v:=I p.kind) ag Z ?_;refine z3 ?_;refine bw (l1:=[5,6,7,8,9,10,11,12,13,14]) (l2:=[]) rfl (d:=55) (p.kind≠kz lev\/(kz lev=2/\p.level≠lev)) rfl ?_ ?_
 ·refine ar (d:=45) rfl (fun h4=>?_) fun h4=>?_
  ·exact wq 11
  refine z3 ?_;refine ar (d:=48) rfl (fun h5=>?_) fun h5=>?_
  ·refine wD 1 (v:=I p.level) ag Z ?_;refine wD 1 (v:=I lev) ag Z ?_;refine z1 ?_;refine iM rfl rfl rfl rfl ?_;exact wq 2
  refine z5 ?_;refine iw rfl rfl rfl rfl ?_;exact wq 2
 refine aK ?_;refine wI 0 (fun h6=>?_) fun h6=>?_
 ·refine z3 ?_;refine uf rfl gb sM rfl ?_;refine wV 0 (v:= .agg #[I at_, .iface 41 (I 15)]) ?_;refine wB 0 Z fun w b59 Z=>?_;refine uf rfl mO sM rfl ?_;refine z4 ?_;exact ga rfl rfl rfl rfl (by
 refine .inr ⟨b59,15,by rw[gC];exact aB h6,rfl,by decide,?_⟩;rw[my];exact(Z.b [fg p,N b6 _ _,N b3 _ _,N b59 _ _,N q _ _,eD dp D]).t3)
 rw[aj h6]at gC;refine z5 ?_;refine qg (fun e w=>e=[(0,pQ q),(6,pQ b6),(8,I at_),(11,I (if kz lev=2 then lev-1 else-1))]/\aw G (N b6 p.cells 104::fg p::N b3 (j6 ((n:Int),lev)) 163::N q (mj dp s rv) 157::eD dp D::L) w) ?_ ?_
 ·refine wI 5 (fun h7=>?_) fun h7=>?_
  ·refine wD 2 (v:=I lev) ag Z ?_;refine z3 ?_;exact⟨[(0,_),(6,_),(8,_),(11,_)],sB,by rw[aB h7],Z⟩
  refine jo ?_;exact⟨[(0,_),(6,_),(8,_),(11,_)],sB,by rw[aj h7],Z⟩
 clear Z;rintro e w ⟨rfl,Z⟩;have Qm:=zt (JE Up);obtain⟨ks,yn⟩:∃ks,cu p.pg=ks:=⟨_,rfl⟩;obtain⟨bl,tW⟩:∃bl,(if kz lev=2 then lev-1 else-1)=bl:=⟨_,rfl⟩;rw[yn,tW]at gC;rw[tW];rw[yn]at Qm
 refine wA 7 (l:=p.cells) ay Z ?_;refine aO rfl Cz rfl (EC (p:=p) Z (cL rY pK)) rfl fun w v67 hv=>?_;have Z:=hv;rw[yn]at Z;obtain⟨wa,wc,rfl⟩:=aT Z;refine z4 ?_;have Z:=bB Z 163 2;refine bx (fun m e w=>∃(k:Nat) (u:C),k<=ks.length/\m=ks.length-k/\e=[(0,pQ q),(8,I at_),(11,I bl),(12,u),(67, .slice wa ks.length wc),(68,I ks.length),(69,I k)]/\(∀(j:Nat) (x:Int),j<k->ks[j]?=some x->¬(bd s.cf).pages<x)/\aw G (row 163 2 u k (Br ((ks.take k).map fun k=>(k,bl)))::row 3 1 (.slice wa ks.length wc) ks.length (bf ks)::N b6 p.cells 104::fg p::N b3 (j6 ((n:Int),lev)) 163::N q (mj dp s rv) 157::eD dp D::L) w)
  (m:=ks.length) sB
  ⟨0,_,de _,rfl,rfl,(fun j x h=>by omega),Z⟩ ?_
 rintro m e w ⟨k,u,hk,rfl,rfl,jg,Z⟩;refine wI 5 (fun h8=>?_) fun h8=>?_
 ·have gn:k<ks.length:=H;obtain⟨x,E⟩:∃x,ks[k]?=some x:=⟨_,dG gn⟩;have kB:aL (row 3 1 (.slice wa ks.length wc) ks.length (bf ks)::N b6 p.cells 104::fg p::N b3 (j6 ((n:Int),lev)) 163::N q (mj dp s rv) 157::eD dp D::L) (oJ (.slice wa ks.length wc) (bf ks)):=oz;obtain⟨bb,oo,rfl⟩:=((kB.of sF).at Z).nn (by rw[bC];omega);refine wY 5 aY bF ?_;refine bg rfl rfl (aD.one ag (((kB.of sF).at Z).at (by rw[cZ];exact kN E))) ?_;refine z9 ?_;refine cC rfl u4 rfl ?_;refine wD 0 (v:=I (bd s.cf).pages) ag Z ?_;refine wI 2 (fun h9=>?_) fun h9=>?_
  ·refine z3 ?_;refine uf rfl gb sM rfl ?_;refine wV 0 (v:= .agg #[I at_, .iface 41 (I 15)]) ?_;refine wB 0 Z fun w b83 Z=>?_;refine uf rfl mO sM rfl ?_;refine z4 ?_;exact ga rfl rfl rfl rfl (by
 refine .inr ⟨b83,15,by rw[gC];exact aB ⟨x,fK E,h9⟩,rfl,by decide,?_⟩;rw[my];exact(Z.b [row 163 _ _ _ _,row 3 _ _ _ _,fg p,N b6 _ _,N b3 _ _,N b83 _ _,N q _ _,eD dp D]).t5)
  refine wV 5 (v:=gQ (j6 (x,bl))) ?_;refine fb (cs:=j6 (x,bl)) rfl fu jH lj dM rfl rfl rfl Z rfl fun w b89 Z=>?_;refine eF (m:=k) (k:=1) (news:=j6 (x,bl)) rfl fu jH qM lj rfl rfl Z pK (Rd.iq Z pK) rfl (by intro u hu;simp[j6]at hu;rcases hu with rfl|rfl<;>rfl) mL H rfl (fun w v90 Z=>?_);refine z6 ?_;have hz:=(Z.b [N b89 _ _,row 163 _ v90 _ _,row 3 _ _ _ _,N b6 _ _,fg p,N b3 _ _,N q _ _,eD dp D]).tail;have e1:Br ((ks.take k).map fun k=>(k,bl))++j6 (x,bl)=Br ((ks.take (k+1)).map fun k=>(k,bl)):=by rw[bV E,Ac,jX];rfl
  rw[e1]at hz;refine⟨ks.length-(k+1),H,[(0,_),(8,_),(11,_),(12,_),(67,_),(68,_),(69,I (k+1:Nat))],sB,k+1,_,H,rfl,rfl,?_,hz⟩;intro j y hj hy;rcases oA j k with h|h
  ·exact jg j y h hy
  have:j=k:=H;subst this;rw[E]at hy;cases hy;exact h9
 refine z8 ?_;exact ga rfl rfl rfl rfl (by
 have oY:k=ks.length:=H;subst oY;rw[qS]at Z;refine .inl ⟨ks.map fun k=>(k,bl),u,?_,by rw[cg];exact Qm,rfl,?_⟩
 ·rw[gC];refine aj ?_;rintro⟨y,hy,fR⟩;obtain⟨j,hj⟩:=List.mem_iff_getElem?.1 hy;have pU:j<ks.length:=(qj.1 hj).1;exact jg j y pU hj fR
 ·rw[cg];exact(Z.b [row 3 _ _ _ _,fg p,N b6 _ _,N b3 _ _,row 163 _ _ _ _,N q _ _,eD dp D]).t4)
def PZ(Z:aw G L w):aA prog 67 #[.map (some mm)] w (bU fun r w'=>∃b1,r= .func (.func 140) #[] #[pQ b1]/\aw G (N b1 [.map (some mm)] 147::L) w'):=by
 refine wF [_] func67 ntmps67 ?_;refine wB 2 Z fun w b1 Z=>?_;refine z4 ?_;refine o7 (v1:=#[]) (v2:=#[pQ b1]) rfl (by intro z hz;simp at hz;subst hz;exact⟨_,rfl⟩) sM (by simp only[su,ey,l9];rfl) ?_;refine dk 3 ?_;exact⟨b1,rfl,Z⟩
section
open Go.RowKit Go.Maps Go.Sort Go.Shelf
def D9:Go.Shelf.Ren:=⟨fun|7=>67|10=>140|n=>n,fun|23=>147|26=>3|3=>3|28=>168|0=>0|27=>167|33=>195|4=>4|n=>n,fun n=>n⟩
def aaw:SlLaysZI.n10 prog D9:={mixed:=by kernel_rfl,f10:=⟨f140.name,by decide,func140.trans (aU some kR)⟩,t0:=underlying0,a0:=isAgg0,z0:=sizeOf0,v0:=zeroValue0,t4:=underlying4,a4:=isAgg4,z4:=sizeOf4,v4:=zeroValue4,t23:=underlying147,a23:=isAgg147,z23:=sizeOf147,v23:=zeroValue147,t26:=underlying3,a26:=isAgg3,z26:=sizeOf3,v26:=zeroValue3,t33:=underlying195,a33:=isAgg195,z33:=sizeOf195,v33:=zeroValue195}
def zr:Go.Shelf.Ren:=⟨fun|6=>66|8=>138|9=>139|11=>236|13=>238|12=>237|23=>310|24=>311|14=>301|15=>302|16=>303|17=>304|18=>305|19=>306|20=>307|21=>308|22=>309|25=>339|26=>340|27=>341|28=>342|29=>343|30=>344|31=>352|n=>n,fun|26=>3|28=>168|24=>22|0=>0|3=>3|37=>347|48=>75|50=>275|4=>4|40=>409|39=>408|45=>176|5=>5|9=>9|51=>432|55=>435|57=>439|58=>96|33=>195|n=>n,fun n=>n⟩
def T2:SlLaysZI.n6 prog zr:={mixed:=by kernel_rfl,f6:=⟨f66.name,by decide,func66.trans (aU some kR)⟩,f8:=⟨f138.name,by decide,func138.trans (aU some kR)⟩,f11:=⟨f236.name,by decide,func236.trans (aU some kR)⟩,t0:=underlying0,a0:=isAgg0,z0:=sizeOf0,v0:=zeroValue0,t24:=underlying22,a24:=isAgg22,z24:=sizeOf22,v24:=zeroValue22,t26:=underlying3,a26:=isAgg3,z26:=sizeOf3,v26:=zeroValue3,t28:=underlying168,a28:=isAgg168,z28:=sizeOf168,v28:=zeroValue168,i26:=by kernel_rfl}
def Pf:Go.Shelf.Ren:=⟨fun|5=>139|8=>238|7=>237|19=>310|20=>311|10=>301|11=>302|12=>303|13=>304|14=>305|15=>306|16=>307|17=>308|18=>309|30=>339|31=>340|32=>341|33=>342|34=>343|35=>344|40=>352|n=>n,fun|23=>22|25=>3|3=>3|32=>347|22=>22|0=>0|44=>75|46=>275|4=>4|36=>409|35=>408|41=>176|5=>5|9=>9|53=>432|57=>435|63=>439|64=>96|n=>n,fun n=>n⟩
def Rr:SlLaysM.n5 prog Pf:={mixed:=by kernel_rfl,f5:=⟨f139.name,by decide,func139.trans (aU some kR)⟩,f7:=⟨f237.name,by decide,func237.trans (aU some kR)⟩,f8:=func238.trans (aU some kR),f10:=⟨f301.name,by decide,func301.trans (aU some kR)⟩,f11:=⟨f302.name,by decide,func302.trans (aU some kR)⟩,f12:=⟨f303.name,by decide,func303.trans (aU some kR)⟩,f13:=⟨f304.name,by decide,func304.trans (aU some kR)⟩,f14:=⟨f305.name,by decide,func305.trans (aU some kR)⟩,f15:=⟨f306.name,by decide,func306.trans (aU some kR)⟩,f16:=⟨f307.name,by decide,func307.trans (aU some kR)⟩,f17:=⟨f308.name,by decide,func308.trans (aU some kR)⟩,f18:=⟨f309.name,by decide,func309.trans (aU some kR)⟩,f19:=func310.trans (aU some kR),f20:=func311.trans (aU some kR),f30:=⟨f339.name,by decide,func339.trans (aU some kR)⟩,f31:=func340.trans (aU some kR),f32:=func341.trans (aU some kR),f33:=⟨f342.name,by decide,func342.trans (aU some kR)⟩,f34:=⟨f343.name,by decide,func343.trans (aU some kR)⟩,f35:=⟨f344.name,by decide,func344.trans (aU some kR)⟩,f40:=⟨f352.name,by decide,func352.trans (aU some kR)⟩,t0:=underlying0,a0:=isAgg0,z0:=sizeOf0,v0:=zeroValue0,t3:=underlying3,a3:=isAgg3,z3:=sizeOf3,v3:=zeroValue3,t4:=underlying4,a4:=isAgg4,z4:=sizeOf4,v4:=zeroValue4,t5:=underlying5,a5:=isAgg5,z5:=sizeOf5,v5:=zeroValue5,t9:=underlying9,a9:=isAgg9,z9:=sizeOf9,v9:=zeroValue9,t22:=underlying22,a22:=isAgg22,z22:=sizeOf22,v22:=zeroValue22,t23:=underlying22,a23:=isAgg22,z23:=sizeOf22,v23:=zeroValue22,t25:=underlying3,a25:=isAgg3,z25:=sizeOf3,v25:=zeroValue3,t32:=underlying347,a32:=isAgg347,z32:=sizeOf347,v32:=zeroValue347,t35:=underlying408,a35:=isAgg408,z35:=sizeOf408,v35:=zeroValue408,t36:=underlying409,a36:=isAgg409,z36:=sizeOf409,v36:=zeroValue409,t41:=underlying176,a41:=isAgg176,z41:=sizeOf176,v41:=zeroValue176,t44:=underlying75,a44:=isAgg75,z44:=sizeOf75,v44:=zeroValue75,t46:=underlying275,a46:=isAgg275,z46:=sizeOf275,v46:=zeroValue275,t53:=underlying432,a53:=isAgg432,z53:=sizeOf432,v53:=zeroValue432,t57:=underlying435,a57:=isAgg435,z57:=sizeOf435,v57:=zeroValue435,t63:=underlying439,a63:=isAgg439,z63:=sizeOf439,v63:=zeroValue439,t64:=underlying96,a64:=isAgg96,z64:=sizeOf96,v64:=zeroValue96}
def Xy(m:Nat):AnyZI.SortsIn prog zr Fence.wide m:=
 ⟨fun N off cap ss W hH aiV lH=>callsIn_wide.2 (AnyM.slices_Sort_int Rr N off cap ss W hH aiV lH),
  fun p cap W=>callsIn_wide.2 (AnyM.slices_Sort_int_none Rr p cap W)⟩
end
section
open Go.RowKit Go.Maps Go.Sort Go.Shelf
section
variable{w':ae}
def Zp(Z:aw G L w)(hb:Below w.heap.size w w'):aw G L w':=by
 obtain⟨Y,h,J,h3⟩:=Z;refine⟨by rw[<-Y];unfold UE;rw[hb.os,hb.tape,hb.output],h,fun b o hbo=>?_,h3⟩;have h4:=J b o hbo;rw[hb.block b (mV.1 h4).1];exact h4
def ab4{e:Nat}{cur:Array C}(Z:aw G L w)(hb:Below w.heap.size w w')(hg:w.heap.size<=g)(hc:w'.heap[g]?=some (.cells cur e (0,0))):aw G (N g cur.toList e::L) w':=by
 obtain⟨Y,h,J,h3⟩:=Z;have hn:h g=none:=by
  cases hh:h g with
  |none=>rfl
  |some o=>have:=(mV.1 (J g o hh)).1;omega
 refine⟨by rw[<-Y];unfold UE;rw[hb.os,hb.tape,hb.output],fun b=>if b=g then some (.cells cur e (0,0))else h b,fun b o hbo=>?_,fun b=>if b=g then some (.cells cur e (0,0))else none,h,fun b=>?_,fun b o hbo=>?_,?_,h3⟩
 ·by_cases hbg:b=g
  ·subst hbg;simp only[if_true]at hbo;rw[hc,hbo]
  simp only[aj hbg]at hbo;have h4:=J b o hbo;rw[hb.block b (mV.1 h4).1];exact h4
 ·by_cases hbg:b=g
  ·subst hbg;exact .inr hn
  exact .inl (by simp[hbg])
 ·by_cases hbg:b=g
  ·subst hbg;rcases eO hbo with h|h
   ·simp only[if_true]at h ⊢;exact h
   rw[hn]at h;cases h
  rcases eO hbo with h|h
  ·simp[hbg]at h
  simp only[aj hbg];exact h
 show(if g=g then _ else _)=_
 simp
def IK:∀{kv:KV} {p:Int×C},p∈kv->(dJ kv p.1).isSome=true
 |q::r,p,h=>by
  obtain⟨k,v⟩:=q;rw[dJ];split
  ·rfl
  rename_i hn;rcases cE.1 h with rfl|h
  ·exact aS rfl hn
  exact IK h
def Vy:∀{kv:KV} {k:Int},(dJ kv k).isSome=true->k∈kv.map (·.1)
 |(k',v)::r,k,h=>by
  rw[dJ]at h;split at h
  ·rename_i e;simp[e]
  simp only[ey,cE];exact .inr (Vy h)
def aby:C->Option (DataW Unit×List MemPlace):=fun _=>some (.nil,[])
def acy(Z:aw G (dm mm kv::L) w)(hkb:∀k,(dJ kv k).isSome=true->0<=k/\k<=1000000):
  ∃D0:DataW Unit,w.ownsMap prog 3 aby mm 1000001 D0/\(intKeys D0).Perm (kv.map (·.1))/\Maps.size D0<=1000001:=by
 obtain⟨es,ck,hf,Z⟩:=mY Z;have hh:=Z.pt .here;have yn:es.toList.map (·.key)=kv.map fun p=>I p.1:=by
  have:=aU (List.map Prod.fst) hf.p3
  simpa [Fz,Function.comp_def]using this
 have hlen:es.size=kv.length:=by
  have:=aU List.length yn
  simpa using this
 have Ul:kv.length<=1000001:=by
  have Y:(kv.map (·.1)).length<=((List.range 1000001).map fun n:Nat=>(n:Int)).length:=by
   refine px hf.keys fun x E=>?_
   obtain⟨p,hp,rfl⟩:=dY.1 E;have:=hkb p.1 (IK hp);exact dY.2 ⟨p.1.toNat,sr.2 H,H⟩
  simpa using Y
 have XX:∀x∈es.toList,∃k:Int,x.key=I k/\0<=k/\k<=1000000:=fun x E=>by
  have:x.key∈es.toList.map (·.key):=dY.2 ⟨x,E,rfl⟩;rw[yn]at this;obtain⟨p,hp,Mz⟩:=dY.1 this;have:=hkb p.1 (IK hp);exact⟨p.1,Mz.symm,this.1,this.2⟩
 have sA:∀x∈es.toList,∀k:Int,x.key=I k->0<=k/\k<=1000000->WideElems.rd prog 3 aby x=some (Lit.int .i64 k, .nil):=fun x E k hk hb=>by
  have yp:keyOf prog 3 (I k)=some (Lit.int .i64 k):=by
   have hwf:(Lit.int .i64 k).wf=true:=by simp[Lit.wf,IntKind.min,IntKind.max,IntKind.signed,IntKind.bits];omega
   unfold keyOf mapKey;rw[dD];simp[hwf]
  unfold WideElems.rd;rw[hk,yp];rfl
 have nr:WideElems.Fit prog 3 aby es ck:=by
  refine⟨by rw[hlen];unfold maxLen;omega,⟨hf.qV,hf.CC,?_⟩,fun x E=>?_⟩
  ·rw[yn];have:=hf.keys;unfold List.Nodup at this ⊢;rw[List.pairwise_map]at this ⊢
   exact this.imp fun h he=>h (by simpa using he)
  obtain⟨k,Y,J⟩:=XX x E;exact⟨_,sA x E k Y J⟩
 refine⟨_,⟨es,ck,hh,nr,by rw[hlen];omega,rfl⟩,?_,?_⟩
 ·have Y:=(WideShapes.sorted_perm (es.toList.map (WideElems.rg prog 3 aby))).map (fun p=>Go.intOf p.1);refine Y.trans (List.Perm.of_eq ?_);have e1:kv.map (·.1)=(es.toList.map (·.key)).map (fun v=>match v with| .int _ k=>k|_=>0):=by
   rw[yn];simp[Fz,Function.comp_def]
  rw[e1,Fz,Fz];refine QW fun x E=>?_
  obtain⟨k,Y,J⟩:=XX x E;simp only[Function.comp];rw[WideElems.rg_of (sA x E k Y J),Y];rfl
 have Y:=(WideShapes.sorted_perm (es.toList.map (WideElems.rg prog 3 aby))).length_eq
 show List.length _<=_
 rw[Y,cg,TJ,hlen];exact Ul
def Ew{b1:Nat}(Z:aw G (N b1 [.map (some mm)] 147::dm mm kv::L) w)(hkb:∀k,(dJ kv k).isSome=true->0<=k/\k<=1000000):
  aA prog 66 #[.func (.func 140) #[] #[pQ b1]] w (bU fun r w'=>∃l:List Int,l.Pairwise (·<·)/\(∀x,x∈l↔(dJ kv x).isSome=true)/\aw G (row 3 1 r l.length (bf l)::L) w'):=by
 obtain⟨D0,ain,aeu,ajs⟩:=acy Z.tail hkb;have hc:=Z.pt .here;have tX:b1<w.heap.size:=(mV.1 hc).1;have hm:w.cell? ⟨b1,0,none⟩=some (.map (some mm)):=by rw[cell_of_row w b1 0 _ _ _ hc];rfl
 have SX:(kv.map (·.1)).Nodup:=by obtain⟨es,ck,hf,-⟩:=mY Z.tail;exact hf.keys
 have aii:=AnyZI.keys_gives (ρ:=D9) aaw Fence.wide 2 trivial rfl H b1 mm 1000001 D0 w tX hm ain;have cS:=AnyZI.sorted_in T2 Fence.wide 5 trivial trivial trivial trivial rfl H (Xy _) (enters_of func139 kR rfl) 140 #[pQ b1] trivial (enters_of func140 kR rfl) _ _ (by unfold maxLen;omega) H _ aii;refine Calls.mono ((callsIn_wide (n:=5)).1 cS) fun en w' ⟨v,ss,hen,hS,Mx,ag8,aho⟩=>⟨v,hen,ss.mergeSort leI,?_,fun x=>?_,?_⟩
 ·have hp:=hS.trans aeu;have tr:∀a b c:Int,leI a b=true->leI b c=true->leI a c=true:=fun a b c Y J=>by simp only[leI,decide_eq_true_eq]at*;exact Int.le_trans Y J
  have to:∀a b:Int,(leI a b||leI b a)=true:=fun a b=>by simp only[leI,Jt,decide_eq_true_eq];exact Int.le_total a b
  have Y:=List.pairwise_mergeSort tr to ss;have J:(ss.mergeSort leI).Nodup:=((List.mergeSort_perm ss leI).trans hp).nodup_iff.2 SX;refine(Y.and J).imp fun⟨h3,h4⟩=>?_
  simp only[leI,decide_eq_true_eq]at h3;omega
 ·rw[((List.mergeSort_perm ss leI).trans (hS.trans aeu)).mem_iff];exact⟨fun h=>by obtain⟨p,hp,rfl⟩:=dY.1 h;exact IK hp,Vy⟩
 have hlen:(ss.mergeSort leI).length=ss.length:=(List.mergeSort_perm ss leI).length_eq;obtain⟨hl,h|⟨g,cap,cur,rfl,hg,aiR,hn,YM,kB,zy⟩⟩:=Mx
 ·obtain⟨rfl,h0⟩:=h;have h0:ss=[]:=vD h0;subst h0;have hms:([]:List Int).mergeSort leI=[]:=by simp
  rw[hms];exact bB (Zp Z.tail.tail (aho.mono (fP _))) _ _
 have Y:=ab4 Z.tail.tail aho hg aiR;rw[hlen];have e:cur.toList=(ss.mergeSort leI).map encZ++cur.toList.drop ss.length:=by
  rw[<-zy,DV,Mp]
 rw[e]at Y;exact lC (z:=1) (m:=ss.length) (cap:=cap) Y (by rw[bC,hlen,DV]) hn YM (by
    have he:=aU List.length e;rw[TJ,kB]at he;exact he.symm)
end
end
structure SO(s:Su)(Bk:Nat->bZ)(U:CK->Prop):Prop where
 root:∀x∈fH s.roots,U x
 VH:∀x,U x->(1<=x.1/\x.1<=(bd s.cf).pages)
 XF:∀x,U x->∀k,vn s Bk x=some k->∀y∈k,U y
structure Fc(s:Su)(Bk:Nat->bZ)(U:CK->Prop)(W todo:List CK):Prop where
 nd:W.Nodup
 uW:∀c∈W,U c
 uT:∀c∈todo,U c
 root:∀c∈fH s.roots,c∈W\/c∈todo
 XF:∀c∈W,∀l,vn s Bk c=some l->∀k∈l,k∈W\/k∈todo
 min:∀V:CK->Prop,(∀c∈fH s.roots,V c)->(∀c,V c->∀l,vn s Bk c=some l->∀k∈l,V k)->∀c,c∈W\/c∈todo->V c
section
variable{W todo:List CK}
def Fc.start(hB:SO s Bk U):Fc s Bk U [] (fH s.roots):=
 ⟨Tz,(fun c h=>by cases h),hB.root,fun c h=> .inr h,(fun c h=>by cases h),fun V Y J c h=>by rcases h with h|h;cases h;exact Y c h⟩
def Fc.skip{c:CK}(h:Fc s Bk U W (todo++[c]))(hc:c∈W):Fc s Bk U W todo:=by
 have key:∀x,x∈W\/x∈todo++[c]->x∈W\/x∈todo:=fun x E=>by
  rcases E with E|E
  ·exact .inl E
  rcases eZ.1 E with E|E
  ·exact .inr E
  simp at E;subst E;exact .inl hc
 exact⟨h.nd,h.uW,fun x E=>h.uT x (lT _ E),fun x E=>key x (h.root x E),fun x E l hl k hk=>key k (h.XF x E l hl k hk),
  fun V Y J x E=>h.min V Y J x (E.elim .inl fun E=> .inr (lT _ E))⟩
def Fc.step{c:CK}{l:List CK}(hB:SO s Bk U)(h:Fc s Bk U W (todo++[c]))(hc:c∉W)(hl:vn s Bk c=some l\/(vn s Bk c=none/\l=[])):Fc s Bk U (c::W) (todo++l):=by
 have hUc:U c:=h.uT c sM;have gC:∀l',vn s Bk c=some l'->l'=l:=fun l' h'=>by
  rcases hl with hl|⟨hl,-⟩
  ·rw[hl]at h';cases h';rfl
  rw[hl]at h';cases h'
 have hlm:∀k∈l,vn s Bk c=some l:=fun k hk=>by
  rcases hl with hl|⟨-,rfl⟩
  ·exact hl
  cases hk
 have key:∀x,x∈W\/x∈todo++[c]->x∈c::W\/x∈todo++l:=fun x E=>by
  rcases E with E|E
  ·exact .inl (kG _ E)
  rcases eZ.1 E with E|E
  ·exact .inr (lT _ E)
  simp at E;subst E;exact .inl sM
 refine⟨Bx.2 ⟨hc,h.nd⟩,fun x E=>?_,fun x E=>?_,fun x E=>key x (h.root x E),fun x E l' hl' k hk=>?_,fun V Y J x E=>?_⟩
 ·rcases cE.1 E with rfl|E
  ·exact hUc
  exact h.uW x E
 ·rcases eZ.1 E with E|E
  ·exact h.uT x (lT _ E)
  exact hB.XF c hUc l (hlm x E) x E
 ·rcases cE.1 E with rfl|E
  ·rw[gC l' hl']at hk;exact .inr (Jw _ hk)
  exact key k (h.XF x E l' hl' k hk)
 have hVc:V c:=h.min V Y J c (.inr sM);rcases E with E|E
 ·rcases cE.1 E with rfl|E
  ·exact hVc
  exact h.min V Y J x (.inl E)
 rcases eZ.1 E with E|E
 ·exact h.min V Y J x (.inr (lT _ E))
 exact J c hVc l (hlm x E) x E
def Fc.cls(h:Fc s Bk U W []):Cls (vn s Bk) (fH s.roots) W:=
 ⟨fun c hc=>(h.root c hc).resolve_right sM,fun c hc l hl k hk=>(h.XF c hc l hl k hk).resolve_right sM,fun V Y J c hc=>h.min V Y J c (.inl hc)⟩
def ady(p:Nat):List CK:=(List.range p).flatMap fun(i:Nat)=>(List.range 14).map fun(j:Nat)=>(((i:Int)+1,(j:Int)-1):CK)
def LH:∀p:Nat,(ady p).length=14*p
 |0=>rfl
 |p+1=>by
  have h:=LH p;unfold ady at h ⊢;rw[TB (n:=p),TI,di,h];simp;omega
def Fc.small(h:Fc s Bk U W todo)(hB:SO s Bk U)(hU:∀x,U x->-1<=x.2/\x.2<=12){p:Nat}(hp:(bd s.cf).pages=p):W.length<=14*p:=by
 rw[<-LH];refine px h.nd fun x E=>?_
 have Y:=hB.VH x (h.uW x E);have J:=hU x (h.uW x E);unfold ady;refine TC.2 ⟨(x.1-1).toNat,sr.2 H,dY.2 ⟨(x.2+1).toNat,sr.2 H,?_⟩⟩;obtain⟨a,b⟩:=x;simp only at Y J ⊢
 congr 1<;>omega
def YB(mk:KC)(W:List CK)(T:Nat):Prop:=∀c,(c∉W/\uH mk c=none)\/(c∈W/\∃j:Nat,uH mk c=some (I (j:Int))/\1<=j/\j<=T)
def YB.look(h:YB mk W T)(c:CK):∃j:Nat,(uH mk c).getD (I 0)=I j/\j<=T/\(c∈W↔1<=j):=by
 rcases h c with⟨Y,J⟩|⟨Y,j,J,h3,h4⟩
 ·exact⟨0,by rw[J];rfl,de _,⟨fun h=>aS h Y,fun h=>by omega⟩⟩
 exact⟨j,by rw[J];rfl,h4,⟨fun _=>h3,fun _=>Y⟩⟩
def YB.put(h:YB mk W T){c:CK}(hj:j<=T){W':List CK}(hW:∀x,x∈W'↔x=c\/x∈W):YB (pZ mk c (I ((j:Int)+1))) W' (T+1):=fun x=>by
 rw[Ot]
 by_cases E:x=c
 ·subst E;rw[aB rfl];exact .inr ⟨(hW x).2 (.inl rfl),j+1,by simp,H,H⟩
 rw[aj E];rcases h x with⟨Y,J⟩|⟨Y,j',J,h3,h4⟩
 ·exact .inl ⟨fun h=>((hW x).1 h).elim E Y,J⟩
 exact .inr ⟨(hW x).2 (.inr Y),j',J,h3,H⟩
def GW(l:List (Int×Tr))(x:Int×Tr):fH (l++[x])=fH l++(if x.2.root≠0 then [(x.2.root,x.2.bh-1)]else []):=by
 unfold fH;rw[Mn,jX]
 congr 1
 by_cases h:x.2.root=0<;>simp[h]
def Ji(l:List (Int×Tr)):(fH l).length<=l.length:=by
 unfold fH;rw[cg];exact QX _ _
def adq(a b:List CK):Br a++Br b=Br (a++b):=by simp[Br]
def ckT(v:C)(l:List CK)(R:List aF):aL (row 163 2 v l.length (Br l)::R) (jk 2 v (l.map j6)):=(jk.row sM (fun r hr=>by obtain⟨x,_,rfl⟩:=dY.1 hr;rfl)).head R
def aeF(l:List CK):∀r∈l.map j6,r.length=2:=fun r hr=>by obtain⟨x,_,rfl⟩:=dY.1 hr;rfl
end
def IB(kv:KV)(F:Int->Prop):Prop:=∀k,(¬F k/\dJ kv k=none)\/(F k/\∃c:Int,dJ kv k=some (I c))
def IB.look(h:IB kv F)(B:Int):∃c:Int,(dJ kv B).getD (I 0)=I c:=by
 rcases h B with⟨-,h⟩|⟨-,c,h⟩
 ·exact⟨0,by rw[h];rfl⟩
 exact⟨c,by rw[h];rfl⟩
def IB.put(h:IB kv F)(B c:Int):IB (oC kv B (I c)) (fun x=>x=B\/F x):=fun k=>by
 rw[FM]
 by_cases hk:k=B
 ·rw[aB hk];exact .inr ⟨.inl hk,c,rfl⟩
 rw[aj hk];rcases h k with⟨Y,J⟩|⟨Y,J⟩
 ·exact .inl ⟨fun h=>h.elim hk Y,J⟩
 exact .inr ⟨.inr Y,J⟩
def IB.iff{F':Int->Prop}(h:IB kv F)(he:∀x,F x↔F' x):IB kv F':=fun k=>by
 rcases h k with⟨Y,J⟩|⟨Y,J⟩
 ·exact .inl ⟨fun h=>Y ((he k).2 h),J⟩
 exact .inr ⟨(he k).1 Y,J⟩
def rT(s:Su)(Bk:Nat->bZ)(n:Nat)(x:Int):Prop:=∃i:Nat,i<n/\nT s Bk i=none/\jO (bd s.cf) s.gen+i=x
def xP(s:Su)(Bk:Nat->bZ)(W:List CK)(x:Int):Prop:=∃c∈W,vn s Bk c=none/\SC s c.1=x
def Ct{b8 f:Nat}{B:Int}(Z:aw G (N b8 [.map (some mm)] 147::dm mm kv::S7 f B er::L) w)(ke:aL L EtK)(hk:IB kv F):
  aA prog 62 #[.iface 148 (pQ f),pQ b8] w (bU fun r w'=>∃Bh,IB Bh (fun x=>x=B\/F x)/\aw G (N b8 [.map (some mm)] 147::dm mm Bh::L) w'):=by
 refine wF [_,_] func62 ntmps62 ?_;refine wL 2 IU Z fun w b3 Z=>?_;refine z4 ?_;refine uf rfl abD sM rfl ?_;refine wC rfl CB rfl (Se (f:=f) (A:=bt []) Z (((ke.cons _).cons _).cons _)) fun w Z=>?_
 have Z:=Z.b [N b3 _ _,N b8 _ _,dm mm kv,S7 f B er];unfold S7 at Z;obtain⟨c,hc⟩:=hk.look B;refine aK ?_;refine cr rfl ?_;refine wQ [0,1,2,3,4,5,6,7] Z fun Z=>?_
 refine wD 0 (v:= .map (some mm)) nJ Z ?_;refine wD 0 (v:=pQ f) FG Z ?_;refine wD 2 (v:=I B) ag Z ?_;refine GQ (v0:=I c) rfl iu dD uN rfl rfl Z pK hc ?_;refine NA rfl rfl rfl ?_;refine WI rfl tV iu dD rfl rfl rfl Z pK kR fun w Z=>?_;refine aK ?_;exact u6 rfl rfl ⟨_,hk.put B _,(Z.b [N b3 _ _,N f _ _,N b8 _ _,dm _ _]).t2⟩
def XD{r:C}(h:(∃l v,vn s D.bY ((n:Int),lev)=some l/\l.length<=8/\r= .tuple #[v, .nilIface]/\aw G (row 163 2 v l.length (Br l)::zp q dp s rv::eD dp D::L) w)∨
    (∃f er,vn s D.bY ((n:Int),lev)=none/\r= .tuple #[nQ, .iface 148 (pQ f)]/\er≠17/\aw G (S7 f (SC s n) er::zp q dp s rv::eD dp D::L) w)):
  ∃(l:List CK) (v ev:C) (b:Bool) (A:aF),r= .tuple #[v,ev]/\l.length<=8/\((ev= .nilIface/\b=false)\/(∃T z,ev= .iface T z)/\b=true)/\(b=false->vn s D.bY ((n:Int),lev)=some l/\A=bt [])∧
   (b=true->vn s D.bY ((n:Int),lev)=none/\l=[]/\∃f er,ev= .iface 148 (pQ f)/\A=S7 f (SC s n) er)/\aw G (A::row 163 2 v l.length (Br l)::N q (mj dp s rv) 157::eD dp D::L) w:=by
 rcases h with⟨l,v,Y,J,rfl,h3⟩|⟨f,er,Y,rfl,h3,h4⟩
 ·exact⟨l,v,_,false,bt [],rfl,J, .inl ⟨rfl,rfl⟩,fun _=>⟨Y,rfl⟩,(fun h=>by cases h),aw.bJ (M:=[]) h3⟩
 refine⟨[],_,_,true,_,rfl,de _, .inr ⟨⟨_,_,rfl⟩,rfl⟩,(fun h=>by cases h),fun _=>⟨Y,rfl,f,er,rfl,rfl⟩,?_⟩;have hz:=(bB h4 163 2).b [S7 f (SC s n) er];exact hz
def Sb(Z:aw G (eD dp D::L) w)(fx:D.Ok)(kr:aL L (jk 4 rv (s.roots.map cA)))(hn:s.roots.length<=1000)(ho:D.on=true)(ke:aL L EtK)(hsu:cp s=0)(tW:(D.gS.length:Int)=s.cf.blocks)(hB:SO s D.bY U)(hU:∀x,U x->-1<=x.2/\x.2<=12):
  aA prog 23 #[pQ dp,gQ (eH s rv)] w (bU fun r w'=>∃(v:C) (l:List Int) (W:List CK),r= .tuple #[v,I 0]/\Cls (vn s D.bY) (fH s.roots) W/\l.Pairwise (·<·)/\(∀x,x∈l↔rT s D.bY (bd s.cf).nC.toNat x\/xP s D.bY W x)/\aw G (row 3 1 v l.length (bf l)::eD dp D::L) w'):=by
 have hL:Lk s D:=⟨hsu,ho,tW⟩;obtain⟨pn,bn,fn,hp,xV,YO,akc,XZ,CY⟩:=hL.Xf;have BD:(bd s.cf).pages=(pn:Int):=by rw[hp]
 have SW:(bd s.cf).nC=(bn:Int):=by rw[hp]
 have Kd:=(iS hsu).2.2.2;obtain⟨ms,hI⟩:=sR;have hrf:=(kr.at Z.tail).form;refine wF [_,_] func23 ntmps23 ?_;refine wB 2 Z fun w b3 Z=>?_;refine wA 6 (l:=eH s rv) br Z ?_;refine aO rfl mJ rfl (u9 (s:=s) (Z.b [eD dp D]) (kr.of sF) hn ho) rfl fun w v24 hv=>?_;obtain⟨er,lp,A,rfl,hse,hA,Z⟩:=Dr hv;have her:er=0:=hse.symm.trans hsu;subst her;obtain⟨q,rfl,rfl⟩:=hA rfl;refine wI 12 (fun Y=>?_) fun Y=>?_
 ·exact aS rfl Y
 refine z3 ?_;refine wQ [0,1,2,3,4,5] Z fun Z=>?_
 refine z1 ?_;refine cC rfl ju rfl ?_;refine wD 0 (v:=I s.cf.blocks) ag Z ?_;refine z1 ?_;refine ed rfl mM rfl (nz (Z.b [eD dp D])) (fun w Zf hv q' hq=>?_) fun w Zf hv=>?_
 ·obtain⟨rfl,Z⟩:=hv;have hq:=bK (l:=[2]) kR hq;simp only[cE,fQ,or_false]at hq;subst hq;exact bG rfl rfl rfl (aD.cw (v:=I s.cf.blocks) ag Z pK rfl)
 obtain⟨rfl,Z⟩:=hv;refine wI 2 (fun J=>?_) fun J=>?_
 ·exact aS tW.symm J
 refine z3 ?_;refine Ny rfl Z rfl fun w Ma Z=>?_;refine wL 0 Qw Z fun w b8 Z=>?_;refine rU rfl tV rfl rfl nJ rfl Z pK rfl rfl rfl fun w Z=>?_;refine z3 ?_;refine o7 (v1:=#[]) (v2:=#[pQ b8]) rfl (by intro z hz;simp at hz;subst hz;exact⟨_,rfl⟩) sM (by simp only[su,ey,l9];rfl) ?_;refine z8 ?_;refine cC rfl u0 rfl ?_;refine wD 0 (v:=I (bd s.cf).nC) ag Z ?_;rw[SW];refine z3 ?_;have Z:=Z.b [N b8 _ _,dm Ma _,N q _ _,eD dp D,N b3 _ _];refine bx (fun m e w=>∃(k:Nat) (kv:KV),k<=bn/\m=bn-k/\e=[(6,pQ q),(8,pQ b8),(9, .func (.func 62) #[] #[pQ b8]),(3,pQ b3),(42,I bn),(43,I k)]/\IB kv (rT s D.bY k)/\aw G (N b8 [.map (some Ma)] 147::dm Ma kv::N q (mj dp s rv) 157::eD dp D::N b3 (eH s rv) 74::L) w)
  (m:=bn) sB
  ⟨0,[],de _,rfl,rfl,(fun x=> .inl ⟨(fun⟨i,h,_⟩=>by omega),rfl⟩),Z⟩ ?_
 rintro m e w ⟨k,kv,hk,rfl,rfl,UA,Z⟩;refine wI 5 (fun h3=>?_) fun h3=>?_
 ·have gn:k<bn:=H;have hb:=CQ (Z.b [N q _ _,eD dp D]);refine YW ?_;refine aO rfl qf rfl (rj (i:=k) hb fx hL (by rw[SW];omega)) rfl (fun w v49 hv=>?_);have hz:∃(l:List Int) (v ev:C) (b:Bool) (A:aF),v49= .tuple #[v,ev]/\(ev= .nilIface/\b=false\/(∃T z,ev= .iface T z)/\b=true)/\(b=false->nT s D.bY k≠none)/\(b=true->nT s D.bY k=none/\∃f er,ev= .iface 148 (pQ f)/\A=S7 f (jO (bd s.cf) s.gen+k) er)/\aw G (A::N q (mj dp s rv) 157::eD dp D::N b8 [.map (some Ma)] 147::dm Ma kv::N b3 (eH s rv) 74::L) w:=by
   unfold zp at hv;rcases hv with⟨l,v,Y,rfl,J⟩|⟨f,er,Y,rfl,h3,J⟩
   ·exact⟨l,v,_,false,_,rfl, .inl ⟨rfl,rfl⟩,(fun _ h=>by rw[Y]at h;cases h),(fun h=>by cases h),J⟩
   exact⟨[],_,_,true,_,rfl, .inr ⟨⟨_,_,rfl⟩,rfl⟩,(fun h=>by cases h),fun _=>⟨Y,f,er,rfl,rfl⟩,J⟩
  obtain⟨l,v,ev,b,A,rfl,hnb,Kg,Hc,Z⟩:=hz;refine z9 ?_;refine Fi rfl hI rfl hnb ?_;refine aK ?_;refine fJ rfl (fun h4=>?_) fun h4=>?_
  ·obtain⟨tU,f,er,rfl,rfl⟩:=Hc h4;refine z3 ?_;refine iN rfl rfl AB rfl rfl (Ct (Z.b [N b8 _ _,dm Ma kv,S7 f _ er]) (ke.of sF) UA) rfl fun w v56 hv=>?_;obtain⟨Bh,afM,Z⟩:=hv;refine z5 ?_;have hz:=Z.b [N b8 _ _,dm Ma Bh,N q _ _,eD dp D,N b3 _ _];exact⟨bn-(k+1),H,[(6,_),(8,_),(9,_),(3,_),(42,_),(43,I (k+1:Nat))],sB,k+1,Bh,H,rfl,rfl,afM.iff (fun x=>⟨fun h=>h.elim (fun h=>⟨k,H,tU,h.symm⟩) (fun⟨i,Y,J⟩=>⟨i,H,J⟩),fun⟨i,Y,J,h3⟩=>(oA i k).elim (fun h=> .inr ⟨i,h,J,h3⟩) (fun h=> .inl (by rw[<-h3,show i=k by omega]))⟩),hz⟩
  refine z5 ?_;have hz:=(Z.b [A,N b8 _ _,dm Ma kv,N q _ _,eD dp D,N b3 _ _]).tail;refine⟨bn-(k+1),H,[(6,_),(8,_),(9,_),(3,_),(42,_),(43,I (k+1:Nat))],sB,k+1,kv,H,rfl,rfl,UA.iff (fun x=>⟨fun⟨i,h,h'⟩=>⟨i,H,h'⟩,fun⟨i,h,h'⟩=>⟨i,?_,h'⟩⟩),hz⟩;rcases oA i k with h9|h9
  ·exact h9
  have:i=k:=H;subst this;exact aS h'.1 (Kg h4)
 have oY:bn=k:=H;subst oY;refine z3 ?_;refine aeL rfl rfl tV Z rfl fun w mc Z=>?_;refine wD 10 (v:=rv) bD Z ?_;obtain⟨ra,rc,yQ,-,-⟩:=hrf;rw[cg]at yQ;subst yQ;refine eE rfl kR bp rfl ?_;refine z3 ?_;have Z:=bB Z 163 2;have Z:=Z.b [row 163 2 _ _ _,CO mc _,dm Ma kv,N b8 _ _,N q _ _,eD dp D,N b3 _ _];refine bx (fun m e w=>∃(i:Nat) (u:C),i<=s.roots.length/\m=s.roots.length-i/\e=[(6,pQ q),(8,pQ b8),(9, .func (.func 62) #[] #[pQ b8]),(13, .map (some mc)),(14,u),(60, .slice ra s.roots.length rc),(61,I s.roots.length),(62,I i)]/\aw G (row 163 2 u (fH (s.roots.take i)).length (Br (fH (s.roots.take i)))::CO mc []::dm Ma kv::N b8 [.map (some Ma)] 147::N q (mj dp s (.slice ra s.roots.length rc)) 157::eD dp D::N b3 (eH s (.slice ra s.roots.length rc)) 74::L) w)
  (m:=s.roots.length) sB
  ⟨0,_,de _,rfl,rfl,Z⟩ ?_
 rintro m e w ⟨i,u,hi,rfl,rfl,Z⟩;refine wI 5 (fun h5=>?_) fun h5=>?_
 ·have lR:i<s.roots.length:=H;obtain⟨x,E⟩:∃x,s.roots[i]?=some x:=⟨_,dG lR⟩;have kA:(s.roots.map cA)[i]?=some (cA x):=by rw[dh,E];rfl
  obtain⟨bb,oo,rfl⟩:=((kr.of sF).at Z).nn (by rw[cg];omega);have Qh:=Kd x (fK E);have hrl:(fH (s.roots.take i)).length<=1000:=Ht (Ji _) (by rw[gJ];omega);have Dy:fH (s.roots.take (i+1))=fH (s.roots.take i)++(if x.2.root≠0 then [(x.2.root,x.2.bh-1)]else []):=by rw[bV E,GW]
  refine wX 5 bp dx ?_;refine bg rfl rfl (aD.many (cs:=cA x) fM rfl (by rw[cZ];exact((kr.of sF).at Z).at kA)) ?_;refine wL 0 wJ Z fun w Ir Z=>?_;refine wN 0 (cs:=cA x) (l':=cA x) fM (by intro u hu;simp[cA]at hu;rcases hu with rfl|rfl|rfl|rfl<;>rfl) Z (fun w Z=>?_);refine z4 ?_;refine cC rfl jJ rfl ?_;refine wD 0 (v:=I x.2.root) ag Z ?_;refine wI 2 (fun h6=>?_) fun h6=>?_
  ·rw[aB h6]at Dy;have hht:1<=x.2.bh/\x.2.bh<=12:=by
    rcases Qh with h|h
    ·exact aS h.1 h6
    exact h.2.1
   refine z3 ?_;refine cC rfl jJ rfl ?_;refine wD 0 (v:=I x.2.root) ag Z ?_;refine z1 ?_;refine cC rfl uZ rfl ?_;refine wD 0 (v:=I x.2.bh) ag Z ?_;refine wV 1 (v:=gQ (j6 (x.2.root,x.2.bh-1))) ?_;refine fb (cs:=j6 (x.2.root,x.2.bh-1)) rfl fu jH lj dM rfl rfl rfl Z rfl fun w b79 Z=>?_;refine eF (m:=(fH (s.roots.take i)).length) (k:=1) (news:=j6 (x.2.root,x.2.bh-1)) rfl fu jH qM lj rfl rfl Z pK (Rd.iq Z pK) rfl (by intro u hu;simp[j6]at hu;rcases hu with rfl|rfl<;>rfl) mL H rfl (fun w v80 Z=>?_);refine z6 ?_;have hz:=(Z.b [N b79 _ _,N Ir _ _,row 163 2 v80 _ _,CO mc _,dm Ma kv,N b8 _ _,N q _ _,eD dp D,N b3 _ _]).t2;have e2:Br (fH (s.roots.take i))++j6 (x.2.root,x.2.bh-1)=Br (fH (s.roots.take (i+1))):=by rw[Dy,Ac]
   have e3:(fH (s.roots.take i)).length+1=(fH (s.roots.take (i+1))).length:=by rw[Dy];simp
   rw[e2,e3]at hz;exact⟨s.roots.length-(i+1),H,[(6,_),(8,_),(9,_),(13,_),(14,v80),(60,_),(61,_),(62,I (i+1:Nat))],sB,i+1,_,H,rfl,rfl,hz⟩
  refine z5 ?_;have hz:=(Z.b [N Ir _ _,row 163 2 u _ _,CO mc _,dm Ma kv,N b8 _ _,N q _ _,eD dp D,N b3 _ _]).tail;rw[aj h6,kF]at Dy
  (try unfold sQ at hz);rw[<-Dy]at hz
  exact⟨s.roots.length-(i+1),H,[(6,_),(8,_),(9,_),(13,_),(14,u),(60,_),(61,_),(62,I (i+1:Nat))],sB,i+1,_,H,rfl,rfl,hz⟩
 have VQ:i=s.roots.length:=H;subst VQ;rw[qS]at Z;have hrl:=Ji s.roots;refine z3 ?_;refine bx (fun m e w=>∃(W todo:List CK) (mk:KC) (kv:KV) (T:Nat) (u:C),m=9*(14*pn-W.length)+todo.length/\e=[(6,pQ q),(8,pQ b8),(9, .func (.func 62) #[] #[pQ b8]),(13, .map (some mc)),(14,u)]/\(Fc s D.bY U W todo/\YB mk W T/\T+todo.length<=1000+8*W.length/\IB kv (fun x=>rT s D.bY bn x\/xP s D.bY W x))/\aw G (row 163 2 u todo.length (Br todo)::CO mc mk::dm Ma kv::N b8 [.map (some Ma)] 147::N q (mj dp s (.slice ra s.roots.length rc)) 157::eD dp D::N b3 (eH s (.slice ra s.roots.length rc)) 74::L) w)
  (m:=9*(14*pn)+(fH s.roots).length) sB
  ⟨[],fH s.roots,[],kv,0,u,rfl,rfl,⟨Fc.start hB,(fun c=> .inl ⟨by simp,rfl⟩),by simp only[DY];omega,UA.iff (fun x=>⟨.inl,fun h=>h.elim id (fun⟨c,h,_⟩=>by cases h)⟩)⟩,Z⟩ ?_
 rintro m e w ⟨W,todo,mk,kv,T,u,rfl,rfl,⟨hBI,hM,hTl,UA⟩,Z⟩;obtain⟨ua,uc,rfl⟩:=aT Z;have hWl:=hBI.small hB hU BD;refine z4 ?_;refine eE rfl kR fu rfl ?_;refine wI 2 (fun h7=>?_) fun h7=>?_
 ·obtain⟨ix,c,rfl⟩:∃ix c,todo=ix++[c]:=by
   rcases List.eq_nil_or_concat todo with rfl|⟨l,b,rfl⟩
   ·simp at h7
   exact⟨l,b,by simp⟩
  obtain⟨cn,lev⟩:=c;have hUc:=hBI.uT (cn,lev) sM;have Ha:=hB.VH _ hUc;have IL:=hU _ hUc;obtain⟨n,rfl⟩:∃n:Nat,cn=n:=⟨cn.toNat,by simp only at Ha;omega⟩;simp only at Ha IL;rw[BD]at Ha
  have hlen:(ix++[((n:Int),lev)]).length=ix.length+1:=by simp
  rw[hlen]at Z hTl;rw[hlen];obtain⟨-,tb,-,hta,htc,-⟩:=fZ Z H;subst hta;have zy:∀R,aL (row 163 2 (.slice (some ⟨tb,0,none⟩) (ix.length+1) uc) (ix.length+1) (Br (ix++[((n:Int),lev)]))::R) (jk 2 (.slice (some ⟨tb,0,none⟩) (ix.length+1) uc) ((ix++[((n:Int),lev)]).map j6)):=fun R=>by
   have h:=ckT (.slice (some ⟨tb,0,none⟩) (ix.length+1) uc) (ix++[((n:Int),lev)]) R;rw[hlen]at h;exact h
  have XQ:((ix++[((n:Int),lev)]).map j6)[ix.length]?=some (j6 ((n:Int),lev)):=by simp
  have V5:(((ix.length+1:Nat):Int)-1).toNat=ix.length:=H;obtain⟨j,hj,hjT,hjW⟩:=hM.look ((n:Int),lev);refine z5 ?_;refine eE rfl kR fu rfl ?_;refine wX 7 fu jH ?_;refine bg rfl rfl (aD.many (cs:=j6 ((n:Int),lev)) k8 rfl (by rw[V5];exact(((zy _).of sF).at Z).at XQ)) ?_;refine wL 0 OI Z fun w b18 Z=>?_;refine wN 0 (cs:=j6 ((n:Int),lev)) (l':=j6 ((n:Int),lev)) k8 (by intro u hu;simp[j6]at hu;rcases hu with rfl|rfl<;>rfl) Z (fun w Z=>?_);refine z5 ?_;refine y0 rfl fu Ja rfl sM rfl ⟨H,H⟩ ?_;rw[V5];have Z:=Z.b [row 163 2 (.slice (some ⟨tb,0,none⟩) (ix.length+1) uc) _ _];have Z:=Zs (rs:=(ix++[((n:Int),lev)]).map j6) Z sM (aeF _) (j:=ix.length) H;have aib:((ix++[((n:Int),lev)]).map j6).take ix.length=ix.map j6:=by simp
  rw[aib]at Z;refine z4 ?_;refine wQ [0,1,2,3,4,5,6] Z fun Z=>?_
  refine wA 1 (l:=j6 ((n:Int),lev)) k8 Z ?_;refine YZ (a:=((n:Int),lev)) (v0:=I j) rfl rfl tV kT Bs uN rfl rfl Z pK hj ?_;refine z1 ?_;refine ago (a:=((n:Int),lev)) (u:=I j) rfl rfl tV kT Bs uN rfl rfl Z pK hj (fun w st Z q' hq=>?_) fun w st Z=>?_
  ·have hq:=bK (l:=[2]) kR hq;simp only[cE,fQ,or_false]at hq;subst hq;exact ads rfl kT Bs uN rfl rfl rfl Z pK
  refine z1 ?_;refine agp (a:=((n:Int),lev)) (u:=I j) (st:=st) rfl tV rfl rfl rfl Z pK kR fun w Z=>?_;refine wA 4 (l:=j6 ((n:Int),lev)) k8 Z ?_;refine YZ (a:=((n:Int),lev)) (v0:=I ((j:Int)+1)) rfl rfl tV kT Bs uN rfl rfl Z pK (by rw[Ot,aB rfl];rfl) ?_;refine wI 2 (fun h8=>?_) fun h8=>?_
  ·refine z1 ?_;have hcW:=hjW.2 H;have hz:=(Z.b [N b18 _ _,row 163 2 _ _ _,CO mc _,dm Ma kv,N b8 _ _,N q _ _,eD dp D,N b3 _ _]).tail;exact⟨9*(14*pn-W.length)+ix.length,H,[(6,_),(8,_),(9,_),(13,_),(14,_)],sB,W,ix,_,kv,T+1,_,rfl,rfl,⟨hBI.skip hcW,hM.put hjT (fun x=>⟨.inr,fun h=>h.elim (fun h=>h▸hcW) id⟩),H,UA⟩,hz⟩
  have hcW:((n:Int),lev)∉W:=fun h=>h8 (by have:=hjW.1 h;omega)
  have hb:=CQ (Z.b [N q _ _,eD dp D]);refine wA 4 (l:=j6 ((n:Int),lev)) k8 Z ?_;refine aO rfl Dm rfl (EE (n:=n) (lev:=lev) hb fx hL H H) rfl fun w ajO hv=>?_;obtain⟨l,v,ev,b,A,rfl,hl8,hnb,Kg,Hc,Z⟩:=XD hv;have gC:vn s D.bY ((n:Int),lev)=some l\/(vn s D.bY ((n:Int),lev)=none/\l=[]):=by
   cases b with
   |false=>exact .inl (Kg rfl).1
   |true=>exact .inr ⟨(Hc rfl).1,(Hc rfl).2.1⟩
  have afP:=hBI.step hB hcW gC;have hW2:=afP.small hB hU BD;rw[kZ]at hW2;have hM2:=hM.put hjT (W':=((n:Int),lev)::W) (fun x=>cE);have e9:(ix.map j6).flatten++(l.map j6).flatten=Br (ix++l):=adq ix l;have e8:ix.length+(l.map j6).length=(ix++l).length:=by simp
  refine B' ?_;refine Fi rfl hI rfl hnb ?_;refine aK ?_;refine fJ rfl (fun h9=>?_) fun h9=>?_
  ·obtain⟨tU,hl0,f,er,rfl,rfl⟩:=Hc h9;refine z3 ?_;refine iN rfl rfl AB rfl rfl (Ct (Z.b [N b8 _ _,dm Ma kv,S7 f (SC s n) er]) (ke.of sF) UA) rfl fun w ajM hv=>?_;obtain⟨Bh,afM,Z⟩:=hv;refine z4 ?_;refine Fj (m:=ix.length) (rs:=l.map j6) rfl fu jH qM lj rfl rfl (Z.b [row 163 2 (.slice (some ⟨tb,0,none⟩) _ uc) _ _,row 163 2 v _ _]) .here (((ckT v l _).of sF).at (Z.b [row 163 2 v _ _])) (by intro u hu;obtain⟨r,hr,hur⟩:=List.mem_flatten.1 hu;obtain⟨c,_,rfl⟩:=dY.1 hr;simp[j6]at hur;rcases hur with rfl|rfl<;>rfl) (by rw[cg];simp only[maxLen];omega) (by rw[cg];omega) rfl (fun w Zh Z=>?_);refine z2 ?_;rw[e8,e9]at Z;have hz:=(Z.b [N b18 _ _,row 163 2 v _ _,row 163 2 Zh _ _,CO mc _,dm Ma Bh,N b8 _ _,N q _ _,eD dp D,N b3 _ _]).t2;refine⟨9*(14*pn-(W.length+1))+(ix++l).length,by rw[di];omega,[(6,_),(8,_),(9,_),(13,_),(14,Zh)],sB,((n:Int),lev)::W,ix++l,_,Bh,T+1,_,rfl,rfl,⟨afP,hM2,by rw[di,kZ];omega,afM.iff (fun x=>⟨fun h=>h.elim (fun h=> .inr ⟨_,kf,tU,h.symm⟩) (fun h=>h.imp id (fun⟨c,hc,hn⟩=>⟨c,kG _ hc,hn⟩)),fun h=>h.elim (fun h=> .inr (.inl h)) (fun⟨c,hc,hn,E⟩=>(cE.1 hc).elim (fun e=> .inl (by rw[<-E,e])) (fun hc=> .inr (.inr ⟨c,hc,hn,E⟩)))⟩)⟩,hz⟩
  refine z4 ?_;refine Fj (m:=ix.length) (rs:=l.map j6) rfl fu jH qM lj rfl rfl (Z.b [row 163 2 (.slice (some ⟨tb,0,none⟩) _ uc) _ _,row 163 2 v _ _]) .here (((ckT v l _).of sF).at (Z.b [row 163 2 v _ _])) (by intro u hu;obtain⟨r,hr,hur⟩:=List.mem_flatten.1 hu;obtain⟨c,_,rfl⟩:=dY.1 hr;simp[j6]at hur;rcases hur with rfl|rfl<;>rfl) (by rw[cg];simp only[maxLen];omega) (by rw[cg];omega) rfl (fun w Zh Z=>?_);refine z2 ?_;rw[e8,e9]at Z;have hz:=(Z.b [A,N b18 _ _,row 163 2 v _ _,row 163 2 Zh _ _,CO mc _,dm Ma kv,N b8 _ _,N q _ _,eD dp D,N b3 _ _]).t3;have hb0:b=false:=h9;refine⟨9*(14*pn-(W.length+1))+(ix++l).length,by rw[di];omega,[(6,_),(8,_),(9,_),(13,_),(14,Zh)],sB,((n:Int),lev)::W,ix++l,_,kv,T+1,_,rfl,rfl,⟨afP,hM2,by rw[di,kZ];omega,UA.iff (fun x=>⟨fun h=>h.imp id (fun⟨c,hc,hn⟩=>⟨c,kG _ hc,hn⟩),fun h=>h.imp id (fun⟨c,hc,hn⟩=>⟨c,(cE.1 hc).resolve_left (fun e=>by rw[e,(Kg hb0).1]at hn;cases hn.1),hn⟩)⟩)⟩,hz⟩
 obtain rfl:todo=[]:=vD H;refine wD 3 (v:= .map (some Ma)) nJ Z ?_;refine aO rfl o4 rfl (PZ (mm:=Ma) Z) rfl fun w ahR hv=>?_;obtain⟨b1,rfl,Z⟩:=hv;have hb:=Z.b [N b1 _ _,dm Ma kv];have hkb:∀k,(dJ kv k).isSome=true->0<=k/\k<=1000000:=fun k hk=>by
  rcases UA k with⟨-,h⟩|⟨h,-⟩
  ·rw[h]at hk;cases hk
  rcases h with⟨i,Y,-,J⟩|⟨c,hc,-,J⟩
  ·unfold jO at J;rw[hp]at J;simp only at J;split at J<;>omega
  have h3:=hB.VH c (hBI.uW c hc);unfold SC at J;rw[hp]at J h3;simp only at J h3;omega
 refine aO rfl yK rfl (Ew hb hkb) rfl fun w ae0 hv=>?_;obtain⟨lk,hpw,Mf,Z⟩:=hv;refine z4 ?_;exact ga rfl rfl rfl rfl (by
 refine⟨ae0,lk,W,rfl,hBI.cls,hpw,fun x=>?_,?_⟩
 ·rw[Mf x,cZ];rcases UA x with⟨Y,J⟩|⟨Y,c,J⟩
  ·rw[J];exact⟨fun h=>(by cases h),fun h=>aS h Y⟩
  ·rw[J];exact⟨fun _=>Y,fun _=>rfl⟩
 exact(Z.b [row 163 2 _ _ _,CO mc _,N b8 _ _,N q _ _,N b3 _ _,row 3 1 ae0 _ _,eD dp D]).t5)
def qy(s:Su)(on:Bool):Int:=if cp s≠0 then cp s else if on=true then 0 else 17
def vW(Z:aw G (eD dp D::L) w)(kr:aL L (jk 4 rv (s.roots.map cA)))(hn:s.roots.length<=1000)(tU:qy s D.on≠0):
  aA prog 58 #[pQ dp,gQ (eH s rv)] w (bU fun r w'=>r= .tuple #[.pointer none,I (qy s D.on)]/\aw G (eD dp D::L) w'):=by
 refine wF [_,_] func58 ntmps58 ?_;refine wB 2 Z fun w b3 Z=>?_;refine wA 6 (l:=eH s rv) br Z ?_;refine wC rfl x5 rfl (zP (s:=s) Z (kr.of sF) hn) fun w Z=>?_
 refine wI 7 (fun Y=>?_) fun Y=>?_
 ·refine ui 7 ?_;exact⟨by unfold qy;rw[aB Y],Z.tail⟩
 have hs0:cp s=0:=dg.1 Y;have ho:D.on=false:=by
  cases h:D.on with
  |false=>rfl
  |true=>exact aS (by unfold qy;rw[aj H,h,aB rfl]) tU
 refine z5 ?_;refine wC rfl tJ rfl (uG (Z.b [eD dp D])) fun w Z=>?_
 rw[ho];refine nh rfl rfl ?_;refine aK ?_;refine fJ rfl (fun J=>?_) fun J=>?_
 ·refine ui 6 ?_;exact⟨by unfold qy;rw[aj H];rfl,(Z.b [N b3 _ _,eD dp D]).tail⟩
 cases J
def H7(Z:aw G (eD dp D::L) w)(kr:aL L (jk 4 rv (s.roots.map cA)))(hn:s.roots.length<=1000)(tU:qy s D.on≠0):
  aA prog 22 #[pQ dp,gQ (eH s rv)] w (bU fun r w'=>r= .tuple #[.pointer none,gQ (cY jf),I (qy s D.on)]/\aw G (eD dp D::L) w'):=by
 refine wF [_,_] func22 ntmps22 ?_;refine wB 2 Z fun w b3 Z=>?_;refine wL 1 fN Z fun w b5 Z=>?_;refine wA 5 (l:=eH s rv) br Z ?_;refine wC rfl mJ rfl (vW (s:=s) (Z.b [eD dp D]) (kr.of sF) hn tU) fun w Z=>?_
 refine wI 12 (fun Y=>?_) fun Y=>?_
 ·refine wV 2 (v:=gQ (cY jf)) ?_;refine wN 2 (cs:=cY jf) (l':=cY jf) aJ (fD _) Z fun w Z=>?_;refine z3 ?_;exact pH rfl rfl rfl ⟨_,rfl,(aD.dB (l:=cY jf) aJ Z pK rfl)⟩ rfl ⟨rfl,(Z.b [N b3 _ _,N b5 _ _,eD dp D]).t2⟩
 exact aS (dg.1 Y) tU
def Ab(Z:aw G (eD dp D::L) w)(kr:aL L (jk 4 rv (s.roots.map cA)))(hn:s.roots.length<=1000)(tU:qy s D.on≠0):
  aA prog 23 #[pQ dp,gQ (eH s rv)] w (bU fun r w'=>r= .tuple #[nQ,I (qy s D.on)]/\aw G (eD dp D::L) w'):=by
 refine wF [_,_] func23 ntmps23 ?_;refine wB 2 Z fun w b3 Z=>?_;refine wA 6 (l:=eH s rv) br Z ?_;refine wC rfl mJ rfl (vW (s:=s) (Z.b [eD dp D]) (kr.of sF) hn tU) fun w Z=>?_
 refine wI 12 (fun Y=>?_) fun Y=>?_
 ·refine ui 7 ?_;exact⟨rfl,(Z.b [N b3 _ _,eD dp D]).tail⟩
 exact aS (dg.1 Y) tU
def H8(Z:aw G (eD dp D::L) w)(kr:aL L (jk 4 rv (s.roots.map cA)))(hn:s.roots.length<=1000)(ho:D.on=true)(hsu:cp s=0)(tW:(D.gS.length:Int)≠s.cf.blocks):
  aA prog 23 #[pQ dp,gQ (eH s rv)] w (bU fun r w'=>r= .tuple #[nQ,I 25]/\aw G (eD dp D::L) w'):=by
 refine wF [_,_] func23 ntmps23 ?_;refine wB 2 Z fun w b3 Z=>?_;refine wA 6 (l:=eH s rv) br Z ?_;refine aO rfl mJ rfl (u9 (s:=s) (Z.b [eD dp D]) (kr.of sF) hn ho) rfl fun w v24 hv=>?_;obtain⟨er,lp,A,rfl,hse,hA,Z⟩:=Dr hv;have her:er=0:=hse.symm.trans hsu;subst her;obtain⟨q,rfl,rfl⟩:=hA rfl;refine wI 12 (fun Y=>?_) fun Y=>?_
 ·exact aS rfl Y
 refine z3 ?_;refine wQ [0,1,2,3,4,5] Z fun Z=>?_
 refine z1 ?_;refine cC rfl ju rfl ?_;refine wD 0 (v:=I s.cf.blocks) ag Z ?_;refine z1 ?_;refine ed rfl mM rfl (nz (Z.b [eD dp D])) (fun w Zf hv q' hq=>?_) fun w Zf hv=>?_
 ·obtain⟨rfl,Z⟩:=hv;have hq:=bK (l:=[2]) kR hq;simp only[cE,fQ,or_false]at hq;subst hq;exact bG rfl rfl rfl (aD.cw (v:=I s.cf.blocks) ag Z pK rfl)
 obtain⟨rfl,Z⟩:=hv;refine wI 2 (fun J=>?_) fun J=>?_
 ·refine ui 6 ?_;exact⟨rfl,(Z.b [N b3 _ _,N q _ _,eD dp D]).t2⟩
 exact aS (dg.1 J).symm tW
def af3(Z:aw G (eD dp D::L) w):aA prog 33 #[pQ dp] w (bU fun r w'=>r= .tuple #[]/\aw G (eD dp D.failed::L) w'):=by
 obtain⟨fx,ml,ms,sv,kl,ks,hl,hs,Z⟩:=vU Z;simp only[qt,ti,nI,lE]at Z;exact(Gk Z).mono fun e w' h=>by
  obtain⟨v,rfl,rfl,Z⟩:=h;exact⟨_,rfl,rfl,nN (D:=D.failed) fx.failed hl hs Z⟩
def okA(P:au)(O:Array aP)(post:List Nat):Nat->List (List Nat)->List Nat->Array Bool->Bool
 |0,_,_,_=>false
 |f+1,i',A,listed=>match i' with
  |[]=>match A with
   |[]=>Mt P O post listed
   |a::A1=>(Region.ready .any O listed).all (fun k=>(a::A1).contains k)&&!(Region.ready .any O listed).isEmpty&&(a::A1).all fun b=>okA P O post f [] ((a::A1).erase b) (listed.setIfInBounds b true)
  |[]::_=>false
  |(m::ps)::ss=>(Region.ready .any O listed).all (fun k=>k==m||A.contains k)&&!(Region.ready .any O listed).isEmpty&&WS P O ps (listed.setIfInBounds m true)&&okA P O post f ss A (ph (m::ps) listed)&&
    A.all fun b=>okA P O post f ((m::ps)::ss) (A.erase b) (listed.setIfInBounds b true)
def yA(i':List (List Nat))(A post:List Nat):Nat:=i'.flatten.length+A.length+post.length
def Qe{Q:Act->ae->Prop}:∀(l d1 d2:List Nat) (a:Act) (w:ae),(∀q∈d2,q∈d1)->SL P O Q d1 l a w->SL P O Q d2 l a w
 |[],_,_,_,_,_,h=>h
 |i::l,d1,d2,a,w,hs,h=>by
  simp only[SL]at h ⊢;split
  ·rename_i ho;rw[ho]at h;exact h
  rename_i o ho;rw[ho]at h;exact Bv hs (jb (fun v w' E=>Qe l _ _ _ w' (fun q hq=>by
    rcases cE.1 hq with rfl|hq
    ·exact kf ..
    ·exact kG _ (hs q hq)) E) h)
def Bp{listed:Array Bool}(hc:kU .any O listed){done:List Nat}(hd:∀q∈done,listed.getD q false=true):∀q∈done,q∈List.range O.size:=fun q hq=>by
 have h:=hd q hq;rw[sr,<-hc.size];refine vC fun h'=>?_
 simp only[Array.getD,h',dif_neg,not_false_iff]at h;cases h
def Dv{n:Nat}(gC:GL P .any O n){Q:Act->ae->Prop}{post:List Nat}(Φ:List (List Nat)->List Nat->Act->ae->Prop)
  (hs:∀s ss A a w,Φ (s::ss) A a w->SL P O (Φ ss A) (List.range O.size) s a w)
  (ha:∀i' A b a w,b∈A->Φ i' A a w->SL P O (Φ i' (A.erase b)) (List.range O.size) [b] a w)
  (hp:∀a w,Φ [] [] a w->SL P O Q (List.range O.size) post a w):
  ∀(f:Nat) (i':List (List Nat)) (A:List Nat) (listed:Array Bool) (done:List Nat) (a:Act) (w:ae),a.tmps.size=n->kU .any O listed->(∀q∈done,listed.getD q false=true)->okA P O post f i' A listed=true->Φ i' A a w→
   GJ P .any O Q (yA i' A post) listed done a w
 |0,_,_,_,_,_,_,_,_,_,hB,_=>by simp[okA]at hB
 |f+1,i',A,listed,done,a,w,lH,hc,hd,hB,hΦ=>by
  have mr:∀{b:Nat},b∈A->okA P O post f i' (A.erase b) (listed.setIfInBounds b true)=true->b∈Region.ready .any O listed->∀o,O[b]?=some o->nV P .any O done b o (GJ P .any O Q (yA i' (A.erase b) post) (listed.setIfInBounds b true) (b::done)) a w:=fun{b} hb hB2 hr o ho=>by
   have Y:=ha i' A b a w hb hΦ;simp only[SL,ho]at Y;refine Bv (Bp hc hd) (jb (fun v w' E=>?_) Y);refine Dv gC Φ hs ha hp f i' (A.erase b) _ _ _ w' (qT lH _ _) (hc.set hr) (fun q hq=>?_) hB2 E;rcases cE.1 hq with rfl|hq
   ·have fR:q<listed.size:=by rw[hc.size];exact(mV.1 ho).1
    simp[fR]
   exact getD_set_true (hd q hq)
  have cb:∀{b:Nat},b∈A->yA i' A post=yA i' (A.erase b) post+1:=fun{b} hb=>by
   have:=acp hb;have:=List.length_pos_of_mem hb;unfold yA;omega
  cases i' with
  |nil=>
   cases A with
   |nil=>
    have hB:Mt P O post listed=true:=hB;have e1:yA [] [] post=post.length:=by simp[yA]
    rw[e1];exact E9 gC post listed done a w lH hc hd hB (Qe _ _ _ _ _ (Bp hc hd) (hp a w hΦ))
   |cons a1 A1=>
    simp only[okA,gG,w5]at hB;obtain⟨⟨Y,J⟩,h3⟩:=hB;have hfu:yA [] (a1::A1) post=(A1.length+post.length)+1:=by simp[yA];omega
    rw[hfu];refine⟨fun h0=>by rw[h0]at J;simp at J,fun i hi o ho=>?_⟩;have hm:i∈a1::A1:=FB.1 (Y i hi);have h5:=mr hm (h3 i hm) hi o ho;have h6:=cb hm;rw[hfu]at h6;have h7:yA [] ((a1::A1).erase i) post=A1.length+post.length:=H;rw[h7]at h5
    exact h5
  |cons s ss=>
   cases s with
   |nil=>simp[okA]at hB
   |cons m ps=>
    simp only[okA,gG,w5]at hB;obtain⟨⟨⟨⟨Y,J⟩,h3⟩,h4⟩,h5⟩:=hB;have hfu:yA ((m::ps)::ss) A post=(ps.length+yA ss A post)+1:=by simp[yA];omega
    rw[hfu];refine⟨fun h0=>by rw[h0]at J;simp at J,fun i hi o ho=>?_⟩;have h6:=Y i hi
    by_cases him:i=m
    ·subst him;have h7:=hs (i::ps) ss A a w hΦ;simp only[SL,ho]at h7;refine Bv (Bp hc hd) (jb (fun v w' E=>?_) h7);have hd2:∀q∈i::done,(listed.setIfInBounds i true).getD q false=true:=fun q hq=>by
      rcases cE.1 hq with rfl|hq
      ·have fR:q<listed.size:=by rw[hc.size];exact(mV.1 ho).1
       simp[fR]
      exact getD_set_true (hd q hq)
     have X3:=hc.set hi;refine E8 gC (yA ss A post) (Φ ss A) ps _ _ _ w' (qT lH _ _) X3 hd2 h3 (fun a' Cb hK hs' YN vk=>?_) (Qe _ _ _ _ _ (fun q hq=>kG _ (Bp X3 hd2 q hq)) E);exact Dv gC Φ hs ha hp f ss A _ _ a' Cb hs' YN vk h4 hK
    have hm:i∈A:=by
     simp only[Jt,beq_iff_eq,FB]at h6;exact h6.resolve_left him
    have h8:=mr hm (h5 i hm) hi o ho;have h9:=cb hm;rw[hfu]at h9;have jR:yA ((m::ps)::ss) (A.erase i) post=ps.length+yA ss A post:=H;rw[jR]at h8
    exact h8
def ae7(P:au)(O:Array aP)(n:Nat)(pre:List Nat)(i':List (List Nat))(A post:List Nat):Bool:=
 Region.noSelect O&&ade n O&&OZ P O&&(pre.length+yA i' A post==O.size)&&WS P O pre (Array.replicate O.size false)&&
  okA P O post (i'.length+A.length+1) i' A (ph pre (Array.replicate O.size false))
def Ho{pre:List Nat}{i':List (List Nat)}{A post:List Nat}{id:Nat}{Q:Exit->Act->ae->Prop}{a:Act}(hm:P.follows .mixedOrders=true)(hB:ae7 P O n pre i' A post=true)(lH:a.tmps.size=n)(Φ:List (List Nat)->List Nat->Act->ae->Prop)(hs:∀s ss A a w,Φ (s::ss) A a w->SL P O (Φ ss A) (List.range O.size) s a w)(ha:∀i' A b a w,b∈A->Φ i' A a w->SL P O (Φ i' (A.erase b)) (List.range O.size) [b] a w)(hp:∀a w,Φ [] [] a w->SL P O (Q .normal) (List.range O.size) post a w)(h:SL P O (Φ i' A) [] pre a {w with drawn:=w.drawn+1}):(Code.region id O true).wpIn (Fw ro) 0 P Q a w:=by
 simp only[ae7,gG,beq_iff_eq]at hB;obtain⟨⟨⟨⟨⟨Y,J⟩,h3⟩,h4⟩,h5⟩,h6⟩:=hB;refine wpIn_region_any hm (qz (Q:=Q .normal) (fun _ _ h=>h) _ _ [] _ _ ?_);have gC:=Le (n:=n) Y J h3;have rH:=E8 gC (Q:=Q .normal) (yA i' A post) (Φ i' A) pre (Array.replicate O.size false) [] a _ lH ⟨by simp,fun j o ho hl=>?_⟩ (fun q hq=>by cases hq) h5
  (fun a' w' hK hs' hc hd=>Dv gC Φ hs ha hp _ i' A _ _ a' w' hs' hc hd h6 hK) h
 ·rw[h4]at rH;exact rH
 exfalso;rcases oA j O.size with h'|h'
 ·simp[h']at hl
 simp[FC (show(Array.replicate O.size false).size<=j by simpa using h')]at hl
def dZ.ah3{a:Act}(h:dZ n e a)(ht:a.tmps.getD t undef=v)(hm:t≠1000000000):dZ n ((t,v)::e) a:=
 ⟨by rw[mi hm];exact h.defers,h.size,h.small,fun s u hu=>by
  rcases mz hu with⟨rfl,rfl⟩|⟨_,hu⟩
  ·exact ht
  ·exact h.get s u hu⟩
def Pc{α β:Type}{g:α->β}:∀{l:List α},(l.map g).Nodup->∀{a b:α},a∈l->b∈l->g a=g b->a=b
 |[],_,_,_,ha,_,_=>by cases ha
 |x::l,hn,a,b,ha,hb,h=>by
  rw[ey,Bx]at hn;rcases cE.1 ha with rfl|FU<;>rcases cE.1 hb with rfl|S5
  ·rfl
  ·exact aS (dY.2 ⟨b,S5,h.symm⟩) hn.1
  ·exact aS (dY.2 ⟨a,FU,h⟩) hn.1
  exact Pc hn.2 FU S5 h
structure L5 where
 op:Nat
 d:Nat
 c:List C
 T:Nat
def ahv(fl:List L5)(bs:Nat->Nat)(e:cX):cX:=fl.foldr (fun f e=>(f.d, .pointer (some ⟨bs f.op,0,none⟩))::e) e
def xq(fl:List L5)(A:List Nat)(bs:Nat->Nat):List aF:=fl.map fun f=>opt (f.op∉A) (N (bs f.op) f.c f.T)
def sL{A:aF}:∀{M ai:List aF},dE A (M++A::ai) (M++ai)
 |[],ai=> .here
 |B::M,ai=> .there sL
def Ys{ai:List aF}{B:aF}(h:aw G (bt (M++A::ai)::B::R) w):aw G (bt (M++B::ai)::R) w:=by
 have Y:=h.eY;rw[gm,nI]at Y;have J:=Y.drop sL;rw[<-gm]at J
 have h3:=J.pick (A:=B) (R:=(M++ai)++R) sL;refine aw.bJ ?_;rw[gm,nI];rw[gm]at h3;exact h3.Tn sL
def UH{fl:List L5}{A:List Nat}{bs:Nat->Nat}{f:L5}{b0:Nat}(hn:(fl.map L5.op).Nodup)(hA:A.Nodup)(hf:f∈fl)(hfA:f.op∈A)(h:aw G (bt (xq fl A bs)::N b0 f.c f.T::R) w):
  aw G (bt (xq fl (A.erase f.op) (fun o=>if o=f.op then b0 else bs o))::R) w:=by
 obtain⟨M,ai,rfl⟩:=O4 hf;rw[jX,ey,Hv,Bx]at hn;obtain⟨Y,⟨J,h3⟩,h4⟩:=hn;have e:∀g:L5,g.op≠f.op->opt (g.op∉A.erase f.op) (N (if g.op=f.op then b0 else bs g.op) g.c g.T)=opt (g.op∉A) (N (bs g.op) g.c g.T):=fun g hg=>by
  have e1:(g.op∉A.erase f.op)=(g.op∉A):=propext (by rw[ZO hg]);rw[e1,aj hg]
 have eM:xq M (A.erase f.op) (fun o=>if o=f.op then b0 else bs o)=xq M A bs:=QW fun g hg=>e g (fun E=>h4 _ (dY.2 ⟨g,hg,rfl⟩) _ (kf ..) E)
 have eN:xq ai (A.erase f.op) (fun o=>if o=f.op then b0 else bs o)=xq ai A bs:=QW fun g hg=>e g (fun E=>J (dY.2 ⟨g,hg,E⟩))
 have eS:∀(A:List Nat) (bs:Nat->Nat),xq (M++f::ai) A bs=xq M A bs++opt (f.op∉A) (N (bs f.op) f.c f.T)::xq ai A bs:=fun A bs=>by unfold xq;rw[jX,ey]
 rw[eS]at h ⊢;rw[eM,eN,aB rfl];have tU:f.op∉A.erase f.op:=fun E=>((List.Nodup.mem_erase_iff hA).1 E).1 rfl
 refine Ys (A:=opt (f.op∉A) (N (bs f.op) f.c f.T)) ?_;exact(afh (c:=f.op∉A.erase f.op) (h.b [N b0 f.c f.T])).b [bt _]
def Yc:∀{fl:List L5} {bs:Nat->Nat} {G:Gh} {R:List aF} {w:ae},aw G (bt (xq fl [] bs)::R) w->aw G ((fl.map fun f=>N (bs f.op) f.c f.T)++R) w:=fun{fl bs G R w} h=>by
 have Y:=h.eY;clear h
 suffices∀(fl:List L5) (R:List aF) (w:ae),aw G (xq fl [] bs++R) w->aw G ((fl.map fun f=>N (bs f.op) f.c f.T)++R) w from this fl R w Y
 intro fl
 induction fl with
 |nil=>intro R w h;exact h
 |cons f fl ih=>
  intro R w h;have J:=acA sM (show aw G (opt (f.op∉[]) (N (bs f.op) f.c f.T)::(xq fl [] bs++R)) w from h);have h3:aw G (xq fl [] bs++N (bs f.op) f.c f.T::R) w:=J.Tn sL;have h4:=ih _ _ h3;exact h4.pick sL
def UG:∀{fl:List L5} {bs:Nat->Nat} {G:Gh} {R:List aF} {w:ae},aw G R w->aw G (bt (xq fl (fl.map L5.op) bs)::R) w:=fun{fl bs G R w} h=>by
 refine aw.bJ ?_
 suffices∀(gl:List L5),(∀f∈gl,f.op∈fl.map L5.op)->aw G (xq gl (fl.map L5.op) bs++R) w from this fl (fun f hf=>dY.2 ⟨f,hf,rfl⟩)
 intro gl
 induction gl with
 |nil=>intro _;exact h
 |cons f gl ih=>intro hg;exact afg (not_not_intro (hg f (kf ..))) (ih fun g E=>hg g (kG _ E))
def KJ{n:Nat}{e:cX}{a:Act}{bs:Nat->Nat}(h:dZ n e a):∀(fl:List L5),(∀f∈fl,f.d≠1000000000/\a.tmps.getD f.d undef= .pointer (some ⟨bs f.op,0,none⟩))->dZ n (ahv fl bs e) a
 |[],_=>h
 |f::fl,hf=>(KJ h fl fun g hg=>hf g (kG _ hg)).ah3 (hf f (kf ..)).2 (hf f (kf ..)).1
def ahw(O:Array aP)(i':List (List Nat))(fl:List L5):Bool:=decide ((fl.map L5.op).Nodup)&&decide ((fl.map L5.d).Nodup)&&i'.all fun s=>fl.all fun f=>!(HS O s).contains f.d
def Wc{e1:cX}(hs:si e1 e)(h:xQ P n O q e1 w):xQ P n O q e w:=fun o ho a ha=>h o ho a (ha.sub hs)
section
variable{K:jF}{E0:List (Nat×jF)}{F0:jF}
def Vb{id:Nat}{α:Nat->Type}(pre:List Nat)(i':List (List Nat))(fl:List L5)(post rq:List Nat)(hx:∀k,α k->cX)(L:∀k,α k->List aF)(hm:P.follows .mixedOrders=true)(hB:ae7 P O n pre i' (fl.map L5.op) post=true)(hB2:ahw O i' fl=true)(CY:∀f∈fl,∃t p af,O[f.op]?=some ⟨some f.d, .alloc f.T,t,p,af,none⟩/\cd P f.T=some f.c.toArray/\Nat.blt f.d n=true/\∀q∈gZ P O true (List.range O.size) f.op,q∈rq)(MB:∀k x,Ki (fl.map L5.d) (hx k x)=true)(hrq:∀k,k<=i'.length->∀x w F,aw G (F::L k x) w->∀q∈rq,xQ P n O q (hx k x) w)(h0:XL P n O true [] pre (fun e' w'=>∃x,si (hx 0 x) e'/\aw G (L 0 x) w') e {w with drawn:=w.drawn+1})(hs:∀k seg,i'[k]?=some seg->∀x w F,aw G (F::L k x) w->XL P n O true (List.range O.size) seg (fun e' w'=>∃x',si (hx (k+1) x') e'/\aw G (F::L (k+1) x') w') (hx k x) w)(hp:∀x w bs,aw G ((fl.map fun f=>N (bs f.op) f.c f.T)++L i'.length x) w->XL P n O true (List.range O.size) post K (ahv fl bs (hx i'.length x)) w):X P n ro (.region id O true) K E0 F0 e w:=fun a0 ha0=>by
 simp only[ahw,gG,decide_eq_true_eq,w5,TE]at hB2;obtain⟨⟨hn1,hn2⟩,hn3⟩:=hB2;have rY:=ha0.small;refine Ho hm hB ha0.size (fun S A a w=>∃k x bs,S=i'.drop k/\k<=i'.length/\A.Nodup/\(∀b∈A,∃f∈fl,f.op=b)/\dZ n (hx k x) a/\(∀f∈fl,f.op∉A->a.tmps.getD f.d undef= .pointer (some ⟨bs f.op,0,none⟩))/\aw G (bt (xq fl A bs)::L k x) w) ?_ ?_ ?_ ?_
 ·rintro s ss A a w ⟨k,x,bs,hS,hk,hA,hAf,Kf,hfs,Z⟩;have IN:k<i'.length:=by
   refine vC fun h=>?_
   rw[vB H]at hS;cases hS
  have hd:=Ms IN;rw[hd]at hS;obtain⟨rfl,rfl⟩:=List.cons.inj hS;have hsk:i'[k]?=some i'[k]:=dG IN;have Y:=hs k _ hsk x w _ Z a Kf;have hS:∀i∈i'[k],∀o,O[i]?=some o->∀t,o.dst=some t->(HS O i'[k]).contains t=true:=fun i hi o ho=>Es hi ho
  refine uK (fun a' w' ⟨⟨e',X1,x',aaL,mP⟩,hkp⟩=>?_) _ _ _ _ (E7 _ _ _ _ hS Y);exact⟨k+1,x',bs,rfl,IN,hA,hAf,X1.sub aaL,fun f hf hfA=>(hkp.same _ (hn3 _ (fK hsk) f hf)).trans (hfs f hf hfA),mP⟩
 ·rintro S A b a w hb ⟨k,x,bs,hS,hk,hA,hAf,Kf,hfs,Z⟩;obtain⟨f,hf,rfl⟩:=hAf b hb;obtain⟨t,p,af,ho,hz,hd,hpd⟩:=CY f hf;have Y:XL P n O true (List.range O.size) [f.op] (fun e' w'=>∃b0,e'=(f.d,pQ b0)::hx k x/\aw G (N b0 f.c f.T::bt (xq fl A bs)::L k x) w') (hx k x) w:=by
   refine kX (hd:=hd) (hg:=trivial) ho hz Z (fun w' b0 mP q hq=>?_) (fun w' b0 mP=>aK ⟨b0,rfl,mP⟩);have J:=hrq k hk x w' (bt [N b0 f.c f.T,bt (xq fl A bs)]) (aw.bJ (M:=[_,_]) mP) q (hpd q hq);intro o Oc a' FU;refine J o Oc a' (FU.sub ⟨fun t v hv=>?_,?_⟩)
   ·have oS:f.d≠t:=fun e=>by
     have h3:=xp (MB k x) hv;rw[<-e]at h3;have h4:(fl.map L5.d).contains f.d=true:=FB.2 (dY.2 ⟨f,hf,rfl⟩);rw[h4]at h3;cases h3
    simp only[get,qx oS,ZA,cond];exact hv
   refine(mi ?_).symm;have:=acm hd;omega
  have hS':∀i∈[f.op],∀o,O[i]?=some o->∀t,o.dst=some t->(HS O [f.op]).contains t=true:=fun i hi o ho=>Es hi ho
  refine uK (fun a' w' ⟨⟨e',X1,b0,hee,mP⟩,hkp⟩=>?_) _ _ _ _ (E7 _ _ _ _ hS' (Y a Kf));subst hee;have hdn:f.d≠1000000000:=by have:=acm hd;omega
  refine⟨k,x,fun o=>if o=f.op then b0 else bs o,hS,hk,hA.erase _,fun c hc=>hAf c (List.mem_of_mem_erase hc),X1.sub ⟨fun t v hv=>?_,(mi hdn).symm⟩,fun g hg hgA=>?_,?_⟩
  ·have oS:f.d≠t:=fun e=>by
    have h3:=xp (MB k x) hv;rw[<-e]at h3;have h4:(fl.map L5.d).contains f.d=true:=FB.2 (dY.2 ⟨f,hf,rfl⟩);rw[h4]at h3;cases h3
   simp only[get,qx oS,ZA,cond];exact hv
  ·by_cases hgf:g.op=f.op
   ·have e1:g=f:=Pc hn1 hg hf hgf;subst e1
    show a'.tmps.getD g.d undef= .pointer (some ⟨if g.op=g.op then b0 else bs g.op,0,none⟩)
    rw[aB rfl];exact X1.get g.d _ (by simp only[get,Ty,qx hdn,ZB,Bool.and_true,cond])
   simp only[aj hgf];have aiL:g.op∉A:=fun h=>hgA ((ZO hgf).2 h)
   refine(hkp.same _ ?_).trans (hfs g hg aiL);have e1:HS O [f.op]=[f.d]:=by simp[HS,ho]
   rw[e1];cases hc:[f.d].contains g.d with
   |false=>rfl
   |true=>
    exfalso;have hc:=FB.1 hc;rw[Hw]at hc;exact hgf (aU L5.op (Pc hn2 hg hf hc))
  exact UH hn1 hA hf hb (mP.b [bt _])
 ·rintro a w ⟨k,x,bs,hS,hk,hA,hAf,Kf,hfs,Z⟩;have RP:k=i'.length:=by
   refine vC fun h=>?_
   have:=aU List.length hS;rw[jm]at this;simp at this;omega
  subst RP;refine hp x w bs (Yc Z) a (KJ Kf fl fun f hf=>⟨?_,hfs f hf sM⟩);obtain⟨t,p,af,ho,hz,hd,hpd⟩:=CY f hf;have:=acm hd;omega
 have Y:=h0 a0 ha0;refine uK (fun a' w' ⟨e',X1,x,aaL,mP⟩=>?_) _ _ _ _ Y;exact⟨0,x,fun _=>0,rfl,de _,hn1,fun b hb=>by
   obtain⟨f,hf,rfl⟩:=dY.1 hb;exact⟨f,hf,rfl⟩,X1.sub aaL,fun f hf hfA=>aS (dY.2 ⟨f,hf,rfl⟩) hfA,UG mP⟩
end
def WU(d:Nat)(w:ae)(a:Cf):(Op.equalIn (d+2) 72 (gQ (M6 a)) (gQ (M6 a))).run prog w= .ok true w:=by
 have hf:((prog.fieldsOf 72).toList.map fun f=>(f.name != "_",f.type,f.offset))=[(true,3,0),(true,3,1),(true,3,2)]:=by kernel_rfl
 obtain⟨f1,f2,f3,h,Y,J,h3⟩:=agS hf;have hu:prog.underlying 3=some (.int .i64):=dD;simp only[Prod.mk.injEq,bne_iff_ne,ne_eq]at Y J h3;have hp:∀(xs:Array C) (o:Nat) (v:C) (w:ae),xs[o]?=some v->(part 3 xs o).run prog w= .ok v w:=by
  intro xs o v w hv;exact run_part_plain w kR hv
 rw[run_equalIn_agg _ _ _ _ _ kR kR,h];simp[Op.eqFields,Y,J,h3,hp,M6,run_equalIn_int _ _ _ _ _ _ _ hu]
def ab8(l:List (Int×Tr)):∀r∈l.map cA,r.length=4:=fun r hr=>by obtain⟨x,-,rfl⟩:=dY.1 hr;rfl
def Gg{rv':C}(Z:aw G L w)(ka:aL L (jk 4 rv (s.roots.map cA)))(kb:aL L (jk 4 rv' (s.roots.map cA)))(hn:s.roots.length<=1000000000):
  aA prog 31 #[gQ (eH s rv),gQ (eH s rv')] w (bU fun r w'=>r= .bool true/\aw G L w'):=by
 obtain⟨aa,ac,yQ,-,-⟩:=(ka.at Z).form;obtain⟨ba,bc,ajW,-,-⟩:=(kb.at Z).form;refine wF [_,_] func31 ntmps31 ?_;refine wB 2 Z fun w b2 Z=>?_;refine wB 0 Z fun w b3 Z=>?_;refine wD 5 (v:=I s.gen) ag Z ?_;refine wD 1 (v:=I s.gen) ag Z ?_;refine z2 ?_;refine ar (d:=10) rfl (fun Y=>?_) fun Y=>?_
 ·refine z1 ?_;refine bg rfl rfl (aD.xM (cs:=M6 s.cf) fo Z pK rfl rfl) ?_;refine z1 ?_;refine bg rfl rfl (aD.xM (cs:=M6 s.cf) fo Z pK rfl rfl) ?_;refine jS (v:= .bool (decide (s.cf.blocks=s.cf.blocks))) rfl kR rfl rfl (fun w'=>by
   rw[al,run_eqGuard_agg w' _ _ _ _ _ _ kR,ah,run_eql_struct,WU 9998];simp) ?_
  refine z2 ?_;refine ar (d:=17) rfl (fun J=>?_) fun J=>?_
  ·refine wD 1 (v:=I s.next) ag Z ?_;refine wD 1 (v:=I s.next) ag Z ?_;refine z3 ?_;refine ar (d:=24) rfl (fun h3=>?_) fun h3=>?_
   ·refine wD 1 (v:=rv) bD Z ?_;refine wD 1 (v:=rv') bD Z ?_;refine wC rfl EW rfl (Gi (l:=s.roots) (l':=s.roots) Z (ka.of sF) (kb.of sF) hn) fun w Z=>?_
    refine dk 4 ?_;exact⟨by rw[eW rfl],Z.tail.tail⟩
   exact aS rfl h3
  exact aS rfl J
 exact aS rfl Y
def C'(Z:aw G L w)(ka:aL L (jk 4 rv (s.roots.map cA)))(hn:s.roots.length<=1000000000):
  aA prog 26 #[gQ (eH s rv)] w (bU fun r w'=>∃u:C,r=gQ (eH s u)/\aw G (row 69 4 u s.roots.length (s.roots.map cA).flatten::L) w'):=by
 obtain⟨aa,ac,yQ,-,-⟩:=(ka.at Z).form;rw[cg]at yQ;subst yQ;refine wF [_] func26 ntmps26 ?_;refine wB 2 Z fun w b1 Z=>?_;refine wL 0 yU Z fun w b2 Z=>?_;refine wD 4 (v:=I s.gen) ag Z ?_;refine z1 ?_;refine bg rfl rfl (aD.xM (cs:=M6 s.cf) fo Z pK rfl rfl) ?_;refine wD 1 (v:=I s.next) ag Z ?_;refine wV 0 (v:=gQ (eH s (nQ))) ?_;refine wL 0 yU Z fun w b3 Z=>?_;refine wN 0 (cs:=eH s (nQ)) (l':=eH s (nQ)) br (by intro u hu;simp[eH]at hu;rcases hu with rfl|rfl|rfl|rfl|rfl|rfl<;>rfl) Z (fun w Z=>?_);refine z7 ?_;have Z:=bB Z 69 4;refine bx (fun m e w=>∃(i:Nat) (u:C),i<=s.roots.length/\m=s.roots.length-i/\e=[(1,pQ b1),(2,pQ b2),(3,pQ b3),(4,I i)]/\aw G (row 69 4 u i ((s.roots.take i).map cA).flatten::N b3 (eH s u) 74::N b2 [I 0,I 0,I 0,I 0,I 0,nQ] 74::N b1 (eH s (.slice aa s.roots.length ac)) 74::L) w)
  (m:=s.roots.length) sB
  ⟨0,_,de _,rfl,rfl,Z⟩ ?_
 rintro m e w ⟨i,u,hi,rfl,rfl,Z⟩;refine wD 5 (v:= .slice aa s.roots.length ac) bD Z ?_;refine eE rfl kR bp rfl ?_;refine wI 2 (fun Y=>?_) fun Y=>?_
 ·have lR:i<s.roots.length:=H;obtain⟨x,E⟩:∃x,s.roots[i]?=some x:=⟨_,dG lR⟩;have kA:(s.roots.map cA)[i]?=some (cA x):=by rw[dh,E];rfl
  obtain⟨rb,ro,hra⟩:=((ka.of sF).at Z).nn (by rw[cg];omega);cases hra;refine z3 ?_;refine wQ [0,1,2,3,4,5,6,7,8,9,10] Z fun Z=>?_
  refine wD 1 (v:=u) bD Z ?_;refine wD 1 (v:= .slice (some ⟨rb,ro,none⟩) s.roots.length ac) bD Z ?_;refine wX 1 bp dx ?_;refine bg rfl rfl (aD.many (cs:=cA x) fM rfl (by rw[cZ];exact((ka.of sF).at Z).at kA)) ?_;refine Y' (cs:=cA x) rfl bp dx GO dM rfl rfl rfl Z (fun w b26 Z q' hq=>by have hq:=bK (l:=[1]) kR hq;simp only[cE,fQ,or_false]at hq;subst hq;exact bG rfl rfl rfl (aD.cw bD Z pK rfl)) (fun w b26 Z=>?_);refine eF (m:=i) (k:=1) (news:=cA x) rfl bp dx Sv GO rfl rfl Z pK (Rd.iq Z pK) rfl (by intro u hu;simp[cA,dI]at hu;rcases hu with rfl|rfl|rfl|rfl<;>rfl) mL H kR (fun w v27 Z=>?_);have h27:v27.oneCell'=true:=by obtain⟨x1,x2,h⟩:=aT Z;rw[h];rfl
  refine z1 ?_;refine rU (l':=eH s v27) rfl tV rfl rfl bD h27 Z pK (by simp[eH]) rfl kR fun w Z=>?_;refine z6 ?_;have hz:=(Z.b [N b26 _ _,row 69 4 v27 _ _,N b3 _ _,N b2 _ _,N b1 _ _]).tail;have e1:((s.roots.take i).map cA).flatten++cA x=((s.roots.take (i+1)).map cA).flatten:=by rw[bV E,jX,List.flatten_append];simp
  rw[e1]at hz;exact⟨s.roots.length-(i+1),H,[(1,_),(2,_),(3,_),(4,I (i+1:Nat))],sB,i+1,_,H,rfl,rfl,hz⟩
 have VQ:i=s.roots.length:=H;subst VQ;rw[qS]at Z;refine wA 3 (l:=eH s u) br Z ?_;refine wN 0 (cs:=eH s u) (l':=eH s u) br (by obtain⟨ua,uc,rfl⟩:=aT Z;intro u hu;simp[eH]at hu;rcases hu with rfl|rfl|rfl|rfl|rfl|rfl<;>rfl) Z (fun w Z=>?_);refine z2 ?_;exact dt rfl rfl ⟨_,rfl,(aD.dB (l:=eH s u) br Z pK rfl)⟩ ⟨u,rfl,(Z.b [N b3 _ _,N b2 _ _,N b1 _ _,row 69 4 u _ _]).t3⟩
def H5{x y:cP}(Z:aw G L w)(E:x.Ok L)(hy:y.Ok L)(he:x.it=y.it):aA prog 158 #[gQ x.cells,gQ y.cells] w (bU fun r w'=>r= .bool true/\aw G L w'):=by
 obtain⟨i,xk,xv⟩:=x;obtain⟨j,yk,yv⟩:=y;have he:i=j:=he;subst he;have k1:=E.k;have k2:=E.v;have k3:=hy.k;have k4:=hy.v;have hsk:i.key.length<=140737488355328:=E.sk;have G6:i.value.length<=140737488355328:=E.sv;simp only at k1 k2 k3 k4;refine wF [_,_] func158 ntmps158 ?_;refine wB 2 Z fun w b2 Z=>?_;refine wB 0 Z fun w b3 Z=>?_;refine wD 5 (v:=I i.child) ag Z ?_;refine wD 1 (v:=I i.child) ag Z ?_;refine z2 ?_;refine ar (d:=10) rfl (fun Y=>?_) fun Y=>?_
 ·refine wD 1 (v:=I i.size) ag Z ?_;refine wD 1 (v:=I i.size) ag Z ?_;refine z3 ?_;refine ar (d:=17) rfl (fun J=>?_) fun J=>?_
  ·refine wD 1 (v:=xk) ao Z ?_;refine wD 1 (v:=yk) ao Z ?_;refine wC rfl jC rfl (jZ Z (k1.of sF) (k3.of sF) hsk hsk) fun w Z=>?_
   refine z2 ?_;refine ar (d:=24) rfl (fun h3=>?_) fun h3=>?_
   ·refine wD 1 (v:=xv) ao Z ?_;refine wD 1 (v:=yv) ao Z ?_;refine wC rfl jC rfl (jZ Z (k2.of sF) (k4.of sF) G6 G6) fun w Z=>?_
    refine dk 4 ?_;exact⟨by rw[eW rfl],Z.tail.tail⟩
   exact aS rfl h3
  exact aS rfl J
 exact aS rfl Y
def H4{p q:dL}(Z:aw G L w)(hp:p.Ok L)(hq:q.Ok L)(he:p.pg=q.pg):aA prog 84 #[gQ p.cells,gQ q.cells] w (bU fun r w'=>r= .bool true/\aw G L w'):=by
 obtain⟨pk,pl,pi,ps,pd,pb,pn⟩:=p;obtain⟨qk,ql,qi,qs,qd,qb,qn⟩:=q;simp only[dL.pg,Pg.mk.injEq]at he;obtain⟨rfl,rfl,hii,rfl,rfl⟩:=he;have k1:=hp.its.sl;have k2:=hq.its.sl;have k3:=hp.data;have k4:=hq.data;have hsd:pb.length<=140737488355328:=hp.sd;have wz:=hp.its.len;have hiq:=hp.its.it;have hjq:=hq.its.it;simp only at k1 k2 k3 k4 wz hiq hjq
 have sP:pi.length=qi.length:=by have:=aU List.length hii;simpa using this
 obtain⟨pa,pc,oR,-,-⟩:=(k1.at Z).form;rw[cg]at oR;subst oR;obtain⟨qa,qc,hqs,-,-⟩:=(k2.at Z).form;rw[cg]at hqs
 subst hqs;refine wF [_,_] func84 ntmps84 ?_;refine wB 2 Z fun w b2 Z=>?_;refine wB 0 Z fun w b3 Z=>?_;refine wD 6 (v:=I pk) ag Z ?_;refine wD 1 (v:=I pk) ag Z ?_;refine z2 ?_;refine ar (d:=11) rfl (fun Y=>?_) fun Y=>?_
 ·exact aS rfl Y
 refine wD 1 (v:=I pl) ag Z ?_;refine wD 1 (v:=I pl) ag Z ?_;refine z3 ?_;refine ar (d:=18) rfl (fun J=>?_) fun J=>?_
 ·exact aS rfl J
 refine wD 1 (v:=I pn) ag Z ?_;refine wD 1 (v:=I pn) ag Z ?_;refine z3 ?_;refine ar (d:=25) rfl (fun h3=>?_) fun h3=>?_
 ·exact aS rfl h3
 refine wD 1 (v:= .slice pa pi.length pc) aH Z ?_;refine eE rfl kR aV rfl ?_;refine wD 1 (v:= .slice qa qi.length qc) aH Z ?_;refine eE rfl kR aV rfl ?_;refine z3 ?_;refine ar (d:=34) rfl (fun h4=>?_) fun h4=>?_
 ·exact aS (by rw[sP]) h4
 refine wD 1 (v:=pd) ao Z ?_;refine wD 1 (v:=qd) ao Z ?_;refine wC rfl jC rfl (jZ Z (k3.of sF) (k4.of sF) hsd hsd) fun w Z=>?_
 refine cU rfl rfl ?_;refine wI 2 (fun h5=>?_) fun h5=>?_
 ·exact aS rfl h5
 refine z7 ?_;refine bx (fun m e w=>∃i:Nat,i<=pi.length/\m=pi.length-i/\e=[(2,pQ b2),(3,pQ b3),(5,I i)]/\aw G (N b3 [I pk,I pl, .slice qa qi.length qc,qd,I pn] 104::N b2 [I pk,I pl, .slice pa pi.length pc,pd,I pn] 104::L) w)
  (m:=pi.length) sB
  ⟨0,de _,rfl,rfl,Z⟩ ?_
 rintro m e w ⟨i,hi,rfl,rfl,Z⟩;refine wD 5 (v:= .slice pa pi.length pc) aH Z ?_;refine wI 3 (fun h6=>?_) fun h6=>?_
 ·have lR:i<pi.length:=H;obtain⟨x,E⟩:∃x,pi[i]?=some x:=⟨_,dG lR⟩;obtain⟨y,hy⟩:∃y,qi[i]?=some y:=⟨_,dG H⟩;have hxy:x.it=y.it:=by
   have h:=aU (fun l=>l[i]?) hii;simp only[dh,E,hy,Js,Option.some.injEq]at h;exact h
  obtain⟨xb,xo,hxa⟩:=((k1.of sF).at Z).nn (by rw[cg];omega);cases hxa;obtain⟨yb,yo,hya⟩:=((k2.of sF).at Z).nn (by rw[cg];omega);cases hya;refine z4 ?_;refine wQ [0,1,2,3,4,5,6,7,8,9,10,11] Z fun Z=>?_
  refine wD 1 (v:= .slice (some ⟨xb,xo,none⟩) pi.length pc) aH Z ?_;refine wX 1 aV bz ?_;refine bg rfl rfl (aD.many (cs:=x.cells) bA rfl (by rw[cZ];exact((k1.of sF).at Z).at (by rw[dh,E];rfl))) ?_;refine wD 1 (v:= .slice (some ⟨yb,yo,none⟩) qi.length qc) aH Z ?_;refine wX 1 aV bz ?_;refine bg rfl rfl (aD.many (cs:=y.cells) bA rfl (by rw[cZ];exact((k2.of sF).at Z).at (by rw[dh,hy];rfl))) ?_;refine wC rfl GA rfl (H5 Z ((hiq x (fK E)).of sF) ((hjq y (fK hy)).of sF) hxy) fun w Z=>?_
  refine nh rfl rfl ?_;refine aK ?_;refine fJ rfl (fun h7=>?_) fun h7=>?_
  ·cases h7
  refine z6 ?_;exact⟨pi.length-(i+1),H,[(2,_),(3,_),(5,I (i+1:Nat))],sB,i+1,H,rfl,rfl,Z⟩
 refine dk 6 ?_;exact⟨rfl,Z.tail.tail⟩
def dF:Nat->Nat->List UInt8
 |0,_=>[]
 |n+1,x=>UInt8.ofNat (x%256)::dF n (x/256)
def dy:∀(n x:Nat),(dF n x).length=n
 |0,_=>rfl
 |n+1,x=>by simp[dF,dy n]
def II:∀(n x:Nat),x<256^n->jP (dF n x)=x
 |0,x,h=>by simp at h;subst h;rfl
 |n+1,x,h=>by
  rw[dF,jP,II n _ (by rw[Hs]at h;omega)];have:(UInt8.ofNat (x%256)).toNat=x%256:=by simp[UInt8.toNat_ofNat']
  rw[this];omega
def IJ:∀(l:List UInt8),dF l.length (jP l)=l
 |[]=>rfl
 |x::l=>by
  have E:x.toNat<256:=x.toNat_lt;have e1:(x.toNat+256*jP l)%256=x.toNat:=H;have e2:(x.toNat+256*jP l)/256=jP l:=H;simp only[kZ,jP,dF,e1,e2,IJ l];simp
def D8{l:List UInt8}(h:l.length<=n):jP l<256^n:=by
 have:=py l;have J:(2:Nat)^(8*l.length)<=2^(8*n):=ZM dM H;have h3:(2:Nat)^(8*n)=256^n:=by rw[Nat.pow_mul]
 omega
def aa5(a:wv):IntKind.u32.wrap ((a.toNat:Int).tdiv 2)=((a>>>1).toNat:Int):=by
 have e:((a.toNat:Nat):Int).tdiv 2=((a.toNat/2:Nat):Int):=by rw[ae8 H];simp
 have:=a.isLt;rw[e,w32 H]
 congr 1
def aep(a:wv):((a.toNat:Int).tmod 2=1)↔a.getLsbD 0=true:=by
 rw[Int.tmod_eq_emod_of_nonneg H];unfold BitVec.getLsbD;rw[Nat.testBit_zero];simp;omega
def agk{a:wv}(h:a.getLsbD 0=true):R1 a=(a>>>1)^^^2197175160#32:=by unfold R1;rw[h];simp
def Zk(a:wv)(x:UInt8):Zl a x=Rn 8 (a^^^BitVec.ofNat 32 x.toNat):=by unfold Zl;rw[QI,QI,<-abF]
def We(y:Nat):IntKind.u8.wrap (y:Int)=(((UInt8.ofNat (y%256)).toNat:Nat):Int):=by
 show(y:Int)%(2^8:Int)=_
 simp only[UInt8.toNat_ofNat'];omega
def JT:∀(k x:Nat),dF (k+1) x=dF k x++[UInt8.ofNat (x/256^k%256)]
 |0,x=>by simp[dF]
 |k+1,x=>by
  rw[dF,JT k (x/256),TL,dF,nI,Hs,Nat.mul_comm 256]
def M0{x:wv}(Z:aw G L w):aA prog 345 #[u32 x] w (bU fun r w'=>r=u32 (R1 x)/\aw G L w'):=by
 refine wF [_] func345 ntmps345 ?_;refine z8 ?_;refine aee rfl rfl rfl H ?_;refine wI 2 (fun Y=>?_) fun Y=>?_
 ·refine z3 ?_;refine U' rfl rfl rfl H ?_;refine aed rfl rfl rfl ?_;refine dk 3 ?_;exact⟨by rw[agk ((aep x).1 Y),aa5];exact aU (Value.int .u32) (Nw (x>>>1) 2197175160#32),Z⟩
 refine z4 ?_;refine U' rfl rfl rfl H ?_;refine dk 3 ?_;exact⟨by rw[Fa (by cases hb:x.getLsbD 0 with|false=>rfl|true=>exact aS ((aep x).2 hb) Y),aa5],Z⟩
def K4{x:wv}(Z:aw G L w):aA prog 312 #[u32 x] w (bU fun r w'=>r=u32 (Rn 8 x)/\aw G L w'):=by
 refine wF [_] func312 ntmps312 ?_;refine B' ?_;refine bx (fun m e w=>∃(k:Nat) (y:wv),k<=8/\m=8-k/\Rn (8-k) y=Rn 8 x/\e=[(0,u32 y),(3,I k)]/\aw G L w)
  (m:=8) sB
  ⟨0,x,de _,rfl,rfl,rfl,Z⟩ ?_
 rintro m e w ⟨k,y,hk,rfl,hy,rfl,Z⟩;refine wI 6 (fun Y=>?_) fun Y=>?_
 ·refine z5 ?_;refine wC rfl LA rfl (M0 (x:=y) Z) fun w Z=>?_
  refine z7 ?_;exact⟨8-(k+1),H,[(0,u32 (R1 y)),(3,I (k+1:Nat))],sB,k+1,R1 y,H,rfl,by rw[<-hy,show 8-k=(8-(k+1))+1 by omega];rfl,rfl,Z⟩
 refine dk 7 ?_;exact⟨by rw[<-hy,show 8-k=0 by omega];rfl,Z⟩
def R9{w0:wv}(Z:aw G L w)(kl:aL L (eB v l))(hl:l.length<=1000000000000):
  aA prog 239 #[u32 w0,v] w (bU fun r w'=>r=u32 (onB w0 l)/\aw G L w'):=by
 obtain⟨a,cap,rfl⟩:=(kl.at Z).form;refine wF [_,_] func239 ntmps239 ?_;refine B' ?_;refine bx (fun m e w=>∃(k:Nat) (w1:wv),k<=l.length/\m=l.length-k/\w1=onB w0 (l.take k)/\e=[(0,u32 w1),(1, .slice a l.length cap),(5,I k)]/\aw G L w)
  (m:=l.length) sB
  ⟨0,w0,de _,rfl,rfl,rfl,Z⟩ ?_
 rintro m e w ⟨k,w1,hk,rfl,Uf,rfl,Z⟩;refine wI 8 (fun Y=>?_) fun Y=>?_
 ·have gn:k<l.length:=H;obtain⟨bb,oo,rfl⟩:=(kl.at Z).nn H;obtain⟨x,E⟩:∃x,x=l.getD k 0:=⟨_,rfl⟩;refine wY 7 aR bo ?_;refine bg rfl rfl (aD.one (v:=bv x) dN (by have h:=(kl.at Z).at (i:=(k:Int)) ⟨H,H⟩;rw[E];exact h)) ?_;refine CF rfl kR ig mN rfl ?_;refine OK (v:=((w1^^^BitVec.ofNat 32 x.toNat).toNat:Int)) rfl rfl rfl (by rw[abq];exact Nw _ _) ?_;refine wC rfl Ii rfl (K4 (x:=w1^^^BitVec.ofNat 32 x.toNat) Z) fun w Z=>?_
  refine z7 ?_;exact⟨l.length-(k+1),H,[(0,u32 (Rn 8 (w1^^^BitVec.ofNat 32 x.toNat))),(1,_),(5,I (k+1:Nat))],sB,k+1,_,H,rfl,by rw[eu l k 0 gn,CN,<-Uf,<-Zk,E];rfl,rfl,Z⟩
 refine dk 7 ?_;exact⟨by rw[Uf,kH H],Z⟩
def zZ(Z:aw G L w)(kl:aL L (eB v l))(hl:l.length<=1000000000000):
  aA prog 148 #[v] w (bU fun r w'=>r=u32 (s0 l)/\aw G L w'):=by
 refine wF [_] func148 ntmps148 ?_;refine z7 ?_;refine wC rfl P6 rfl (R9 (w0:= ~~~0#32) Z kl hl) fun w Z=>?_
 refine Nz (v:=((s0 l).toNat:Int)) rfl rfl (aeE _) ?_;refine dk 3 ?_;exact⟨rfl,Z⟩
def H3(Z:aw G L w)(E:x<18446744073709551616)(hn:n<=8):
  aA prog 243 #[.int .u64 x,I n] w (bU fun r w'=>aw G (row 5 1 r n (cI (dF n x))::L) w'):=by
 refine wF [_,_] func243 ntmps243 ?_;refine z14 ?_;have Z:=bB Z 5 1;refine bx (fun m e w=>∃(k y:Nat) (u:C),k<=n/\m=n-k/\y=x/256^k/\e=[(0, .int .u64 y),(1,I n),(5,u),(6,I k)]/\aw G (row 5 1 u k (cI (dF k x))::L) w)
  (m:=n) (e₀:=[(0, .int .u64 x),(1,I n),(5,nQ),(6,I (0:Nat))]) sB
  ⟨0,x,_,de _,rfl,by simp,rfl,Z⟩ ?_
 rintro m e w ⟨k,y,u,hk,rfl,hy,rfl,Z⟩;refine wI 7 (fun Y=>?_) fun Y=>?_
 ·have hyx:y<=x:=by rw[hy];exact Nat.div_le_self _ _
  obtain⟨ua,uc,rfl⟩:=aT Z;refine z7 ?_;refine cJ (v:=(((UInt8.ofNat (y%256)).toNat:Nat):Int)) rfl kR dK ig rfl (We y) ?_;refine fb (cs:=[bv (UInt8.ofNat (y%256))]) rfl aR bo eU dM rfl rfl rfl Z rfl fun w b15 Z=>?_;refine eF (m:=k) (k:=1) (news:=[bv (UInt8.ofNat (y%256))]) rfl aR bo fF eU rfl rfl Z pK (Rd.iq Z pK) rfl (Bd _) mL H rfl fun w v16 Z=>?_;refine z4 ?_;refine U' rfl rfl rfl H ?_;refine z7 ?_;have e1:IntKind.u64.wrap ((y:Int).tdiv 256)=((x/256^(k+1):Nat):Int):=by
   have e:((y:Nat):Int).tdiv 256=((y/256:Nat):Int):=by rw[ae8 H];simp
   rw[e,SQ H,hy,TL,<-Hs]
  have e2:cI (dF k x)++[bv (UInt8.ofNat (y%256))]=cI (dF (k+1) x):=by rw[JT,<-hy];simp[cI]
  rw[e1];rw[e2]at Z;exact⟨n-(k+1),H,[(0, .int .u64 (x/256^(k+1):Nat)),(1,_),(5,v16),(6,I (k+1:Nat))],sB,k+1,_,v16,H,rfl,rfl,rfl,(Z.b [N b15 _ _,row 5 1 v16 _ _]).tail⟩
 refine z7 ?_;exact dt rfl rfl rfl (by
 have Ql:k=n:=H;subst Ql;exact Z)
def O0(q:Nat)(b:bZ)(k:Nat)(er:Int):aF:=ex fun v:C=>bt [N q [v,I k,I er] 353,row 5 1 v b.length (cI b)]
def Te{x:UInt8}:kW (l++[x])↔kW l/\x=0:=⟨fun h=>⟨fun y hy=>h y (by simp[hy]),h x sM⟩,fun h y hy=>by
 rcases eZ.1 hy with hy|hy
 ·exact h.1 y hy
 ·simp at hy;subst hy;exact h.2⟩
section
variable{b:bZ}
def Jn(Z:aw G (O0 q b k er::R) w):∃v,aw G (N q [v,I k,I er] 353::row 5 1 v b.length (cI b)::R) w:=by
 obtain⟨v,h⟩:=Z.nt;exact⟨v,h.eY⟩
def DU(Z:aw G (N q [v,I k,I er] 353::row 5 1 v b.length (cI b)::R) w):aw G (O0 q b k er::R) w:=
 aw.oU v (aw.bJ (M:=[N q [v,I k,I er] 353,row 5 1 v b.length (cI b)]) Z)
def Zy{c:List C}(Z:aw G (N q [v,I k,I er] 353::row 5 1 v b.length (cI b)::row 5 1 u n c::R) w):aw G (row 5 1 u n c::O0 q b k er::R) w:=by
 have h:=DU Z;exact h.b [row 5 1 u n c]
def C9(Z:aw G L w)(kl:aL L (eB v b))(hl:b.length<=1000000000000):aA prog 153 #[v] w (bU fun r w'=>∃q,r=pQ q/\aw G (O0 q b 0 0::L) w'):=by
 refine wF [_] func153 ntmps153 ?_;refine z7 ?_;refine aO rfl bX rfl (cy Z kl H) rfl fun w v4 hv=>?_;have Z:=hv;obtain⟨a4,c4,rfl⟩:=aT Z;refine wV 0 (v:= .agg #[.slice a4 b.length c4,I 0,I 0]) ?_;refine wB 0 Z fun w b6 Z=>?_;refine dk 3 ?_;exact⟨b6,rfl,DU (k:=0) Z⟩
def zY{e:Int}(Z:aw G (N q [v,u,I 0] 353::L) w):aA prog 245 #[pQ q,I e] w (bU fun r w'=>aw G (N q [v,u,I e] 353::L) w'):=by
 refine wF [_,_] func245 ntmps245 ?_;refine wD 5 bP Z ?_;refine wI 2 (fun Y=>?_) fun Y=>?_
 ·refine wS 5 (l':=[_,_,_]) bP Z fun w Z=>?_;refine aK ?_;exact u6 rfl rfl (Z)
 exact aS rfl Y
def rf{a:Option Addr}{c:Nat}(Z:aw G (N q [.slice a n c,I k,u] 353::L) w)(hn:n<=1000000000000)(hk:k<=1000000000000):aA prog 246 #[pQ q] w (bU fun r w'=>r=I ((n:Int)-(k:Int))/\aw G (N q [.slice a n c,I k,u] 353::L) w'):=by
 refine wF [_] func246 ntmps246 ?_;refine z5 ?_;refine wQ [0,1,2,3,4,5,6,7,8,9,10] Z fun Z=>?_
 refine wD 3 ao Z ?_;refine wD 4 ag Z ?_;refine dk 4 ?_;exact⟨rfl,Z⟩
def ab0{bb cap:Nat}(hn:k+n<=b.length)(hc:b.length<=cap):aL (row 5 1 (sQ bb b.length cap) b.length (cI b)::M) (eB (.slice (some ⟨bb,0+((k:Nat):Int).toNat*1,none⟩) (((k:Int)+(n:Int)).toNat-((k:Nat):Int).toNat) (cap-((k:Nat):Int).toNat)) ((b.drop k).take n)):=fun g w Z=>by
 have Y:eB (sQ bb b.length cap) b w:=(eB.row.head M).at Z;have hl:((b.drop k).take n).length=n:=by rw[gJ,jm];omega
 have e1:((k:Int)+(n:Int)).toNat-((k:Nat):Int).toNat=n:=H;rw[e1];refine .inr ⟨bb,0+((k:Nat):Int).toNat*1,cap-((k:Nat):Int).toNat,by rw[hl],by rw[hl];omega,?_⟩;rw[AD,cZ,DV];exact(Y.rdd k).take n
def BT(Z:aw G (O0 q b k 0::L) w)(hn:1<=n)(hk:k+n<=b.length)(hl:b.length<=1000000000000):aA prog 244 #[pQ q,I n] w (bU fun r w'=>aw G (row 5 1 r n (cI ((b.drop k).take n))::O0 q b (k+n) 0::L) w'):=by
 obtain⟨v,Z⟩:=Jn Z;obtain⟨a,cap,rfl⟩:=aT (Z.pick (A:=row 5 1 _ _ _) pK);obtain⟨-,bb,-,HG,hcc,-⟩:=fZ (Z.pick (A:=row 5 1 _ _ _) pK) H;subst HG;have YI:((b.drop k).take n).length=n:=by rw[gJ,jm];omega
 refine wF [_,_] func244 ntmps244 ?_;refine wD 10 bP Z ?_;refine wI 2 (fun Y=>?_) fun Y=>?_
 ·exact aS rfl Y
 refine wI 7 (fun J=>?_) fun J=>?_
 ·exact aS J H
 refine z6 ?_;refine wC rfl p9 rfl (rf Z H H) fun w Z=>?_
 refine wI 2 (fun h3=>?_) fun h3=>?_
 ·exact aS h3 H
 refine z2 ?_;refine wQ [0,1,2,3,4,5,6,7,8,9,10,11,12,13,14,15,16] Z fun Z=>?_
 refine wD 3 ao Z ?_;refine wD 3 ag Z ?_;refine wD 3 ag Z ?_;refine z2 ?_;refine Y9 rfl aR bo rfl rfl rfl ⟨H,H,H⟩ H ?_;refine aO rfl bX rfl (cy (l:=(b.drop k).take n) (Z.b [row 5 1 _ _ _]) (ab0 hk H) (by rw[YI];omega)) kR (fun w v36 hv=>?_);have Z:=hv;rw[YI]at Z;refine wD 7 ag Z ?_;refine wS 4 (l':=[_,_,_]) ag Z fun w Z=>?_;refine z7 ?_;exact dt rfl rfl rfl (by
 have hz:=Z.b [N q _ _,row 5 1 (sQ bb _ _) _ _,row 5 1 v36 _ _];exact Zy (k:=k+n) hz)
def iK(Z:aw G (O0 q b k 0::L) w)(hn:1<=n/\n<=8)(hk:k+n<=b.length)(hl:b.length<=1000000000000):aA prog 154 #[pQ q,I n] w (bU fun r w'=>r= .int .u64 (jP ((b.drop k).take n):Nat)/\aw G (O0 q b (k+n) 0::L) w'):=by
 obtain⟨c,hc⟩:∃c,c=(b.drop k).take n:=⟨_,rfl⟩;have gC:c.length=n:=by rw[hc,gJ,jm];omega
 refine wF [_,_] func154 ntmps154 ?_;refine z8 ?_;refine aO rfl Aw rfl (BT Z H hk hl) rfl fun w v10 hv=>?_;have Z:=hv
 (try unfold sQ at Z);rw[<-hc]at Z
 obtain⟨a,cap,rfl⟩:=aT Z;obtain⟨-,bb,-,HG,hcc,-⟩:=fZ Z H;subst HG;have kl:=gC▸(eB.row (T:=5) (v:= .slice (some ⟨bb,0,none⟩) c.length cap) (l:=c)).head (O0 q b (k+n) 0::L);refine z15 ?_;refine bx (fun m e w=>∃j:Nat,j<=n/\m=j+1/\e=[(5, .slice (some ⟨bb,0,none⟩) n cap),(6, .int .u64 (jP (c.drop j):Nat)),(7,I ((j:Int)-1))]/\aw G (row 5 1 (.slice (some ⟨bb,0,none⟩) n cap) n (cI c)::O0 q b (k+n) 0::L) w)
  (m:=n+1) (e₀:=[(5, .slice (some ⟨bb,0,none⟩) n cap),(6, .int .u64 (0:Nat)),(7,I ((n:Int)-1))]) sB
  ⟨n,fP _,rfl,by rw[vB H];rfl,Z⟩ ?_
 rintro m e w ⟨j,hj,rfl,rfl,Z⟩;refine wI 6 (fun Y=>?_) fun Y=>?_
 ·obtain⟨i,rfl⟩:∃i,j=i+1:=⟨j-1,H⟩;have ei:((i+1:Nat):Int)-1=(i:Int):=H;rw[ei];obtain⟨x,E⟩:∃x,x=c.getD i 0:=⟨_,rfl⟩;have Uw:c.drop i=x::c.drop (i+1):=by
   rw[Ms H,E,ma,dG H];rfl
  have aiX:jP (c.drop i)<18446744073709551616:=aau (by rw[jm];omega);have Ut:jP (c.drop i)=x.toNat+256*jP (c.drop (i+1)):=by rw[Uw];rfl
  refine z5 ?_;refine aef rfl rfl rfl ?_;refine wY 2 aR bo ?_;refine bg rfl rfl (aD.one (v:=bv x) dN (by have h:=(kl.at Z).at (i:=(i:Int)) ⟨H,H⟩;rw[E];exact h)) ?_;refine CF rfl kR ig dK rfl ?_;refine NA rfl rfl rfl ?_;refine z7 ?_;have e1:IntKind.u64.wrap (IntKind.u64.wrap (((jP (c.drop (i+1)):Nat):Int)*256)+IntKind.u64.wrap (x.toNat:Int))=((jP (c.drop i):Nat):Int):=by
   rw[GB,show((jP (c.drop (i+1)):Nat):Int)*256=((jP (c.drop (i+1))*256:Nat):Int) by push_cast;rfl,SQ H,show((jP (c.drop (i+1))*256:Nat):Int)+(x.toNat:Int)=((jP (c.drop i):Nat):Int) by rw[Ut];push_cast;omega];exact SQ aiX
  rw[e1];exact⟨i+1,H,[(5,_),(6, .int .u64 (jP (c.drop i):Nat)),(7,I ((i:Int)-1))],sB,i,H,rfl,rfl,Z⟩
 refine z7 ?_;exact dt rfl rfl rfl (by
 have hj0:j=0:=H;subst hj0;rw[<-hc];exact⟨rfl,Z.tail⟩)
def yz(Z:aw G (O0 q b k 0::L) w)(hk:k<=b.length)(hb:0<b.length)(hl:b.length<=1000000000000):aA prog 155 #[pQ q] w (bU fun r w'=>(kW (b.drop k)/\aw G (O0 q b b.length 0::L) w')\/(¬kW (b.drop k)/\aw G (O0 q b k 5::L) w')):=by
 obtain⟨v,Z⟩:=Jn Z;obtain⟨a,cap,rfl⟩:=aT (Z.pick (A:=row 5 1 _ _ _) pK);obtain⟨-,bb,-,HG,hcc,-⟩:=fZ (Z.pick (A:=row 5 1 _ _ _) pK) hb;subst HG;refine wF [_] func155 ntmps155 ?_;refine wD 6 bP Z ?_;refine wI 2 (fun Y=>?_) fun Y=>?_
 ·exact aS rfl Y
 refine wD 7 ag Z ?_;refine z3 ?_;refine bx (fun m e w=>∃i:Nat,k<=i/\i<=b.length/\m=b.length-i/\kW ((b.drop k).take (i-k))/\e=[(0,pQ q),(2,I i)]/\aw G (N q [sQ bb b.length cap,I k,I 0] 353::row 5 1 (sQ bb b.length cap) b.length (cI b)::L) w)
  (m:=b.length-k) (e₀:=[(0,pQ q),(2,I k)]) sB
  ⟨k,fP _,hk,rfl,(by rw[Tx,DX];exact fun x E=>by cases E),rfl,Z⟩ ?_
 rintro m e w ⟨i,IM,hi,rfl,hz,rfl,Z⟩;refine wD 7 ao Z ?_;refine wI 3 (fun J=>?_) fun J=>?_
 ·have lR:i<b.length:=H;obtain⟨x,E⟩:∃x,x=b.getD i 0:=⟨_,rfl⟩;have zy:(b.drop k).take (i+1-k)=(b.drop k).take (i-k)++[x]:=by
   rw[show i+1-k=(i-k)+1 by omega,rE,QV,show k+(i-k)=i by omega,dG lR,E,ma,dG lR];rfl
  refine wD 8 ao Z ?_;refine wY 1 aR bo ?_;refine bg rfl rfl (aD.one (v:=bv x) dN (by have h:=((eB.row.head _).at (Z.b [row 5 1 _ _ _])).at (i:=(i:Int)) ⟨H,H⟩;rw[E];exact h)) ?_;refine wI 2 (fun h3=>?_) fun h3=>?_
  ·have Qi:x≠0:=fun h=>h3 (by rw[h];rfl)
   refine z3 ?_;refine aO rfl yN rfl (zY Z) rfl fun w v30 hv=>?_;have Z:=hv;refine z2 ?_;exact u6 rfl rfl (.inr ⟨fun h=>Qi (h x (Xb (i:=i+1-k) (by rw[zy];simp))),DU Z⟩)
  have Qi:x=0:=by
   have h3:=dg.1 h3;exact UInt8.toNat_inj.1 (by simpa using h3)
  refine z6 ?_;exact⟨b.length-(i+1),H,[(0,_),(2,I (i+1:Nat))],sB,i+1,H,H,rfl,by rw[zy];exact Te.2 ⟨hz,Qi⟩,rfl,Z⟩
 refine wD 6 ao Z ?_;refine wS 3 (l':=[_,_,_]) ag Z fun w Z=>?_;refine aK ?_;exact u6 rfl rfl (by
 have hib:i=b.length:=H;subst hib;rw[kH (by rw[jm];omega)]at hz;exact .inl ⟨hz,DU Z⟩)
def BU(Z:aw G (O0 q b k er::L) w)(hk:er≠0\/k=b.length)(hl:b.length<=1000000000000):aA prog 156 #[pQ q] w (bU fun r w'=>r=I er/\aw G L w'):=by
 obtain⟨v,Z⟩:=Jn Z;obtain⟨a,cap,rfl⟩:=aT (Z.pick (A:=row 5 1 _ _ _) pK);refine wF [_] func156 ntmps156 ?_;refine wD 10 bP Z ?_;refine wI 2 (fun Y=>?_) fun Y=>?_
 ·refine wD 5 bP Z ?_;refine dk 3 ?_;exact⟨rfl,Z.tail.tail⟩
 have Y:=dg.1 Y;refine z5 ?_;refine wC rfl p9 rfl (rf Z H H) fun w Z=>?_
 refine wI 2 (fun J=>?_) fun J=>?_
 ·exact aS J H
 refine dk 6 ?_;exact⟨by rw[Y],Z.tail.tail⟩
end
def Jb{b:bZ}(hl:b.length=512):(b.take 508++dF 4 (s0 (b.take 508)).toNat=b)↔lN b:=by
 have h4:(b.drop 508).length=4:=by rw[jm];omega
 have E:=(s0 (b.take 508)).isLt;unfold lN
 constructor
 ·intro h;have e:b.drop 508=dF 4 (s0 (b.take 508)).toNat:=by
   have:=aU (List.drop 508) h;rw[List.drop_left' (by rw[gJ];omega)]at this;exact this.symm
  rw[e];exact II 4 _ E
 intro h;have:=IJ (b.drop 508);rw[h4,h]at this;rw[this,Mp]
def zV{n:Int}(Z:aw G L w):aA prog 143 #[I n] w (bU fun r w'=>r= .bool (decide (0<=n/\n<=1099511627776))/\aw G L w'):=by
 refine wF [_] func143 ntmps143 ?_;refine z9 ?_;refine bw (l1:=[3,4,5]) (l2:=[6]) rfl (d:=8) (0<=n/\n<=1099511627776) rfl ?_ ?_
 ·refine ar (d:=5) rfl (fun Y=>?_) fun Y=>?_
  ·exact wq 4
  exact wq 4
 refine dk 3 ?_;exact⟨rfl,Z⟩
def uD{n:Int}(Z:aw G L w):aA prog 144 #[I n] w (bU fun r w'=>r= .bool (decide (0<=n/\n<=65536))/\aw G L w'):=by
 refine wF [_] func144 ntmps144 ?_;refine z9 ?_;refine bw (l1:=[3,4,5]) (l2:=[6]) rfl (d:=8) (0<=n/\n<=65536) rfl ?_ ?_
 ·refine ar (d:=5) rfl (fun Y=>?_) fun Y=>?_
  ·exact wq 4
  exact wq 4
 refine dk 3 ?_;exact⟨rfl,Z⟩
def xZ(Z:aw G L w)(hp:pn<=65536):aA prog 145 #[I pn] w (bU fun r w'=>r=I (pS pn:Nat)/\aw G L w'):=by
 refine wF [_] func145 ntmps145 ?_;refine wI 10 (fun Y=>?_) fun Y=>?_
 ·refine dk 5 ?_;exact⟨by rw[show pn=0 by omega];rfl,Z⟩
 refine z5 ?_;refine yW rfl rfl rfl H H ?_;refine dk 4 ?_;exact⟨by congr 1;unfold pS;omega,Z⟩
def HX(Z:aw G L w)(kl:aL L (eB v l))(hl:l.length=508):aA prog 152 #[v] w (bU fun r w'=>aw G (row 5 1 r 512 (cI (l++dF 4 (s0 l).toNat))::L) w'):=by
 obtain⟨x,E⟩:∃x,x=(s0 l).toNat:=⟨_,rfl⟩;have ajR:x<4294967296:=by rw[E];exact(s0 l).isLt
 rw[<-E];refine wF [_] func152 ntmps152 ?_;refine z7 ?_;refine aO rfl bX rfl (cy Z kl H) rfl fun w v7 hv=>?_;have Z:=hv;refine z5 ?_;refine wC rfl xJ rfl (zZ Z (kl.of sF) H) fun w Z=>?_
 refine cJ (v:=(x:Int)) rfl kR mN dK rfl (by rw[<-E];exact SQ H) ?_;refine aO rfl Gy rfl (H3 (x:=x) (n:=4) Z H H) rfl fun w v11 hv=>?_;have Z:=hv;obtain⟨sa,sc,rfl⟩:=aT Z;obtain⟨-,sb,-,hsa,hsc,-⟩:=fZ Z H;subst hsa;have kl4:∀M,aL (row 5 1 (.slice (some ⟨sb,0,none⟩) 4 sc) 4 (cI (dF 4 x))::M) (eB (.slice (some ⟨sb,0,none⟩) 4 sc) (dF 4 x)):=fun M=>by
  have:=(eB.row (T:=5) (v:= .slice (some ⟨sb,0,none⟩) 4 sc) (l:=dF 4 x)).head M
  rwa [dy]at this
 rw[hl]at Z;refine z8 ?_;have Z:=Z.b [row 5 1 v7 _ _];refine bx (fun m e w=>∃(k:Nat) (u:C),k<=4/\m=4-k/\e=[(3,u),(4, .slice (some ⟨sb,0,none⟩) 4 sc),(5,I k)]/\aw G (row 5 1 u (508+k) (cI (l++(dF 4 x).take k))::row 5 1 (.slice (some ⟨sb,0,none⟩) 4 sc) 4 (cI (dF 4 x))::L) w)
  (m:=4) sB
  ⟨0,_,de _,rfl,rfl,by rw[DX,kF];exact Z⟩ ?_
 rintro m e w ⟨k,u,hk,rfl,rfl,Z⟩;refine wI 8 (fun Y=>?_) fun Y=>?_
 ·have gn:k<4:=H;obtain⟨y,hy⟩:∃y,y=(dF 4 x).getD k 0:=⟨_,rfl⟩;obtain⟨ua,uc,rfl⟩:=aT Z;refine wY 7 aR bo ?_;refine bg rfl rfl (aD.one (v:=bv y) dN (by have h:=(((kl4 _).of sF).at Z).at (i:=(k:Int)) ⟨H,by rw[dy];omega⟩;rw[hy];exact h)) ?_;refine fb (cs:=[bv y]) rfl aR bo eU dM rfl rfl rfl Z rfl fun w b23 Z=>?_;refine eF (m:=508+k) (k:=1) (news:=[bv y]) rfl aR bo fF eU rfl rfl Z pK (Rd.iq Z pK) rfl (Bd _) mL H rfl fun w v24 Z=>?_;refine z7 ?_;have e2:cI (l++(dF 4 x).take k)++[bv y]=cI (l++(dF 4 x).take (k+1)):=by
   rw[eu _ k 0 (by rw[dy];omega),<-hy];simp[cI]
  rw[e2]at Z;have hz:=(Z.b [N b23 _ _,row 5 1 v24 _ _]).tail;exact⟨4-(k+1),H,[(3,v24),(4,_),(5,I (k+1:Nat))],sB,k+1,v24,H,rfl,rfl,hz⟩
 refine z7 ?_;exact dt rfl rfl rfl (by
 have hk4:k=4:=H;subst hk4;rw[kH (by rw[dy];omega)]at Z;exact(Z.b [row 5 1 (.slice (some ⟨sb,0,none⟩) _ _) _ _]).tail)
def zW(Z:aw G L w)(kb:aL L (eB v bb))(hl:bb.length=512)(hg:g<=1099511627776)(hp:pn<=65536)(hi:j<pS pn):
  aA prog 77 #[I g,I pn,I j,v] w (bU fun r w'=>(∃l v',iE g pn j bb=some l/\r= .tuple #[v',I 0]/\aw G (row 3 1 v' l.length (bf l)::L) w')∨
   (∃er,iE g pn j bb=none/\r= .tuple #[nQ,I er]/\er≠0/\aw G L w')):=by
 obtain⟨a,cap,rfl⟩:=(kb.at Z).form;have Ee:=(kb.at Z).inv.2.1;have hj:j<=65536:=by unfold pS at hi;omega
 have hol:(bb.take 508).length=508:=by rw[gJ];omega
 refine wF [_,_,_,_] func77 ntmps77 ?_;refine z9 ?_;refine wC rfl x7 rfl (zV Z) fun w Z=>?_
 refine cU rfl rfl ?_;refine z1 ?_;refine ar (d:=20) rfl (fun Y=>?_) fun Y=>?_
 ·refine z15 ?_;refine cr rfl ?_;refine z6 ?_;exact aS H Y
 refine z1 ?_;refine wC rfl tE rfl (uD Z) fun w Z=>?_
 refine cU rfl rfl ?_;refine z2 ?_;refine ar (d:=25) rfl (fun J=>?_) fun J=>?_
 ·refine B' ?_;refine cr rfl ?_;refine z6 ?_;exact aS H J
 refine z4 ?_;refine ar (d:=29) rfl (fun h3=>?_) fun h3=>?_
 ·refine z6 ?_;refine cr rfl ?_;refine z6 ?_;exact aS h3 H
 refine z2 ?_;refine wC rfl wh rfl (xZ Z hp) fun w Z=>?_
 refine wI 3 (fun h4=>?_) fun h4=>?_
 ·refine z6 ?_;exact aS h4 H
 refine wI 8 (fun h5=>?_) fun h5=>?_
 ·refine z6 ?_;exact aS H h5
 refine z4 ?_;refine wM (b:=bb) rfl aR bo rfl rfl ((kb.of sF).at Z) ⟨H,H⟩ (((kb.of sF).at Z).spot H) fun v39 _ h39=>?_;have k39:aL L (eB v39 (bb.take 508)):=kb.mono h39;refine aO rfl Gt rfl (HX (l:=bb.take 508) Z (k39.of sF) hol) rfl fun w v40 hv=>?_;have Z:=hv;have jr:(bb.take 508++dF 4 (s0 (bb.take 508)).toNat).length=512:=by rw[di,dy];omega
 refine z7 ?_;refine wC rfl jC rfl (jZ Z (jr▸(eB.row (T:=5) (v:=v40) (l:=bb.take 508++dF 4 (s0 (bb.take 508)).toNat)).head L) (kb.of sF) H H) fun w Z=>?_
 refine cU rfl rfl ?_;refine aK ?_;refine wI 0 (fun h6=>?_) fun h6=>?_
 ·refine ui 6 ?_;exact .inr ⟨6,Oz (fun hs=>h6 ((Jb hl).2 hs)),rfl,by decide,Z.tail⟩
 have hs:lN bb:=(Jb hl).1 (dg.1 h6);refine z4 ?_;refine wM (b:=bb) rfl aR bo rfl rfl ((kb.of sF).at Z) ⟨H,H⟩ (((kb.of sF).at Z).spot H) fun v46 _ h46=>?_;have k46:aL L (eB v46 (bb.take 508)):=kb.mono h46;refine aO rfl B2 rfl (C9 (b:=bb.take 508) Z (k46.of sF) H) rfl fun w v47 hv=>?_;obtain⟨q2,rfl,Z⟩:=hv;refine z6 ?_;refine wC rfl im rfl (iK (n:=1) Z H H H) fun w Z=>?_
 rw[W3,VC (by omega:0<(bb.take 508).length),show(bb.take 508).getD 0 0=bb.getD 0 0 by rw[ma,W8,aB H,<-ma]];refine wI 2 (fun h7=>?_) fun h7=>?_
 ·refine ui 6 ?_;exact .inr ⟨5,by unfold iE;rw[aj];rintro⟨-,hH,-⟩;unfold wm at hH;exact h7 (by rw[hH.1];rfl),rfl,by decide,Z.tail.tail⟩
 have h66:bb.getD 0 0=66:=UInt8.toNat_inj.1 (by show(bb.getD 0 0).toNat=66;omega);refine z4 ?_;refine wC rfl im rfl (iK (n:=8) (k:=1) Z H H H) fun w Z=>?_
 rw[qY H];refine z1 ?_;refine wC rfl im rfl (iK (n:=4) (k:=9) Z H H H) fun w Z=>?_
 rw[qY H];refine z1 ?_;refine wC rfl im rfl (iK (n:=4) (k:=13) Z H H H) fun w Z=>?_
 rw[qY H];refine z9 ?_;refine cJ (v:=(g:Int)) rfl kR dD dK rfl (SQ H) ?_;refine z2 ?_;refine ar (d:=61) rfl (fun h8=>?_) fun h8=>?_
 ·refine YW ?_;refine cr rfl ?_;refine ui 6 ?_;exact .inr ⟨25,by unfold iE;rw[aj];rintro⟨-,hH,-⟩;unfold wm at hH;exact h8 hH.2.1,rfl,by decide,Z.tail.tail⟩
 refine z2 ?_;refine cJ (v:=(j:Int)) rfl kR dD dK rfl (SQ H) ?_;refine z3 ?_;refine ar (d:=67) rfl (fun h9=>?_) fun h9=>?_
 ·refine z6 ?_;refine cr rfl ?_;refine ui 6 ?_;exact .inr ⟨25,by unfold iE;rw[aj];rintro⟨-,hH,-⟩;unfold wm at hH;exact h9 hH.2.2.1,rfl,by decide,Z.tail.tail⟩
 refine z2 ?_;refine cJ (v:=(pn:Int)) rfl kR dD dK rfl (SQ H) ?_;refine wI 3 (fun jR=>?_) fun jR=>?_
 ·refine ui 6 ?_;exact .inr ⟨25,by unfold iE;rw[aj];rintro⟨-,hH,-⟩;unfold wm at hH;exact jR hH.2.2.2,rfl,by decide,Z.tail.tail⟩
 have hH:wm g pn j bb:=⟨h66,dg.1 h8,dg.1 h9,dg.1 jR⟩;obtain⟨n,hn⟩:∃n:Nat,TV pn j=n:=⟨(TV pn j).toNat,by unfold TV;unfold pS at hi;omega⟩;have ahc:n<=240:=by unfold TV at hn;omega
 have hnp:(n:Int)=min ((pn:Int)-(j:Int)*240) 240:=by first|exact aU some hn|(rw[<-hn];rfl)
 refine z9 ?_;refine lx rfl rfl rfl H ?_;refine z3 ?_;have Z:=bB Z 3 1;refine bx (fun m e w=>∃(k:Nat) (u:C),k<=n/\m=n-k/\e=[(1,I pn),(2,I j),(11,pQ q2),(15,u),(16,I ((j:Int)*240+(k:Int)))]/\aw G (row 3 1 u k (bf ((List.range k).map (np bb)))::O0 q2 (bb.take 508) (17+2*k) 0::row 5 1 v40 512 (cI (bb.take 508++dF 4 (s0 (bb.take 508)).toNat))::L) w)
  (m:=n) (e₀:=[(1,I pn),(2,I j),(11,pQ q2),(15,nQ),(16,I ((j:Int)*240))]) sB
  ⟨0,_,de _,rfl,by simp,Z⟩ ?_
 rintro m e w ⟨k,u,hk,rfl,rfl,Z⟩;refine z7 ?_;refine bw (l1:=[4,5,6,7,8,9]) (l2:=[]) rfl (d:=84) (k<n) rfl ?_ ?_
 ·refine ar (d:=78) rfl (fun qH=>?_) fun qH=>?_
  ·refine z2 ?_;refine CG rfl rfl rfl H ?_;refine lx rfl rfl rfl H ?_;exact wq 3
  exact wq 7
 refine aK ?_;refine wI 0 (fun xX=>?_) fun xX=>?_
 ·refine z6 ?_;refine wC rfl im rfl (iK (n:=2) (k:=17+2*k) (Z.b [O0 q2 _ _ 0]) H H H) fun w Z=>?_
  rw[qY H];obtain⟨ua,uc,rfl⟩:=aT (Z.b [row 3 1 u _ _]);refine cJ (v:=np bb k) rfl kR dK dD rfl (jd (by have:=py ((bb.drop (17+2*k)).take 2);rw[gJ,jm,Jq H]at this;omega)) ?_;refine fb (cs:=[I (np bb k)]) rfl aY bF fh dM rfl rfl rfl Z rfl fun w b91 Z=>?_;refine eF (m:=k) (k:=1) (news:=[I (np bb k)]) rfl aY bF j7 fh rfl rfl Z pK (Rd.iq Z pK) rfl (by intro u hu;simp at hu;subst hu;rfl) mL H rfl (fun w v92 Z=>?_);refine z7 ?_;have he:bf ((List.range k).map (np bb))++[I (np bb k)]=bf ((List.range (k+1)).map (np bb)):=by rw[TB,jX];exact(ln _ _).symm
  rw[he,show 17+2*k+2=17+2*(k+1) by omega]at Z;exact⟨n-(k+1),H,[(1,_),(2,_),(11,_),(15,v92),(16,I ((j:Int)*240+((k+1:Nat):Int)))],⟨gd.cons rfl (gd.cons rfl (gd.cons rfl (gd.cons rfl (gd.cons (by show some (I _)=some (I _);first|rfl|(congr 2;omega)) (gd.nil _))))),rfl⟩,k+1,v92,H,rfl,rfl,(Z.b [N b91 _ _,row 3 1 v92 _ _,O0 q2 _ _ 0]).tail⟩
 have oY:k=n:=H;subst oY;refine z4 ?_;refine aO rfl xI rfl (yz (k:=17+2*k) (Z.b [O0 q2 _ _ 0]) H H H) rfl fun w v94 hv=>?_;have hz2:∃(er:Int) (k2:Nat),((er=0/\kW ((bb.take 508).drop (17+2*k))/\k2=(bb.take 508).length)\/(er=5/\¬kW ((bb.take 508).drop (17+2*k))))/\aw G (O0 q2 (bb.take 508) k2 er::row 3 1 u k (bf ((List.range k).map (np bb)))::row 5 1 v40 512 (cI (bb.take 508++dF 4 (s0 (bb.take 508)).toNat))::L) w:=by
  rcases hv with⟨Y,J⟩|⟨Y,J⟩
  ·exact⟨0,_, .inl ⟨rfl,Y,rfl⟩,J⟩
  exact⟨5,_, .inr ⟨rfl,Y⟩,J⟩
 obtain⟨er,k2,hA,Z⟩:=hz2;refine z5 ?_;refine wC rfl Ay rfl (BU Z (by rcases hA with⟨-,-,h⟩|⟨h,-⟩;exact .inr h;exact .inl H) H) fun w Z=>?_
 refine wI 2 (fun BG=>?_) fun BG=>?_
 ·refine z6 ?_;exact ga rfl rfl rfl rfl (.inr ⟨5,by
 have hz:=(hA.resolve_left (fun h=>BG h.1)).2;unfold iE;rw[aj];rintro⟨-,-,h⟩;rw[hn]at h;exact hz h,rfl,by decide,Z.tail.tail⟩)
 refine z8 ?_;exact ga rfl rfl rfl rfl (by
 have BG:=dg.1 BG;have hz:=(hA.resolve_right (fun h=>by have:=h.1;omega)).2.1;refine .inl ⟨(List.range k).map (np bb),u,by unfold iE;rw[hn,aB ⟨hs,hH,hz⟩];rfl,rfl,?_⟩;rw[show((List.range k).map (np bb)).length=k by simp];exact(Z.b [row 5 1 v40 _ _]).tail)
def UP{f:Nat->Option (List Int)}{a:List Int}(h:j5 f k=some a):j5 f (k+1)=(f k).map (a++·):=by
 rw[j5,h];cases f k<;>rfl
def Sg{f:Nat->Option (List Int)}:∀{k i:Nat},i<k->f i=none->j5 f k=none
 |k+1,i,hi,h=>by
  rw[j5];rcases oA i k with Y|Y
  ·rw[Sg Y h]
  rw[show i=k by omega]at h;rw[h];cases j5 f k<;>rfl
def Yu{gen pages i:Int}{b:bZ}{l:List Int}(h:iE gen pages i b=some l):l.length<=240:=by
 have:=(GC h).1;unfold TV at this;omega
def HY{vs:List C}{B:Nat->bZ}(Z:aw G L w)(kv:aL L (oJ v vs))(xU:∀i u,vs[i]?=some u->aL L (eB u (B i))/\(B i).length=512)(hl:vs.length=pS pn)(hg:g<=1099511627776)(hp:pn<=65536):
  aA prog 73 #[I g,I pn,v] w (bU fun r w'=>(∃c u,j5 (fun i=>iE g pn i (B i)) (pS pn)=some c/\r= .tuple #[u,I 0]/\aw G (row 3 1 u c.length (bf c)::L) w')∨
   (∃er,j5 (fun i=>iE g pn i (B i)) (pS pn)=none/\r= .tuple #[nQ,I er]/\er≠0/\aw G L w')):=by
 obtain⟨a,cap,rfl⟩:=(kv.at Z).form;have VT:pS pn<=65536:=by unfold pS;omega
 refine wF [_,_,_] func73 ntmps73 ?_;refine z9 ?_;refine wC rfl x7 rfl (zV Z) fun w Z=>?_
 refine cU rfl rfl ?_;refine z1 ?_;refine ar (d:=16) rfl (fun Y=>?_) fun Y=>?_
 ·refine YW ?_;refine cr rfl ?_;refine z6 ?_;exact aS H Y
 refine z1 ?_;refine wC rfl tE rfl (uD Z) fun w Z=>?_
 refine cU rfl rfl ?_;refine z2 ?_;refine ar (d:=21) rfl (fun J=>?_) fun J=>?_
 ·refine z7 ?_;refine cr rfl ?_;refine z6 ?_;exact aS H J
 refine z1 ?_;refine eE rfl kR ft rfl ?_;refine z1 ?_;refine wC rfl wh rfl (xZ Z hp) fun w Z=>?_
 refine wI 3 (fun h3=>?_) fun h3=>?_
 ·refine z6 ?_;exact aS (by rw[hl]) h3
 refine SP ?_;have Z:=bB Z 3 1;refine bx (fun m e w=>∃(k:Nat) (c:List Int) (u u2:C) (e2:C) (k2:C),k<=vs.length/\m=vs.length-k/\e=[(1,I pn),(0,I g),(2, .slice a vs.length cap),(8,u),(9,I k)]/\(j5 (fun i=>iE g pn i (B i)) k=some c/\c.length<=240*k)/\aw G (row 3 1 u c.length (bf c)::L) w)
  (m:=vs.length) sB
  ⟨0,[],_, .nilFunc, .nilFunc, .nilFunc,de _,rfl,rfl,⟨rfl,fP _⟩,Z⟩ ?_
 rintro m e w ⟨k,c,u,-,-,-,hk,rfl,rfl,⟨hc,gC⟩,Z⟩;refine z5 ?_;refine eE rfl kR ft rfl ?_;refine wI 2 (fun h4=>?_) fun h4=>?_
 ·have gn:k<vs.length:=H;obtain⟨x,E⟩:∃x,vs[k]?=some x:=⟨_,dG gn⟩;obtain⟨kx,vi⟩:=xU k x E;obtain⟨bb,oo,rfl⟩:=((kv.of sF).at Z).nn H;obtain⟨xa,xc,hxf⟩:=((kx.of sF).at Z).form;subst hxf;refine wY 10 ft l8 ?_;refine bg rfl rfl (aD.one ao (((kv.of sF).at Z).at (by rw[cZ];exact E))) ?_;refine aO rfl x8 rfl (zW (g:=g) (pn:=pn) (j:=k) Z (kx.of sF) vi hg hp H) rfl fun w L8 hv=>?_;have hz:∃(l:List Int) (v:C) (er:Int),L8= .tuple #[v,I er]/\((er=0/\iE g pn k (B k)=some l)\/(er≠0/\iE g pn k (B k)=none/\l=[]/\v=nQ))/\aw G (row 3 1 v l.length (bf l)::row 3 1 u c.length (bf c)::L) w:=by
   rcases hv with⟨l,v,Y,J,h3⟩|⟨er,Y,J,h3,h4⟩
   ·exact⟨l,v,0,J, .inl ⟨rfl,Y⟩,h3⟩
   exact⟨[],_,er,J, .inr ⟨h3,Y,rfl,rfl⟩,bB h4 _ _⟩
  obtain⟨l,v,er,rfl,hl3,Z⟩:=hz;obtain⟨va,vc,rfl⟩:=aT Z;refine wI 12 (fun h5=>?_) fun h5=>?_
  ·refine z7 ?_;exact ga rfl rfl rfl rfl (by
 obtain⟨-,J,-⟩:=hl3.resolve_left (fun h=>h5 h.1);exact .inr ⟨er,Sg (by omega:k<pS pn) J,rfl,h5,Z.tail.tail⟩)
  have h5:=dg.1 h5;obtain⟨-,Mf⟩:=hl3.resolve_right (fun h=>h.1 h5);have ajv:=Yu Mf;have IL:∀M,aL (row 3 1 (.slice va l.length vc) l.length (bf l)::M) (oJ (.slice va l.length vc) (bf l)):=fun M=>(abY (bC l)).head M
  refine z6 ?_;have Z:=Z.b [row 3 1 u _ _,row 3 1 (.slice va _ _) _ _];refine bx (fun m e w=>∃(j:Nat) (u:C),j<=l.length/\m=l.length-j/\e=[(0,I g),(1,I pn),(2, .slice (some ⟨bb,oo,none⟩) vs.length cap),(8,u),(9,I k),(10, .slice va l.length vc),(12,I j)]/\aw G (row 3 1 u (c.length+j) (bf (c++l.take j))::row 3 1 (.slice va l.length vc) l.length (bf l)::L) w)
   (m:=l.length) sB
   ⟨0,_,de _,rfl,rfl,by rw[DX,kF];exact Z⟩ ?_
  rintro m e w ⟨j,u,hj,rfl,rfl,Z⟩;refine wI 8 (fun h6=>?_) fun h6=>?_
  ·have uy:j<l.length:=H;obtain⟨y,hy⟩:∃y,l[j]?=some y:=⟨_,dG uy⟩;obtain⟨vb,vo,rfl⟩:=(((IL _).of sF).at (Z.b [row 3 1 (.slice va _ _) _ _])).nn (by rw[bC];omega);obtain⟨ua,uc,rfl⟩:=aT Z;refine wY 7 aY bF ?_;refine bg rfl rfl (aD.one (v:=I y) ag ((((IL _).of sF).at (Z.b [row 3 1 (.slice (some ⟨vb,vo,none⟩) _ _) _ _])).at (by rw[cZ];unfold bf;rw[dh,hy];rfl))) ?_;refine fb (cs:=[I y]) rfl aY bF fh dM rfl rfl rfl Z rfl fun w b59 Z=>?_;refine eF (m:=c.length+j) (k:=1) (news:=[I y]) rfl aY bF j7 fh rfl rfl Z pK (Rd.iq Z pK) rfl (by intro u hu;simp at hu;subst hu;rfl) mL H rfl (fun w v60 Z=>?_);refine z7 ?_;have he:bf (c++l.take j)++[I y]=bf (c++l.take (j+1)):=by rw[rE,hy];simp[bf]
   rw[he]at Z;have hz:=(Z.b [N b59 _ _,row 3 1 v60 _ _]).tail;exact⟨l.length-(j+1),H,[(0,_),(1,_),(2,_),(8,v60),(9,_),(10,_),(12,I (j+1:Nat))],sB,j+1,v60,H,rfl,rfl,hz⟩
  have pU:j=l.length:=H;subst pU;rw[qS]at Z;have hce:c.length+l.length=(c++l).length:=by rw[di]
  rw[hce]at Z;refine z6 ?_;exact⟨vs.length-(k+1),H,[(1,_),(0,_),(2,_),(8,u),(9,I (k+1:Nat))],sB,k+1,c++l,u, .nilFunc, .nilFunc, .nilFunc,H,rfl,rfl,⟨by rw[UP hc];show(iE g pn k (B k)).map _=_;rw[Mf];rfl,by rw[di];omega⟩,(Z.b [row 3 1 u _ _,row 3 1 (.slice va _ _) _ _]).pick (.there .here)|>.tail⟩
 refine ui 8 ?_;exact .inl ⟨c,u,by rw[<-hl,show vs.length=k by omega];exact hc,rfl,Z⟩
def tn{p:Pl}{n:Int}(Z:aw G L w)(hp:0<=p.first/\p.first<=1000000/\p.pages<=65536):aA prog 75 #[gQ (jI p),I n] w (bU fun r w'=>((¬(1<=n/\n<=p.pages)/\r= .tuple #[I 0, .bool false])\/((1<=n/\n<=p.pages)/\r= .tuple #[I (p.first+n-1), .bool true]))/\aw G L w'):=by
 refine wF [_,_] func75 ntmps75 ?_;refine wB 2 Z fun w b2 Z=>?_;refine z9 ?_;refine ar (d:=8) rfl (fun Y=>?_) fun Y=>?_
 ·refine z6 ?_;refine cr rfl ?_;refine ui 6 ?_;exact⟨.inl ⟨H,rfl⟩,Z.tail⟩
 refine wD 2 (v:=I p.pages) ag Z ?_;refine wI 3 (fun J=>?_) fun J=>?_
 ·refine ui 6 ?_;exact⟨.inl ⟨H,rfl⟩,Z.tail⟩
 refine wD 4 (v:=I p.first) ag Z ?_;refine ui 7 ?_;exact⟨.inr ⟨H,rfl⟩,Z.tail⟩
def Ge{p:Pl}{t:Tr}(Z:aw G L w)(hp:0<=p.pages/\p.pages<=65536):aA prog 85 #[gQ (jI p),gQ (dI t)] w (bU fun r w'=>r= .bool (decide (rm p.pages t))/\aw G L w'):=by
 refine wF [_,_] func85 ntmps85 ?_;refine wB 2 Z fun w b2 Z=>?_;refine wB 0 Z fun w b3 Z=>?_;refine wD 6 (v:=I t.root) ag Z ?_;refine z2 ?_;refine bw (l1:=[4,5,6,7]) (l2:=[8,9,10,11,12]) rfl (d:=12) (t.root=0/\t.bh=0) rfl ?_ ?_
 ·refine ar (d:=8) rfl (fun Y=>?_) fun Y=>?_
  ·refine wD 1 (v:=I t.bh) ag Z ?_;exact wq 3
  exact wq 5
 refine z1 ?_;refine bw (l1:=[9,10,11,12]) (l2:=[]) rfl (d:=17) ((t.root=0/\t.bh=0)/\t.items=0) rfl ?_ ?_
 ·refine ar (d:=13) rfl (fun J=>?_) fun J=>?_
  ·refine wD 1 (v:=I t.items) ag Z ?_;exact wq 3
  exact wq 5
 refine aK ?_;refine wI 0 (fun h3=>?_) fun h3=>?_
 ·refine dk 5 ?_;exact⟨by rw[eW (show rm p.pages t by unfold rm fY;omega)],Z.tail.tail⟩
 refine wD 4 (v:=I t.root) ag Z ?_;refine z2 ?_;refine bw (l1:=[4,5,6,7,8,9]) (l2:=[10,11,12,13,14,15,16,17,18,19,20,21,22,23,24,25,26,27,28,29,30,31,32,33]) rfl (d:=27) (1<=t.root/\t.root<=p.pages) rfl ?_ ?_
 ·refine ar (d:=21) rfl (fun h4=>?_) fun h4=>?_
  ·refine wD 1 (v:=I t.root) ag Z ?_;refine wD 1 (v:=I p.pages) ag Z ?_;exact wq 3
  exact wq 7
 refine z1 ?_;refine bw (l1:=[11,12,13,14]) (l2:=[15,16,17,18,19,20,21,22,23,24,25,26,27,28,29,30,31,32,33]) rfl (d:=32) ((1<=t.root/\t.root<=p.pages)/\1<=t.bh) rfl ?_ ?_
 ·refine ar (d:=28) rfl (fun h5=>?_) fun h5=>?_
  ·refine wD 1 (v:=I t.bh) ag Z ?_;exact wq 3
  exact wq 5
 refine z1 ?_;refine bw (l1:=[16,17,18,19]) (l2:=[20,21,22,23,24,25,26,27,28,29,30,31,32,33]) rfl (d:=37) (((1<=t.root/\t.root<=p.pages)/\1<=t.bh)/\t.bh<=12) rfl ?_ ?_
 ·refine ar (d:=33) rfl (fun h6=>?_) fun h6=>?_
  ·refine wD 1 (v:=I t.bh) ag Z ?_;exact wq 3
  exact wq 5
 refine z1 ?_;refine bw (l1:=[21,22,23,24]) (l2:=[25,26,27,28,29,30,31,32,33]) rfl (d:=42) ((((1<=t.root/\t.root<=p.pages)/\1<=t.bh)/\t.bh<=12)/\1<=t.items) rfl ?_ ?_
 ·refine ar (d:=38) rfl (fun h7=>?_) fun h7=>?_
  ·refine wD 1 (v:=I t.items) ag Z ?_;exact wq 3
  exact wq 5
 refine z1 ?_;refine bw (l1:=[26,27,28,29,30,31,32]) (l2:=[33]) rfl (d:=50) (((((1<=t.root/\t.root<=p.pages)/\1<=t.bh)/\t.bh<=12)/\1<=t.items)/\t.items<=p.pages*8) rfl ?_ ?_
 ·refine ar (d:=43) rfl (fun h8=>?_) fun h8=>?_
  ·refine wD 1 (v:=I t.items) ag Z ?_;refine wD 1 (v:=I p.pages) ag Z ?_;refine lx rfl rfl rfl H ?_;exact wq 3
  exact wq 8
 refine z3 ?_;exact dt rfl rfl rfl ⟨by
 congr 1;simp only[bI];unfold rm fY;omega,Z.tail.tail⟩
def rM(kind:Int)(x:It):bZ:=dF 1 x.key.length++(x.key++(if kind=1 then dF 2 x.size.toNat++(if x.size<=32 then x.value else dF 4 x.child.toNat)else dF 4 x.child.toNat))
def fB(kind:Int)(l:List It):bZ:=(l.map (rM kind)).flatten
def j8(no gen:Nat)(p:Pg):bZ:=dF 1 p.kind.toNat++(dF 1 p.level.toNat++(dF 4 no++(dF 8 gen++(if p.kind=3 then dF 2 p.data.length++(dF 4 p.next.toNat++p.data)else dF 1 p.items.length++fB p.kind p.items))))
def jL(n:Nat):bZ:=List.replicate n 0
def rD(b:bZ):bZ:=(b++jL (508-b.length))++dF 4 (s0 (b++jL (508-b.length))).toNat
structure YA(kind:Int)(x:It):Prop where
 k:x.key.length<256
 s:kind=1->0<=x.size/\x.size<65536/\(x.size<=32->(x.value.length:Int)=x.size/\x.child=0)/\(¬x.size<=32->x.value=[]/\0<=x.child/\x.child<4294967296)
 c:kind≠1->x.value=[]/\x.size=0/\0<=x.child/\x.child<4294967296
def AX{a:bZ}(h:a.length=n):fc n ⟨a++r,true⟩=(a,⟨r,true⟩):=by
 unfold fc;rw[aB ⟨rfl,by simp;omega⟩];subst h;simp
def k7(h:x<256^n):cB n ⟨dF n x++r,true⟩=(x,⟨r,true⟩):=by
 unfold cB;rw[AX (dy n x),II n x h]
def XH{x:It}(h:YA kind x):rX kind ⟨rM kind x++r,true⟩=(x,⟨r,true⟩):=by
 obtain⟨key,value,child,size⟩:=x;obtain⟨Y,J,h3⟩:=h;simp only at Y J h3;have e1:cB 1 ⟨rM kind ⟨key,value,child,size⟩++r,true⟩=(key.length,⟨key++((if kind=1 then dF 2 size.toNat++(if size<=32 then value else dF 4 child.toNat)else dF 4 child.toNat)++r),true⟩):=by
  unfold rM;simp only[gm];exact k7 (by simpa using Y)
 unfold rX;simp only[e1];rw[AX rfl]
 by_cases hk:kind=1
 ·obtain⟨a1,a2,a3,a4⟩:=J hk;simp only[aB hk];obtain⟨sz,rfl⟩:∃sz:Nat,size=sz:=⟨size.toNat,H⟩
  by_cases hs:(sz:Int)<=32
  ·obtain⟨b1,rfl⟩:=a3 hs;simp only[aB hs,gm,cZ];rw[k7 (show sz<256^2 by omega)];simp only[aB hs];rw[AX H]
  obtain⟨rfl,b1,b2⟩:=a4 hs;obtain⟨c,rfl⟩:∃c:Nat,child=c:=⟨child.toNat,H⟩;simp only[aj hs,gm,cZ];rw[k7 (show sz<256^2 by omega)];simp only[aj hs];rw[k7 (show c<256^4 by omega)]
 obtain⟨rfl,rfl,b1,b2⟩:=h3 hk;obtain⟨c,rfl⟩:∃c:Nat,child=c:=⟨child.toNat,H⟩;simp only[aj hk,cZ];rw[k7 (show c<256^4 by omega)]
def Bn(kind:Int)(a b:List It):fB kind (a++b)=fB kind a++fB kind b:=by simp[fB]
def tg(kind:Int)(x:It)(a:List It):fB kind (x::a)=rM kind x++fB kind a:=by simp[fB]
def J4{l:List It}(h:k<l.length):l.take (k+1)=l.take k++[l[k]]/\l=l.take k++(l[k]::l.drop (k+1)):=by
 have E:l[k]?=some l[k]:=dG h;exact⟨by rw[rE,E];rfl,by rw[<-Ms h,Mp]⟩
def G4{kind:Int}{l:List It}(h:∀x∈l,YA kind x):∀(k:Nat) (r:bZ),k<=l.length->gF kind k ⟨fB kind (l.take k)++r,true⟩=(l.take k,⟨r,true⟩)
 |0,r,_=>rfl
 |k+1,r,hk=>by
  have e:fB kind (l.take (k+1))++r=fB kind (l.take k)++(rM kind l[k]++r):=by
   rw[(J4 (by omega:k<l.length)).1,Bn,tg];simp[fB]
  rw[e,gF,G4 h k _ H,(J4 (by omega:k<l.length)).1];simp only;rw[XH (h _ (QU _))]
def T9{l:List It}(h:∀x∈l,YA kind x):gF kind l.length ⟨fB kind l++r,true⟩=(l,⟨r,true⟩):=by
 have:=G4 h l.length r (fP _)
 rwa [qS]at this
def DM{r:Rk}(h:(fc n r).2.ok=true):r.b=(fc n r).1++(fc n r).2.b/\(fc n r).1.length=n/\r.ok=true:=by
 unfold fc at h ⊢;split at h
 ·rename_i Y;rw[aB Y];exact⟨by simp,by simp;omega,Y.1⟩
 cases h
def nX{r:Rk}(h:(cB n r).2.ok=true):r.b=dF n (cB n r).1++(cB n r).2.b/\(cB n r).1<256^n/\r.ok=true:=by
 have h':(fc n r).2.ok=true:=h;obtain⟨Y,J,h3⟩:=DM h';refine⟨?_,?_,h3⟩
 ·show r.b=dF n (jP (fc n r).1)++(fc n r).2.b
  have:=IJ (fc n r).1;rw[J]at this;rw[this];exact Y
 show jP (fc n r).1<_
 exact D8 H
def aaG{r:Rk}(h:(rX kind r).2.ok=true):r.b=rM kind (rX kind r).1++(rX kind r).2.b/\YA kind (rX kind r).1/\r.ok=true:=by
 unfold rX at h ⊢;simp only at h ⊢
 obtain⟨a,ha⟩:∃a,a=cB 1 r:=⟨_,rfl⟩;obtain⟨k,hk⟩:∃k,k=fc a.1 a.2:=⟨_,rfl⟩;rw[<-ha,<-hk]at h ⊢;have fin:k.2.ok=true->r.b=dF 1 k.1.length++(k.1++k.2.b)/\k.1.length<256/\r.ok=true:=fun fx=>by
  subst hk;obtain⟨g1,g2,g3⟩:=DM fx;subst ha;obtain⟨f1,f2,f3⟩:=nX g3;rw[g2];refine⟨?_,by simpa using f2,f3⟩;rw[<-g1];exact f1
 by_cases Uu:kind=1
 ·simp only[aB Uu]at h ⊢
  by_cases hs:((cB 2 k.2).1:Int)<=32
  ·simp only[aB hs]at h ⊢;obtain⟨t1,t2,t3⟩:=DM h;obtain⟨n1,n2,n3⟩:=nX t3;obtain⟨f1,f2,f3⟩:=fin n3;refine⟨?_,⟨f2,fun _=>⟨by simp,by show((cB 2 k.2).1:Int)<65536;omega,fun _=>⟨by simp only;rw[t2],rfl⟩,fun h=>aS hs h⟩,fun h=>aS Uu h⟩,f3⟩;unfold rM;simp only[aB Uu,aB hs,gm,cZ];rw[f1,n1,t1]
  simp only[aj hs]at h ⊢;obtain⟨t1,t2,t3⟩:=nX h;obtain⟨n1,n2,n3⟩:=nX t3;obtain⟨f1,f2,f3⟩:=fin n3;refine⟨?_,⟨f2,fun _=>⟨by simp,by show((cB 2 k.2).1:Int)<65536;omega,fun h=>aS h hs,fun _=>⟨rfl,by simp,by show((cB 4 (cB 2 k.2).2).1:Int)<4294967296;omega⟩⟩,fun h=>aS Uu h⟩,f3⟩;unfold rM;simp only[aB Uu,aj hs,gm,cZ];rw[f1,n1,t1]
 simp only[aj Uu]at h ⊢;obtain⟨t1,t2,t3⟩:=nX h;obtain⟨f1,f2,f3⟩:=fin t3;refine⟨?_,⟨f2,fun h=>aS h Uu,fun _=>⟨rfl,rfl,by simp,by show((cB 4 k.2).1:Int)<4294967296;omega⟩⟩,f3⟩;unfold rM;simp only[aj Uu,gm,cZ];rw[f1,t1]
def N9{kind:Int}:∀{n:Nat} {r:Rk},(gF kind n r).2.ok=true->r.b=fB kind (gF kind n r).1++(gF kind n r).2.b/\(∀x∈(gF kind n r).1,YA kind x)/\(gF kind n r).1.length=n/\r.ok=true
 |0,r,h=>⟨by simp[gF,fB],by simp[gF],rfl,h⟩
 |n+1,r,h=>by
  simp only[gF]at h ⊢;obtain⟨i1,i2,i3⟩:=aaG h;obtain⟨g1,g2,g3,g4⟩:=N9 i3;refine⟨?_,fun x E=>?_,by simp[g3],g4⟩
  ·rw[g1,i1];simp[fB]
  rcases eZ.1 E with E|E
  ·exact g2 x E
  simp at E;subst E;exact i2
def dQ(b:bZ)(at_ n:Nat):Nat:=jP ((b.drop at_).take n)
def eC(b:bZ)(at_ n:Nat):bZ:=(b.drop at_).take n
def X9(kind:Int)(b:bZ)(a:Nat):It×Nat:=
 let k:=dQ b a 1
 let c:=a+1+k
 if kind=1 then
  if(dQ b c 2:Int)<=32 then(⟨eC b (a+1) k,eC b (c+2) (dQ b c 2),0,dQ b c 2⟩,c+2+dQ b c 2)
  else(⟨eC b (a+1) k,[],dQ b (c+2) 4,dQ b c 2⟩,c+2+4)
 else(⟨eC b (a+1) k,[],dQ b c 4,0⟩,c+4)
def vK(kind:Int)(b:bZ):Nat->List It×Nat
 |0=>([],15)
 |k+1=>((vK kind b k).1++[(X9 kind b (vK kind b k).2).1],(X9 kind b (vK kind b k).2).2)
def gsP(b:bZ):Pg:=
 if(dQ b 0 1:Int)=3 then⟨dQ b 0 1,dQ b 1 1,[],eC b 20 (dQ b 14 2),dQ b 16 4⟩
 else⟨dQ b 0 1,dQ b 1 1,(vK (dQ b 0 1) b (min (dQ b 14 1) 9)).1,[],0⟩
def w6{p a:bZ}(h:a.length=n):eC (p++(a++r)) p.length n=a:=by
 unfold eC;subst h;simp
def mf{p:bZ}(h:x<256^n):dQ (p++(dF n x++r)) p.length n=x:=by
 unfold dQ;have:=w6 (p:=p) (r:=r) (dy n x);unfold eC at this;rw[this,II n x h]
def ac3{p:bZ}{x:It}(h:YA kind x):X9 kind (p++(rM kind x++r)) p.length=(x,p.length+(rM kind x).length):=by
 obtain⟨key,value,child,size⟩:=x;obtain⟨Y,J,h3⟩:=h;simp only at Y J h3;obtain⟨t,ht⟩:∃t,t=(if kind=1 then dF 2 size.toNat++(if size<=32 then value else dF 4 child.toNat)else dF 4 child.toNat):=⟨_,rfl⟩;have e0:p++(rM kind ⟨key,value,child,size⟩++r)=p++(dF 1 key.length++(key++(t++r))):=by unfold rM;rw[ht];simp
 have el:(rM kind ⟨key,value,child,size⟩).length=1+key.length+t.length:=by unfold rM;rw[ht];simp[dy];omega
 rw[e0,el];have n1:dQ (p++(dF 1 key.length++(key++(t++r)))) p.length 1=key.length:=mf (by simpa using Y);have e1:p++(dF 1 key.length++(key++(t++r)))=(p++dF 1 key.length)++(key++(t++r)):=by simp
 have l1:(p++dF 1 key.length).length=p.length+1:=by simp[dy]
 have n2:eC (p++(dF 1 key.length++(key++(t++r)))) (p.length+1) key.length=key:=by
  rw[e1,<-l1];exact w6 rfl
 have e2:p++(dF 1 key.length++(key++(t++r)))=(p++(dF 1 key.length++key))++(t++r):=by simp
 have l2:(p++(dF 1 key.length++key)).length=p.length+1+key.length:=by simp[dy];omega
 unfold X9;simp only[n1,n2]
 by_cases hk:kind=1
 ·obtain⟨a1,a2,a3,a4⟩:=J hk;rw[aB hk]at ht;obtain⟨sz,rfl⟩:∃sz:Nat,size=sz:=⟨size.toNat,H⟩;rw[cZ]at ht
  simp only[aB hk];obtain⟨u,hu⟩:∃u,u=(if(sz:Int)<=32 then value else dF 4 child.toNat):=⟨_,rfl⟩
  (try unfold sQ at ht);rw[<-hu]at ht
  subst ht;have n3:dQ (p++(dF 1 key.length++(key++((dF 2 sz++u)++r)))) (p.length+1+key.length) 2=sz:=by
   rw[e2,show(dF 2 sz++u)++r=dF 2 sz++(u++r) from gm ..,<-l2];exact mf (show sz<256^2 by omega)
  have e3:p++(dF 1 key.length++(key++((dF 2 sz++u)++r)))=(p++(dF 1 key.length++(key++dF 2 sz)))++(u++r):=by simp
  have l3:(p++(dF 1 key.length++(key++dF 2 sz))).length=p.length+1+key.length+2:=by simp[dy];omega
  simp only[n3]
  by_cases hs:(sz:Int)<=32
  ·obtain⟨b1,rfl⟩:=a3 hs;rw[aB hs]at hu;subst hu;have n4:eC (p++(dF 1 key.length++(key++((dF 2 sz++u)++r)))) (p.length+1+key.length+2) sz=u:=by
    rw[e3,<-l3];exact w6 H
   simp only[aB hs,n4];rw[Prod.mk.injEq];exact⟨rfl,by simp[dy];omega⟩
  obtain⟨rfl,b1,b2⟩:=a4 hs;obtain⟨c,rfl⟩:∃c:Nat,child=c:=⟨child.toNat,H⟩;rw[aj hs,cZ]at hu;subst hu;have n4:dQ (p++(dF 1 key.length++(key++((dF 2 sz++dF 4 c)++r)))) (p.length+1+key.length+2) 4=c:=by
   rw[e3,<-l3];exact mf H
  simp only[aj hs,n4];rw[Prod.mk.injEq];exact⟨rfl,by simp[dy];omega⟩
 obtain⟨rfl,rfl,b1,b2⟩:=h3 hk;obtain⟨c,rfl⟩:∃c:Nat,child=c:=⟨child.toNat,H⟩;rw[aj hk,cZ]at ht;subst ht;have n3:dQ (p++(dF 1 key.length++(key++(dF 4 c++r)))) (p.length+1+key.length) 4=c:=by
  rw[e2,<-l2];exact mf H
 simp only[aj hk,n3];rw[Prod.mk.injEq];exact⟨rfl,by simp[dy];omega⟩
def RT{kind:Int}{p r:bZ}{l:List It}(hp:p.length=15)(h:∀x∈l,YA kind x):∀k,k<=l.length->vK kind (p++(fB kind l++r)) k=(l.take k,15+(fB kind (l.take k)).length)
 |0,_=>rfl
 |k+1,hk=>by
  obtain⟨tk,sp⟩:=J4 (by omega:k<l.length);have e:p++(fB kind l++r)=(p++fB kind (l.take k))++(rM kind l[k]++(fB kind (l.drop (k+1))++r)):=by
   have e1:fB kind (l.take k++(l[k]::l.drop (k+1)))=fB kind (l.take k)++(rM kind l[k]++fB kind (l.drop (k+1))):=by rw[Bn,tg]
   rw[<-sp]at e1;rw[e1];simp
  have el:(p++fB kind (l.take k)).length=15+(fB kind (l.take k)).length:=by rw[di,hp]
  rw[vK,RT hp h k H];simp only;rw[e,<-el,ac3 (h _ (QU _)),tk,Prod.mk.injEq];exact⟨rfl,by have e0:fB kind []=[]:=rfl;simp only[Bn,tg,e0,di,DY,hp];omega⟩
def Gl(h:dv p=0)(h3:p.kind≠3):∀x∈p.items,YA p.kind x:=by
 have hk:p.kind=1\/p.kind=2:=by have:=(mF h).1;omega
 have key:∀(l:List It) (i:Nat) (cW:bZ),fa p.kind i cW l=0->∀x∈l,YA p.kind x:=by
  intro l
  induction l with
  |nil=>intro i cW _ x E;cases E
  |cons y l ih=>
   intro i cW he x E;simp only[fa,bH]at he;rcases cE.1 E with rfl|E
   ·have Y:=he.1;unfold q8 at Y;simp only[bH]at Y
    have h0:=Y.1;have J:=Y.2.2.1;have h3:=Y.2.2.2;unfold lF at h0;unfold jq at J
    unfold mD at h3;have yp:x.key.length<256:=by
     split at h0
     ·have:=(cG dM).1 h0;omega
     have:=(cG dM).1 h0;omega
    refine⟨yp,fun Y=>?_,fun Y=>?_⟩
    ·rw[aj H]at J;rw[aj H]at h3
     simp only[bH]at J;have h5:=(cG dM).1 J.1;refine⟨h5.1,H,fun hs=>?_,fun hs=>?_⟩
     ·rw[aB hs]at h3;have h4:=J.2;rw[aB hs]at h4
      exact⟨(cG dM).1 h4,(cG dM).1 h3⟩
     rw[aj hs]at h3;have h4:=J.2;rw[aj hs]at h4
     have h6:=(cG dM).1 h3;unfold eJ at h6;exact⟨vD ((cG dM).1 h4),H,H⟩
    have RP:p.kind=2:=H;rw[aB RP]at J h3;have h4:=(cG dM).1 J;have h6:=(cG dM).1 h3;unfold eJ at h6
    exact⟨vD h4.1,h4.2,H,H⟩
   exact ih _ _ he.2 x E
 unfold dv at h;simp only[bH]at h
 exact key p.items 0 [] h.2.1
def US(h:dv p=0):p.next=0\/eJ p.next:=by
 unfold dv at h;simp only[bH]at h
 exact(cG dM).1 h.2.2
def HT(no:Int)(b:bZ):Option (Pg×Int):=
 if lN b/\((dQ b 2 4:Nat):Int)=no/\b.getD 13 0=0/\((dQ b 6 8:Nat):Int)<=1099511627776/\dv (gsP b)=0/\b=rD (j8 (dQ b 2 4) (dQ b 6 8) (gsP b))then some (gsP b,(dQ b 6 8:Nat))else none
def oL(p:Pg):bZ:=if p.kind=3 then dF 2 p.data.length++(dF 4 p.next.toNat++p.data)else dF 1 p.items.length++fB p.kind p.items
def AE(no gen:Nat)(p:Pg):j8 no gen p=dF 1 p.kind.toNat++(dF 1 p.level.toNat++(dF 4 no++(dF 8 gen++oL p))):=rfl
structure OkP(p:Pg):Prop where
 k:0<=p.kind/\p.kind<256
 l:0<=p.level/\p.level<256
 b:p.kind=3->p.items=[]/\p.data.length<65536/\0<=p.next/\p.next<4294967296
 i:p.kind≠3->(∀x∈p.items,YA p.kind x)/\p.items.length<256/\p.data=[]/\p.next=0
def aae(h:dv p=0):OkP p:=by
 obtain⟨hk,hf⟩:=mF h;unfold gp at hf;refine⟨H,?_,fun h3=>?_,fun h3=>⟨Gl h h3,?_⟩⟩
 ·by_cases Y:p.kind=1
  ·have:=hf.1 Y;omega
  by_cases J:p.kind=2
  ·have:=hf.2.1 J;omega
  have:=hf.2.2 Y J;omega
 ·obtain⟨a1,a2,a3⟩:=hf.2.2 H H;have a4:=US h;unfold eJ at a4;exact⟨vD a2,H,H,H⟩
 by_cases Y:p.kind=1
 ·obtain⟨a1,a2,a3⟩:=hf.1 Y;exact⟨H,vD a1,a2⟩
 obtain⟨a1,a2,a3⟩:=hf.2.1 H;exact⟨H,vD a1,a2⟩
def Gm(h:dv p=0):p.items.length<=8:=by
 obtain⟨hk,hf⟩:=mF h;unfold gp at hf
 by_cases Y:p.kind=1
 ·have:=hf.1 Y;omega
 by_cases J:p.kind=2
 ·have:=hf.2.1 J;omega
 have:=hf.2.2 Y J;omega
def X0{l:Nat}(hk:k<256)(hl:l<256)(hn:no<4294967296)(hg:g<18446744073709551616):q9 ⟨dF 1 k++(dF 1 l++(dF 4 no++(dF 8 g++r))),true⟩=((k,l,no,g),⟨r,true⟩):=by
 unfold q9;simp only[k7 (show k<256^1 by omega),k7 (show l<256^1 by omega),k7 (show no<256^4 by omega),k7 (show g<256^8 by omega)]
def Yt(h:OkP p):rA p.kind.toNat p.level.toNat ⟨oL p++r,true⟩=(p,⟨r,true⟩):=by
 obtain⟨kind,level,items,data,next⟩:=p;obtain⟨⟨k1,k2⟩,⟨l1,l2⟩,h3,h4⟩:=h;simp only at k1 k2 l1 l2 h3 h4 ⊢;obtain⟨k,rfl⟩:∃k:Nat,kind=k:=⟨kind.toNat,H⟩;obtain⟨l,rfl⟩:∃l:Nat,level=l:=⟨level.toNat,H⟩;unfold rA oL;simp only[cZ]
 by_cases hk:k=3
 ·subst hk;obtain⟨rfl,a1,a2,a3⟩:=h3 rfl;obtain⟨x,rfl⟩:∃x:Nat,next=x:=⟨next.toNat,H⟩;rw[aB rfl,aB (show((3:Nat):Int)=3 from rfl)];simp only[gm,cZ];rw[k7 (show data.length<256^2 by omega)];simp only;rw[k7 (show x<256^4 by omega)];simp only;rw[AX rfl]
 obtain⟨a1,a2,rfl,rfl⟩:=h4 H;rw[aj hk,aj (show¬(k:Int)=3 by omega)];simp only[gm];rw[k7 (show items.length<256^1 by omega)];simp only;rw[T9 a1]
def aa0{r:Rk}(h:(q9 r).2.ok=true):r.b=dF 1 (q9 r).1.1++(dF 1 (q9 r).1.2.1++(dF 4 (q9 r).1.2.2.1++(dF 8 (q9 r).1.2.2.2++(q9 r).2.b)))/\(q9 r).1.1<256/\(q9 r).1.2.1<256/\(q9 r).1.2.2.1<4294967296/\(q9 r).1.2.2.2<18446744073709551616:=by
 unfold q9 at h ⊢;simp only at h ⊢
 obtain⟨d1,d2,d3⟩:=nX h;obtain⟨c1,c2,c3⟩:=nX d3;obtain⟨b1,b2,b3⟩:=nX c3;obtain⟨a1,a2,a3⟩:=nX b3;refine⟨?_,H,H,H,H⟩;rw[<-d1,<-c1,<-b1];exact a1
def abt{l:Nat}{r:Rk}(hk:k<256)(hl:l<256)(h:(rA k l r).2.ok=true):r.b=oL (rA k l r).1++(rA k l r).2.b/\OkP (rA k l r).1/\(rA k l r).1.kind=k/\(rA k l r).1.level=l/\r.ok=true:=by
 unfold rA at h ⊢
 by_cases h3:k=3
 ·subst h3;rw[aB rfl]at h ⊢;simp only at h ⊢
  obtain⟨c1,c2,c3⟩:=DM h;obtain⟨b1,b2,b3⟩:=nX c3;obtain⟨a1,a2,a3⟩:=nX b3;refine⟨?_,⟨⟨by simp only;omega,by simp only;omega⟩,⟨by simp only;omega,by simp only;omega⟩,fun _=>⟨rfl,by simp only;omega,by simp only;omega,by simp only;omega⟩,fun h=>aS (by trivial) h⟩,by trivial,by trivial,a3⟩;unfold oL;simp only[cZ];rw[aB (by rfl),c2,gm,gm,<-c1,<-b1];exact a1
 rw[aj h3]at h ⊢;simp only at h ⊢
 obtain⟨b1,b2,b3,b4⟩:=N9 h;obtain⟨a1,a2,a3⟩:=nX b4;refine⟨?_,⟨⟨by simp only;omega,by simp only;omega⟩,⟨by simp only;omega,by simp only;omega⟩,fun h=>aS h (by simp only;omega),fun _=>⟨b2,by simp only;omega,by trivial,by trivial⟩⟩,by trivial,by trivial,a3⟩;unfold oL;simp only;rw[aj H,b3,gm,<-b1];exact a1
def Xq(h:x<256^n):dQ (dF n x++r) 0 n=x:=mf (p:=[]) h
def ac2(h:OkP p)(h8:p.items.length<=8)(hn:no<4294967296)(hg:g<18446744073709551616):
  gsP (j8 no g p++r)=p/\dQ (j8 no g p++r) 2 4=no/\dQ (j8 no g p++r) 6 8=g:=by
 obtain⟨⟨k1,k2⟩,⟨l1,l2⟩,h3,h4⟩:=h;obtain⟨k,hk⟩:∃k:Nat,p.kind=k:=⟨p.kind.toNat,H⟩;obtain⟨l,hl⟩:∃l:Nat,p.level=l:=⟨p.level.toNat,H⟩;obtain⟨b,hb⟩:∃b,b=j8 no g p++r:=⟨_,rfl⟩;have e0:b=dF 1 k++(dF 1 l++(dF 4 no++(dF 8 g++(oL p++r)))):=by rw[hb,AE,hk,hl];simp
 have e1:b=dF 1 k++(dF 1 l++(dF 4 no++(dF 8 g++(oL p++r)))):=e0;have e2:b=(dF 1 k++dF 1 l)++(dF 4 no++(dF 8 g++(oL p++r))):=by rw[e0];simp
 have e6:b=(dF 1 k++(dF 1 l++dF 4 no))++(dF 8 g++(oL p++r)):=by rw[e0];simp
 obtain⟨q,hq⟩:∃q,q=dF 1 k++(dF 1 l++(dF 4 no++dF 8 g)):=⟨_,rfl⟩;have ql:q.length=14:=by rw[hq];simp[dy]
 have e14:b=q++(oL p++r):=by rw[e0,hq];simp
 rw[<-hb];have n0:dQ b 0 1=k:=by rw[e0];exact Xq H
 have n1:dQ b 1 1=l:=by
  rw[e1];have:=mf (p:=dF 1 k) (r:=dF 4 no++(dF 8 g++(oL p++r))) (show l<256^1 by omega)
  rwa [dy]at this
 have n2:dQ b 2 4=no:=by
  rw[e2];have:=mf (p:=dF 1 k++dF 1 l) (r:=dF 8 g++(oL p++r)) (show no<256^4 by omega)
  rwa [show(dF 1 k++dF 1 l).length=2 by simp[dy]]at this
 have n6:dQ b 6 8=g:=by
  rw[e6];have:=mf (p:=dF 1 k++(dF 1 l++dF 4 no)) (r:=oL p++r) (show g<256^8 by omega)
  rwa [show(dF 1 k++(dF 1 l++dF 4 no)).length=6 by simp[dy]]at this
 refine⟨?_,n2,n6⟩;unfold gsP;rw[n0,n1];obtain⟨kind,level,items,data,next⟩:=p;simp only at hk hl h3 h4 h8;subst hk;subst hl
 by_cases SY:(k:Int)=3
 ·obtain⟨rfl,a1,a2,a3⟩:=h3 SY;obtain⟨x,rfl⟩:∃x:Nat,next=x:=⟨next.toNat,H⟩;rw[aB SY];have et:oL ⟨k,l,[],data,x⟩=dF 2 data.length++(dF 4 x++data):=by unfold oL;simp only;rw[aB SY,cZ]
  rw[et]at e14;have m1:dQ b 14 2=data.length:=by
   rw[e14,<-ql];simp only[gm];exact mf H
  have m2:dQ b 16 4=x:=by
   rw[e14];have:=mf (p:=q++dF 2 data.length) (r:=data++r) (show x<256^4 by omega);rw[show(q++dF 2 data.length).length=16 by simp[dy,ql]]at this;simp only[gm]at this ⊢;exact this
  have m3:eC b 20 data.length=data:=by
   rw[e14];have:=w6 (p:=q++(dF 2 data.length++dF 4 x)) (r:=r) (rfl:data.length=data.length);rw[show(q++(dF 2 data.length++dF 4 x)).length=20 by simp[dy,ql]]at this;simp only[gm]at this ⊢;exact this
  rw[m1,m2,m3]
 obtain⟨a1,a2,rfl,rfl⟩:=h4 SY;rw[aj SY];have et:oL ⟨k,l,items,[],0⟩=dF 1 items.length++fB k items:=by unfold oL;simp only;rw[aj SY]
 rw[et]at e14;have m1:dQ b 14 1=items.length:=by
  rw[e14,<-ql];simp only[gm];exact mf H
 have m2:min (dQ b 14 1) 9=items.length:=H;have m3:=RT (p:=q++dF 1 items.length) (r:=r) (l:=items) (by simp[dy,ql]) a1 items.length (fP _);rw[m2,show b=(q++dF 1 items.length)++(fB k items++r) by rw[e14];simp,m3];simp
def aa7{b:bZ}(hl:b.length=512)(h:dQ b 6 8<=1099511627776):b.getD 13 0=0:=by
 have BG:b[13]?=some b[13]:=dG H;have e:(b.drop 6).take 8=(b.drop 6).take 7++[b[13]]:=by
  rw[rE,QV,BG];rfl
 unfold dQ at h;rw[e,qZ]at h
 have hl7:((b.drop 6).take 7).length=7:=by simp;omega
 rw[hl7]at h;have E:b[13].toNat=0:=by
  rcases Nat.eq_zero_or_pos b[13].toNat with h0|h0
  ·exact h0
  have:(2:Nat)^(8*7)<=b[13].toNat*2^(8*7):=Nat.le_mul_of_pos_left _ h0;have h56:(2:Nat)^(8*7)=72057594037927936:=by decide
  omega
 rw[ma,BG];exact UInt8.toNat_inj.1 E
def Qu:∀{l:bZ},kW l->l=jL l.length
 |[],_=>rfl
 |x::l,h=>by
  have E:x=0:=h x (kf ..);subst E;rw[kZ,jL,List.replicate_succ,<-jL,<-Qu (fun y hy=>h y (kG _ hy))]
def Qt(n:Nat):kW (jL n):=fun x E=>List.eq_of_mem_replicate E
def Jc(b:bZ):(rD b).length=max b.length 508+4:=by simp[rD,dy,jL];omega
def QH{b:bZ}(h:b.length<=508):(rD b).take 508=b++jL (508-b.length):=by
 unfold rD;rw[List.take_left' (by simp[jL];omega)]
def Bq{no:Int}{b:bZ}(hl:b.length=512)(hn:1<=no/\no<=65536):HT no b=oF no b:=by
 have ajc:∀{p g},HT no b=some (p,g)->oF no b=some (p,g):=fun{p g} h=>by
  unfold HT at h;split at h
  ·rename_i hc;obtain⟨c1,c2,c3,c4,c5,c6⟩:=hc;simp only[Option.some.injEq,Prod.mk.injEq]at h;obtain⟨hp,rfl⟩:=h;rw[hp]at c5 c6
   obtain⟨m,hm⟩:∃m,m=dQ b 2 4:=⟨_,rfl⟩;obtain⟨g,hg⟩:∃g,g=dQ b 6 8:=⟨_,rfl⟩;rw[<-hm,<-hg]at c6;rw[<-hm]at c2
   rw[<-hg]at c4 ⊢;have hk:=aae c5;have hlen:(j8 m g p).length<=508:=by have:=Jc (j8 m g p);rw[<-c6,hl]at this;omega
   have ht:b.take 508=j8 m g p++jL (508-(j8 m g p).length):=by
    have:=QH hlen;rwa [<-c6]at this
   unfold oF;rw[aB ⟨c1,hn⟩,ht,AE];simp only[gm];rw[X0 (by have:=hk.k;omega) (by have:=hk.l;omega) H H];simp only;rw[Yt hk];simp only;rw[aB ⟨c2,H,⟨Qt _,by trivial⟩,c5⟩]
  cases h
 have ajb:∀{p g},oF no b=some (p,g)->HT no b=some (p,g):=fun{p g} h=>by
  unfold oF at h;split at h
  ·rename_i hc;simp only at h;split at h
   ·rename_i hd;obtain⟨d1,d2,⟨d3,d4⟩,d5⟩:=hd;simp only[Option.some.injEq,Prod.mk.injEq]at h;obtain⟨hp,hg⟩:=h;obtain⟨oM,hH⟩:∃oM,oM=q9 ⟨b.take 508,true⟩:=⟨_,rfl⟩;rw[<-hH]at d1 d2 d3 d4 d5 hp hg
    have b0:oM.1.1<256/\oM.1.2.1<256->(b.take 508=j8 oM.1.2.2.1 oM.1.2.2.2 p++(rA oM.1.1 oM.1.2.1 oM.2).2.b)/\OkP p/\oM.1.2.2.1<4294967296/\oM.1.2.2.2<18446744073709551616:=fun hb=>by
     obtain⟨e1,e2,e3,e4,e5⟩:=abt hb.1 hb.2 d4;have e6:=aa0 (r:=⟨b.take 508,true⟩) (by rw[<-hH];exact e5);rw[<-hH]at e6;obtain⟨f1,f2,f3,f4,f5⟩:=e6;rw[hp]at e1 e2 e3 e4
     refine⟨?_,e2,f4,f5⟩;rw[AE,e3,e4,cZ,cZ];simp only[gm];rw[<-e1];exact f1
    have RR:oM.1.1<256/\oM.1.2.1<256:=by
     rw[hH];unfold q9;simp only;refine⟨D8 (n:=1) ?_,D8 (n:=1) ?_⟩
     ·show(fc 1 _).1.length<=1
      unfold fc;split<;>simp;omega
     show(fc 1 _).1.length<=1
     unfold fc;split<;>simp;omega
    obtain⟨g1,g2,g3,g4⟩:=b0 RR;have hz:=Qu d3;rw[hp]at d5;obtain⟨z,sy⟩:∃z,z=(rA oM.1.1 oM.1.2.1 oM.2).2.b:=⟨_,rfl⟩;rw[<-sy]at g1 hz
    have hlz:(j8 oM.1.2.2.1 oM.1.2.2.2 p).length+z.length=508:=by
     have:=aU List.length g1;rw[gJ,hl,di]at this;omega
    have UA:b=j8 oM.1.2.2.1 oM.1.2.2.2 p++(z++b.drop 508):=by
     rw[<-gm,<-g1,Mp]
    obtain⟨q1,q2,q3⟩:=ac2 (r:=z++b.drop 508) g2 (Gm d5) g3 g4;rw[<-UA]at q1 q2 q3;have aic:b=rD (j8 oM.1.2.2.1 oM.1.2.2.2 p):=by
     unfold rD;rw[show 508-(j8 oM.1.2.2.1 oM.1.2.2.2 p).length=z.length by omega,<-hz,<-g1];have Y:=hc.1;unfold lN at Y;rw[<-Y];have h4:(b.drop 508).length=4:=by simp;omega
     have:=IJ (b.drop 508);rw[h4]at this;rw[this,Mp]
    unfold HT;rw[q1,q2,q3,aB ⟨hc.1,d1,aa7 hl (by rw[q3];exact d2),H,d5,aic⟩,<-hg]
   cases h
  cases h
 cases hd:HT no b with
 |some x=>exact(ajc hd).symm
 |none=>
  cases hk:oF no b with
  |none=>rfl
  |some x=>rw[ajb hk]at hd;cases hd
def Sp(hi:i<n)(h:a+i<bb.length):((bb.drop a).take n).drop i=bb.getD (a+i) 0::((bb.drop a).take n).drop (i+1):=by
 have hl:i<((bb.drop a).take n).length:=by rw[gJ,jm];omega
 rw[Ms hl]
 congr 1
 rw[ma,dG h];simp
def Gp(h:¬a+i<bb.length):((bb.drop a).take n).drop i=[]:=vB (by rw[gJ,jm];omega)
def zq:∀(l:bZ) (j:Nat),jP (l.drop j)<=jP l
 |l,0=>fP _
 |[],j+1=>by simp
 |x::l,j+1=>by
  have:=zq l j;rw[W9,jP];omega
def Z1(h:a+k<bb.length):eC bb a (k+1)=eC bb a k++[bb.getD (a+k) 0]:=by
 unfold eC;rw[rE,QV,ma,dG h];rfl
def Xg(h:¬a+k<bb.length):eC bb a (k+1)=eC bb a k:=by
 unfold eC;rw[kH (by rw[jm];omega),kH (by rw[jm];omega)]
def Ba(bb:bZ)(a k:Nat):(eC bb a k).length<=k:=by unfold eC;rw[gJ];omega
def ahY(y:Nat):IntKind.u8.wrap ((y:Int)%256)=(((UInt8.ofNat (y%256)).toNat:Nat):Int):=by
 have:=We (y%256);rw[Nat.mod_mod]at this;rw[<-this];congr 1
def Tc(k:Nat):jL (k+1)=jL k++[0]:=by unfold jL;rw[ZP]
def fp(Z:aw G L w)(kb:aL L (eB v bb))(hl:bb.length<=1000000)(ha:at_+n<=1000000)(E:dQ bb at_ n<4611686018427387904):
  aA prog 147 #[v,I at_,I n] w (bU fun r w'=>r=I (dQ bb at_ n:Nat)/\aw G L w'):=by
 obtain⟨a,cap,rfl⟩:=(kb.at Z).form;obtain⟨c,hc⟩:∃c,c=(bb.drop at_).take n:=⟨_,rfl⟩;have HE:dQ bb at_ n=jP c:=by rw[hc];rfl
 rw[HE]at E ⊢;refine wF [_,_,_] func147 ntmps147 ?_;refine z16 ?_;refine bx (fun m e w=>∃j:Nat,j<=n/\m=j+1/\e=[(0, .slice a bb.length cap),(1,I at_),(7,I (jP (c.drop j):Nat)),(8,I ((j:Int)-1))]/\aw G L w)
  (m:=n+1) (e₀:=[(0, .slice a bb.length cap),(1,I at_),(7,I (0:Nat)),(8,I ((n:Int)-1))]) sB
  ⟨n,fP _,rfl,by rw[vB (by rw[hc,gJ];omega)];rfl,Z⟩ ?_
 rintro m e w ⟨j,hj,rfl,rfl,Z⟩;refine wI 6 (fun Y=>?_) fun Y=>?_
 ·obtain⟨i,rfl⟩:∃i,j=i+1:=⟨j-1,H⟩;have ei:((i+1:Nat):Int)-1=(i:Int):=H;have ea:(at_:Int)+(i:Int)=((at_+i:Nat):Int):=H;have hle:=zq c (i+1);have hli:=zq c i;have hmul:jP (c.drop (i+1))*256<=jP (c.drop i):=by
   by_cases h:at_+i<bb.length
   ·rw[hc,Sp H h,jP];omega
   rw[hc,Gp (i:=i+1) H];exact de _
  rw[ei];refine z6 ?_;refine lx rfl rfl rfl H ?_;refine z7 ?_;rw[ea];refine wI 4 (fun J=>?_) fun J=>?_
  ·have S6:at_+i<bb.length:=H;obtain⟨x,J8⟩:∃x,x=bb.getD (at_+i) 0:=⟨_,rfl⟩;have Ut:jP (c.drop i)=x.toNat+256*jP (c.drop (i+1)):=by rw[hc,Sp H S6,<-J8];rfl
   have hxb:x.toNat<256:=x.toNat_lt;obtain⟨b1,o1,rfl⟩:=(kb.at Z).nn H;refine z6 ?_;rw[ea];refine wY 0 aR bo ?_;refine bg rfl rfl (aD.one (v:=bv x) dN (by have h:=(kb.at Z).at (i:=((at_+i:Nat):Int)) ⟨H,H⟩;rw[J8];exact h)) ?_;refine cJ (v:=(x.toNat:Int)) rfl kR ig dD rfl (jd H) ?_;refine z8 ?_;have e1:((jP (c.drop (i+1)):Nat):Int)*256+(x.toNat:Int)=((jP (c.drop i):Nat):Int):=by rw[Ut];push_cast;omega
   rw[e1];exact⟨i+1,H,[(0,_),(1,_),(7,I (jP (c.drop i):Nat)),(8,I ((i:Int)-1))],sB,i,H,rfl,rfl,Z⟩
  refine z6 ?_;have S6:¬at_+i<bb.length:=H;have e1:((jP (c.drop (i+1)):Nat):Int)*256=((jP (c.drop i):Nat):Int):=by rw[hc,Gp S6,Gp (i:=i+1) H];rfl
  rw[e1];exact⟨i+1,H,[(0,_),(1,_),(7,I (jP (c.drop i):Nat)),(8,I ((i:Int)-1))],sB,i,H,rfl,rfl,Z⟩
 refine z7 ?_;exact dt rfl rfl rfl (by
 have hj0:j=0:=H;subst hj0;exact⟨rfl,Z⟩)
def tp(Z:aw G L w)(kb:aL L (eB v bb))(hl:bb.length<=1000000)(ha:at_+n<=1000000):
  aA prog 240 #[v,I at_,I n] w (bU fun r w'=>aw G (row 5 1 r (eC bb at_ n).length (cI (eC bb at_ n))::L) w'):=by
 obtain⟨a,cap,rfl⟩:=(kb.at Z).form;refine wF [_,_,_] func240 ntmps240 ?_;refine z6 ?_;refine IY rfl aR bo Z rfl fun w b9 Z=>?_;have Z:=lC (z:=1) (m:=0) (cap:=0) (xs:=[]) Z rfl (fP _) mL sM;refine z8 ?_;refine bx (fun m e w=>∃(k:Nat) (u:C),k<=n/\m=n-k/\e=[(0, .slice a bb.length cap),(1,I at_),(2,I n),(7,u),(8,I k)]/\aw G (row 5 1 u (eC bb at_ k).length (cI (eC bb at_ k))::L) w)
  (m:=n) sB
  ⟨0,_,de _,rfl,rfl,Z⟩ ?_
 rintro m e w ⟨k,u,hk,rfl,rfl,Z⟩;refine wI 7 (fun Y=>?_) fun Y=>?_
 ·have ea:(at_:Int)+(k:Int)=((at_+k:Nat):Int):=H;have wy:=Ba bb at_ k;refine z8 ?_;rw[ea];refine wI 4 (fun J=>?_) fun J=>?_
  ·have S6:at_+k<bb.length:=H;obtain⟨x,J8⟩:∃x,x=bb.getD (at_+k) 0:=⟨_,rfl⟩;have oR:=Z1 S6;rw[<-J8]at oR;obtain⟨b1,o1,rfl⟩:=((kb.of sF).at Z).nn H;obtain⟨ua,uc,rfl⟩:=aT Z;refine z6 ?_;rw[ea];refine wY 0 aR bo ?_;refine bg rfl rfl (aD.one (v:=bv x) dN (by have h:=((kb.of sF).at Z).at (i:=((at_+k:Nat):Int)) ⟨H,H⟩;rw[J8];exact h)) ?_;refine fb (cs:=[bv x]) rfl aR bo eU dM rfl rfl rfl Z rfl fun w b28 Z=>?_;refine eF (m:=(eC bb at_ k).length) (k:=1) (news:=[bv x]) rfl aR bo fF eU rfl rfl Z pK (Rd.iq Z pK) rfl (Bd _) mL H rfl fun w v29 Z=>?_;refine z7 ?_;have e2:cI (eC bb at_ k)++[bv x]=cI (eC bb at_ (k+1)):=by rw[oR];simp[cI]
   have e3:(eC bb at_ k).length+1=(eC bb at_ (k+1)).length:=by rw[oR];simp
   rw[e2,e3]at Z;have hz:=(Z.b [N b28 _ _,row 5 1 v29 _ _]).tail;exact⟨n-(k+1),H,[(0,_),(1,_),(2,_),(7,v29),(8,I (k+1:Nat))],sB,k+1,v29,H,rfl,rfl,hz⟩
  refine z6 ?_;have oR:=Xg (bb:=bb) (a:=at_) (k:=k) H
  (try unfold sQ at Z);rw[<-oR]at Z
  exact⟨n-(k+1),H,[(0,_),(1,_),(2,_),(7,u),(8,I (k+1:Nat))],sB,k+1,u,H,rfl,rfl,Z⟩
 refine z7 ?_;exact dt rfl rfl rfl (by
 have Ql:k=n:=H;subst Ql;exact Z)
def hO(Z:aw G (row 5 1 v l.length (cI l)::L) w)(E:x<4611686018427387904)(hn:n<=8)(hl:l.length<=1000000):
  aA prog 313 #[v,I x,I n] w (bU fun r w'=>aw G (row 5 1 r (l++dF n x).length (cI (l++dF n x))::L) w'):=by
 refine wF [_,_,_] func313 ntmps313 ?_;refine B' ?_;refine bx (fun m e w=>∃(k y:Nat) (u:C),k<=n/\m=n-k/\y=x/256^k/\e=[(0,u),(1,I y),(2,I n),(7,I k)]/\aw G (row 5 1 u (l++dF k x).length (cI (l++dF k x))::L) w)
  (m:=n) (e₀:=[(0,v),(1,I x),(2,I n),(7,I (0:Nat))]) sB
  ⟨0,x,_,de _,rfl,by simp,rfl,by rw[show dF 0 x=[] from rfl,kF];exact Z⟩ ?_
 rintro m e w ⟨k,y,u,hk,rfl,hy,rfl,Z⟩;refine wI 7 (fun Y=>?_) fun Y=>?_
 ·have hyx:y<=x:=by rw[hy];exact Nat.div_le_self _ _
  have sP:(l++dF k x).length<=1000008:=by rw[di,dy];omega
  obtain⟨ua,uc,rfl⟩:=aT Z;refine z7 ?_;refine Tg rfl rfl rfl H H ?_;refine cJ (v:=(((UInt8.ofNat (y%256)).toNat:Nat):Int)) rfl kR dD ig rfl (ahY y) ?_;refine fb (cs:=[bv (UInt8.ofNat (y%256))]) rfl aR bo eU dM rfl rfl rfl Z rfl fun w b17 Z=>?_;refine eF (m:=(l++dF k x).length) (k:=1) (news:=[bv (UInt8.ofNat (y%256))]) rfl aR bo fF eU rfl rfl Z pK (Rd.iq Z pK) rfl (Bd _) mL H rfl fun w NG Z=>?_;refine z4 ?_;refine yW rfl rfl rfl H H ?_;refine z7 ?_;have e1:(y:Int)/256=((x/256^(k+1):Nat):Int):=by
   rw[Hs,<-TL,<-hy];simp
  have e4:l++dF (k+1) x=(l++dF k x)++[UInt8.ofNat (y%256)]:=by rw[JT,<-hy];simp
  have e2:cI (l++dF k x)++[bv (UInt8.ofNat (y%256))]=cI (l++dF (k+1) x):=by rw[e4];simp[cI]
  have e3:(l++dF k x).length+1=(l++dF (k+1) x).length:=by rw[e4];simp only[di,kZ,DY]
  rw[e1];rw[e2,e3]at Z;have hz:=(Z.b [N b17 _ _,row 5 1 NG _ _]).tail;exact⟨n-(k+1),H,[(0,NG),(1,I (x/256^(k+1):Nat)),(2,_),(7,I (k+1:Nat))],sB,k+1,_,NG,H,rfl,rfl,rfl,hz⟩
 refine z7 ?_;exact dt rfl rfl rfl (by
 have Ql:k=n:=H;subst Ql;exact Z)
def HZ(Z:aw G L w)(kl:aL L (eB v l))(hl:l.length<=508):aA prog 241 #[v] w (bU fun r w'=>aw G (row 5 1 r (rD l).length (cI (rD l))::L) w'):=by
 refine wF [_] func241 ntmps241 ?_;refine z7 ?_;refine aO rfl bX rfl (cy Z kl H) rfl fun w v5 hv=>?_;have Z:=hv;refine z4 ?_;refine bx (fun m e w=>∃(k:Nat) (u:C),l.length+k<=508/\m=508-(l.length+k)/\e=[(3,u)]/\aw G (row 5 1 u (l++jL k).length (cI (l++jL k))::L) w)
  (m:=508-l.length) sB
  ⟨0,_,H,rfl,rfl,by rw[show jL 0=[] from rfl,kF];exact Z⟩ ?_
 rintro m e w ⟨k,u,hk,rfl,rfl,Z⟩;have hlz:(l++jL k).length=l.length+k:=by rw[di];simp[jL]
 obtain⟨ua,uc,rfl⟩:=aT Z;refine wI 7 (fun Y=>?_) fun Y=>?_
 ·refine z4 ?_;refine fb (cs:=[bv 0]) rfl aR bo eU dM rfl rfl rfl Z rfl fun w S9 Z=>?_;refine eF (m:=(l++jL k).length) (k:=1) (news:=[bv 0]) rfl aR bo fF eU rfl rfl Z pK (Rd.iq Z pK) rfl (Bd _) mL H rfl fun w v11 Z=>?_;refine z2 ?_;have e4:l++jL (k+1)=(l++jL k)++[0]:=by rw[Tc];simp
  have e2:cI (l++jL k)++[bv 0]=cI (l++jL (k+1)):=by rw[e4];simp[cI]
  have e3:(l++jL k).length+1=(l++jL (k+1)).length:=by rw[e4];simp only[di,kZ,DY]
  rw[e2,e3]at Z;have hz:=(Z.b [N S9 _ _,row 5 1 v11 _ _]).tail;exact⟨508-(l.length+(k+1)),H,[(3,v11)],sB,k+1,v11,H,rfl,rfl,hz⟩
 have oY:k=508-l.length:=H;subst oY;refine z5 ?_;refine wC rfl xJ rfl (zZ Z (eB.row.head L) H) fun w Z=>?_
 have Md:=(s0 (l++jL (508-l.length))).isLt;refine cJ (v:=((s0 (l++jL (508-l.length))).toNat:Int)) rfl kR mN dD rfl (jd H) ?_;refine aO rfl gv rfl (hO (x:=(s0 (l++jL (508-l.length))).toNat) (n:=4) Z H H H) rfl fun w v16 hv=>?_;have Z:=hv;refine dk 3 ?_;exact Z
def lQ{b:bZ}(a n:Nat):dQ b a n<256^n:=D8 (by rw[gJ];omega)
def JM(h:i<bb.length):dQ bb i 1=(bb.getD i 0).toNat:=by
 unfold dQ;rw[Ms h,ma,dG h]
 show bb[i].toNat+256*jP ((bb.drop (i+1)).take 0)=bb[i].toNat
 rw[DX];rfl
def afQ(kind:Int)(b:bZ)(a:Nat):(X9 kind b a).2<=a+300:=by
 have Y:=lQ (b:=b) a 1;unfold X9;simp only;split
 ·split
  ·simp only;omega
  simp only;omega
 simp only;omega
def VU(kind:Int)(b:bZ):∀k,(vK kind b k).2<=15+300*k
 |0=>fP _
 |k+1=>by
  have Y:=afQ kind b (vK kind b k).2;have J:=VU kind b k;rw[vK];simp only;omega
def J2{l:List cP}{x:cP}(Z:aw G (row 198 4 u (k+1) ((l.map cP.cells).flatten++x.cells)::bt (l.flatMap cm)::row 5 1 x.kv x.it.key.length (cI x.it.key)::row 5 1 x.vv x.it.value.length (cI x.it.value)::L) w):
  aw G (row 198 4 u (k+1) ((l++[x]).map cP.cells).flatten::bt ((l++[x]).flatMap cm)::L) w:=by
 have h:=Z.b [bt _,row 5 1 x.kv _ _,row 5 1 x.vv _ _];have h:=(h.iD).iD;have e1:l.flatMap cm++[row 5 1 x.kv x.it.key.length (cI x.it.key)]++[row 5 1 x.vv x.it.value.length (cI x.it.value)]=(l++[x]).flatMap cm:=by simp[cm]
 have e2:(l.map cP.cells).flatten++x.cells=((l++[x]).map cP.cells).flatten:=by simp
 rw[e1]at h;rw[e2]at h
 exact h.b [row 198 4 u _ _]
def ad9(kind:Int)(bb:bZ)(k:Nat)(l:List cP):Prop:=l.length=k/\l.map cP.it=(vK kind bb k).1/\∀y∈l,Qc y
def ad9.step{ad:Nat}{l:List cP}{x:cP}(h:ad9 kind bb k l)(E:X9 kind bb (vK kind bb k).2=(x.it,ad))(hs:Qc x):ad9 kind bb (k+1) (l++[x])/\(vK kind bb (k+1)).2=ad:=by
 refine⟨⟨by simp[h.1],?_,fun y hy=>?_⟩,?_⟩
 ·rw[vK];simp only[E,jX,h.2.1];rfl
 ·rcases eZ.1 hy with hy|hy
  ·exact h.2.2 y hy
  simp at hy;subst hy;exact hs
 rw[vK];simp only[E]
def K2(Z:aw G L w)(kb:aL L (eB v bb))(hl:bb.length=512):aA prog 149 #[v] w (bU fun r w'=>∃p:dL,p.pg=gsP bb/\r=gQ p.cells/\p.Sm/\aw G (fg p::L) w'):=by
 obtain⟨a,cap,VK⟩:=(kb.at Z).form;subst VK;obtain⟨b0,o0,rfl⟩:=(kb.at Z).nn H;obtain⟨k0,hk0⟩:∃k0,k0=dQ bb 0 1:=⟨_,rfl⟩;obtain⟨l0,hl0⟩:∃l0,l0=dQ bb 1 1:=⟨_,rfl⟩;obtain⟨n0,hn0⟩:∃n0,n0=dQ bb 14 1:=⟨_,rfl⟩;have aiF:(bb.getD 0 0).toNat=k0:=by rw[hk0,JM H]
 have aiB:(bb.getD 1 0).toNat=l0:=by rw[hl0,JM H]
 have ait:(bb.getD 14 0).toNat=n0:=by rw[hn0,JM H]
 have ahh:k0<256:=by rw[hk0];exact lQ 0 1
 have aju:l0<256:=by rw[hl0];exact lQ 1 1
 have ajt:n0<256:=by rw[hn0];exact lQ 14 1
 have hgs:gsP bb=if(k0:Int)=3 then⟨k0,l0,[],eC bb 20 (dQ bb 14 2),dQ bb 16 4⟩else⟨k0,l0,(vK k0 bb (min n0 9)).1,[],0⟩:=by unfold gsP;rw[<-hk0,<-hl0,<-hn0]
 refine wF [_] func149 ntmps149 ?_;refine wL 2 bW Z fun w b2 Z=>?_;refine z2 ?_;refine wQ [0,1,2,3,4,5,6,7,8,9,10] Z fun Z=>?_
 refine wY 1 aR bo ?_;refine bg rfl rfl (aD.one (v:=bv (bb.getD 0 0)) dN (((kb.of sF).at Z).at (i:=0) ⟨H,H⟩)) ?_;refine cJ (v:=(k0:Int)) rfl kR ig dD rfl (by rw[aiF];exact jd H) ?_;refine wY 1 aR bo ?_;refine bg rfl rfl (aD.one (v:=bv (bb.getD 1 0)) dN (((kb.of sF).at Z).at (i:=1) ⟨H,H⟩)) ?_;refine cJ (v:=(l0:Int)) rfl kR ig dD rfl (by rw[aiB];exact jd H) ?_;refine wV 0 (v:= .agg #[I k0,I l0,nQ,nQ,I 0]) ?_;refine kX rfl bW Z (fun w b3 Z q' hq=>?_) fun w b3 Z=>?_
 ·have hq:=bK (l:=[6,2]) kR hq;simp only[cE,fQ,or_false]at hq;rcases hq with rfl|rfl
  ·exact bG rfl rfl rfl (aD.one (v:=bv (bb.getD 1 0)) dN (((kb.of sF).at Z).at (i:=1) ⟨H,H⟩))
  exact bG rfl rfl rfl (aD.one (v:=bv (bb.getD 0 0)) dN (((kb.of sF).at Z).at (i:=0) ⟨H,H⟩))
 refine wN 0 (cs:=[I k0,I l0,nQ,nQ,I 0]) (l':=[I k0,I l0,nQ,nQ,I 0]) ay (by intro u hu;simp at hu;rcases hu with rfl|rfl|rfl|rfl<;>rfl) Z (fun w Z=>?_);refine wD 5 (v:=I k0) ag Z ?_;refine wI 2 (fun Y=>?_) fun Y=>?_
 ·refine z3 ?_;refine wC rfl eL rfl (fp (at_:=16) (n:=4) Z (kb.of sF) H H (by have:=lQ (b:=bb) 16 4;omega)) fun w Z=>?_
  refine wS 1 (l':=[I k0,I l0,nQ,nQ,I (dQ bb 16 4:Nat)]) ag Z fun w Z=>?_;refine z5 ?_;refine wC rfl eL rfl (fp (at_:=14) (n:=2) Z (kb.of sF) H H (by have:=lQ (b:=bb) 14 2;omega)) fun w Z=>?_
  refine aO rfl rR rfl (tp (at_:=20) (n:=dQ bb 14 2) Z (kb.of sF) H (by have:=lQ (b:=bb) 14 2;omega)) rfl (fun w v25 hv=>?_);have Z:=hv;have wy:=Ba bb 20 (dQ bb 14 2);have hnl:=lQ (b:=bb) 14 2;obtain⟨da,dc,rfl⟩:=aT Z;refine wS 1 (l':=[I k0,I l0,nQ, .slice da (eC bb 20 (dQ bb 14 2)).length dc,I (dQ bb 16 4:Nat)]) ao Z fun w Z=>?_;refine wA 3 (l:=[I k0,I l0,nQ, .slice da (eC bb 20 (dQ bb 14 2)).length dc,I (dQ bb 16 4:Nat)]) ay Z ?_;refine wN 0 (cs:=[I k0,I l0,nQ, .slice da (eC bb 20 (dQ bb 14 2)).length dc,I (dQ bb 16 4:Nat)]) (l':=[I k0,I l0,nQ, .slice da (eC bb 20 (dQ bb 14 2)).length dc,I (dQ bb 16 4:Nat)]) ay (by intro u hu;simp at hu;rcases hu with rfl|rfl|rfl|rfl|rfl<;>rfl) Z (fun w Z=>?_);refine z2 ?_;exact dt rfl rfl ⟨_,rfl,(aD.dB (l:=[I k0,I l0,nQ, .slice da (eC bb 20 (dQ bb 14 2)).length dc,I (dQ bb 16 4:Nat)]) ay Z pK rfl)⟩ (by
   have hz:=(Z.b [N b2 _ _,N b3 _ _,row 5 1 _ _ _]).t2;have hz:=bB (aw.bJ (M:=[]) hz) 198 4;refine⟨⟨k0,l0,[],nQ, .slice da (eC bb 20 (dQ bb 14 2)).length dc,eC bb 20 (dQ bb 14 2),dQ bb 16 4⟩,?_,rfl,⟨by simp,by simp,by unfold dP;simp only;omega⟩,aw.bJ (M:=qB ⟨k0,l0,[],nQ, .slice da (eC bb 20 (dQ bb 14 2)).length dc,eC bb 20 (dQ bb 14 2),dQ bb 16 4⟩) hz⟩;rw[hgs,aB Y];rfl)
 refine SP ?_;have Z:=bB Z 198 4;have Z:=aw.bJ (M:=([]:List cP).flatMap cm) Z;have Z:=Z.b [N b3 _ _,row 198 4 _ _ _,bt _];refine bx (fun m e w=>∃(k:Nat) (l:List cP) (u:C),k<=min n0 9/\m=min n0 9-k/\e=[(0, .slice (some ⟨b0,o0,none⟩) bb.length cap),(2,pQ b2),(3,pQ b3),(4,I (vK k0 bb k).2),(5,I k)]/\ad9 k0 bb k l∧
 aw G (N b3 [I k0,I l0,u,nQ,I 0] 104::row 198 4 u k (l.map cP.cells).flatten::bt (l.flatMap cm)::N b2 [I 0,I 0,nQ,nQ,I 0] 104::L) w)
  (m:=min n0 9) sB
  ⟨0,[],_,de _,rfl,rfl,⟨rfl,rfl,by simp⟩,Z⟩ ?_
 rintro m e w ⟨k,l,u,hk,rfl,rfl,hgl,Z⟩;have hAb:=VU k0 bb k;obtain⟨A,hA⟩:∃A,A=(vK k0 bb k).2:=⟨_,rfl⟩;rw[<-hA]at hAb ⊢;obtain⟨ua,uc,rfl⟩:=aT (Z.b [row 198 4 u _ _]);refine wY 5 aR bo ?_;refine bg rfl rfl (aD.one (v:=bv (bb.getD 14 0)) dN (((kb.of sF).at Z).at (i:=14) ⟨H,H⟩)) ?_;refine cJ (v:=(n0:Int)) rfl kR ig dD rfl (by rw[ait];exact jd H) ?_;refine z2 ?_;refine bw (l1:=[7,8,9]) (l2:=[]) rfl (d:=37) (k<n0/\k<=8) rfl ?_ ?_
 ·refine ar (d:=34) rfl (fun J=>?_) fun J=>?_
  ·exact wq 4
  exact wq 4
 refine aK ?_;refine wI 0 (fun h3=>?_) fun h3=>?_
 ·obtain⟨kl,yp⟩:∃kl,kl=dQ bb A 1:=⟨_,rfl⟩;have aiC:kl<256:=by rw[yp];exact lQ A 1
  refine z8 ?_;rw[show(A:Int)+1=((A+1:Nat):Int) by omega];refine z2 ?_;refine wC rfl eL rfl (fp (at_:=A) (n:=1) Z (kb.of sF) H H H) fun w Z=>?_
  rw[<-yp];refine aO rfl rR rfl (tp (at_:=A+1) (n:=kl) Z (kb.of sF) H H) rfl fun w v46 hv=>?_;have Z:=hv;obtain⟨ky,eky⟩:∃ky,ky=eC bb (A+1) kl:=⟨_,rfl⟩;have aj3:ky.length<=kl:=by rw[eky];exact Ba _ _ _
  rw[<-eky]at Z;obtain⟨ka,kc,rfl⟩:=aT Z;refine wV 0 (v:= .agg #[.slice ka ky.length kc,nQ,I 0,I 0]) ?_;refine wL 0 jc Z fun w b6 Z=>?_;refine wN 0 (cs:=[.slice ka ky.length kc,nQ,I 0,I 0]) (l':=[.slice ka ky.length kc,nQ,I 0,I 0]) bA (by intro u hu;simp at hu;rcases hu with rfl|rfl|rfl<;>rfl) Z (fun w Z=>?_);refine z6 ?_;refine wC rfl eL rfl (fp (at_:=A) (n:=1) Z (kb.of sF) H H H) fun w Z=>?_
  rw[<-yp];refine z2 ?_;rw[show(A:Int)+(1+(kl:Int))=((A+1+kl:Nat):Int) by omega];obtain⟨ad,hC⟩:∃ad,ad=A+1+kl:=⟨_,rfl⟩;rw[<-hC];refine wD 6 (v:=I k0) ag Z ?_;refine wI 2 (fun h4=>?_) fun h4=>?_
  ·obtain⟨z,Ed⟩:∃z,z=dQ bb ad 2:=⟨_,rfl⟩;have hz2:z<65536:=by rw[Ed];exact lQ ad 2
   refine z4 ?_;refine wC rfl eL rfl (fp (at_:=ad) (n:=2) Z (kb.of sF) H H H) fun w Z=>?_
   rw[<-Ed];refine wS 1 (l':=[.slice ka ky.length kc,nQ,I 0,I z]) ag Z fun w Z=>?_;refine z4 ?_;rw[show(ad:Int)+2=((ad+2:Nat):Int) by omega];refine wD 6 (v:=I k0) ag Z ?_;refine z2 ?_;refine ar (d:=66) rfl (fun h5=>?_) fun h5=>?_
   ·refine wD 1 (v:=I z) ag Z ?_;refine wI 3 (fun h6=>?_) fun h6=>?_
    ·refine wD 5 (v:=I z) ag Z ?_;refine aO rfl rR rfl (tp (at_:=ad+2) (n:=z) Z (kb.of sF) H H) rfl fun w v75 hv=>?_;have Z:=hv;obtain⟨vy,evy⟩:∃vy,vy=eC bb (ad+2) z:=⟨_,rfl⟩;have ajT:vy.length<=z:=by rw[evy];exact Ba _ _ _
     rw[<-evy]at Z;obtain⟨va,vc,rfl⟩:=aT Z;refine wS 1 (l':=[.slice ka ky.length kc, .slice va vy.length vc,I 0,I z]) ao Z fun w Z=>?_;refine wD 4 (v:=I z) ag Z ?_;refine z1 ?_;rw[show((ad+2:Nat):Int)+(z:Int)=((ad+2+z:Nat):Int) by omega];refine wD 4 (v:= .slice ua k uc) aH Z ?_;refine wA 0 (l:=[.slice ka ky.length kc, .slice va vy.length vc,I 0,I z]) bA Z ?_;refine fb (cs:=[.slice ka ky.length kc, .slice va vy.length vc,I 0,I z]) rfl aV bz fi dM rfl rfl rfl Z rfl fun w b90 Z=>?_;refine eF (m:=k) (k:=1) (news:=[.slice ka ky.length kc, .slice va vy.length vc,I 0,I z]) rfl aV bz kD fi rfl rfl Z pK (Rd.iq Z pK) rfl (by intro u hu;simp at hu;rcases hu with rfl|rfl|rfl|rfl<;>rfl) mL H rfl (fun w v91 Z=>?_);obtain⟨xa,xc,rfl⟩:=aT Z;refine wS 1 (l':=[I k0,I l0, .slice xa (k+1) xc,nQ,I 0]) aH Z fun w Z=>?_;refine z6 ?_;have E:X9 k0 bb (vK k0 bb k).2=((⟨⟨ky,vy,0,z⟩, .slice ka ky.length kc, .slice va vy.length vc⟩:cP).it,ad+2+z):=by
      rw[<-hA];unfold X9;simp only[aB h4,<-yp,<-hC,<-Ed,aB h6,<-eky,<-evy]
     have jQ:=hgl.step E ⟨by show ky.length<=65536;omega,by show vy.length<=65536;omega⟩;have hb:=(Z.b [N b90 _ _,N b6 _ _,row 198 4 (.slice xa (k+1) xc) _ _,bt _,row 5 1 (.slice ka ky.length kc) _ _,row 5 1 (.slice va vy.length vc) _ _]).t2;have hb:=J2 (x:=⟨⟨ky,vy,0,z⟩, .slice ka ky.length kc, .slice va vy.length vc⟩) hb;have hb:=hb.b [N b3 _ _];rw[<-jQ.2];exact⟨min n0 9-(k+1),H,[(0,_),(2,_),(3,_),(4,_),(5,I (k+1:Nat))],sB,k+1,_,_,H,rfl,rfl,jQ.1,hb⟩
    refine z4 ?_;refine wC rfl eL rfl (fp (at_:=ad+2) (n:=4) Z (kb.of sF) H H (by have:=lQ (b:=bb) (ad+2) 4;omega)) fun w Z=>?_
    refine wS 1 (l':=[.slice ka ky.length kc,nQ,I (dQ bb (ad+2) 4:Nat),I z]) ag Z fun w Z=>?_;refine wD 8 (v:= .slice ua k uc) aH Z ?_;refine wA 0 (l:=[.slice ka ky.length kc,nQ,I (dQ bb (ad+2) 4:Nat),I z]) bA Z ?_;refine fb (cs:=[.slice ka ky.length kc,nQ,I (dQ bb (ad+2) 4:Nat),I z]) rfl aV bz fi dM rfl rfl rfl Z rfl fun w b90 Z=>?_;refine eF (m:=k) (k:=1) (news:=[.slice ka ky.length kc,nQ,I (dQ bb (ad+2) 4:Nat),I z]) rfl aV bz kD fi rfl rfl Z pK (Rd.iq Z pK) rfl (by intro u hu;simp at hu;rcases hu with rfl|rfl|rfl|rfl<;>rfl) mL H rfl (fun w v91 Z=>?_);obtain⟨xa,xc,rfl⟩:=aT Z;refine wS 1 (l':=[I k0,I l0, .slice xa (k+1) xc,nQ,I 0]) aH Z fun w Z=>?_;refine z6 ?_;rw[show((ad+2:Nat):Int)+4=((ad+2+4:Nat):Int) by omega];have E:X9 k0 bb (vK k0 bb k).2=((⟨⟨ky,[],dQ bb (ad+2) 4,z⟩, .slice ka ky.length kc,nQ⟩:cP).it,ad+2+4):=by
     rw[<-hA];unfold X9;simp only[aB h4,<-yp,<-hC,<-Ed,aj h6,<-eky]
    have jQ:=hgl.step E ⟨by show ky.length<=65536;omega,by show(0:Nat)<=65536;omega⟩;have Z:=bB Z 5 1;have hb:=(Z.b [N b90 _ _,N b6 _ _,row 198 4 (.slice xa (k+1) xc) _ _,bt _,row 5 1 (.slice ka ky.length kc) _ _,row 5 1 (nQ) _ _]).t2;have hb:=J2 (x:=⟨⟨ky,[],dQ bb (ad+2) 4,z⟩, .slice ka ky.length kc,nQ⟩) hb;have hb:=hb.b [N b3 _ _];rw[<-jQ.2];exact⟨min n0 9-(k+1),H,[(0,_),(2,_),(3,_),(4,_),(5,I (k+1:Nat))],sB,k+1,_,_,H,rfl,rfl,jQ.1,hb⟩
   exact aS h4 h5
  refine wD 5 (v:=I k0) ag Z ?_;refine z2 ?_;refine ar (d:=66) rfl (fun h7=>?_) fun h7=>?_
  ·exact aS h7 h4
  refine z5 ?_;refine cD rfl ?_;refine z4 ?_;refine wC rfl eL rfl (fp (at_:=ad) (n:=4) Z (kb.of sF) H H (by have:=lQ (b:=bb) ad 4;omega)) fun w Z=>?_
  refine wS 1 (l':=[.slice ka ky.length kc,nQ,I (dQ bb ad 4:Nat),I 0]) ag Z fun w Z=>?_;refine wD 8 (v:= .slice ua k uc) aH Z ?_;refine wA 0 (l:=[.slice ka ky.length kc,nQ,I (dQ bb ad 4:Nat),I 0]) bA Z ?_;refine fb (cs:=[.slice ka ky.length kc,nQ,I (dQ bb ad 4:Nat),I 0]) rfl aV bz fi dM rfl rfl rfl Z rfl fun w b90 Z=>?_;refine eF (m:=k) (k:=1) (news:=[.slice ka ky.length kc,nQ,I (dQ bb ad 4:Nat),I 0]) rfl aV bz kD fi rfl rfl Z pK (Rd.iq Z pK) rfl (by intro u hu;simp at hu;rcases hu with rfl|rfl|rfl|rfl<;>rfl) mL H rfl (fun w v91 Z=>?_);obtain⟨xa,xc,rfl⟩:=aT Z;refine wS 1 (l':=[I k0,I l0, .slice xa (k+1) xc,nQ,I 0]) aH Z fun w Z=>?_;refine z6 ?_;rw[show(ad:Int)+4=((ad+4:Nat):Int) by omega];have E:X9 k0 bb (vK k0 bb k).2=((⟨⟨ky,[],dQ bb ad 4,0⟩, .slice ka ky.length kc,nQ⟩:cP).it,ad+4):=by
   rw[<-hA];unfold X9;simp only[aj h4,<-yp,<-hC,<-eky]
  have jQ:=hgl.step E ⟨by show ky.length<=65536;omega,by show(0:Nat)<=65536;omega⟩;have Z:=bB Z 5 1;have hb:=(Z.b [N b90 _ _,N b6 _ _,row 198 4 (.slice xa (k+1) xc) _ _,bt _,row 5 1 (.slice ka ky.length kc) _ _,row 5 1 (nQ) _ _]).t2;have hb:=J2 (x:=⟨⟨ky,[],dQ bb ad 4,0⟩, .slice ka ky.length kc,nQ⟩) hb;have hb:=hb.b [N b3 _ _];rw[<-jQ.2];exact⟨min n0 9-(k+1),H,[(0,_),(2,_),(3,_),(4,_),(5,I (k+1:Nat))],sB,k+1,_,_,H,rfl,rfl,jQ.1,hb⟩
 refine wA 3 (l:=[I k0,I l0, .slice ua k uc,nQ,I 0]) ay Z ?_;refine wN 0 (cs:=[I k0,I l0, .slice ua k uc,nQ,I 0]) (l':=[I k0,I l0, .slice ua k uc,nQ,I 0]) ay (by intro u hu;simp at hu;rcases hu with rfl|rfl|rfl|rfl|rfl<;>rfl) Z (fun w Z=>?_);refine z2 ?_;exact dt rfl rfl ⟨_,rfl,(aD.dB (l:=[I k0,I l0, .slice ua k uc,nQ,I 0]) ay Z pK rfl)⟩ (by
    have oY:k=min n0 9:=H;obtain⟨hg1,hg2,hg3⟩:=hgl;subst hg1;have hz:=(Z.b [N b2 _ _,N b3 _ _,row 198 4 _ _ _,bt _]).t2;have hz:=(bB hz 5 1).b [row 198 4 _ _ _,bt _];refine⟨⟨k0,l0,l, .slice ua l.length uc,nQ,[],0⟩,?_,rfl,⟨by simp only;omega,fun x E=>?_,by unfold dP;simp⟩,aw.bJ (M:=qB ⟨k0,l0,l, .slice ua l.length uc,nQ,[],0⟩) hz⟩
    ·rw[hgs,aj Y,<-oY,<-hg2];rfl
    ·have:=hg3 x E;unfold Qc at this;unfold dP;omega)
end
end Go.Proofs.YtjbkgbilbnccnaaGreatDoor.X
