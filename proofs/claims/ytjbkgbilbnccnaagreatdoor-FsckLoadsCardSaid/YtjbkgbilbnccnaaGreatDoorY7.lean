/- Part 7 of what the proof of this claim stands on: rules for walking the code, and what its functions answer; no conditions. -/
import Derived.Test.YtjbkgbilbnccnaaGreatDoorY6
namespace Go.Proofs.YtjbkgbilbnccnaaGreatDoor.X
open _root_.Go.Proofs.Tryz _root_.Go.Proofs.YtjbkgbilbnccnaaGreatDoor.Tryz
set_option linter.defProp false
noncomputable section
set_option linter.unusedVariables false
set_option linter.unusedSimpArgs false
set_option maxRecDepth 20000
set_option maxHeartbeats 8000000
variable{a a':Act}{K:Act->ae->Prop}{listed:Array Bool}{O:Array aP}{df:Bool}{r v:C}{V:C->ae->Prop}{Q:Exit->Act->ae->Prop}{fn:Func}{G:Gh}{c:List (Op×Option (Nat×Bool)×Nat)}{args ds rs vs:List C}{p post pre:List Nat}{L:List aF}{Fe Ff eT μ:Mu}{cf fuel i j n ng t x:Nat}{ids ids':Nat->Option Nat}{op:Op}{g:Option (Nat×Bool)}{d ro:Option Nat}{S S' S0 S1:St}{α:Type}{T:aC}{o:aP}{w w' w0 w1:ae}{P:au}{f:bN}{e hx l l':cX}{k:cX->List C->St->Bool}
def Yh(P:au)(ng:Nat)(l e:cX)(S:St)(op:Op)(T:aC):Option (C×St):=match op with
 | .store t x v=>ob (lu ng l e x) fun a=>ob (lu ng l e v) fun b=>ob (To P t S a b) fun S'=>some (undef,S')
 | .mapUpdate t m k v=>ob (lu ng l e m) fun a=>ob (lu ng l e k) fun b=>ob (lu ng l e v) fun c=>ob (acI P t S a b c) fun S'=>some (undef,S')
 | .insert t m k v=>ob (lu ng l e m) fun a=>ob (lu ng l e k) fun b=>ob (lu ng l e v) fun c=>ob (acI P t S a b c) fun S'=>some (undef,S')
 | .range t m=>ob (lu ng l e m) (ae5 P t S)
 | .convert s d x=>ob (lu ng l e x) fun v=>ob (aan P s d S v) fun S'=>some (v,S')
 | .call ⟨.builtin b,args,ts⟩=>ob (pX ng l e args.toList) fun vs=>(match b,vs with
  | .append,[s,x]=>ck (Nat.beq ts.size 2) (ahC P ts S s x)
  | .copy,[d,s]=>abl P ts S d s
  | .delete,[m,k]=>ob ts[0]? fun t=>ob (afZ P t S m k) fun S'=>some (.tuple #[],S')
  | .clear,[m]=>ob ts[0]? fun t=>ob (P.underlying t) fun _=>ob (af7 S m) fun S'=>some (.tuple #[],S')
  |_,_=>none)
 |_=>none
def Ec(P:au)(op:Op):Nat:=match op with
 | .load _ _| .lookup _ _ _ _| .entry _=>1
 | .alloc _| .box _ _| .buildSlice _ _ _| .makeMap _ _| .makeSlice _ _ _=>3
 | .store _ _ _| .mapUpdate _ _ _ _| .insert _ _ _ _| .range _ _=>2
 | .convert s d _=>(match P.underlying s with
  |some (.slice _)=>2
  |_=>0)
 | .next _ _=>5
 | .defer _=>6
 | .call ⟨.builtin b,args,ts⟩=>(match b with
  | .len| .cap=>(match ts[0]?with
   |some t=>(match P.underlying t with
    |some (.map _ _)=>1
    |_=>0)
   |none=>0)
  | .min| .max=>0
  | .append| .copy| .delete| .clear=>2
  |_=>9)
 | .call _=>4
 | .move _| .assign _| .pick _ _ _| .build _ _| .nilCheck _| .binOp _ _ _ _ _| .unOp _ _ _| .makeInterface _ _| .makeFunc _ _ _| .slice _ _ _ _ _| .fieldAddr _ _ _| .field _ _ _| .indexAddr _ _ _| .index _ _ _| .typeAssert _ _ _ _| .extract _ _=>0
 |_=>9
inductive Rq where
 |call (f:bN) (args:List C)
 |R8 (f:bN) (args:List C)
 |round (i:Nat) (args:List C)
abbrev Nu:=Rq->St->(C->St->Bool)->Bool
variable{R:Nu}
def oK(x:Option α)(k:α->Bool):Bool:=Option.rec false k x
def aai(S:St)(it:C)(k:C->St->Bool):Bool:=match it with
 | .pointer (some ⟨i,0,none⟩)=>oK (S.at i) fun A=>(match A with
  | .iter none _ _ _=>k (.tuple #[.bool false]) S
  | .iter (some m) since seen last=>oK (S.at m) fun B=>(match B with
   | .map es clock=>cond (es.all (fun e=>Nat.blt e.born since)&&(seen.isEmpty||es.isEmpty||!(es.all fun e=>Nat.ble last e.born)))
    (cond (es.all fun e=>seen.contains e.born) (k (.tuple #[.bool false]) S)
     ((es.filter fun e=>!(seen.contains e.born)).all fun e=>k (.tuple #[.bool true,e.key,e.val]) (S.set i (.iter (some m) since (seen++[e.born]) clock)))) false
   |_=>false)
  |_=>false)
 |_=>false
def afo(v:C):Option Nat:=match v with
 | .int .u8 (.ofNat n)=>some n
 |_=>none
def aer(l:List C):Option (List Nat):=List.rec (some []) (fun v _ ih=>ob (afo v) fun n=>ck (Nat.blt n 256) (ob ih fun ns=>some (n::ns))) l
def af6(a:List Nat):List Nat->Int:=List.rec (fun b=>List.rec (.ofNat 0) (fun _ _ _=> .negSucc 0) b) (fun x _ ih b=>List.rec (.ofNat 1) (fun y b' _=>Bool.rec (Bool.rec (ih b') (.ofNat 1) (Nat.blt y x)) (.negSucc 0) (Nat.blt x y)) b) a
def adw(S:St)(x:C):Option (List Nat):=match x with
 | .slice _ n _=>ob (Ft S 1 n x) aer
 |_=>none
def af5(S:St)(vs:List C):Option C:=match vs with
 |[x,y]=>ob (adw S x) fun a=>ob (adw S y) fun b=>some (I (af6 a b))
 |_=>none
def SD(a:Array C):List C:=a.toList
def Wd(P:au)(ng cf:Nat)(R:Nu)(l e:cX)(S:St)(c:Call)(k:C->St->Bool):Bool:=match c.callee with
 | .value f=>oK (lu ng l e f) fun v=>oK (pX ng l e c.args.toList) fun vs=>(match v with
  | .func (.func g) a b=>cond (Nat.beq g cf) (cond (a.isEmpty&&b.isEmpty) (oK (af5 S vs) fun v=>k v S) false) (R (.call g (SD a++(vs++SD b))) S k)
  | .func (.yield i) _ _=>R (.round i vs) S k
  |_=>false)
 | .invoke _ _=>false
 | .builtin _=>false
def TT(P:au)(ng cf:Nat)(R:Nu)(l e:cX)(S:St)(op:Op)(T:aC)(k:C->St->Bool):Bool:=match Ec P op with
 |0=>oK (DZ P ng l e op T) fun v=>k v S
 |1=>oK (rV P ng l e S op) fun v=>k v S
 |2=>oK (Yh P ng l e S op T) fun x=>k x.1 x.2
 |3=>oK (AH P ng l e op) fun x=>cond (Nat.blt S.n 32768) (k (x.2 S.n) (S.add x.1)) false
 |4=>(match op with
  | .call c=>Wd P ng cf R l e S c k
  |_=>false)
 |5=>(match op with
  | .next it false=>oK (lu ng l e it) fun v=>aai S v k
  |_=>false)
 |_=>false
structure En where
 o:aP
 g:Option (Nat×Bool)
 chk:List (Op×Option (Nat×Bool)×Nat)
variable{q:List En}
def RU(O:Array aP)(g:Option (Nat×Bool)):Option (Option (Nat×Bool)):=match g with
 |none=>some none
 |some (j,want)=>(match(O[j]?).bind (·.dst)with
  |some d=>some (some (d,want))
  |none=>none)
def uh(l e:cX)(g:Option (Nat×Bool))(k:Bool->Bool):Bool:=match g with
 |none=>k true
 |some (d,want)=>oK (gO d l e) fun v=>(match v with
  | .bool b=>k (b==want)
  | .tuple vs=>cond vs.isEmpty (k false) false
  |_=>false)
def Zd:C->C->Bool
 | .bool a, .bool b=>a==b
 | .int k a, .int k' b=>decide (k=k')&&decide (a=b)
 | .pointer a, .pointer b=>decide (a=b)
 | .slice a n c, .slice b n' c'=>decide (a=b)&&Nat.beq n n'&&Nat.beq c c'
 | .map a, .map b=>decide (a=b)
 | .func (.func f) a b, .func (.func g) c d=>Nat.beq f g&&a.isEmpty&&b.isEmpty&&c.isEmpty&&d.isEmpty
 | .func (.yield f) a b, .func (.yield g) c d=>Nat.beq f g&&a.isEmpty&&b.isEmpty&&c.isEmpty&&d.isEmpty
 | .nilFunc, .nilFunc=>true
 | .nilIface, .nilIface=>true
 |_,_=>false
def WL:List C->List C->Bool
 |[],[]=>true
 |a::r,b::s=>Zd a b&&WL r s
 |_,_=>false
def veq:C->C->Bool
 | .agg a, .agg b=>WL a.toList b.toList
 | .func (.func f) a b, .func (.func g) c d=>Nat.beq f g&&WL a.toList c.toList&&WL b.toList d.toList
 |a,b=>Zd a b
def P5(P:au)(ng:Nat)(l e:cX)(S:St)(q:List (Op×Option (Nat×Bool)×Nat)):Bool:=q.all fun x=>uh l e x.2.1 fun t=>cond t (oK (gO x.2.2 l e) fun v=>oK (rV P ng l e S x.1) (veq v)) true
def gU(d:Option Nat)(v:C)(l:cX):cX:=Option.rec l (fun d=>(d,v)::l) d
def adg(ng:Nat)(l e:cX)(op:Op):Option C:=match op with
 | .defer ⟨.value f,args,_⟩=>ob (lu ng l e f) fun v=>ob (pX ng l e args.toList) fun vs=>(match v with
  | .func (.func g) a b=>some (.func (.func g) (a.toList++vs).toArray b)
  |_=>none)
 |_=>none
def sC(P:au)(ng cf n:Nat)(R:Nu)(df:Bool)(e:cX)(q:List En):cX->List C->St->(cX->List C->St->Bool)->Bool:=List.rec (fun l ds S k=>k l ds S)
 (fun x _ ih l ds S k=>uh l e x.g fun t=>cond (Option.all (Nat.blt · n) x.o.dst) (cond t (cond (Nat.beq (Ec P x.o.op) 6)
  (cond df (oK (adg ng l e x.o.op) fun d=>ih (gU x.o.dst undef l) (d::ds) S k) false)
  (TT P ng cf R l e S x.o.op x.o.type fun v S'=>cond (P5 P ng (gU x.o.dst v l) e S' x.chk) (ih (gU x.o.dst v l) ds S' k) false)) (ih (gU x.o.dst undef l) ds S k)) false) q
def ZY(O:Array aP):Option (List En):=O.toList.foldr (fun o r=>match r,RU O o.guard with
 |some r,some g=>some (⟨o,g,[]⟩::r)
 |_,_=>none) (some [])
def p4(O:Array aP):List Nat:=O.toList.foldl (fun ms o=>ms++[o.after.toList.foldl (fun s x=>if Region.binds .any x then Nat.lor s (Nat.lor (2^x.on) (ms.getD x.on 0))else s) 0]) []
def jj(m i:Nat):Bool:=Nat.beq (Nat.land (Nat.shiftRight m i) 1) 1
def p5(P:au)(o:aP):Bool:=let k:=Ec P o.op;Nat.beq k 2||Nat.beq k 4||Nat.beq k 5
def afV(P:au)(O:Array aP):List Nat:=(List.range O.size).filter fun i=>(O[i]?).any (p5 P)
def aa6(P:au)(O:Array aP)(ms:List Nat)(hx D:Nat):List Nat:=(List.range O.size).filter fun i=>!((O[i]?).any (p5 P))&&Nat.beq (Nat.land (ms.getD i 0) hx) D
def Z2(P:au)(O:Array aP)(ms:List Nat)(hx:Nat):List Nat->Nat->List Nat
 |[],D=>aa6 P O ms hx D
 |x::r,D=>aa6 P O ms hx D++x::Z2 P O ms hx r (Nat.lor D (2^x))
def Pb(O:Array aP)(o:aP):List Nat:=o.dst.toList++o.looksAt O
def JB(P:au)(O:Array aP)(ms:List Nat):List Nat->Nat->Nat->Bool
 |[],_,_=>true
 |i::r,seen,D=>Nat.blt i O.size&&!(jj seen i)&&Nat.beq (Nat.lor (ms.getD i 0) seen) seen&&Nat.beq (Nat.lor D (ms.getD i 0)) (ms.getD i 0)&&JB P O ms r (Nat.lor seen (2^i)) (if(O[i]?).any (p5 P)then Nat.lor D (2^i)else D)
def Vg(O:Array aP)(ms:List Nat):Bool:=(List.range O.size).all fun i=>match O[i]?with
 |some o=>(match o.dst with
  |some d=>!((o.looksAt O).contains d)&&(List.range O.size).all fun j=>i==j||jj (ms.getD j 0) i||(match O[j]?with
   |some p=>!((Pb O p).contains d)
   |none=>false)
  |none=>true)
 |none=>false
def PA(P:au)(O:Array aP)(ms:List Nat):List Nat->List Nat->Option (List En)
 |_,[]=>some []
 |UZ,i::r=>match O[i]?,PA P O ms (UZ++[i]) r with
  |some o,some q=>(match RU O o.guard with
   |some g=>some (⟨o,g,if p5 P o then UZ.filterMap fun j=>match O[j]?with
     |some p=>(match p.dst with
      |some d=>if Nat.beq (Ec P p.op) 1&&!(jj (ms.getD i 0) j)then(RU O p.guard).map fun g=>(p.op,g,d)else none
      |none=>none)
     |none=>none
    else []⟩::q)
   |none=>none)
  |_,_=>none
def Vq(P:au)(O:Array aP):Option (List En):=
 let ms:=p4 O
 let ef:=afV P O
 let hx:=ef.foldl (fun s i=>Nat.lor s (2^i)) 0
 let p:=Z2 P O ms hx ef 0
 if Nat.beq p.length O.size&&JB P O ms p 0 0&&Vg O ms&&O.toList.all (fun o=>!(Nat.beq (Ec P o.op) 1)||o.dst.isSome)then PA P O ms [] p else none
def upL(f:Nat)(u:Nat):List aP->Array aP->Nat
 |[],_=>u
 |o::r,O=>upL (match o.dst with|some d=>Nat.lor f (2^d)|none=>f) ((o.looksAt O).foldl (fun u t=>if jj f t then u else Nat.lor u (2^t)) u) r O
def opT(x:aM):Nat:=match x with
 | .tmp t=>2^t
 |_=>0
def Fp:Code->Nat
 | .region _ O _=>upL 0 0 O.toList O
 | .seq a b=>Nat.lor (Fp a) (Fp b)
 | .cond c a b=>Nat.lor (opT c) (Nat.lor (Fp a) (Fp b))
 | .block _ b=>Fp b
 | .loop b=>Fp b
 | .rangeFunc g _ a b=>Nat.lor (opT g) (Nat.lor (Fp a) (Fp b))
 | .scope b=>Fp b
 |_=>0
def upR(l:List ResultVar):Nat:=l.foldl (fun u r=>match r with
 | .tmp t=>Nat.lor u (2^t)
 | .cell t _=>Nat.lor u (2^t)) 0
def psU(U:Nat):List Nat->List C->cX->cX
 |p::ps,v::vs,e=>psU U ps vs (cond (jj U p) ((p,v)::e) e)
 |_,_,e=>e
@[irreducible] def JO:Nat:=100000
abbrev WE:=cX->List C->St->Bool
def EK(P:au)(ng cf n U:Nat)(R:Nu)(ro:Option Nat)(c:Code):WE->WE->(Nat->WE)->WE:=Code.rec
 (fun kn _ _=>kn)
 (fun _ O dr kn _ _ e ds S=>oK (cond dr (Vq P O) (ZY O)) fun q=>sC P ng cf n R (cond dr false ro.isNone) e q [] ds S fun l wE S'=>kn (fl U l e) wE S')
 (fun _ _ iha ihb kn kr kx=>iha (ihb kn kr kx) kr kx)
 (fun c _ _ iha ihb kn kr kx e ds S=>oK (lu ng [] e c) fun v=>(match v with
  | .bool t=>Bool.rec (ihb kn kr kx e ds S) (iha kn kr kx e ds S) t
  |_=>false))
 (fun id _ ih kn kr kx=>ih kn kr fun RC e ds S=>Bool.rec (kx RC e ds S) (kn e ds S) (Nat.beq RC id))
 (fun _ ih kn kr kx=>Nat.rec (fun _ _ _=>false) (fun _ go e ds S=>ih (fun e' wE S'=>go (dd U e' 0) wE S') kr kx e ds S) JO)
 (fun g ps DA body _ _ kn kr kx e ds S=>oK (lu ng [] e g) fun v=>(match v with
  | .func (.func f) a b=>cond (Nat.blt (Nat.succ S.n) 32768&&a.isEmpty) (Option.rec
    (R (.call f (.func (.yield (Nat.succ S.n)) #[] #[]::SD b)) ((S.add (.Hg true)).add (.loop e n ps.toList DA body S.n .ready none)) fun _ S'=>oK (S'.at (Nat.succ S.n)) fun A=>(match A with
     | .loop e1 n1 ps1 a1 b1 D st pe=>(match st,pe with
       | .busy,_=>false
       |_,none=>kn e (.pointer (some ⟨S.n,0,none⟩)::ds) (S'.set (Nat.succ S.n) (.loop e1 n1 ps1 a1 b1 D .exhausted pe))
       |_,some .ret=>kr e (.pointer (some ⟨S.n,0,none⟩)::ds) (S'.set (Nat.succ S.n) (.loop e1 n1 ps1 a1 b1 D .exhausted pe))
       |_,some (.exit id)=>kx id e (.pointer (some ⟨S.n,0,none⟩)::ds) (S'.set (Nat.succ S.n) (.loop e1 n1 ps1 a1 b1 D .exhausted pe))
       |_,_=>false)
     |_=>false))
    (fun i=>false) ro) false
  |_=>false))
 (fun id _ _ kx=>kx id)
 (fun _ ih=>ih)
 (fun _ kn _ _=>kn)
 (fun _ _ _ _ _ _ _=>false)
 (fun _ kr _=>kr)
 (fun _ _ _ _ _ _ _=>false) c
def Zv(P:au)(e:cX)(S:St)(rs:List ResultVar):Option (List C):=List.rec (some []) (fun r _ ih=>ob (match r with
 | .tmp t=>gT t e
 | .cell t ty=>ob (gT t e) (G1 P ty S)) fun v=>ob ih fun vs=>some (v::vs)) rs
def ae3(vs:List C):C:=match vs with
 |[v]=>v
 |vs=> .tuple vs.toArray
def FL(P:au)(R:Nu)(rs:List ResultVar)(k:C->St->Bool)(e:cX)(ds:List C):St->Bool:=List.rec (fun S=>oK (Zv P e S rs) fun vs=>k (ae3 vs) S)
 (fun d _ ih S=>match d with
  | .pointer (some ⟨D,0,none⟩)=>oK (S.at D) fun A=>(match A with
   | .Hg true=>ih (S.set D (.Hg false))
   |_=>false)
  | .func (.func f) a b=>R (.R8 f (SD a++SD b)) S fun _ S'=>ih S'
  |_=>false) ds
def ME(P:au)(ng cf:Nat)(R:Nu)(top:Bool)(f:bN)(args:List C)(S:St)(k:C->St->Bool):Bool:=oK P.funcs[f]? fun fn=>oK fn.body fun c=>
 cond (Nat.ble (uQ args) fn.ntmps&&Nat.ble fn.ntmps 1000000)
  (EK P ng cf fn.ntmps (Nat.lor (Fp c) (upR fn.results.toList)) R none c (fun e ds S=>cond (top||ds.isEmpty) (FL P R fn.results.toList k e ds S) false) (fun e ds S=>cond (top||ds.isEmpty) (FL P R fn.results.toList k e ds S) false) (fun _ _ _ _=>false) (psU (Nat.lor (Fp c) (upR fn.results.toList)) (List.range (uQ args)) args []) [] S) false
def Yg(i:Nat)(S2:St)(j:Option Code)(k:C->St->Bool):Bool:=oK (S2.at i) fun ad=>(match ad with
 | .loop e n ps DA body D _ _=>k (.bool j.isNone) (S2.set i (.loop e n ps DA body D (if j.isNone then .ready else .done) j))
 |_=>false)
def OW(P:au)(ng cf:Nat)(R:Nu)(i:Nat)(args:List C)(S:St)(k:C->St->Bool):Bool:=oK (S.at i) fun A=>(match A with
 | .loop e n ps DA body D .ready pe=>cond (Nat.beq (uQ ps) (uQ args)&&ps.all (Nat.blt · n))
   (EK P ng cf n (Nat.lor (Fp DA) (Fp body)) R (some i) DA (fun e1 ds1 S1=>cond ds1.isEmpty (oK (S1.at i) fun B=>(match B with
    | .loop e2 n2 ps2 abw SA D2 .ready pe2=>EK P ng cf n (Nat.lor (Fp DA) (Fp body)) R (some i) body (fun _ _ S2=>Yg i S2 none k) (fun _ _ S2=>Yg i S2 (some .ret) k) (fun id _ _ S2=>Yg i S2 (some (.exit id)) k) e1 [] (S1.set i (.loop e2 n2 ps2 abw SA D2 .busy pe2))
    |_=>false)) false) (fun _ _ _=>false) (fun _ _ _ _=>false) (psU (Nat.lor (Fp DA) (Fp body)) ps args (fl (Nat.lor (Fp DA) (Fp body)) e [])) [] S) false
 |_=>false)
def runK(P:au)(ng cf:Nat)(fuel:Nat):Nu:=Nat.rec (fun _ _ _=>false) (fun _ R q S k=>Rq.rec (fun f args=>ME P ng cf R true f args S k) (fun f args=>ME P ng cf R false f args S k) (fun i args=>OW P ng cf R i args S k) q) fuel
def pO(ng:Nat)(μ:Mu)(S:St)(w:ae)(k:C->St->Bool)(r:C)(w':ae):Prop:=∃eT S' v,wx μ S w eT S' w'/\RH ng eT S' w'/\VR eT v r/\k v S'=true
structure E'(P:au)(ng:Nat)(R:Nu):Prop where
 call:∀{f args S k μ w rs},R (.call f args) S k=true->RH ng μ S w->iX μ args rs->aA P f rs.toArray w (bU (pO ng μ S w k))
 R8:∀{f args S k μ w rs},R (.R8 f args) S k=true->RH ng μ S w->iX μ args rs->SM P f rs.toArray w (pO ng μ S w k)
 round:∀{i args S k μ w rs b},R (.round i args) S k=true->RH ng μ S w->μ i=some b->iX μ args rs->GG P b.1 rs w (pO ng μ S w k)
 some:∀{f args S k},(R (.call f args) S k=true\/R (.R8 f args) S k=true)->∃fn,P.funcs[f]?=some fn/\(fn.name== "runtime.NumGoroutine")=false/\fn.body.isNone=false
structure tQ(P:au)(cf:bN):Prop where
 Y:(P.funcs[cf]?).map (fun fn=>fn.body.isNone)=some true
 J:(P.funcs[cf]?).bind (fun fn=>Extern.find fn)=some Extern.BytealgCompare.compare
 h3:(P.funcs[cf]?).map (fun fn=>(Extern.findNext fn).isNone)=some true
 h4:(P.funcs[cf]?).map (fun fn=>(fn.name== "runtime.NumGoroutine"))=some false
section
variable{k:C->St->Bool}
def dX{x:Option α}{k:α->Bool}(h:oK x k=true):∃y,x=some y/\k y=true:=by
 cases x with
 |none=>cases h
 |some y=>exact⟨y,rfl,h⟩
def ew{b x:Bool}(h:cond b x false=true):b=true/\x=true:=by cases b with|false=>cases h|true=>exact⟨rfl,h⟩
def adb(hR:RH ng μ S w)(hF:FR μ n (l++e) ds a)(h:Yh P ng l e S o.op o.type=some (v,S')):
  ∃r w' eT,((execOp a.eval o).run P w= .ok (.value r) w'\/((execOp a.eval o).run P w= .ok .skip w'/\r=undef))/\RH ng eT S' w'/\wx μ S w eT S' w'/\VR eT v r:=by
 have Ps:∀eT,VR eT undef undef:=fun eT=> .tuple .nil
 have nx:∀{s:Sem C} {r:C} {w':ae},s.run P w= .ok r w'->(do pure (Next.value (<-s)):Sem Next).run P w= .ok (.value r) w':=fun{s r w'} h=>by simp[h]
 have nu:∀{s:Sem Unit} {w':ae},s.run P w= .ok () w'->(do s;pure Next.skip:Sem Next).run P w= .ok .skip w':=fun{s w'} h=>by simp[h]
 obtain⟨d,op,T,p,af,g⟩:=o;cases op<;>simp only[Yh]at h<;>first|(cases h;done)|skip
 case store t x u=>
  replace h:=aI h;obtain⟨v0,Y,h⟩:=h;replace h:=aI h;obtain⟨v1,J,h⟩:=h;replace h:=aI h;obtain⟨S1,h3,h⟩:=h;cases h;obtain⟨w',q1,q2,q3⟩:=WM hR h3 (dT hR hF Y) (dT hR hF J);exact⟨undef,w',μ, .inr ⟨nu q1,rfl⟩,q2,q3,Ps _⟩
 case mapUpdate t m k u=>
  replace h:=aI h;obtain⟨v0,Y,h⟩:=h;replace h:=aI h;obtain⟨v1,J,h⟩:=h;replace h:=aI h;obtain⟨v2,h3,h⟩:=h;replace h:=aI h;obtain⟨S1,h4,h⟩:=h;cases h;obtain⟨w',q1,q2,q3⟩:=Vw hR h4 (dT hR hF Y) (dT hR hF J) (dT hR hF h3);exact⟨undef,w',μ, .inr ⟨nu q1,rfl⟩,q2,q3,Ps _⟩
 case insert t m k u=>
  replace h:=aI h;obtain⟨v0,Y,h⟩:=h;replace h:=aI h;obtain⟨v1,J,h⟩:=h;replace h:=aI h;obtain⟨v2,h3,h⟩:=h;replace h:=aI h;obtain⟨S1,h4,h⟩:=h;cases h;obtain⟨w',q1,q2,q3⟩:=Vw hR h4 (dT hR hF Y) (dT hR hF J) (dT hR hF h3);exact⟨undef,w',μ, .inr ⟨nu q1,rfl⟩,q2,q3,Ps _⟩
 case range t m=>
  replace h:=aI h;obtain⟨v0,Y,h⟩:=h;obtain⟨u,w',eT,q1,q2,q3,q4⟩:=ab9 hR h (dT hR hF Y);exact⟨u,w',eT, .inl (nx q1),q2,q3,q4⟩
 case convert s d' x=>
  replace h:=aI h;obtain⟨v0,Y,h⟩:=h;replace h:=aI h;obtain⟨S1,J,h⟩:=h;cases h;obtain⟨w',q1,q2,q3⟩:=aam hR J (dT hR hF Y);exact⟨_,w',μ, .inl (nx q1),q2,q3,dT hR hF Y⟩
 case call c=>
  obtain⟨callee,args,ts⟩:=c;cases callee<;>first|(cases h;done)|skip
  rename_i b;simp only at h;replace h:=aI h;obtain⟨vs,Y,h⟩:=h;have hv:=qI hR hF Y;have e1:args.map a.eval=(args.toList.map a.eval).toArray:=by apply Array.ext';simp
  have two:∀{x y:C} {rs:List C},iX μ [x,y] rs->∃x' y',rs=[x',y']/\VR μ x x'/\VR μ y y':=fun{x y rs} h=>by
   cases h with
   |cons Y J=>cases J with|cons J h3=>cases h3;exact⟨_,_,rfl,Y,J⟩
  have blt:∀{bb:Builtin} {r:C} {w':ae},(builtin bb ts T (args.map fun| .const _=>true|_=>false) (args.toList.map a.eval).toArray).run P w= .ok (.value r) w'→
    (execOp a.eval ⟨d, .call ⟨.builtin bb,args,ts⟩,T,p,af,g⟩).run P w= .ok (.value r) w':=fun{bb r w'} h=>by
   simp only[execOp,resolve,al,aG,ah,invoke,e1];exact h
  split at h
  ·replace h:=bT h;obtain⟨J',h⟩:=h;obtain⟨x',y',Dy,E,hy⟩:=two hv;obtain⟨u,w',eT,q1,q2,q3,q4⟩:=ad2 (ty:=T) hR (by simpa using J') h E hy;exact⟨u,w',eT, .inl (blt (by rw[Dy];simp only[builtin];exact nx q1)),q2,q3,q4⟩
  ·obtain⟨x',y',Dy,E,hy⟩:=two hv;obtain⟨u,w',q1,q2,q3,q4⟩:=abk (t:=T) hR h E hy;exact⟨u,w',μ, .inl (blt (by rw[Dy];simp only[builtin];exact nx q1)),q2,q3,q4⟩
  ·replace h:=aI h;obtain⟨t,ht,h⟩:=h;replace h:=aI h;obtain⟨S1,J,h⟩:=h;cases h;obtain⟨x',y',Dy,E,hy⟩:=two hv;obtain⟨w',q1,q2,q3⟩:=adf (ty:=T) hR ht J E hy;exact⟨_,w',μ, .inl (blt (by rw[Dy];simp only[builtin];exact nx q1)),q2,q3, .tuple .nil⟩
  ·replace h:=aI h;obtain⟨t,ht,h⟩:=h;replace h:=aI h;obtain⟨dd',vk,h⟩:=h;replace h:=aI h;obtain⟨S1,J,h⟩:=h;cases h;have one:∀{x:C} {rs:List C},iX μ [x] rs->∃x',rs=[x']/\VR μ x x':=fun{x rs} h=>by
    cases h with|cons Y J=>cases J;exact⟨_,rfl,Y⟩
   obtain⟨x',Dy,E⟩:=one hv;obtain⟨w',q1,q2,q3⟩:=adp (ty:=T) hR ht vk J E;exact⟨_,w',μ, .inl (blt (by rw[Dy];simp only[builtin];exact nx q1)),q2,q3, .tuple .nil⟩
  cases h
def Rf:∀{vs:List C} {ns:List Nat},aer vs=some ns->(∀x∈ns,x<256)/\∀{rs},iX μ vs rs->rs=cI (ns.map UInt8.ofNat)
 |[],ns,h=>by cases(show some []=some ns from h);exact⟨by simp,fun h=>by cases h;rfl⟩
 |v::vs,ns,h=>by
  replace h:=aI (show ob (afo v) _=some ns from h);obtain⟨m,hm,h⟩:=h;replace h:=bT h;obtain⟨fR,h⟩:=h;replace h:=aI h;obtain⟨ms,hms,h⟩:=h;cases h;have fR:m<256:=by simpa using fR
  obtain⟨g1,g2⟩:=Rf hms;refine⟨fun x E=>?_,fun hr=>?_⟩
  ·rcases cE.1 E with rfl|E
   ·exact fR
   exact g1 x E
  cases hr with
  |cons Y J=>
   have hv:v= .int .u8 (.ofNat m):=by
    unfold afo at hm;split at hm
    ·cases hm;rfl
    cases hm
   subst hv;rw[VR.int Y,g2 J];have:(UInt8.ofNat m).toNat=m:=by simp[UInt8.toNat_ofNat'];omega
   simp[cI,bv,this]
def Wb:∀{a b:List Nat},(∀x∈a,x<256)->(∀x∈b,x<256)->af6 a b=fy (a.map UInt8.ofNat) (b.map UInt8.ofNat)
 |[],[],_,_=>rfl
 |[],_::_,_,_=>rfl
 |_::_,[],_,_=>rfl
 |x::a,y::b,ha,hb=>by
  have e:∀z:Nat,z<256->(UInt8.ofNat z).toNat=z:=fun z hz=>by simp[UInt8.toNat_ofNat'];omega
  have ih:=Wb (a:=a) (b:=b) (fun x E=>ha x (kG _ E)) (fun x E=>hb x (kG _ E))
  show(Bool.rec (Bool.rec (af6 a b) (.ofNat 1) (Nat.blt y x)) (.negSucc 0) (Nat.blt x y):Int)=_
  rw[jE,jE];simp only[ey,fy,e x (ha x (kf ..)),e y (hb y (kf ..)),tS,ih];rfl
def Wg(hR:RH ng μ S w){x:C}{ns:List Nat}(h:adw S x=some ns)(E:VR μ x r):(∀x∈ns,x<256)/\(Extern.Bytes.bytesOf r).run P w= .ok ⟨(ns.map UInt8.ofNat).toArray⟩ w:=by
 unfold adw at h;split at h
 ·rename_i p m c;replace h:=aI h;obtain⟨vs,Y,J⟩:=h;obtain⟨g1,g2⟩:=Rf (μ:=μ) J;refine⟨g1,?_⟩;unfold Ft at Y;split at Y
  ·rename_i i o l0 c0 heq;cases heq;replace Y:=aI Y;obtain⟨A,hA,Y⟩:=Y;cases A<;>first|(cases Y;done)|skip
   rename_i T n d cc;replace Y:=bT Y;obtain⟨hle,Y⟩:=Y;have key:∀b:Nat×Nat,μ i=some b->∀c',(Extern.Bytes.bytesOf (.slice (some ⟨b.1,o,none⟩) m c')).run P w= .ok ⟨(ns.map UInt8.ofNat).toArray⟩ w:=fun b hb c'=>by
    obtain⟨rs,h3,h4,h5⟩:=Rd.MD hR hb hA (by simpa using hle) Y;have h6:=g2 h4;subst h6;have h7:(ns.map UInt8.ofNat).length=m:=by
     have h8:(cI (ns.map UInt8.ofNat)).length=Nat.mul m 1:=h3
     simpa [cI]using h8
    have h8:=uP (P:=P) (ns.map UInt8.ofNat) b.1 o .empty h5;rw[h7]at h8
    show(Extern.Bytes.loadBytes _ _ _).run P w=_
    rw[h8]
    congr 1
    show(⟨(#[]:Array UInt8)++_⟩:ByteArray)=_
    rw[TG]
   cases E with
   |flat hf=>simp[eG,gI]at hf
   |OS hb _=>exact key _ hb _
   |OQ hb _ _ _=>exact key _ hb _
  ·rename_i i o q l0 c0 heq;cases heq;obtain⟨hm,h⟩:=bT Y;cases h;have hm:m=0:=by simpa using hm
   subst hm;cases J;cases E with
   |flat hf=>simp[eG,gI]at hf
   |slE hb=>rfl
  ·rename_i l0 c0 heq;cases heq;cases Y;cases J;rw[E.gk rfl];rfl
  ·rename_i heq;cases heq
  cases Y
 cases h
def ado(hR:RH ng μ S w)(h:af5 S vs=some v)(hv:iX μ vs rs):(Extern.BytealgCompare.compare rs.toArray).run P w= .ok v w/\eG v=true:=by
 unfold af5 at h;split at h
 ·rename_i x y;replace h:=aI h;obtain⟨b1,h5,h⟩:=h;replace h:=aI h;obtain⟨b2,h6,h⟩:=h;cases h;cases hv with
  |@cons _ x' _ _ E hv=>
   cases hv with
   |@cons _ y' _ _ hy hv=>
    cases hv;obtain⟨g1,r1⟩:=Wg (P:=P) hR h5 E;obtain⟨g3,r2⟩:=Wg (P:=P) hR h6 hy;refine⟨?_,rfl⟩;have e1:Extern.BytealgCompare.compare #[x',y']=(do let a<-Extern.Bytes.bytesOf x';let b<-Extern.Bytes.bytesOf y';pure (goInt (Extern.BytealgCompare.cmp a b))):=rfl
    show(Extern.BytealgCompare.compare #[x',y']).run P w=_
    rw[e1];simp only[al,r1,r2,ah,aG,abm,goInt,Wb g1 g3]
 cases h
end
section
variable{k:C->St->Bool}
def lL.all{p:Nat->Bool}{a b:List aZ}(h:lL μ a b):b.all (fun e=>p e.born)=a.all fun e=>p e.born:=by
 induction h with
 |nil=>rfl
 |cons h _ ih=>simp[ih,h.born]
def lL.filter{p:Nat->Bool}{a b:List aZ}(h:lL μ a b):lL μ (a.filter fun e=>p e.born) (b.filter fun e=>p e.born):=by
 induction h with
 |nil=>exact .nil
 |@cons x y _ _ h _ ih=>
  cases hp:p x.born with
  |true=>
   have hp':p y.born=true:=by rw[<-h.born];exact hp
   simp only[FA,hp,hp',if_true];exact .cons h ih
  |false=>
   have hp':p y.born=false:=by rw[<-h.born];exact hp
   simp only[FA,hp,hp',W7,if_false];exact ih
def lL.back{a b:List aZ}(h:lL μ a b){y:aZ}(hj:b[j]?=some y):∃x,a[j]?=some x/\MER μ x y:=by
 induction h generalizing j with
 |nil=>simp at hj
 |@cons x y' _ _ h _ ih=>
  cases j with
  |zero=>simp at hj;subst hj;exact⟨x,rfl,h⟩
  |succ j=>simp at hj;obtain⟨x',Y,J⟩:=ih hj;exact⟨x',by simpa using Y,J⟩
def lL.acD{a b:List aZ}(h:lL μ a b):b.isEmpty=a.isEmpty:=by cases h<;>rfl
def aah(hR:RH ng μ S w){it:C}(h:aai S it k=true)(E:VR μ it r)(t:aC):∃u w',(Instr.next r false t).run P w= .ok u w'/\pO ng μ S w k u w':=by
 unfold aai at h;split at h
 ·rename_i i;replace h:=dX h;obtain⟨A,hA,h⟩:=h;cases E with
  |flat hf=>simp[eG,gI]at hf
  |@ptr _ _ b hb=>
   obtain⟨o,g1,g2,g3⟩:=hR.live i b A hb hA;split at h
   ·rename_i since seen last;cases g2;refine⟨.tuple #[.bool false],w,?_,μ,S,_, .refl _ _ _,hR, .pj rfl,h⟩;simp only[Instr.next,al,ah,getObj,Sem.run,g1,aG]
   ·rename_i m since seen last;replace h:=dX h;obtain⟨B,hB,h⟩:=h;cases g2 with
    |@iter _ _ _ c _ hm=>
     split at h
     ·rename_i es clock;replace h:=ew h;obtain⟨hc,h⟩:=h;simp only[gG]at hc;obtain⟨Uz,X3⟩:=hc;obtain⟨o2,j1,j2,j3⟩:=hR.live m c _ hm hB;cases j2 with
      |@map _ oE _ YK=>
       have Uz:oE.all (fun e=>Nat.blt e.born since)=true:=by rw[YK.all (p:=fun b=>Nat.blt b since)];exact Uz
       have J7:(!seen.toArray.isEmpty&&!oE.toArray.isEmpty&&oE.toArray.all (·.born≥last))=false:=by
        have e1:oE.all (fun e=>Nat.ble last e.born)=es.all (fun e=>Nat.ble last e.born):=YK.all (p:=fun b=>Nat.ble last b);have e2:=YK.acD;rw[<-e1,<-e2]at X3;simp only[List.isEmpty_toArray,List.all_toArray];have e3:(oE.all fun e=>decide (e.born≥last))=oE.all fun e=>Nat.ble last e.born:=by
         congr 1;funext e;rw[ZC];simp
        rw[e3]
        revert X3
        cases seen.isEmpty<;>cases oE.isEmpty<;>cases(oE.all fun e=>Nat.ble last e.born)<;>simp
       have CY:∀x∈oE,x.born<since:=fun x E=>by simpa using w5.1 Uz x E
       let left:=oE.toArray.filter fun e=>!seen.toArray.contains e.born
       have hlm:∀x∈left,x.born<since:=fun x E=>CY x (by have:=(W4.1 E).1;simpa using this)
       have hold:left.filter (·.born<since)=left:=by
        apply Array.filter_eq_self.2;intro x E;simpa using hlm x E
       have XV:left.filter (·.born≥since)=#[]:=by
        apply Array.filter_eq_empty_iff.2;intro x E;have:=hlm x E;simp;omega
       have ahf:left.toList=oE.filter fun e=>!(seen.contains e.born):=by
        simp only[left,List.filter_toArray,List.contains_toArray]
       have Un:lL μ (es.filter fun e=>!(seen.contains e.born)) left.toList:=by rw[ahf];exact YK.filter (p:=fun b=>!(seen.contains b))
       by_cases hl:left=#[]
       ·have jg:(es.all fun e=>seen.contains e.born)=true:=by
         have:es.filter (fun e=>!(seen.contains e.born))=[]:=by
          rw[hl]at Un;cases ag2:(es.filter fun e=>!(seen.contains e.born))with
          |nil=>rfl
          |cons x r'=>rw[ag2]at Un;cases Un
         rw[w5];intro x E;have J:=aco.1 this x E
         simpa using J
        rw[jg]at h;refine⟨.tuple #[.bool false],w,?_,μ,S,_, .refl _ _ _,hR, .pj rfl,h⟩;simp only[Instr.next,al,ah,getObj,Sem.run,g1,j1,aG,J7];have e1:(oE.toArray.filter fun e=>!seen.toArray.contains e.born)=left:=rfl;simp only[e1,hl];simp[choose,Sem.run,Question.forced]
       have Ur:0<left.size:=Nat.pos_of_ne_zero fun h=>hl (Array.eq_empty_of_size_eq_zero h)
       have MC:left.isEmpty=false:=by simp[Array.isEmpty];omega
       have ahb:(es.all fun e=>seen.contains e.born)=false:=by
        cases hb:(es.all fun e=>seen.contains e.born)with
        |false=>rfl
        |true=>
         have:es.filter (fun e=>!(seen.contains e.born))=[]:=aco.2 fun x E=>by
          have:=w5.1 hb x E;simpa using this
         rw[this]at Un;cases fR:left.toList with
         |nil=>have h9:=aU List.length fR;simp only[TJ,DY]at h9;omega
         |cons x r'=>rw[fR]at Un;cases Un
       rw[ahb]at h;have h:((es.filter fun e=>!(seen.contains e.born)).all fun e=>k (.tuple #[.bool true,e.key,e.val]) (S.set i (.iter (some m) since (seen++[e.born]) clock)))=true:=h
       let q:=Question.mapNext left.size
       let j:=if q.forced then 0 else q.cut (w.tape w.drawn q)
       have hj:j<left.size:=by
        by_cases hqf:q.forced=true
        ·simp[j,hqf];exact Ur
        simp[j,hqf,q,Question.cut];exact Nat.mod_lt _ Ur
       have hjg:left[j]?=some left[j]:=Hx hj;obtain⟨x,hx1,YF⟩:=Un.back (j:=j) (y:=left[j]) (by first|(simp;done)|simpa using hjg);have hk:=w5.1 h x (fK hx1);obtain⟨w0,hw0⟩:∃w0:ae,w0=if q.forced then w else{w with drawn:=w.drawn+1}:=⟨_,rfl⟩
       have ajS:w0.heap=w.heap:=by rw[hw0];split<;>rfl
       have ah9:∃d,w0={w with drawn:=d}:=by
        rw[hw0];split
        ·exact⟨w.drawn,rfl⟩
        exact⟨_,rfl⟩
       have zA:(choose (.mapNext left.size)).run P w= .ok j w0:=by
        rw[hw0];unfold choose;simp only[Sem.run];by_cases hqf:q.forced=true<;>simp[q,j]at hqf ⊢<;>simp[hqf]
       obtain⟨dd0,rfl⟩:=ah9;have Mw:=(hR.drawn dd0).set (B:= .iter (some m) since (seen++[x.born]) clock) (o:= .mapIter (some c.1) since (seen++[x.born]).toArray clock) hb hA (.iter hm) g3;refine⟨.tuple #[.bool true,left[j].key,left[j].val],{w with drawn:=dd0,heap:=w.heap.setIfInBounds b.1 (.mapIter (some c.1) since (seen++[x.born]).toArray clock)},?_,μ,S.set i (.iter (some m) since (seen++[x.born]) clock), .tuple #[.bool true,x.key,x.val],?_,Mw.1,?_,hk⟩
       ·simp only[Instr.next,al,ah,getObj,Sem.run,g1,j1,aG,J7];have e2:(oE.toArray.filter fun e=>!seen.toArray.contains e.born)=left:=rfl;simp only[e2,hold,XV,MC,acf,Array.size_map,W7,if_false,TG,aG,ah];rw[al,zA];have e4:seen.toArray.push left[j].born=(seen++[x.born]).toArray:=by rw[<-YF.born];simp
        simp only[ah,Array.getElem?_map,hjg,Js,e4];simp[setObj,Sem.run,g1]
       ·have h8:=Mw.2;exact⟨h8.W.afW,h8.G,⟨h8.ad.Yk⟩⟩
       have:iX μ [.bool true,x.key,x.val] [.bool true,left[j].key,left[j].val]:= .cons (.flat rfl) (.cons YF.key (.cons YF.val .nil));exact .tuple this
     cases h
   cases h
 cases h
def VR.VW{c d:Array C}(h:VR μ (.func (.func f) c d) r):∃c' d':List C,r= .func (.func f) c'.toArray d'.toArray/\iX μ c.toList c'/\iX μ d.toList d':=by
 cases h with
 |flat hf=>
  simp only[eG,gI,gG,Array.isEmpty_iff]at hf;obtain⟨rfl,rfl⟩:=hf;exact⟨[],[],rfl, .nil, .nil⟩
 |func h h'=>exact⟨_,_,rfl,h,h'⟩
def QO{s:Sem Next}{args:Array C}(h:s.run P w= .ok (.enter f args) w)(hc:aA P f args w (bU V)):mS P s 2 w V:=by
 unfold mS;rw[h];exact hc
def abp(hQ:E' P ng R)(hC:tQ P cf)(hR:RH ng μ S w)(hF:FR μ n (l++e) ds a){c:Call}(ho:o.op= .call c)(h:Wd P ng cf R l e S c k=true):mS P (execOp a.eval o) 2 w (pO ng μ S w k):=by
 obtain⟨d,op,T,p,af,g⟩:=o;simp only at ho;subst ho;obtain⟨callee,args,ts⟩:=c;cases callee with
 |builtin b=>cases h
 |invoke r name=>cases h
 |value f=>
  unfold Wd at h;simp only at h
  replace h:=dX h;obtain⟨v,Y,h⟩:=h;replace h:=dX h;obtain⟨vs,J,h⟩:=h;have hv:=dT hR hF Y;have xU:=qI hR hF J;have e1:args.map a.eval=(args.toList.map a.eval).toArray:=by apply Array.ext';simp
  obtain⟨rs,Dy⟩:∃rs,args.toList.map a.eval=rs:=⟨_,rfl⟩;rw[Dy]at xU e1;split at h
  ·rename_i g' ca cb;obtain⟨Yq,S8,hfe,HG,S4⟩:=hv.VW;have tY:Yq.toArray++rs.toArray++S8.toArray=(Yq++(rs++S8)).toArray:=by simp
   have hex:(execOp a.eval ⟨d, .call ⟨.value f,args,ts⟩,T,p,af,g⟩).run P w=(callFunc g' (Yq++(rs++S8)).toArray).run P w:=by
    simp only[execOp,resolve,hfe,Deferred.ofValue,invoke,e1,al,aG,ah,tY]
   by_cases hg:g'=cf
   ·subst hg;rw[Ty]at h;replace h:=ew h;obtain⟨MC,h⟩:=h;simp only[gG,Array.isEmpty_iff]at MC
    obtain⟨rfl,rfl⟩:=MC;cases HG;cases S4;replace h:=dX h;obtain⟨u,hu,h⟩:=h;obtain⟨r1,r2⟩:=ado (P:=P) hR hu xU;obtain⟨c1,c2,c3,c4⟩:=hC;cases hf:P.funcs[g']?with
    |none=>simp[hf]at c1
    |some fn=>
     have c1':fn.body.isNone=true:=by simpa [hf]using c1
     have c2':Extern.find fn=some Extern.BytealgCompare.compare:=by simpa [hf]using c2
     have c3':Extern.findNext fn=none:=by simpa [hf]using c3
     have c4':(fn.name== "runtime.NumGoroutine")=false:=by simpa [hf]using c4
     have lU:(callFunc g' ([]++(rs++[])).toArray).run P w= .ok (.value u) w:=by
      rw[lE,kF];simp only[callFunc,al,aG,ah,program,Sem.run,hf,c1',c2',c3',c4'];simp[r1,al,mark,Sem.run]
     unfold mS;rw[hex,lU];exact⟨μ,S,u, .refl _ _ _,hR, .flat r2,h⟩
   rw[qx hg]at h;have h:R (.call g' (SD ca++(vs++SD cb))) S k=true:=h;obtain⟨fn,hf,tX,vm⟩:=hQ.some (.inl h);refine QO (f:=g') (args:=(Yq++(rs++S8)).toArray) ?_ (hQ.call h hR (HG.append (xU.append S4)));rw[hex];simp only[callFunc,al,aG,ah,program,Sem.run,hf,tX,vm];simp
  ·rename_i i ca cb;have h:R (.round i vs) S k=true:=h;obtain⟨f',hf'⟩:∃f',a.eval f=f':=⟨_,rfl⟩;rw[hf']at hv;cases hv with
   |flat hf=>simp[eG,gI]at hf
   |@yield _ b hb=>
    obtain⟨fn,tmps,assign,body,lU,hRd⟩:=hQ.round h hR hb xU;unfold mS;simp only[execOp,resolve,hf',Deferred.ofValue,invoke,e1,al,aG,ah,TG,acf,lU];exact hRd
  cases h
def aab(hQ:E' P ng R)(hC:tQ P cf)(hR:RH ng μ S w)(hF:FR μ n (l++e) ds a)(h:TT P ng cf R l e S o.op o.type k=true):mS P (execOp a.eval o) 2 w (pO ng μ S w k):=by
 unfold TT at h;split at h
 ·replace h:=dX h;obtain⟨v,Y,h⟩:=h;obtain⟨r,J,h3⟩:=QZ hR hF Y;unfold mS;rw[J w];exact⟨μ,S,v, .refl _ _ _,hR,h3,h⟩
 ·replace h:=dX h;obtain⟨v,Y,h⟩:=h;obtain⟨r,J,h3⟩:=QQ hR hF Y;unfold mS;rw[J];exact⟨μ,S,v, .refl _ _ _,hR,h3,h⟩
 ·replace h:=dX h;obtain⟨⟨v,S'⟩,Y,h⟩:=h;obtain⟨r,w',eT,J,h3,h4,h5⟩:=adb hR hF Y;rcases J with J|⟨J,rfl⟩
  ·unfold mS;rw[J];exact⟨eT,S',v,h4,h3,h5,h⟩
  unfold mS;rw[J];exact⟨eT,S',v,h4,h3,h5,h⟩
 ·replace h:=dX h;obtain⟨⟨A,f⟩,Y,h⟩:=h;replace h:=ew (show cond _ _ _=true from h);obtain⟨hl,h⟩:=h;obtain⟨obj,rv,J,h3,h4⟩:=OA hR hF Y;obtain⟨r1,r2⟩:=hR.add (A:=A) (o:=obj) (show S.n<2^HD from(show S.n<32768 by simpa using hl)) J;unfold mS;rw[h3 w];exact⟨_,_,f S.n,r2,r1,h4 _ _ _ (mg _ _ _),h⟩
 ·split at h
  ·rename_i c hc;exact abp hQ hC hR hF hc h
  cases h
 ·split at h
  ·rename_i it hc;replace h:=dX h;obtain⟨v,Y,h⟩:=h;obtain⟨u,w',J,h3⟩:=aah (P:=P) hR h (dT hR hF Y) o.type;have:(execOp a.eval o).run P w= .ok (.value u) w':=by
    unfold execOp;rw[hc];simp only[al,J,ah,aG]
   unfold mS;rw[this];exact h3
  cases h
 cases h
end
def FR.yielded(hF:FR μ n (l++e) ds a){d:Nat}(hj:(O[j]?).bind (·.dst)=some d)(hd:gO d l e=some v):(∀b,v= .bool b->yielded O a.tmps j=some b)/\(v=undef->yielded O a.tmps j=none):=by
 rw[te]at hd;have Y:=hF.qQ d v hd;refine⟨fun b hb=>?_,fun hu=>?_⟩
 ·subst hb;have Y:=VR.gk Y rfl;unfold Go.yielded;rw[hj];have J:a.tmps[d]?=some (.bool b):=by
   cases h3:a.tmps[d]?with
   |none=>simp[Jz,h3,undef]at Y
   |some v=>simp[Jz,h3]at Y;rw[Y]
  simp[J]
 subst hu;have Y:=VR.nv Y rfl;unfold Go.yielded;rw[hj];cases h3:a.tmps[d]?with
 |none=>simp[h3]
 |some v=>simp[Jz,h3]at Y;simp[h3,Y,undef]
def I6(hF:FR μ n (l++e) ds a)(hg:RU O o.guard=some g){kk:Bool->Bool}(h:uh l e g kk=true):kk (Region.wanted o (yielded O a.tmps))=true:=by
 unfold RU at hg;split at hg
 ·rename_i hn;cases hg;have h:kk true=true:=h
  simpa [Region.wanted,hn]using h
 rename_i j want hn;split at hg
 ·rename_i d hd;cases hg;replace h:=dX (show oK (gO d l e) _=true from h);obtain⟨v,hv,h⟩:=h;obtain⟨Y,J⟩:=hF.yielded hd hv;split at h
  ·rename_i b;have:Region.wanted o (yielded O a.tmps)=(b==want):=by
    simp only[Region.wanted,hn,Y b rfl];cases b<;>cases want<;>rfl
   rw[this];exact h
  ·rename_i vs;replace h:=ew h;obtain⟨he,h⟩:=h;have:vs=#[]:=by simpa using he
   subst this;have:Region.wanted o (yielded O a.tmps)=false:=by simp[Region.wanted,hn,J rfl]
   rw[this];exact h
  cases h
 cases hg
def FR.oC(hF:FR μ n (l++e) ds a)(hd:Option.all (Nat.blt · n) d=true)(hv:VR μ v r):FR μ n (gU d v l++e) ds (a.put d r):=by
 cases d with
 |none=>exact hF
 |some d=>exact hF.put (by simpa using hd) hv
def l4{next:Act->ae->Prop}(h:mS P (execOp a.eval o) 2 w V)(hK:∀v w',V v w'->next (a.put o.dst v) w'):o.wpIn (Fw ro) 0 P a w next Q:=by
 have SX:∀c,o.op≠ .defer c:=by
  intro c hc;unfold mS at h;unfold execOp at h
  rw[hc]at h;simp only[al]at h
  generalize (resolve a.eval c o.type).run P w=r at h
  cases r with
  |ok d w'=>simp[Result.andThen]at h
  |halt x w'=>simp[Result.andThen]at h
 refine⟨fun _ _=>trivial,?_⟩;rw[Oper.semAt_eq _ _ _ SX];unfold mS at h;simp only at h
 generalize (execOp a.eval o).run P w=r at*
 cases r with
 |ok n w'=>
  cases n<;>simp only[Oper.uponIn]at h ⊢
  case value v=>exact hK _ _ h
  case skip=>exact hK _ _ h
  case enter f args=>exact⟨(fun hd=>by cases hd),Calls.fw (Calls.mono h fun e Cb ⟨v,he,hv⟩=>by subst he;exact hK _ _ hv) _ _⟩
  case round=>exact⟨(fun hd=>by cases hd),AM.fw (RoundIn.mono h fun e Cb ⟨v,he,hv⟩=>by subst he;exact hK _ _ hv) _ _⟩
 |halt x w'=>exact h.elim
def ZX(O:Array aP)(os:List aP):Option (List En):=os.foldr (fun o r=>match r,RU O o.guard with
 |some r,some g=>some (⟨o,g,[]⟩::r)
 |_,_=>none) (some [])
def ac9(hQ:E' P ng R)(hC:tQ P cf)(hdf:df=true->ro=none):∀(os:List aP) (s:Nat) (q:List En) {μ:Mu} {S:St} {w:ae} {l:cX} {ds:List C} {a:Act},
  O.toList.drop s=os->ZX O os=some q->sC P ng cf n R df e q l ds S k=true->RH ng μ S w->FR μ n (l++e) ds a→
  (∀eT S' w' l' wE a',wx μ S w eT S' w'->RH ng eT S' w'->FR eT n (l'++e) wE a'->k l' wE S'=true->Q .normal a' w')->wpOpsIn (Fw ro) 0 P O Q (List.range' s os.length) a w:=by
 intro os
 induction os with
 |nil=>
  intro s q μ S w l ds a hd hp h hR hF hk;cases(show some []=some q from hp);exact hk μ S w l ds a (.refl _ _ _) hR hF h
 |cons o r ih=>
  intro s q μ S w l ds a hd hp h hR hF hk;have ho:O[s]?=some o:=by
   have:(O.toList.drop s)[0]?=some o:=by rw[hd];rfl
   simpa using this
  have vk:O.toList.drop (s+1)=r:=by
   have:(O.toList.drop s).drop 1=r:=by rw[hd];rfl
   simpa [TA]using this
  obtain⟨r',g,Y,J,rfl⟩:∃r' g,ZX O r=some r'/\RU O o.guard=some g/\q=⟨o,g,[]⟩::r':=by
   have hp:(match ZX O r,RU O o.guard with
    |some r,some g=>some (⟨o,g,[]⟩::r)
    |_,_=>none)=some q:=hp
   split at hp
   ·rename_i r1 g1 e1 e2;cases hp;exact⟨r1,g1,e1,e2,rfl⟩
   cases hp
  rw[kZ,List.range'_succ,wpOpsIn_cons];have h:=I6 (kk:=fun t=>cond (Option.all (Nat.blt · n) o.dst) (cond t (cond (Nat.beq (Ec P o.op) 6)
   (cond df (oK (adg ng l e o.op) fun d=>sC P ng cf n R df e r' (gU o.dst undef l) (d::ds) S k) false)
   (TT P ng cf R l e S o.op o.type fun v S'=>cond (P5 P ng (gU o.dst v l) e S' []) (sC P ng cf n R df e r' (gU o.dst v l) ds S' k) false)) (sC P ng cf n R df e r' (gU o.dst undef l) ds S k)) false) hF J h
  replace h:=ew h;obtain⟨Pw,h⟩:=h;unfold wpOpIn;simp only[ho]
  by_cases Z:Region.wanted o (yielded O a.tmps)=true
  ·rw[aB Z];rw[Z]at h;replace h:cond (Nat.beq (Ec P o.op) 6) (cond df (oK (adg ng l e o.op) fun d=>sC P ng cf n R df e r' (gU o.dst undef l) (d::ds) S k) false)
    (TT P ng cf R l e S o.op o.type fun v S'=>cond (P5 P ng (gU o.dst v l) e S' []) (sC P ng cf n R df e r' (gU o.dst v l) ds S' k) false)=true:=h
   by_cases h6:Nat.beq (Ec P o.op) 6=true
   ·rw[h6]at h;replace h:=ew (show cond df _ false=true from h);obtain⟨aiP,h⟩:=h;have Me:=hdf aiP;subst Me;replace h:=dX h;obtain⟨d,Qp,h⟩:=h;unfold adg at Qp
    split at Qp
    ·rename_i f args ts hop;replace Qp:=aI Qp;obtain⟨v,hv1,Qp⟩:=Qp;replace Qp:=aI Qp;obtain⟨vs,Ug,Qp⟩:=Qp;split at Qp
     ·rename_i g' ca cb;cases Qp;have hv:=dT hR hF hv1;have xU:=qI hR hF Ug;obtain⟨Yq,S8,hfe,HG,S4⟩:=hv.VW;have e1:args.map a.eval=(args.toList.map a.eval).toArray:=by apply Array.ext';simp
      obtain⟨rs,Dy⟩:∃rs,args.toList.map a.eval=rs:=⟨_,rfl⟩;rw[Dy]at xU e1;refine⟨fun _ _=>trivial,?_⟩;have lU:(execOp a.eval o).run P w= .ok (.defer (Hg (.func (.func g') (Yq++rs).toArray S8.toArray))) w:=by
       unfold execOp;rw[hop];simp[resolve,hfe,e1,Deferred.ofValue,Hg,al]
      show Oper.uponIn (Fw none) 0 P o a _ _ ((execOp a.eval o).run P w)
      rw[lU,Oper.uponIn_defer];refine ih (s+1) r' vk Y h hR ?_ hk;have hF':FR μ n (l++e) (.func (.func g') (ca.toList++vs).toArray cb::ds) {a with defers:=Hg (.func (.func g') (Yq++rs).toArray S8.toArray)::a.defers}:=by
       refine⟨hF.size,hF.qQ,?_⟩;obtain⟨rs',Uo,hr2⟩:=hF.defers;refine⟨.func (.func g') (Yq++rs).toArray S8.toArray::rs', .cons ?_ Uo,by simp[hr2]⟩;have:=VR.func (f:=g') (HG.append xU) S4
       simpa using this
      exact hF'.oC Pw (.tuple .nil)
     cases Qp
    cases Qp
   have h6:Nat.beq (Ec P o.op) 6=false:=by cases hb:Nat.beq (Ec P o.op) 6 with|false=>rfl|true=>exact aS hb h6
   rw[h6]at h;have hop:=aab hQ hC hR hF (o:=o) (show TT P ng cf R l e S o.op o.type (fun v S'=>cond (P5 P ng (gU o.dst v l) e S' []) (sC P ng cf n R df e r' (gU o.dst v l) ds S' k) false)=true from h);refine l4 hop fun v w' hv=>?_
   obtain⟨eT,S',u,g1,g2,g3,g4⟩:=hv;have g4:=(ew g4).2;exact ih (s+1) r' vk Y g4 g2 ((hF.mono g1.W.mono).oC Pw g3) fun Nv S2 w2 l2 ds2 a2 q1 q2 q3 q4=>hk Nv S2 w2 l2 ds2 a2 (g1.trans q1) q2 q3 q4
  have Z:Region.wanted o (yielded O a.tmps)=false:=by simpa using Z
  rw[Z]at h;rw[aj (by simp[Z])];exact⟨fun _ _=>trivial,ih (s+1) r' vk Y h hR (hF.oC Pw (.tuple .nil)) hk⟩
def aca(hQ:E' P ng R)(hC:tQ P cf)(hdf:df=true->ro=none){id:Nat}(hp:ZY O=some q)(h:sC P ng cf n R df e q [] ds S k=true)(hR:RH ng μ S w)(hF:FR μ n e ds a)(hk:∀eT S' w' l' wE a',wx μ S w eT S' w'->RH ng eT S' w'->FR eT n (l'++e) wE a'->k l' wE S'=true->Q .normal a' w'):(Code.region id O false).wpIn (Fw ro) 0 P Q a w:=by
 refine wpIn_region ?_;have Y:=ac9 (Q:=Q) (ro:=ro) hQ hC hdf O.toList 0 q (a:=a) (l:=[]) sM hp h hR hF hk;rw[List.range_eq_range',<-TJ];exact Y
section
variable{e':cX}
def xw:∀{xs:List aM},(∀x∈xs,lu ng l e x=lu ng l' e' x)->pX ng l e xs=pX ng l' e' xs
 |[],_=>rfl
 |x::xs,h=>by
  show ob (lu ng l e x) (fun v=>ob (pX ng l e xs) fun vs=>some (v::vs))=ob (lu ng l' e' x) (fun v=>ob (pX ng l' e' xs) fun vs=>some (v::vs))
  rw[h x (kf ..),xw fun y hy=>h y (kG _ hy)]
def oV{xs:Array aM}(h:∀x∈xs,lu ng l e x=lu ng l' e' x):pX ng l e xs.toList=pX ng l' e' xs.toList:=xw fun x E=>h x (by simpa using E)
def C3{x:Option aM}(h:∀y∈x.toArray,lu ng l e y=lu ng l' e' y):Yf ng l e x=Yf ng l' e' x:=by
 cases x with
 |none=>rfl
 |some y=>
  show ob (lu ng l e y) _=ob (lu ng l' e' y) _
  rw[h y sM]
def Q0(h:∀x∈op.operands,lu ng l e x=lu ng l' e' x):DZ P ng l e op T=DZ P ng l' e' op T:=by
 cases op<;>simp only[DZ]<;>simp only[Op.operands]at h
 case move x=>exact h x sM
 case assign x=>exact h x sM
 case pick c a b=>rw[h c sM,h a sM,h b sM]
 case build t ps=>rw[xw fun x E=>h x (by simpa using E)]
 case nilCheck x=>rw[h x sM]
 case binOp op t x y u=>rw[h x sM,h y sM]
 case unOp op t x=>rw[h x sM]
 case convert s d x=>rw[h x sM]
 case makeInterface t x=>rw[h x sM]
 case makeFunc fn f c=>
  unfold afp;rw[oV fun x E=>h x (by simp[E]),oV (xs:=c) fun x E=>h x (by simp[E])]
 case slice t x lo hi mx=>
  rw[h x sM,C3 (x:=lo) fun y hy=>h y (by simp[hy]),C3 (x:=hi) fun y hy=>h y (by simp[hy]),C3 (x:=mx) fun y hy=>h y (by simp[hy])]
 case fieldAddr s x f=>rw[h x sM]
 case field t x f=>rw[h x sM]
 case indexAddr t x y=>rw[h x sM,h y sM]
 case index t x y=>rw[h x sM,h y sM]
 case typeAssert x xt at' ok=>rw[h x sM]
 case extract x j=>rw[h x sM]
 case call c=>
  obtain⟨callee,args,ts⟩:=c;have h':pX ng l e args.toList=pX ng l' e' args.toList:=oV fun x E=>h x (ZD.2 (.inr E))
  cases callee with
  |builtin b=>show ob (pX ng l e args.toList) _=ob (pX ng l' e' args.toList) _;rw[h']
  |invoke r m=>rfl
  |value f=>rfl
def GX(h:∀x∈op.operands,lu ng l e x=lu ng l' e' x):rV P ng l e S op=rV P ng l' e' S op:=by
 cases op<;>simp only[rV]<;>simp only[Op.operands]at h
 case load t x=>rw[h x sM]
 case lookup t m k ok=>rw[h m sM,h k sM]
 case entry x=>rw[h x sM]
 case call c=>
  obtain⟨callee,args,ts⟩:=c;have h':pX ng l e args.toList=pX ng l' e' args.toList:=oV fun x E=>h x (ZD.2 (.inr E))
  cases callee with
  |builtin b=>cases b<;>first|rfl|(show ob (pX ng l e args.toList) _=ob (pX ng l' e' args.toList) _;rw[h'])
  |invoke r m=>rfl
  |value f=>rfl
def Qb(h:∀x∈op.operands,lu ng l e x=lu ng l' e' x):AH P ng l e op=AH P ng l' e' op:=by
 cases op<;>simp only[AH]<;>simp only[Op.operands]at h
 case box t x=>rw[h x sM]
 case buildSlice t m ps=>rw[xw (xs:=ps.toList.map (·.2)) fun x E=>h x (by simpa using E)]
 case makeSlice t x y=>rw[h x sM,h y sM]
def UJ(h:∀x∈op.operands,lu ng l e x=lu ng l' e' x):Yh P ng l e S op T=Yh P ng l' e' S op T:=by
 cases op<;>simp only[Yh]<;>simp only[Op.operands]at h
 case store t x v=>rw[h x sM,h v sM]
 case mapUpdate t m k v=>rw[h m sM,h k sM,h v sM]
 case insert t m k v=>rw[h m sM,h k sM,h v sM]
 case range t m=>rw[h m sM]
 case convert s d x=>rw[h x sM]
 case call c=>
  obtain⟨callee,args,ts⟩:=c;have h':pX ng l e args.toList=pX ng l' e' args.toList:=oV fun x E=>h x (ZD.2 (.inr E))
  cases callee with
  |builtin b=>show ob (pX ng l e args.toList) _=ob (pX ng l' e' args.toList) _;rw[h']
  |invoke r m=>rfl
  |value f=>rfl
def NV{k:C->St->Bool}(h:∀x∈op.operands,lu ng l e x=lu ng l' e' x):TT P ng cf R l e S op T k=TT P ng cf R l' e' S op T k:=by
 unfold TT;rw[Q0 h,GX h,Qb h,UJ h];split<;>try rfl
 ·rename_i hk;clear hk;split
  ·rename_i c;obtain⟨callee,args,ts⟩:=c;unfold Wd;cases callee with
   |builtin b=>rfl
   |invoke r name=>rfl
   |value f=>simp only;rw[h f (ZD.2 (.inl sM)),oV fun x E=>h x (ZD.2 (.inr E))]
  rfl
 rename_i hk;clear hk;split
 ·rename_i it;simp only[Op.operands]at h;rw[h it sM]
 rfl
def vI(ts:List Nat)(e:cX):cX:=e.filter fun x=>ts.contains x.1
def Bl(ts:List Nat)(t:Nat):∀e:cX,gT t (vI ts e)=if t∈ts then gT t e else none
 |[]=>by show none=_;split<;>rfl
 |x::e=>by
  unfold vI
  by_cases E:ts.contains x.1=true
  ·rw[FA,aB E,lS,lS];have ih:=Bl ts t e;unfold vI at ih;rw[ih]
   by_cases h:x.1=t
   ·subst h;simp at E;simp[E]
   simp[h]
  rw[FA,aj E,lS];have ih:=Bl ts t e;unfold vI at ih;rw[ih]
  by_cases h:x.1=t
  ·subst h;simp at E;simp[E]
  simp[h]
def abe{ts:List Nat}{x:aM}(h:∀t,x= .tmp t->t∈ts):lu ng l e x=lu ng (vI ts (l++e)) [] x:=by
 cases x with
 |tmp t=>
  show gO t l e=gO t _ []
  rw[te,te,kF,Bl,aB (h t rfl)]
 |_=>rfl
def Rl(h: .tmp t∈o.op.operands):t∈o.looksAt O:=by
 unfold Oper.looksAt;refine lT _ (ZK.2 ⟨.tmp t,by simpa using h,rfl⟩)
def Vz{d:Nat}{want:Bool}(h:RU O o.guard=some (some (d,want))):d∈o.looksAt O:=by
 unfold RU at h;unfold Oper.looksAt;refine Jw _ ?_;split at h
 ·cases h
 rename_i j w hg;rw[hg];split at h
 ·rename_i d' hd;cases h;simp[hd]
 cases h
def Rw:∀x∈o.op.operands,lu ng l e x=lu ng (vI (o.looksAt O) (l++e)) [] x:=fun x E=>abe fun t ht=>by subst ht;exact Rl E
def I7(hg:RU O o.guard=some g)(k:Bool->Bool):uh l e g k=uh (vI (o.looksAt O) (l++e)) [] g k:=by
 cases g with
 |none=>rfl
 |some dw=>
  obtain⟨d,want⟩:=dw
  show oK (gO d l e) _=oK (gO d _ []) _
  rw[te,te,kF,Bl,aB (Vz hg)]
def ID:∀{a b:List C},(∀x∈a,∀y,Zd x y=true->x=y)->WL a b=true->a=b
 |[],[],_,_=>rfl
 |[],_::_,_,h=>by cases h
 |_::_,[],_,h=>by cases h
 |x::a,y::b,E,h=>by
  simp only[WL,gG]at h;rw[E x (kf ..) y h.1,ID (fun z hz=>E z (kG _ hz)) h.2]
def IE{a b:C}(h:Zd a b=true):a=b:=by
 unfold Zd at h;split at h<;>first|rfl|(cases h;done)|skip
 all_goals(simp at h;try simp[h])
def aeX{a b:C}(h:veq a b=true):a=b:=by
 unfold veq at h;split at h
 ·rw[Array.toList_inj.1 (ID (fun x _ y h=>IE h) h)]
 ·simp only[gG]at h;obtain⟨⟨Y,J⟩,h3⟩:=h;have Y:=TK Y;rw[Y,Array.toList_inj.1 (ID (fun x _ y h=>IE h) J),Array.toList_inj.1 (ID (fun x _ y h=>IE h) h3)]
 exact IE h
def Yx(S S':St):Prop:=∀i A,S.at i=some A->S'.at i=some A
def pw{β:Type}{x x':Option α}{f f':α->Option β}{b:β}(E:∀a,x=some a->x'=some a)(hf:∀a b,x=some a->f a=some b->f' a=some b)(h:ob x f=some b):ob x' f'=some b:=by
 obtain⟨a,Y,J⟩:=aI h;rw[Rc (E a Y)];exact hf a b Y J
def T0(hS:Yx S S'){t:aC}{x:C}(h:G1 P t S x=some v):G1 P t S' x=some v:=by
 unfold G1 at h ⊢;split at h
 ·exact pw (fun A hA=>hS _ A hA) (fun A b hA h=>h) h
 cases h
def Tw(hS:Yx S S')(h:rV P ng l e S op=some v):rV P ng l e S' op=some v:=by
 cases op<;>simp only[rV]at h ⊢<;>first|(cases h;done)|skip
 case load t x=>exact pw (fun _ h=>h) (fun _ _ _ h=>T0 hS h) h
 case lookup t m k ok=>
  refine pw (fun _ h=>h) (fun a b _ h=>pw (fun _ h=>h) (fun c d _ h=>?_) h) h;unfold VA at h ⊢;split at h
  ·obtain⟨Y,J⟩:=bT h;rw[Y];refine pw (fun es YK=>?_) (fun _ _ _ h=>h) J;unfold esO at YK ⊢;split at YK
   ·exact YK
   ·exact pw (fun A hA=>hS _ A hA) (fun _ _ _ h=>h) YK
   cases YK
  cases h
 case entry x=>
  refine pw (fun _ h=>h) (fun a b _ h=>?_) h;unfold ac8 at h ⊢;split at h
  ·refine pw (fun A hA=>hS _ A hA) (fun A c hA h=>?_) h;split at h
   ·exact pw (fun A hA=>hS _ A hA) (fun _ _ _ h=>h) h
   cases h
  cases h
 case call c=>
  obtain⟨callee,args,ts⟩:=c;cases callee<;>first|(cases h;done)|skip
  rename_i b;cases b<;>first|(cases h;done)|skip
  simp only at h ⊢;refine pw (fun _ h=>h) (fun a b _ h=>?_) h;unfold VB at h ⊢
  split at h
  ·split at h
   ·split at h
    ·exact pw (fun A hA=>hS _ A hA) (fun _ _ _ h=>h) h
    cases h
   cases h
  cases h
end
def Vv:∀(n:Nat) (l:List Nat),l.Nodup->(∀x∈l,x<n)->l.length<=n
 |0,l,_,h=>by
  cases l with
  |nil=>exact fP _
  |cons x l=>have:=h x (kf ..);omega
 |n+1,l,hn,h=>by
  have Y:(l.erase n).Nodup:=hn.erase n;have J:=Vv n (l.erase n) Y (fun x E=>by
   have h3:=h x (List.mem_of_mem_erase E);have h4:x≠n:=fun e=>by subst e;exact(List.Nodup.mem_erase_iff hn).1 E|>.1 rfl
   omega)
  have h3:l.length<=(l.erase n).length+1:=by rw[List.length_erase];split<;>omega
  omega
def uI(m i:Nat):jj m i=m.testBit i:=by
 unfold jj Nat.testBit
 show Nat.beq ((m>>>i)&&&1) 1=(1&&&(m>>>i)!=0)
 rw[Nat.and_comm];have:1&&&(m>>>i)<2:=ZI Nat.and_le_left H;rcases(by omega:1&&&(m>>>i)=0\/1&&&(m>>>i)=1)with h|h<;>rw[h]<;>rfl
def xN(a b i:Nat):jj (Nat.lor a b) i=(jj a i||jj b i):=by
 rw[uI,uI,uI];exact Nat.testBit_or a b i
def LL(k i:Nat):jj (2^k) i=decide (k=i):=by rw[uI];exact Nat.testBit_two_pow
def Bu(i:Nat):jj 0 i=false:=by rw[uI];exact Nat.zero_testBit i
def mkM(o:aP)(f:Nat->Nat):Nat:=o.after.toList.foldl (fun s x=>if Region.binds .any x then Nat.lor s (Nat.lor (2^x.on) (f x.on))else s) 0
def acJ(o:aP)(f:Nat->Nat)(j:Nat):jj (mkM o f) j=true↔∃x∈o.after.toList,Region.binds .any x=true/\(j=x.on\/jj (f x.on) j=true):=by
 have h:∀(l:List Edge) (s:Nat),jj (l.foldl (fun s x=>if Region.binds .any x then Nat.lor s (Nat.lor (2^x.on) (f x.on))else s) s) j=true↔jj s j=true\/∃x∈l,Region.binds .any x=true/\(j=x.on\/jj (f x.on) j=true):=by
  intro l
  induction l with
  |nil=>intro s;simp
  |cons x l ih=>
   intro s;rw[QT,ih]
   by_cases hb:Region.binds .any x=true
   ·rw[aB hb,xN,xN,LL];simp only[Jt,decide_eq_true_eq,cE]
    constructor
    ·rintro((h|h|h)|⟨y,hy,h⟩)
     ·exact .inl h
     ·exact .inr ⟨x, .inl rfl,hb, .inl h.symm⟩
     ·exact .inr ⟨x, .inl rfl,hb, .inr h⟩
     exact .inr ⟨y, .inr hy,h⟩
    rintro(h|⟨y,rfl|hy,Y,J⟩)
    ·exact .inl (.inl h)
    ·rcases J with J|J
     ·exact .inl (.inr (.inl J.symm))
     exact .inl (.inr (.inr J))
    exact .inr ⟨y,hy,Y,J⟩
   rw[aj hb]
   constructor
   ·rintro(h|⟨y,hy,h⟩)
    ·exact .inl h
    exact .inr ⟨y,kG _ hy,h⟩
   rintro(h|⟨y,hy,Y,J⟩)
   ·exact .inl h
   rcases cE.1 hy with rfl|hy
   ·exact aS Y hb
   exact .inr ⟨y,hy,Y,J⟩
 rw[mkM,h];simp[Bu]
def Ri:∀(os:List aP) (ms:List Nat),let r:=os.foldl (fun ms o=>ms++[o.after.toList.foldl (fun s x=>if Region.binds .any x then Nat.lor s (Nat.lor (2^x.on) (ms.getD x.on 0))else s) 0]) ms
  (∀k,k<ms.length->r.getD k 0=ms.getD k 0)/\∀(i:Nat) (o:aP),os[i]?=some o->r.getD (ms.length+i) 0=mkM o fun k=>if k<ms.length+i then r.getD k 0 else 0
 |[],ms=>⟨fun _ _=>rfl,fun i o h=>by simp at h⟩
 |o::os,ms=>by
  obtain⟨Y,J⟩:=Ri os (ms++[mkM o fun k=>ms.getD k 0]);simp only[di,kZ,DY]at Y J;refine⟨fun k hk=>?_,fun i o' ho=>?_⟩
  ·have:=Y k H;refine this.trans ?_;simp[TM hk]
  cases i with
  |zero=>
   simp at ho;subst ho;have h3:=Y ms.length H;refine(show _=_ from h3).trans ?_;rw[ma,Xd (fP _)];simp only[Tx,Mr,TD,WY]
   congr 1
   funext k
   by_cases hk:k<ms.length
   ·rw[aB hk];have h4:=Y k H;refine Eq.trans ?_ h4.symm;simp[TM hk]
   rw[aj hk];simp[yi (Nat.le_of_not_lt hk)]
  |succ i=>
   have h3:=J i o' (by simpa using ho);rw[show ms.length+(i+1)=ms.length+1+i by omega];exact h3
def Wz(O:Array aP)(i j:Nat):Prop:=jj ((p4 O).getD i 0) j=true
def Wy(ho:O[i]?=some o):Wz O i j↔∃x∈o.after,Region.binds .any x=true/\(j=x.on\/(x.on<i/\Wz O x.on j)):=by
 have h:=(Ri O.toList []).2 i o (by simpa using ho);simp only[DY,mT]at h;unfold Wz;rw[show(p4 O).getD i 0=_ from h,acJ]
 constructor
 ·rintro⟨x,E,hb,Y⟩;refine⟨x,by simpa using E,hb,?_⟩;rcases Y with Y|Y
  ·exact .inl Y
  by_cases hk:x.on<i
  ·rw[aB hk]at Y;exact .inr ⟨hk,Y⟩
  rw[aj hk,Bu]at Y;cases Y
 rintro⟨x,E,hb,Y⟩;refine⟨x,by simpa using E,hb,?_⟩;rcases Y with Y|⟨hk,Y⟩
 ·exact .inl Y
 rw[aB hk];exact .inr Y
def U3(hc:kU .any O listed):∀(i:Nat) (o:aP),O[i]?=some o->(∀x∈o.after,Region.binds .any x=true->listed.getD x.on false=true)->∀j,Wz O i j->listed.getD j false=true:=by
 intro i
 induction i using Nat.strongRecOn with
 |_ i ih=>
  intro o ho hl j Z;obtain⟨x,E,hb,h⟩:=(Wy ho).1 Z;have vi:=hl x E hb;rcases h with h|⟨fR,h⟩
  ·rw[h];exact vi
  cases hox:O[x.on]?with
  |none=>
   have:x.on<listed.size:=by
    rcases oA x.on listed.size with h'|h'
    ·exact h'
    simp[FC h']at vi
   rw[hc.size]at this;simp[this]at hox
  |some ox=>exact ih x.on fR ox hox (fun y hy hyb=>hc.Vp x.on ox hox vi y hy hyb) j h
def GH(hc:kU .any O listed)(hi:i∈Region.ready .any O listed)(h:Wz O i j):listed.getD j false=true:=by
 obtain⟨_,o,ho,jg⟩:=mem_ready.1 hi;exact U3 hc i o ho jg j h
structure uL(P:au)(O:Array aP)(p:List Nat):Prop where
 nodup:p.Nodup
 mem:∀i,i∈p↔i<O.size
 wait:∀pre i post,p=pre++i::post->(∀j,Wz O i j->j∈pre)/\∀j∈pre,∀o,O[j]?=some o->p5 P o=true->Wz O i j
 self:∀(i:Nat) (o:aP) (d:Nat),O[i]?=some o->o.dst=some d->d∉o.looksAt O
 slot:∀i o d,O[i]?=some o->o.dst=some d->∀j o',O[j]?=some o'->j≠i->d∈Pb O o'->Wz O j i
def GZ{P:au}{O:Array aP}:∀(p:List Nat) (seen D:Nat) (UZ:List Nat),(∀j,jj seen j=true↔j∈UZ)->(∀j,jj D j=true↔j∈UZ/\(O[j]?).any (p5 P)=true)->JB P O (p4 O) p seen D=true→
  p.Nodup/\(∀j∈p,j∉UZ/\j<O.size)/\∀pre i post,p=pre++i::post->(∀j,Wz O i j->j∈UZ++pre)/\∀j∈UZ++pre,(O[j]?).any (p5 P)=true->Wz O i j
 |[],_,_,_,_,_,_=>⟨.nil,fun _ h=>(by cases h),fun pre i post h=>by simp at h⟩
 |x::p,seen,D,UZ,hs,hD,h=>by
  simp only[JB,gG,tS,TE]at h;obtain⟨⟨⟨⟨Y,J⟩,h3⟩,h4⟩,h5⟩:=h;have h3:=TK h3;have h4:=TK h4;obtain⟨g1,g2,g3⟩:=GZ p _ _ (UZ++[x]) (fun j=>by
   rw[xN,LL];simp only[Jt,decide_eq_true_eq,hs,eZ,Hw]
   constructor
   ·rintro(h|h)
    ·exact .inl h
    ·exact .inr h.symm
   ·rintro(h|h)
    ·exact .inl h
    ·exact .inr h.symm) (fun j=>by
   split
   ·rename_i he;rw[xN,LL];simp only[Jt,decide_eq_true_eq,hD,eZ,Hw]
    constructor
    ·rintro(⟨h,h'⟩|rfl)
     ·exact⟨.inl h,h'⟩
     ·exact⟨.inr rfl,he⟩
    ·rintro⟨h|rfl,h'⟩
     ·exact .inl ⟨h,h'⟩
     ·exact .inr rfl
   ·rename_i he;rw[hD];simp only[eZ,Hw]
    constructor
    ·rintro⟨h,h'⟩;exact⟨.inl h,h'⟩
    ·rintro⟨h|rfl,h'⟩
     ·exact⟨h,h'⟩
     ·exact aS h' he) h5
  have E:x∉UZ:=fun hm=>by rw[(hs x).2 hm]at J;cases J
  refine⟨Bx.2 ⟨fun hm=>(g2 x hm).1 sM,g1⟩,fun j hj=>?_,fun pre i post hp=>?_⟩
  ·rcases cE.1 hj with rfl|hj
   ·exact⟨E,Y⟩
   exact⟨fun hm=>(g2 j hj).1 (lT _ hm),(g2 j hj).2⟩
  cases pre with
  |nil=>
   simp at hp;obtain⟨rfl,rfl⟩:=hp;refine⟨fun j hj=>?_,fun j hj he=>?_⟩
   ·have:jj (Nat.lor ((p4 O).getD x 0) seen) j=true:=by rw[xN,show jj ((p4 O).getD x 0) j=true from hj];rfl
    rw[h3]at this
    simpa using(hs j).1 this
   have h6:jj D j=true:=(hD j).2 ⟨by simpa using hj,he⟩;have:jj (Nat.lor D ((p4 O).getD x 0)) j=true:=by rw[xN,h6];rfl
   rw[h4]at this;exact this
  |cons y pre=>
   simp at hp;obtain⟨rfl,rfl⟩:=hp;have:=g3 pre i post rfl
   simpa using this
def afd(hl:p.length=O.size)(h:JB P O (p4 O) p 0 0=true)(hs:Vg O (p4 O)=true):uL P O p:=by
 obtain⟨Y,J,h3⟩:=GZ (P:=P) p 0 0 [] (fun j=>by simp[Bu]) (fun j=>by simp[Bu]) h;refine⟨Y,fun i=>⟨fun hi=>(J i hi).2,fun hi=>?_⟩,fun pre i post hp=>?_,fun i o d hi hd hm=>?_,fun i o d hi hd j o' hj oS hn=>?_⟩
 ·refine vC fun hni=>?_
  have h4:=Vv O.size (i::p) (Bx.2 ⟨hni,Y⟩) (fun x E=>by
   rcases cE.1 E with rfl|E
   ·exact hi
   ·exact(J x E).2)
  simp at h4;omega
 ·obtain⟨g1,g2⟩:=h3 pre i post hp;exact⟨fun j hj=>by simpa using g1 j hj,fun j hj o ho he=>g2 j (by simpa using hj) (by simp[ho,he])⟩
 ·have wz:i<O.size:=(mV.1 hi).1;have a1:=w5.1 hs i (sr.2 wz);simp only[hi,hd,gG,TE]at a1;rw[FB.2 hm]at a1;cases a1.1
 have wz:i<O.size:=(mV.1 hi).1;have pU:j<O.size:=(mV.1 hj).1;have a1:=w5.1 hs i (sr.2 wz);simp only[hi,hd,gG]at a1;replace a1:=a1.2;have a2:=w5.1 a1 j (sr.2 pU);simp only[hj,Jt,beq_iff_eq,TE]at a2
 rcases a2 with(rfl|h4)|h4
 ·exact aS rfl oS
 ·exact h4
 rw[FB.2 hn]at h4;cases h4
structure Pn(P:au)(ng n:Nat)(O:Array aP)(e:cX)(S0:St)(l:cX)(S:St)(μ:Mu)(ids:Nat->Option Nat)(j:Nat)(o:aP)(hx:cX)(g:Option (Nat×Bool))(b:Bool)(v:C):Prop where
 hg:RU O o.guard=some g
 Z:uh hx [] g (fun t=>t==b)=true
 hE:∀t∈o.looksAt O,gT t hx=gT t (l++e)
 hEn:∀t,t∉o.looksAt O->gT t hx=none
 hd:∀d,o.dst=some d->d<n/\gT d (l++e)=some v
 no:b=false->v=undef
 yes:b=true->(Ec P o.op=0/\DZ P ng hx [] o.op o.type=some v)\/(Ec P o.op=1/\rV P ng hx [] S o.op=some v)∨
  (Ec P o.op=3/\∃A f id,AH P ng hx [] o.op=some (A,f)/\v=f id/\ids j=some id/\S0.n<=id/\μ id=none/\S.at id=some A)
structure DI(P:au)(ng n:Nat)(O:Array aP)(p:List Nat)(e:cX)(ds:List C)(Ff:Mu)(S0:St)(w0:ae)(pre post:List Nat)(listed:Array Bool)(ids:Nat->Option Nat)(l:cX)(S:St)(μ:Mu)(w:ae)(a:Act):Prop where
 hp:p=pre++post
 cl:kU .any O listed
 Xs:∀j,listed.getD j false=true->j∈pre
 hR:RH ng μ S w
 size:a.tmps.size=n
 defers:∃rs,iX μ ds rs/\a.defers=rs.map Hg
 qQ:∀t v,gT t (l++e)=some v->(∀j∈pre,listed.getD j false=false->∀o,O[j]?=some o->o.dst≠some t)->VR μ v (a.tmps.getD t undef)
 gZ:∀j∈pre,listed.getD j false=false->∃o,O[j]?=some o/\p5 P o=false/\∃hx g b v,Pn P ng n O e S0 l S μ ids j o hx g b v
 Ud:∀j id,ids j=some id->id<S.n
 VI:∀i j id,ids i=some id->ids j=some id->i=j
 ext:AR Ff w0 μ w
 gst:Gst Ff S0 μ S
 Yk:Cns Ff S0 w0 S w
def DI.frame(hP:uL P O p)(h:DI P ng n O p e ds Ff S0 w0 pre post listed ids l S μ w a)(ho:O[i]?=some o)(hi:i∈Region.ready .any O listed)(hE:∀t∈o.looksAt O,gT t hx=gT t (l++e))(hEn:∀t,t∉o.looksAt O->gT t hx=none):FR μ n (hx++[]) ds a:=by
 refine⟨h.size,fun t v hv=>?_,h.defers⟩;rw[kF]at hv
 by_cases ht:t∈o.looksAt O
 ·rw[hE t ht]at hv;refine h.qQ t v hv fun j hj pU oj xW hd=>?_
  by_cases ux:i=j
  ·subst ux;have:oj=o:=Option.some.inj (xW.symm.trans ho);subst this;exact hP.self i oj t ho hd ht
  have Z:=hP.slot j oj t xW hd i o ho ux (Jw _ ht);have:=GH h.cl hi Z;rw[this]at pU;cases pU
 rw[hEn t ht]at hv;cases hv
def uL.before(hP:uL P O p)(hp:p=pre++x::post)(hj:j∈pre):¬Wz O j x:=by
 intro Z;obtain⟨A,B,rfl⟩:=O4 hj;have Y:=(hP.wait A j (B++x::post) (by rw[hp];simp)).1 x Z;have hn:=hP.nodup;rw[hp]at hn;simp only[gm,nI,Hv,cE,eZ]at hn
 exact hn.2.2 x Y x (.inr (.inr (.inl rfl))) rfl
def uL.out(hP:uL P O p)(hp:p=pre++x::post):x∉pre:=fun h=>by
 have hn:=hP.nodup;rw[hp,Hv]at hn;exact hn.2.2 x h x (kf ..) rfl
def Ef(h:d≠some t):gT t (gU d v l++e)=gT t (l++e):=by
 cases d with
 |none=>rfl
 |some d=>
  show gT t ((d,v)::(l++e))=_
  rw[lS,aj (fun e=>h (aU some e))]
def RY{d:Nat}:gT d (gU (some d) v l++e)=some v:=by
 show gT d ((d,v)::(l++e))=_
 rw[lS,aB rfl]
def Pn.move{b:Bool}(h:Pn P ng n O e S0 l S μ ids j o hx g b v)(hl:∀t∈Pb O o,gT t (l'++e)=gT t (l++e))(hr:b=true->Ec P o.op=1->rV P ng hx [] S o.op=some v->rV P ng hx [] S' o.op=some v)(ha:∀id,ids j=some id->μ id=none->ids' j=some id/\eT id=none/\∀A,S.at id=some A->S'.at id=some A):Pn P ng n O e S0 l' S' eT ids' j o hx g b v:=by
 refine⟨h.hg,h.Z,fun t ht=>(h.hE t ht).trans (hl t (Jw _ ht)).symm,h.hEn,fun d hd=>⟨(h.hd d hd).1,?_⟩,h.no,fun hb=>?_⟩
 ·rw[hl d (lT _ (by simp[hd]))];exact(h.hd d hd).2
 rcases h.yes hb with Y|⟨Y,J⟩|⟨Y,A,f,id,J,h3,h4,h5,h6,h7⟩
 ·exact .inl Y
 ·exact .inr (.inl ⟨Y,hr hb Y J⟩)
 obtain⟨k1,k2,k3⟩:=ha id h4 h6;exact .inr (.inr ⟨Y,A,f,id,J,h3,k1,h5,k2,k3 A h7⟩)
def DI.adv(hP:uL P O p)(h:DI P ng n O p e ds Ff S0 w0 pre (x::post) listed ids l S μ w a)(ho:O[x]?=some o)(oS:p5 P o=false){b:Bool}(E:Pn P ng n O e S0 (gU o.dst v l) S' μ ids' x o hx g b v)(hS:Yx S S')(hR:RH ng μ S' w)(hG:Gst μ S μ S')(hi:∀j,j≠x->ids' j=ids j)(hi2:∀id,ids' x=some id->id=S.n/\id<S'.n):
  DI P ng n O p e ds Ff S0 w0 (pre++[x]) post listed ids' (gU o.dst v l) S' μ w a:=by
 have hxp:=hP.out h.hp;have vi:listed.getD x false=false:=by
  cases hl:listed.getD x false with
  |false=>rfl
  |true=>exact aS (h.Xs x hl) hxp
 refine⟨by rw[h.hp];simp,h.cl,fun j hj=>lT _ (h.Xs j hj),hR,h.size,h.defers,fun t u hu hn=>?_,fun j hj pU=>?_,fun j id hj=>?_,fun i j id Y J=>?_,h.ext,h.gst.trans hG,⟨fun i b A hi hA hc=>⟨hS _ _ (h.Yk.Yk i b A hi hA hc).1,(h.Yk.Yk i b A hi hA hc).2⟩⟩⟩
 ·have hd:o.dst≠some t:=hn x sM vi o ho;rw[Ef hd]at hu;exact h.qQ t u hu fun j hj pU oj xW=>hn j (lT _ hj) pU oj xW
 ·rcases eZ.1 hj with hj|hj
  ·obtain⟨oj,xW,HC,Ej,gj,bj,vj,xV⟩:=h.gZ j hj pU;have hjx:j≠x:=fun e=>hxp (e▸hj)
   refine⟨oj,xW,HC,Ej,gj,bj,vj,xV.move (fun t ht=>?_) (fun _ _ hr=>Tw hS hr) fun id Y J=>⟨by rw[hi j hjx];exact Y,J,fun A hA=>hS _ _ hA⟩⟩;refine Ef fun hd=>?_
   exact hP.before h.hp hj (hP.slot x o t ho hd j oj xW hjx ht)
  have:j=x:=by simpa using hj
  subst this;exact⟨o,ho,oS,hx,g,b,v,E⟩
 ·by_cases hjx:j=x
  ·subst hjx;exact(hi2 id hj).2
  rw[hi j hjx]at hj;have:=h.Ud j id hj;have:=hG.n;omega
 by_cases hix:i=x<;>by_cases hjx:j=x
 ·rw[hix,hjx]
 ·subst hix;rw[hi j hjx]at J;have:=(hi2 id Y).1;have:=h.Ud j id J;omega
 ·subst hjx;rw[hi i hix]at Y;have:=(hi2 id J).1;have:=h.Ud i id Y;omega
 rw[hi i hix]at Y;rw[hi j hjx]at J;exact h.VI i j id Y J
def FX(hi:i<listed.size):(listed.setIfInBounds i true).getD i false=true:=by simp[hi]
def QY{d:Nat}(hs:a.tmps.size=n)(hd:d<n):(a.put (some d) r).tmps.getD d undef=r:=by simp[Act.put,hs,hd]
def NR(h:d≠some t):(a.put d r).tmps.getD t undef=a.tmps.getD t undef:=by
 cases d with
 |none=>rfl
 |some d=>
  have h:d≠t:=fun e=>h (by rw[e])
  simp only[Act.put,Jz];rw[Bz h]
def Vo:(a.put d r).defers=a.defers:=by cases d<;>rfl
def DI.done(hP:uL P O p)(h:DI P ng n O p e ds Ff S0 w0 pre post listed ids l S μ w a)(hi:i∈Region.ready .any O listed)(YJ:i∈pre)(ho:O[i]?=some o)(hd:∀d,o.dst=some d->d<n/\gT d (l++e)=some v)(hv:VR eT v r)(hW:AR μ w eT w')(hR:RH ng eT S w')(hG:Gst Ff S0 eT S)(hH:∀j b A,μ j=some b->S.at j=some A->w'.heap[b.1]?=w.heap[b.1]?)(aiJ:∀j id,j≠i->ids j=some id->μ id=none->eT id=none):
  DI P ng n O p e ds Ff S0 w0 pre post (listed.setIfInBounds i true) ids l S eT w' (a.put o.dst r):=by
 have wz:i<listed.size:=by rw[h.cl.size];exact(mV.1 ho).1
 refine⟨h.hp,h.cl.set hi,fun j hj=>?_,hR,qT h.size _ _,?_,fun t u hu hn=>?_,fun j hj pU=>?_,h.Ud,h.VI,h.ext.trans hW,hG,h.Yk.trans h.ext.mono ⟨fun j b A hj hA _=>⟨hA,hH j b A hj hA⟩⟩⟩
 ·by_cases ux:i=j
  ·rw[<-ux];exact YJ
  rw[getD_set_ne false ux]at hj;exact h.Xs j hj
 ·rw[Vo];obtain⟨rs,Y,J⟩:=h.defers;exact⟨rs,Y.mono hW.mono,J⟩
 ·by_cases YL:o.dst=some t
  ·obtain⟨Y,J⟩:=hd t YL;rw[J]at hu;cases hu;rw[YL,QY h.size Y];exact hv
  rw[NR YL];refine(h.qQ t u hu fun j hj pU oj xW=>?_).mono hW.mono
  by_cases ux:i=j
  ·subst ux;have:oj=o:=Option.some.inj (xW.symm.trans ho);subst this;exact YL
  exact hn j hj (by rw[getD_set_ne false ux];exact pU) oj xW
 have ux:i≠j:=fun e=>by subst e;rw[FX wz]at pU;cases pU
 rw[getD_set_ne false ux]at pU;obtain⟨oj,xW,HC,Ej,gj,bj,vj,xV⟩:=h.gZ j hj pU;exact⟨oj,xW,HC,Ej,gj,bj,vj,xV.move (fun _ _=>rfl) (fun _ _ hr=>hr) fun id Y J=>⟨Y,aiJ j id (fun e=>ux e.symm) Y J,fun _ hA=>hA⟩⟩
def DI.eff(hP:uL P O p)(h:DI P ng n O p e ds Ff S0 w0 pre (x::post) listed ids l S μ w a)(hi:x∈Region.ready .any O listed)(ho:O[x]?=some o)(hd:∀d,o.dst=some d->d<n){u:C}(hv:VR eT u r)(hE:wx μ S w eT S' w')(hR:RH ng eT S' w')(ag3:∀j∈pre,listed.getD j false=false->∀oj Ej gj vj,O[j]?=some oj->Pn P ng n O e S0 (gU o.dst u l) S μ ids j oj Ej gj true vj->Ec P oj.op=1->rV P ng Ej [] S oj.op=some vj->rV P ng Ej [] S' oj.op=some vj):
  DI P ng n O p e ds Ff S0 w0 (pre++[x]) post (listed.setIfInBounds x true) ids (gU o.dst u l) S' eT w' (a.put o.dst r):=by
 have hxp:=hP.out h.hp;have wz:x<listed.size:=by rw[h.cl.size];exact(mV.1 ho).1
 refine⟨by rw[h.hp];simp,h.cl.set hi,fun j hj=>?_,hR,qT h.size _ _,?_,fun t u' hu hn=>?_,fun j hj pU=>?_,fun j id hj=>W6 (h.Ud j id hj) hE.G.n,h.VI,h.ext.trans hE.W,h.gst.trans hE.G,h.Yk.trans h.ext.mono hE.ad⟩
 ·by_cases ux:x=j
  ·rw[<-ux];simp
  rw[getD_set_ne false ux]at hj;exact lT _ (h.Xs j hj)
 ·rw[Vo];obtain⟨rs,Y,J⟩:=h.defers;exact⟨rs,Y.mono hE.W.mono,J⟩
 ·by_cases YL:o.dst=some t
  ·rw[YL]at hu ⊢;rw[RY]at hu;cases hu
   rw[QY h.size (hd t YL)];exact hv
  rw[Ef YL]at hu;rw[NR YL];refine(h.qQ t u' hu fun j hj pU oj xW=>?_).mono hE.W.mono;have ux:x≠j:=fun e=>hxp (e▸hj)
  exact hn j (lT _ hj) (by rw[getD_set_ne false ux];exact pU) oj xW
 have ux:x≠j:=fun e=>by subst e;rw[FX wz]at pU;cases pU
 rw[getD_set_ne false ux]at pU;have hj:j∈pre:=by
  rcases eZ.1 hj with hj|hj
  ·exact hj
  exact aS (by simpa using hj:j=x).symm ux
 obtain⟨oj,xW,HC,Ej,gj,bj,vj,xV⟩:=h.gZ j hj pU;have afB:∀t∈Pb O oj,gT t (gU o.dst u l++e)=gT t (l++e):=fun t ht=>Ef fun hd=>hP.before h.hp hj (hP.slot x o t ho hd j oj xW (fun e=>ux e.symm) ht)
 have ag5:=xV.move (l':=gU o.dst u l) (S':=S) (eT:=μ) (ids':=ids) afB (fun _ _ hr=>hr) fun id Y J=>⟨Y,J,fun _ hA=>hA⟩
 refine⟨oj,xW,HC,Ej,gj,bj,vj,ag5.move (fun _ _=>rfl) (fun hb hk hr=>?_) fun id Y J=>?_⟩
 ·subst hb;exact ag3 j hj pU oj Ej gj vj xW ag5 hk hr
 obtain⟨k1,k2⟩:=hE.G.ghost id (h.Ud j id Y) J;exact⟨Y,k1,fun A hA=>by rw[k2];exact hA⟩
def WK{b:Bool}(h:uh hx [] g (fun t=>t==b)=true)(K:Bool->Bool):uh hx [] g K=K b:=by
 cases g with
 |none=>
  have h:(true==b)=true:=h;have:b=true:=by simpa using h
  subst this;rfl
 |some dw=>
  obtain⟨d,want⟩:=dw;obtain⟨v,hv,h⟩:=dX (show oK (gO d hx []) _=true from h)
  show oK (gO d hx []) _=_
  rw[hv];cases v<;>first|(cases h;done)|skip
  case bool b'=>
   have h:((b'==want)==b)=true:=h;have:(b'==want)=b:=by simpa using h
   show K (b'==want)=K b
   rw[this]
  case tuple vs=>
   obtain⟨Y,J⟩:=ew (show cond vs.isEmpty (false==b) false=true from h);have:b=false:=by simpa using J
   subst this
   show cond vs.isEmpty (K false) false=K false
   rw[Y];rfl
def Tm(hg:RU O o.guard=some g)(hE:∀t∈o.looksAt O,gT t hx=gT t (l'++e))(K:Bool->Bool):uh l' e g K=uh hx [] g K:=by
 cases g with
 |none=>rfl
 |some dw=>
  obtain⟨d,want⟩:=dw
  show oK (gO d l' e) _=oK (gO d hx []) _
  rw[te,te,kF,hE d (Vz hg)]
def abd(hE:∀t∈o.looksAt O,gT t hx=gT t (l'++e)):∀x∈o.op.operands,lu ng l' e x=lu ng hx [] x:=fun x E=>by
 cases x with
 |tmp t=>
  show gO t l' e=gO t hx []
  rw[te,te,kF,hE t (Rl E)]
 |_=>rfl
def Rx:∀t∈o.looksAt O,gT t (vI (o.looksAt O) (l++e))=gT t (l++e):=fun t ht=>by rw[Bl,aB ht]
def N7:∀t,t∉o.looksAt O->gT t (vI (o.looksAt O) (l++e))=none:=fun t ht=>by rw[Bl,aj ht]
def DI.WN(hP:uL P O p)(h:DI P ng n O p e ds Ff S0 w0 pre post listed ids l S μ w a)(hi:i∈Region.ready .any O listed)(YJ:i∈pre)(hK:∀eT w' a',DI P ng n O p e ds Ff S0 w0 pre post (listed.setIfInBounds i true) ids l S eT w' a'->K a' w'):wpOpIn (Fw ro) 0 P O Q i K a w:=by
 have Ps:listed.getD i false=false:=unl (mem_ready.1 hi).1;obtain⟨o,ho,oS,hx,g,b,v,xV⟩:=h.gZ i YJ Ps;have hF:=h.frame hP ho hi xV.hE xV.hEn;have J9:Region.wanted o (yielded O a.tmps)=b:=by
  have:=I6 (l:=hx) (e:=[]) hF xV.hg xV.Z
  simpa using this
 have aaM:∀{r},VR μ v r->DI P ng n O p e ds Ff S0 w0 pre post (listed.setIfInBounds i true) ids l S μ w (a.put o.dst r):=fun hv=>h.done hP hi YJ ho xV.hd hv (.refl _ _) h.hR h.gst (fun _ _ _ _ _=>rfl) fun _ _ _ _ h=>h
 unfold wpOpIn;simp only[ho];cases b with
 |false=>
  rw[aj (by simp[J9])];have:=xV.no rfl;subst this;exact⟨fun _ _=>trivial,hK _ _ _ (aaM (.tuple .nil))⟩
 |true=>
  rw[aB J9];rcases xV.yes rfl with⟨-,Y⟩|⟨-,Y⟩|⟨-,A,f,id,Y,J,h3,h4,h5,h6⟩
  ·obtain⟨r,g1,g2⟩:=QZ h.hR hF Y;refine l4 (V:=fun u w'=>u=r/\w'=w) ?_ fun u w' ⟨hu,Z⟩=>?_
   ·unfold mS;rw[g1 w];exact⟨rfl,rfl⟩
   subst hu;subst Z;exact hK _ _ _ (aaM g2)
  ·obtain⟨r,g1,g2⟩:=QQ h.hR hF Y;refine l4 (V:=fun u w'=>u=r/\w'=w) ?_ fun u w' ⟨hu,Z⟩=>?_
   ·unfold mS;rw[g1];exact⟨rfl,rfl⟩
   subst hu;subst Z;exact hK _ _ _ (aaM g2)
  obtain⟨obj,rv,g1,g2,g3⟩:=OA h.hR hF Y;have aiK:=h.Ud i id h3;have aaT:=h.hR.lid;obtain⟨k1,k2⟩:=h.hR.aeI (S':=S) (A:=A) (o:=obj) h5 aiK (fP _) aaT g1 (fun j hj=>by
    split
    ·rename_i ux;rw[ux];exact h6
    ·rfl)
  refine l4 (V:=fun u w'=>u=rv w.heap.size/\w'={w with heap:=w.heap.push obj}) ?_ fun u w' ⟨hu,Z⟩=>?_
  ·unfold mS;rw[g2 w];exact⟨rfl,rfl⟩
  subst hu;subst Z;refine hK _ _ _ (h.done hP hi YJ ho xV.hd ?_ k2 k1 ⟨fun j hj hn=>?_,h.gst.n⟩ (fun j b B hj hB=>?_) fun j RC ux HF hn=>?_)
  ·subst J;exact g3 _ _ _ (mg _ _ _)
  ·obtain⟨q1,q2⟩:=h.gst.ghost j hj hn;refine⟨?_,q2⟩;unfold mh;rw[aj H];exact q1
  ·have:=h.hR.bound _ _ hj;simp only;rw[ZS H,Hx]
  unfold mh;rw[aj (fun e=>ux (h.VI j i RC HF (by rw[e];exact h3)))];exact hn
def Oj{UZ r:List Nat}(h:PA P O (p4 O) UZ (x::r)=some q):∃o g c q',O[x]?=some o/\RU O o.guard=some g/\q=⟨o,g,c⟩::q'/\PA P O (p4 O) (UZ++[x]) r=some q'∧
  (p5 P o=true->∀j∈UZ,∀oj d gj,O[j]?=some oj->oj.dst=some d->Ec P oj.op=1->¬Wz O x j->RU O oj.guard=some gj->(oj.op,gj,d)∈c):=by
 unfold PA at h;split at h
 ·rename_i o q' Y J;split at h
  ·rename_i g hg;cases h;refine⟨o,g,_,q',Y,hg,rfl,J,fun he j hj oj d gj xW hd hk Z hgj=>?_⟩;rw[aB he];refine ZK.2 ⟨j,hj,?_⟩;simp only[xW,hd,hk];have:jj ((p4 O).getD x 0) j=false:=by
    cases hb:jj ((p4 O).getD x 0) j with
    |false=>rfl
    |true=>exact aS hb Z
   simp only[this,hgj];rfl
  cases h
 cases h
def DI.Zj(hQ:E' P ng R)(hC:tQ P cf)(hP:uL P O p)(Pw:∀(j:Nat) (o:aP),O[j]?=some o->Ec P o.op=1->∃d,o.dst=some d)(h:DI P ng n O p e ds Ff S0 w0 pre (x::post) listed ids l S μ w a)(hi:x∈Region.ready .any O listed)(ho:O[x]?=some o)(he:p5 P o=true)(hg:RU O o.guard=some g)(hc:∀j∈pre,∀oj d gj,O[j]?=some oj->oj.dst=some d->Ec P oj.op=1->¬Wz O x j->RU O oj.guard=some gj->(oj.op,gj,d)∈c)(hr:sC P ng cf n R false e (⟨o,g,c⟩::q) l ds S k=true)(hK:∀l' S' eT w' a',DI P ng n O p e ds Ff S0 w0 (pre++[x]) post (listed.setIfInBounds x true) ids l' S' eT w' a'->sC P ng cf n R false e q l' ds S' k=true->K a' w'):wpOpIn (Fw ro) 0 P O Q x K a w:=by
 have hF:=h.frame hP ho hi (Rx (l:=l) (e:=e)) N7;have hr:uh l e g (fun t=>cond (Option.all (Nat.blt · n) o.dst) (cond t (cond (Nat.beq (Ec P o.op) 6) false
  (TT P ng cf R l e S o.op o.type fun v S'=>cond (P5 P ng (gU o.dst v l) e S' c) (sC P ng cf n R false e q (gU o.dst v l) ds S' k) false)) (sC P ng cf n R false e q (gU o.dst undef l) ds S k)) false)=true:=hr
 rw[I7 hg]at hr;replace hr:=I6 hF hg hr;replace hr:=ew hr;obtain⟨hd,hr⟩:=hr;have vk:∀d,o.dst=some d->d<n:=fun d Qp=>by rw[Qp]at hd;simpa using hd
 unfold wpOpIn;simp only[ho]
 by_cases Z:Region.wanted o (yielded O a.tmps)=true
 ·rw[aB Z];rw[Z]at hr;have h6:Nat.beq (Ec P o.op) 6=false:=by
   cases hb:Nat.beq (Ec P o.op) 6 with
   |false=>rfl
   |true=>
    have:=TK hb;simp[p5,this]at he
  rw[h6]at hr;have hr:TT P ng cf R l e S o.op o.type (fun v S'=>cond (P5 P ng (gU o.dst v l) e S' c) (sC P ng cf n R false e q (gU o.dst v l) ds S' k) false)=true:=hr;rw[NV (Rw (O:=O) (o:=o))]at hr
  refine l4 (aab hQ hC h.hR hF hr) fun r w' hv=>?_
  obtain⟨eT,S',u,g1,g2,g3,g4⟩:=hv;obtain⟨g4,g5⟩:=ew g4;refine hK _ S' eT w' _ (h.eff hP hi ho vk g3 g1 g2 fun j hj pU oj Ej gj vj xW xV hk sA=>?_) g5;obtain⟨dj,hdj⟩:=Pw j oj xW hk;have aaS:=hc j hj oj dj gj xW hdj hk (fun hwa=>by rw[GH h.cl hi hwa]at pU;cases pU) xV.hg;have lr:=w5.1 g4 _ aaS;simp only at lr;rw[Tm xV.hg xV.hE,WK xV.Z]at lr
  obtain⟨v1,e1,lr⟩:=dX (show oK _ _=true from lr);obtain⟨v2,e2,lr⟩:=dX lr;rw[te,(xV.hd dj hdj).2]at e1;cases e1;have:=aeX lr;subst this;rw[GX (abd xV.hE)]at e2
  exact e2
 have Z:Region.wanted o (yielded O a.tmps)=false:=by simpa using Z
 rw[Z]at hr;rw[aj (by simp[Z])];exact⟨fun _ _=>trivial,hK _ S μ w _ (h.eff hP hi ho vk (.tuple .nil) (.refl _ _ _) h.hR fun _ _ _ _ _ _ _ _ _ _ hr=>hr) hr⟩
def TR.IP{α:Type}:∀(d i:Nat) (t:TR α),TR.get d i t=TR.get d (i%2^d) t
 |0,i,t=>rfl
 |d+1,i,t=>by
  rw[TR.td,TR.td,Hs,Nat.mul_comm,Nat.mod_mul_right_mod,Nat.mod_mul_right_div_self,<-TR.IP d,<-TR.IP d]
def Yx.add(hR:RH ng μ S w)(hl:S.n<2^HD)(A:AO):Yx S (S.add A):=fun i B h=>by
 have Y:S.at i=S.at (i%2^HD):=TR.IP HD i S.h
 have J:(S.add A).at i=(S.add A).at (i%2^HD):=TR.IP HD i _
 have fR:i%2^HD<2^HD:=Nat.mod_lt _ dM;rw[J];have h3:(S.add A).at (i%2^HD)=if i%2^HD=S.n then some A else S.at (i%2^HD):=St.AG hl fR
 rw[h3,aj,<-Y]
 ·exact h
 intro e;have:=hR.top S.n (fP _) hl;rw[Y,e,this]at h;cases h
def Zb{K:Bool->Bool}(h:uh l e g K=true):∃b,(∀K',uh l e g K'=K' b)/\K b=true:=by
 cases g with
 |none=>exact⟨true,fun _=>rfl,h⟩
 |some dw=>
  obtain⟨d,want⟩:=dw;obtain⟨v,hv,h⟩:=dX (show oK (gO d l e) _=true from h);cases v<;>first|(cases h;done)|skip
  case bool b'=>
   refine⟨b'==want,fun K'=>?_,h⟩
   show oK (gO d l e) _=_
   rw[hv];rfl
  case tuple vs=>
   obtain⟨Y,J⟩:=ew (show cond vs.isEmpty (K false) false=true from h);refine⟨false,fun K'=>?_,J⟩
   show oK (gO d l e) _=_
   rw[hv]
   show cond vs.isEmpty (K' false) false=K' false
   rw[Y];rfl
def DI.age(hP:uL P O p):∀(post pre:List Nat) (ids:Nat->Option Nat) (l:cX) (S:St) (q:List En),DI P ng n O p e ds Ff S0 w0 pre post listed ids l S μ w a->PA P O (p4 O) pre post=some q->sC P ng cf n R false e q l ds S k=true→
  ∃TN JA ids' l' S' q',DI P ng n O p e ds Ff S0 w0 TN JA listed ids' l' S' μ w a/\PA P O (p4 O) TN JA=some q'/\sC P ng cf n R false e q' l' ds S' k=true/\(JA=[]\/∃x r o,JA=x::r/\O[x]?=some o/\p5 P o=true):=by
 intro post
 induction post with
 |nil=>intro pre ids l S q h hq hr;exact⟨pre,[],ids,l,S,q,h,hq,hr, .inl rfl⟩
 |cons x r ih=>
  intro pre ids l S q h hq hr;obtain⟨o,g,c,q',ho,hg,rfl,hq',-⟩:=Oj hq
  by_cases he:p5 P o=true
  ·exact⟨pre,x::r,ids,l,S,_,h,hq,hr, .inr ⟨x,r,o,rfl,ho,he⟩⟩
  have he:p5 P o=false:=by simpa using he
  have hr:uh l e g (fun t=>cond (Option.all (Nat.blt · n) o.dst) (cond t (cond (Nat.beq (Ec P o.op) 6) false
    (TT P ng cf R l e S o.op o.type fun v S'=>cond (P5 P ng (gU o.dst v l) e S' c) (sC P ng cf n R false e q' (gU o.dst v l) ds S' k) false)) (sC P ng cf n R false e q' (gU o.dst undef l) ds S k)) false)=true:=hr
  obtain⟨b,hb,hr⟩:=Zb hr;obtain⟨hd,hr⟩:=ew hr;have vk:∀d,o.dst=some d->d<n:=fun d Qp=>by rw[Qp]at hd;simpa using hd
  have Oa:∀t∈o.looksAt O,o.dst≠some t:=fun t ht hd=>hP.self x o t ho hd ht
  have pn:∀{v:C} {S':St} {ids':Nat->Option Nat},(b=false->v=undef)->(b=true->(Ec P o.op=0/\DZ P ng (vI (o.looksAt O) (l++e)) [] o.op o.type=some v)\/(Ec P o.op=1/\rV P ng (vI (o.looksAt O) (l++e)) [] S' o.op=some v)∨
     (Ec P o.op=3/\∃A f id,AH P ng (vI (o.looksAt O) (l++e)) [] o.op=some (A,f)/\v=f id/\ids' x=some id/\S0.n<=id/\μ id=none/\S'.at id=some A))→
    Pn P ng n O e S0 (gU o.dst v l) S' μ ids' x o (vI (o.looksAt O) (l++e)) g b v:=fun{v S' ids'} Y J=>by
   refine⟨hg,?_,fun t ht=>?_,N7,fun d hd=>⟨vk d hd,?_⟩,Y,J⟩
   ·rw[<-I7 hg,hb];simp
   ·rw[Rx t ht,Ef (Oa t ht)]
   rw[hd,RY]
  cases b with
  |false=>
   have hr:sC P ng cf n R false e q' (gU o.dst undef l) ds S k=true:=hr;exact ih (pre++[x]) (fun j=>if j=x then none else ids j) _ S q' (h.adv hP ho he (pn (fun _=>rfl) (fun h=>by cases h)) (fun _ _ h=>h) h.hR (.refl _ _) (fun j hj=>aj hj) (fun id HF=>by rw[aB rfl]at HF;cases HF)) hq' hr
  |true=>
   have hr:cond (Nat.beq (Ec P o.op) 6) false (TT P ng cf R l e S o.op o.type fun v S'=>cond (P5 P ng (gU o.dst v l) e S' c) (sC P ng cf n R false e q' (gU o.dst v l) ds S' k) false)=true:=hr;have hr:TT P ng cf R l e S o.op o.type (fun v S'=>cond (P5 P ng (gU o.dst v l) e S' c) (sC P ng cf n R false e q' (gU o.dst v l) ds S' k) false)=true:=by
    cases hb6:Nat.beq (Ec P o.op) 6 with
    |false=>rw[hb6]at hr;exact hr
    |true=>rw[hb6]at hr;cases hr
   rw[NV (Rw (O:=O) (o:=o))]at hr;unfold TT at hr
   split at hr
   ·rename_i hk;obtain⟨v,Y,hr⟩:=dX hr;obtain⟨-,hr⟩:=ew hr;exact ih (pre++[x]) (fun j=>if j=x then none else ids j) _ S q' (h.adv hP ho he (pn (fun h=>by cases h) (fun _=> .inl ⟨hk,Y⟩)) (fun _ _ h=>h) h.hR (.refl _ _) (fun j hj=>aj hj) (fun id HF=>by rw[aB rfl]at HF;cases HF)) hq' hr
   ·rename_i hk;obtain⟨v,Y,hr⟩:=dX hr;obtain⟨-,hr⟩:=ew hr;exact ih (pre++[x]) (fun j=>if j=x then none else ids j) _ S q' (h.adv hP ho he (pn (fun h=>by cases h) (fun _=> .inr (.inl ⟨hk,Y⟩))) (fun _ _ h=>h) h.hR (.refl _ _) (fun j hj=>aj hj) (fun id HF=>by rw[aB rfl]at HF;cases HF)) hq' hr
   ·rename_i hk;simp[p5,hk]at he
   ·rename_i hk;obtain⟨⟨A,f⟩,Y,hr⟩:=dX hr;obtain⟨hl,hr⟩:=ew (show cond _ _ _=true from hr);obtain⟨-,hr⟩:=ew hr;have hl:S.n<2^HD:=show S.n<32768 by simpa using hl
    obtain⟨g1,g2⟩:=h.hR.abC (A:=A) hl;refine ih (pre++[x]) (fun j=>if j=x then some S.n else ids j) _ (S.add A) q' (h.adv hP ho he (pn (fun h=>by cases h) (fun _=> .inr (.inr ⟨hk,A,f,S.n,Y,rfl,aB rfl,h.gst.n,h.hR.fresh _ (fP _),?_⟩))) (Yx.add h.hR hl A) g1 g2 (fun j hj=>aj hj) (fun id HF=>?_)) hq' hr
    ·have:(S.add A).at S.n=if S.n=S.n then some A else S.at S.n:=St.AG hl hl
     rw[this,aB rfl]
    rw[aB rfl]at HF;cases HF;exact⟨rfl,by show S.n<S.n+1;omega⟩
   ·rename_i hk;simp[p5,hk]at he
   ·rename_i hk;simp[p5,hk]at he
   cases hr
def DI.all(hP:uL P O p)(h:DI P ng n O p e ds Ff S0 w0 pre post listed ids l S μ w a)(hr:Region.ready .any O listed=[]):∀j∈p,listed.getD j false=true:=by
 have hs:∀(m:Nat) (A:List Nat) (x:Nat) (B:List Nat),p=A++x::B->A.length=m->listed.getD x false=true:=by
  intro m
  induction m using Nat.strongRecOn with
  |_ m ih=>
   intro A x B hp hm;have Md:x<O.size:=(hP.mem x).1 (by rw[hp];simp);refine vC fun hl=>?_
   have fR:x<listed.size:=by rw[h.cl.size];exact Md
   have hl':listed.getD x true=false:=by
    simp only[Array.getD,fR,dif_pos]at hl ⊢
    simpa using hl
   have hm':x∈Region.ready .any O listed:=mem_ready.2 ⟨hl',O[x],Hx Md,fun y hy hb=>by
    have Z:Wz O x y.on:=(Wy (Hx Md)).2 ⟨y,hy,hb, .inl rfl⟩;have hA:=(hP.wait A x B hp).1 _ Z;obtain⟨A1,A2,rfl⟩:=O4 hA;exact ih A1.length (by simp at hm;omega) A1 y.on (A2++x::B) (by rw[hp];simp) rfl⟩
   rw[hr]at hm';cases hm'
 intro j hj;obtain⟨A,B,hAB⟩:=O4 hj;exact hs _ A j B hAB rfl
def DI.run(hQ:E' P ng R)(hC:tQ P cf)(hP:uL P O p)(Pw:∀(j:Nat) (o:aP),O[j]?=some o->Ec P o.op=1->∃d,o.dst=some d)(hk:∀eT S' w' l' a',wx Ff S0 w0 eT S' w'->RH ng eT S' w'->FR eT n (l'++e) ds a'->k l' ds S'=true->Q .normal a' w'):∀(fuel:Nat) (todo pre post:List Nat) (listed:Array Bool) (ids:Nat->Option Nat) (l:cX) (S:St) (μ:Mu) (w:ae) (a:Act) (q:List En),
  DI P ng n O p e ds Ff S0 w0 pre post listed ids l S μ w a->PA P O (p4 O) pre post=some q->sC P ng cf n R false e q l ds S k=true->todo.length<=fuel->(∀j,j<O.size->listed.getD j false=false->j∈todo)->wpAnyIn (Fw ro) 0 P .any O Q fuel listed a w:=by
 have fin:∀(pre post:List Nat) (listed:Array Bool) (ids:Nat->Option Nat) (l:cX) (S:St) (μ:Mu) (w:ae) (a:Act) (q:List En),
   DI P ng n O p e ds Ff S0 w0 pre post listed ids l S μ w a->PA P O (p4 O) pre post=some q->sC P ng cf n R false e q l ds S k=true->(∀j∈p,listed.getD j false=true)->Q .normal a w:=by
  intro pre post listed ids l S μ w a q h hq hr jg;cases post with
  |cons x r=>
   have E:=h.Xs x (jg x (by rw[h.hp];simp));exact aS E (hP.out h.hp)
  |nil=>
   cases(show some []=some q from hq);refine hk μ S w l a ⟨h.ext,h.gst,h.Yk⟩ h.hR ⟨h.size,fun t v hv=>h.qQ t v hv fun j hj pU=>?_,h.defers⟩ hr;rw[jg j (by rw[h.hp];simpa using hj)]at pU;cases pU
 intro fuel
 induction fuel with
 |zero=>
  intro todo pre post listed ids l S μ w a q h hq hr ht hto;have ag8:todo=[]:=List.length_eq_zero_iff.1 (Nat.le_zero.1 ht);subst ag8;have jg:∀j∈p,listed.getD j false=true:=fun j hj=>by
   cases hl:listed.getD j false with
   |true=>rfl
   |false=>have:=hto j ((hP.mem j).1 hj) hl;cases this
  refine⟨?_,fin pre post listed ids l S μ w a q h hq hr jg⟩;cases sA:Region.ready .any O listed with
  |nil=>rfl
  |cons i r=>
   have hi:i∈Region.ready .any O listed:=by rw[sA];exact kf ..
   obtain⟨Y,o,ho,_⟩:=mem_ready.1 hi;have:=jg i ((hP.mem i).2 (mV.1 ho).1);rw[unl Y]at this;cases this
 |succ fuel ih=>
  intro todo pre post listed ids l S μ w a q h hq hr ht hto;refine⟨fun sA=>fin pre post listed ids l S μ w a q h hq hr (h.all hP sA),fun i hi=>?_⟩;obtain⟨TN,JA,ids',l',S',q',h',hq',CX,Pv⟩:=h.age hP post pre ids l S q hq hr;have Ps:listed.getD i false=false:=unl (mem_ready.1 hi).1;obtain⟨_,oi,XU,_⟩:=mem_ready.1 hi;have wz:i<O.size:=(mV.1 XU).1;have VP:i∈todo:=hto i wz Ps;have ht':(todo.erase i).length<=fuel:=by rw[acp VP];omega
  have agX:∀j,j<O.size->(listed.setIfInBounds i true).getD j false=false->j∈todo.erase i:=fun j hj pU=>by
   have ux:i≠j:=fun e=>by subst e;rw[FX (by rw[h.cl.size];exact wz)]at pU;cases pU
   rw[getD_set_ne false ux]at pU;exact(ZO (fun e=>ux e.symm)).2 (hto j hj pU)
  have YJ:i∈TN++JA:=by rw[<-h'.hp];exact(hP.mem i).2 wz
  rcases eZ.1 YJ with YJ|YJ
  ·exact h'.WN hP hi YJ fun Nv w2 a2 J=>ih (todo.erase i) TN JA _ ids' l' S' Nv w2 a2 q' J hq' CX ht' agX
  rcases Pv with rfl|⟨x,r,o,rfl,ho,he⟩
  ·cases YJ
  have hix:i=x:=by
   rcases cE.1 YJ with Y|Y
   ·exact Y
   obtain⟨A,B,rfl⟩:=O4 Y;have Z:=(hP.wait (TN++x::A) i B (by rw[h'.hp];simp)).2 x sM o ho he;have:=h'.Xs x (GH h'.cl hi Z);exact aS this (hP.out h'.hp)
  subst hix;obtain⟨o',g,c,q2,Oc,hg,rfl,Qj,hc⟩:=Oj hq';have:o'=o:=Option.some.inj (Oc.symm.trans ho);subst this;exact h'.Zj hQ hC hP Pw hi ho he hg (hc he) CX fun l2 S2 Nv w2 a2 J hr2=>ih (todo.erase i) (TN++[i]) r _ ids' l2 S2 Nv w2 a2 q2 J Qj hr2 ht' agX
def acb(hm:P.follows .mixedOrders=true)(hQ:E' P ng R)(hC:tQ P cf){id:Nat}(hp:Vq P O=some q)(h:sC P ng cf n R false e q [] ds S k=true)(hR:RH ng μ S w)(hF:FR μ n e ds a)(hk:∀eT S' w' l' a',wx μ S w eT S' w'->RH ng eT S' w'->FR eT n (l'++e) ds a'->k l' ds S'=true->Q .normal a' w'):(Code.region id O true).wpIn (Fw ro) 0 P Q a w:=by
 refine wpIn_region_any hm ?_;unfold Vq at hp;simp only at hp
 split at hp
 ·rename_i hc;simp only[gG]at hc;obtain⟨⟨⟨Y,J⟩,h3⟩,h4⟩:=hc;obtain⟨p,hpd⟩:∃p,Z2 P O (p4 O) ((afV P O).foldl (fun s i=>Nat.lor s (2^i)) 0) (afV P O) 0=p:=⟨_,rfl⟩;rw[hpd]at hp Y J
  have hP:=afd (P:=P) (TK Y) J h3;have Pw:∀(j:Nat) (o:aP),O[j]?=some o->Ec P o.op=1->∃d,o.dst=some d:=fun j o ho IN=>by
   have:=w5.1 h4 o (by simpa using Array.mem_of_getElem? ho);rw[IN]at this;cases hd:o.dst with
   |none=>rw[hd]at this;cases this
   |some d=>exact⟨d,rfl⟩
  have hDI:DI P ng n O p e ds μ S w [] p (Array.replicate O.size false) (fun _=>none) [] S μ {w with drawn:=w.drawn+1} a:=by
   have ag1:∀j,(Array.replicate O.size false).getD j false=false:=fun j=>by
    rcases oA j O.size with h'|h'
    ·simp[h']
    simp[FC (show(Array.replicate O.size false).size<=j by simpa using h')]
   exact⟨rfl,⟨by simp,fun j o ho hl=>(by rw[ag1]at hl;cases hl)⟩,fun j hj=>(by rw[ag1]at hj;cases hj),hR.drawn _,hF.size,hF.defers,fun t v hv _=>hF.qQ t v hv,fun j hj=>(by cases hj),fun j id hj=>(by cases hj),fun i j id hj=>(by cases hj),(AR.refl μ w).drawn _, .refl _ _,⟨fun _ _ _ _ h _=>⟨h,rfl⟩⟩⟩
  exact DI.run hQ hC hP Pw hk O.size (List.range O.size) [] p _ _ [] S μ _ a q hDI hp h sM fun j hj _=>sr.2 hj
 cases hp
def KU(U:Nat)(e:cX):Prop:=∀t v,gT t e=some v->jj U t=true
def KU.nil(U:Nat):KU U []:=fun t v h=>by cases(show none=some v from h)
def VY(U:Nat)(x:Nat×C)(l e:cX):fl U (x::l) e=if jj U x.1=true then x::fl U l e else fl U l e:=by
 show(Bool.rec (fl U l e) (x::fl U l e) (jj U x.1):cX)=_
 cases jj U x.1<;>rfl
def KU.fl{U:Nat}{e:cX}(h:KU U e):∀l:cX,KU U (fl U l e)
 |[]=>h
 |x::l=>by
  rw[VY];split
  ·rename_i E;intro t v hv;rw[lS]at hv;split at hv
   ·rename_i e1;rw[<-e1];exact E
   exact KU.fl h l t v hv
  exact KU.fl h l
def Py{U:Nat}{e:cX}(h:KU U e):∀(l:cX) (t:Nat) (v:C),gT t (fl U l e)=some v->gT t (l++e)=some v
 |[],_,_,hv=>hv
 |x::l,t,v,hv=>by
  have hk:=h.fl (x::l) t v hv;rw[VY]at hv;rw[nI,lS];split at hv
  ·rw[lS]at hv;split
   ·rename_i e1;rw[aB e1]at hv;exact hv
   rename_i e1;rw[aj e1]at hv;exact Py h l t v hv
  rename_i E;rw[aj (fun e1=>by rw[e1]at E;exact E hk)];exact Py h l t v hv
def adi(U:Nat)(x:Nat×C)(e:cX)(s:Nat):dd U (x::e) s=if(jj U x.1&&!(jj s x.1))=true then x::dd U e (Nat.lor s (2^x.1))else dd U e s:=by
 have hb:jj (Nat.xor U (Nat.land U s)) x.1=(jj U x.1&&!(jj s x.1)):=by
  rw[uI,uI,uI]
  show(U^^^(U&&&s)).testBit x.1=_
  rw[Nat.testBit_xor,Nat.testBit_and];cases U.testBit x.1<;>cases s.testBit x.1<;>rfl
 rw[<-hb]
 show(Bool.rec (dd U e s) (x::dd U e (Nat.lor s (2^x.1))) (jj (Nat.xor U (Nat.land U s)) x.1):cX)=_
 cases jj (Nat.xor U (Nat.land U s)) x.1<;>rfl
def VV{U:Nat}:∀(e:cX) (s t:Nat) (v:C),gT t (dd U e s)=some v->gT t e=some v/\jj U t=true/\jj s t=false
 |[],_,t,v,h=>by cases(show none=some v from h)
 |x::e,s,t,v,h=>by
  rw[adi]at h;rw[lS];split at h
  ·rename_i E;simp only[gG,TE]at E;rw[lS]at h
   split
   ·rename_i e1;rw[aB e1]at h;rw[<-e1];exact⟨h,E⟩
   rename_i e1;rw[aj e1]at h;obtain⟨Y,J,h3⟩:=VV e _ t v h;rw[xN,Bool.or_eq_false_iff]at h3
   exact⟨Y,J,h3.1⟩
  rename_i E;obtain⟨Y,J,h3⟩:=VV e s t v h;rw[aj (fun e1=>E (by rw[e1,J,h3];rfl))];exact⟨Y,J,h3⟩
section
variable{U:Nat}{ro':Option Nat}
def Iy(ng n U:Nat)(μ:Mu)(S:St)(w:ae)(k:WE)(a':Act)(w':ae):Prop:=∃eT S' e' wE,wx μ S w eT S' w'/\RH ng eT S' w'/\FR eT n e' wE a'/\KU U e'/\k e' wE S'=true
def abH(ng n U:Nat)(μ:Mu)(S:St)(w:ae)(kn kr:WE)(kx:Nat->WE):Exit->Act->ae->Prop
 | .normal,a',w'=>Iy ng n U μ S w kn a' w'
 | .ret,a',w'=>Iy ng n U μ S w kr a' w'
 | .exit id,a',w'=>Iy ng n U μ S w (kx id) a' w'
 |_,_,_=>False
def Iy.from(hE:wx μ S w Fe S1 w1){k:WE}(h:Iy ng n U Fe S1 w1 k a' w'):Iy ng n U μ S w k a' w':=by
 obtain⟨eT,S',e',wE,Y,J⟩:=h;exact⟨eT,S',e',wE,hE.trans Y,J⟩
def abH.from(hE:wx μ S w Fe S1 w1){kn kr:WE}{kx:Nat->WE}{ex:Exit}(h:abH ng n U Fe S1 w1 kn kr kx ex a' w'):abH ng n U μ S w kn kr kx ex a' w':=by
 cases ex<;>first|exact Iy.from hE h|exact h
def abJ(P:au)(ng cf n U:Nat)(R:Nu)(ro ro':Option Nat)(c:Code):Prop:=∀{kn kr:WE} {kx:Nat->WE} {e:cX} {ds:List C} {S:St} {μ:Mu} {w:ae} {a:Act},EK P ng cf n U R ro c kn kr kx e ds S=true->RH ng μ S w->FR μ n e ds a->KU U e->c.wpIn (Fw ro') 0 P (abH ng n U μ S w kn kr kx) a w
def Zo{x:Code}(hQ:∀ex a w,Q ex a w->(∀l,ex≠ .goto l)/\(∀c,ex≠ .panic c)/\ex≠ .outgrown)(h:x.wpIn (Fw ro) 0 P Q a w):(Code.scope x).wpIn (Fw ro) 0 P Q a w:=fun b k cs Me hb hr=>by
 have h0:(lone (b.atR a (.code (.scope x)::k)) cs w).fenced P (Fw ro):=fenced_calm hb hr rfl;have s1:step P (lone (b.atR a (.code (.scope x)::k)) cs w)= .next (lone (b.atR a (.code x:: .inScope x::k)) cs w):=step_lone_go (by simp[stepG,stepG.exec,Frame.atR]);have s2:∀(a:Act) (w:ae),step P (lone (b.atR a (.inScope x::k)) cs w)= .next (lone (b.atR a k) cs w):=fun a w=>step_lone_go (by simp[stepG,stepG.exec,Frame.atR])
 obtain⟨ex,yP,vt,hq,tY⟩:=h b (.inScope x::k) cs Me hb hr;obtain⟨n1,n2,n3⟩:=hQ _ _ _ hq;cases ex with
 |normal=>exact⟨.normal,yP,vt,hq, .head h0 s1 (StepsIn.trans tY (.one (fenced_calm hb hr rfl) (s2 _ _)))⟩
 |exit id=>
  have E:exitTo id (.inScope x::k)=exitTo id k:=by simp[exitTo]
  exact⟨.exit id,yP,vt,hq,fun k' hk=> .head h0 s1 (tY.1 k' (by rw[E];exact hk)),fun hs hk=>let⟨k₁,Y,J⟩:=tY.2 hs (by rw[E];exact hk);⟨k₁,Y, .head h0 s1 J⟩⟩
 |goto l=>exact aS rfl (n1 l)
 |ret=>exact⟨.ret,yP,vt,hq,ArrivesIn.of_steps (e:= .ret) (.one h0 s1) tY⟩
 |panic ch=>exact aS rfl (n2 ch)
 |outgrown=>exact aS rfl n3
def Zz(hQ:E' P ng R)(Me:ro=none->ro'=none){g:aM}{ps:Array Tmp}{DA body:Code}:abJ P ng cf n U R ro ro' (.rangeFunc g ps DA body):=by
 intro kn kr kx e ds S μ w a h hR hF hU;replace h:=dX (show oK (lu ng [] e g) _=true from h);obtain⟨v,hv,h⟩:=h;have Qo:=dT hR (l:=[]) hF hv;split at h
 ·rename_i f ca cb;replace h:=ew h;obtain⟨hc,h⟩:=h;simp only[gG,tS,Array.isEmpty_iff]at hc;obtain⟨hc,rfl⟩:=hc;cases ro with
  |some i=>cases h
  |none=>
   have aik:=Me rfl;subst aik;obtain⟨Yq,S8,hge,HG,S4⟩:=Qo.VW;cases HG;replace h:R (.call f (.func (.yield (Nat.succ S.n)) #[] #[]::SD cb)) ((S.add (.Hg true)).add (.loop e n ps.toList DA body S.n .ready none)) _=true:=h;obtain⟨ff,hf1,hf2,hf3⟩:=hQ.some (.inl h);refine wpIn_rangeFunc (F:=Fw none) ?_;intro fn _;have hl1:S.n<2^HD:=show S.n<32768 by omega
   obtain⟨r1,r2⟩:=hR.add (A:= .Hg true) (o:= .deferred (some [])) hl1 .afX;have hn1:(S.add (.Hg true)).n=S.n+1:=rfl;obtain⟨W1,hW1⟩:∃W1:ae,W1={w with heap:=w.heap.push (.deferred (some []))}:=⟨_,rfl⟩;rw[<-hW1]at r1 r2;have VN:W1.heap.size=w.heap.size+1:=by rw[hW1];simp
   have hD:mh μ S.n (w.heap.size,wO (.deferred (some []))) S.n=some (w.heap.size,wO (.deferred (some []))):=mg _ _ _;obtain⟨Fe,ah7⟩:∃Fe,Fe=mh μ S.n (w.heap.size,wO (.deferred (some []))):=⟨_,rfl⟩;rw[<-ah7]at r1 r2 hD;obtain⟨rec,xl⟩:∃rec:Obj,rec= .loop {state:= .ready,pending:=none,fn:=fn,tmps:=a.tmps,params:=ps.toList.toArray,assign:=DA,body:=body,defers:=w.heap.size}:=⟨_,rfl⟩;have hOR:OR Fe (.loop e n ps.toList DA body S.n .ready none) rec:=by
    rw[xl];exact .loop hF.size (fun t v hv=>(hF.qQ t v hv).mono r2.W.mono) hD
   obtain⟨r3,r4⟩:=r1.add (A:= .loop e n ps.toList DA body S.n .ready none) (o:=rec) (by rw[hn1];show S.n+1<32768;omega) hOR;rw[hn1,VN]at r3 r4;obtain⟨W2,hW2⟩:∃W2:ae,W2={W1 with heap:=W1.heap.push rec}:=⟨_,rfl⟩;rw[<-hW2]at r3 r4
   obtain⟨Nv,agT⟩:∃Nv,Nv=mh Fe (S.n+1) (w.heap.size+1,wO rec):=⟨_,rfl⟩;rw[<-agT]at r3 r4;have hyb:Nv (S.n+1)=some (w.heap.size+1,wO rec):=by rw[agT];exact mg _ _ _
   refine⟨w.heap.size+1,[{target:= .collected w.heap.size,args:=#[]}],W2,{target:= .fn (.func f) S8.toArray,args:=#[.func (.yield (w.heap.size+1)) #[] #[]]},W2,f,
    (.func (.yield (w.heap.size+1)) #[] #[]::S8).toArray,W2,?_,?_,fun _ _=>trivial,?_,(fun hd=>by cases hd),?_⟩
   ·rw[hW2,hW1,xl];exact run_enterLoop_outer _ _ _ _ _
   ·simp only[resolve,rangeCall,hge];simp[Deferred.ofValue,Act.eval]
   ·simp only[invoke,callFunc,al,aG,ah,program,Sem.run,hf1,hf2,hf3];simp
   have HG:=hQ.call h r3 (.cons (.yield hyb) ((S4.mono r2.W.mono).mono r4.W.mono));refine Calls.fw (Calls.mono HG fun en kY ⟨u,hu,hR3⟩=>?_) none _;subst hu;obtain⟨μ3,S3,u',q1,q2,q3,q4⟩:=hR3;obtain⟨A,hA,q4⟩:=dX q4;have hb3:μ3 (S.n+1)=some (w.heap.size+1,wO rec):=q1.W.mono _ _ hyb;obtain⟨o,g1,g2,g3⟩:=q2.live _ _ A hb3 hA
   show∃jump qP,_
   split at q4
   ·rename_i e1 n1 ps1 a1 b1 D1 st pe;cases g2 with
    |@loop _ _ _ _ _ _ bb _ _ VX aek hs he hb=>
    have Mw:∀(OP:LoopState),RH ng μ3 (S3.set (S.n+1) (.loop e1 n1 ps1 a1 b1 D1 OP pe)) _/\wx μ3 S3 kY μ3 (S3.set (S.n+1) (.loop e1 n1 ps1 a1 b1 D1 OP pe)) _:=fun OP=>q2.set (o:= .loop {state:=OP,pending:=pe,fn:=VX,tmps:=aek,params:=ps1.toArray,assign:=a1,body:=b1,defers:=bb.1}) hb3 hA (.loop hs he hb) g3
    obtain⟨k1,k2⟩:=Mw .exhausted;have aaZ:=((r2.trans r4).trans q1).trans k2;have lU:st≠ .busy->(Instr.endLoop (w.heap.size+1)).run P kY= .ok pe {kY with heap:=kY.heap.setIfInBounds (w.heap.size+1) (.loop {state:= .exhausted,pending:=pe,fn:=VX,tmps:=aek,params:=ps1.toArray,assign:=a1,body:=b1,defers:=bb.1})}:=fun jQ=>run_endLoop (P:=P) g1 jQ
    have hFR:FR μ3 n e (.pointer (some ⟨S.n,0,none⟩)::ds) {a with defers:=[{target:= .collected w.heap.size,args:=#[]}]++a.defers}:=by
     refine⟨hF.size,fun t v hv=>(hF.qQ t v hv).mono aaZ.W.mono,?_⟩;obtain⟨rs,Y,J⟩:=hF.defers;refine⟨.pointer (some ⟨w.heap.size,0,none⟩)::rs, .cons (.ptr (q1.W.mono _ _ (r4.W.mono _ _ hD))) (Y.mono aaZ.W.mono),by simp[Hg,J]⟩
    split at q4
    ·cases q4
    ·rename_i jQ;exact⟨_,_,lU (fun h=>by subst h;exact jQ rfl),_,_,_,_,aaZ,k1,hFR,hU,q4⟩
    ·rename_i jQ;exact⟨_,_,lU (fun h=>by subst h;exact jQ rfl),wpIn_ret ⟨_,_,_,_,aaZ,k1,hFR,hU,q4⟩⟩
    ·rename_i jQ;exact⟨_,_,lU (fun h=>by subst h;exact jQ rfl),wpIn_exit ⟨_,_,_,_,aaZ,k1,hFR,hU,q4⟩⟩
    cases q4
   cases q4
 cases h
def EJ(hm:P.follows .mixedOrders=true)(hQ:E' P ng R)(hC:tQ P cf)(Me:ro=none->ro'=none):∀c:Code,abJ P ng cf n U R ro ro' c:=by
 intro c
 induction c with
 |skip=>
  intro kn kr kx e ds S μ w a h hR hF hU;exact wpIn_skip ⟨μ,S,e,ds, .refl _ _ _,hR,hF,hU,h⟩
 |label l=>
  intro kn kr kx e ds S μ w a h hR hF hU;exact wpIn_label ⟨μ,S,e,ds, .refl _ _ _,hR,hF,hU,h⟩
 |goto l=>intro kn kr kx e ds S μ w a h hR hF hU;cases h
 |refuse s=>intro kn kr kx e ds S μ w a h hR hF hU;cases h
 |ret=>
  intro kn kr kx e ds S μ w a h hR hF hU;exact wpIn_ret ⟨μ,S,e,ds, .refl _ _ _,hR,hF,hU,h⟩
 |exit id=>
  intro kn kr kx e ds S μ w a h hR hF hU;exact wpIn_exit ⟨μ,S,e,ds, .refl _ _ _,hR,hF,hU,h⟩
 |scope b ih=>
  intro kn kr kx e ds S μ w a h hR hF hU;refine Zo (fun ex a w hq=>?_) (ih (show EK P ng cf n U R ro b kn kr kx e ds S=true from h) hR hF hU);cases ex<;>first|exact hq.elim|exact⟨fun _ h=>(by cases h),fun _ h=>(by cases h),fun h=>(by cases h)⟩
 |seq x y ihx ihy=>
  intro kn kr kx e ds S μ w a h hR hF hU;refine wpIn_seq (wpIn_mono (ihx (kn:=EK P ng cf n U R ro y kn kr kx) (kr:=kr) (kx:=kx) h hR hF hU) fun ex a w' hq=>?_);cases ex<;>simp only[Exit.then]<;>first|exact hq|skip
  obtain⟨eT,S',e',wE,Y,J,h3,h4,h5⟩:=hq;exact wpIn_mono (ihy h5 J h3 h4) fun ex a Cb hq=>hq.from Y
 |cond c x y ihx ihy=>
  intro kn kr kx e ds S μ w a h hR hF hU;replace h:=dX (show oK (lu ng [] e c) _=true from h);obtain⟨v,hv,h⟩:=h;have Qo:=dT hR (l:=[]) hF hv;split at h
  ·rename_i t;refine wpIn_cond (Qo.gk rfl) ?_;cases t with
   |true=>exact ihx h hR hF hU
   |false=>exact ihy h hR hF hU
  cases h
 |block id b ih=>
  intro kn kr kx e ds S μ w a h hR hF hU;have h:EK P ng cf n U R ro b kn kr (fun RC e ds S=>Bool.rec (kx RC e ds S) (kn e ds S) (Nat.beq RC id)) e ds S=true:=h;refine wpIn_block (wpIn_mono (ih h hR hF hU) fun ex a w' hq=>?_);cases ex<;>simp only[Exit.inBlock]<;>first|exact hq|skip
  rename_i RC;obtain⟨eT,S',e',wE,Y,J,h3,h4,h5⟩:=hq;split
  ·rename_i HF;subst HF;replace h5:Bool.rec (kx RC e' wE S') (kn e' wE S') (Nat.beq RC RC)=true:=h5;rw[Ty]at h5;exact⟨eT,S',e',wE,Y,J,h3,h4,h5⟩
  rename_i HF;replace h5:Bool.rec (kx RC e' wE S') (kn e' wE S') (Nat.beq RC id)=true:=h5;rw[qx HF]at h5;exact⟨eT,S',e',wE,Y,J,h3,h4,h5⟩
 |loop b ih=>
  intro kn kr kx e ds S μ w a h hR hF hU;obtain⟨G,hG⟩:∃G:Nat->WE,G=fun m=>Nat.rec (fun _ _ _=>false) (fun _ go e ds S=>EK P ng cf n U R ro b (fun e' wE S'=>go (dd U e' 0) wE S') kr kx e ds S) m:=⟨_,rfl⟩
  have h:G JO e ds S=true:=by rw[hG];exact h
  refine Fm (fun m a' w'=>Iy ng n U μ S w (G m) a' w') (m:=JO) ⟨μ,S,e,ds, .refl _ _ _,hR,hF,hU,h⟩ fun m a' w' hI=>?_
  obtain⟨eT,S',e',wE,Y,J,h3,h4,h5⟩:=hI;cases m with
  |zero=>rw[hG]at h5;cases h5
  |succ m=>
   have h5:EK P ng cf n U R ro b (fun e' wE S'=>G m (dd U e' 0) wE S') kr kx e' wE S'=true:=by rw[hG]at h5 ⊢;exact h5
   refine wpIn_mono (ih h5 J h3 h4) fun ex a'' Cb hq=>?_
   cases ex<;>simp only[Exit.then]<;>first|exact hq.from Y|exact Iy.from Y hq|exact hq|skip
   obtain⟨Nv,S2,e2,ds2,k1,k2,k3,k4,k5⟩:=hq;exact⟨m,Nat.lt_succ_self _,Nv,S2,_,ds2,Y.trans k1,k2,k3.sub fun t v hv=>(VV e2 0 t v hv).1,fun t v hv=>(VV e2 0 t v hv).2.1,k5⟩
 |rangeFunc g ps DA body _ _=>exact Zz hQ Me
 |region id O dr=>
  intro kn kr kx e ds S μ w a h hR hF hU;replace h:=dX (show oK (cond dr (Vq P O) (ZY O)) _=true from h);obtain⟨q,hq,h⟩:=h;have hk:∀eT S' w' l' wE a',wx μ S w eT S' w'->RH ng eT S' w'->FR eT n (l'++e) wE a'->kn (fl U l' e) wE S'=true->abH ng n U μ S w kn kr kx .normal a' w':=fun eT S' w' l' wE a' Y J h3 h4=>
   ⟨eT,S',_,wE,Y,J,h3.sub (fun t v hv=>Py hU l' t v hv),hU.fl l',h4⟩
  cases dr with
  |false=>exact aca hQ hC (df:=ro.isNone) (fun h=>Me (by cases ro with|none=>rfl|some i=>cases h)) hq h hR hF hk
  |true=>exact acb hm hQ hC hq h hR hF fun eT S' w' l' a'=>hk eT S' w' l' ds a'
end
section
variable{U:Nat}{k:C->St->Bool}
def pO.from(hE:wx μ S w Fe S1 w1)(h:pO ng Fe S1 w1 k r w'):pO ng μ S w k r w':=by
 obtain⟨eT,S',v,Y,J⟩:=h;exact⟨eT,S',v,hE.trans Y,J⟩
def Vl(hR:RH ng μ S w)(hs:SH μ e a.tmps):∀{rs:List ResultVar} {vs:List C},Zv P e S rs=some vs->∃us,(rs.mapM (w4 a)).run P w= .ok us w/\iX μ vs us
 |[],vs,h=>by cases(show some []=some vs from h);exact⟨[],rfl, .nil⟩
 |r::rs,vs,h=>by
  replace h:=aI (show ob (match r with
   | .tmp t=>gT t e
   | .cell t ty=>ob (gT t e) (G1 P ty S)) _=some vs from h);obtain⟨v,Y,h⟩:=h
  replace h:=aI h;obtain⟨vs',J,h⟩:=h;cases h;obtain⟨us,g1,g2⟩:=Vl hR hs J;have key:∃u,(w4 a r).run P w= .ok u w/\VR μ v u:=by
   cases r with
   |tmp t=>exact⟨_,rfl,hs t v Y⟩
   |cell t ty=>
    replace Y:=aI Y;obtain⟨x,Y,h3⟩:=Y;have E:=hs t x Y;obtain⟨u,h4,h5⟩:=Rm (P:=P) hR h3 E;refine⟨u,?_,h5⟩;simp only[w4]
    generalize a.tmps.getD t undef=r at h4 E
    simp only[Instr.loadAt]at h4;have:(asAddr r).run P w=(Instr.sureAddr r).run P w\/∀q,(Instr.sureAddr r).run P w≠ .ok q w:=by
     cases r<;>first|exact .inr (fun q h=>by cases h)|(rename_i p;cases p<;>first|exact .inl rfl|exact .inr (fun q h=>by cases h))
    rcases this with h6|h6
    ·rw[al,h6,<-al];exact h4
    rw[al]at h4;cases hq:(Instr.sureAddr r).run P w with
    |ok q w'=>
     have:w'=w:=by
      cases r<;>first|cases hq|(rename_i p;cases p<;>first|(cases hq;rfl)|cases hq)
     subst this;exact aS hq (h6 q)
    |halt x w'=>rw[hq]at h4;cases h4
  obtain⟨u,g3,g4⟩:=key;exact⟨u::us,by simp[g3,g1], .cons g4 g2⟩
def abX{us:List C}(h:iX μ vs us):VR μ (ae3 vs) (if h:us.toArray.size=1 then us.toArray[0]else .tuple us.toArray):=by
 cases h with
 |nil=>exact .tuple .nil
 |cons Y J=>
  cases J with
  |nil=>exact Y
  |cons J h3=>
   rw[dif_neg sM];exact .tuple (.cons Y (.cons J h3))
def Jl(hR:RH ng μ S w)(hs:SH μ e a.tmps)(h:Zv P e S fn.results.toList=some vs):∃u,(results fn a.tmps).run P w= .ok u w/\VR μ (ae3 vs) u:=by
 obtain⟨us,Y,J⟩:=Vl (a:=a) hR hs h;refine⟨_,?_,abX J⟩;have h3:results fn a.tmps=(do let vs<-fn.results.toList.toArray.mapM (w4 a);pure (if h:vs.size=1 then vs[0]else .tuple vs)):=by
  unfold results;rfl
 rw[h3];simp only[List.mapM_toArray,bind_map_left,al,Y,ah,aG]
def Xw(hQ:E' P ng R):∀(ds:List C) {rs:List C} {S:St} {μ:Mu} {w:ae} {e:cX},wx Ff S0 w0 μ S w->FL P R fn.results.toList k e ds S=true->RH ng μ S w->SH μ e a.tmps->iX μ ds rs→
  LeavesInM (Fw none) 0 P fn a.tmps (bU (pO ng Ff S0 w0 k)) (rs.map Hg) .returning w:=by
 intro ds
 induction ds with
 |nil=>
  intro rs S μ w e hE0 h hR hs hd;cases hd;replace h:=dX (show oK (Zv P e S fn.results.toList) _=true from h);obtain⟨vs,Y,h⟩:=h;obtain⟨u,J,h3⟩:=Jl (a:=a) hR hs Y;exact⟨u,J,u,rfl,μ,S,_,hE0,hR,h3,h⟩
 |cons d ds ih=>
  intro rs S μ w e hE0 h hR hs hd;cases hd with
  |@cons _ r _ rs' X2 hd2=>
  unfold FL at h
  dsimp only at h
  split at h
  ·rename_i D;replace h:=dX h;obtain⟨A,hA,h⟩:=h;split at h
   ·cases X2 with
    |flat hf=>simp[eG,gI]at hf
    |@ptr _ _ b hb=>
     obtain⟨o,g1,g2,g3⟩:=hR.live D b _ hb hA;cases g2;obtain⟨k1,k2⟩:=hR.set (B:= .Hg false) (o:= .deferred none) hb hA .afY g3;refine⟨by simp, .inl ⟨b.1,_,rfl,run_takeDeferred g1,?_⟩⟩;exact ih (hE0.trans k2) h k1 hs (hd2.mono k2.W.mono)
   cases h
  ·rename_i f ca cb;obtain⟨Yq,S8,hfe,HG,S4⟩:=X2.VW;subst hfe;obtain⟨ff,hf1,hf2,hf3⟩:=hQ.some (.inr h);have hc:=hQ.R8 h hR (HG.append S4);refine⟨by simp, .inr ⟨(fun hd=>by cases hd), .func f,S8.toArray,f,(Yq++S8).toArray,rfl,?_,fun _ _=>trivial,hc.1,fun c cs hm hr=>?_⟩⟩
   ·have tY:Yq.toArray++S8.toArray=(Yq++S8).toArray:=by simp
    simp only[Hg,invoke,callFunc,tY,al,aG,ah,program,Sem.run,hf1,hf2,hf3];simp
   obtain⟨en,u',w',fr,⟨hu,v,hv,hp⟩,hs',hk,hf,hg⟩:=hc.2 c cs hm (AZ none _);subst hv;subst hu;obtain⟨Fe,S1,v1,q1,q2,q3,q4⟩:=hp;exact⟨_,_,w',fr,ih (hE0.trans q1) q4 q2 (fun t v hv=>(hs t v hv).mono q1.W.mono) (hd2.mono q1.W.mono),hs',hk,hf,hg⟩
  cases h
def aa8{U:Nat}:∀(m i:Nat) (vs:List C) (e:cX) (t:Nat) (v:C),gT t (psU U (List.range' i m) vs e)=some v->(jj U t=true/\i<=t/\vs[t-i]?=some v)\/gT t e=some v
 |0,i,vs,e,t,v,h=>by cases vs<;>exact .inr h
 |m+1,i,[],e,t,v,h=> .inr h
 |m+1,i,u::vs,e,t,v,h=>by
  have h:gT t (psU U (List.range' (i+1) m) vs (cond (jj U i) ((i,u)::e) e))=some v:=h;rcases aa8 m (i+1) vs _ t v h with⟨h0,Y,J⟩|Y
  ·refine .inl ⟨h0,H,?_⟩;rw[show t-i=(t-(i+1))+1 by omega]
   simpa using J
  cases hb:jj U i with
  |false=>rw[hb]at Y;exact .inr Y
  |true=>
   rw[hb]at Y;replace Y:gT t ((i,u)::e)=some v:=Y;rw[lS]at Y
   split at Y
   ·rename_i e1;simp only at e1;subst e1;exact .inl ⟨hb,fP _,by simpa using Y⟩
   exact .inr Y
def L4{U:Nat}:∀(ps:List Nat) (vs:List C) (e:cX),KU U e->KU U (psU U ps vs e)
 |[],vs,e,h=>by cases vs<;>exact h
 |p::ps,[],e,h=>h
 |p::ps,v::vs,e,h=>by
  show KU U (psU U ps vs (cond (jj U p) ((p,v)::e) e))
  refine L4 ps vs _ ?_;cases hb:jj U p with
  |false=>exact h
  |true=>
   intro t u hu;have hu:gT t ((p,v)::e)=some u:=hu;rw[lS]at hu;split at hu
   ·rename_i e1;rw[<-e1];exact hb
   exact h t u hu
def abI{U:Nat}:∀(ps:List Nat) (vs rs:List C) (e:cX) (a:Act),FR μ n e ds a->KU U e->ps.all (Nat.blt · n)=true->ps.length=vs.length->iX μ vs rs→
  FR μ n (psU U ps vs e) ds {tmps:=(ps.zip rs).foldl (fun t (p,v)=>t.setIfInBounds p v) a.tmps,defers:=a.defers}
 |[],[],rs,e,a,h,_,_,_,hv=>by cases hv;exact h
 |p::ps,v::vs,_,e,a,h,hU,hb,hl, .cons (r:=r) hv xU=>by
  simp only[O1,gG]at hb;have hU':KU U (cond (jj U p) ((p,v)::e) e):=L4 [p] [v] e hU;have Y:FR μ n (cond (jj U p) ((p,v)::e) e) ds (a.put (some p) r):=by
   have J:=h.put (d:=p) (by simpa using hb.1) hv;refine J.sub fun t u hu=>?_
   have hk:=hU' t u hu;cases hbp:jj U p with
   |true=>rw[hbp]at hu;exact hu
   |false=>
    rw[hbp]at hu;rw[lS,aj (fun e1=>by simp only at e1;rw[e1,hk]at hbp;cases hbp)];exact hu
  exact abI ps vs _ _ (a.put (some p) r) Y hU' hb.2 (by simpa using hl) xU
 |[],_::_,_,_,_,_,_,_,hl,_=>by simp at hl
 |_::_,[],_,_,_,_,_,_,hl,_=>by simp at hl
def WD(hv:iX μ args rs)(hle:args.length<=n):FR μ n (psU U (List.range (uQ args)) args []) [] {tmps:=rs.toArray++Array.replicate (n-rs.toArray.size) undef,defers:=[]}:=by
 have hl:=hv.length;refine⟨by simp;omega,fun t v h=>?_,[], .nil,rfl⟩;rw[List.range_eq_range']at h;rcases aa8 _ 0 args [] t v h with⟨_,_,Y⟩|Y
 ·obtain⟨r,J,h3⟩:=hv.get (j:=t) Y;have fR:t<rs.length:=by
   rcases oA t rs.length with h'|h'
   ·exact h'
   rw[yi h']at J;cases J
  rw[Jz,ae9 (by simpa using fR)];have:rs.toArray[t]?=some r:=by simpa using J
  rw[this];exact h3
 cases(show none=some v from Y)
def ac5(hm:P.follows .mixedOrders=true)(hQ:E' P ng R)(hC:tQ P cf)(h:ME P ng cf R true f args S k=true)(hR:RH ng μ S w)(hv:iX μ args rs):aA P f rs.toArray w (bU (pO ng μ S w k)):=by
 unfold ME at h;replace h:=dX h;obtain⟨fn,hf,h⟩:=h;replace h:=dX h;obtain⟨c,hb,h⟩:=h;replace h:=ew h;obtain⟨hc,h⟩:=h;simp only[gG,CL]at hc
 have hle:args.length<=fn.ntmps:=by have:=hc.1;rw[qF]at this;exact this
 refine callsIn_wide (n:=0).1 (callsIn_of_wp_marks (F:=Fw none) hf hb trivial ?_);refine wpIn_mono (EJ hm hQ hC (ro':=none) (fun _=>rfl) c h hR (WD hv hle) (L4 _ _ _ (KU.nil _))) fun ex a w' hq=>?_
 have fin:∀{a:Act} {w':ae},Iy ng fn.ntmps (Nat.lor (Fp c) (upR fn.results.toList)) μ S w (fun e ds S=>cond (true||ds.isEmpty) (FL P R fn.results.toList k e ds S) false) a w'->LeavesInM (Fw none) 0 P fn a.tmps (bU (pO ng μ S w k)) a.defers .returning w':=fun{a w'} hq=>by
  obtain⟨eT,S',e',wE,Y,J,h3,h4,h5⟩:=hq;replace h5:=ew h5;obtain⟨-,h5⟩:=h5;obtain⟨rs',g1,g2⟩:=h3.defers;rw[g2];exact Xw (a:=a) hQ wE Y h5 J h3.qQ g1
 cases ex<;>simp only[bodyPostM]<;>first|exact hq.elim|exact fin hq|skip
 obtain⟨_,_,_,_,_,_,_,_,h5⟩:=hq;cases h5
def ac6(hm:P.follows .mixedOrders=true)(hQ:E' P ng R)(hC:tQ P cf)(h:ME P ng cf R false f args S k=true)(hR:RH ng μ S w)(hv:iX μ args rs):SM P f rs.toArray w (pO ng μ S w k):=by
 unfold ME at h;replace h:=dX h;obtain⟨fn,hf,h⟩:=h;replace h:=dX h;obtain⟨c,hb,h⟩:=h;replace h:=ew h;obtain⟨hc,h⟩:=h;simp only[gG,CL]at hc
 have hle:args.length<=fn.ntmps:=by have:=hc.1;rw[qF]at this;exact this
 refine CallsDIn.mono (callsDIn_of_wp (R:=bU (pO ng μ S w k)) (F:=Fw none) hf hb trivial ?_) fun e u' w' ⟨Y,J⟩=>⟨Y,J⟩
 refine wpIn_mono (EJ hm hQ hC (ro':=none) (fun _=>rfl) c h hR (WD hv hle) (L4 _ _ _ (KU.nil _))) fun ex a w' hq=>?_
 have fin:∀{a:Act} {w':ae},Iy ng fn.ntmps (Nat.lor (Fp c) (upR fn.results.toList)) μ S w (fun e ds S=>cond (false||ds.isEmpty) (FL P R fn.results.toList k e ds S) false) a w'->a.defers=[]/\∃v,(results fn a.tmps).run P w'= .ok v w'/\bU (pO ng μ S w k) (.returned v) w':=fun{a w'} hq=>by
  obtain⟨eT,S',e',wE,Y,J,h3,h4,h5⟩:=hq;replace h5:=ew h5;obtain⟨h6,h5⟩:=h5;have:wE=[]:=by simpa using h6
  subst this;obtain⟨rs',g1,g2⟩:=h3.defers;cases g1;replace h5:=dX (show oK (Zv P e' S' fn.results.toList) _=true from h5);obtain⟨vs,k1,k2⟩:=h5;obtain⟨u,k3,k4⟩:=Jl (a:=a) J h3.qQ k1;exact⟨g2,u,k3,u,rfl,eT,S',_,Y,J,k4,k2⟩
 cases ex<;>simp only[bodyPost]<;>first|exact hq.elim|exact fin hq|skip
 obtain⟨_,_,_,_,_,_,_,_,h5⟩:=hq;cases h5
end
section
variable{U:Nat}{k:C->St->Bool}
def ada(hR:RH ng μ S w){b:Nat×Nat}(hi:μ i=some b){j:Option Code}(h:Yg i S j k=true):∃w',(Instr.endRound b.1 j).run P w= .ok (.bool j.isNone) w'/\pO ng μ S w k (.bool j.isNone) w':=by
 unfold Yg at h;replace h:=dX h;obtain⟨ad,hC,h⟩:=h;split at h
 ·rename_i e n ps DA body D st pe;obtain⟨o,g1,g2,g3⟩:=hR.live i b _ hi hC;cases g2 with
  |@loop _ _ _ _ _ _ bb _ _ fn tmps hs he hb=>
   obtain⟨k1,k2⟩:=hR.set (B:= .loop e n ps DA body D (if j.isNone then .ready else .done) j) (o:= .loop {state:=if j.isNone then .ready else .done,pending:=j,fn:=fn,tmps:=tmps,params:=ps.toArray,assign:=DA,body:=body,defers:=bb.1}) hi hC (.loop hs he hb) g3;exact⟨_,run_endRound (P:=P) j g1,μ,_,_,k2,k1, .flat rfl,h⟩
 cases h
def WV(hm:P.follows .mixedOrders=true)(hQ:E' P ng R)(hC:tQ P cf){b:Nat×Nat}(h:OW P ng cf R i args S k=true)(hR:RH ng μ S w)(hi:μ i=some b)(hv:iX μ args rs):GG P b.1 rs w (pO ng μ S w k):=by
 unfold OW at h;replace h:=dX h;obtain⟨A,hA,h⟩:=h;split at h
 ·rename_i e n ps DA body D pe;replace h:=ew h;obtain⟨hc,h⟩:=h;simp only[gG]at hc;obtain⟨hl,oR⟩:=hc;have hl:ps.length=args.length:=by have:=TK hl;rw[qF,qF]at this;exact this
  obtain⟨o,g1,g2,g3⟩:=hR.live i b _ hi hA;cases g2 with
  |@loop _ _ _ _ _ _ bb _ _ fn tmps hs he hb=>
  have hlr:rs.length=ps.length:=by rw[hl,hv.length]
  refine⟨fn,_,DA,body,run_yield (P:=P) g1 (by simpa using hlr),?_⟩;refine roundIn_of_wpIn (F:=Fw none) trivial ?_;have hF0:FR μ n e [] {tmps:=tmps,defers:=[]}:=⟨hs,he,[], .nil,rfl⟩;have hF1:FR μ n (fl (Nat.lor (Fp DA) (Fp body)) e []) [] {tmps:=tmps,defers:=[]}:=hF0.sub fun t v hv=>by
   have:=Py (KU.nil _) e t v hv
   rwa [kF]at this
  have X6:=(KU.nil (Nat.lor (Fp DA) (Fp body))).fl e;have hF2:=abI ps args rs _ _ hF1 X6 oR hl hv;have Ke:((ps.toArray.zip rs.toArray).foldl (fun tmps x=>tmps.setIfInBounds x.1 x.2) tmps)=(ps.zip rs).foldl (fun t x=>t.setIfInBounds x.1 x.2) tmps:=by
   rw[<-ZJ,Array.toList_zip]
  show DA.wpIn (Fw (some b.1)) 0 P _ {tmps:=((ps.toArray.zip rs.toArray).foldl (fun tmps x=>tmps.setIfInBounds x.1 x.2) tmps),defers:=[]} w
  rw[Ke];refine wpIn_mono (EJ hm hQ hC (ro':=some b.1) (fun h=>by cases h) DA h hR hF2 (L4 _ _ _ X6)) fun ex a1 w1 hq=>?_
  cases ex<;>simp only[Exit.then]<;>first|exact hq.elim|skip
  case exit id=>obtain⟨_,_,_,_,_,_,_,_,h5⟩:=hq;cases h5
  case ret=>obtain⟨_,_,_,_,_,_,_,_,h5⟩:=hq;cases h5
  case normal=>
   obtain⟨Fe,S1,e1,ds1,Y,J,h3,h4,h5⟩:=hq;replace h5:=ew h5;obtain⟨h6,h5⟩:=h5;have:ds1=[]:=by simpa using h6
   subst this;replace h5:=dX h5;obtain⟨B,hB,h5⟩:=h5;split at h5
   ·rename_i e2 n2 ps2 abw SA D2 pe2;have hi1:=Y.W.mono _ _ hi;obtain⟨o1,j1,j2,j3⟩:=J.live i b _ hi1 hB;cases j2 with
    |@loop _ _ _ _ _ _ bb2 _ _ fn2 agK hs2 he2 vm=>
    obtain⟨k1,k2⟩:=J.set (B:= .loop e2 n2 ps2 abw SA D2 .busy pe2) (o:= .loop {state:= .busy,pending:=pe2,fn:=fn2,tmps:=agK,params:=ps2.toArray,assign:=abw,body:=SA,defers:=bb2.1}) hi1 hB (.loop hs2 he2 vm) j3;refine⟨_,run_beginRound (P:=P) j1 rfl,?_⟩;have X7:=Y.trans k2;refine wpIn_mono (EJ hm hQ hC (ro':=some b.1) (fun h=>by cases h) body h5 k1 (h3.mono k2.W.mono) h4) fun ex a2 w2 hq=>?_
    have fin:∀{j:Option Code} {kk:WE},(∀e ds S2,kk e ds S2=Yg i S2 j k)->Iy ng n (Nat.lor (Fp DA) (Fp body)) Fe (S1.set i (.loop e2 n2 ps2 abw SA D2 .busy pe2)) _ kk a2 w2->∃v w3,(Instr.endRound b.1 j).run P w2= .ok v w3/\bU (pO ng μ S w k) (.returned v) w3:=fun{j kk} Fg hq=>by
     obtain⟨μ3,S3,e3,ds3,q1,q2,q3,q4,q5⟩:=hq;rw[Fg]at q5;obtain⟨w3,z1,z2⟩:=ada (P:=P) q2 (q1.W.mono _ _ (k2.W.mono _ _ hi1)) q5;exact⟨_,w3,z1,_,rfl,z2.from (X7.trans q1)⟩
    cases ex<;>simp only[roundPost]<;>first|exact hq.elim|exact fin (fun _ _ _=>rfl) hq
   cases h5
 cases h
def ab6(hm:P.follows .mixedOrders=true)(hC:tQ P cf)(hN:∀(f:bN) (fn:Func),P.funcs[f]?=some fn->fn.body.isNone=false->(fn.name== "runtime.NumGoroutine")=false):∀fuel:Nat,E' P ng (runK P ng cf fuel):=by
 intro fuel
 induction fuel with
 |zero=>exact⟨fun h _ _=>(by cases h),fun h _ _=>(by cases h),fun h _ _ _=>(by cases h),fun h=>(by rcases h with h|h<;>cases h)⟩
 |succ fuel ih=>
  refine⟨fun{f args S k μ w rs} h hR hv=>ac5 hm ih hC (show ME P ng cf (runK P ng cf fuel) true f args S k=true from h) hR hv,fun{f args S k μ w rs} h hR hv=>ac6 hm ih hC (show ME P ng cf (runK P ng cf fuel) false f args S k=true from h) hR hv,
   fun{i args S k μ w rs b} h hR hi hv=>WV hm ih hC (show OW P ng cf (runK P ng cf fuel) i args S k=true from h) hR hi hv,fun{f args S k} h=>?_⟩
  have h':∃t,ME P ng cf (runK P ng cf fuel) t f args S k=true:=by
   rcases h with h|h
   ·exact⟨true,h⟩
   exact⟨false,h⟩
  obtain⟨t,h⟩:=h';unfold ME at h;replace h:=dX h;obtain⟨fn,hf,h⟩:=h;replace h:=dX h;obtain⟨c,hb,h⟩:=h;have hn:fn.body.isNone=false:=by rw[hb];rfl
  exact⟨fn,hf,hN f fn hf hn,hn⟩
def Yp(hm:P.follows .mixedOrders=true)(hC:tQ P cf)(hN:∀(f:bN) (fn:Func),P.funcs[f]?=some fn->fn.body.isNone=false->(fn.name== "runtime.NumGoroutine")=false)(h:true=runK P ng cf fuel (.call f args) S k)(hR:RH ng μ S w)(hv:iX μ args rs):aA P f rs.toArray w (bU (pO ng μ S w k)):=(ab6 hm hC hN fuel).call h.symm hR hv
end
def TR.get_nil{α:Type}:∀(d i:Nat),TR.get d i (.nil:TR α)=none
 |0,_=>rfl
 |d+1,i=>by
  rw[TR.td];split<;>exact TR.get_nil d _
def ab3(hE:wx μ S w eT S' w')(hc:∀i b,μ i=some b->∃A,S.at i=some A/\zw A=true)(Z:aw G L w):aw G L w':=by
 obtain⟨Y,h,J,h3⟩:=Z;refine⟨by rw[hE.W.gh];exact Y,h,fun b o hb=>?_,h3⟩;have h4:=J b o hb;have fR:=(mV.1 h4).1
 by_cases E:∃i c,μ i=some c/\c.1=b
 ·obtain⟨i,c,hi,rfl⟩:=E;obtain⟨A,hA,hcA⟩:=hc i c hi;rw[(hE.ad.Yk i c A hi hA hcA).2];exact h4
 rw[hE.W.frame b fR fun i c hi S4=>E ⟨i,c,hi,S4⟩];exact h4
def aea(w:ae):Prop:=Rd w ⟨0,0,none⟩ [nQ,nQ, .bool true]
def ad8:St:=⟨TR.put HD 0 (.leaf (.row 1152921504606846976 3 2 (TR.ofL 2 [nQ,nQ, .bool true]))) .nil,1⟩
def WC:ad8.at 0=some (.row 1152921504606846976 3 2 (TR.ofL 2 [nQ,nQ, .bool true])):=by
 show TR.get HD 0 (TR.put HD 0 _ _)=_
 rw[TR.uz HD 0 0 _ _ dM dM,aB rfl];rfl
def agL(h:aea w):∃s,RH 1 (fun i=>if i=0 then some (0,s)else none) ad8 w:=by
 have hc:∀j v,[nQ,nQ, .bool true][j]?=some v->w.cell? ⟨0,j,none⟩=some v:=fun j v hv=>by
  have:=h j v hv;rwa [eK,mT]at this
 have h0:=hc 0 _ rfl;obtain⟨cs,t,fr,kB⟩:∃cs t fr,w.heap[0]?=some (.cells cs t fr):=by
  unfold World.cell? at h0;simp only at h0
  split at h0
  ·rename_i cs t fr hh;exact⟨_,_,_,hh⟩
  cases h0
 have aa2:∀j v,[nQ,nQ, .bool true][j]?=some v->cs[j]?=some v:=fun j v hv=>by
  have:=hc j v hv
  rwa [cell_of_row w 0 _ _ _ _ kB]at this
 have J:=aa2 2 _ rfl;have lH:3<=cs.size:=(mV.1 J).1;refine⟨cs.size,fun i hi=>aj (by have:1<=i:=hi;omega),fun i b A hi hA=>?_,fun i j b c A B hi hj _ _ _=>?_,fun i b hi=>?_,fun g hg=>⟨cs.size,(by obtain rfl:g=0:=Nat.lt_one_iff.1 hg;rfl)⟩,by show 1<=2^15;decide,fun i hi hl=>?_⟩
 ·split at hi
  ·rename_i e;subst e;cases hi;rw[WC]at hA;cases hA;refine⟨_,kB, .row dM lH (fun h=>by cases h) fun j v hj hv=>?_,rfl⟩
   match j,hj,hv with
   |0,_,hv=>cases hv;exact⟨_,aa2 0 _ rfl, .flat rfl⟩
   |1,_,hv=>cases hv;exact⟨_,aa2 1 _ rfl, .flat rfl⟩
   |2,_,hv=>cases hv;exact⟨_,J, .flat rfl⟩
  cases hi
 ·split at hi
  ·split at hj
   ·omega
   cases hj
  cases hi
 ·split at hi
  ·cases hi;exact(mV.1 kB).1
  cases hi
 have:1<=i:=hi
 show TR.get HD i (TR.put HD 0 _ _)=none
 rw[TR.uz HD 0 i _ _ dM hl,aj H];exact TR.get_nil _ _
def af1{cf:bN}(hm:P.follows .mixedOrders=true)(hC:tQ P cf)(hN:(P.funcs.all fun fn=>fn.body.isNone||!(fn.name== "runtime.NumGoroutine"))=true)(h:true=runK P 1 cf fuel (.call f []) ad8 (fun v _=>match v with| .bool b=>b|_=>false))(Z:aw G L w)(YE:aL L aea):aA P f #[] w (bU fun r w'=>r= .bool true/\aw G L w'):=by
 obtain⟨s,hR⟩:=agL (YE.at Z);have hN':∀(f:bN) (fn:Func),P.funcs[f]?=some fn->fn.body.isNone=false->(fn.name== "runtime.NumGoroutine")=false:=fun f fn hf hb=>by
  have:=afb.1 hN fn (Array.mem_of_getElem? hf);rw[hb]at this
  simpa using this
 refine Calls.mono (Yp hm hC hN' h hR .nil) fun en w' ⟨r,hr,eT,S',v,Y,J,h3,h4⟩=>⟨r,hr,?_,ab3 Y (fun i b hi=>?_) Z⟩
 ·cases v<;>first|(cases h4;done)|skip
  rename_i b;have h4:b=true:=h4;subst h4;exact h3.gk rfl
 split at hi
 ·rename_i e;subst e;exact⟨_,WC,rfl⟩
 cases hi
end
end Go.Proofs.YtjbkgbilbnccnaaGreatDoor.X
