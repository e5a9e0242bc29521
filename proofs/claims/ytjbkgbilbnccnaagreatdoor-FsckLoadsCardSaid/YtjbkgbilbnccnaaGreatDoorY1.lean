/- Part 1 of what the proof of this claim stands on: rules for walking the code, and what its functions answer; no conditions. -/
import Derived.Deep.Quiet
import Derived.Tactics
import Derived.OrdersIn
import Derived.RangeFuncRecord
import Derived.Scope
import Derived.WalkKit
import Derived.Test.YtjbkgbilbnccnaaGreatDoorRows
import Derived.Laws.IdiomCopy
import Derived.Lib.AppendZeros
import Derived.Laws.StructEq
import Derived.ChangeKeysEq
import Derived.OpenShut
import Derived.ReadAgain
import Derived.HandedShaped
import Derived.RecoverIn
import Derived.LaidEql
import Derived.Stop.Asserts
import Derived.RowKitTokens
import Derived.Shelf.SlIterI.Sorted
import Derived.Shelf.SortM.Plain
import Derived.Shelf.SortM.SortNone
import Derived.Test.YtjbkgbilbnccnaaGreatDoorTie
import Derived.Test.YtjbkgbilbnccnaaGreatDoorCards
import Derived.ProofKit
import Derived.LaidMore
import Derived.SevenTiedAt
namespace Go.Proofs.YtjbkgbilbnccnaaGreatDoor.X
open _root_.Go.Proofs.Tryz _root_.Go.Proofs.YtjbkgbilbnccnaaGreatDoor.Tryz
set_option linter.defProp false
noncomputable section
set_option linter.unusedVariables false
set_option linter.unusedSimpArgs false
set_option maxRecDepth 20000
set_option maxHeartbeats 8000000
variable{a:Act}{ax:Addr}{listed:Array Bool}{af:Array Edge}{op:BinOp}{dr q' want:Bool}{assign body:Code}{fn:Func}{lo:Int}{k' kd kh kl:IntKind}{vis:List Int}{S:List Nat}{cx d i it j k len m n z:Nat}{g:Option (Nat×Bool)}{q:Option Addr}{ro:Option Nat}{A B p:Prop}{r r':ResultVar}{α:Sort _}{D:TypeDesc}
abbrev pQ(b:Nat):Value:= .pointer (some ⟨b,0,none⟩)
abbrev sQ(b m c:Nat):Value:= .slice (some ⟨b,0,none⟩) m c
abbrev nQ:Value:= .slice none 0 0
abbrev I(x:Int):Value:= .int .i64 x
abbrev gQ(l:List Value):Value:= .agg l.toArray
def tV:True:=True.intro
def H(h:p:=by omega):p:=h
def kR(h:p:=by kernel_rfl):p:=h
def sM(h:p:=by simp):p:=h
def dM(h:p:=by decide):p:=h
def mL(h:p:=by simp only[maxLen];omega):p:=h
abbrev dG:=@List.getElem?_eq_getElem
abbrev cg:=@List.length_map
abbrev di:=@List.length_append
abbrev cZ:=@Int.toNat_natCast
abbrev dg:=@Decidable.not_not
abbrev dh:=@List.getElem?_map
abbrev cE:=@List.mem_cons
abbrev fK:=@List.mem_of_getElem?
abbrev de:=@Nat.zero_le
abbrev eZ:=@List.mem_append
abbrev ey:=@List.map_cons
abbrev dY:=@List.mem_map
abbrev gm:=@List.append_assoc
abbrev fQ:=@List.not_mem_nil
abbrev ma:=@List.getD_eq_getElem?_getD
abbrev gG:=@Bool.and_eq_true
abbrev mV:=@Array.getElem?_eq_some_iff
abbrev gJ:=@List.length_take
abbrev kH:=@List.take_of_length_le
abbrev kG:=@List.mem_cons_of_mem
abbrev jm:=@List.length_drop
abbrev kf:=@List.mem_cons_self
abbrev lT:=@List.mem_append_left
abbrev fP:=@Nat.le_refl
abbrev qj:=@List.getElem?_eq_some_iff
abbrev jX:=@List.map_append
abbrev kZ:=@List.length_cons
abbrev kF:=@List.append_nil
abbrev vD:=@List.eq_nil_of_length_eq_zero
abbrev lE:=@List.nil_append
abbrev nI:=@List.cons_append
abbrev vC:=@Decidable.byContradiction
abbrev Bz:=@Array.getElem?_setIfInBounds_ne
abbrev vB:=@List.drop_eq_nil_of_le
abbrev rE:=@List.take_add_one
abbrev l9:=@List.map_nil
abbrev qS:=@List.take_length
abbrev mT:=@Nat.zero_add
abbrev su:=@List.map_toArray
abbrev yi:=@List.getElem?_eq_none
abbrev oA:=@Nat.lt_or_ge
abbrev By:=@List.getElem?_cons_succ
abbrev sr:=@List.mem_range
abbrev w5:=@List.all_eq_true
abbrev Hx:=@Array.getElem?_eq_getElem
abbrev Jz:=@Array.getD_eq_getD_getElem?
abbrev FC:=@Array.getElem?_eq_none
abbrev FB:=@List.contains_iff_mem
abbrev Ms:=@List.drop_eq_getElem_cons
abbrev Bx:=@List.nodup_cons
abbrev Jy:=@List.length_singleton
abbrev Jw:=@List.mem_append_right
abbrev Jv:=@List.getElem?_toArray
abbrev Mr:=@List.getElem?_cons_zero
abbrev tS:=@Nat.blt_eq
abbrev Hw:=@List.mem_singleton
abbrev Mq:=@List.length_replicate
abbrev Mp:=@List.take_append_drop
abbrev DY:=@List.length_nil
abbrev FA:=@List.filter_cons
abbrev Hv:=@List.nodup_append
abbrev Mo:=@Int.ofNat_eq_natCast
abbrev DX:=@List.take_zero
abbrev zg:=@Nat.add_mul
abbrev Ju:=@List.ext_getElem?
abbrev Hu:=@List.length_set
abbrev Mn:=@List.filter_append
abbrev TM:=@List.getElem?_append_left
abbrev Mm:=@List.flatten_cons
abbrev QX:=@List.length_filter_le
abbrev Xe:=@List.dropLast_concat_getLast
abbrev DW:=@Int.add_zero
abbrev Jt:=@Bool.or_eq_true
abbrev Js:=@Option.map_some
abbrev Jq:=@Nat.min_eq_left
abbrev O4:=@List.append_of_mem
abbrev Fz:=@List.map_map
abbrev Xd:=@List.getElem?_append_right
abbrev DV:=@Nat.mul_one
abbrev TL:=@Nat.div_div_eq_div_mul
abbrev O3:=@List.getElem?_set
abbrev QW:=@List.map_congr_left
abbrev Ml:=@List.mem_filter
abbrev CL:=@Nat.ble_eq
abbrev TK:=@Nat.eq_of_beq_eq_true
abbrev O2:=@Array.toList_map
abbrev QV:=@List.getElem?_drop
abbrev Ht:=@Nat.le_trans
abbrev Hs:=@Nat.pow_succ
abbrev Xc:=@List.getElem?_replicate
abbrev TJ:=@Array.length_toList
abbrev TI:=@List.flatMap_append
abbrev TH:=@List.getElem?_range
abbrev ZT:=@Option.ne_none_iff_exists'
abbrev QU:=@List.getElem_mem
abbrev TG:=@Array.empty_append
abbrev TF:=@Option.toList_some
abbrev QT:=@List.foldl_cons
abbrev Xb:=@List.mem_of_mem_take
abbrev TE:=@Bool.not_eq_true'
abbrev O1:=@List.all_cons
abbrev acr:=@List.count_eq_zero_of_not_mem
abbrev Xa:=@List.take_succ_cons
abbrev W9:=@List.drop_succ_cons
abbrev TD:=@Option.getD_some
abbrev TC:=@List.mem_flatMap
abbrev ZS:=@Array.getElem?_push_lt
abbrev Jp:=@Nat.beq_eq
abbrev W8:=@List.getElem?_take
abbrev W7:=@Bool.false_eq_true
abbrev W6:=@Nat.lt_of_lt_of_le
abbrev TB:=@List.range_succ
abbrev ZR:=@Array.getElem?_modify
abbrev QS:=@List.sum_cons
abbrev W5:=@List.length_range
abbrev ZQ:=@Nat.mul_le_mul_right
abbrev acq:=@List.mem_of_find?_eq_some
abbrev ZP:=@List.replicate_succ'
abbrev ZO:=@List.mem_erase_of_ne
abbrev ZN:=@List.getElem?_of_mem
abbrev ZM:=@Nat.pow_le_pow_right
abbrev ZL:=@List.getElem?_modify
abbrev TA:=@List.drop_drop
abbrev Tz:=@List.nodup_nil
abbrev afb:=@Array.all_eq_true_iff_forall_mem
abbrev W4:=@Array.mem_filter
abbrev QR:=@List.map_set
abbrev acp:=@List.length_erase_of_mem
abbrev ZK:=@List.mem_filterMap
abbrev ZJ:=@Array.foldl_toList
abbrev ZI:=@Nat.lt_of_le_of_lt
abbrev ZH:=@Array.ext_getElem?
abbrev aco:=@List.filter_eq_nil_iff
abbrev afa:=@List.take_append_of_le_length
abbrev Ty:=@Nat.beq_refl
abbrev acn:=@List.modify_succ_cons
abbrev acm:=@Nat.le_of_ble_eq_true
abbrev ack:=@List.set_append_right
abbrev Tx:=@Nat.sub_self
abbrev W3:=@List.drop_zero
abbrev W0:=@Int.negSucc_eq
abbrev ZG:=@List.ext_getElem
abbrev ZF:=@List.drop_length
abbrev acj:=@List.count_le_length
abbrev ZE:=@Nat.mod_eq_of_lt
abbrev ZD:=@Array.mem_append
abbrev ae9:=@Array.getElem?_append_left
abbrev ae8:=@Int.tdiv_eq_ediv_of_nonneg
abbrev aci:=@List.reverse_append
abbrev ach:=@List.length_take_le
abbrev ZC:=@Bool.eq_iff_iff
abbrev acg:=@List.zip_cons_cons
abbrev acf:=@Array.append_empty
abbrev WY:=@Nat.add_zero
abbrev ZB:=@Bool.not_false
abbrev ZA:=@Bool.false_and
abbrev aj:=@if_neg
abbrev aB:=@if_pos
abbrev bI:=@decide_eq_decide
abbrev cN:=@decide_eq_false
abbrev eW:=@decide_eq_true
abbrev aU:=@congrArg
abbrev aS:=@absurd
abbrev C:=@Value
variable{captured first tmps:Array C}{u v v' v'' v0 va vb:C}{rs:List (List C)}{args cs cur ds l' news vs:List C}
abbrev ae:=@World
variable{K':Act->ae->Prop}{Q V:C->ae->Prop}{w w':ae}
abbrev au:=@Program
variable{P:au}
abbrev aC:=@TypeId
variable{as' ts:Array aC}{T c s t:aC}
abbrev aA:=@Calls
abbrev aM:=@Operand
variable{ps:Array (Nat×aM)}{xs:Array aM}{Si h' x y:aM}{ρ:aM->C}
abbrev aZ:=@MapEntry
variable{es:List aZ}
abbrev bN:=@FuncId
variable{f:bN}
abbrev aP:=@Oper
variable{O:Array aP}{o oi oq:aP}
abbrev aE:=@run_underlying
abbrev ah:=@Result.andThen_ok
abbrev al:=@Sem.run_bind
abbrev aG:=@Sem.run_pure
abbrev aW:=@World.cell?_alloc_lt
abbrev bO:=@World.frozen?_alloc_old
def bU(R:C->ae->Prop):Ending->ae->Prop:=fun e w=>∃v,e= .returned v/\R v w
def eQ(P:au):Op->Nat
 | .move _| .assign _| .pick ..| .fieldAddr ..| .field ..| .unOp ..| .extract ..| .nilCheck _| .slice ..| .indexAddr ..| .index ..
 | .makeInterface ..| .makeFunc ..| .build ..| .typeAssert ..=>0
 | .binOp op t x y _=>
  if op matches .eql| .neq then
   match P.underlying t with
   |some (.pointer _)|some (.interface _)=>if Region.isConst x||Region.isConst y then 0 else 1
   |_=>0
  else 0
 | .convert s d _=>match P.underlying s,P.underlying d with|some (.int _),some (.int _)=>0|some (.string),some (.string)=>0|_,_=>2
 | .load ..| .lookup ..| .entry _| .waits _=>1
 | .call {callee:= .builtin b,argTypes, ..}=>match b with
  | .len| .cap=>match(argTypes[0]?).bind P.underlying with|some (.map ..)|some (.chan ..)=>1|_=>0
  | .min| .max| .complex| .real| .imag=>0
  |_=>2
 |_=>2
def Fw(ro:Option Nat):Fence:={Fence.wide with round:=ro}
def AZ(ro:Option Nat)(m:Nat):(Fw ro).room m:=fun d hd=>by cases hd
def AM(P:au)(l:Nat)(f:bN)(tmps:Array C)(assign body:Code)(w:ae)(R:Ending->ae->Prop):Prop:=RoundIn (Fw none) 0 P l f tmps assign body w R
def AM.fw{l:Nat}{R:Ending->ae->Prop}(h:AM P l f tmps assign body w R)(ro:Option Nat)(n:Nat):RoundIn (Fw ro) n P l f tmps assign body w R:=
 ⟨trivial,fun c cs _=>h.2 c cs (AZ _ _)⟩
def Calls.fw{args:Array C}{R:Ending->ae->Prop}(h:aA P f args w R)(ro:Option Nat)(n:Nat):CallsIn (Fw ro) n P f args w R:=
 ⟨trivial,fun cs _=>(callsIn_wide (n:=0).2 h).2 cs (AZ none _)⟩
def AM.ex{l:Nat}(h:AM P l f tmps assign body w (bU V)):∃v w',V v w':=by
 obtain⟨e,w',⟨v,_,hv⟩,_⟩:=h.2 default [] (AZ none _);exact⟨_,_,hv⟩
section
variable{md:Region.Mode}
def mS(P:au)(s:Sem Next)(k:Nat)(w:ae)(V:C->ae->Prop):Prop:=
 match k with
 |0=>∃v,(∀w',s.run P w'= .ok (.value v) w')/\V v w
 |1=>∃v,s.run P w= .ok (.value v) w/\V v w
 |_=>match s.run P w with
  | .ok (.value v) w'=>V v w'
  | .ok .skip w'=>V undef w'
  | .ok (.enter f args) w'=>aA P f args w' (bU V)
  | .ok (.round l f tmps assign body) w'=>AM P l f tmps assign body w' (bU V)
  |_=>False
def jW{s:Sem Next}{V':C->ae->Prop}(h:∀v w',V v w'->V' v w')(hh:mS P s k w V):mS P s k w V':=by
 unfold mS at*
 match k with
 |0=>obtain⟨v,Y,J⟩:=hh;exact⟨v,Y,h _ _ J⟩
 |1=>obtain⟨v,Y,J⟩:=hh;exact⟨v,Y,h _ _ J⟩
 |k+2=>
  simp only at hh ⊢
  generalize s.run P w=r at*
  cases r with
  |ok n w'=>
   cases n<;>simp only at hh ⊢
   case value v=>exact h _ _ hh
   case skip=>exact h _ _ hh
   case enter f args=>exact hh.mono fun e Cb ⟨v,he,hv⟩=>⟨v,he,h _ _ hv⟩
   case round=>exact RoundIn.mono hh fun e Cb ⟨v,he,hv⟩=>⟨v,he,h _ _ hv⟩
  |halt x w'=>exact hh.elim
def Vi{s:Sem Next}(hh:mS P s k w V):∃v w',V v w':=by
 unfold mS at hh
 match k with
 |0=>obtain⟨v,_,J⟩:=hh;exact⟨_,_,J⟩
 |1=>obtain⟨v,_,J⟩:=hh;exact⟨_,_,J⟩
 |k+2=>
  simp only at hh
  generalize s.run P w=r at*
  cases r with
  |ok n w'=>
   cases n<;>simp only at hh
   case value v=>exact⟨_,_,hh⟩
   case skip=>exact⟨_,_,hh⟩
   case enter f args=>obtain⟨e,Cb,fr,⟨v,_,hv⟩,_⟩:=hh [];exact⟨_,_,hv⟩
   case round=>exact hh.ex
  |halt x w'=>exact hh.elim
def Ta(P:au)(O:Array aP)(o:aP)(K:Act->ae->Prop)(a:Act)(w:ae):Prop:=
 if Region.wanted o (yielded O a.tmps)then mS P (execOp a.eval o) (eQ P o.op) w (fun v w'=>K (a.put o.dst v) w')else K (a.put o.dst undef) w
def LY{K:Act->ae->Prop}(h:∀v w',K (a.put o.dst v) w'->K' (a.put o.dst v) w')(hh:Ta P O o K a w):Ta P O o K' a w:=by
 unfold Ta at*;split
 ·rename_i Z;rw[aB Z]at hh;exact jW (fun v w'=>h v w') hh
 rename_i Z;rw[aj Z]at hh;exact h _ _ hh
def agi{K:Act->ae->Prop}(hh:Ta P O o K a w):∃v w',K (a.put o.dst v) w':=by
 unfold Ta at hh;split at hh
 ·exact Vi hh
 exact⟨_,_,hh⟩
def yu(md:Region.Mode)(O:Array aP)(i:Nat):List Nat:=
 (List.range O.size).foldl (fun s j=>if s.contains j then s else match O[j]?with
  |some o=>if o.after.any (fun e=>Region.binds md e&&s.contains e.on)then j::s else s
  |none=>s) [i]
structure kU(md:Region.Mode)(O:Array aP)(listed:Array Bool):Prop where
 size:listed.size=O.size
 Vp:∀j o,O[j]?=some o->listed.getD j false=true->∀e∈o.after,Region.binds md e=true->listed.getD e.on false=true
def R7(i:Nat):∀j∈yu md O i,j=i\/∃o,O[j]?=some o/\∃e∈o.after,Region.binds md e=true/\e.on∈yu md O i∧
  ∀listed,kU md O listed->listed.getD i false=false->listed.getD e.on false=false:=by
 unfold yu
 suffices h:∀(l:List Nat) (s:List Nat),
   (∀j∈s,j=i\/∃o,O[j]?=some o/\∃e∈o.after,Region.binds md e=true/\e.on∈s/\∀listed,kU md O listed->listed.getD i false=false->listed.getD e.on false=false)→
   (∀j∈(l.foldl (fun s j=>if s.contains j then s else match O[j]?with
    |some o=>if o.after.any (fun e=>Region.binds md e&&s.contains e.on)then j::s else s
    |none=>s) s),j=i\/∃o,O[j]?=some o/\∃e∈o.after,Region.binds md e=true/\e.on∈(l.foldl (fun s j=>if s.contains j then s else match O[j]?with
    |some o=>if o.after.any (fun e=>Region.binds md e&&s.contains e.on)then j::s else s
    |none=>s) s)/\∀listed,kU md O listed->listed.getD i false=false->listed.getD e.on false=false) from
  h _ [i] sM
 intro l
 induction l with
 |nil=>intro s hs;exact hs
 |cons k l ih=>
  intro s hs;simp only[QT];refine ih _ ?_;split
  ·exact hs
  split
  ·rename_i o ho;split
   ·rename_i aiZ;obtain⟨e,he,hb⟩:=Array.any_eq_true'.1 aiZ;simp only[gG,FB]at hb;intro j hj;rcases cE.1 hj with rfl|hj
    ·refine .inr ⟨o,ho,e,he,hb.1,kG _ hb.2,fun listed hc hi=>?_⟩;rcases hs _ hb.2 with Y|⟨o',Oc,e',X1,S5,_,jg⟩
     ·rw[Y];exact hi
     cases hl:listed.getD e.on false with
     |false=>rfl
     |true=>have:=hc.Vp _ _ Oc hl e' X1 S5;rw[jg listed hc hi]at this;cases this
    rcases hs j hj with Y|⟨o',Oc,e',X1,S5,hm,jg⟩
    ·exact .inl Y
    exact .inr ⟨o',Oc,e',X1,S5,kG _ hm,jg⟩
   exact hs
  exact hs
def MM(hc:kU md O listed)(hi:listed.getD i false=false)(hj:j∈yu md O i):listed.getD j false=false:=by
 rcases R7 i j hj with h|⟨o,ho,e,he,hb,_,jg⟩
 ·rw[h];exact hi
 cases hl:listed.getD j false with
 |false=>rfl
 |true=>have:=hc.Vp _ _ ho hl e he hb;rw[jg listed hc hi]at this;cases this
def KR(hc:kU md O listed)(hi:listed.getD i false=false)(hj:j∈yu md O i)(oS:j≠i):j∉Region.ready md O listed:=by
 intro hr;obtain⟨_,o,ho,jg⟩:=mem_ready.1 hr;rcases R7 i j hj with h|⟨o',Oc,e,he,hb,_,Ps⟩
 ·exact oS h
 have:o'=o:=Option.some.inj (Oc.symm.trans ho);subst this;have Y:=jg e he hb;rw[Ps listed hc hi]at Y;cases Y
def unl(h:listed.getD i true=false):listed.getD i false=false:=by
 rcases oA i listed.size with h'|h'
 ·simp[h']at h ⊢;exact h
 simp[FC h']at h
def kU.set(hc:kU md O listed)(hi:i∈Region.ready md O listed):kU md O (listed.setIfInBounds i true):=by
 obtain⟨_,oi,XU,jg⟩:=mem_ready.1 hi;refine⟨by simp[hc.size],fun j oj hj hl e he hb=>?_⟩
 by_cases hij:i=j
 ·subst hij;have:oj=oi:=Option.some.inj (hj.symm.trans XU);subst this;exact getD_set_true (jg e he hb)
 rw[getD_set_ne false hij]at hl;exact getD_set_true (hc.Vp j oj hj hl e he hb)
def Yl(k1 k2:Nat):Bool:=k1==0||k2==0||k1==1
def pb(P:au)(md:Region.Mode)(O:Array aP)(q i:Nat):Bool:=
 match O[q]?,O[i]?with
 |some oq,some oi=>Nat.ble 2 (eQ P oi.op)&&eQ P oq.op==1&&!(yu md O q).contains i
 |_,_=>false
def Chk(P:au)(O:Array aP)(o:aP)(a:Act)(w:ae):Prop:=
 Region.wanted o (yielded O a.tmps)=true->∃v,(execOp a.eval o).run P w= .ok (.value v) w/\∀d,o.dst=some d->a.tmps.getD d undef=v
def SJ(P:au)(md:Region.Mode)(O:Array aP)(done:List Nat)(i:Nat)(a:Act)(w:ae):Prop:=
 ∀q∈done,pb P md O q i=true->∀o,O[q]?=some o->Chk P O o a w
def nV(P:au)(md:Region.Mode)(O:Array aP)(done:List Nat)(i:Nat)(o:aP)(K:Act->ae->Prop)(a:Act)(w:ae):Prop:=
 if Region.wanted o (yielded O a.tmps)then
  mS P (execOp a.eval o) (eQ P o.op) w (fun v w'=>SJ P md O done i (a.put o.dst v) w'/\K (a.put o.dst v) w')
 else K (a.put o.dst undef) w
def SI{done:List Nat}{K:Act->ae->Prop}(h:nV P md O done i o K a w):Ta P O o K a w:=by
 unfold nV at h;unfold Ta;split
 ·rename_i Z;rw[aB Z]at h;exact jW (fun v w' h=>h.2) h
 rename_i Z;rw[aj Z]at h;exact h
def jb{done:List Nat}{K:Act->ae->Prop}(h:∀v w',K (a.put o.dst v) w'->K' (a.put o.dst v) w')(hh:nV P md O done i o K a w):
  nV P md O done i o K' a w:=by
 unfold nV at*;split
 ·rename_i Z;rw[aB Z]at hh;exact jW (fun v w' hk=>⟨hk.1,h v w' hk.2⟩) hh
 rename_i Z;rw[aj Z]at hh;exact h _ _ hh
def WG(hs:∀cs b,oq.op≠ .select cs b)(gC:∀d,oi.dst=some d->d∉oq.looksAt O/\oq.dst≠some d):
  Chk P O oq (a.put oi.dst v) w↔Chk P O oq a w:=by
 unfold Chk;rw[wanted_put oq a oi.dst v fun d hd=>(gC d hd).1,execOp_put oq hs a oi.dst v fun d hd=>(gC d hd).1];have e:∀d,oq.dst=some d->(a.put oi.dst v).tmps.getD d undef=a.tmps.getD d undef:=fun d hd=>by
  cases hi:oi.dst with
  |none=>rfl
  |some c=>
   have oS:c≠d:=fun Qq=>(gC c hi).2 (by rw[hd,Qq])
   simp[Act.put,Bz oS]
 constructor<;>intro h Z<;>obtain⟨u,Y,J⟩:=h Z<;>refine⟨u,Y,fun d hd=>?_⟩
 ·rw[<-e d hd];exact J d hd
 rw[e d hd];exact J d hd
def Bb{q:Nat}(hq:O[q]?=some oq)(hi:O[i]?=some oi)(h:pb P md O q i=true):2<=eQ P oi.op/\eQ P oq.op=1/\i∉yu md O q:=by
 unfold pb at h;rw[hq,hi]at h
 simpa [and_assoc]using h
def Yy{done:List Nat}{oj:aP}(hi:O[i]?=some oi)(hj:O[j]?=some oj)(hap:oi.apart O oj=true)(acU:∀(j:Nat) (o:aP) cs b,O[j]?=some o->o.op≠ .select cs b)(hc:Yl (eQ P oi.op) (eQ P oj.op)=true)(SX:j∉yu md O i)(Oa:eQ P oi.op=1->∀d,oi.dst=some d->d∉oi.looksAt O)(Uw:∀d,oi.dst=some d->d<n){K:Act->ae->Prop}(lH:a.tmps.size=n)(hci:∀q∈done,∀oq,O[q]?=some oq->eQ P oq.op=1->∀d,oi.dst=some d->d∉oq.looksAt O/\oq.dst≠some d)(hcj:∀q∈done,∀oq,O[q]?=some oq->eQ P oq.op=1->∀d,oj.dst=some d->d∉oq.looksAt O/\oq.dst≠some d)(h:nV P md O done i oi (nV P md O (i::done) j oj K) a w):nV P md O done j oj (nV P md O (j::done) i oi K) a w:=by
 have hsi:∀cs b,oi.op≠ .select cs b:=fun cs b=>acU i oi cs b hi
 have hsj:∀cs b,oj.op≠ .select cs b:=fun cs b=>acU j oj cs b hj
 obtain⟨Y,J,h3⟩:=Oper.apart_spec hap;have wj:∀v,Region.wanted oj (yielded O (a.put oi.dst v).tmps)=Region.wanted oj (yielded O a.tmps):=fun v=>wanted_put oj a oi.dst v Y
 have ej:∀v,execOp (a.put oi.dst v).eval oj=execOp a.eval oj:=fun v=>execOp_put oj hsj a oi.dst v Y
 have wi:∀u,Region.wanted oi (yielded O (a.put oj.dst u).tmps)=Region.wanted oi (yielded O a.tmps):=fun v=>wanted_put oi a oj.dst v h3
 have ei:∀u,execOp (a.put oj.dst u).eval oi=execOp a.eval oi:=fun v=>execOp_put oi hsi a oj.dst v h3
 have pc:∀v u,(a.put oi.dst v).put oj.dst u=(a.put oj.dst u).put oi.dst v:=fun v u=>Act.put_comm a v u J
 have chI:∀q∈done,∀oq,O[q]?=some oq->eQ P oq.op=1->∀(b:Act) v w',Chk P O oq (b.put oi.dst v) w'↔Chk P O oq b w':=fun q hq oq G7 hk b v w'=>
  WG (acU q oq · · G7) (hci q hq oq G7 hk)
 have chJ:∀q∈done,∀oq,O[q]?=some oq->eQ P oq.op=1->∀(b:Act) v w',Chk P O oq (b.put oj.dst v) w'↔Chk P O oq b w':=fun q hq oq G7 hk b v w'=>
  WG (acU q oq · · G7) (hcj q hq oq G7 hk)
 have reJ:∀v u w',SJ P md O (i::done) j ((a.put oi.dst v).put oj.dst u) w'->SJ P md O done j (a.put oj.dst u) w':=fun v u w' hr q hq hp oq G7=>by
  obtain⟨_,hk,_⟩:=Bb G7 hj hp;have:=hr q (kG _ hq) hp oq G7;rw[pc]at this;exact(chI q hq oq G7 hk _ v w').1 this
 have reI:∀v u w',SJ P md O done i (a.put oi.dst v) w'->SJ P md O (j::done) i ((a.put oj.dst u).put oi.dst v) w':=fun v u w' hr q hq hp oq G7=>by
  obtain⟨RP,hk,_⟩:=Bb G7 hi hp;rcases cE.1 hq with rfl|hq
  ·have:oq=oj:=Option.some.inj (G7.symm.trans hj);subst this;simp[Yl,hk]at hc;omega
  rw[<-pc];exact(chJ q hq oq G7 hk _ u w').2 (hr q hq hp oq G7)
 by_cases XN:Region.wanted oi (yielded O a.tmps)=true
 case neg=>
  unfold nV at h;rw[aj XN,wj]at h
  unfold nV
  by_cases VJ:Region.wanted oj (yielded O a.tmps)=true
  ·rw[aB VJ,ej]at h;rw[aB VJ];refine jW (fun u w' ⟨hr,hK⟩=>⟨reJ undef u w' hr,?_⟩) h;rw[wi,aj XN,<-pc];exact hK
  rw[aj VJ]at h;rw[aj VJ,wi,aj XN,<-pc];exact h
 by_cases VJ:Region.wanted oj (yielded O a.tmps)=true
 case neg=>
  unfold nV at h;rw[aB XN]at h
  unfold nV;rw[aj VJ,wi,aB XN,ei];refine jW (fun v w' ⟨hr,hK⟩=>⟨reI v undef w' hr,?_⟩) h;rw[wj,aj VJ,pc]at hK;exact hK
 by_cases ki:eQ P oi.op=0
 ·unfold nV at h;rw[aB XN,ki]at h
  obtain⟨v,hv,hr0,hK⟩:=h;rw[wj,aB VJ,ej]at hK;unfold nV;rw[aB VJ];refine jW (fun u w' ⟨hr,hK'⟩=>⟨reJ v u w' hr,?_⟩) hK;rw[wi,aB XN,ei,ki];refine⟨v,hv,fun q hq hp oq G7=>?_,by rw[<-pc];exact hK'⟩;obtain⟨RP,_⟩:=Bb G7 hi hp;omega
 by_cases kj:eQ P oj.op=0
 ·unfold nV at h;rw[aB XN]at h
  obtain⟨v0,w0,_,h0⟩:=Vi h;rw[wj,aB VJ,ej,kj]at h0;obtain⟨u,hu,_⟩:=h0;unfold nV;rw[aB VJ,kj];refine⟨u,hu,fun q hq hp oq G7=>?_,?_⟩
  ·obtain⟨RP,_⟩:=Bb G7 hj hp;omega
  rw[wi,aB XN,ei];refine jW (fun v w' ⟨hr,hK⟩=>⟨reI v u w' hr,?_⟩) h;rw[wj,aB VJ,ej,kj]at hK;obtain⟨u',VL,_,hK⟩:=hK;have:u'=u:=by have:=(VL w').symm.trans (hu w');simpa using this
  subst this;rw[<-pc];exact hK
 have hk:eQ P oi.op=1:=by simpa [Yl,ki,kj]using hc
 unfold nV at h;rw[aB XN,hk]at h
 obtain⟨v,hv,_,h⟩:=h;rw[wj,aB VJ,ej]at h;unfold nV;rw[aB VJ]
 by_cases kj1:eQ P oj.op=1
 ·rw[kj1]at h ⊢;obtain⟨u,hu,hr,hK⟩:=h;refine⟨u,hu,reJ v u w hr,?_⟩;rw[wi,aB XN,ei,hk];refine⟨v,hv,fun q hq hp oq G7=>?_,by rw[<-pc];exact hK⟩;obtain⟨RP,_⟩:=Bb G7 hi hp;omega
 refine jW (fun u w' ⟨hr,hK⟩=>⟨reJ v u w' hr,?_⟩) h;rw[wi,aB XN,ei,hk];have hp:pb P md O i j=true:=by unfold pb;simp only[hi,hj];simp[hk,SX];omega
 have zA:=hr i (kf ..) hp oi hi;have ah8:Region.wanted oi (yielded O ((a.put oi.dst v).put oj.dst u).tmps)=true:=by rw[pc,wanted_put oi _ oi.dst v (Oa hk),wi];exact XN
 obtain⟨v',h4,h5⟩:=zA ah8;rw[pc,execOp_put oi hsi _ oi.dst v (Oa hk),ei]at h4;refine⟨v',h4,fun q hq hp oq G7=>?_,?_⟩
 ·obtain⟨RP,_⟩:=Bb G7 hi hp;omega
 rw[pc]at hK;cases hd:oi.dst with
 |none=>rw[hd]at hK;exact hK
 |some d=>
  have e1:=h5 d hd;have e2:((a.put oi.dst v).put oj.dst u).tmps.getD d undef=v:=by
   rw[pc,hd];have hs2:(a.put oj.dst u).tmps.size=n:=by cases oj.dst<;>simp[Act.put,lH]
   have fR:=Uw d hd
   generalize a.put oj.dst u=b at hs2
   simp[Act.put,hs2,fR]
  rw[e2]at e1;subst e1;rw[hd]at hK;exact hK
def GJ(P:au)(md:Region.Mode)(O:Array aP)(Q:Act->ae->Prop):Nat->Array Bool->List Nat->Act->ae->Prop
 |0,listed,_,a,w=>Region.ready md O listed=[]/\Q a w
 |fuel+1,listed,done,a,w=>
  (Region.ready md O listed=[]->Q a w)/\∀i∈Region.ready md O listed,∀o,O[i]?=some o->nV P md O done i o (GJ P md O Q fuel (listed.setIfInBounds i true) (i::done)) a w
def Xr(h:mS P (execOp ρ o) (eQ P o.op) w V):∀c,o.op≠ .defer c:=by
 intro c hc;have hk:eQ P o.op=2:=by rw[hc];rfl
 rw[hk]at h;unfold mS at h
 unfold execOp at h;rw[hc]at h
 simp only[al]at h
 generalize (resolve ρ c o.type).run P w=r at h
 cases r with
 |ok d w'=>simp[Result.andThen]at h
 |halt x w'=>simp[Result.andThen]at h
def ug(ho:O[i]?=some o){K:Act->ae->Prop}{Q':Exit->Act->ae->Prop}(h:∀a w',K a w'->K' a w')(hh:Ta P O o K a w):wpOpIn (Fw ro) 0 P O Q' i K' a w:=by
 unfold wpOpIn;simp only[ho];unfold Ta at hh;split
 ·rename_i Z;rw[aB Z]at hh;refine⟨fun _ _=>trivial,?_⟩;rw[Oper.semAt_eq _ _ _ (Xr hh)];unfold mS at hh
  split at hh
  ·obtain⟨v,hv,hK⟩:=hh;rw[hv w];exact h _ _ hK
  ·obtain⟨v,hv,hK⟩:=hh;rw[hv];exact h _ _ hK
  generalize (execOp a.eval o).run P w=r at*
  cases r with
  |ok n w'=>
   cases n<;>simp only[Oper.uponIn]at hh ⊢
   case value v=>exact h _ _ hh
   case skip=>exact h _ _ hh
   case enter f args=>exact⟨(fun hd=>by cases hd),Calls.fw (Calls.mono hh fun e Cb ⟨v,he,hv⟩=>by subst he;exact h _ _ hv) _ _⟩
   case round=>exact⟨(fun hd=>by cases hd),AM.fw (RoundIn.mono hh fun e Cb ⟨v,he,hv⟩=>by subst he;exact h _ _ hv) _ _⟩
  |halt x w'=>exact hh.elim
 rename_i Z;rw[aj Z]at hh;exact⟨fun _ _=>trivial,h _ _ hh⟩
def qz{ro:Option Nat}{Q:Act->ae->Prop}{Q':Exit->Act->ae->Prop}(hQ:∀a w,Q a w->Q' .normal a w):∀(fuel:Nat) (listed:Array Bool) (done:List Nat) (a:Act) (w:ae),
  GJ P md O Q fuel listed done a w->wpAnyIn (Fw ro) 0 P md O Q' fuel listed a w
 |0,_,_,_,_,h=>⟨h.1,hQ _ _ h.2⟩
 |fuel+1,_,_,_,_,h=>⟨fun h0=>hQ _ _ (h.1 h0),fun i hi=>by
   obtain⟨_,o,ho,_⟩:=mem_ready.1 hi;exact ug ho (fun a' w'=>qz hQ fuel _ _ a' w') (SI (h.2 i hi o ho))⟩
structure GL(P:au)(md:Region.Mode)(O:Array aP)(n:Nat):Prop where
 sel:∀(j:Nat) (o:aP) cs b,O[j]?=some o->o.op≠ .select cs b
 dst:∀(j:Nat) (o:aP),O[j]?=some o->∀d,o.dst=some d->d<n
 reads:∀(q:Nat) (oq:aP),O[q]?=some oq->eQ P oq.op=1->∀(i:Nat) (oi:aP),O[i]?=some oi->(∀d,oi.dst=some d->d∉oq.looksAt O/\(i=q\/oq.dst≠some d))\/(i≠q/\q∈yu md O i)
def qT(h:a.tmps.size=n)(d:Option Tmp)(v:C):(a.put d v).tmps.size=n:=by cases d<;>simp[Act.put,h]
def Bv{d1 d2:List Nat}(h:∀q∈d2,q∈d1){K:Act->ae->Prop}(hh:nV P md O d1 i o K a w):nV P md O d2 i o K a w:=by
 unfold nV at*;split
 ·rename_i Z;rw[aB Z]at hh;exact jW (fun v w' hk=>⟨fun q hq=>hk.1 q (h q hq),hk.2⟩) hh
 rename_i Z;rw[aj Z]at hh;exact hh
def OF{Q:Act->ae->Prop}:∀(fuel:Nat) (listed:Array Bool) (d1 d2:List Nat) (a:Act) (w:ae),(∀q∈d2,q∈d1)->GJ P md O Q fuel listed d1 a w->GJ P md O Q fuel listed d2 a w
 |0,_,_,_,_,_,_,h=>h
 |fuel+1,listed,d1,d2,a,w,hs,h=>⟨h.1,fun i hi o ho=>Bv hs (jb (fun v w' h'=>OF fuel _ (i::d1) (i::d2) _ _ (fun q hq=>by
   rcases cE.1 hq with rfl|hq
   ·exact kf ..
   ·exact kG _ (hs q hq)) h') (h.2 i hi o ho))⟩
def LZ(gC:GL P md O n){Q:Act->ae->Prop}(hi:O[i]?=some oi):
  ∀(fuel:Nat) (listed:Array Bool) (done:List Nat) (a:Act) (w:ae),a.tmps.size=n->kU md O listed->(∀q∈done,listed.getD q false=true)→
   (∀j oj,O[j]?=some oj->j≠i->listed.getD j true=false->j∉yu md O i->oi.apart O oj=true/\Yl (eQ P oi.op) (eQ P oj.op)=true)→
   i∈Region.ready md O listed->nV P md O done i oi (GJ P md O Q fuel (listed.setIfInBounds i true) (i::done)) a w->GJ P md O Q (fuel+1) listed done a w:=by
 have clean:∀(listed:Array Bool) (done:List Nat),kU md O listed->(∀q∈done,listed.getD q false=true)->∀i oi,O[i]?=some oi->listed.getD i true=false→
   ∀q∈done,∀oq,O[q]?=some oq->eQ P oq.op=1->∀d,oi.dst=some d->d∉oq.looksAt O/\oq.dst≠some d:=by
  intro listed done hc hd i oi hi Ps q hq oq G7 hk d Uw;have hqi:i≠q:=fun e=>by subst e;have:=hd _ hq;rw[unl Ps]at this;cases this
  rcases gC.reads q oq G7 hk i oi hi with h|⟨_,h⟩
  ·exact⟨(h d Uw).1,(h d Uw).2.resolve_left hqi⟩
  have:=MM hc (unl Ps) h;rw[hd _ hq]at this;cases this
 intro fuel
 induction fuel with
 |zero=>
  intro listed done a w lH hc hd _ hr oM;refine⟨fun h=>(by rw[h]at hr;cases hr),fun j hj oj xW=>?_⟩
  by_cases ux:j=i
  ·subst ux;have:oj=oi:=Option.some.inj (xW.symm.trans hi);subst this;exact oM
  have:=ready_mono hj ux;obtain⟨_,_,h0⟩:=agi (SI oM);rw[h0.1]at this;cases this
 |succ fuel ih=>
  intro listed done a w lH hc hd aey hr oM;refine⟨fun h=>(by rw[h]at hr;cases hr),fun j hj oj xW=>?_⟩
  by_cases ux:j=i
  ·subst ux;have:oj=oi:=Option.some.inj (xW.symm.trans hi);subst this;exact oM
  obtain⟨afF,_⟩:=mem_ready.1 hj;obtain⟨ahi,_⟩:=mem_ready.1 hr;have SX:j∉yu md O i:=fun h=>KR hc (unl ahi) h ux hj
  obtain⟨hap,YM⟩:=aey j oj xW ux afF SX;have hH:nV P md O done i oi (nV P md O (i::done) j oj (GJ P md O Q fuel ((listed.setIfInBounds i true).setIfInBounds j true) (j::i::done))) a w:=
   jb (fun v w' h=>h.2 j (ready_mono hj ux) oj xW) oM
  have Oa:eQ P oi.op=1->∀d,oi.dst=some d->d∉oi.looksAt O:=fun hk d vk=>by
   rcases gC.reads i oi hi hk i oi hi with h|⟨h,_⟩
   ·exact(h d vk).1
   exact aS rfl h
  have hS:=Yy hi xW hap gC.sel YM SX Oa (gC.dst i oi hi) lH (clean listed done hc hd i oi hi ahi) (clean listed done hc hd j oj xW afF) hH;have afI:∀k ok,O[k]?=some ok->k≠i->(listed.setIfInBounds j true).getD k true=false->k∉yu md O i→
    oi.apart O ok=true/\Yl (eQ P oi.op) (eQ P ok.op)=true:=fun k ok hk IM Ps tU=>by
   refine aey k ok hk IM ?_ tU
   by_cases hjk:j=k
   ·subst hjk;exact afF
   rw[getD_set_ne true hjk]at Ps;exact Ps
  have vk:∀q∈j::done,(listed.setIfInBounds j true).getD q false=true:=fun q hq=>by
   rcases cE.1 hq with rfl|hq
   ·have fR:q<listed.size:=by rw[hc.size];exact(mV.1 xW).1
    simp[fR]
   exact getD_set_true (hd q hq)
  refine jb (fun u w' h=>?_) hS;refine ih (listed.setIfInBounds j true) (j::done) _ w' (qT lH _ _) (hc.set hj) vk afI (ready_mono hr (Ne.symm ux)) ?_;rw[Array.setIfInBounds_comm _ _ ux];refine jb (fun v Cb h=>?_) h;exact OF fuel _ (j::i::done) (i::j::done) _ _ (fun q hq=>by simp at hq ⊢;rcases hq with h|h|h<;>simp[h]) h
def SL(P:au)(O:Array aP)(Q:Act->ae->Prop):List Nat->List Nat->Act->ae->Prop
 |_,[]=>Q
 |done,i::r=>fun a w=>match O[i]?with
  |none=>False
  |some o=>nV P .any O done i o (SL P O Q (i::done) r) a w
def aeB(P:au)(O:Array aP)(listed:Array Bool)(i:Nat):Bool:=
 (List.range O.size).all fun j=>j==i||listed.getD j true||(yu .any O i).contains j||
  (match O[i]?,O[j]?with
   |some oi,some oj=>oi.apart O oj&&Yl (eQ P oi.op) (eQ P oj.op)
   |_,_=>false)
def Mt(P:au)(O:Array aP):List Nat->Array Bool->Bool
 |[],listed=>(Region.ready .any O listed).isEmpty
 |i::r,listed=>(Region.ready .any O listed).contains i&&aeB P O listed i&&Mt P O r (listed.setIfInBounds i true)
def ade(n:Nat)(O:Array aP):Bool:=O.all fun o=>match o.dst with|some d=>Nat.blt d n|none=>true
def OZ(P:au)(O:Array aP):Bool:=
 (List.range O.size).all fun q=>match O[q]?with
  |some oq=>!(eQ P oq.op==1)||(List.range O.size).all fun i=>match O[i]?with
   |some oi=>(match oi.dst with
    |some d=>(!(oq.looksAt O).contains d&&(i==q||!(oq.dst==some d)))||(!(i==q)&&(yu .any O i).contains q)
    |none=>true)
   |none=>true
  |none=>true
def acd(P:au)(O:Array aP)(n:Nat)(perm:List Nat):Bool:=
 Region.noSelect O&&ade n O&&OZ P O&&perm.length==O.size&&Mt P O perm (Array.replicate O.size false)
def Le(Y:Region.noSelect O=true)(J:ade n O=true)(h3:OZ P O=true):GL P .any O n where
 sel:=Region.noSelect_spec Y
 dst:=fun j o ho d hd=>by
  have:=afb.1 J o (Array.mem_of_getElem? ho);rw[hd]at this;simpa using this
 reads:=fun q oq hq hk i oi hi=>by
  have hql:q<O.size:=(mV.1 hq).1;have wz:i<O.size:=(mV.1 hi).1;have a1:=w5.1 h3 q (sr.2 hql);simp only[hq,hk,beq_self_eq_true,Bool.not_true,Bool.false_or]at a1;have a2:=w5.1 a1 i (sr.2 wz);simp only[hi]at a2
  cases hd:oi.dst with
  |none=>exact .inl fun d h=>by cases h
  |some d=>
   simp only[hd,Jt,gG,TE,beq_iff_eq,FB,beq_eq_false_iff_ne]at a2;rcases a2 with⟨h4,h5⟩|⟨h4,h5⟩
   ·refine .inl fun d' vk=>?_
    cases vk;refine⟨fun hm=>?_,h5⟩;have:(oq.looksAt O).contains d=true:=FB.2 hm;rw[this]at h4;cases h4
   exact .inr ⟨h4,h5⟩
def E9{n:Nat}(gC:GL P .any O n){Q:Act->ae->Prop}:∀(perm:List Nat) (listed:Array Bool) (done:List Nat) (a:Act) (w:ae),a.tmps.size=n->kU .any O listed→
  (∀q∈done,listed.getD q false=true)->Mt P O perm listed=true->SL P O Q done perm a w->GJ P .any O Q perm.length listed done a w
 |[],_,_,_,_,_,_,_,hB,h=>⟨by simpa [Mt]using hB,h⟩
 |i::r,listed,done,a,w,lH,hc,hd,hB,h=>by
  simp only[Mt,gG]at hB;obtain⟨⟨hr,hf⟩,hB'⟩:=hB;have CX:i∈Region.ready .any O listed:=by simpa using hr
  obtain⟨_,oi,XU,_⟩:=mem_ready.1 CX;simp only[SL,XU]at h;refine LZ gC XU r.length listed done a w lH hc hd (fun j oj hj ux Ps SX=>?_) CX ?_
  ·have fR:j<O.size:=(mV.1 hj).1;have Y:=w5.1 hf j (sr.2 fR);have hb:(j==i)=false:=by simpa using ux
   have vm:(yu .any O i).contains j=false:=by
    cases E:(yu .any O i).contains j with
    |false=>rfl
    |true=>exact aS (FB.1 E) SX
   simp only[hb,Ps,vm,Bool.false_or,XU,hj,gG]at Y;exact Y
  refine jb (fun v w' h'=>E9 gC r _ _ _ _ (qT lH _ _) (hc.set CX) (fun q hq=>?_) hB' h') h;rcases cE.1 hq with rfl|hq
  ·have fR:q<listed.size:=by rw[hc.size];exact(mV.1 XU).1
   simp[fR]
  exact getD_set_true (hd q hq)
def IZ(perm:List Nat){id:Nat}{Q:Exit->Act->ae->Prop}(hm:P.follows .mixedOrders=true)(hB:acd P O n perm=true)(lH:a.tmps.size=n)(h:SL P O (Q .normal) [] perm a {w with drawn:=w.drawn+1}):(Code.region id O true).wpIn (Fw ro) 0 P Q a w:=by
 simp only[acd,gG,beq_iff_eq]at hB;obtain⟨⟨⟨⟨Y,J⟩,h3⟩,h4⟩,h5⟩:=hB;refine wpIn_region_any hm (qz (Q:=Q .normal) (fun _ _ h=>h) _ _ [] _ _ ?_);rw[<-h4]at h5 ⊢
 refine E9 (Le Y J h3) perm _ [] a _ lH ⟨by simp[h4],fun j o ho hl=>?_⟩ (fun q hq=>by cases hq) h5 h;exfalso;rcases oA j perm.length with h'|h'
 ·simp[h']at hl
 simp[FC (show(Array.replicate perm.length false).size<=j by simpa using h')]at hl
def SN(P:au)(O:Array aP)(Q:Act->ae->Prop):List Nat->Act->ae->Prop
 |[]=>Q
 |i::r=>fun a w=>match O[i]?with
  |none=>False
  |some o=>Ta P O o (SN P O Q r) a w
def y5{ro:Option Nat}{Q:Exit->Act->ae->Prop}:∀(l:List Nat) (a:Act) (w:ae),SN P O (Q .normal) l a w->wpOpsIn (Fw ro) 0 P O Q l a w
 |[],_,_,h=>h
 |i::r,a,w,h=>by
  rw[wpOpsIn_cons];simp only[SN]at h;cases ho:O[i]?with
  |none=>rw[ho]at h;exact h.elim
  |some o=>
   rw[ho]at h;exact ug ho (fun a' w' h'=>y5 r a' w' h') h
def Hn{id:Nat}{Q:Exit->Act->ae->Prop}(h:SN P O (Q .normal) (List.range O.size) a w):(Code.region id O false).wpIn (Fw ro) 0 P Q a w:=
 wpIn_region (y5 _ a w h)
end
abbrev cX:=List (Nat×C)
variable{e e' e₀:cX}{K:cX->ae->Prop}
def get:cX->Nat->Option C
 |[],_=>none
 |(k,v)::r,t=>cond (Nat.beq k t&&!Nat.beq t 1000000000) (some v) (get r t)
def marks:cX->List C
 |[]=>[]
 |(k,v)::r=>cond (Nat.beq k 1000000000) (v::marks r) (marks r)
def Hg:C->Deferred
 | .pointer (some a)=>{target:= .collected a.block,args:=#[]}
 | .func fn first captured=>{target:= .fn fn captured,args:=first}
 |_=>{target:= .nil,args:=#[]}
def qx{t:Nat}(h:k≠t):Nat.beq k t=false:=by cases hb:Nat.beq k t with|false=>rfl|true=>exact aS (TK hb) h
def zB{t:Nat}(h:get e t=some v):t≠1000000000:=by
 induction e with
 |nil=>cases h
 |cons x r ih=>
  obtain⟨k,u⟩:=x;rintro rfl;simp only[get,Ty,Bool.not_true,Bool.and_false,cond]at h;exact ih h rfl
def mz{t:Nat}(h:get ((k,u)::e) t=some v):(k=t/\u=v)\/(k≠t/\get e t=some v):=by
 have ht:=zB h;simp only[get,qx ht,ZB,Bool.and_true]at h
 by_cases hk:k=t
 ·subst hk;simp at h;exact .inl ⟨rfl,h⟩
 rw[qx hk]at h;exact .inr ⟨hk,h⟩
def mi(h:k≠1000000000):marks ((k,v)::e)=marks e:=by simp only[marks,qx h,cond]
def ev(e:cX):aM->Option C
 | .tmp t=>get e t
 | .const v=>some v
 | .global g=>some (pQ g)
 | .func f=>some (.func (.func f) #[] #[])
def tT(e:cX):Option Tmp->C->cX
 |some d,v=>(d,v)::e
 |none,_=>e
structure dZ(n:Nat)(e:cX)(a:Act):Prop where
 defers:a.defers=(marks e).map Hg
 size:a.tmps.size=n
 small:n<=1000000
 get:∀t v,get e t=some v->a.tmps.getD t undef=v
def gd(e' e:cX):Prop:=∀t v,get e' t=some v->get e t=some v
def gd.nil(e:cX):gd [] e:=fun _ _ h=>by cases h
def gd.mark(h:gd e' e):gd ((1000000000,v)::e') e:=fun t u hu=>by
 rcases mz hu with⟨Y,_⟩|⟨_,J⟩
 ·exact aS Y.symm (zB hu)
 exact h t u J
def gd.cons{e' e:cX}{k:Nat}{v:C}(h:X.get e k=some v)(h':gd e' e):gd ((k,v)::e') e:=fun t u hu=>by
 rcases mz hu with⟨rfl,rfl⟩|⟨_,J⟩
 ·exact h
 exact h' t u J
structure si(e' e:cX):Prop where
 get:gd e' e
 marks:marks e'=marks e
def si.refl(e:cX):si e e:=⟨fun _ _ h=>h,rfl⟩
def si.cons{e' e:cX}{k:Nat}{v:C}(h:X.get e k=some v)(h':si e' e):si ((k,v)::e') e:=⟨gd.cons h h'.get,(mi (zB h)).trans h'.marks⟩
def dZ.sub(h:dZ n e a)(hs:si e' e):dZ n e' a:=⟨by rw[hs.marks];exact h.defers,h.size,h.small,fun t v hv=>h.get t v (hs.get t v hv)⟩
def dZ.put(h:dZ n e a)(hd:d<n)(v:C):dZ n ((d,v)::e) (a.put (some d) v):=by
 have hs:=h.small;refine⟨by rw[mi H];exact h.defers,by simp[Act.put,h.size],hs,fun t u hu=>?_⟩;rcases mz hu with⟨rfl,rfl⟩|⟨hk,hu⟩
 ·simp[Act.put,h.size,hd]
 have:=h.get t u hu;simp only[Act.put,Jz,Bz hk]
 simpa using this
def dZ.ev(h:dZ n e a)(E:X.ev e x=some v):a.eval x=v:=by
 cases x with
 |tmp t=>exact h.get t v E
 |_=>simp[X.ev]at E;simp[Act.eval,E]
def dA(n:Nat)(o:aP):Bool:=(match o.dst with|some d=>Nat.blt d n|none=>true)&&(match o.op with| .select ..=>false|_=>true)
def Yi(h:dA n o=true):∀cs b,o.op≠ .select cs b:=by
 intro cs b he;unfold dA at h;rw[he]at h;simp at h
def dZ.tT(h:dZ n e a)(ho:dA n o=true)(v:C):dZ n (X.tT e o.dst v) (a.put o.dst v):=by
 unfold dA at ho;cases hd:o.dst with
 |none=>exact h
 |some d=>rw[hd]at ho;simp only[gG]at ho;exact h.put (by simpa using ho.1) v
def XL(P:au)(n:Nat)(O:Array aP)(dr:Bool)(done l:List Nat)(K:cX->ae->Prop)(e:cX)(w:ae):Prop:=
 ∀a,dZ n e a->cond dr (SL P O (fun a' w'=>∃e',dZ n e' a'/\K e' w') done l a w) (SN P O (fun a' w'=>∃e',dZ n e' a'/\K e' w') l a w)
def Gd(O:Array aP)(e:cX):Option (Nat×Bool)->Prop
 |none=>True
 |some (j,want)=>∃d,(O[j]?).bind (·.dst)=some d/\get e d=some (.bool want)
def gD(h:Gd O e g:=by first|trivial|exact⟨_,rfl,rfl⟩):Gd O e g:=h
def gZ(P:au)(O:Array aP)(dr:Bool)(done:List Nat)(i:Nat):List Nat:=cond dr (done.filter fun q=>pb P .any O q i) []
def xQ(P:au)(n:Nat)(O:Array aP)(q:Nat)(e:cX)(w:ae):Prop:=∀o,O[q]?=some o->∀a,dZ n e a->Chk P O o a w
section
variable{done r:List Nat}
def aK(h:K e w):XL P n O dr done [] K e w:=fun a ha=>by cases dr<;>exact⟨e,ha,h⟩
def Bw{Q Q':Act->ae->Prop}(h:∀a w,Q a w->Q' a w):∀(l:List Nat) (a:Act) (w:ae),SN P O Q l a w->SN P O Q' l a w
 |[],a,w,hh=>h a w hh
 |i::l,a,w,hh=>by
  simp only[SN]at hh ⊢;split
  ·rename_i ho;rw[ho]at hh;exact hh
  rename_i o ho;rw[ho]at hh;exact LY (fun v w'=>Bw h l _ w') hh
def uK{Q Q':Act->ae->Prop}(h:∀a w,Q a w->Q' a w):∀(l done:List Nat) (a:Act) (w:ae),SL P O Q done l a w->SL P O Q' done l a w
 |[],_,a,w,hh=>h a w hh
 |i::l,done,a,w,hh=>by
  simp only[SL]at hh ⊢;split
  ·rename_i ho;rw[ho]at hh;exact hh
  rename_i o ho;rw[ho]at hh;exact jb (fun v w'=>uK h l _ _ w') hh
def ll(hs:si e' e)(h:XL P n O dr done r K e' w):XL P n O dr done r K e w:=fun a ha=>h a (ha.sub hs)
def CE(ha:dZ n e a)(hj:(O[j]?).bind (·.dst)=some d){b:Bool}(hd:get e d=some (.bool b)):yielded O a.tmps j=some b:=by
 have Y:=ha.get d _ hd;unfold yielded;rw[hj];have J:a.tmps[d]?=some (.bool b):=by
  cases h3:a.tmps[d]?with
  |none=>simp[Jz,h3,undef]at Y
  |some v=>simp[Jz,h3]at Y;rw[Y]
 simp[J]
def Qx(ha:dZ n e a)(hj:(O[j]?).bind (·.dst)=some d)(hd:get e d=some undef):yielded O a.tmps j=none:=by
 have Y:=ha.get d _ hd;unfold yielded;rw[hj];cases h3:a.tmps[d]?with
 |none=>simp[h3]
 |some v=>simp[Jz,h3]at Y;simp[h3,Y,undef]
def ND(ha:dZ n e a)(hg:Gd O e o.guard):Region.wanted o (yielded O a.tmps)=true:=by
 unfold Region.wanted;cases hgd:o.guard with
 |none=>rfl
 |some jw=>
  obtain⟨j,want⟩:=jw;rw[hgd]at hg;obtain⟨d,Y,J⟩:=hg;simp[CE ha Y J]
def AT(ho:O[i]?=some o)(hd:dA n o=true)(hg:Gd O e o.guard)(hρ:∀x∈o.op.operands,ev e x=some (ρ x))(h:mS P (execOp ρ o) (eQ P o.op) w fun v w'=>(∀q∈gZ P O dr done i,xQ P n O q (tT e o.dst v) w')/\XL P n O dr (i::done) r K (tT e o.dst v) w'):
  XL P n O dr done (i::r) K e w:=by
 intro a ha;have he:execOp a.eval o=execOp ρ o:=execOp_congr o (Yi hd) fun x E=>ha.ev (hρ x E)
 cases dr
 ·simp only[SN,ho,cond];unfold Ta;rw[aB (ND ha hg),he];exact jW (fun v w' h'=>h'.2 _ (ha.tT hd v)) h
 simp only[SL,ho,cond];unfold nV;rw[aB (ND ha hg),he];refine jW (fun v w' h'=>⟨fun q hq hb oq G7=>h'.1 q (Ml.2 ⟨hq,hb⟩) oq G7 _ (ha.tT hd v),h'.2 _ (ha.tT hd v)⟩) h
def fC(ho:O[i]?=some o)(hd:dA n o=true)(hg:Gd O e o.guard)(hρ:∀x∈o.op.operands,ev e x=some (ρ x))(hk:eQ P o.op=0)(hv:∀w',(execOp ρ o).run P w'= .ok (.value v) w')(h:XL P n O dr (i::done) r K (tT e o.dst v) w):XL P n O dr done (i::r) K e w:=by
 refine AT ho hd hg hρ ?_;rw[hk];refine⟨v,hv,fun q hq=>?_,h⟩;cases dr
 ·cases hq
 obtain⟨_,hb⟩:=Ml.1 hq;unfold pb at hb;rw[ho]at hb
 split at hb
 ·rename_i oq oi Y J;cases J;simp[hk]at hb
 cases hb
def AU(ho:O[i]?=some o)(hd:dA n o=true)(hg:Gd O e o.guard)(hρ:∀x∈o.op.operands,ev e x=some (ρ x))(hk:eQ P o.op=1)(hv:(execOp ρ o).run P w= .ok (.value v) w)(h:XL P n O dr (i::done) r K (tT e o.dst v) w):XL P n O dr done (i::r) K e w:=by
 refine AT ho hd hg hρ ?_;rw[hk];refine⟨v,hv,fun q hq=>?_,h⟩;cases dr
 ·cases hq
 obtain⟨_,hb⟩:=Ml.1 hq;unfold pb at hb;rw[ho]at hb
 split at hb
 ·rename_i oq oi Y J;cases J;simp[hk]at hb
 cases hb
def jG(ho:O[i]?=some o)(hd:dA n o=true)(hg:Gd O e o.guard)(hρ:∀x∈o.op.operands,ev e x=some (ρ x))(hk:eQ P o.op=2)(hv:(execOp ρ o).run P w= .ok (.value v) w')(hp:∀q∈gZ P O dr done i,xQ P n O q (tT e o.dst v) w')(h:XL P n O dr (i::done) r K (tT e o.dst v) w'):XL P n O dr done (i::r) K e w:=by
 refine AT ho hd hg hρ ?_;rw[hk]
 show match(execOp ρ o).run P w with|_=>_
 unfold mS;rw[hv];exact⟨hp,h⟩
def DF(ho:O[i]?=some o)(hd:dA n o=true)(hg:Gd O e o.guard)(hρ:∀x∈o.op.operands,ev e x=some (ρ x))(hk:eQ P o.op=2)(hv:(execOp ρ o).run P w= .ok .skip w')(hp:∀q∈gZ P O dr done i,xQ P n O q (tT e o.dst undef) w')(h:XL P n O dr (i::done) r K (tT e o.dst undef) w'):XL P n O dr done (i::r) K e w:=by
 refine AT ho hd hg hρ ?_;rw[hk];unfold mS;rw[hv];exact⟨hp,h⟩
def U9(ho:O[i]?=some o)(hd:dA n o=true)(hg:Gd O e o.guard)(hρ:∀x∈o.op.operands,ev e x=some (ρ x))(hk:eQ P o.op=2){args:Array C}(hv:(execOp ρ o).run P w= .ok (.enter f args) w){R:C->ae->Prop}(hc:aA P f args w (bU R))(h:∀v w',R v w'->(∀q∈gZ P O dr done i,xQ P n O q (tT e o.dst v) w')/\XL P n O dr (i::done) r K (tT e o.dst v) w'):XL P n O dr done (i::r) K e w:=by
 refine AT ho hd hg hρ ?_;rw[hk];unfold mS;rw[hv];exact hc.mono fun e w' ⟨v,he,hR⟩=>⟨v,he,h v w' hR⟩
def agn{b:Bool}(ho:O[i]?=some o)(hd:dA n o=true)(hg:o.guard=some (j,want))(hj:(O[j]?).bind (·.dst)=some d)(hv:get e d=some (.bool b))(hb:b=!want)(h:XL P n O dr (i::done) r K (tT e o.dst undef) w):XL P n O dr done (i::r) K e w:=by
 intro a ha;have Z:Region.wanted o (yielded O a.tmps)=false:=by simp[Region.wanted,hg,CE ha hj hv,hb]
 cases dr
 ·simp only[SN,ho,cond];unfold Ta;rw[aj (by simp[Z])];exact h _ (ha.tT hd undef)
 simp only[SL,ho,cond];unfold nV;rw[aj (by simp[Z])];exact h _ (ha.tT hd undef)
def abM(ho:O[i]?=some o)(hd:dA n o=true)(hg:o.guard=some (j,want))(hj:(O[j]?).bind (·.dst)=some d)(hv:get e d=some undef)(h:XL P n O dr (i::done) r K (tT e o.dst undef) w):XL P n O dr done (i::r) K e w:=by
 intro a ha;have Z:Region.wanted o (yielded O a.tmps)=false:=by simp[Region.wanted,hg,Qx ha hj hv]
 cases dr
 ·simp only[SN,ho,cond];unfold Ta;rw[aj (by simp[Z])];exact h _ (ha.tT hd undef)
 simp only[SL,ho,cond];unfold nV;rw[aj (by simp[Z])];exact h _ (ha.tT hd undef)
def U4{Q:Act->ae->Prop}:∀(l1 l2:List Nat) (a:Act) (w:ae),SN P O (SN P O Q l2) l1 a w->SN P O Q (l1++l2) a w
 |[],_,_,_,h=>h
 |i::l1,l2,a,w,h=>by
  simp only[SN,nI]at h ⊢;split
  ·rename_i ho;rw[ho]at h;exact h
  rename_i o ho;rw[ho]at h;exact LY (fun v w'=>U4 l1 l2 _ w') h
def U5{Q:Act->ae->Prop}:∀(l1 l2 done:List Nat) (a:Act) (w:ae),SL P O (SL P O Q (l1.reverse++done) l2) done l1 a w->SL P O Q done (l1++l2) a w
 |[],_,_,_,_,h=>h
 |i::l1,l2,done,a,w,h=>by
  simp only[SL,nI,List.reverse_cons,gm,lE]at h ⊢;split
  ·rename_i ho;rw[ho]at h;exact h
  rename_i o ho;rw[ho]at h;exact jb (fun v w'=>U5 l1 l2 _ _ w') h
structure Kp(S:List Nat)(a a':Act):Prop where
 defers:a'.defers=a.defers
 size:a'.tmps.size=a.tmps.size
 same:∀t,S.contains t=false->a'.tmps.getD t undef=a.tmps.getD t undef
def Kp.refl(S:List Nat)(a:Act):Kp S a a:=⟨rfl,rfl,fun _ _=>rfl⟩
def Kp.trans{b c:Act}(h:Kp S a b)(h':Kp S b c):Kp S a c:=⟨h'.defers.trans h.defers,h'.size.trans h.size,fun t ht=>(h'.same t ht).trans (h.same t ht)⟩
def Kp.put{d:Option Tmp}(v:C)(h:∀t,d=some t->S.contains t=true):Kp S a (a.put d v):=by
 cases d with
 |none=>exact Kp.refl S a
 |some t=>
  refine⟨rfl,by simp[Act.put],fun u hu=>?_⟩;have oS:t≠u:=fun e=>by subst e;rw[h t rfl]at hu;cases hu
  simp[Act.put,Bz oS]
def HS(O:Array aP)(l:List Nat):List Nat:=l.filterMap fun i=>(O[i]?).bind (·.dst)
def Es{l:List Nat}(hi:i∈l)(ho:O[i]?=some o):∀t,o.dst=some t->(HS O l).contains t=true:=fun t ht=>by
 rw[FB];exact ZK.2 ⟨i,hi,by rw[ho];exact ht⟩
def Qd{Q:Act->ae->Prop}{S:List Nat}:∀(l:List Nat) (a:Act) (w:ae),(∀i∈l,∀o,O[i]?=some o->∀t,o.dst=some t->S.contains t=true)->SN P O Q l a w->SN P O (fun a' w'=>Q a' w'/\Kp S a a') l a w
 |[],a,w,_,h=>⟨h,Kp.refl S a⟩
 |i::l,a,w,hS,h=>by
  simp only[SN]at h ⊢;split
  ·rename_i ho;rw[ho]at h;exact h
  rename_i o ho;rw[ho]at h;exact LY (fun v w' E=>Bw (fun a' Cb hy=>⟨hy.1,(Kp.put v (hS i (kf ..) o ho)).trans hy.2⟩) _ _ _ (Qd l _ w' (fun j hj=>hS j (kG _ hj)) E)) h
def E7{Q:Act->ae->Prop}{S:List Nat}:∀(l done:List Nat) (a:Act) (w:ae),(∀i∈l,∀o,O[i]?=some o->∀t,o.dst=some t->S.contains t=true)->SL P O Q done l a w->SL P O (fun a' w'=>Q a' w'/\Kp S a a') done l a w
 |[],_,a,w,_,h=>⟨h,Kp.refl S a⟩
 |i::l,done,a,w,hS,h=>by
  simp only[SL]at h ⊢;split
  ·rename_i ho;rw[ho]at h;exact h
  rename_i o ho;rw[ho]at h;exact jb (fun v w' E=>uK (fun a' Cb hy=>⟨hy.1,(Kp.put v (hS i (kf ..) o ho)).trans hy.2⟩) _ _ _ _ (E7 l _ _ w' (fun j hj=>hS j (kG _ hj)) E)) h
def Ki(S:List Nat)(e:cX):Bool:=e.all fun x=>!S.contains x.1
def xp{t:Nat}(h:Ki S e=true)(hg:get e t=some v):S.contains t=false:=by
 induction e with
 |nil=>cases hg
 |cons x r ih=>
  obtain⟨k,u⟩:=x;simp only[Ki,O1,gG]at h;rcases mz hg with⟨rfl,_⟩|⟨_,hg⟩
  ·simpa using h.1
  exact ih h.2 hg
def bw{l l1 l2:List Nat}(hl:l=l1++l2)(q:Prop)[Decidable q](hf:Ki (HS O l1) e=true)(Y:XL P n O dr done l1 (fun e' w'=>w'=w/\get e' d=some (.bool (decide q))) e w)(J:XL P n O dr (l1.reverse++done) l2 K ((d, .bool (decide q))::e) w):XL P n O dr done l K e w:=by
 subst hl;intro a ha;have h:=Y a ha;have key:∀(a':Act) (w':ae),(∃e',dZ n e' a'/\w'=w/\get e' d=some (.bool (decide q)))->Kp (HS O l1) a a'->dZ n ((d, .bool (decide q))::e) a'/\w'=w:=fun a' w' ⟨e',FU,Z,hg⟩ hk=>by
  refine⟨⟨by rw[mi (zB hg),hk.defers];exact ha.defers,hk.size.trans ha.size,ha.small,fun t v hv=>?_⟩,Z⟩;rcases mz hv with⟨rfl,rfl⟩|⟨_,hv⟩
  ·exact FU.get _ _ hg
  rw[hk.same t (xp hf hv)];exact ha.get t v hv
 have hS:∀i∈l1,∀o,O[i]?=some o->∀t,o.dst=some t->(HS O l1).contains t=true:=fun i hi o ho=>Es hi ho
 cases dr
 ·exact U4 l1 l2 a w (Bw (fun a' w' E=>by obtain⟨h3,rfl⟩:=key a' w' E.1 E.2;exact J a' h3) _ _ _ (Qd _ _ _ hS h))
 exact U5 l1 l2 done a w (uK (fun a' w' E=>by obtain⟨h3,rfl⟩:=key a' w' E.1 E.2;exact J a' h3) _ _ _ _ (E7 _ _ _ _ hS h))
def ar[Decidable p](hv:get e d=some (.bool (decide p)))(ht:p->XL P n O dr done r K ((d, .bool true)::e) w)(hf:¬p->XL P n O dr done r K ((d, .bool false)::e) w):
  XL P n O dr done r K e w:=by
 by_cases hp:p
 ·exact ll (si.cons (by rw[hv];simp[hp]) (si.refl e)) (ht hp)
 exact ll (si.cons (by rw[hv];simp[hp]) (si.refl e)) (hf hp)
def WH{b:Bool}(hv:get e d=some (.bool b))(ht:b=true->XL P n O dr done r K ((d, .bool true)::e) w)(hf:b=false->XL P n O dr done r K ((d, .bool false)::e) w):
  XL P n O dr done r K e w:=by
 cases b
 ·exact ll (si.cons hv (si.refl e)) (hf rfl)
 exact ll (si.cons hv (si.refl e)) (ht rfl)
end
abbrev jF:=cX->ae->Prop
variable{hx:List (Nat×jF)}
def tf:List (Nat×jF)->Nat->Option jF
 |[],_=>none
 |(k,K)::r,t=>cond (Nat.beq k t) (some K) (tf r t)
def vF(K:jF)(hx:List (Nat×jF))(F:jF)(n:Nat):Exit->Act->ae->Prop
 | .normal,a,w=>∃e,dZ n e a/\K e w
 | .ret,a,w=>∃e,dZ n e a/\F e w
 | .exit id,a,w=>∃K',tf hx id=some K'/\∃e,dZ n e a/\K' e w
 |_,_,_=>False
def X(P:au)(n:Nat)(ro:Option Nat)(c:Code)(K:jF)(hx:List (Nat×jF))(F:jF)(e:cX)(w:ae):Prop:=∀a,dZ n e a->c.wpIn (Fw ro) 0 P (vF K hx F n) a w
section
variable{c x y:Code}{K F:jF}
def Y2(hs:si e' e)(h:X P n ro c K hx F e' w):X P n ro c K hx F e w:=fun a ha=>h a (ha.sub hs)
def aeQ{K' F':jF}(h:X P n ro c K hx F e w)(hn:∀e w,K e w->K' e w)(hr:∀e w,F e w->F' e w):X P n ro c K' hx F' e w:=fun a ha=>
 wpIn_mono (h a ha) fun ex a w hq=>by
  cases ex<;>simp only[vF]at hq ⊢
  case normal=>obtain⟨e,Y,J⟩:=hq;exact⟨e,Y,hn _ _ J⟩
  case ret=>obtain⟨e,Y,J⟩:=hq;exact⟨e,Y,hr _ _ J⟩
  case exit id=>exact hq
def jo(h:K e w):X P n ro .skip K hx F e w:=fun a ha=>wpIn_skip ⟨e,ha,h⟩
def abO{l:Nat}(h:K e w):X P n ro (.label l) K hx F e w:=fun a ha=>wpIn_label ⟨e,ha,h⟩
def Ca(h:F e w):X P n ro .ret K hx F e w:=fun a ha=>wpIn_ret ⟨e,ha,h⟩
def Y6{id:Nat}{K':jF}(hk:tf hx id=some K')(h:K' e w):X P n ro (.exit id) K hx F e w:=fun a ha=>wpIn_exit ⟨K',hk,e,ha,h⟩
def nF(h:X P n ro x (X P n ro y K hx F) hx F e w):X P n ro (.seq x y) K hx F e w:=fun a ha=>
 wpIn_seq (wpIn_mono (h a ha) fun ex a w hq=>by
  cases ex<;>simp only[vF]at hq<;>simp only[Exit.then]
  case normal=>obtain⟨e,Y,J⟩:=hq;exact J a Y
  case ret=>exact hq
  case exit id=>exact hq)
def qg(h2:jF)(h:X P n ro x (fun e w=>∃e',si e' e/\h2 e' w) hx F e w)(h':∀e w,h2 e w->X P n ro y K hx F e w):X P n ro (.seq x y) K hx F e w:=
 nF (aeQ h (fun _ _ ⟨_,hs,hj⟩=>Y2 hs (h' _ _ hj)) (fun _ _ h=>h))
def fJ{t:Bool}(hc:ev e Si=some (.bool t))(ht:t=true->X P n ro x K hx F e w)(hf:t=false->X P n ro y K hx F e w):X P n ro (.cond Si x y) K hx F e w:=fun a ha=>
 wpIn_cond_split (ha.ev hc) (fun h=>ht h a ha) (fun h=>hf h a ha)
def cr(hc:ev e Si=some (.bool true))(ht:X P n ro x K hx F e w):X P n ro (.cond Si x y) K hx F e w:=fJ hc (fun _=>ht) (fun h=>by cases h)
def cD(hc:ev e Si=some (.bool false))(hf:X P n ro y K hx F e w):X P n ro (.cond Si x y) K hx F e w:=fJ hc (fun h=>by cases h) (fun _=>hf)
def ahK[Decidable p](hc:ev e Si=some (.bool (decide p)))(ht:p->X P n ro x K hx F e w)(hf:¬p->X P n ro y K hx F e w):X P n ro (.cond Si x y) K hx F e w:=
 fJ hc (fun h=>ht (of_decide_eq_true h)) (fun h=>hf (of_decide_eq_false h))
def abS{id:Nat}(h:X P n ro x K ((id,K)::hx) F e w):X P n ro (.block id x) K hx F e w:=fun a ha=>
 wpIn_block (wpIn_mono (h a ha) fun ex a w hq=>by
  cases ex<;>simp only[vF]at hq<;>simp only[Exit.inBlock]
  case normal=>exact hq
  case ret=>exact hq
  case exit RC=>
   obtain⟨K',hk,e,Y,J⟩:=hq;simp only[tf]at hk
   by_cases HF:id=RC
   ·subst HF;simp at hk;subst hk;rw[aB rfl];exact⟨e,Y,J⟩
   ·rw[qx HF]at hk;rw[aj (fun h=>HF h.symm)];exact⟨K',hk,e,Y,J⟩)
def abN(h:X P n ro x K hx F e w):X P n ro (.scope x) K hx F e w:=fun a ha b k cs Me hb hr=>by
 have h0:(lone (b.atR a (.code (.scope x)::k)) cs w).fenced P (Fw ro):=fenced_calm hb hr rfl;have s1:step P (lone (b.atR a (.code (.scope x)::k)) cs w)= .next (lone (b.atR a (.code x:: .inScope x::k)) cs w):=step_lone_go (by simp[stepG,stepG.exec,Frame.atR]);have s2:∀(a:Act) (w:ae),step P (lone (b.atR a (.inScope x::k)) cs w)= .next (lone (b.atR a k) cs w):=fun a w=>step_lone_go (by simp[stepG,stepG.exec,Frame.atR])
 obtain⟨ex,yP,vt,hq,tY⟩:=h a ha b (.inScope x::k) cs Me hb hr;cases ex with
 |normal=>exact⟨.normal,yP,vt,hq, .head h0 s1 (StepsIn.trans tY (.one (fenced_calm hb hr rfl) (s2 _ _)))⟩
 |exit id=>
  have E:exitTo id (.inScope x::k)=exitTo id k:=by simp[exitTo]
  exact⟨.exit id,yP,vt,hq,fun k' hk=> .head h0 s1 (tY.1 k' (by rw[E];exact hk)),fun hs hk=>let⟨k₁,Y,J⟩:=tY.2 hs (by rw[E];exact hk);⟨k₁,Y, .head h0 s1 J⟩⟩
 |goto l=>exact hq.elim
 |ret=>exact⟨.ret,yP,vt,hq,ArrivesIn.of_steps (e:= .ret) (.one h0 s1) tY⟩
 |panic ch=>exact hq.elim
 |outgrown=>exact hq.elim
def Fm{Q:Exit->Act->ae->Prop}(iQ:Nat->Act->ae->Prop)(aaJ:iQ m a w)(round:∀m a w,iQ m a w->c.wpIn (Fw ro) 0 P (Exit.then (fun a' w'=>∃m',m'<m/\iQ m' a' w') Q) a w):(Code.loop c).wpIn (Fw ro) 0 P Q a w:=by
 intro b k cs Me hb hr;have key:∀m a w,iQ m a w→
   ∃e a' w',Q e a' w'/\ArrivesIn (Machine.fenced P (Fw ro)) P (lone (b.atR a (.code c:: .inLoop c::k)) cs w) b k cs e a' w':=by
  intro m
  induction m using Nat.strongRecOn with
  |_ m ih=>
   intro a w hI;obtain⟨e,yP,vt,hq,tY⟩:=round m a w hI b (.inLoop c::k) cs Me hb hr;cases e with
   |normal=>
    obtain⟨m',fR,aht⟩:=hq;obtain⟨ai9,agb,Fl,ag4,ac1⟩:=ih m' fR yP vt aht;exact⟨ai9,agb,Fl,ag4, .of_steps (StepsIn.trans tY (.one (fenced_calm hb hr rfl) stepR_inLoop)) ac1⟩
   |exit id=>exact⟨_,yP,vt,hq, .pass (x:= .inLoop c) rfl (fun _ _=> .inl sM) tY⟩
   |goto l=>exact⟨_,yP,vt,hq, .pass (x:= .inLoop c) rfl (fun _ _=> .inl sM) tY⟩
   |ret=>exact⟨_,yP,vt,hq, .pass (x:= .inLoop c) rfl (fun _ _=> .inl sM) tY⟩
   |panic ch=>exact⟨_,yP,vt,hq, .pass (x:= .inLoop c) rfl (fun _ _=> .inl sM) tY⟩
   |outgrown=>exact⟨_,yP,vt,hq, .pass (x:= .inLoop c) rfl (fun _ _=> .inl sM) tY⟩
 obtain⟨e,a',w',hq,tY⟩:=key m a w aaJ;exact⟨e,a',w',hq, .of_steps (.one (fenced_calm hb hr rfl) stepR_loop) tY⟩
def bx(iQ:Nat->jF)(hs:si e₀ e)(aaJ:iQ m e₀ w)(round:∀m e w,iQ m e w->X P n ro c (fun e' w'=>∃m',m'<m/\∃C2,si C2 e'/\iQ m' C2 w') hx F e w):X P n ro (.loop c) K hx F e w:=fun a ha=>
 Fm (fun m a w=>∃e,dZ n e a/\iQ m e w) (m:=m) ⟨e₀,ha.sub hs,aaJ⟩ fun m a w ⟨e,ha,hI⟩=>
  wpIn_mono (round m e w hI a ha) fun ex a w hq=>by
   cases ex<;>simp only[vF]at hq<;>simp only[Exit.then]
   case normal=>obtain⟨e',Y,m',hm,C2,hs,hI⟩:=hq;exact⟨m',hm,C2,Y.sub hs,hI⟩
   case ret=>exact hq
   case exit id=>exact hq
def dW{id:Nat}{l:List Nat}(hl:List.range O.size=l)(h:XL P n O false [] l K e w):X P n ro (.region id O false) K hx F e w:=fun a ha=>
 Hn (by rw[hl];exact h a ha)
def Y7{id:Nat}(perm:List Nat)(hm:P.follows .mixedOrders=true)(hB:acd P O n perm=true)(h:XL P n O true [] perm K e {w with drawn:=w.drawn+1}):
  X P n ro (.region id O true) K hx F e w:=fun a ha=>IZ perm hm hB ha.size (h a ha)
def DJ{id:Nat}{fs:bN}{t':aC}{p p':String}{af':Array Edge}{fn:Fn}{hm:o=⟨some d,o.op,o.type,p,af,none⟩}(hd:Nat.blt d n=true)(h:XL P n #[o] false [] [0] (fun e' w'=>get e' d=some (.func fn first captured)/\K ((1000000000, .func fn first captured)::e') w') e w):
  X P n none (.region id #[o,⟨none, .defer ⟨.value (.tmp d),#[],ts⟩,t',p',af',none⟩] false) K hx F e w:=fun a ha=>by
 refine wpIn_region ?_;have Y:=h a ha;simp only[cond]at Y;have XY:∀i:Nat,i<1->(#[o,(⟨none, .defer ⟨.value (.tmp d),#[],ts⟩,t',p',af',none⟩:aP)]:Array aP)[i]?=(#[o]:Array aP)[i]?:=fun i hi=>by
  have:i=0:=H;subst this;rfl
 show wpOpsIn (Fw none) 0 P _ (vF K hx F n) [0,1] a w
 rw[wpOpsIn_cons];have J:Ta P #[o] o (fun a' w'=>∃e',dZ n e' a'/\get e' d=some (.func fn first captured)/\K ((1000000000, .func fn first captured)::e') w') a w:=Y;have afH:o.guard=none:=by rw[hm]
 have h3:Ta P #[o,⟨none, .defer ⟨.value (.tmp d),#[],ts⟩,t',p',af',none⟩] o (fun a' w'=>∃e',dZ n e' a'/\get e' d=some (.func fn first captured)/\K ((1000000000, .func fn first captured)::e') w') a w:=by
  unfold Ta at J ⊢;have Z:∀y,Region.wanted o y=true:=fun y=>by simp[Region.wanted,afH]
  rw[aB (Z _)]at J ⊢;exact J
 refine ug rfl (fun a' w' h'=>?_) h3;obtain⟨e',FU,hg,hK⟩:=h';rw[wpOpsIn_cons];unfold wpOpIn;refine(show(if Region.wanted _ _=true then _ else _:Prop) from ?_);rw[aB (by simp[Region.wanted])];refine⟨fun _ _=>trivial,?_⟩;have Qo:a'.eval (.tmp d)= .func fn first captured:=FU.ev (x:= .tmp d) hg
 have lU:∀w',(execOp a'.eval (⟨none, .defer ⟨.value (.tmp d),#[],ts⟩,t',p',af',none⟩:aP)).run P w'= .ok (.defer (Hg (.func fn first captured))) w':=fun w'=>by
  simp[execOp,resolve,Qo,Deferred.ofValue,Hg]
 show Oper.uponIn (Fw none) 0 P (⟨none, .defer ⟨.value (.tmp d),#[],ts⟩,t',p',af',none⟩:aP) a' _ _ ((execOp a'.eval (⟨none, .defer ⟨.value (.tmp d),#[],ts⟩,t',p',af',none⟩:aP)).run P _)
 rw[lU,Oper.uponIn_defer];refine⟨_,⟨?_,FU.size,FU.small,fun t v hv=>?_⟩,hK⟩
 ·simp[marks,FU.defers,Act.put]
 rcases mz hv with⟨Y,_⟩|⟨_,J⟩
 ·exact aS Y.symm (zB hv)
 exact FU.get t v J
end
def SM(P:au)(f:bN)(args:Array C)(w:ae)(R:C->ae->Prop):Prop:=CallsDIn (Fw none) 0 P f args .returning w fun en u w'=>u= .returning/\bU R en w'
def nf(P:au)(n:Nat)(fn:Func)(R:C->ae->Prop):jF:=fun e w=>
 ∀a,dZ n e a->LeavesInM (Fw none) 0 P fn a.tmps (bU R) a.defers .returning w
def tL:Nat->List C->cX
 |_,[]=>[]
 |k,v::r=>(k,v)::tL (k+1) r
def Kh:∀(l:List C) (k t:Nat) (v:C),get (tL k l) t=some v->k<=t/\l[t-k]?=some v
 |[],_,_,_,h=>by cases h
 |u::l,k,t,v,h=>by
  rcases mz h with⟨rfl,rfl⟩|⟨hk,h⟩
  ·simp
  obtain⟨Y,J⟩:=Kh l (k+1) t v h;refine⟨H,?_⟩;rw[show t-k=(t-(k+1))+1 by omega]
  simpa using J
def D5:∀(l:List C) (k:Nat),k+l.length<=1000000->marks (tL k l)=[]
 |[],_,_=>rfl
 |u::l,k,h=>by
  simp only[tL];rw[mi (by simp at h;omega)];exact D5 l (k+1) (by simp at h;omega)
def Du(hle:Nat.ble args.length n=true)(hs:Nat.ble n 1000000=true):dZ n (tL 0 args) {tmps:=args.toArray++Array.replicate (n-args.toArray.size) undef,defers:=[]}:=by
 have aj2:args.length<=n:=by simpa using hle
 have hs':n<=1000000:=by simpa using hs
 refine⟨by rw[D5 args 0 H];rfl,by simp;omega,hs',fun t v hv=>?_⟩;obtain⟨_,J⟩:=Kh args 0 t v hv;have fR:t<args.length:=by
  rcases oA t args.length with h'|h'
  ·exact h'
  simp[yi h']at J
 simp only[Jz];rw[ae9 (by simpa using fR)];simp at J ⊢;simp[J]
def UT{c:Code}{R:C->ae->Prop}(hf:P.funcs[f]?=some fn)(hb:fn.body=some c)(hn:fn.ntmps=n)(hle:Nat.ble args.length n=true)(hs:Nat.ble n 1000000=true)(h:X P n none c (nf P n fn R) [] (nf P n fn R) (tL 0 args) w):aA P f args.toArray w (bU R):=by
 refine callsIn_wide (n:=0).1 (callsIn_of_wp_marks (F:=Fw none) hf hb trivial ?_);refine wpIn_mono (h _ (by rw[hn];exact Du hle hs)) fun ex a w hq=>?_
 cases ex<;>simp only[vF,tf,nf]at hq<;>simp only[bodyPostM]
 case normal=>obtain⟨e,ha,Y⟩:=hq;exact Y a ha
 case ret=>obtain⟨e,ha,Y⟩:=hq;exact Y a ha
 case exit=>obtain⟨K,hk,_⟩:=hq;cases hk
def aD(P:au)(w:ae)(t:aC)(a:Addr)(v:C):Prop:=(loadVar t a).run P w= .ok v w
def rB(P:au)(e:cX)(w:ae):ResultVar->C->Prop
 | .tmp t,v=>get e t=some v
 | .cell t ty,v=>∃a,get e t=some (.pointer (some a))/\aD P w ty a v
section
variable{R:C->ae->Prop}
def sj(P:au)(n:Nat)(fn:Func)(R:C->ae->Prop)(e:cX)(ds:List C)(w:ae):Prop:=
 ∀a,dZ n e a->LeavesInM (Fw none) 0 P fn a.tmps (bU R) (ds.map Hg) .returning w
def cV(hm:marks e=ds)(h:sj P n fn R e ds w):nf P n fn R e w:=fun a ha=>by rw[ha.defers,hm];exact h a ha
def sj.O8(h:∀a,dZ n e a->(results fn a.tmps).run P w= .ok v w)(hR:R v w):sj P n fn R e [] w:=fun a ha=>⟨v,h a ha,v,rfl,hR⟩
def JS(hr:fn.results=#[])(h:R (.tuple #[]) w):sj P n fn R e [] w:= .O8 (fun a _=>by simp[results,hr]) h
def w4(a:Act):ResultVar->Sem C
 | .tmp t=>pure (a.tmps.getD t undef)
 | .cell x t=>do loadVar t (<-asAddr (a.tmps.getD x undef))
def Ts(h:rB P e w r v)(ha:dZ n e a):(w4 a r).run P w= .ok v w:=by
 cases r with
 |tmp t=>simp only[w4,ha.get t v h];rfl
 |cell x ty=>
  obtain⟨q,Y,J⟩:=h;have S6:(loadVar ty q).run P w= .ok v w:=J;simp[w4,ha.get x _ Y,asAddr,S6]
inductive L2(P:au)(e:cX)(w:ae):List ResultVar->List C->Prop where
 |nil:L2 P e w [] []
 |cons {r:ResultVar} {v:C} {rs:List ResultVar} {vs:List C} (h:rB P e w r v) (h':L2 P e w rs vs):L2 P e w (r::rs) (v::vs)
def Tt{rs:List ResultVar}(h:L2 P e w rs vs)(ha:dZ n e a):(rs.mapM (w4 a)).run P w= .ok vs w:=by
 induction h with
 |nil=>rfl
 |cons h _ ih=>simp[Ts h ha,ih]
def y9{rs:List ResultVar}(hr:fn.results=rs.toArray)(h:L2 P e w rs vs)(ha:dZ n e a):(results fn a.tmps).run P w= .ok (if h:vs.toArray.size=1 then vs.toArray[0]else .tuple vs.toArray) w:=by
 have Y:=Tt h ha;have J:results fn a.tmps=(do let vs<-rs.toArray.mapM (w4 a);pure (if h:vs.size=1 then vs[0]else .tuple vs)):=by
  unfold results;rw[hr];rfl
 rw[J];simp only[List.mapM_toArray,bind_map_left,al,Y,ah,aG]
def xg(hr:fn.results=#[r])(hv:rB P e w r v)(h:R v w):sj P n fn R e [] w:= .O8 (fun a ha=>y9 (rs:=[r]) (vs:=[v]) hr (.cons hv .nil) ha) h
def JR(hr:fn.results=#[r,r'])(hv:rB P e w r v)(Mv:rB P e w r' v')(h:R (.tuple #[v,v']) w):sj P n fn R e [] w:= .O8 (fun a ha=>y9 (rs:=[r,r']) (vs:=[v,v']) hr (.cons hv (.cons Mv .nil)) ha) h
def afs{r'':ResultVar}(hr:fn.results=#[r,r',r''])(hv:rB P e w r v)(Mv:rB P e w r' v')(afy:rB P e w r'' v'')(h:R (.tuple #[v,v',v'']) w):sj P n fn R e [] w:= .O8 (fun a ha=>y9 (rs:=[r,r',r'']) (vs:=[v,v',v'']) hr (.cons hv (.cons Mv (.cons afy .nil))) ha) h
def s9{VX:bN}(hb:(∃f,P.funcs[VX]?=some f/\(f.name== "runtime.NumGoroutine")=false/\f.body.isNone=false))(hc:SM P VX (first++captured) w Q)(h:∀v w',Q v w'->sj P n fn R e ds w'):sj P n fn R e (.func (.func VX) first captured::ds) w:=fun a ha=>by
 refine⟨by simp, .inr ⟨(fun hd=>by cases hd), .func VX,captured,VX,first++captured,rfl,?_,fun _ _=>trivial,hc.1,fun c cs hm hr=>?_⟩⟩
 ·obtain⟨f,Y,J,h3⟩:=hb;simp only[Hg,invoke,callFunc,al,aG,ah,program,Sem.run,Y,J,h3];simp
 obtain⟨en,u',w',fr,⟨hu,v,hv,hQ⟩,hs,hk,hf,hg⟩:=hc.2 c cs hm (AZ none _);subst hv;exact⟨_,u',w',fr,by subst hu;exact h v w' hQ a ha,hs,hk,hf,hg⟩
def T1{D:Nat}(hD:w.heap[D]?=some (.deferred (some [])))(h:sj P n fn R e ds (w.putObj D (.deferred none))):sj P n fn R e (pQ D::ds) w:=fun a ha=>
 ⟨by simp, .inl ⟨D,_,rfl,run_takeDeferred hD,h a ha⟩⟩
def u6(hr:fn.results=#[])(hm:marks e=[])(h:R (.tuple #[]) w):nf P n fn R e w:=cV hm (JS hr h)
def dt(hr:fn.results=#[r])(hm:marks e=[])(hv:rB P e w r v)(h:R v w):nf P n fn R e w:=cV hm (xg hr hv h)
def ga(hr:fn.results=#[r,r'])(hm:marks e=[])(hv:rB P e w r v)(Mv:rB P e w r' v')(h:R (.tuple #[v,v']) w):nf P n fn R e w:=cV hm (JR hr hv Mv h)
def pH{r'':ResultVar}(hr:fn.results=#[r,r',r''])(hm:marks e=[])(hv:rB P e w r v)(Mv:rB P e w r' v')(afy:rB P e w r'' v'')(h:R (.tuple #[v,v',v'']) w):nf P n fn R e w:=cV hm (afs hr hv Mv afy h)
end
def sG(h:gd e' e:=by repeat(first|exact gd.nil _|refine gd.mark ?_|refine gd.cons rfl ?_)):gd e' e:=h
def sB(h:gd e' e:=by repeat(first|exact gd.nil _|refine gd.mark ?_|refine gd.cons rfl ?_))(h':marks e'=marks e:=by exact rfl):si e' e:=⟨h,h'⟩
abbrev vh:=Nat->Option Obj
variable{J Y h:vh}
abbrev aF:=vh->Prop
variable{As L L' M R g0:List aF}{A0 A1 A2 A3 A4 A5 A6 A7 A8 A9:aF}
structure Gh where
 os:Os
 tape:Nat->Question->Nat
 output:Array (Nat×ByteArray)
variable{G:Gh}
def UE(w:ae):Gh:=⟨w.os,w.tape,w.output⟩
def pt(b:Nat)(o:Obj):aF:=fun h=>h b=some o
def GD(Y J:vh):Prop:=∀b,Y b=none\/J b=none
def sZ(Y J:vh):vh:=fun b=>(Y b).or (J b)
def all:List aF->aF
 |[],_=>True
 |A::r,h=>∃Y J,GD Y J/\(∀b o,(sZ Y J) b=some o->h b=some o)/\A Y/\all r J
def aw(g:Gh)(L:List aF)(w:ae):Prop:=UE w=g/\∃h:vh,(∀b o,h b=some o->w.heap[b]?=some o)/\all L h
inductive dE(A:aF):List aF->List aF->Prop where
 |here {R:_}:dE A (A::R) R
 |there {B L R:_} (h:dE A L R):dE A (B::L) (B::R)
def pK{A:aF}(h:dE A L R:=by repeat(first|with_reducible exact dE.here|apply dE.there)):dE A L R:=h
def abz{h':vh}(hh:∀b o,h b=some o->h' b=some o)(ha:all L h):all L h':=by
 cases L with
 |nil=>trivial
 |cons A r=>obtain⟨Y,J,hd,hu,h3,h4⟩:=ha;exact⟨Y,J,hd,fun b o hb=>hh b o (hu b o hb),h3,h4⟩
def fU{b:Nat}{o:Obj}(h:Y b=some o):sZ Y J b=some o:=by simp[sZ,h]
def fX(hd:GD Y J){b:Nat}{o:Obj}(h:J b=some o):sZ Y J b=some o:=by
 have:Y b=none:=(hd b).resolve_right (by simp[h]);simp[sZ,this,h]
def eO{b:Nat}{o:Obj}(h:sZ Y J b=some o):Y b=some o\/J b=some o:=by
 unfold sZ at h;cases e:Y b with
 |none=>rw[e]at h;simp at h;exact .inr h
 |some x=>rw[e]at h;simp at h;exact .inl (by rw[h])
def SE{A B:aF}(ha:all (A::B::R) h):all (B::A::R) h:=by
 obtain⟨Y,J,hd,hu,hA,h3,h4,vk,VL,hB,hR⟩:=ha;have e:∀b o,h3 b=some o->J b=some o:=fun b o hb=>VL b o (fU hb)
 have e':∀b o,h4 b=some o->J b=some o:=fun b o hb=>VL b o (fX vk hb)
 have Be:∀{x y:vh},(∀b o,x b=some o->y b=some o)->∀b,y b=none->x b=none:=fun hxy b hy=>by
  cases E:(_:vh) b with
  |none=>exact E
  |some o=>rw[hxy b o E]at hy;cases hy
 have d14:GD Y h4:=fun b=>(hd b).imp id (Be e' b)
 have d13:GD Y h3:=fun b=>(hd b).imp id (Be e b)
 refine⟨h3,sZ Y h4,fun b=>?_,fun b o hb=>?_,hB,Y,h4,d14,fun b o hb=>hb,hA,hR⟩
 ·cases x3:h3 b with
  |none=>exact .inl rfl
  |some o=>
   refine .inr ?_;have y1:Y b=none:=(d13 b).resolve_right (by simp[x3]);have y4:h4 b=none:=(vk b).resolve_left (by simp[x3]);simp[sZ,y1,y4]
 rcases eO hb with hb|hb
 ·exact hu b o (fX hd (e b o hb))
 rcases eO hb with hb|hb
 ·exact hu b o (fU hb)
 exact hu b o (fX hd (e' b o hb))
def LR{A:aF}(ha:A h):all [A] h:=by
 refine⟨h,fun _=>none,fun b=> .inr rfl,fun b o hb=>?_,ha,trivial⟩;rcases eO hb with h|h
 ·exact h
 cases h
def jK{A:aF}(hh:∀h,all L h->all L' h)(ha:all (A::L) h):all (A::L') h:=by
 obtain⟨Y,J,hd,hu,hA,hL⟩:=ha;exact⟨Y,J,hd,hu,hA,hh _ hL⟩
def LS{A:aF}(p:dE A L R):∀h,all L h->all (A::R) h:=by
 induction p with
 |here=>exact fun _ h=>h
 |there _ ih=>exact fun h ha=>SE (jK ih ha)
def U1{A:aF}(p:dE A L R):∀h,all (A::R) h->all L h:=by
 induction p with
 |here=>exact fun _ h=>h
 |there _ ih=>exact fun h ha=>jK ih (SE ha)
section
variable{g:Gh}{A B:aF}{b:Nat}{o:Obj}
def aw.mono(hh:∀h,all L h->all L' h)(h:aw g L w):aw g L' w:=⟨h.1,let⟨x,Y,J⟩:=h.2;⟨x,Y,hh _ J⟩⟩
def aw.pick(h:aw g L w)(p:dE A L R):aw g (A::R) w:=h.mono (LS p)
inductive pP:List aF->List aF->List aF->Prop where
 |nil {L:List aF}:pP [] L L
 |cons {A:aF} {As L M R:List aF} (h:dE A L M) (h':pP As M R):pP (A::As) L R
def aw.of_eq(h:aw g L w)(e:L=L'):aw g L' w:=e▸h
def aw.Tn(h:aw g (A::R) w)(p:dE A L R):aw g L w:=h.mono (U1 p)
def aw.gN(hh:∀h,A h->B h)(h:aw g (A::R) w):aw g (B::R) w:=
 h.mono (L:=A::R) (L':=B::R) fun _ ⟨Y,J,hd,hu,hA,hR⟩=>⟨Y,J,hd,hu,hh _ hA,hR⟩
def aw.tail(h:aw g (A::R) w):aw g R w:=⟨h.1,let⟨x,E,Y,J,hd,hu,_,hR⟩:=h.2;⟨J,fun b o hb=>E b o (hu b o (fX hd hb)),hR⟩⟩
def aw.drop(h:aw g L w)(p:dE A L R):aw g R w:=(h.pick p).tail
def aw.head(h:aw g (A::R) w):aw g [A] w:=⟨h.1,let⟨x,E,Y,J,hd,hu,hA,_⟩:=h.2
 ⟨Y,fun b o hb=>E b o (hu b o (fU hb)),LR hA⟩⟩
def aw.eh(h:aw g (pt b o::R) w):w.heap[b]?=some o:=by
 obtain⟨_,x,E,Y,J,hd,hu,hA,_⟩:=h;exact E b o (hu b o (fU hA))
def aw.pt(h:aw g L w)(p:dE (X.pt b o) L R):w.heap[b]?=some o:=(h.pick p).eh
def aw.ne{c:Nat}{o':Obj}(h:aw g (X.pt b o::X.pt c o'::R) w):b≠c:=by
 obtain⟨_,x,E,Y,J,hd,hu,hA,h3,h4,vk,VL,hB,_⟩:=h;rintro rfl;have h1b:Y b=some o:=hA;have h2b:J b=some o':=VL b o' (fU hB);rcases hd b with h|h
 ·rw[h1b]at h;cases h
 rw[h2b]at h;cases h
def aw.size(h:aw g (X.pt b o::R) w):b<w.heap.size:=by
 have:=h.eh;exact(mV.1 this).1
def aw.drawn(h:aw g L w)(n:Nat):aw g L {w with drawn:=n}:=h
def aw.push(h:aw g L w)(o:Obj):aw g (X.pt w.heap.size o::L) {w with heap:=w.heap.push o}:=by
 obtain⟨hg,x,E,hL⟩:=h;refine⟨hg,fun b=>if b=w.heap.size then some o else x b,fun b o' hb=>?_,fun b=>if b=w.heap.size then some o else none,x,fun b=>?_,fun b o' hb=>?_,?_,hL⟩
 ·simp only at hb;split at hb
  ·rename_i e;subst e;cases hb;simp
  have Y:=E b o' hb;have J:=(mV.1 Y).1;simp only;rw[ZS H];rw[<-Y,Hx]
 ·by_cases e:b=w.heap.size
  ·refine .inr ?_;cases hb:x b with
   |none=>rfl
   |some o'=>have Y:=(mV.1 (E b o' hb)).1;omega
  exact .inl (by simp[e])
 ·rcases eO hb with hb|hb
  ·simp only at hb ⊢;split at hb
   ·rename_i e;simp[e,hb]
   cases hb
  simp only;split
  ·rename_i e;have Y:=(mV.1 (E b o' hb)).1;omega
  exact hb
 simp[X.pt]
def aw.set(h:aw g (X.pt b o::R) w)(o':Obj):aw g (X.pt b o'::R) {w with heap:=w.heap.setIfInBounds b o'}:=by
 have fR:=h.size;obtain⟨hg,x,E,Y,J,hd,hu,hA,hR⟩:=h;have h2b:J b=none:=(hd b).resolve_left (by have:Y b=some o:=hA;simp[this]);refine⟨hg,fun k=>if k=b then some o' else J k,fun k u hk=>?_,fun k=>if k=b then some o' else none,J,fun k=>?_,fun k u hk=>?_,by simp[X.pt],hR⟩
 ·simp only at hk;split at hk
  ·rename_i e;subst e;cases hk;simp[fR]
  rename_i e;simp only;rw[Bz (fun e'=>e e'.symm)];exact E k u (hu k u (fX hd hk))
 ·by_cases e:k=b
  ·exact .inr (by rw[e];exact h2b)
  exact .inl (by simp[e])
 rcases eO hk with hk|hk
 ·simp only at hk ⊢;split at hk
  ·rename_i e;simp[e,hk]
  cases hk
 simp only;split
 ·rename_i e;rw[e,h2b]at hk;cases hk
 exact hk
def Old(w0:ae):aF:=fun h=>∀b o,w0.heap[b]?=some o->h b=some o
def aw.start(w:ae):aw (UE w) [Old w] w:=
 ⟨rfl,fun b=>w.heap[b]?,fun _ _ h=>h,LR fun _ _ h=>h⟩
def aw.JJ{w0:ae}(h:aw g (Old w0::R) w){b:Nat}{o:Obj}(hb:w0.heap[b]?=some o):w.heap[b]?=some o:=by
 obtain⟨_,x,E,Y,J,hd,hu,hA,_⟩:=h;exact E b o (hu b o (fU (hA b o hb)))
def ex(F:α->aF):aF:=fun h=>∃x,F x h
def mr(p:Prop)(A:aF):aF:=fun h=>p/\A h
def bt(M:List aF):aF:=all M
def aw.nt{F:α->aF}(h:aw g (ex F::R) w):∃x,aw g (F x::R) w:=by
 obtain⟨hg,x,E,Y,J,hd,hu,⟨y,hA⟩,hR⟩:=h;exact⟨y,hg,x,E,Y,J,hd,hu,hA,hR⟩
def aw.oU{F:α->aF}(x:α)(h:aw g (F x::R) w):aw g (ex F::R) w:=h.gN fun _ h=>⟨x,h⟩
def aw.lf(h:aw g (mr p A::R) w):p/\aw g (A::R) w:=by
 obtain⟨hg,x,E,Y,J,hd,hu,⟨hp,hA⟩,hR⟩:=h;exact⟨hp,hg,x,E,Y,J,hd,hu,hA,hR⟩
def aw.qE(hp:p)(h:aw g (A::R) w):aw g (mr p A::R) w:=h.gN fun _ h=>⟨hp,h⟩
def all_append:∀(M:List aF) (R:List aF) (h:vh),all (bt M::R) h↔all (M++R) h
 |[],R,h=>⟨fun⟨Y,J,hd,hu,_,hR⟩=>abz (fun b o hb=>hu b o (fX hd hb)) hR,
   fun hR=>⟨fun _=>none,h,fun b=> .inl rfl,fun b o hb=>by rcases eO hb with h|h<;>first|cases h|exact h,trivial,hR⟩⟩
 |A::M,R,h=>by
  constructor
  ·rintro⟨Y,J,hd,hu,⟨h3,h4,vk,VL,hA,hM⟩,hR⟩;have e3:∀b o,h3 b=some o->Y b=some o:=fun b o hb=>VL b o (fU hb)
   have e4:∀b o,h4 b=some o->Y b=some o:=fun b o hb=>VL b o (fX vk hb)
   have Be:∀{x y:vh},(∀b o,x b=some o->y b=some o)->∀b,y b=none->x b=none:=fun hxy b hy=>by
    cases E:(_:vh) b with
    |none=>exact E
    |some o=>rw[hxy b o E]at hy;cases hy
   have d42:GD h4 J:=fun b=>(hd b).imp (Be e4 b) id
   refine⟨h3,sZ h4 J,fun b=>?_,fun b o hb=>?_,hA,(all_append M R _).1 ⟨h4,J,d42,fun _ _ h=>h,hM,hR⟩⟩
   ·cases x3:h3 b with
    |none=>exact .inl rfl
    |some o=>
     refine .inr ?_;have y4:h4 b=none:=(vk b).resolve_left (by simp[x3]);have y2:J b=none:=(hd b).resolve_left (by simp[e3 b o x3]);simp[sZ,y2,y4]
   rcases eO hb with hb|hb
   ·exact hu b o (fU (e3 b o hb))
   rcases eO hb with hb|hb
   ·exact hu b o (fU (e4 b o hb))
   exact hu b o (fX hd hb)
  rintro⟨h3,h5,hd,hu,hA,hMR⟩;obtain⟨h4,J,vk,VL,hM,hR⟩:=(all_append M R h5).2 hMR;have e4:∀b o,h4 b=some o->h5 b=some o:=fun b o hb=>VL b o (fU hb)
  have e2:∀b o,J b=some o->h5 b=some o:=fun b o hb=>VL b o (fX vk hb)
  have Be:∀{x y:vh},(∀b o,x b=some o->y b=some o)->∀b,y b=none->x b=none:=fun hxy b hy=>by
   cases E:(_:vh) b with
   |none=>exact E
   |some o=>rw[hxy b o E]at hy;cases hy
  have d34:GD h3 h4:=fun b=>(hd b).imp id (Be e4 b)
  refine⟨sZ h3 h4,J,fun b=>?_,fun b o hb=>?_,⟨h3,h4,d34,fun _ _ h=>h,hA,hM⟩,hR⟩
  ·cases x2:J b with
   |none=>exact .inr rfl
   |some o=>
    refine .inl ?_;have y4:h4 b=none:=(vk b).resolve_right (by simp[x2]);have y3:h3 b=none:=(hd b).resolve_right (by simp[e2 b o x2]);simp[sZ,y3,y4]
  rcases eO hb with hb|hb
  ·rcases eO hb with hb|hb
   ·exact hu b o (fU hb)
   exact hu b o (fX hd (e4 b o hb))
  exact hu b o (fX hd (e2 b o hb))
def aw.eY(h:aw g (bt M::R) w):aw g (M++R) w:=h.mono fun _=>(all_append M R _).1
def aw.bJ(h:aw g (M++R) w):aw g (bt M::R) w:=h.mono fun _=>(all_append M R _).2
def uJ{A:aF}(h:aw G (M++R) w)(f:∀h,all M h->A h):aw G (A::R) w:=(aw.bJ h).gN f
def nU{A:aF}(h:aw G (A::R) w):∃hh,A hh/\∀M,all M hh->aw G (M++R) w:=by
 obtain⟨hg,x,E,Y,J,hd,hu,hA,hR⟩:=h;exact⟨Y,hA,fun M hM=>aw.eY ⟨hg,x,E,Y,J,hd,hu,hM,hR⟩⟩
def Yv(p:pP As L R):∀h,all L h->all (As++R) h:=by
 induction p with
 |nil=>exact fun _ h=>h
 |cons h _ ih=>exact fun x ha=>jK ih (LS h x ha)
inductive yg:List aF->List aF->List aF->Prop where
 |nil {L:List aF}:yg [] L L
 |cons {A:aF} {As L M g0:List aF} (h:dE A L M) (h':yg As M g0):yg (A::As) L (A::g0)
def bR(h:yg As L M:=by repeat(first|exact yg.nil|(apply yg.cons;repeat(first|with_reducible exact dE.here|apply dE.there)))):yg As L M:=h
def OB(p:yg As L g0):∀h,all L h->all g0 h:=by
 induction p with
 |nil=>exact fun _ h=>h
 |cons h _ ih=>exact fun x ha=>jK ih (LS h x ha)
def aw.LG(h:aw g L w)(p:yg As L g0):aw g g0 w:=h.mono (OB p)
def aw.JD(h:aw g L w)(p:pP As L R):aw g (As++R) w:=h.mono (Yv p)
def aL(L:List aF)(p:ae->Prop):Prop:=∀g w,aw g L w->p w
def aL.at{p:ae->Prop}(k:aL L p)(h:aw g L w):p w:=k g w h
def aL.cons{p:ae->Prop}(k:aL L p)(A:aF):aL (A::L) p:=fun g w h=>k g w h.tail
def aL.head{p:ae->Prop}(k:aL [A] p)(R:List aF):aL (A::R) p:=fun g w h=>k g w h.head
def aL.pick{p:ae->Prop}(k:aL (A::R) p)(q:dE A L R):aL L p:=fun g w h=>k g w (h.pick q)
inductive Qr:List aF->List aF->Prop where
 |refl (L:List aF):Qr L L
 |cons {L L':List aF} {A:aF} (h:Qr L L'):Qr L (A::L')
def sF(h:Qr L L':=by repeat(first|exact Qr.refl _|apply Qr.cons)):Qr L L':=h
def aL.of{p:ae->Prop}(k:aL L p)(s:Qr L L'):aL L' p:=by
 induction s with
 |refl=>exact k
 |cons _ ih=>exact aL.cons ih _
def aL.mono{p q:ae->Prop}(k:aL L p)(h:∀w,p w->q w):aL L q:=fun g w hh=>h _ (k g w hh)
end
def aw.t2{g:Gh}(h:aw g (A0::A1::L) w):aw g L w:=h.tail.tail
def aw.t3{g:Gh}(h:aw g (A0::A1::A2::L) w):aw g L w:=h.tail.tail.tail
def aw.t4{g:Gh}(h:aw g (A0::A1::A2::A3::L) w):aw g L w:=h.tail.tail.tail.tail
def aw.t5{g:Gh}(h:aw g (A0::A1::A2::A3::A4::L) w):aw g L w:=h.tail.tail.tail.tail.tail
def aw.t6{g:Gh}(h:aw g (A0::A1::A2::A3::A4::A5::L) w):aw g L w:=h.tail.tail.tail.tail.tail.tail
def aw.t7{g:Gh}(h:aw g (A0::A1::A2::A3::A4::A5::A6::L) w):aw g L w:=h.tail.tail.tail.tail.tail.tail.tail
def aw.t8{g:Gh}(h:aw g (A0::A1::A2::A3::A4::A5::A6::A7::L) w):aw g L w:=h.tail.tail.tail.tail.tail.tail.tail.tail
def aw.t9{g:Gh}(h:aw g (A0::A1::A2::A3::A4::A5::A6::A7::A8::L) w):aw g L w:=h.tail.tail.tail.tail.tail.tail.tail.tail.tail
def aw.t10{g:Gh}(h:aw g (A0::A1::A2::A3::A4::A5::A6::A7::A8::A9::L) w):aw g L w:=h.tail.tail.tail.tail.tail.tail.tail.tail.tail.tail
def aw.t11{g:Gh}{A10:aF}(h:aw g (A0::A1::A2::A3::A4::A5::A6::A7::A8::A9::A10::L) w):aw g L w:=h.tail.tail.tail.tail.tail.tail.tail.tail.tail.tail.tail
def aw.t12{g:Gh}{A10 A11:aF}(h:aw g (A0::A1::A2::A3::A4::A5::A6::A7::A8::A9::A10::A11::L) w):aw g L w:=h.tail.tail.tail.tail.tail.tail.tail.tail.tail.tail.tail.tail
def aw.b{g:Gh}(h:aw g L w)(As:List aF)(p:yg As L g0:=by repeat(first|exact yg.nil|(apply yg.cons;repeat(first|with_reducible exact dE.here|apply dE.there)))):aw g g0 w:=h.mono (OB p)
def rh(e:cX):aM->C:=fun x=>(ev e x).getD undef
def bM(h:ev e x=some v):rh e x=v:=by simp[rh,h]
def OY(h:ev e x=some v):ev e x=some (rh e x):=by simp[rh,h]
def HA(E:ev e x=some v){z:aM}(hz:z=x):ev e z=some (rh e z):=by subst hz;exact OY E
def Hz(E:ev e x=some v)(hy:ev e y=some u){z:aM}(hz:z=x\/z=y):ev e z=some (rh e z):=hz.elim (HA E) (HA hy)
def oh3{c:aM}{s:C}(E:ev e x=some v)(hy:ev e y=some u)(hc:ev e c=some s){z:aM}(hz:z=x\/z=y\/z=c):ev e z=some (rh e z):=hz.elim (HA E) (Hz hy hc)
def V0(e:cX):List aM->Option (List C)
 |[]=>some []
 |x::r=>match ev e x,V0 e r with
  |some v,some vs=>some (v::vs)
  |_,_=>none
def xu{e:cX}:∀{xs:List aM} {vs:List C},V0 e xs=some vs->(∀z∈xs,ev e z=some (rh e z))/\xs.map (rh e)=vs
 |[],_,h=>by simp[V0]at h;subst h;simp
 |x::r,vs,h=>by
  simp only[V0]at h;split at h
  ·rename_i v vs' Y J;cases h;obtain⟨h3,h4⟩:=xu J;refine⟨fun z hz=>?_,by simp[bM Y,h4]⟩;rcases cE.1 hz with rfl|hz
   ·exact OY Y
   exact h3 z hz
  cases h
def jd{x:Int}(h:-9223372036854775808<=x/\x<=9223372036854775807):IntKind.i64.wrap x=x:=by rw[IntKind.wrap_i64];omega
section
variable{done r:List Nat}{p:String}
def agt(ho:O[i]?=some ⟨some d, .move x,t,p,af,g⟩)(E:ev e x=some v)(h:XL P n O dr (i::done) r K ((d,v)::e) w)(hd:Nat.blt d n=true:=by exact rfl)(hg:Gd O e g:=by exact gD):XL P n O dr done (i::r) K e w:=
 fC ho (by simpa [dA]using hd) hg (ρ:=rh e) (by intro z hZ;simp[Op.operands]at hZ;exact HA E hZ) rfl (v:=v) (fun w'=>by simp[execOp,bM E]) h
def ahL(ho:O[i]?=some ⟨some d, .assign x,t,p,af,g⟩)(E:ev e x=some v)(h:XL P n O dr (i::done) r K ((d,v)::e) w)(hd:Nat.blt d n=true:=by exact rfl)(hg:Gd O e g:=by exact gD):XL P n O dr done (i::r) K e w:=
 fC ho (by simpa [dA]using hd) hg (ρ:=rh e) (by intro z hZ;simp[Op.operands]at hZ;exact HA E hZ) rfl (v:=v) (fun w'=>by simp[execOp,bM E]) h
def Y5{c a b:aM}{q:Bool}(ho:O[i]?=some ⟨some d, .pick c a b,t,p,af,g⟩)(hc:ev e c=some (.bool q))(ha:ev e a=some va)(hb:ev e b=some vb)(h:XL P n O dr (i::done) r K ((d,cond q va vb)::e) w)(hd:Nat.blt d n=true:=by exact rfl)(hg:Gd O e g:=by exact gD):XL P n O dr done (i::r) K e w:=
 fC ho (by simpa [dA]using hd) hg (ρ:=rh e) (by intro z hZ;simp[Op.operands]at hZ;exact oh3 hc ha hb hZ) rfl (v:=cond q va vb)
  (fun w'=>by cases q<;>simp[execOp,bM hc,bM ha,bM hb,asBool]) h
def iM{c a b:aM}(ho:O[i]?=some ⟨some d, .pick c a b,t,p,af,g⟩)(hc:ev e c=some (.bool true))(ha:ev e a=some va)(hb:ev e b=some vb)(h:XL P n O dr (i::done) r K ((d,va)::e) w)(hd:Nat.blt d n=true:=by exact rfl)(hg:Gd O e g:=by exact gD):XL P n O dr done (i::r) K e w:=Y5 (hd:=hd) (hg:=hg) ho hc ha hb h
def iw{c a b:aM}(ho:O[i]?=some ⟨some d, .pick c a b,t,p,af,g⟩)(hc:ev e c=some (.bool false))(ha:ev e a=some va)(hb:ev e b=some vb)(h:XL P n O dr (i::done) r K ((d,vb)::e) w)(hd:Nat.blt d n=true:=by exact rfl)(hg:Gd O e g:=by exact gD):XL P n O dr done (i::r) K e w:=Y5 (hd:=hd) (hg:=hg) ho hc ha hb h
def jS{u:aC}{vx vy:C}(ho:O[i]?=some ⟨some d, .binOp op s x y u,t,p,af,g⟩)(hk:eQ P (.binOp op s x y u)=0)(E:ev e x=some vx)(hy:ev e y=some vy)(hr:∀w',(do eqGuard op s x y vx vy;binOp op s vx vy:Sem C).run P w'= .ok v w')(h:XL P n O dr (i::done) r K ((d,v)::e) w)(hd:Nat.blt d n=true:=by exact rfl)(hg:Gd O e g:=by exact gD):XL P n O dr done (i::r) K e w:=
 fC ho (by simpa [dA]using hd) hg (ρ:=rh e) (by intro z hZ;simp[Op.operands]at hZ;exact Hz E hy hZ) hk (v:=v)
  (fun w'=>by
   have:=hr w';simp only[execOp,bM E,bM hy];rw[al,this];rfl) h
def cT{k:IntKind}{a b:Int}:(eqGuard op s x y (.int k a) (.int k' b)).run P w= .ok () w:=by
 unfold eqGuard;cases op<;>simp
def bk{u:aC}(h:(op matches .eql| .neq)=false):eQ P (.binOp op s x y u)=0:=by
 unfold eQ;cases op<;>first|rfl|(simp at h)
variable{u:aC}{k:IntKind}{a b:Int}
def NA(ho:O[i]?=some ⟨some d, .binOp .add s x y u,t,p,af,g⟩)(E:ev e x=some (.int k a))(hy:ev e y=some (.int k b))
  (h:XL P n O dr (i::done) r K ((d, .int k (k.wrap (a+b)))::e) w)(hd:Nat.blt d n=true:=by exact rfl)(hg:Gd O e g:=by exact gD):XL P n O dr done (i::r) K e w:=
 jS (hd:=hd) (hg:=hg) ho (bk rfl) E hy (fun w'=>by simp[cT,binOp,Op.intArith]) h
def Y3(ho:O[i]?=some ⟨some d, .binOp .sub s x y u,t,p,af,g⟩)(E:ev e x=some (.int k a))(hy:ev e y=some (.int k b))
  (h:XL P n O dr (i::done) r K ((d, .int k (k.wrap (a-b)))::e) w)(hd:Nat.blt d n=true:=by exact rfl)(hg:Gd O e g:=by exact gD):XL P n O dr done (i::r) K e w:=
 jS (hd:=hd) (hg:=hg) ho (bk rfl) E hy (fun w'=>by simp[cT,binOp,Op.intArith]) h
def aef(ho:O[i]?=some ⟨some d, .binOp .mul s x y u,t,p,af,g⟩)(E:ev e x=some (.int k a))(hy:ev e y=some (.int k b))
  (h:XL P n O dr (i::done) r K ((d, .int k (k.wrap (a*b)))::e) w)(hd:Nat.blt d n=true:=by exact rfl)(hg:Gd O e g:=by exact gD):XL P n O dr done (i::r) K e w:=
 jS (hd:=hd) (hg:=hg) ho (bk rfl) E hy (fun w'=>by simp[cT,binOp,Op.intArith]) h
def U'(ho:O[i]?=some ⟨some d, .binOp .quo s x y u,t,p,af,g⟩)(E:ev e x=some (.int k a))(hy:ev e y=some (.int k b))(hb:b≠0)
  (h:XL P n O dr (i::done) r K ((d, .int k (k.wrap (a.tdiv b)))::e) w)(hd:Nat.blt d n=true:=by exact rfl)(hg:Gd O e g:=by exact gD):XL P n O dr done (i::r) K e w:=
 jS (hd:=hd) (hg:=hg) ho (bk rfl) E hy (fun w'=>by simp[cT,binOp,Op.intDiv,hb]) h
def aee(ho:O[i]?=some ⟨some d, .binOp .rem s x y u,t,p,af,g⟩)(E:ev e x=some (.int k a))(hy:ev e y=some (.int k b))(hb:b≠0)
  (h:XL P n O dr (i::done) r K ((d, .int k (a.tmod b))::e) w)(hd:Nat.blt d n=true:=by exact rfl)(hg:Gd O e g:=by exact gD):XL P n O dr done (i::r) K e w:=
 jS (hd:=hd) (hg:=hg) ho (bk rfl) E hy (fun w'=>by simp[cT,binOp,Op.intDiv,hb]) h
def CG(ho:O[i]?=some ⟨some d, .binOp .add s x y u,t,p,af,g⟩)(E:ev e x=some (I a))(hy:ev e y=some (I b))(hb:-9223372036854775808<=a+b/\a+b<=9223372036854775807)
  (h:XL P n O dr (i::done) r K ((d,I (a+b))::e) w)(hd:Nat.blt d n=true:=by exact rfl)(hg:Gd O e g:=by exact gD):XL P n O dr done (i::r) K e w:=NA (hd:=hd) (hg:=hg) ho E hy (by rw[jd hb];exact h)
def uO(ho:O[i]?=some ⟨some d, .binOp .sub s x y u,t,p,af,g⟩)(E:ev e x=some (I a))(hy:ev e y=some (I b))(hb:-9223372036854775808<=a-b/\a-b<=9223372036854775807)
  (h:XL P n O dr (i::done) r K ((d,I (a-b))::e) w)(hd:Nat.blt d n=true:=by exact rfl)(hg:Gd O e g:=by exact gD):XL P n O dr done (i::r) K e w:=Y3 (hd:=hd) (hg:=hg) ho E hy (by rw[jd hb];exact h)
def lx(ho:O[i]?=some ⟨some d, .binOp .mul s x y u,t,p,af,g⟩)(E:ev e x=some (I a))(hy:ev e y=some (I b))(hb:-9223372036854775808<=a*b/\a*b<=9223372036854775807)
  (h:XL P n O dr (i::done) r K ((d,I (a*b))::e) w)(hd:Nat.blt d n=true:=by exact rfl)(hg:Gd O e g:=by exact gD):XL P n O dr done (i::r) K e w:=aef (hd:=hd) (hg:=hg) ho E hy (by rw[jd hb];exact h)
def yW(ho:O[i]?=some ⟨some d, .binOp .quo s x y u,t,p,af,g⟩)(E:ev e x=some (I a))(hy:ev e y=some (I b))(ha:0<=a/\a<=9223372036854775807)(hb:1<=b)
  (h:XL P n O dr (i::done) r K ((d,I (a/b))::e) w)(hd:Nat.blt d n=true:=by exact rfl)(hg:Gd O e g:=by exact gD):XL P n O dr done (i::r) K e w:=U' (hd:=hd) (hg:=hg) ho E hy H (by
   have Y:a.tdiv b=a/b:=ae8 ha.1;have J:0<=a/b:=Int.ediv_nonneg ha.1 H;have h3:a/b<=a:=Int.ediv_le_self b ha.1;rw[Y,jd ⟨H,H⟩];exact h)
def Tg(ho:O[i]?=some ⟨some d, .binOp .rem s x y u,t,p,af,g⟩)(E:ev e x=some (I a))(hy:ev e y=some (I b))(ha:0<=a)(hb:1<=b)
  (h:XL P n O dr (i::done) r K ((d,I (a%b))::e) w)(hd:Nat.blt d n=true:=by exact rfl)(hg:Gd O e g:=by exact gD):XL P n O dr done (i::r) K e w:=aee (hd:=hd) (hg:=hg) ho E hy H (by
   have Y:a.tmod b=a%b:=Int.tmod_eq_emod_of_nonneg ha;rw[Y];exact h)
def agH(ho:O[i]?=some ⟨some d, .binOp .and s x y u,t,p,af,g⟩)(E:ev e x=some (.int k a))(hy:ev e y=some (.int k b))
  (h:XL P n O dr (i::done) r K ((d, .int k (k.wrap (BitVec.ofInt k.bits a&&&BitVec.ofInt k.bits b).toNat))::e) w)(hd:Nat.blt d n=true:=by exact rfl)(hg:Gd O e g:=by exact gD):XL P n O dr done (i::r) K e w:=
 jS (hd:=hd) (hg:=hg) ho (bk rfl) E hy (fun w'=>by simp[cT,binOp,Op.intBits]) h
def ahI(ho:O[i]?=some ⟨some d, .binOp .or s x y u,t,p,af,g⟩)(E:ev e x=some (.int k a))(hy:ev e y=some (.int k b))
  (h:XL P n O dr (i::done) r K ((d, .int k (k.wrap (BitVec.ofInt k.bits a|||BitVec.ofInt k.bits b).toNat))::e) w)(hd:Nat.blt d n=true:=by exact rfl)(hg:Gd O e g:=by exact gD):XL P n O dr done (i::r) K e w:=
 jS (hd:=hd) (hg:=hg) ho (bk rfl) E hy (fun w'=>by simp[cT,binOp,Op.intBits]) h
def aed(ho:O[i]?=some ⟨some d, .binOp .xor s x y u,t,p,af,g⟩)(E:ev e x=some (.int k a))(hy:ev e y=some (.int k b))
  (h:XL P n O dr (i::done) r K ((d, .int k (k.wrap (BitVec.ofInt k.bits a^^^BitVec.ofInt k.bits b).toNat))::e) w)(hd:Nat.blt d n=true:=by exact rfl)(hg:Gd O e g:=by exact gD):XL P n O dr done (i::r) K e w:=
 jS (hd:=hd) (hg:=hg) ho (bk rfl) E hy (fun w'=>by simp[cT,binOp,Op.intBits]) h
def agu(ho:O[i]?=some ⟨some d, .binOp .lss s x y u,t,p,af,g⟩)(E:ev e x=some (.int k a))(hy:ev e y=some (.int k b))
  (h:XL P n O dr (i::done) r K ((d, .bool (decide (a<b)))::e) w)(hd:Nat.blt d n=true:=by exact rfl)(hg:Gd O e g:=by exact gD):XL P n O dr done (i::r) K e w:=
 jS (hd:=hd) (hg:=hg) ho (bk rfl) E hy (fun w'=>by simp[cT,binOp,Op.intCmp]) h
def agv(ho:O[i]?=some ⟨some d, .binOp .leq s x y u,t,p,af,g⟩)(E:ev e x=some (.int k a))(hy:ev e y=some (.int k b))
  (h:XL P n O dr (i::done) r K ((d, .bool (decide (a<=b)))::e) w)(hd:Nat.blt d n=true:=by exact rfl)(hg:Gd O e g:=by exact gD):XL P n O dr done (i::r) K e w:=
 jS (hd:=hd) (hg:=hg) ho (bk rfl) E hy (fun w'=>by simp[cT,binOp,Op.intCmp]) h
def agw(ho:O[i]?=some ⟨some d, .binOp .gtr s x y u,t,p,af,g⟩)(E:ev e x=some (.int k a))(hy:ev e y=some (.int k b))
  (h:XL P n O dr (i::done) r K ((d, .bool (decide (b<a)))::e) w)(hd:Nat.blt d n=true:=by exact rfl)(hg:Gd O e g:=by exact gD):XL P n O dr done (i::r) K e w:=
 jS (hd:=hd) (hg:=hg) ho (bk rfl) E hy (fun w'=>by simp[cT,binOp,Op.intCmp]) h
def agx(ho:O[i]?=some ⟨some d, .binOp .geq s x y u,t,p,af,g⟩)(E:ev e x=some (.int k a))(hy:ev e y=some (.int k b))
  (h:XL P n O dr (i::done) r K ((d, .bool (decide (b<=a)))::e) w)(hd:Nat.blt d n=true:=by exact rfl)(hg:Gd O e g:=by exact gD):XL P n O dr done (i::r) K e w:=
 jS (hd:=hd) (hg:=hg) ho (bk rfl) E hy (fun w'=>by simp[cT,binOp,Op.intCmp]) h
def agB(ho:O[i]?=some ⟨some d, .binOp .eql s x y u,t,p,af,g⟩)(hk:eQ P (.binOp .eql s x y u)=0)(E:ev e x=some (.int k a))(hy:ev e y=some (.int k b))
  (h:XL P n O dr (i::done) r K ((d, .bool (decide (a=b)))::e) w)(hd:Nat.blt d n=true:=by exact rfl)(hg:Gd O e g:=by exact gD):XL P n O dr done (i::r) K e w:=
 jS (hd:=hd) (hg:=hg) ho hk E hy (fun w'=>by simp[cT,binOp,Op.intCmp];by_cases h:a=b<;>simp[h]) h
def ags(ho:O[i]?=some ⟨some d, .binOp .neq s x y u,t,p,af,g⟩)(hk:eQ P (.binOp .neq s x y u)=0)(E:ev e x=some (.int k a))(hy:ev e y=some (.int k b))
  (h:XL P n O dr (i::done) r K ((d, .bool (decide (a≠b)))::e) w)(hd:Nat.blt d n=true:=by exact rfl)(hg:Gd O e g:=by exact gD):XL P n O dr done (i::r) K e w:=
 jS (hd:=hd) (hg:=hg) ho hk E hy (fun w'=>by simp[cT,binOp,Op.intCmp];by_cases h:a=b<;>simp[h,bne]) h
def Fv(hs:P.underlying s=some (.pointer c))(w:ae):(Op.equal s (.pointer q) (.pointer none)).run P w= .ok q.isNone w:=by
 have:∀m,(Op.equalIn (m+1) s (.pointer q) (.pointer none)).run P w= .ok q.isNone w:=fun m=>by
  cases q<;>simp[Op.equalIn,aE hs]
 exact this 9999
def AV(ho:O[i]?=some ⟨some d, .binOp .eql s x (.const (.pointer none)) u,t,p,af,g⟩)(hk:eQ P (.binOp .eql s x (.const (.pointer none)) u)=0)(hs:P.underlying s=some (.pointer c))(E:ev e x=some (.pointer q))(h:XL P n O dr (i::done) r K ((d, .bool q.isNone)::e) w)(hd:Nat.blt d n=true:=by exact rfl)(hg:Gd O e g:=by exact gD):XL P n O dr done (i::r) K e w:=
 jS (hd:=hd) (hg:=hg) ho hk E (show ev e (.const (.pointer none))=some (.pointer none) from rfl) (fun w'=>by
  have h0:(eqGuard .eql s x (.const (.pointer none)) (.pointer q) (.pointer none)).run P w'= .ok () w':=by simp[eqGuard]
  have Y:(binOp .eql s (.pointer q) (.pointer none)).run P w'= .ok (.bool q.isNone) w':=by
   simp only[binOp,al,Fv hs,ah];rfl
  simp only[al,h0,Y,ah]) h
def Jf{q:Bool}(hs:P.underlying s=some .bool)(w:ae):(Op.equal s (.bool q) (.bool q')).run P w= .ok (decide (q=q')) w:=by
 have:∀m,(Op.equalIn (m+1) s (.bool q) (.bool q')).run P w= .ok (decide (q=q')) w:=fun m=>by
  simp[Op.equalIn,aE hs];cases q<;>cases q'<;>rfl
 exact this 9999
def QC{q:Bool}(ho:O[i]?=some ⟨some d, .binOp .neq s x y u,t,p,af,g⟩)(hk:eQ P (.binOp .neq s x y u)=0)(hs:P.underlying s=some .bool)(E:ev e x=some (.bool q))(hy:ev e y=some (.bool q'))(h:XL P n O dr (i::done) r K ((d, .bool (decide (q≠q')))::e) w)(hd:Nat.blt d n=true:=by exact rfl)(hg:Gd O e g:=by exact gD):XL P n O dr done (i::r) K e w:=
 jS (hd:=hd) (hg:=hg) ho hk E hy (fun w'=>by
  have h0:(eqGuard .neq s x y (.bool q) (.bool q')).run P w'= .ok () w':=by simp[eqGuard]
  have Y:(binOp .neq s (.bool q) (.bool q')).run P w'= .ok (.bool (decide (q≠q'))) w':=by simp only[binOp,al,Jf hs,ah];cases q<;>cases q'<;>rfl
  simp only[al,h0,Y,ah]) h
def nh{q:Bool}(ho:O[i]?=some ⟨some d, .unOp .not s x,t,p,af,g⟩)(E:ev e x=some (.bool q))
  (h:XL P n O dr (i::done) r K ((d, .bool (!q))::e) w)(hd:Nat.blt d n=true:=by exact rfl)(hg:Gd O e g:=by exact gD):XL P n O dr done (i::r) K e w:=
 fC ho (by simpa [dA]using hd) hg (ρ:=rh e) (by intro z hZ;simp[Op.operands]at hZ;exact HA E hZ) rfl (v:= .bool (!q)) (fun w'=>by simp[execOp,bM E,Op.unary]) h
def cU{q:Prop}[Decidable q](ho:O[i]?=some ⟨some d, .unOp .not s x,t,p,af,g⟩)(E:ev e x=some (.bool (decide q)))
  (h:XL P n O dr (i::done) r K ((d, .bool (decide (¬q)))::e) w)(hd:Nat.blt d n=true:=by exact rfl)(hg:Gd O e g:=by exact gD):XL P n O dr done (i::r) K e w:=
 nh (hd:=hd) (hg:=hg) ho E (by rw[show(!decide q)=decide (¬q) by simp];exact h)
def CF(ho:O[i]?=some ⟨some d, .convert s u x,t,p,af,g⟩)(hk:eQ P (.convert s u x)=0)(hs:P.underlying s=some D)(hu:P.underlying u=some (.int k'))(E:ev e x=some (.int k a))(h:XL P n O dr (i::done) r K ((d, .int k' (k'.wrap a))::e) w)(hd:Nat.blt d n=true:=by exact rfl)(hg:Gd O e g:=by exact gD):XL P n O dr done (i::r) K e w:=
 fC ho (by simpa [dA]using hd) hg (ρ:=rh e) (by intro z hZ;simp[Op.operands]at hZ;exact HA E hZ) hk (v:= .int k' (k'.wrap a))
  (fun w'=>by simp[execOp,bM E,convert,aE hs,aE hu,Conv.intToInt]) h
def vr{q:Addr}(ho:O[i]?=some ⟨some d, .nilCheck x,t,p,af,g⟩)(E:ev e x=some (.pointer (some q)))
  (h:XL P n O dr (i::done) r K ((d, .pointer (some q))::e) w)(hd:Nat.blt d n=true:=by exact rfl)(hg:Gd O e g:=by exact gD):XL P n O dr done (i::r) K e w:=
 fC ho (by simpa [dA]using hd) hg (ρ:=rh e) (by intro z hZ;simp[Op.operands]at hZ;exact HA E hZ) rfl (v:= .pointer (some q)) (fun w'=>by simp[execOp,bM E]) h
def agA{vs:Array C}(ho:O[i]?=some ⟨some d, .extract x j,t,p,af,g⟩)(E:ev e x=some (.tuple vs))(hv:vs.toList[j]?=some v)(h:XL P n O dr (i::done) r K ((d,v)::e) w)(hd:Nat.blt d n=true:=by exact rfl)(hg:Gd O e g:=by exact gD):XL P n O dr done (i::r) K e w:=
 fC ho (by simpa [dA]using hd) hg (ρ:=rh e) (by intro z hZ;simp[Op.operands]at hZ;exact HA E hZ) rfl (v:=v) (fun w'=>by
  have Mv:vs[j]?=some v:=by simpa using hv
  simp[execOp,bM E,Instr.extract,Mv]) h
def o7{f:Fn}{c1 c2:Array aM}{v1 v2:Array C}(ho:O[i]?=some ⟨some d, .makeFunc f c1 c2,t,p,af,g⟩)(E:∀z∈c1++c2,∃v,ev e z=some v)
  (Y:c1.map (rh e)=v1)(J:c2.map (rh e)=v2)(h:XL P n O dr (i::done) r K ((d, .func f v1 v2)::e) w)(hd:Nat.blt d n=true:=by exact rfl)(hg:Gd O e g:=by exact gD):XL P n O dr done (i::r) K e w:=
 fC ho (by simpa [dA]using hd) hg (ρ:=rh e) (by intro z hz;obtain⟨v,hv⟩:=E z hz;exact OY hv) rfl (v:= .func f v1 v2) (fun w'=>by simp[execOp,Instr.makeFunc,Y,J]) h
def uf(ho:O[i]?=some ⟨some d, .makeInterface s x,t,p,af,g⟩)(hs:P.underlying s=some D)(hD:∀ms,D≠ .interface ms)(E:ev e x=some v)(h:XL P n O dr (i::done) r K ((d, .iface s v)::e) w)(hd:Nat.blt d n=true:=by exact rfl)(hg:Gd O e g:=by exact gD):XL P n O dr done (i::r) K e w:=
 fC ho (by simpa [dA]using hd) hg (ρ:=rh e) (by intro z hZ;simp[Op.operands]at hZ;exact HA E hZ) rfl (v:= .iface s v) (fun w'=>by
  simp only[execOp,bM E,Instr.makeInterface,al,aE hs,ah];cases D<;>first|rfl|exact aS rfl (hD _)) h
def eK{b o k:Nat}:(⟨b,o,none⟩:Addr).add k=⟨b,o+k,none⟩:=by unfold Addr.add;split<;>simp_all
def aX(P:au)(s:aC)(f:Nat):Option Nat:=
 match P.underlying s with
 |some (.struct fs)=>match fs[f]?with
  |some fl=>match P.info? fl.type with
   |some inf=>if inf.size=0 then none else some fl.offset
   |none=>none
  |none=>none
 |_=>none
def GU{f b o k:Nat}(hf:aX P s f=some k)(w:ae):(Instr.fieldAt s (.pointer (some ⟨b,o,none⟩)) f).run P w= .ok (.pointer (some ⟨b,o+k,none⟩)) w:=by
 unfold aX at hf;split at hf
 ·rename_i fs hs;split at hf
  ·rename_i fl CY;split at hf
   ·rename_i inf aiH;split at hf
    ·cases hf
    rename_i h0;cases hf;simp[Instr.fieldAt,aE hs,CY,Instr.sureAddr,fieldPlace,sizeOf,typeInfo,aiH,h0,eK]
   cases hf
  cases hf
 cases hf
def cC{f b o k:Nat}(ho:O[i]?=some ⟨some d, .fieldAddr s x f,t,p,af,g⟩)(hf:aX P s f=some k)(E:ev e x=some (.pointer (some ⟨b,o,none⟩)))
  (h:XL P n O dr (i::done) r K ((d, .pointer (some ⟨b,o+k,none⟩))::e) w)(hd:Nat.blt d n=true:=by exact rfl)(hg:Gd O e g:=by exact gD):XL P n O dr done (i::r) K e w:=
 fC ho (by simpa [dA]using hd) hg (ρ:=rh e) (by intro z hZ;simp[Op.operands]at hZ;exact HA E hZ) rfl (v:= .pointer (some ⟨b,o+k,none⟩)) (fun w'=>by simp only[execOp,bM E,al,GU hf];rfl) h
def agy{f b k:Nat}(ho:O[i]?=some ⟨some d, .fieldAddr s x f,t,p,af,g⟩)(hf:aX P s f=some k)(E:ev e x=some (pQ b))
  (h:XL P n O dr (i::done) r K ((d, .pointer (some ⟨b,k,none⟩))::e) w)(hd:Nat.blt d n=true:=by exact rfl)(hg:Gd O e g:=by exact gD):XL P n O dr done (i::r) K e w:=cC (hd:=hd) (hg:=hg) ho hf E (by rw[mT];exact h)
def aeh{b o cap:Nat}(ho:O[i]?=some ⟨some d, .indexAddr s x y,t,p,af,g⟩)(hs:P.underlying s=some (.slice c))(hz:(P.info? c).map (·.size)=some z)(E:ev e x=some (.slice (some ⟨b,o,none⟩) len cap))(hy:ev e y=some (.int k a))(ha:0<=a/\a<len)(h:XL P n O dr (i::done) r K ((d, .pointer (some ⟨b,o+a.toNat*z,none⟩))::e) w)(hd:Nat.blt d n=true:=by exact rfl)(hg:Gd O e g:=by exact gD):XL P n O dr done (i::r) K e w:=
 fC ho (by simpa [dA]using hd) hg (ρ:=rh e) (by intro z hZ;simp[Op.operands]at hZ;exact Hz E hy hZ) rfl (v:= .pointer (some ⟨b,o+a.toNat*z,none⟩)) (fun w'=>by
  cases hi:P.info? c with
  |none=>simp[hi]at hz
  |some inf=>
   have lH:inf.size=z:=by simpa [hi]using hz
   simp[execOp,bM E,bM hy,Instr.indexAt,asIntOf,aE hs,ha.1,ha.2,sizeOf,typeInfo,hi,lH,eK]) h
def aeS{b o cap:Nat}(ho:O[i]?=some ⟨some d, .indexAddr s x y,t,p,af,g⟩)(hs:P.underlying s=some (.slice c))(hz:(P.info? c).map (·.size)=some 1)(E:ev e x=some (.slice (some ⟨b,o,none⟩) len cap))(hy:ev e y=some (.int k a))(ha:0<=a/\a<len)(h:XL P n O dr (i::done) r K ((d, .pointer (some ⟨b,o+a.toNat,none⟩))::e) w)(hd:Nat.blt d n=true:=by exact rfl)(hg:Gd O e g:=by exact gD):XL P n O dr done (i::r) K e w:=aeh (hd:=hd) (hg:=hg) ho hs hz E hy ha (by rw[DV];exact h)
def eE{cap:Nat}(ho:O[i]?=some ⟨some d, .call ⟨.builtin .len,#[x],#[s]⟩,t,p,af,g⟩)(hk:eQ P (.call ⟨.builtin .len,#[x],#[s]⟩)=0)(hs:P.underlying s=some (.slice c))(E:ev e x=some (.slice q len cap))(h:XL P n O dr (i::done) r K ((d,I len)::e) w)(hd:Nat.blt d n=true:=by exact rfl)(hg:Gd O e g:=by exact gD):XL P n O dr done (i::r) K e w:=
 fC ho (by simpa [dA]using hd) hg (ρ:=rh e) (by intro z hZ;simp[Op.operands,Call.operands]at hZ;exact HA E hZ) hk (v:=I len)
  (fun w'=>by simp[execOp,resolve,invoke,builtin,bM E,Builtin.len_,aE hs,goInt]) h
def yZ(ho:O[i]?=some ⟨some d, .call ⟨.builtin .min,#[x,y],as'⟩,t,p,af,g⟩)(E:ev e x=some (.int k a))(hy:ev e y=some (.int k b))(h:XL P n O dr (i::done) r K ((d, .int k (min a b))::e) w)(hd:Nat.blt d n=true:=by exact rfl)(hg:Gd O e g:=by exact gD):XL P n O dr done (i::r) K e w:=
 fC ho (by simpa [dA]using hd) hg (ρ:=rh e) (by intro z hZ;simp[Op.operands,Call.operands]at hZ;exact Hz E hy hZ) rfl (v:= .int k (min a b))
  (fun w'=>by simp[execOp,resolve,invoke,builtin,bM E,bM hy,Builtin.min_,Builtin.min2];split<;>omega) h
def Th(ho:O[i]?=some ⟨some d, .call ⟨.builtin .max,#[x,y],as'⟩,t,p,af,g⟩)(E:ev e x=some (.int k a))(hy:ev e y=some (.int k b))(h:XL P n O dr (i::done) r K ((d, .int k (max a b))::e) w)(hd:Nat.blt d n=true:=by exact rfl)(hg:Gd O e g:=by exact gD):XL P n O dr done (i::r) K e w:=
 fC ho (by simpa [dA]using hd) hg (ρ:=rh e) (by intro z hZ;simp[Op.operands,Call.operands]at hZ;exact Hz E hy hZ) rfl (v:= .int k (max a b))
  (fun w'=>by simp[execOp,resolve,invoke,builtin,bM E,bM hy,Builtin.max_,Builtin.max2];split<;>omega) h
def mR{k:IntKind}{v:Int}{y:Nat}{c:BoundsCode}(h0:0<=v/\v<=y)(w:ae):(Instr.sliceBound (.int k v) y c).run P w= .ok v.toNat w:=by
 simp[Instr.sliceBound,asIntOf,h0.1,h0.2]
def Y9{b o cap:Nat}{hi:Int}{l:aM}(ho:O[i]?=some ⟨some d, .slice s x (some l) (some h') none,t,p,af,g⟩)(hs:P.underlying s=some (.slice c))(hz:(P.info? c).map (·.size)=some z)(E:ev e x=some (.slice (some ⟨b,o,none⟩) len cap))(hl:ev e l=some (.int kl lo))(hh:ev e h'=some (.int kh hi))(hb:0<=lo/\lo<=hi/\hi<=cap)(Ut:lo<cap)(h:XL P n O dr (i::done) r K ((d, .slice (some ⟨b,o+lo.toNat*z,none⟩) (hi.toNat-lo.toNat) (cap-lo.toNat))::e) w)(hd:Nat.blt d n=true:=by exact rfl)(hg:Gd O e g:=by exact gD):XL P n O dr done (i::r) K e w:=
 fC ho (by simpa [dA]using hd) hg (ρ:=rh e) (by intro z hZ;simp[Op.operands]at hZ;exact oh3 E hl hh hZ) rfl
  (v:= .slice (some ⟨b,o+lo.toNat*z,none⟩) (hi.toNat-lo.toNat) (cap-lo.toNat)) (fun w'=>by
   cases lR:P.info? c with
   |none=>simp[lR]at hz
   |some inf=>
    have lH:inf.size=z:=by simpa [lR]using hz
    have Y:=mR (P:=P) (k:=kh) (v:=hi) (y:=cap) (c:= .sliceAcap) ⟨H,hb.2.2⟩ w';have J:=mR (P:=P) (k:=kl) (v:=lo) (y:=hi.toNat) (c:= .sliceB) ⟨hb.1,H⟩ w';have oS:¬cap=lo.toNat:=H;simp[execOp,bM E,bM hl,bM hh,Instr.sliceAt,Instr.slice,Instr.sliceBounds,aE hs,Y,J,sizeOf,typeInfo,lR,lH,oS,eK]) h
def y0{cap:Nat}{hi:Int}(ho:O[i]?=some ⟨some d, .slice s x none (some h') none,t,p,af,g⟩)(hs:P.underlying s=some (.slice c))(hz:((P.info? c).map (·.size)).isSome=true)(E:ev e x=some (.slice q len cap))(hq:∀a,q=some a->a.spot=none)(hh:ev e h'=some (.int kh hi))(hb:0<=hi/\hi<=cap)(h:XL P n O dr (i::done) r K ((d, .slice q hi.toNat cap)::e) w)(hd:Nat.blt d n=true:=by exact rfl)(hg:Gd O e g:=by exact gD):XL P n O dr done (i::r) K e w:=
 fC ho (by simpa [dA]using hd) hg (ρ:=rh e) (by intro z hZ;simp[Op.operands]at hZ;exact Hz E hh hZ) rfl
  (v:= .slice q hi.toNat cap) (fun w'=>by
   cases lR:P.info? c with
   |none=>simp[lR]at hz
   |some inf=>
    have Y:=mR (P:=P) (k:=kh) (v:=hi) (y:=cap) (c:= .sliceAcap) hb w';cases q with
    |none=>simp[execOp,bM E,bM hh,Instr.sliceAt,Instr.slice,Instr.sliceBounds,aE hs,Y,sizeOf,typeInfo,lR]
    |some a=>simp[execOp,bM E,bM hh,Instr.sliceAt,Instr.slice,Instr.sliceBounds,aE hs,Y,sizeOf,typeInfo,lR,Addr.add]) h
def Y8{b o cap:Nat}{l:aM}(ho:O[i]?=some ⟨some d, .slice s x (some l) none none,t,p,af,g⟩)(hs:P.underlying s=some (.slice c))(hz:(P.info? c).map (·.size)=some z)(E:ev e x=some (.slice (some ⟨b,o,none⟩) len cap))(hl:ev e l=some (.int kl lo))(hb:0<=lo/\lo<=len)(Ut:lo<cap)(h:XL P n O dr (i::done) r K ((d, .slice (some ⟨b,o+lo.toNat*z,none⟩) (len-lo.toNat) (cap-lo.toNat))::e) w)(hd:Nat.blt d n=true:=by exact rfl)(hg:Gd O e g:=by exact gD):XL P n O dr done (i::r) K e w:=
 fC ho (by simpa [dA]using hd) hg (ρ:=rh e) (by intro z hZ;simp[Op.operands]at hZ;exact Hz E hl hZ) rfl
  (v:= .slice (some ⟨b,o+lo.toNat*z,none⟩) (len-lo.toNat) (cap-lo.toNat)) (fun w'=>by
   cases lR:P.info? c with
   |none=>simp[lR]at hz
   |some inf=>
    have lH:inf.size=z:=by simpa [lR]using hz
    have J:=mR (P:=P) (k:=kl) (v:=lo) (y:=len) (c:= .sliceB) hb w';have oS:¬cap=lo.toNat:=H;simp[execOp,bM E,bM hl,Instr.sliceAt,Instr.slice,Instr.sliceBounds,aE hs,J,sizeOf,typeInfo,lR,lH,oS,eK]) h
def Ti{q:Addr}(ho:O[i]?=some ⟨some d, .slice s x none none none,t,p,af,g⟩)(hs:P.underlying s=some (.array m c))(hz:((P.info? c).map (·.size)).isSome=true)(hm:m≠0)(E:ev e x=some (.pointer (some q)))(hq:q.spot=none)(h:XL P n O dr (i::done) r K ((d, .slice (some q) m m)::e) w)(hd:Nat.blt d n=true:=by exact rfl)(hg:Gd O e g:=by exact gD):XL P n O dr done (i::r) K e w:=
 fC ho (by simpa [dA]using hd) hg (ρ:=rh e) (by intro z hZ;simp[Op.operands]at hZ;exact HA E hZ) rfl (v:= .slice (some q) m m) (fun w'=>by
   cases lR:P.info? c with
   |none=>simp[lR]at hz
   |some inf=>simp[execOp,bM E,Instr.sliceAt,Instr.sliceBounds,Instr.sureAddr,aE hs,sizeOf,typeInfo,lR,hm,Addr.add]) h
def DK(ho:O[i]?=some ⟨some d, .build s ps,t,p,af,g⟩)(E:V0 e (ps.toList.map (·.2))=some vs)(hr:∀w',(Instr.build s ((ps.toList.map (·.1)).zip vs).toArray).run P w'= .ok v w')(h:XL P n O dr (i::done) r K ((d,v)::e) w)(hd:Nat.blt d n=true:=by exact rfl)(hg:Gd O e g:=by exact gD):XL P n O dr done (i::r) K e w:=by
 obtain⟨hk,hm⟩:=xu E;refine fC ho (by simpa [dA]using hd) hg (ρ:=rh e) (by intro z hz;exact hk z (by simpa [Op.operands]using hz)) rfl (v:=v) (fun w'=>?_) h;have e1:(ps.map fun(j,z)=>(j,rh e z))=((ps.toList.map (·.1)).zip vs).toArray:=by
  apply Array.ext';rw[<-hm];simp only[O2]
  generalize ps.toList=q
  induction q with
  |nil=>rfl
  |cons x q ih=>obtain⟨a,b⟩:=x;simp only[ey,acg,ih]
 simp only[execOp,e1,al,hr];rfl
end
def N(b:Nat)(l:List C)(T:aC):aF:=pt b (.cells l.toArray T (0,0))
def Rd(w:ae)(a:Addr)(cs:List C):Prop:=∀j u,cs[j]?=some u->w.cell? (a.add j)=some u
def GF(P:au)(t:aC):Bool:=match P.underlying t with|some (.struct _)|some (.array _ _)=>true|_=>false
def kg(P:au)(t:aC):Bool:=(P.underlying t).isSome&&!GF P t&&(P.info? t).any (·.size==1)
def jn(P:au)(t:aC)(z:Nat):Bool:=GF P t&&(P.info? t).any (·.size==z)
def cd(P:au)(t:aC):Option (Array C):=(P.info? t).bind fun i=>i.zero.map Value.cells
def L9(n:Nat)(v:C):List C:=List.replicate n v
@[simp] def kE(n:Nat)(v:C):(L9 n v).length=n:=Mq ..
section
variable{a:Addr}{g:Gh}{b o:Nat}{l:List C}
def oP{x:Bool}(h:GF P t=x)(hs:(P.underlying t).isSome=true)(w:ae):(isAgg t).run P w= .ok x w:=by
 cases hu:P.underlying t with
 |none=>rw[hu]at hs;cases hs
 |some d=>
  unfold GF at h;rw[hu]at h
  unfold isAgg;rw[al,aE hu w];cases d<;>simp_all
def NW(h:kg P t=true):(P.underlying t).isSome=true/\GF P t=false/\∃i,P.info? t=some i/\i.size=1:=by
 simp only[kg,gG,TE,Option.any_eq_true]at h;obtain⟨⟨Y,J⟩,i,hi,h3⟩:=h;exact⟨Y,J,i,hi,by simpa using h3⟩
def CP(h:jn P t z=true):(P.underlying t).isSome=true/\GF P t=true/\∃i,P.info? t=some i/\i.size=z:=by
 simp only[jn,gG,Option.any_eq_true]at h;obtain⟨Y,i,hi,h3⟩:=h;refine⟨?_,Y,i,hi,by simpa using h3⟩;unfold GF at Y
 cases hu:P.underlying t with
 |none=>rw[hu]at Y;cases Y
 |some d=>rfl
def Sn(h:aw g L w)(p:dE (N b l T) L R):w.cell? ⟨b,o,none⟩=l[o]?:=by
 rw[cell_of_row w b o _ _ _ (h.pt p)];simp
def Rd.O9(h:aw g L w)(p:dE (N b l T) L R):Rd w ⟨b,o,none⟩ (l.drop o):=fun j u hu=>by
 rw[eK,Sn h p];simpa [QV]using hu
def Rd.take(h:Rd w a cs)(m:Nat):Rd w a (cs.take m):=fun j u hu=>by
 rw[W8]at hu;split at hu
 ·exact h j u hu
 cases hu
def Rd.drop{b o:Nat}(h:Rd w ⟨b,o,none⟩ cs)(m:Nat):Rd w ⟨b,o+m,none⟩ (cs.drop m):=fun j u hu=>by
 rw[eK,Nat.add_assoc,<-eK];exact h (m+j) u (by simpa [QV]using hu)
def Rd.nil{a:Addr}:Rd w a []:=fun j u hu=>by simp at hu
def aD.one(h:kg P t=true)(hc:w.cell? a=some v):aD P w t a v:=by
 obtain⟨Y,J,_⟩:=NW h;unfold aD loadVar;rw[al,oP J Y];simp[load,Sem.run,hc]
def aD.many(h:jn P t z=true)(hz:cs.length=z)(hr:Rd w a cs):aD P w t a (gQ cs):=by
 obtain⟨Y,J,i,hi,hs⟩:=CP h;unfold aD loadVar;rw[al,oP J Y];have hl:=run_loadCells_list (P:=P) w a cs hr;simp[sizeOf,typeInfo,hi,hs,<-hz,hl]
def aD.cw(h:kg P t=true)(Z:aw g L w)(p:dE (N b l T) L R)(hv:l[o]?=some v):aD P w t ⟨b,o,none⟩ v:=aD.one h (by rw[Sn Z p];exact hv)
def aD.xM(h:jn P t z=true)(Z:aw g L w)(p:dE (N b l T) L R)(hv:(l.drop o).take z=cs)(hz:cs.length=z):aD P w t ⟨b,o,none⟩ (gQ cs):=
 aD.many h hz (by rw[<-hv];exact(Rd.O9 Z p).take z)
def aD.dB(h:jn P t z=true)(Z:aw g L w)(p:dE (N b l T) L R)(hz:l.length=z):aD P w t ⟨b,0,none⟩ (gQ l):=
 aD.many h hz (by have:=Rd.O9 (o:=0) Z p;simpa using this)
def lK(cs:List C):Prop:=∀u∈cs,u.oneCell'=true
def WR(h:w.heap[b]?=some (.cells l.toArray T (0,0)))(c:Array C):w.setRow b c={w with heap:=w.heap.setIfInBounds b (.cells c T (0,0))}:=by
 have fR:=(mV.1 h).1;have XY:w.heap[b]= .cells l.toArray T (0,0):=by simpa [Hx fR]using h
 unfold World.setRow
 congr 1
 apply Array.ext
 ·simp
 intro i Y J
 by_cases e:b=i
 ·subst e;simp[Array.getElem_modify,XY]
 rw[Array.getElem_modify,aj e,Array.getElem_setIfInBounds,aj e]
def aw.Jd(h:aw g L w)(p:dE (N b l T) L R)(l':List C):aw g (N b l' T::R) (w.setRow b l'.toArray):=by
 have Y:=h.pick p;rw[WR Y.eh];exact Y.set _
def DR(h:aw g L w)(p:dE (N b l T) L R)(Y:lK cs)(hl:o+cs.length<=l.length):
  (storeCells ⟨b,o,none⟩ cs).run P w= .ok () (w.setRow b (l.take o++cs++l.drop (o+cs.length)).toArray):=by
 have:=run_storeCells_at P b o T cs 0 l.toArray w (h.pt p) (by simpa using hl) Y
 simpa using this
end
section
variable{done r:List Nat}{p:String}
variable{b o:Nat}{l:List C}
def gM{dst:Option Tmp}(hp:gZ P O dr done i=[]):∀q∈gZ P O dr done i,xQ P n O q (tT e dst v) w':=fun q hq=>by rw[hp]at hq;cases hq
def bK{q:Nat}{l:List Nat}(h:gZ P O dr done i=l)(hq:q∈gZ P O dr done i):q∈l:=h▸hq
def bG{q:Nat}{a:Addr}{gq:Option (Nat×Bool)}{pq:String}{aq:Array Edge}{tq:aC}(ho:O[q]?=some ⟨some d, .load s x,tq,pq,aq,gq⟩)(E:ev e x=some (.pointer (some a)))(hv:get e d=some v)(hl:aD P w s a v):
  xQ P n O q e w:=by
 intro o' Oc a' ha J9;have:o'=⟨some d, .load s x,tq,pq,aq,gq⟩:=Option.some.inj (Oc.symm.trans ho);subst this;refine⟨v,?_,fun d' vk=>?_⟩
 ·have hxa:=ha.ev E;unfold aD at hl;simp only[execOp,hxa,Instr.loadAt,Instr.sureAddr,al,aG,ah,hl]
 cases vk;exact ha.get d v hv
def adr{q dj:Nat}{b:Bool}(ho:O[q]?=some oq)(hg:oq.guard=some (j,want))(hj:(O[j]?).bind (·.dst)=some dj)(hv:get e dj=some (.bool b))(hb:b=!want):xQ P n O q e w:=by
 intro o' Oc a' ha J9;have:o'=oq:=Option.some.inj (Oc.symm.trans ho);subst this;simp[Region.wanted,hg,CE ha hj hv,hb]at J9
def bg{a:Addr}(ho:O[i]?=some ⟨some d, .load s x,t,p,af,g⟩)(E:ev e x=some (.pointer (some a)))(hl:aD P w s a v)
  (h:XL P n O dr (i::done) r K ((d,v)::e) w)(hd:Nat.blt d n=true:=by exact rfl)(hg:Gd O e g:=by exact gD):XL P n O dr done (i::r) K e w:=
 AU ho (by simpa [dA]using hd) hg (ρ:=rh e) (by intro z hZ;simp[Op.operands]at hZ;exact HA E hZ) rfl (v:=v)
  (by unfold aD at hl;simp only[execOp,bM E,Instr.loadAt,Instr.sureAddr,al,aG,ah,hl]) h
def Fh(ho:O[i]?=some ⟨none, .store s x y,t,p,af,g⟩)(hg:Gd O e g)(E:ev e x=some (.pointer (some ⟨b,o,none⟩)))(hy:ev e y=some v)(Y:kg P s=true)(hv:v.oneCell'=true)(Z:aw G L w)(hp:dE (N b l T) L R)(hol:Nat.blt o l.length=true)(hl':l.set o v=l')(hpd:∀w',aw G (N b l' T::R) w'->∀q∈gZ P O dr done i,xQ P n O q e w')(h:∀w',aw G (N b l' T::R) w'->XL P n O dr (i::done) r K e w'):XL P n O dr done (i::r) K e w:=by
 subst hl';have ais:o<l.length:=by simpa using hol
 have hs:aw G (N b (l.set o v) T::R) (w.setRow b (l.set o v).toArray):=Z.Jd hp _;refine DF ho rfl hg (ρ:=rh e) (by intro z hZ;simp[Op.operands]at hZ;exact Hz E hy hZ) rfl (w':=w.setRow b (l.set o v).toArray) ?_ (hpd _ hs) (h _ hs);obtain⟨_,_,inf,hi,lH⟩:=NW Y;have kB:v.cells=#[v]:=by cases v<;>first|rfl|(simp[Value.oneCell']at hv)
 have jQ:=DR (P:=P) (o:=o) (cs:=[v]) Z hp (fun u hu=>by simp at hu;subst hu;exact hv) (by simp;omega);have Mw:l.take o++[v]++l.drop (o+[v].length)=l.set o v:=by
  rw[List.set_eq_take_append_cons_drop,aB ais];simp
 rw[Mw]at jQ;simp only[execOp,bM E,bM hy,Instr.storeAt,Instr.sureAddr,storeVar,al,aG,ah,sizeOf,typeInfo,program,hi,Sem.run,kB,lH];simp[jQ]
def rU(ho:O[i]?=some ⟨none, .store s x y,t,p,af,g⟩)(hg:Gd O e g)(E:ev e x=some (.pointer (some ⟨b,o,none⟩)))(hy:ev e y=some v)(Y:kg P s=true)(hv:v.oneCell'=true)(Z:aw G L w)(hp:dE (N b l T) L R)(hol:Nat.blt o l.length=true)(hl':l.set o v=l')(hpd:gZ P O dr done i=[])(h:∀w',aw G (N b l' T::R) w'->XL P n O dr (i::done) r K e w'):XL P n O dr done (i::r) K e w:=
 Fh ho hg E hy Y hv Z hp hol hl' (fun w' _=>gM (dst:=none) (v:=undef) hpd) h
def aeN(ho:O[i]?=some ⟨none, .store s x y,t,p,af,g⟩)(hg:Gd O e g)(E:ev e x=some (.pointer (some ⟨b,o,none⟩)))(hy:ev e y=some (gQ cs))(Y:jn P s z=true)(hz:cs.length=z)(hv:lK cs)(Z:aw G L w)(hp:dE (N b l T) L R)(hol:o+z<=l.length)(hl':l.take o++cs++l.drop (o+z)=l')(hpd:∀w',aw G (N b l' T::R) w'->∀q∈gZ P O dr done i,xQ P n O q e w')(h:∀w',aw G (N b l' T::R) w'->XL P n O dr (i::done) r K e w'):XL P n O dr done (i::r) K e w:=by
 subst hl';refine DF ho rfl hg (ρ:=rh e) (by intro z hZ;simp[Op.operands]at hZ;exact Hz E hy hZ) rfl (w':=w.setRow b (l.take o++cs++l.drop (o+z)).toArray) ?_ (hpd _ (Z.Jd hp _)) (h _ (Z.Jd hp _));obtain⟨_,_,inf,hi,lH⟩:=CP Y;have jQ:=DR (P:=P) (o:=o) (cs:=cs) Z hp hv H;rw[hz]at jQ;simp only[execOp,bM E,bM hy,Instr.storeAt,Instr.sureAddr,storeVar,al,aG,ah,sizeOf,typeInfo,program,hi,Sem.run,Value.cells,lH];simp[hz,jQ]
def ue(ho:O[i]?=some ⟨none, .store s x y,t,p,af,g⟩)(hg:Gd O e g)(E:ev e x=some (.pointer (some ⟨b,o,none⟩)))(hy:ev e y=some (gQ cs))(Y:jn P s z=true)(hz:cs.length=z)(hv:lK cs)(Z:aw G L w)(hp:dE (N b l T) L R)(hol:o+z<=l.length)(hl':l.take o++cs++l.drop (o+z)=l')(hpd:gZ P O dr done i=[])(h:∀w',aw G (N b l' T::R) w'->XL P n O dr (i::done) r K e w'):XL P n O dr done (i::r) K e w:=
 aeN ho hg E hy Y hz hv Z hp hol hl' (fun w' _=>gM (dst:=none) (v:=undef) hpd) h
def kX{c:List C}(ho:O[i]?=some ⟨some d, .alloc s,t,p,af,g⟩)(hz:cd P s=some c.toArray)(Z:aw G L w)(hpd:∀w' b,aw G (N b c s::L) w'->∀q∈gZ P O dr done i,xQ P n O q ((d,pQ b)::e) w')
  (h:∀w' b,aw G (N b c s::L) w'->XL P n O dr (i::done) r K ((d,pQ b)::e) w')(hd:Nat.blt d n=true:=by exact rfl)(hg:Gd O e g:=by exact gD):XL P n O dr done (i::r) K e w:=by
 refine jG ho (by simpa [dA]using hd) hg (ρ:=rh e) (by intro z hZ;simp[Op.operands]at hZ) rfl (v:= .pointer (some ⟨w.heap.size,0,none⟩)) (w':={w with heap:=w.heap.push (.cells c.toArray s (0,0))}) ?_ (hpd _ _ (Z.push _)) (h _ _ (Z.push _));unfold cd at hz;cases hi:P.info? s with
 |none=>simp[hi]at hz
 |some inf=>
  cases sy:inf.zero with
  |none=>simp[hi,sy]at hz
  |some z=>
   have hc:z.cells=c.toArray:=by simpa [hi,sy]using hz
   simp[execOp,Instr.alloc,zeroValue,typeInfo,hi,sy,newVar,newRow,hc]
def abT{c:List C}(ho:O[i]?=some ⟨some d, .alloc s,t,p,af,g⟩)(hz:cd P s=some c.toArray)(Z:aw G L w)(hpd:gZ P O dr done i=[])
  (h:∀w' b,aw G (N b c s::L) w'->XL P n O dr (i::done) r K ((d,pQ b)::e) w')(hd:Nat.blt d n=true:=by exact rfl)(hg:Gd O e g:=by exact gD):XL P n O dr done (i::r) K e w:=
 kX (hd:=hd) (hg:=hg) ho hz Z (fun w' b _=>gM (dst:=some d) hpd) h
def agG{c:List C}(ho:O[i]?=some ⟨some d, .box s x,t,p,af,g⟩)(E:ev e x=some v)(hc:v.cells=c.toArray)(Z:aw G L w)(hpd:gZ P O dr done i=[])
  (h:∀w' b,aw G (N b c s::L) w'->XL P n O dr (i::done) r K ((d,pQ b)::e) w')(hd:Nat.blt d n=true:=by exact rfl)(hg:Gd O e g:=by exact gD):XL P n O dr done (i::r) K e w:=by
 refine jG ho (by simpa [dA]using hd) hg (ρ:=rh e) (by intro z hZ;simp[Op.operands]at hZ;exact HA E hZ) rfl (v:= .pointer (some ⟨w.heap.size,0,none⟩)) (w':={w with heap:=w.heap.push (.cells c.toArray s (0,0))}) ?_ (gM hpd) (h _ _ (Z.push _));simp[execOp,bM E,Instr.box,newVar,newRow,hc]
def abc{cs c:Array C}(hv:v.cells=cs)(Y:cs.size=z)(J:c.size=z):Instr.fill (fun i=>some (i*z,z)) c [(0,v)]=some cs:=by
 simp only[Instr.fill,Nat.zero_mul,hv,Y,J,mT];simp;apply Array.ext';have key:∀(l:List C) (k:Nat) (c:Array C),k+l.length=c.size→
   ((l.zipIdx k).foldl (fun(cs:Array C) (x:C×Nat)=>cs.setIfInBounds x.2 x.1) c).toList=c.toList.take k++l:=by
  intro l
  induction l with
  |nil=>intro k c hk;simp at hk ⊢;rw[kH (by simp[hk])]
  |cons u l ih=>
   intro k c hk;simp only[List.zipIdx_cons,QT];rw[ih (k+1) _ (by simp at hk ⊢;omega)];simp at hk;rw[List.take_succ_eq_append_getElem (by simp;omega)];simp[List.take_set_of_le (fP k)]
 have:=key cs.toList 0 c (by simp[Y,J]);have e:Array.foldl (fun(cs:Array C) (x:C×Nat)=>cs.setIfInBounds x.2 x.1) c cs.zipIdx 0 cs.size=List.foldl (fun(cs:Array C) (x:C×Nat)=>cs.setIfInBounds x.2 x.1) c cs.toList.zipIdx:=by
  rw[<-Array.toList_zipIdx,ZJ];simp
 rw[e];simpa using this
def Y'(ho:O[i]?=some ⟨some d, .buildSlice s 1 #[(0,x)],t,p,af,g⟩)(hs:P.underlying s=some (.slice c))(Dx:(P.info? c).map (·.size)=some z)(Ed:(cd P c).map (·.size)=some z)(hz:0<z/\z<=16777216)(E:ev e x=some v)(hc:v.cells=cs.toArray)(hl:cs.length=z)(Z:aw G L w)(hpd:∀w' b,aw G (N b cs c::L) w'->∀q∈gZ P O dr done i,xQ P n O q ((d,sQ b 1 1)::e) w')(h:∀w' b,aw G (N b cs c::L) w'->XL P n O dr (i::done) r K ((d,sQ b 1 1)::e) w')(hd:Nat.blt d n=true:=by exact rfl)(hg:Gd O e g:=by exact gD):XL P n O dr done (i::r) K e w:=by
 refine jG ho (by simpa [dA]using hd) hg (ρ:=rh e) (by intro z hZ;simp[Op.operands]at hZ;exact HA E hZ) rfl (v:= .slice (some ⟨w.heap.size,0,none⟩) 1 1) (w':={w with heap:=w.heap.push (.cells cs.toArray c (0,0))}) ?_ (hpd _ _ (Z.push _)) (h _ _ (Z.push _));cases hi:P.info? c with
 |none=>simp[hi]at Dx
 |some inf=>
  have lH:inf.size=z:=by simpa [hi]using Dx
  cases sy:inf.zero with
  |none=>simp[cd,hi,sy]at Ed
  |some zv=>
   have Mc:zv.cells.size=z:=by simpa [cd,hi,sy]using Ed
   have hf:=abc (z:=z) (cs:=cs.toArray) (c:=(Array.range z).map (zv.cells[·%z]!)) hc (by simpa using hl) sM;have hnz:z≠0:=H;have hle:¬16777216<z:=H;simp[execOp,Instr.buildSlice,aE hs,sizeOf,typeInfo,hi,lH,zeroValue,sy,hnz,hle,Mc,bM E,hf,newRow]
def fb(ho:O[i]?=some ⟨some d, .buildSlice s 1 #[(0,x)],t,p,af,g⟩)(hs:P.underlying s=some (.slice c))(Dx:(P.info? c).map (·.size)=some z)(Ed:(cd P c).map (·.size)=some z)(hz:0<z/\z<=16777216)(E:ev e x=some v)(hc:v.cells=cs.toArray)(hl:cs.length=z)(Z:aw G L w)(hpd:gZ P O dr done i=[])(h:∀w' b,aw G (N b cs c::L) w'->XL P n O dr (i::done) r K ((d,sQ b 1 1)::e) w')(hd:Nat.blt d n=true:=by exact rfl)(hg:Gd O e g:=by exact gD):XL P n O dr done (i::r) K e w:=
 Y' (hd:=hd) (hg:=hg) ho hs Dx Ed hz E hc hl Z (fun w' b _=>gM (dst:=some d) hpd) h
def yY{z:C}{a m:Int}{k:IntKind}{bytes:Nat}(ho:O[i]?=some ⟨some d, .makeSlice s x y,t,p,af,g⟩)(hs:P.underlying s=some (.slice c))(Dx:(P.info? c).map (·.size)=some 1)(VS:(P.info? c).map (·.bytes)=some bytes)(Ed:cd P c=some #[z])(E:ev e x=some (.int k a))(hy:ev e y=some (.int k' m))(hb:0<=a/\a<=m)(hm:(bytes:Int)*m<=281474976710656)(X8:m<=9223372036854775807)(Z:aw G L w)(hpd:gZ P O dr done i=[])(h:∀w' b,aw G (N b (L9 m.toNat z) c::L) w'->XL P n O dr (i::done) r K ((d,sQ b a.toNat m.toNat)::e) w')(hd:Nat.blt d n=true:=by exact rfl)(hg:Gd O e g:=by exact gD):XL P n O dr done (i::r) K e w:=by
 refine jG ho (by simpa [dA]using hd) hg (ρ:=rh e) (by intro z hZ;simp[Op.operands]at hZ;exact Hz E hy hZ) rfl (v:= .slice (some ⟨w.heap.size,0,none⟩) a.toNat m.toNat) (w':={w with heap:=w.heap.push (.cells (L9 m.toNat z).toArray c (0,0))}) ?_ (gM hpd) (h _ _ (Z.push _));cases hi:P.info? c with
 |none=>simp[hi]at Dx
 |some inf=>
  have lH:inf.size=1:=by simpa [hi]using Dx
  have RR:inf.bytes=bytes:=by simpa [hi]using VS
  cases sy:inf.zero with
  |none=>simp[cd,hi,sy]at Ed
  |some zv=>
   have Mc:zv.cells=#[z]:=by simpa [cd,hi,sy]using Ed
   have hr:=run_make (P:=P) w s c inf zv hs hi sy k k' a m hb.1 hb.2 (by rw[RR];exact hm) X8;have hmc:madeCells zv.cells (m.toNat*inf.size)=(L9 m.toNat z).toArray:=by
    rw[Mc,lH,DV];unfold madeCells;apply Array.ext';simp[Nat.mod_one,List.map_const',L9]
   rw[hmc]at hr;simp only[execOp,bM E,bM hy,al,hr];rfl
def row(T:aC)(z:Nat)(v:C)(m:Nat)(xs:List C):aF:=fun h=>xs.length=m*z∧
 ((v=nQ/\m=0)\/∃b cap cur,v=sQ b m cap/\h b=some (.cells (xs++cur).toArray T (0,0))/\m<=cap/\cap<=maxLen/\(xs++cur).length=cap*z)
def bB(Z:aw G L w)(T:aC)(z:Nat):aw G (row T z (nQ) 0 []::L) w:=by
 obtain⟨hg,h,hh,hL⟩:=Z;refine⟨hg,h,hh,fun _=>none,h,fun b=> .inl rfl,fun b o hb=>?_,⟨by simp, .inl ⟨rfl,rfl⟩⟩,hL⟩;rcases eO hb with h|h
 ·cases h
 exact h
def lC{xs:List C}{cap:Nat}(Z:aw G (N b (xs++cur) T::L) w)(Y:xs.length=m*z)(J:m<=cap)(h3:cap<=maxLen)(h4:(xs++cur).length=cap*z):aw G (row T z (sQ b m cap) m xs::L) w:=
 Z.gN fun h hh=>⟨Y, .inr ⟨b,cap,cur,rfl,hh,J,h3,h4⟩⟩
def jx{xs:List C}(Z:aw G (N b xs T::L) w)(Y:xs.length=m*z)(h3:m<=maxLen):aw G (row T z (sQ b m m) m xs::L) w:=
 lC (cur:=[]) (by rw[kF];exact Z) Y (fP _) h3 (by rw[kF];exact Y)
def qR{xs:List C}(Z:aw G (row T z v m xs::L) w):xs.length=m*z∧
  ((v=nQ/\m=0/\xs=[]/\aw G L w)\/∃b cap cur,v=sQ b m cap/\m<=cap/\cap<=maxLen/\(xs++cur).length=cap*z/\aw G (N b (xs++cur) T::L) w):=by
 have mP:=Z;obtain⟨hg,h,hh,Y,J,hd,hu,⟨E,hA⟩,hL⟩:=Z;refine⟨E,?_⟩;rcases hA with⟨rfl,rfl⟩|⟨b,cap,cur,rfl,hb,h3,h4,h5⟩
 ·exact .inl ⟨rfl,rfl,vD (by simpa using E),mP.tail⟩
 exact .inr ⟨b,cap,cur,rfl,h3,h4,h5,hg,h,hh,Y,J,hd,hu,hb,hL⟩
def aT{xs:List C}(Z:aw G (row T z v m xs::L) w):∃a cap,v= .slice a m cap:=by
 obtain⟨_,h|⟨b,cap,cur,h,_⟩⟩:=qR Z
 ·obtain⟨rfl,rfl,_⟩:=h;exact⟨none,0,rfl⟩
 exact⟨_,cap,h⟩
def ab5{bytes:Nat}{xs:List C}{zv:C}{inf:TypeInfo}{ty:aC}(hs:P.underlying s=some (.slice c))(hi:P.info? c=some inf)(sy:inf.zero=some zv)(lH:inf.size=z)(RR:inf.bytes=bytes)(Mc:zv.cells.size=z)(Z:aw G (row c z v m xs::R) w)(hr:Rd w ax news)(hl:news.length=k*z)(Y:lK news)(X8:m+k<=maxLen)(VS:(m+k)*bytes<=140737488355328):
  ∃v' w',(Builtin.append_ #[s,s] ty #[v, .slice (some ax) k cx]).run P w= .ok v' w'/\aw G (row c z v' (m+k) (xs++news)::R) w':=by
 subst lH;have Ul:m+k<=9223372036854775807:=by simp only[maxLen]at X8;omega
 obtain⟨vi,ahn⟩:=qR Z;have hlen:(xs++news).length=(m+k)*inf.size:=by rw[di,vi,hl,zg]
 have grown:∀(qV:Nat),aw G R w->aw G (row c inf.size (.slice (some ⟨w.heap.size,0,none⟩) (m+k) (grownCap w (m+k) qV c)) (m+k) (xs++news)::R)
   (w.drew.alloc (.cells (xs.toArray++news.toArray++Builtin.zeroCells zv.cells (grownCap w (m+k) qV c-(m+k))) c)):=fun qV hR=>by
  have hge:=grownCap_ge w (m+k) qV c;have YM:grownCap w (m+k) qV c<=maxLen:=grownCap_le_maxLen w (m+k) qV c X8;have J:=(hR.drawn (w.drawn+1)).push (.cells (xs.toArray++news.toArray++Builtin.zeroCells zv.cells (grownCap w (m+k) qV c-(m+k))) c (0,0));have e:xs.toArray++news.toArray++Builtin.zeroCells zv.cells (grownCap w (m+k) qV c-(m+k))=((xs++news)++(Builtin.zeroCells zv.cells (grownCap w (m+k) qV c-(m+k))).toList).toArray:=by
   apply Array.ext';simp
  rw[e]at J ⊢;refine lC J hlen hge YM ?_;rw[di,hlen,TJ,size_zeroCells,Mc,<-zg]
  congr 1;omega
 rcases ahn with⟨rfl,rfl,rfl,hR⟩|⟨b,cap,cur,rfl,hmc,YM,gC,hB⟩
 ·by_cases hk:k=0
  ·subst hk;have hn:news=[]:=vD (by simpa using hl);subst hn;refine⟨nQ,w,?_,by simpa using bB hR c inf.size⟩;simp[Builtin.append_,aE hs,sizeOf,typeInfo,hi,Builtin.lenOf,Builtin.firstCells,loadCells,loadCellsFrom]
  have SV:=run_append_nil (P:=P) w s ty c inf zv hs hi sy ax k cx news hl hr H H (by rw[RR];have hb:=VS;simp only[mT]at hb;omega);have hgr:=grown 0 hR;simp only[mT,lE,TG]at hgr ⊢;exact⟨_,_,SV,hgr⟩
 by_cases RJ:m+k<=cap
 ·have nr:m*inf.size+news.length<=(xs++cur).toArray.size:=by rw[List.size_toArray,gC,hl,<-zg];exact ZQ _ RJ
  have SV:=run_append_room (P:=P) w s ty c inf hs hi b m cap (xs++cur).toArray (hB.pt .here) ax k cx news hl hr Y RJ nr;have hB':=hB.Jd .here ((xs++news)++cur.drop news.length);have e:(List.take (m*inf.size) (xs++cur).toArray.toList++news++List.drop (m*inf.size+news.length) (xs++cur).toArray.toList).toArray=((xs++news)++cur.drop news.length).toArray:=by
   simp only[<-vi];simp[List.drop_append,vB]
  rw[e]at SV;refine⟨_,_,SV,lC hB' hlen RJ YM ?_⟩;rw[di,hlen,jm,<-gC];simp only[List.size_toArray,di]at nr ⊢
  rw[vi,hl,zg]at*;omega
 have holds:Rd w ⟨b,0,none⟩ xs:=by
  have:=(Rd.O9 (o:=0) hB .here).take xs.length
  simpa using this
 have SV:=run_append_grow (P:=P) w s ty c inf zv hs hi sy ⟨b,0,none⟩ m cap xs vi holds ax k cx news hl hr H H (by rw[RR];exact growslice_fits H VS);exact⟨_,_,SV,grown cap hB.tail⟩
def eF{bytes:Nat}{xs:List C}(ho:O[i]?=some ⟨some d, .call ⟨.builtin .append,#[x,y],#[s,s]⟩,t,p,af,g⟩)(hs:P.underlying s=some (.slice c))(Dx:(P.info? c).map (·.size)=some z)(X4:(P.info? c).map (·.bytes)=some bytes)(Ed:(cd P c).map (·.size)=some z)(E:ev e x=some v)(hy:ev e y=some (.slice (some ax) k cx))(Z:aw G L w)(hp:dE (row c z v m xs) L R)(hr:Rd w ax news)(hl:news.length=k*z)(Y:lK news)(X8:m+k<=maxLen)(VS:(m+k)*bytes<=140737488355328)(hpd:gZ P O dr done i=[])(h:∀w' v',aw G (row c z v' (m+k) (xs++news)::R) w'->XL P n O dr (i::done) r K ((d,v')::e) w')(hd:Nat.blt d n=true:=by exact rfl)(hg:Gd O e g:=by exact gD):XL P n O dr done (i::r) K e w:=by
 cases hi:P.info? c with
 |none=>simp[hi]at Dx
 |some inf=>
  have lH:inf.size=z:=by simpa [hi]using Dx
  have RR:inf.bytes=bytes:=by simpa [hi]using X4
  cases sy:inf.zero with
  |none=>simp[cd,hi,sy]at Ed
  |some zv=>
   have Mc:zv.cells.size=z:=by simpa [cd,hi,sy]using Ed
   obtain⟨v',w',lU,CW⟩:=ab5 (P:=P) (ty:=t) (cx:=cx) hs hi sy lH RR Mc (Z.pick hp) hr hl Y X8 VS;refine jG ho (by simpa [dA]using hd) hg (ρ:=rh e) (by intro z hZ;simp[Op.operands,Call.operands]at hZ;exact Hz E hy hZ) rfl (v:=v') (w':=w') ?_ (gM hpd) (h _ _ CW);simp only[execOp,resolve,invoke,builtin,al,aG,ah,su,ey,l9,bM E,bM hy,lU]
def abR{s':aC}{dl dc sl sc:Nat}(ho:O[i]?=some ⟨some d, .call ⟨.builtin .copy,#[x,y],#[s,s']⟩,t,p,af,g⟩)(hs:P.underlying s=some (.slice c))(Dx:(P.info? c).map (·.size)=some 1)(E:ev e x=some (.slice (some ⟨b,o,none⟩) dl dc))(hy:ev e y=some (.slice (some ax) sl sc))(Z:aw G L w)(hp:dE (N b l T) L R)(hr:Rd w ax cs)(hl:cs.length=Nat.min sl dl)(Y:lK cs)(nr:o+cs.length<=l.length)(hl':l.take o++cs++l.drop (o+cs.length)=l')(hpd:gZ P O dr done i=[])(h:∀w',aw G (N b l' T::R) w'->XL P n O dr (i::done) r K ((d,I cs.length)::e) w')(hd:Nat.blt d n=true:=by exact rfl)(hg:Gd O e g:=by exact gD):XL P n O dr done (i::r) K e w:=by
 subst hl';have SV:=run_copy_row (P:=P) w s s' t c b o dl dc ax sl sc l.toArray T cs hs Dx (Z.pt hp) hl hr (by simpa using nr) Y;refine jG ho (by simpa [dA]using hd) hg (ρ:=rh e) (by intro z hZ;simp[Op.operands,Call.operands]at hZ;exact Hz E hy hZ) rfl (v:=I cs.length) (w':=w.setRow b (l.take o++cs++l.drop (o+cs.length)).toArray) ?_ (gM hpd) (h _ (Z.Jd hp _));simp only[execOp,resolve,invoke,builtin,al,aG,ah,su,ey,l9,bM E,bM hy,SV];rfl
def an(P:au)(f:bN):Prop:=∃fn,P.funcs[f]?=some fn/\(fn.name== "runtime.NumGoroutine")=false/\fn.body.isNone=false
def ed(ho:O[i]?=some ⟨some d, .call ⟨.value (.func f),xs,ts⟩,t,p,af,g⟩)(hf:an P f)(ha:V0 e xs.toList=some args)(hc:aA P f args.toArray w (bU Q))(hpd:∀w' v,Q v w'->∀q∈gZ P O dr done i,xQ P n O q ((d,v)::e) w')(h:∀w' v,Q v w'->XL P n O dr (i::done) r K ((d,v)::e) w')(hd:Nat.blt d n=true:=by exact rfl)(hg:Gd O e g:=by exact gD):XL P n O dr done (i::r) K e w:=by
 obtain⟨fn,hf,tX,vm⟩:=hf;obtain⟨hk,hm⟩:=xu ha;refine U9 ho (by simpa [dA]using hd) hg (ρ:=rh e) (by
  intro z hZ;simp[Op.operands,Call.operands]at hZ;rcases hZ with rfl|hZ
  ·rfl
  ·exact hk z (by simpa using hZ)) rfl (f:=f) (args:=args.toArray) ?_ hc fun v w' hQ=>⟨hpd w' v hQ,h w' v hQ⟩
 have hrf:rh e (.func f)= .func (.func f) #[] #[]:=rfl;have hm':xs.map (rh e)=args.toArray:=by apply Array.ext';simp[hm]
 simp only[execOp,resolve,hrf,Deferred.ofValue,invoke,callFunc,hm',al,aG,ah,program,Sem.run,hf,tX,vm];simp
def aO(ho:O[i]?=some ⟨some d, .call ⟨.value (.func f),xs,ts⟩,t,p,af,g⟩)(hf:an P f)(ha:V0 e xs.toList=some args)(hc:aA P f args.toArray w (bU Q))(hpd:gZ P O dr done i=[])(h:∀w' v,Q v w'->XL P n O dr (i::done) r K ((d,v)::e) w')(hd:Nat.blt d n=true:=by exact rfl)(hg:Gd O e g:=by exact gD):XL P n O dr done (i::r) K e w:=
 ed (hd:=hd) (hg:=hg) ho hf ha hc (fun w' v _=>gM (dst:=some d) hpd) h
def iN{z:aM}{c1 c2:Array C}{args':List C}(ho:O[i]?=some ⟨some d, .call ⟨.value z,xs,ts⟩,t,p,af,g⟩)(hz:ev e z=some (.func (.func f) c1 c2))(hf:an P f)(ha:V0 e xs.toList=some args)(FU:c1.toList++args++c2.toList=args')(hc:aA P f args'.toArray w (bU Q))(hpd:gZ P O dr done i=[])(h:∀w' v,Q v w'->XL P n O dr (i::done) r K ((d,v)::e) w')(hd:Nat.blt d n=true:=by exact rfl)(hg:Gd O e g:=by exact gD):XL P n O dr done (i::r) K e w:=by
 obtain⟨fn,hf,tX,vm⟩:=hf;obtain⟨hk,hm⟩:=xu ha;refine U9 ho (by simpa [dA]using hd) hg (ρ:=rh e) (by
  intro q hZ;simp[Op.operands,Call.operands]at hZ;rcases hZ with rfl|hZ
  ·exact OY hz
  ·exact hk q (by simpa using hZ)) rfl (f:=f) (args:=args'.toArray) ?_ hc fun v w' hQ=>⟨gM hpd,h w' v hQ⟩
 have hm':c1++xs.map (rh e)++c2=args'.toArray:=by apply Array.ext';simp[hm,<-FU]
 simp only[execOp,resolve,bM hz,Deferred.ofValue,invoke,callFunc,hm',al,aG,ah,program,Sem.run,hf,tX,vm];simp
end
def GG(P:au)(l:Nat)(args:List C)(w:ae)(R:C->ae->Prop):Prop:=
 ∃fn tmps assign body,(Instr.yield l args.toArray).run P w= .ok (.round l fn tmps assign body) w/\AM P l fn tmps assign body w (bU R)
def OD(P:au)(G:Gh)(l n:Nat)(OG:Nat->List C->List aF->Prop)(h2:Nat->aF)(Jx:aF):Prop:=
 ∀k args M w,k<n->OG k args M->aw G (h2 k::M) w->GG P l args w fun v w'=>(v= .bool true/\aw G (h2 (k+1)::M) w')\/(v= .bool false/\aw G (Jx::M) w')
def IA(P:au)(gf:bN)(lb:List C)(G:Gh)(L:List aF)(w:ae)(n:Nat)(OG:Nat->List C->List aF->Prop)(Lx:List aF):Prop:=
 ∀(l:Nat) (h2:Nat->aF) (Jx:aF) (w':ae),OD P G l n OG h2 Jx->aw G (h2 0::L) w'->aA P gf (.func (.yield l) #[] #[]::lb).toArray w' (bU fun _ Cb=>aw G (h2 n::Lx) Cb\/aw G (Jx::Lx) Cb)
def psE:List Nat->List C->cX->cX
 |p::ps,v::vs,e=>psE ps vs ((p,v)::e)
 |_,_,e=>e
def LU{n:Nat}:∀(ps:List Nat) (vs:List C) (e:cX) (a:Act),dZ n e a->ps.all (Nat.blt · n)=true->ps.length=vs.length→
  dZ n (psE ps vs e) {tmps:=(ps.zip vs).foldl (fun t (p,v)=>t.setIfInBounds p v) a.tmps,defers:=a.defers}
 |[],[],e,a,h,_,_=>h
 |p::ps,v::vs,e,a,h,hb,hl=>by
  simp only[O1,gG]at hb;exact LU ps vs ((p,v)::e) (a.put (some p) v) (h.put (by simpa using hb.1) v) hb.2 (by simpa using hl)
 |[],_::_,_,_,_,_,hl=>by simp at hl
 |_::_,[],_,_,_,_,hl=>by simp at hl
section
variable{done r:List Nat}{p:String}
def Y1{l:Nat}{z:aM}(ho:O[i]?=some ⟨some d, .call ⟨.value z,xs,ts⟩,t,p,af,g⟩)(hz:ev e z=some (.func (.yield l) #[] #[]))(ha:V0 e xs.toList=some args)(hy:GG P l args w Q)(hpd:∀w' v,Q v w'->∀q∈gZ P O dr done i,xQ P n O q ((d,v)::e) w')(h:∀w' v,Q v w'->XL P n O dr (i::done) r K ((d,v)::e) w')(hd:Nat.blt d n=true:=by exact rfl)(hg:Gd O e g:=by exact gD):XL P n O dr done (i::r) K e w:=by
 obtain⟨hk,hm⟩:=xu ha;obtain⟨fn,tmps,assign,body,lU,hR⟩:=hy;refine AT ho (by simpa [dA]using hd) hg (ρ:=rh e) (by
  intro q hZ;simp[Op.operands,Call.operands]at hZ;rcases hZ with rfl|hZ
  ·exact OY hz
  ·exact hk q (by simpa using hZ)) ?_
 have hm':xs.map (rh e)=args.toArray:=by apply Array.ext';simp[hm]
 show mS P _ 2 w _
 unfold mS;simp only[execOp,resolve,bM hz,Deferred.ofValue,invoke,hm',al,aG,ah,TG,acf,lU];exact RoundIn.mono hR fun en w' ⟨v,he,hQ⟩=>⟨v,he,hpd w' v hQ,h w' v hQ⟩
def wK{l:Nat}{z:aM}(ho:O[i]?=some ⟨some d, .call ⟨.value z,xs,ts⟩,t,p,af,g⟩)(hz:ev e z=some (.func (.yield l) #[] #[]))(ha:V0 e xs.toList=some args)(hy:GG P l args w Q)(hpd:gZ P O dr done i=[])(h:∀w' v,Q v w'->XL P n O dr (i::done) r K ((d,v)::e) w')(hd:Nat.blt d n=true:=by exact rfl)(hg:Gd O e g:=by exact gD):XL P n O dr done (i::r) K e w:=
 Y1 (hd:=hd) (hg:=hg) ho hz ha hy (fun w' v _=>gM (dst:=some d) hpd) h
end
def agM(fn:bN)(tmps:Array C)(ps:Array Tmp)(assign body:Code)(D:Nat)(st:LoopState)(pe:Option Code):Obj:= .loop {state:=st,pending:=pe,fn,tmps,params:=ps,assign,body,defers:=D}
abbrev fS(D:Nat):aF:=pt D (.deferred (some []))
section
variable{K F:jF}{Lx:List aF}
def oB{g:Gh}{b:Nat}{o:Obj}(h:aw g (pt b o::R) w)(o':Obj):aw g (pt b o'::R) (w.putObj b o'):=h.set o'
def VZ(G:Gh)(Je:List (Nat×aF))(M:List aF):List (Nat×jF):=Je.map fun x=>(x.1,fun _ w=>aw G (x.2::M) w)
def Oi{Je:List (Nat×aF)}{id:Nat}{K':jF}(h:tf (VZ G Je M) id=some K'):∃A,(id,A)∈Je/\K'=fun _ w=>aw G (A::M) w:=by
 induction Je with
 |nil=>cases h
 |cons x r ih=>
  obtain⟨k,A⟩:=x;simp only[VZ,ey,tf]at h
  by_cases hk:k=id
  ·subst hk;simp at h;exact⟨A,kf ..,h.symm⟩
  rw[qx hk]at h;obtain⟨B,Y,J⟩:=ih h;exact⟨B,kG _ Y,J⟩
def DG{gop:aM}{ps:Array Tmp}{gf:bN}{lb:List C}{OG:Nat->List C->List aF->Prop}(h2:Nat->aF)(Jr:aF)(Je:List (Nat×aF))(hg:ev e gop=some (.func (.func gf) #[] lb.toArray))(hf:an P gf)(oR:ps.toList.all (Nat.blt · n)=true)(hs:gd e₀ e)(aaR:marks e₀=[])(Z:aw G (h2 0::L) w)(hlen:∀k args M,OG k args M->ps.toList.length=args.length)(VP:IA P gf lb G L w m OG Lx)(re:∀(l D:Nat) (o:Obj) (k:Nat) (args:List C) (M:List aF) (w:ae),k<m->OG k args M->aw G (h2 k::pt l o::fS D::M) w→
   X P n (some l) assign (fun C2 vt=>∃L1,aw G (pt l o::L1) vt/\∀(o':Obj) (Fl:ae),aw G (pt l o'::L1) Fl→
    X P n (some l) body (fun _ w=>aw G (h2 (k+1)::pt l o'::fS D::M) w) (VZ G Je (pt l o'::fS D::M)) (fun _ w=>aw G (Jr::pt l o'::fS D::M) w) C2 Fl) [] (fun _ _=>False) (psE ps.toList args e₀) w)(Od:∀(D:Nat) (w:ae),aw G (h2 m::fS D::Lx) w->K ((1000000000,pQ D)::e) w)(aaP:∀(D:Nat) (w:ae),aw G (Jr::fS D::Lx) w->F ((1000000000,pQ D)::e) w)(hex:∀(id:Nat) (A:aF),(id,A)∈Je->∃K',tf hx id=some K'/\∀(D:Nat) (w:ae),aw G (A::fS D::Lx) w->K' ((1000000000,pQ D)::e) w):
  X P n none (.rangeFunc gop ps assign body) K hx F e w:=fun a ha=>by
 refine wpIn_rangeFunc (F:=Fw none) ?_;intro fn _;obtain⟨D,hD⟩:∃D,D=w.heap.size:=⟨_,rfl⟩;obtain⟨rec,xl⟩:∃rec:LoopState->Option Code->Obj,rec=fun st pe=>agM fn a.tmps ps assign body D st pe:=⟨_,rfl⟩
 have CW:aw G (pt (D+1) (rec .ready none)::fS D::h2 0::L) ((w.alloc (.deferred (some []))).alloc (rec .ready none)):=by
  have Y:=Z.push (.deferred (some []));have J:=Y.push (rec .ready none);simp only[Array.size_push]at J;rw[hD];exact J
 obtain⟨W1,hW1⟩:∃W1,(w.alloc (.deferred (some []))).alloc (rec .ready none)=W1:=⟨_,rfl⟩;rw[hW1]at CW;have Qo:=ha.ev hg;obtain⟨ff,hf1,hf2,hf3⟩:=hf;refine⟨D+1,[{target:= .collected D,args:=#[]}],W1,{target:= .fn (.func gf) lb.toArray,args:=#[.func (.yield (D+1)) #[] #[]]},W1,gf,
  (.func (.yield (D+1)) #[] #[]::lb).toArray,W1,?_,?_,fun _ _=>trivial,?_,(fun hd=>by cases hd),?_⟩
 ·rw[<-hW1,xl,hD];exact run_enterLoop_outer _ _ _ _ _
 ·simp only[resolve,Qo];simp[Deferred.ofValue,Act.eval]
 ·simp only[invoke,callFunc,al,aG,ah,program,Sem.run,hf1,hf2,hf3];simp
 have Kb:∀(st:LoopState) (pe:Option Code) (A:aF) (kY:ae),st≠ .busy->aw G (pt (D+1) (rec st pe)::fS D::A::Lx) kY->∃qP,(Instr.endLoop (D+1)).run P kY= .ok pe qP/\aw G (A::fS D::Lx) qP:=fun st pe A kY jQ h=>by
  have Y:=h.eh;rw[xl]at Y;have J:=run_endLoop (P:=P) (r:={state:=st,pending:=pe,fn,tmps:=a.tmps,params:=ps,assign,body,defers:=D}) Y jQ;exact⟨_,J,((oB h _).tail).pick (.there .here)⟩
 have Kf:dZ n ((1000000000,pQ D)::e) {a with defers:=[{target:= .collected D,args:=#[]}]++a.defers}:=by
  refine⟨?_,ha.size,ha.small,fun t v hv=>?_⟩
  ·simp[marks,Hg,ha.defers]
  rcases mz hv with⟨Y,_⟩|⟨_,J⟩
  ·exact aS Y.symm (zB hv)
  exact ha.get t v J
 have afO:dZ n e₀ {tmps:=a.tmps,defers:=[]}:=⟨by rw[aaR];rfl,ha.size,ha.small,fun t v hv=>ha.get t v (hs t v hv)⟩;obtain⟨Jk,hJk⟩:∃Jk:Nat->aF,Jk=fun k h=>all [pt (D+1) (rec .ready none),fS D,h2 k] h:=⟨_,rfl⟩
 obtain⟨Jx,hJx⟩:∃Jx:aF,Jx=fun h=>all [pt (D+1) (rec .done (some .ret)),fS D,Jr] h\/∃id A,(id,A)∈Je/\all [pt (D+1) (rec .done (some (.exit id))),fS D,A] h:=⟨_,rfl⟩
 have hy:OD P G (D+1) m OG Jk Jx:=fun k args M w' hk rI hS=>by
  rw[hJk]at hS;obtain⟨hh,Y,J⟩:=nU hS;have hS':aw G (pt (D+1) (rec .ready none)::fS D::h2 k::M) w':=J _ Y;have hl:=hlen k args M rI;have Mx:=hS'.eh;rw[xl]at Mx
  refine⟨fn,_,assign,body,run_yield (r:={state:= .ready,pending:=none,fn,tmps:=a.tmps,params:=ps,assign,body,defers:=D}) Mx (by simpa using hl.symm),?_⟩;refine roundIn_of_wpIn (F:=Fw none) trivial ?_;have Ke:((ps.zip args.toArray).foldl (fun tmps x=>tmps.setIfInBounds x.1 x.2) a.tmps)=(ps.toList.zip args).foldl (fun t x=>t.setIfInBounds x.1 x.2) a.tmps:=by
   rw[<-ZJ,Array.toList_zip]
  have hX:=re (D+1) D (rec .ready none) k args M w' hk rI (hS'.LG (As:=[h2 k]) (.cons (.there (.there .here)) .nil)) _ (LU ps.toList args e₀ _ afO oR hl)
  show assign.wpIn (Fw (some (D+1))) 0 P _ {tmps:=((ps.zip args.toArray).foldl (fun tmps x=>tmps.setIfInBounds x.1 x.2) a.tmps),defers:=[]} w'
  rw[Ke];refine wpIn_mono hX fun ex yP vt hq=>?_
  cases ex<;>simp only[vF,tf]at hq<;>simp only[Exit.then]
  case exit=>obtain⟨K',h,_⟩:=hq;cases h
  case ret=>obtain⟨_,_,h⟩:=hq;exact h
  case normal=>
   obtain⟨C2,aa4,L1,hS1,aa1⟩:=hq;have RI:=hS1.eh;rw[xl]at RI;refine⟨_,run_beginRound (r:={state:= .ready,pending:=none,fn,tmps:=a.tmps,params:=ps,assign,body,defers:=D}) RI rfl,?_⟩;refine wpIn_mono (aa1 (rec .busy none) _ (by rw[xl];exact oB hS1 _) yP aa4) fun ex agb Fl hq=>?_
   have Pv:∀(jump:Option Code) (A:aF),aw G (A::pt (D+1) (rec .busy none)::fS D::M) Fl->∃kY,(Instr.endRound (D+1) jump).run P Fl= .ok (.bool jump.isNone) kY/\aw G (pt (D+1) (rec (if jump.isNone then .ready else .done) jump)::fS D::A::M) kY:=fun jump A h=>by
    have h:=h.LG (As:=[pt (D+1) _,fS D]) (.cons (.there .here) (.cons (.there .here) .nil));have Y:=h.eh;rw[xl]at Y;refine⟨_,run_endRound (r:={state:= .busy,pending:=none,fn,tmps:=a.tmps,params:=ps,assign,body,defers:=D}) jump Y,?_⟩;rw[xl];exact oB h _
   cases ex<;>simp only[vF]at hq<;>simp only[roundPost]
   case normal=>
    obtain⟨_,_,h⟩:=hq;obtain⟨kY,h3,h4⟩:=Pv none _ h;exact⟨_,kY,h3,_,rfl, .inl ⟨rfl,by rw[hJk];exact uJ (M:=[_,_,_]) h4 fun _ h=>h⟩⟩
   case ret=>
    obtain⟨_,_,h⟩:=hq;obtain⟨kY,h3,h4⟩:=Pv (some .ret) _ h;exact⟨_,kY,h3,_,rfl, .inr ⟨rfl,by rw[hJx];exact uJ (M:=[_,_,_]) h4 fun _ h=> .inl h⟩⟩
   case exit id=>
    obtain⟨K',gn,_,_,h⟩:=hq;obtain⟨A,hA,rfl⟩:=Oi gn;obtain⟨kY,h3,h4⟩:=Pv (some (.exit id)) _ h;exact⟨_,kY,h3,_,rfl, .inr ⟨rfl,by rw[hJx];exact uJ (M:=[_,_,_]) h4 fun _ h=> .inr ⟨id,A,hA,h⟩⟩⟩
 have h0:aw G (Jk 0::L) W1:=by rw[hJk];exact uJ (M:=[_,_,_]) CW fun _ h=>h
 refine Calls.fw (Calls.mono (VP (D+1) Jk Jx W1 hy h0) fun en kY ⟨v,hv,hR⟩=>?_) none _;subst hv
 show∃jump qP,_
 rcases hR with hR|hR
 ·rw[hJk]at hR;obtain⟨hh,Y,J⟩:=nU hR;obtain⟨qP,h3,h4⟩:=Kb _ _ _ kY sM (J _ Y);exact⟨none,qP,h3,_,Kf,Od D qP h4⟩
 rw[hJx]at hR;obtain⟨hh,Y|⟨id,A,hA,Y⟩,J⟩:=nU hR
 ·obtain⟨qP,h3,h4⟩:=Kb _ _ _ kY sM (J _ Y);exact⟨some .ret,qP,h3,wpIn_ret ⟨_,Kf,aaP D qP h4⟩⟩
 obtain⟨qP,h3,h4⟩:=Kb _ _ _ kY sM (J _ Y);obtain⟨K',gn,hK⟩:=hex id A hA;exact⟨some (.exit id),qP,h3,wpIn_exit ⟨K',gn,_,Kf,hK D qP h4⟩⟩
end
section
variable{done r:List Nat}{p:String}
variable{u:aC}{k:IntKind}{a:Int}
def aej{zc:Array C}{xs:Array (Nat×aM)}(ho:O[i]?=some ⟨some d, .buildSlice s m xs,t,p,af,g⟩)(hs:P.underlying s=some (.slice c))(Dx:(P.info? c).map (·.size)=some z)(Ed:cd P c=some zc)(hz:0<m*z/\m*z<=16777216)(E:V0 e (xs.toList.map (·.2))=some vs)(hf:Instr.fill (fun i=>some (i*z,z)) ((Array.range (m*z)).map (zc[·%zc.size]!)) ((xs.toList.map (·.1)).zip vs)=some cs.toArray)(Z:aw G L w)(hpd:gZ P O dr done i=[])(h:∀w' b,aw G (N b cs c::L) w'->XL P n O dr (i::done) r K ((d,sQ b m m)::e) w')(hd:Nat.blt d n=true:=by exact rfl)(hg:Gd O e g:=by exact gD):XL P n O dr done (i::r) K e w:=by
 obtain⟨hk,hm⟩:=xu E;refine jG ho (by simpa [dA]using hd) hg (ρ:=rh e) (by intro z hz;exact hk z (by simpa [Op.operands]using hz)) rfl (v:= .slice (some ⟨w.heap.size,0,none⟩) m m) (w':={w with heap:=w.heap.push (.cells cs.toArray c (0,0))}) ?_ (gM hpd) (h _ _ (Z.push _));have e1:(xs.map fun(j,z)=>(j,rh e z))=((xs.toList.map (·.1)).zip vs).toArray:=by
  apply Array.ext';rw[<-hm];simp only[O2]
  generalize xs.toList=q
  induction q with
  |nil=>rfl
  |cons x q ih=>obtain⟨a,b⟩:=x;simp only[ey,acg,ih]
 cases hi:P.info? c with
 |none=>simp[hi]at Dx
 |some inf=>
  have lH:inf.size=z:=by simpa [hi]using Dx
  cases sy:inf.zero with
  |none=>simp[cd,hi,sy]at Ed
  |some zv=>
   have Mc:zv.cells=zc:=by simpa [cd,hi,sy]using Ed
   have hnz:¬m*z=0:=H;have hle:¬16777216<m*z:=H;simp only[execOp,e1];simp[Instr.buildSlice,aE hs,sizeOf,typeInfo,hi,lH,zeroValue,sy,hnz,hle,Mc,hf,newRow]
def IY(ho:O[i]?=some ⟨some d, .buildSlice s 0 #[],t,p,af,g⟩)(hs:P.underlying s=some (.slice c))(Dx:(P.info? c).map (·.size)=some z)(Z:aw G L w)(hpd:gZ P O dr done i=[])(h:∀w' b,aw G (N b [] c::L) w'->XL P n O dr (i::done) r K ((d,sQ b 0 0)::e) w')(hd:Nat.blt d n=true:=by exact rfl)(hg:Gd O e g:=by exact gD):XL P n O dr done (i::r) K e w:=by
 refine jG ho (by simpa [dA]using hd) hg (ρ:=rh e) (by intro z hz;simp[Op.operands]at hz) rfl (v:= .slice (some ⟨w.heap.size,0,none⟩) 0 0) (w':={w with heap:=w.heap.push (.cells #[] c (0,0))}) ?_ (gM hpd) (h _ _ (Z.push _));cases hi:P.info? c with
 |none=>simp[hi]at Dx
 |some inf=>simp[execOp,Instr.buildSlice,aE hs,sizeOf,typeInfo,hi,Instr.fill,newRow];rw[show Array.map (fun _=>default) (Array.range 0)=(#[]:Array C) by simp]
def Hq{l:Nat}(hs:P.underlying s=some (.slice c))(w:ae):(Op.equal s (.slice q l m) (nQ)).run P w= .ok q.isNone w:=by
 have:∀m',(Op.equalIn (m'+1) s (.slice q l m) (nQ)).run P w= .ok q.isNone w:=fun m'=>by
  cases q<;>simp[Op.equalIn,aE hs]
 exact this 9999
def DH{l:Nat}(ho:O[i]?=some ⟨some d, .binOp .eql s x (.const (nQ)) u,t,p,af,g⟩)(hs:P.underlying s=some (.slice c))(E:ev e x=some (.slice q l m))(h:XL P n O dr (i::done) r K ((d, .bool q.isNone)::e) w)(hd:Nat.blt d n=true:=by exact rfl)(hg:Gd O e g:=by exact gD):XL P n O dr done (i::r) K e w:=
 jS (hd:=hd) (hg:=hg) ho (by simp[eQ,hs]) E (show ev e (.const (nQ))=some (nQ) from rfl) (fun w'=>by
  have h0:(eqGuard .eql s x (.const (nQ)) (.slice q l m) (nQ)).run P w'= .ok () w':=by simp[eqGuard]
  have Y:(binOp .eql s (.slice q l m) (nQ)).run P w'= .ok (.bool q.isNone) w':=by
   simp only[binOp,al,Hq hs,ah];rfl
  simp only[al,h0,Y,ah]) h
def abP{l:aM}(ho:O[i]?=some ⟨some d, .slice s x (some l) none none,t,p,af,g⟩)(hs:P.underlying s=some (.slice c))(hz:((P.info? c).map (·.size)).isSome=true)(E:ev e x=some (.slice q len len))(hl:ev e l=some (.int kl lo))(hb:lo=len)(h:XL P n O dr (i::done) r K ((d, .slice q 0 0)::e) w)(hd:Nat.blt d n=true:=by exact rfl)(hg:Gd O e g:=by exact gD):XL P n O dr done (i::r) K e w:=
 fC ho (by simpa [dA]using hd) hg (ρ:=rh e) (by intro z hZ;simp[Op.operands]at hZ;exact Hz E hl hZ) rfl
  (v:= .slice q 0 0) (fun w'=>by
   cases lR:P.info? c with
   |none=>simp[lR]at hz
   |some inf=>
    have Y:=mR (P:=P) (k:=kl) (v:=lo) (y:=len) (c:= .sliceB) ⟨H,H⟩ w';have sP:lo.toNat=len:=H;simp[execOp,bM E,bM hl,Instr.sliceAt,Instr.slice,Instr.sliceBounds,aE hs,Y,sizeOf,typeInfo,lR,sP]) h
def IX{b o:Nat}(ho:O[i]?=some ⟨some d, .indexAddr s x y,t,p,af,g⟩)(hs:P.underlying s=some (.array m c))(hz:(P.info? c).map (·.size)=some z)(E:ev e x=some (.pointer (some ⟨b,o,none⟩)))(hy:ev e y=some (.int k a))(ha:0<=a/\a<m)(h:XL P n O dr (i::done) r K ((d, .pointer (some ⟨b,o+a.toNat*z,none⟩))::e) w)(hd:Nat.blt d n=true:=by exact rfl)(hg:Gd O e g:=by exact gD):XL P n O dr done (i::r) K e w:=
 fC ho (by simpa [dA]using hd) hg (ρ:=rh e) (by intro z hZ;simp[Op.operands]at hZ;exact Hz E hy hZ) rfl (v:= .pointer (some ⟨b,o+a.toNat*z,none⟩)) (fun w'=>by
  cases hi:P.info? c with
  |none=>simp[hi]at hz
  |some inf=>
   have lH:inf.size=z:=by simpa [hi]using hz
   simp[execOp,bM E,bM hy,Instr.indexAt,Instr.sureAddr,asIntOf,aE hs,ha.1,ha.2,sizeOf,typeInfo,hi,lH,eK]) h
def aei{cap:Nat}(ho:O[i]?=some ⟨some d, .call ⟨.builtin .cap,#[x],#[s]⟩,t,p,af,g⟩)(hs:P.underlying s=some (.slice c))(E:ev e x=some (.slice q len cap))(h:XL P n O dr (i::done) r K ((d,I cap)::e) w)(hd:Nat.blt d n=true:=by exact rfl)(hg:Gd O e g:=by exact gD):XL P n O dr done (i::r) K e w:=
 fC ho (by simpa [dA]using hd) hg (ρ:=rh e) (by intro z hZ;simp[Op.operands,Call.operands]at hZ;exact HA E hZ) (by simp[eQ,hs]) (v:=I cap)
  (fun w'=>by simp[execOp,resolve,invoke,builtin,bM E,Builtin.cap_,aE hs,goInt]) h
end
abbrev KV:=List (Int×C)
variable{kv:KV}
def dJ:KV->Int->Option C
 |[],_=>none
 |(k,v)::r,i=>if i=k then some v else dJ r i
def oC:KV->Int->C->KV
 |[],i,v=>[(i,v)]
 |(k,u)::r,i,v=>if i=k then(k,v)::r else(k,u)::oC r i v
def yl:KV->Int->KV
 |[],_=>[]
 |(k,u)::r,i=>if i=k then r else(k,u)::yl r i
def FM(kv:KV)(i:Int)(v:C)(j:Int):dJ (oC kv i v) j=if j=i then some v else dJ kv j:=by
 induction kv with
 |nil=>simp[oC,dJ]
 |cons p r ih=>
  obtain⟨k,u⟩:=p
  by_cases h:i=k
  ·subst h;simp only[oC,if_true,dJ];split<;>rfl
  simp only[oC,aj h,dJ,ih]
  by_cases Y:j=k
  ·subst Y;simp[Ne.symm h]
  simp[Y]
def JX{i:Int}:dJ kv i=none↔i∉kv.map (·.1):=by
 induction kv with
 |nil=>simp[dJ]
 |cons p r ih=>
  obtain⟨k,u⟩:=p
  by_cases h:i=k
  ·subst h;simp[dJ]
  simp[dJ,h,ih]
def XB{i:Int}(h:dJ kv i=some v):(i,v)∈kv:=by
 induction kv with
 |nil=>simp[dJ]at h
 |cons p r ih=>
  obtain⟨k,u⟩:=p
  by_cases hk:i=k
  ·subst hk;simp[dJ]at h;subst h;simp
  simp[dJ,hk]at h;exact kG _ (ih h)
def NZ(hn:(kv.map (·.1)).Nodup){i:Int}(h:(i,v)∈kv):dJ kv i=some v:=by
 induction kv with
 |nil=>cases h
 |cons p r ih=>
  obtain⟨k,u⟩:=p;simp only[ey,Bx]at hn;rcases cE.1 h with h|h
  ·cases h;simp[dJ]
  have:i≠k:=fun e=>hn.1 (dY.2 ⟨(i,v),h,e⟩)
  simp[dJ,this,ih hn.2 h]
def XA(kv:KV)(i:Int)(v:C):(oC kv i v).map (·.1)=if i∈kv.map (·.1)then kv.map (·.1)else kv.map (·.1)++[i]:=by
 induction kv with
 |nil=>simp[oC]
 |cons p r ih=>
  obtain⟨k,u⟩:=p
  by_cases h:i=k
  ·subst h;simp[oC]
  by_cases hm:i∈r.map (·.1)
  ·rw[aB hm]at ih;rw[aB (by rw[ey];exact kG _ hm)];simp only[oC,aj h,ey,ih]
  rw[aj hm]at ih;rw[aj (by rw[ey];exact fun hc=>(cE.1 hc).elim h hm)];simp only[oC,aj h,ey,ih,nI]
def CS(hn:(kv.map (·.1)).Nodup)(i:Int)(v:C):((oC kv i v).map (·.1)).Nodup:=by
 rw[XA];split
 ·exact hn
 rename_i h;exact Hv.2 ⟨hn,by simp,fun a ha b hb=>by simp at hb;subst hb;exact fun e=>h (e▸ha)⟩
def aaA(kv:KV)(i:Int):(yl kv i).Sublist kv:=by
 induction kv with
 |nil=>exact .slnil
 |cons p r ih=>
  obtain⟨k,u⟩:=p
  by_cases h:i=k
  ·subst h;simp[yl]
  simp only[yl,aj h];exact ih.cons_cons _
def J0(hn:(kv.map (·.1)).Nodup)(i:Int):((yl kv i).map (·.1)).Nodup:=hn.sublist ((aaA kv i).map _)
def XC(hn:(kv.map (·.1)).Nodup)(i j:Int):dJ (yl kv i) j=if j=i then none else dJ kv j:=by
 induction kv with
 |nil=>simp[yl,dJ]
 |cons p r ih=>
  obtain⟨k,u⟩:=p;simp only[ey,Bx]at hn
  by_cases h:i=k
  ·subst h;simp only[yl,if_true,dJ]
   by_cases hj:j=i
   ·subst hj;rw[aB rfl];exact JX.2 hn.1
   simp[hj]
  simp only[yl,aj h,dJ,ih hn.2]
  by_cases hj:j=k
  ·subst hj;simp[Ne.symm h]
  simp[hj]
structure AQ(es:List aZ)(ck:Nat)(kv:KV):Prop where
 p3:es.map (fun e=>(e.key,e.val))=kv.map fun p=>(I p.1,p.2)
 keys:(kv.map (·.1)).Nodup
 qV:∀e∈es,e.born<ck
 CC:(es.map (·.born)).Nodup
def dm(m:Nat)(kv:KV):aF:=fun h=>∃es ck,h m=some (.map es ck)/\AQ es.toList ck kv
def pA:KV->Int->Nat->Option (Nat×C)
 |[],_,_=>none
 |(k,v)::r,i,j=>if i=k then some (j,v)else pA r i (j+1)
def KN(K:IntKind)(i:Int):∀(es:List aZ) (kv:KV) (j:Nat),es.map (fun e=>(e.key,e.val))=kv.map (fun p=>(I p.1,p.2))→
  Instr.findNow (.int K) (I i) es j=some (pA kv i j)
 |[],[],_,_=>rfl
 |[],_::_,_,h=>by simp at h
 |_::_,[],_,h=>by simp at h
 |e::es,(k,v)::kv,j,h=>by
  simp only[ey,List.cons.injEq,Prod.mk.injEq]at h;obtain⟨⟨Y,J⟩,h3⟩:=h;have ih:=KN K i es kv (j+1) h3
  by_cases hk:i=k
  ·subst hk;simp[Instr.findNow,Y,J,Instr.sameNow,pA]
  have hb:(i==k)=false:=by simpa using hk
  simp[Instr.findNow,Y,Instr.sameNow,pA,hk,ih,hb]
def xh(i:Int):∀(kv:KV) (j:Nat),(pA kv i j).map (·.2)=dJ kv i
 |[],_=>rfl
 |(k,v)::r,j=>by by_cases h:i=k<;>simp[pA,dJ,h,xh i r]
def FN(i:Int)(v:C):∀(es:List aZ) (kv:KV) (j:Nat),es.map (fun e=>(e.key,e.val))=kv.map (fun p=>(I p.1,p.2))→
  ∀q u,pA kv i j=some (q,u)->j<=q/\∃e,es[q-j]?=some e/\e.key=I i∧
   (es.modify (q-j) fun e=>{e with key:=I i,val:=v}).map (fun e=>(e.key,e.val))=(oC kv i v).map (fun p=>(I p.1,p.2))∧
   (es.modify (q-j) fun e=>{e with key:=I i,val:=v}).map (·.born)=es.map (·.born)∧
   (es.eraseIdx (q-j)).map (fun e=>(e.key,e.val))=(yl kv i).map (fun p=>(I p.1,p.2))
 |[],[],_,_,_,_,h=>by simp[pA]at h
 |[],_::_,_,h,_,_,_=>by simp at h
 |_::_,[],_,h,_,_,_=>by simp at h
 |e::es,(k,u)::kv,j,h,q,u',hf=>by
  simp only[ey,List.cons.injEq,Prod.mk.injEq]at h;obtain⟨⟨Y,J⟩,h3⟩:=h
  by_cases hk:i=k
  ·subst hk;simp[pA]at hf;obtain⟨rfl,rfl⟩:=hf;refine⟨fP _,e,?_⟩;simp[oC,yl,Y,h3]
  simp[pA,hk]at hf;obtain⟨hle,e',h4,h5,h6,h7,h8⟩:=FN i v es kv (j+1) h3 q u' hf;have hq:q-j=(q-(j+1))+1:=H;refine⟨H,e',?_⟩;rw[hq];refine⟨by simpa using h4,h5,?_,?_,?_⟩
  ·simp only[acn,ey,oC,aj hk,h6,Y,J]
  ·simp only[acn,ey,h7]
  simp only[List.eraseIdx_cons_succ,ey,yl,aj hk,h8,Y,J]
section
variable{done r:List Nat}{p:String}
variable{c:aM}{kt et:aC}{a:Int}
def fV{o:Obj}(h:w.heap[m]?=some o)(hn:∀c e f,o≠ .cells c e f):(getObj m).run P w= .ok o w:=by
 unfold getObj;cases o<;>simp[Sem.run,h]
 exact aS rfl (hn _ _ _)
def qh{o:Obj}(o':Obj)(h:w.heap[m]?=some o)(hn:∀c e f,o≠ .cells c e f):(setObj m o').run P w= .ok () {w with heap:=w.heap.setIfInBounds m o'}:=by
 unfold setObj;cases o<;>simp[Sem.run,h]
 exact aS rfl (hn _ _ _)
def mY(Z:aw G (dm m kv::R) w):∃es ck,AQ es.toList ck kv/\aw G (pt m (.map es ck)::R) w:=by
 obtain⟨hg,h,hh,Y,J,hd,hu,⟨es,ck,hm,hf⟩,hL⟩:=Z;exact⟨es,ck,hf,hg,h,hh,Y,J,hd,hu,hm,hL⟩
def sO{es:Array aZ}{ck:Nat}(hf:AQ es.toList ck kv)(Z:aw G (pt m (.map es ck)::R) w):aw G (dm m kv::R) w:=Z.gN fun h hm=>⟨es,ck,hm,hf⟩
def iT(hk:P.underlying kt=some (.int .i64)){ck:Nat}(hf:AQ es ck kv)(w:ae):(Instr.findKey kt (I a) es).run P w= .ok (pA kv a 0) w:=by
 simp[Instr.findKey,aE hk,KN .i64 a es kv 0 hf.p3]
def gY(hk:P.underlying kt=some (.int .i64)){b:Bool}(w:ae):(Instr.checkKey b 10000 kt (I a)).run P w= .ok () w:=by
 have:∀q,(Instr.checkKey b (q+1) kt (I a)).run P w= .ok () w:=fun q=>by simp[Instr.checkKey,aE hk]
 exact this 9999
def Ny(ho:O[i]?=some ⟨some d, .makeMap s none,t,p,af,g⟩)(Z:aw G L w)(hpd:gZ P O dr done i=[])
  (h:∀w' m,aw G (dm m []::L) w'->XL P n O dr (i::done) r K ((d, .map (some m))::e) w')(hd:Nat.blt d n=true:=by exact rfl)(hg:Gd O e g:=by exact gD):XL P n O dr done (i::r) K e w:=by
 refine jG ho (by simpa [dA]using hd) hg (ρ:=rh e) (by intro z hZ;simp[Op.operands]at hZ) rfl (v:= .map (some w.heap.size)) (w':={w with heap:=w.heap.push (.map #[] 0)}) ?_ (gM hpd) (h _ _ (sO ⟨rfl,by simp,by simp,by simp⟩ (Z.push _)));simp[execOp,Instr.makeMap,newObj,Sem.run]
def aeg{z:C}(ho:O[i]?=some ⟨some d, .lookup s x y true,t,p,af,g⟩)(hs:P.underlying s=some (.map kt et))(hk:P.underlying kt=some (.int .i64))(hz:(P.info? et).bind (·.zero)=some z)(E:ev e x=some (.map (some m)))(hy:ev e y=some (I a))(Z:aw G L w)(hp:dE (dm m kv) L R){b0:Bool}(XO:(dJ kv a).getD z=v0)(hb0:(dJ kv a).isSome=b0)(h:XL P n O dr (i::done) r K ((d, .tuple #[v0, .bool b0])::e) w)(hd:Nat.blt d n=true:=by exact rfl)(hg:Gd O e g:=by exact gD):XL P n O dr done (i::r) K e w:=by
 subst XO hb0;obtain⟨es,ck,hf,mP⟩:=mY (Z.pick hp);refine AU ho (by simpa [dA]using hd) hg (ρ:=rh e) (by intro z hZ;simp[Op.operands]at hZ;exact Hz E hy hZ) rfl (v:= .tuple #[(dJ kv a).getD z, .bool (dJ kv a).isSome]) ?_ h;have Y:=fV (P:=P) mP.eh sM;have J:=xh a kv 0;cases hi:P.info? et with
 |none=>simp[hi]at hz
 |some inf=>
  have sy:inf.zero=some z:=by simpa [hi]using hz
  cases yR:pA kv a 0 with
  |none=>rw[yR]at J;simp at J;simp[execOp,bM E,bM hy,Instr.lookup,aE hs,Y,gY hk,iT hk hf,yR,zeroValue,typeInfo,hi,sy,<-J]
  |some q=>obtain⟨q,u⟩:=q;rw[yR]at J;simp at J;simp[execOp,bM E,bM hy,Instr.lookup,aE hs,Y,gY hk,iT hk hf,yR,<-J]
def GQ{z:C}(ho:O[i]?=some ⟨some d, .lookup s x y false,t,p,af,g⟩)(hs:P.underlying s=some (.map kt et))(hk:P.underlying kt=some (.int .i64))(hz:(P.info? et).bind (·.zero)=some z)(E:ev e x=some (.map (some m)))(hy:ev e y=some (I a))(Z:aw G L w)(hp:dE (dm m kv) L R)(XO:(dJ kv a).getD z=v0)(h:XL P n O dr (i::done) r K ((d,v0)::e) w)(hd:Nat.blt d n=true:=by exact rfl)(hg:Gd O e g:=by exact gD):XL P n O dr done (i::r) K e w:=by
 subst XO;obtain⟨es,ck,hf,mP⟩:=mY (Z.pick hp);refine AU ho (by simpa [dA]using hd) hg (ρ:=rh e) (by intro z hZ;simp[Op.operands]at hZ;exact Hz E hy hZ) rfl (v:=(dJ kv a).getD z) ?_ h;have Y:=fV (P:=P) mP.eh sM;have J:=xh a kv 0;cases hi:P.info? et with
 |none=>simp[hi]at hz
 |some inf=>
  have sy:inf.zero=some z:=by simpa [hi]using hz
  cases yR:pA kv a 0 with
  |none=>rw[yR]at J;simp at J;simp[execOp,bM E,bM hy,Instr.lookup,aE hs,Y,gY hk,iT hk hf,yR,zeroValue,typeInfo,hi,sy,<-J]
  |some q=>obtain⟨q,u⟩:=q;rw[yR]at J;simp at J;simp[execOp,bM E,bM hy,Instr.lookup,aE hs,Y,gY hk,iT hk hf,yR,<-J]
def CU{i:Int}:∀{kv:KV} {j:Nat},pA kv i j=none->i∉kv.map (·.1)
 |[],_,_=>by simp
 |(k,v)::r,j,h=>by
  by_cases hk:i=k
  ·subst hk;simp[pA]at h
  simp[pA,hk]at h;simpa [hk]using CU h
def JV{i:Int}{v:C}:∀{kv:KV},i∉kv.map (·.1)->oC kv i v=kv++[(i,v)]
 |[],_=>rfl
 |(k,u)::r,h=>by simp at h;simp[oC,h.1,JV (kv:=r) (i:=i) (v:=v) (by simpa using h.2)]
def WI(ho:O[i]?=some ⟨none, .mapUpdate s x y c,t,p,af,g⟩)(hg:Gd O e g)(hs:P.underlying s=some (.map kt et))(hk:P.underlying kt=some (.int .i64))(E:ev e x=some (.map (some m)))(hy:ev e y=some (I a))(hc:ev e c=some v)
  (Z:aw G L w)(hp:dE (dm m kv) L R)(hpd:gZ P O dr done i=[])(h:∀w',aw G (dm m (oC kv a v)::R) w'->XL P n O dr (i::done) r K e w'):XL P n O dr done (i::r) K e w:=by
 obtain⟨es,ck,hf,mP⟩:=mY (Z.pick hp);have Y:=fV (P:=P) mP.eh sM;have SU:=fun o'=>qh (P:=P) o' mP.eh sM
 cases yR:pA kv a 0 with
 |none=>
  have hnk:=CU yR;have nr:AQ (es.push {key:=I a,val:=v,born:=ck}).toList (ck+1) (oC kv a v):=by
   refine⟨by rw[JV hnk];simp[hf.p3],CS hf.keys _ _,fun e he=>?_,?_⟩
   ·simp at he;rcases he with he|rfl
    ·have:=hf.qV e (by simpa using he);omega
    simp
   simp only[Array.toList_push,jX,ey,l9];refine Hv.2 ⟨hf.CC,by simp,fun b hb c hc=>?_⟩;simp at hc;subst hc;obtain⟨e,he,rfl⟩:=dY.1 hb;have:=hf.qV e he;omega
  refine DF ho rfl hg (ρ:=rh e) (by intro z hZ;simp[Op.operands]at hZ;exact oh3 E hy hc hZ) rfl (w':=_) ?_ (gM (dst:=none) hpd) (h _ (sO nr (mP.set _)));simp[execOp,bM E,bM hy,bM hc,Instr.mapUpdate,aE hs,Y,gY hk,iT hk hf,yR,SU]
 |some q=>
  obtain⟨q,u⟩:=q;obtain⟨_,e',h4,h5,h6,h7,_⟩:=FN a v es.toList kv 0 hf.p3 q u yR;simp only[Nat.sub_zero]at h4 h6 h7;have nr:AQ (es.modify q fun e=>{e with key:=I a,val:=v}).toList ck (oC kv a v):=by
   have em:(es.modify q fun e=>{e with key:=I a,val:=v}).toList=es.toList.modify q fun e=>{e with key:=I a,val:=v}:=by simp
   rw[em];refine⟨h6,CS hf.keys _ _,fun x E=>?_,by rw[h7];exact hf.CC⟩;have hb:x.born∈(es.toList.modify q fun e=>{e with key:=I a,val:=v}).map (·.born):=dY.2 ⟨x,E,rfl⟩;rw[h7]at hb;obtain⟨z,hz,hzb⟩:=dY.1 hb;have:=hf.qV z hz;omega
  refine DF ho rfl hg (ρ:=rh e) (by intro z hZ;simp[Op.operands]at hZ;exact oh3 E hy hc hZ) rfl (w':=_) ?_ (gM (dst:=none) hpd) (h _ (sO nr (mP.set _)));have XX:((es[q]?).map (·.key)).getD (I a)=I a:=by
   have:es[q]?=some e':=by simpa using h4
   simp[this,h5]
  simp[execOp,bM E,bM hy,bM hc,Instr.mapUpdate,aE hs,Y,gY hk,iT hk hf,yR,SU,XX,Instr.keyThatStays,Instr.sameBits]
def agD(ho:O[i]?=some ⟨none, .call ⟨.builtin .delete,#[x,y],ts⟩,t,p,af,g⟩)(hg:Gd O e g)(ht:ts[0]?=some s)(hs:P.underlying s=some (.map kt et))(hk:P.underlying kt=some (.int .i64))(E:ev e x=some (.map (some m)))(hy:ev e y=some (I a))(Z:aw G L w)(hp:dE (dm m kv) L R)(hpd:gZ P O dr done i=[])(h:∀w',aw G (dm m (yl kv a)::R) w'->XL P n O dr (i::done) r K e w'):XL P n O dr done (i::r) K e w:=by
 obtain⟨es,ck,hf,mP⟩:=mY (Z.pick hp);have Y:=fV (P:=P) mP.eh sM;have SU:=fun o'=>qh (P:=P) o' mP.eh sM
 cases yR:pA kv a 0 with
 |none=>
  have hnk:=CU yR;have aiQ:∀{kv:KV},a∉kv.map (·.1)->yl kv a=kv:=by
   intro kv
   induction kv with
   |nil=>intro _;rfl
   |cons p r ih=>intro hn;obtain⟨k,u⟩:=p;simp at hn;simp[yl,hn.1,ih (by simpa using hn.2)]
  have nr:AQ es.toList ck (yl kv a):=by rw[aiQ hnk];exact hf
  refine jG ho rfl hg (ρ:=rh e) (by intro z hZ;simp[Op.operands,Call.operands]at hZ;exact Hz E hy hZ) rfl (v:= .tuple #[]) (w':=_) ?_ (gM (dst:=none) hpd) (h _ (sO nr (mP.set _)));simp[execOp,resolve,invoke,builtin,bM E,bM hy,Builtin.delete_,ht,aE hs,Y,gY hk,iT hk hf,yR,SU]
 |some q=>
  obtain⟨q,u⟩:=q;obtain⟨_,e',h4,h5,_,_,h8⟩:=FN a (I 0) es.toList kv 0 hf.p3 q u yR;simp only[Nat.sub_zero]at h4 h8;have hql:q<es.size:=by have:=(qj.1 h4).1;simpa using this
  have em:(es.eraseIdxIfInBounds q).toList=es.toList.eraseIdx q:=by simp[Array.eraseIdxIfInBounds,hql]
  have nr:AQ (es.eraseIdxIfInBounds q).toList ck (yl kv a):=by
   rw[em];exact⟨h8,J0 hf.keys _,fun x E=>hf.qV x ((List.eraseIdx_sublist ..).subset E),hf.CC.sublist ((List.eraseIdx_sublist ..).map _)⟩
  refine jG ho rfl hg (ρ:=rh e) (by intro z hZ;simp[Op.operands,Call.operands]at hZ;exact Hz E hy hZ) rfl (v:= .tuple #[]) (w':=_) ?_ (gM (dst:=none) hpd) (h _ (sO nr (mP.set _)));simp[execOp,resolve,invoke,builtin,bM E,bM hy,Builtin.delete_,ht,aE hs,Y,gY hk,iT hk hf,yR,SU]
def iter(it m:Nat)(kv:KV)(vis:List Int):aF:=fun h=>∃(es:Array aZ) (ck:Nat) (sq:Array Nat) (vs:List aZ),h m=some (.map es ck)/\h it=some (.mapIter (some m) ck sq ck)/\m≠it/\AQ es.toList ck kv∧
 (∀e∈vs,e∈es.toList)/\(vs.map fun(e:aZ)=>e.born)=sq.toList.reverse/\(vs.map fun(e:aZ)=>e.key)=vis.map (I ·)
def FP(Z:aw G (iter it m kv vis::R) w):∃(es:Array aZ) (ck:Nat) (sq:Array Nat) (vs:List aZ),AQ es.toList ck kv/\(∀e∈vs,e∈es.toList)/\(vs.map fun(e:aZ)=>e.born)=sq.toList.reverse/\(vs.map fun(e:aZ)=>e.key)=vis.map (I ·)∧
  aw G (pt it (.mapIter (some m) ck sq ck)::pt m (.map es ck)::R) w:=by
 obtain⟨hg,h,hh,Y,J,hd,hu,⟨es,ck,sq,vs,hm,hi,oS,hf,h3,h4,h5⟩,hL⟩:=Z;refine⟨es,ck,sq,vs,hf,h3,h4,h5,hg,h,hh,fun b=>if b=it then Y b else none,fun b=>if b=it then none else sZ Y J b,fun b=>?_,fun b o hb=>?_,by simp[pt,hi],fun b=>if b=it then none else Y b,J,fun b=>?_,fun b o hb=>?_,by simp[pt,oS,hm],hL⟩
 ·by_cases e:b=it<;>simp[e]
 ·refine hu b o ?_;rcases eO hb with hb|hb
  ·have S5:(if b=it then Y b else none)=some o:=hb;split at S5
   ·exact fU S5
   cases S5
  have S5:(if b=it then none else sZ Y J b)=some o:=hb;split at S5
  ·cases S5
  exact S5
 ·by_cases e:b=it
  ·exact .inl (by simp[e])
  rcases hd b with h|h
  ·exact .inl (by simp[h])
  exact .inr h
 have VP:J it=none:=(hd it).resolve_left (by simp[hi])
 by_cases e:b=it
 ·subst e;rcases eO hb with hb|hb
  ·simp at hb
  rw[VP]at hb;cases hb
 simp only[aj e];rcases eO hb with hb|hb
 ·simp[e]at hb;exact fU hb
 exact fX hd hb
def N8{es:Array aZ}{ck:Nat}{sq:Array Nat}{vs:List aZ}(hf:AQ es.toList ck kv)(h3:∀e∈vs,e∈es.toList)(h4:(vs.map fun(e:aZ)=>e.born)=sq.toList.reverse)(h5:(vs.map fun(e:aZ)=>e.key)=vis.map (I ·))(Z:aw G (pt it (.mapIter (some m) ck sq ck)::pt m (.map es ck)::R) w):aw G (iter it m kv vis::R) w:=by
 have oS:=Z.ne;have h:aw G (bt [pt it (.mapIter (some m) ck sq ck),pt m (.map es ck)]::R) w:=aw.bJ (M:=[_,_]) Z;refine h.gN fun h ⟨Y,J,hd,hu,hi,h6,h7,vk,VL,hm,_⟩=>⟨es,ck,sq,vs,hu m _ (fX hd (VL m _ (fU hm))),hu it _ (fU hi),fun e=>oS e.symm,hf,h3,h4,h5⟩
def agr(ho:O[i]?=some ⟨some d, .range s x,t,p,af,g⟩)(hs:P.underlying s=some (.map kt et))(E:ev e x=some (.map (some m)))(Z:aw G L w)(hp:dE (dm m kv) L R)(hpd:gZ P O dr done i=[])
  (h:∀w' it,aw G (iter it m kv []::R) w'->XL P n O dr (i::done) r K ((d,pQ it)::e) w')(hd:Nat.blt d n=true:=by exact rfl)(hg:Gd O e g:=by exact gD):XL P n O dr done (i::r) K e w:=by
 obtain⟨es,ck,hf,mP⟩:=mY (Z.pick hp);have Y:=fV (P:=P) mP.eh sM;refine jG ho (by simpa [dA]using hd) hg (ρ:=rh e) (by intro z hZ;simp[Op.operands]at hZ;exact HA E hZ) rfl (v:= .pointer (some ⟨w.heap.size,0,none⟩)) (w':={w with heap:=w.heap.push (.mapIter (some m) ck #[] ck)}) ?_ (gM hpd)
  (h _ _ (N8 (vs:=[]) hf sM sM sM (mP.push _)))
 simp[execOp,bM E,Instr.range,aE hs,Y,newObj,Sem.run]
def Sz(h:(es.map (·.born)).Nodup){a b:aZ}(ha:a∈es)(hb:b∈es)(e:a.born=b.born):a=b:=by
 induction es with
 |nil=>cases ha
 |cons x es ih=>
  simp only[ey,Bx]at h;rcases cE.1 ha with Oe|Oe<;>rcases cE.1 hb with tX|tX
  ·rw[Oe,tX]
  ·exact aS (dY.2 ⟨b,tX,by rw[<-e,Oe]⟩) h.1
  ·exact aS (dY.2 ⟨a,Oe,by rw[e,tX]⟩) h.1
  exact ih h.2 Oe tX
def AQ.entry{ck:Nat}(hf:AQ es ck kv){x:aZ}(E:x∈es):∃k,x.key=I k/\dJ kv k=some x.val:=by
 have:(x.key,x.val)∈kv.map fun p=>(I p.1,p.2):=by rw[<-hf.p3];exact dY.2 ⟨x,E,rfl⟩
 obtain⟨p,hp,he⟩:=dY.1 this;simp only[Prod.mk.injEq]at he;exact⟨p.1,he.1.symm,by rw[<-he.2];exact NZ hf.keys hp⟩
def AQ.key_inj{ck:Nat}(hf:AQ es ck kv){a b:aZ}(ha:a∈es)(hb:b∈es)(e:a.key=b.key):a=b:=by
 have hn:(es.map (·.key)).Nodup:=by
  have:es.map (·.key)=(kv.map (·.1)).map (I ·):=by
   have:=aU (List.map (·.1)) hf.p3;simpa [Fz,Function.comp_def]using this
  rw[this];exact List.Pairwise.map _ (fun a b Hb h=>Hb (by simpa using h)) hf.keys
 clear hf
 induction es with
 |nil=>cases ha
 |cons x es ih=>
  simp only[ey,Bx]at hn;rcases cE.1 ha with Oe|Oe<;>rcases cE.1 hb with tX|tX
  ·rw[Oe,tX]
  ·exact aS (dY.2 ⟨b,tX,by rw[<-e,Oe]⟩) hn.1
  ·exact aS (dY.2 ⟨a,Oe,by rw[e,tX]⟩) hn.1
  exact ih Oe tX hn.2
def AQ.afj{ck:Nat}(hf:AQ es ck kv){k:Int}(h:dJ kv k=some v):∃x∈es,x.key=I k/\x.val=v:=by
 have:(I k,v)∈es.map fun e=>(e.key,e.val):=by rw[hf.p3];exact dY.2 ⟨(k,v),XB h,rfl⟩
 obtain⟨x,E,he⟩:=dY.1 this;simp only[Prod.mk.injEq]at he;exact⟨x,E,he.1,he.2⟩
def ahJ(ho:O[i]?=some ⟨some d, .next x false,t,p,af,g⟩)(E:ev e x=some (pQ it))(Z:aw G L w)(hp:dE (iter it m kv vis) L R)(hpd:gZ P O dr done i=[])(ag6:∀w',(∀k v,dJ kv k=some v->k∈vis)->aw G (iter it m kv vis::R) w'->XL P n O dr (i::done) r K ((d, .tuple #[.bool false])::e) w')(ag9:∀w' k v,dJ kv k=some v->k∉vis->aw G (iter it m kv (k::vis)::R) w'->XL P n O dr (i::done) r K ((d, .tuple #[.bool true,I k,v])::e) w')(hd:Nat.blt d n=true:=by exact rfl)(hg:Gd O e g:=by exact gD):XL P n O dr done (i::r) K e w:=by
 obtain⟨es,ck,sq,vs,hf,h3,h4,h5,mP⟩:=FP (Z.pick hp);have Y:=fV (P:=P) mP.eh sM;have J:=fV (P:=P) (mP.pt (.there .here)) sM;have SU:=fun o'=>qh (P:=P) o' mP.eh sM
 have hsq:∀b,b∈sq↔∃x∈vs,MapEntry.born x=b:=fun b=>by
  have:b∈sq.toList.reverse↔b∈vs.map fun(e:aZ)=>e.born:=by rw[h4]
  simpa using this
 have RE:∀k,k∈vis↔∃x∈vs,x.key=I k:=fun k=>by
  have:(I k)∈vis.map (I ·)↔(I k)∈vs.map fun(e:aZ)=>e.key:=by rw[h5]
  simpa using this
 have J7:(!sq.isEmpty&&!es.isEmpty&&es.all (·.born≥ck))=false:=by
  cases he:es.isEmpty with
  |true=>simp
  |false=>
   have oS:es.toList≠[]:=by intro h;simp at he;exact he (by simpa using h)
   obtain⟨x,r',kA⟩:=List.exists_cons_of_ne_nil oS;have Qi:x∈es.toList:=by rw[kA];simp
   have:=hf.qV x Qi;have:es.all (·.born≥ck)=false:=by
    cases hb:es.all (·.born≥ck)with
    |false=>rfl
    |true=>have:=afb.1 hb x (by simpa using Qi);simp at this;omega
   simp[this]
 let left:=es.filter fun e=>!sq.contains e.born
 have hold:left.filter (·.born<ck)=left:=by
  apply Array.filter_eq_self.2;intro x E;have:=hf.qV x (by have:=(W4.1 E).1;simpa using this);simpa using this
 have XV:left.filter (·.born≥ck)=#[]:=by
  apply Array.filter_eq_empty_iff.2;intro x E;have:=hf.qV x (by have:=(W4.1 E).1;simpa using this);simpa using this
 have aez:∀r',(Instr.next (pQ it) false t).run P w=r'->(execOp (rh e) ⟨some d, .next x false,t,p,af,g⟩).run P w=r'.andThen fun v w'=> .ok (.value v) w':=fun r' hr=>by
  simp only[execOp,bM E,al,hr];rfl
 by_cases hl:left=#[]
 ·refine jG ho (by simpa [dA]using hd) hg (ρ:=rh e) (by intro z hZ;simp[Op.operands]at hZ;exact HA E hZ) rfl (v:= .tuple #[.bool false]) (w':=w) ?_ (gM hpd) (ag6 _ (fun k v hk=>?_) (Z.pick hp))
  ·refine(aez (.ok (.tuple #[.bool false]) w) ?_).trans rfl;simp only[Instr.next,al,Y,J,ah,J7];have e1:(es.filter fun e=>!sq.contains e.born)=left:=rfl;simp only[e1,hl];simp[choose,Sem.run,Question.forced]
  obtain⟨x,E,xj,_⟩:=hf.afj hk;have:¬x∈left:=by rw[hl];simp
  have hb:x.born∈sq:=by
   cases hc:sq.contains x.born with
   |true=>simpa using hc
   |false=>exact aS (W4.2 ⟨by simpa using E,by rw[hc];rfl⟩) this
  obtain⟨y,hy,hyb⟩:=(hsq _).1 hb;have:y=x:=Sz hf.CC (h3 y hy) E hyb;subst this;exact(RE k).2 ⟨y,hy,xj⟩
 have Ur:0<left.size:=Nat.pos_of_ne_zero fun h=>hl (Array.eq_empty_of_size_eq_zero h)
 have MC:left.isEmpty=false:=by simp[Array.isEmpty];omega
 have key:∃(x:aZ) (w0:ae),x∈left/\(∀G' L',aw G' L' w->aw G' L' w0)/\w0.heap=w.heap∧
   (Instr.next (pQ it) false t).run P w= .ok (.tuple #[.bool true,x.key,x.val]) {w0 with heap:=w0.heap.setIfInBounds it (.mapIter (some m) ck (sq.push x.born) ck)}:=by
  let q:=Question.mapNext left.size
  let j:=if q.forced then 0 else q.cut (w.tape w.drawn q)
  have hj:j<left.size:=by
   by_cases hqf:q.forced=true
   ·simp[j,hqf];exact Ur
   simp[j,hqf,q,Question.cut];exact Nat.mod_lt _ Ur
  have hjg:left[j]?=some left[j]:=Hx hj;refine⟨left[j],if q.forced then w else{w with drawn:=w.drawn+1},Array.getElem_mem hj,fun G' L' h=>by split;(exact h);(exact h.drawn _),by split<;>rfl,?_⟩;simp only[Instr.next,al,Y,J,ah,J7];have e2:(es.filter fun e=>!sq.contains e.born)=left:=rfl;simp only[e2,hold,XV,MC,acf,Array.size_map,W7,if_false,TG,aG,ah];have zA:(choose (.mapNext left.size)).run P w= .ok j (if q.forced then w else{w with drawn:=w.drawn+1}):=by
   unfold choose;simp only[Sem.run];by_cases hqf:q.forced=true<;>simp[q,j]at hqf ⊢<;>simp[hqf]
  rw[al,zA];simp only[ah,Array.getElem?_map,hjg,Js];have aie:∀o',(setObj it o').run P (if q.forced then w else{w with drawn:=w.drawn+1})= .ok () {(if q.forced then w else{w with drawn:=w.drawn+1})with heap:=(if q.forced then w else{w with drawn:=w.drawn+1}).heap.setIfInBounds it o'}:=fun o'=>
   qh (P:=P) o' (by split<;>exact mP.eh) sM
  rw[al,aie];rfl
 obtain⟨x,w0,vi,CW,ajw,lU⟩:=key;have hxe:x∈es.toList:=by have:=(W4.1 vi).1;simpa using this
 have hxn:¬x.born∈sq:=by have:=(W4.1 vi).2;simpa using this
 obtain⟨k,hk,XW⟩:=hf.entry hxe;have Ql:k∉vis:=fun hc=>by
  obtain⟨y,hy,hyk⟩:=(RE k).1 hc;have:y=x:=hf.key_inj (h3 y hy) hxe (hyk.trans hk.symm);subst this;exact hxn ((hsq _).2 ⟨y,hy,rfl⟩)
 have Pu:=N8 (m:=m) (vis:=k::vis) (vs:=x::vs) (sq:=sq.push x.born) hf (fun y hy=>by rcases cE.1 hy with rfl|hy;(exact hxe);(exact h3 y hy)) (by simp[h4]) (by simp[h5,hk]) ((CW _ _ mP).set _);rw[hk]at lU;exact jG ho (by simpa [dA]using hd) hg (ρ:=rh e) (by intro z hZ;simp[Op.operands]at hZ;exact HA E hZ) rfl (v:= .tuple #[.bool true,I k,x.val]) (w':=_) ((aez _ lU).trans rfl) (gM hpd) (ag9 _ k x.val XW Ql Pu)
def agC{k:Int}(ho:O[i]?=some ⟨some d, .entry x,t,p,af,g⟩)(E:ev e x=some (pQ it))(Z:aw G L w)(hp:dE (iter it m kv (k::vis)) L R)(hv:dJ kv k=some v)(h:XL P n O dr (i::done) r K ((d, .tuple #[I k,v])::e) w)(hd:Nat.blt d n=true:=by exact rfl)(hg:Gd O e g:=by exact gD):XL P n O dr done (i::r) K e w:=by
 obtain⟨es,ck,sq,vs,hf,h3,h4,h5,mP⟩:=FP (Z.pick hp);have Y:=fV (P:=P) mP.eh sM;have J:=fV (P:=P) (mP.pt (.there .here)) sM;cases vs with
 |nil=>simp at h5
 |cons x0 vs=>
  simp only[ey,List.cons.injEq]at h4 h5;have Qi:x0∈es.toList:=h3 x0 (kf ..);have ahq:sq.back?=some x0.born:=by
   have:sq.toList.reverse.head?=some x0.born:=by rw[<-h4];rfl
   rw[Array.back?_eq_getElem?];simpa [List.getLast?_eq_getElem?]using this
  obtain⟨k',gn,XW⟩:=hf.entry Qi;have:k'=k:=by have:=gn.symm.trans h5.1;simpa using this
  subst this;have afx:x0.val=v:=by rw[hv]at XW;simpa using XW.symm
  have ahl:es.find? (·.born==x0.born)=some x0:=by
   rw[<-Array.find?_toList];obtain⟨y,hy⟩:∃y,es.toList.find? (·.born==x0.born)=some y:=by
    cases hq:es.toList.find? (·.born==x0.born)with
    |some y=>exact⟨y,rfl⟩
    |none=>have:=List.find?_eq_none.1 hq x0 Qi;simp at this
   rw[hy];have hyb:=List.find?_some hy;simp only[beq_iff_eq]at hyb;rw[Sz hf.CC (acq hy) Qi hyb]
  refine AU ho (by simpa [dA]using hd) hg (ρ:=rh e) (by intro z hZ;simp[Op.operands]at hZ;exact HA E hZ) rfl (v:= .tuple #[I k',v]) ?_ h;simp[execOp,bM E,Instr.entry,Y,J,ahq,ahl,gn,afx]
end
class FO (P:au) (s f:Nat) (k:outParam Nat):Prop where
 h:aX P s f=some k
section
variable{done r:List Nat}{p:String}{l:List C}
def agz{f b:Nat}[hf:FO P s f k](ho:O[i]?=some ⟨some d, .fieldAddr s x f,t,p,af,g⟩)(E:ev e x=some (pQ b))(h:XL P n O dr (i::done) r K ((d, .pointer (some ⟨b,k,none⟩))::e) w)(hd:Nat.blt d n=true:=by exact rfl)(hg:Gd O e g:=by exact gD):XL P n O dr done (i::r) K e w:=agy (hd:=hd) (hg:=hg) ho hf.h E h
def lD{b o:Nat}(Y:kg P s=true)(Z:aw G L w)(h:XL P n O dr (i::done) r K ((d,v)::e) w)(ho:O[i]?=some ⟨some d, .load s x,t,p,af,g⟩:=by exact rfl)(hd:Nat.blt d n=true:=by exact rfl)(hg:Gd O e g:=by exact gD)(E:ev e x=some (.pointer (some ⟨b,o,none⟩)):=by exact rfl)(q:dE (N b l T) L R:=by repeat(first|with_reducible exact dE.here|apply dE.there))(hv:l[o]?=some v:=by exact rfl):XL P n O dr done (i::r) K e w:=bg (hd:=hd) (hg:=hg) ho E (aD.cw Y Z q hv) h
def lA{b:Nat}(Y:jn P s z=true)(Z:aw G L w)(h:XL P n O dr (i::done) r K ((d,gQ l)::e) w)(ho:O[i]?=some ⟨some d, .load s x,t,p,af,g⟩:=by exact rfl)(hd:Nat.blt d n=true:=by exact rfl)(hg:Gd O e g:=by exact gD)(E:ev e x=some (pQ b):=by exact rfl)(q:dE (N b l T) L R:=by repeat(first|with_reducible exact dE.here|apply dE.there))(hz:l.length=z:=by exact rfl):XL P n O dr done (i::r) K e w:=bg (hd:=hd) (hg:=hg) ho E (aD.dB Y Z q hz) h
end
def cQ{p q:Bool}(h:p=q)(ha:A:=by exact rfl):A/\some (Value.bool p)=some (Value.bool q):=⟨ha,aU some (aU Value.bool h)⟩
def cK(h:P.funcs[f]?=some fn)(Y:(fn.name== "runtime.NumGoroutine")=false:=by kernel_rfl)(J:fn.body.isNone=false:=by kernel_rfl):an P f:=⟨fn,h,Y,J⟩
def Cg:prog.follows .mixedOrders=true:=kR
def WB:prog.underlying 2=some (.int .i64):=kR
def dD:prog.underlying 3=some (.int .i64):=kR
def bF:(prog.info? 3).map (·.size)=some 1:=kR
def IF:((prog.info? 3).map (·.size)).isSome=true:=kR
def j7:(prog.info? 3).map (·.bytes)=some 8:=kR
def ag:kg prog 3=true:=kR
def fh:(cd prog 3).map (·.size)=some 1:=kR
def YV:cd prog 3=some [(I 0)].toArray:=kR
def uN:(prog.info? 3).bind (·.zero)=some (I 0):=kR
def LW:prog.underlying 4=some .bool:=kR
def gg:(prog.info? 4).map (·.size)=some 1:=kR
def Bt:(prog.info? 4).map (·.bytes)=some 1:=kR
def bS:kg prog 4=true:=kR
def IC:(cd prog 4).map (·.size)=some 1:=kR
def OJ:cd prog 4=some [(.bool false)].toArray:=kR
def ig:prog.underlying 5=some (.int .u8):=kR
def bo:(prog.info? 5).map (·.size)=some 1:=kR
def Fq:((prog.info? 5).map (·.size)).isSome=true:=kR
def fF:(prog.info? 5).map (·.bytes)=some 1:=kR
def dN:kg prog 5=true:=kR
def eU:(cd prog 5).map (·.size)=some 1:=kR
def wH:cd prog 5=some [(.int .u8 0)].toArray:=kR
def aY:prog.underlying 22=some (.slice 3):=kR
def dS:kg prog 22=true:=kR
def YU:cd prog 22=some [(nQ)].toArray:=kR
def eA:prog.underlying 23=some (.slice 106):=kR
def qN:prog.underlying 24=some (.slice 62):=kR
def oh:prog.underlying 28=some (.pointer 38):=kR
def iy:kg prog 28=true:=kR
def bp:prog.underlying 31=some (.slice 69):=kR
def bD:kg prog 31=true:=kR
def gB:kg prog 34=true:=kR
def j9:prog.underlying 35=some (.map 3 104):=kR
def gK:kg prog 35=true:=kR
def F4:aX prog 38 0=some 0:=kR
def F3:aX prog 38 1=some 1:=kR
def aJ:jn prog 40 8=true:=kR
def fN:cd prog 40=some [(I 0),(I 0),(I 0),(I 0),(I 0),(I 0),(I 0),(nQ)].toArray:=kR
def HR:aX prog 40 0=some 0:=kR
def HQ:aX prog 40 1=some 1:=kR
def HP:aX prog 40 2=some 2:=kR
def HO:aX prog 40 3=some 3:=kR
def HN:aX prog 40 4=some 4:=kR
def HM:aX prog 40 5=some 5:=kR
def HL:aX prog 40 6=some 6:=kR
def HK:aX prog 40 7=some 7:=kR
def gb:prog.underlying 41=some (.int .i64):=kR
def bP:kg prog 41=true:=kR
def yV:cd prog 41=some [(I 0)].toArray:=kR
def o6:(prog.info? 41).bind (·.zero)=some (I 0):=kR
def xO:prog.underlying 45=some (.pointer 129):=kR
def hJ:kg prog 45=true:=kR
def aR:prog.underlying 55=some (.slice 5):=kR
def l8:(prog.info? 55).map (·.size)=some 1:=kR
def Sr:(prog.info? 55).map (·.bytes)=some 24:=kR
def ao:kg prog 55=true:=kR
def GM:(cd prog 55).map (·.size)=some 1:=kR
def sW:cd prog 55=some [(nQ)].toArray:=kR
def iY:prog.underlying 58=some (.slice 66):=kR
def jt:kg prog 58=true:=kR
def B9:cd prog 58=some [(nQ)].toArray:=kR
def y8:(prog.info? 62).map (·.size)=some 3:=kR
def Ss:(prog.info? 62).map (·.bytes)=some 24:=kR
def ez:jn prog 62 3=true:=kR
def GN:(cd prog 62).map (·.size)=some 3:=kR
def Tf:cd prog 62=some [(I 0),(I 0),(I 0)].toArray:=kR
def jJ:aX prog 62 0=some 0:=kR
def uZ:aX prog 62 1=some 1:=kR
def uY:aX prog 62 2=some 2:=kR
def aQ:jn prog 64 3=true:=kR
def iP:cd prog 64=some [(nQ),(nQ),(.bool false)].toArray:=kR
def KI:aX prog 64 0=some 0:=kR
def KH:aX prog 64 1=some 1:=kR
def KG:aX prog 64 2=some 2:=kR
def oO:(prog.info? 66).map (·.size)=some 2:=kR
def Hk:(prog.info? 66).map (·.bytes)=some 48:=kR
def qD:jn prog 66 2=true:=kR
def ud:(cd prog 66).map (·.size)=some 2:=kR
def IV:cd prog 66=some [(nQ),(nQ)].toArray:=kR
def MG:aX prog 66 0=some 0:=kR
def Ch:aX prog 66 1=some 1:=kR
def dx:(prog.info? 69).map (·.size)=some 4:=kR
def Sv:(prog.info? 69).map (·.bytes)=some 32:=kR
def fM:jn prog 69 4=true:=kR
def GO:(cd prog 69).map (·.size)=some 4:=kR
def wJ:cd prog 69=some [(I 0),(I 0),(I 0),(I 0)].toArray:=kR
def nL:aX prog 69 0=some 0:=kR
def gr:aX prog 69 1=some 1:=kR
def fo:jn prog 72 3=true:=kR
def ju:aX prog 72 0=some 0:=kR
def rL:aX prog 72 1=some 1:=kR
def rK:aX prog 72 2=some 2:=kR
def br:jn prog 74 6=true:=kR
def yU:cd prog 74=some [(I 0),(I 0),(I 0),(I 0),(I 0),(nQ)].toArray:=kR
def pF:aX prog 74 0=some 0:=kR
def zC:aX prog 74 1=some 1:=kR
def KF:aX prog 74 2=some 4:=kR
def KE:aX prog 74 3=some 5:=kR
def mN:prog.underlying 75=some (.int .u32):=kR
def NK:(prog.info? 75).map (·.size)=some 1:=kR
def xd:kg prog 75=true:=kR
def YS:cd prog 75=some [(.int .u32 0)].toArray:=kR
def Nt:prog.underlying 78=some (.pointer 191):=kR
def Hy:kg prog 78=true:=kR
def ft:prog.underlying 91=some (.slice 55):=kR
def aV:prog.underlying 102=some (.slice 198):=kR
def aH:kg prog 102=true:=kR
def iR:(prog.info? 104).map (·.size)=some 5:=kR
def Sw:(prog.info? 104).map (·.bytes)=some 72:=kR
def ay:jn prog 104 5=true:=kR
def GP:(cd prog 104).map (·.size)=some 5:=kR
def bW:cd prog 104=some [(I 0),(I 0),(nQ),(nQ),(I 0)].toArray:=kR
def u5:aX prog 104 0=some 0:=kR
def MK:aX prog 104 1=some 1:=kR
def MJ:aX prog 104 2=some 2:=kR
def MI:aX prog 104 3=some 3:=kR
def MH:aX prog 104 4=some 4:=kR
def gA:(prog.info? 106).map (·.size)=some 6:=kR
def yd:(prog.info? 106).map (·.bytes)=some 80:=kR
def ur:jn prog 106 6=true:=kR
def nW:(cd prog 106).map (·.size)=some 6:=kR
def IW:cd prog 106=some [(I 0),(I 0),(I 0),(nQ),(nQ),(I 0)].toArray:=kR
def uA:aX prog 106 0=some 0:=kR
def pG:aX prog 106 1=some 1:=kR
def dV:prog.underlying 110=some (.slice 4):=kR
def iU:kg prog 110=true:=kR
def kJ:kg prog 111=true:=kR
def LX:prog.underlying 112=some (.array 5 3):=kR
def Rj:jn prog 112 5=true:=kR
def Ns:prog.underlying 113=some (.slice 374):=kR
def xT:kg prog 113=true:=kR
def Kr:aX prog 115 0=some 0:=kR
def Kq:aX prog 115 1=some 1:=kR
def Ko:aX prog 115 2=some 2:=kR
def Kn:aX prog 115 3=some 3:=kR
def Km:aX prog 115 4=some 4:=kR
def Kl:aX prog 115 5=some 9:=kR
def Kk:aX prog 115 6=some 10:=kR
def gw:prog.underlying 126=some (.slice 104):=kR
def eI:kg prog 126=true:=kR
def vS:aX prog 129 0=some 0:=kR
def vR:aX prog 129 1=some 1:=kR
def vQ:aX prog 129 2=some 2:=kR
def vP:aX prog 129 3=some 3:=kR
def iu:prog.underlying 147=some (.map 3 3):=kR
def nJ:kg prog 147=true:=kR
def Qw:cd prog 147=some [(.map none)].toArray:=kR
def mO:prog.underlying 148=some (.pointer 152):=kR
def FG:kg prog 148=true:=kR
def IU:cd prog 148=some [(.pointer none)].toArray:=kR
def HH:aX prog 152 0=some 0:=kR
def bE:jn prog 155 3=true:=kR
def ot:cd prog 155=some [(I 0),(I 0),(I 0)].toArray:=kR
def u4:aX prog 155 0=some 0:=kR
def u0:aX prog 155 1=some 1:=kR
def MF:aX prog 155 2=some 2:=kR
def Kv:aX prog 157 0=some 0:=kR
def Ku:aX prog 157 1=some 1:=kR
def Kt:aX prog 157 2=some 7:=kR
def kT:prog.underlying 160=some (.map 163 3):=kR
def fu:prog.underlying 161=some (.slice 163):=kR
def jH:(prog.info? 163).map (·.size)=some 2:=kR
def Ja:((prog.info? 163).map (·.size)).isSome=true:=kR
def qM:(prog.info? 163).map (·.bytes)=some 16:=kR
def k8:jn prog 163 2=true:=kR
def lj:(cd prog 163).map (·.size)=some 2:=kR
def OI:cd prog 163=some [(I 0),(I 0)].toArray:=kR
def HJ:aX prog 163 0=some 0:=kR
def HI:aX prog 163 1=some 1:=kR
def bL:prog.underlying 181=some (.slice 183):=kR
def cM:(prog.info? 183).map (·.size)=some 2:=kR
def lJ:(prog.info? 183).map (·.bytes)=some 16:=kR
def dR:jn prog 183 2=true:=kR
def fI:(cd prog 183).map (·.size)=some 2:=kR
def yT:cd prog 183=some [(I 0),(I 0)].toArray:=kR
def oT:aX prog 183 0=some 0:=kR
def vL:aX prog 183 1=some 1:=kR
def kS:prog.underlying 188=some (.map 3 246):=kR
def jA:kg prog 188=true:=kR
def KD:aX prog 191 0=some 0:=kR
def KB:aX prog 191 1=some 1:=kR
def KA:aX prog 191 3=some 3:=kR
def Kz:aX prog 191 4=some 4:=kR
def Ky:aX prog 191 5=some 5:=kR
def Kx:aX prog 191 6=some 6:=kR
def Kw:aX prog 191 7=some 7:=kR
def bz:(prog.info? 198).map (·.size)=some 4:=kR
def kD:(prog.info? 198).map (·.bytes)=some 64:=kR
def bA:jn prog 198 4=true:=kR
def fi:(cd prog 198).map (·.size)=some 4:=kR
def jc:cd prog 198=some [(nQ),(nQ),(I 0),(I 0)].toArray:=kR
def gu:aX prog 198 0=some 0:=kR
def Ci:aX prog 198 1=some 1:=kR
def nM:aX prog 198 2=some 2:=kR
def ML:aX prog 198 3=some 3:=kR
def Ei:aX prog 211 0=some 0:=kR
def Eh:aX prog 211 1=some 1:=kR
def Eg:aX prog 211 2=some 2:=kR
def s7:kg prog 215=true:=kR
def vO:aX prog 221 0=some 0:=kR
def vN:aX prog 221 1=some 1:=kR
def vM:aX prog 221 2=some 2:=kR
def sE:prog.underlying 246=some (.array 512 5):=kR
def k9:jn prog 246 512=true:=kR
def DD:cd prog 246=some (L9 512 (Value.int .u8 0)).toArray:=kR
def B8:(prog.info? 246).bind (·.zero)=some (gQ (L9 512 (Value.int .u8 0))):=kR
def gL:kg prog 272=true:=kR
def dK:prog.underlying 275=some (.int .u64):=kR
def JG:kg prog 275=true:=kR
def YR:cd prog 275=some [(.int .u64 0)].toArray:=kR
def bu:kg prog 338=true:=kR
def E5:prog.underlying 342=some (.int .u16):=kR
def JH:kg prog 342=true:=kR
def YT:cd prog 342=some [(.int .u16 0)].toArray:=kR
def uX:aX prog 353 0=some 0:=kR
def uV:aX prog 353 1=some 1:=kR
def uU:aX prog 353 2=some 2:=kR
def bQ:prog.underlying 375=some (.slice 379):=kR
def oy:(prog.info? 375).map (·.size)=some 1:=kR
def iH:kg prog 375=true:=kR
def DC:cd prog 375=some [(nQ)].toArray:=kR
def Ek:aX prog 377 0=some 0:=kR
def fO:(prog.info? 379).map (·.size)=some 2:=kR
def vu:((prog.info? 379).map (·.size)).isSome=true:=kR
def og:(prog.info? 379).map (·.bytes)=some 16:=kR
def cH:jn prog 379 2=true:=kR
def iF:(cd prog 379).map (·.size)=some 2:=kR
def lY:cd prog 379=some [(I 0),(I 0)].toArray:=kR
def Em:aX prog 379 0=some 0:=kR
def El:aX prog 379 1=some 1:=kR
def AJ:prog.underlying 380=some (.int .u64):=kR
def qC:kg prog 380=true:=kR
def Qv:cd prog 380=some [(.int .u64 0)].toArray:=kR
def FJ:jn prog 392 3=true:=kR
def Mi:cd prog 392=some [(nQ),(I 0),(.bool false)].toArray:=kR
def F7:aX prog 392 0=some 0:=kR
def F6:aX prog 392 1=some 1:=kR
def F5:aX prog 392 2=some 2:=kR
def F2:aX prog 399 0=some 0:=kR
def F1:aX prog 399 1=some 1:=kR
def nk:kg prog 425=true:=kR
def ir:prog.underlying 426=some (.slice 375):=kR
def E6:prog.underlying 430=some (.array 16 75):=kR
def rG:jn prog 430 16=true:=kR
def DE:cd prog 430=some [(.int .u32 0),(.int .u32 0),(.int .u32 0),(.int .u32 0),(.int .u32 0),(.int .u32 0),(.int .u32 0),(.int .u32 0),(.int .u32 0),(.int .u32 0),(.int .u32 0),(.int .u32 0),(.int .u32 0),(.int .u32 0),(.int .u32 0),(.int .u32 0)].toArray:=kR
def Ik:an prog 7:=cK func7
def ry:an prog 10:=cK func10
def LD:an prog 11:=cK func11
def Ia:an prog 12:=cK func12
def mH:an prog 14:=cK func14
def nb:an prog 15:=cK func15
def EW:an prog 16:=cK func16
def B5:an prog 20:=cK func20
def LC:an prog 21:=cK func21
def CA:an prog 22:=cK func22
def xK:an prog 23:=cK func23
def B3:an prog 26:=cK func26
def An:an prog 27:=cK func27
def qv:an prog 28:=cK func28
def Nf:an prog 29:=cK func29
def B6:an prog 30:=cK func30
def EV:an prog 31:=cK func31
def Dq:an prog 32:=cK func32
def EY:an prog 33:=cK func33
def rP:an prog 34:=cK func34
def tG:an prog 36:=cK func36
def Lo:an prog 37:=cK func37
def nP:an prog 39:=cK func39
def Ln:an prog 40:=cK func40
def M8:an prog 41:=cK func41
def Im:an prog 42:=cK func42
def vd:an prog 43:=cK func43
def fk:an prog 44:=cK func44
def iL:an prog 45:=cK func45
def Ib:an prog 46:=cK func46
def Ng:an prog 47:=cK func47
def Au:an prog 48:=cK func48
def Lw:an prog 49:=cK func49
def Dg:an prog 50:=cK func50
def Ll:an prog 56:=cK func56
def Nq:an prog 57:=cK func57
def mJ:an prog 58:=cK func58
def mM:an prog 59:=cK func59
def Dl:an prog 60:=cK func60
def No:an prog 61:=cK func61
def AB:an prog 62:=cK func62
def CB:an prog 63:=cK func63
def qf:an prog 64:=cK func64
def Dm:an prog 65:=cK func65
def yK:an prog 66:=cK func66
def o4:an prog 67:=cK func67
def bX:an prog 68:=cK func68
def tD:an prog 69:=cK func69
def Ar:an prog 70:=cK func70
def Aq:an prog 71:=cK func71
def sf:an prog 72:=cK func72
def Gu:an prog 73:=cK func73
def Lu:an prog 74:=cK func74
def rQ:an prog 75:=cK func75
def qw:an prog 76:=cK func76
def x8:an prog 77:=cK func77
def Cy:an prog 78:=cK func78
def ER:an prog 79:=cK func79
def Di:an prog 80:=cK func80
def ru:an prog 81:=cK func81
def se:an prog 82:=cK func82
def yM:an prog 83:=cK func83
def Gz:an prog 84:=cK func84
def ET:an prog 85:=cK func85
def B4:an prog 94:=cK func94
def Nm:an prog 95:=cK func95
def tH:an prog 96:=cK func96
def wb:an prog 97:=cK func97
def p7:an prog 98:=cK func98
def M7:an prog 99:=cK func99
def pN:an prog 100:=cK func100
def P7:an prog 101:=cK func101
def EX:an prog 102:=cK func102
def rr:an prog 103:=cK func103
def jl:an prog 104:=cK func104
def Lv:an prog 105:=cK func105
def Nh:an prog 106:=cK func106
def x9:an prog 107:=cK func107
def LB:an prog 108:=cK func108
def Nl:an prog 109:=cK func109
def Az:an prog 119:=cK func119
def Lm:an prog 120:=cK func120
def Nr:an prog 121:=cK func121
def Np:an prog 122:=cK func122
def Dn:an prog 123:=cK func123
def x5:an prog 124:=cK func124
def tJ:an prog 125:=cK func125
def Ak:an prog 126:=cK func126
def tI:an prog 127:=cK func127
def Il:an prog 128:=cK func128
def AA:an prog 133:=cK func133
def sg:an prog 134:=cK func134
def LF:an prog 135:=cK func135
def x6:an prog 136:=cK func136
def Cz:an prog 137:=cK func137
def Ic:an prog 141:=cK func141
def r9:an prog 142:=cK func142
def x7:an prog 143:=cK func143
def tE:an prog 144:=cK func144
def wh:an prog 145:=cK func145
def m9:an prog 146:=cK func146
def eL:an prog 147:=cK func147
def xJ:an prog 148:=cK func148
def Ig:an prog 149:=cK func149
def Gw:an prog 150:=cK func150
def jC:an prog 151:=cK func151
def Gt:an prog 152:=cK func152
def B2:an prog 153:=cK func153
def im:an prog 154:=cK func154
def xI:an prog 155:=cK func155
def Ay:an prog 156:=cK func156
def tC:an prog 157:=cK func157
def GA:an prog 158:=cK func158
def Io:an prog 162:=cK func162
def Dh:an prog 171:=cK func171
def xG:an prog 172:=cK func172
def xH:an prog 173:=cK func173
def dO:an prog 174:=cK func174
def Nn:an prog 175:=cK func175
def jD:an prog 176:=cK func176
def oe:an prog 177:=cK func177
def oH:an prog 178:=cK func178
def fm:an prog 179:=cK func179
def pM:an prog 180:=cK func180
def yJ:an prog 181:=cK func181
def Cx:an prog 182:=cK func182
def H':an prog 183:=cK func183
def oI:an prog 184:=cK func184
def p8:an prog 185:=cK func185
def Ao:an prog 186:=cK func186
def Gs:an prog 187:=cK func187
def ES:an prog 188:=cK func188
def Ly:an prog 189:=cK func189
def Ni:an prog 190:=cK func190
def iC:an prog 191:=cK func191
def Ie:an prog 192:=cK func192
def Ih:an prog 193:=cK func193
def Dj:an prog 204:=cK func204
def Gr:an prog 209:=cK func209
def Am:an prog 210:=cK func210
def Gq:an prog 211:=cK func211
def H9:an prog 212:=cK func212
def xF:an prog 213:=cK func213
def hY:an prog 214:=cK func214
def Na:an prog 215:=cK func215
def M9:an prog 216:=cK func216
def Aj:an prog 217:=cK func217
def Ij:an prog 218:=cK func218
def Lq:an prog 222:=cK func222
def Lp:an prog 223:=cK func223
def Dp:an prog 224:=cK func224
def P8:an prog 225:=cK func225
def Ip:an prog 226:=cK func226
def nB:an prog 227:=cK func227
def tB:an prog 228:=cK func228
def Ls:an prog 229:=cK func229
def Df:an prog 230:=cK func230
def B0:an prog 231:=cK func231
def Sq:an prog 232:=cK func232
def B1:an prog 233:=cK func233
def yF:an prog 234:=cK func234
def BZ:an prog 235:=cK func235
def P6:an prog 239:=cK func239
def rR:an prog 240:=cK func240
def Gv:an prog 241:=cK func241
def Lz:an prog 242:=cK func242
def Gy:an prog 243:=cK func243
def Aw:an prog 244:=cK func244
def yN:an prog 245:=cK func245
def p9:an prog 246:=cK func246
def Cw:an prog 258:=cK func258
def il:an prog 259:=cK func259
def Nb:an prog 260:=cK func260
def Nk:an prog 261:=cK func261
def Av:an prog 262:=cK func262
def yL:an prog 273:=cK func273
def EP:an prog 274:=cK func274
def kp:an prog 275:=cK func275
def m8:an prog 276:=cK func276
def Lt:an prog 277:=cK func277
def Al:an prog 278:=cK func278
def ct:an prog 279:=cK func279
def lI:an prog 280:=cK func280
def yO:an prog 281:=cK func281
def qe:an prog 282:=cK func282
def B7:an prog 283:=cK func283
def Ag:an prog 284:=cK func284
def yH:an prog 285:=cK func285
def ik:an prog 286:=cK func286
def yC:an prog 287:=cK func287
def UU:an prog 288:=cK func288
def BY:an prog 289:=cK func289
def Ai:an prog 290:=cK func290
def Ae:an prog 291:=cK func291
def Af:an prog 292:=cK func292
def yG:an prog 293:=cK func293
def yB:an prog 294:=cK func294
def Ah:an prog 295:=cK func295
def yI:an prog 296:=cK func296
def yD:an prog 297:=cK func297
def EO:an prog 298:=cK func298
def vZ:an prog 299:=cK func299
def qL:an prog 300:=cK func300
def Ii:an prog 312:=cK func312
def gv:an prog 313:=cK func313
def Nj:an prog 318:=cK func318
def EU:an prog 319:=cK func319
def Gx:an prog 320:=cK func320
def wg:an prog 327:=cK func327
def we:an prog 328:=cK func328
def lh:an prog 329:=cK func329
def lW:an prog 330:=cK func330
def Nc:an prog 331:=cK func331
def rz:an prog 332:=cK func332
def xD:an prog 333:=cK func333
def Lr:an prog 334:=cK func334
def yE:an prog 335:=cK func335
def xC:an prog 336:=cK func336
def xE:an prog 337:=cK func337
def r8:an prog 338:=cK func338
def LA:an prog 345:=cK func345
def tZ:an prog 350:=cK func350
def Nd:an prog 351:=cK func351
instance fI5:FO prog 38 0 0:=⟨F4⟩
instance fI6:FO prog 38 1 1:=⟨F3⟩
instance fI9:FO prog 40 0 0:=⟨HR⟩
instance alp:FO prog 40 1 1:=⟨HQ⟩
instance alo:FO prog 40 2 2:=⟨HP⟩
instance aln:FO prog 40 3 3:=⟨HO⟩
instance alm:FO prog 40 4 4:=⟨HN⟩
instance alk:FO prog 40 5 5:=⟨HM⟩
instance alj:FO prog 40 6 6:=⟨HL⟩
instance ali:FO prog 40 7 7:=⟨HK⟩
instance alh:FO prog 62 0 0:=⟨jJ⟩
instance alg:FO prog 62 1 1:=⟨uZ⟩
instance alf:FO prog 62 2 2:=⟨uY⟩
instance ale:FO prog 64 0 0:=⟨KI⟩
instance ald:FO prog 64 1 1:=⟨KH⟩
instance alc:FO prog 64 2 2:=⟨KG⟩
instance alb:FO prog 66 0 0:=⟨MG⟩
instance ala:FO prog 66 1 1:=⟨Ch⟩
instance ak9:FO prog 69 0 0:=⟨nL⟩
instance ak8:FO prog 69 1 1:=⟨gr⟩
instance ak7:FO prog 72 0 0:=⟨ju⟩
instance ak6:FO prog 72 1 1:=⟨rL⟩
instance ak5:FO prog 72 2 2:=⟨rK⟩
instance ak4:FO prog 74 0 0:=⟨pF⟩
instance ak3:FO prog 74 1 1:=⟨zC⟩
instance ak2:FO prog 74 2 4:=⟨KF⟩
instance ak1:FO prog 74 3 5:=⟨KE⟩
instance ak0:FO prog 104 0 0:=⟨u5⟩
instance akZ:FO prog 104 1 1:=⟨MK⟩
instance akY:FO prog 104 2 2:=⟨MJ⟩
instance akX:FO prog 104 3 3:=⟨MI⟩
instance akW:FO prog 104 4 4:=⟨MH⟩
instance akV:FO prog 106 0 0:=⟨uA⟩
instance akU:FO prog 106 1 1:=⟨pG⟩
instance akT:FO prog 115 0 0:=⟨Kr⟩
instance akS:FO prog 115 1 1:=⟨Kq⟩
instance akR:FO prog 115 2 2:=⟨Ko⟩
instance akQ:FO prog 115 3 3:=⟨Kn⟩
instance akP:FO prog 115 4 4:=⟨Km⟩
instance akO:FO prog 115 5 9:=⟨Kl⟩
instance akN:FO prog 115 6 10:=⟨Kk⟩
instance akM:FO prog 129 0 0:=⟨vS⟩
instance akL:FO prog 129 1 1:=⟨vR⟩
instance akK:FO prog 129 2 2:=⟨vQ⟩
instance akJ:FO prog 129 3 3:=⟨vP⟩
instance akI:FO prog 152 0 0:=⟨HH⟩
instance akH:FO prog 155 0 0:=⟨u4⟩
instance akG:FO prog 155 1 1:=⟨u0⟩
instance akF:FO prog 155 2 2:=⟨MF⟩
instance akE:FO prog 157 0 0:=⟨Kv⟩
instance akD:FO prog 157 1 1:=⟨Ku⟩
instance akC:FO prog 157 2 7:=⟨Kt⟩
instance akB:FO prog 163 0 0:=⟨HJ⟩
instance akA:FO prog 163 1 1:=⟨HI⟩
instance akz:FO prog 183 0 0:=⟨oT⟩
instance aky:FO prog 183 1 1:=⟨vL⟩
instance akx:FO prog 191 0 0:=⟨KD⟩
instance akw:FO prog 191 1 1:=⟨KB⟩
instance akv:FO prog 191 3 3:=⟨KA⟩
instance aku:FO prog 191 4 4:=⟨Kz⟩
instance akt:FO prog 191 5 5:=⟨Ky⟩
instance aks:FO prog 191 6 6:=⟨Kx⟩
instance akr:FO prog 191 7 7:=⟨Kw⟩
instance akq:FO prog 198 0 0:=⟨gu⟩
instance akp:FO prog 198 1 1:=⟨Ci⟩
instance ako:FO prog 198 2 2:=⟨nM⟩
instance akn:FO prog 198 3 3:=⟨ML⟩
instance akm:FO prog 211 0 0:=⟨Ei⟩
instance akl:FO prog 211 1 1:=⟨Eh⟩
instance akk:FO prog 211 2 2:=⟨Eg⟩
instance akj:FO prog 221 0 0:=⟨vO⟩
instance aki:FO prog 221 1 1:=⟨vN⟩
instance akh:FO prog 221 2 2:=⟨vM⟩
instance ajH:FO prog 353 0 0:=⟨uX⟩
instance ajG:FO prog 353 1 1:=⟨uV⟩
instance ajF:FO prog 353 2 2:=⟨uU⟩
instance ajE:FO prog 377 0 0:=⟨Ek⟩
instance ajD:FO prog 379 0 0:=⟨Em⟩
instance ajC:FO prog 379 1 1:=⟨El⟩
instance ajB:FO prog 392 0 0:=⟨F7⟩
instance ajA:FO prog 392 1 1:=⟨F6⟩
instance ajz:FO prog 392 2 2:=⟨F5⟩
instance ajy:FO prog 399 0 0:=⟨F2⟩
instance ajx:FO prog 399 1 1:=⟨F1⟩
structure Wr(B:Prop):Prop where
 h:B
def z1(h:B)(f:Wr B->A:=by
 intro h
 first|refine aK ?_|refine nF ?_|refine dW rfl ?_|refine agt rfl rfl ?_|refine ahL rfl rfl ?_|refine agn rfl rfl rfl rfl rfl rfl ?_|refine agz rfl rfl ?_|refine iw rfl rfl rfl rfl ?_|refine iM rfl rfl rfl rfl ?_|refine agA rfl rfl rfl ?_|refine vr rfl rfl ?_|refine agt rfl rfl ?_|refine Ca ?_|refine jo ?_|refine abS ?_|refine Y6 rfl ?_|refine abM rfl rfl rfl rfl rfl ?_|refine CG rfl rfl rfl (by omega) ?_|refine uO rfl rfl rfl (by omega) ?_|refine agB rfl (by kernel_rfl) rfl rfl ?_|refine agB rfl (by kernel_rfl) rfl rfl ?_|refine ags rfl (by kernel_rfl) rfl rfl ?_|refine ags rfl (by kernel_rfl) rfl rfl ?_|refine agu rfl rfl rfl ?_|refine agw rfl rfl rfl ?_|refine agv rfl rfl rfl ?_|refine agx rfl rfl rfl ?_|refine agu rfl rfl rfl ?_|refine agw rfl rfl rfl ?_|refine agv rfl rfl rfl ?_|refine agx rfl rfl rfl ?_|refine agz rfl rfl ?_|refine eE rfl (by kernel_rfl) aR rfl ?_|refine eE rfl (by kernel_rfl) aY rfl ?_|refine eE rfl (by kernel_rfl) aV rfl ?_|refine eE rfl (by kernel_rfl) aR rfl ?_
 exact h.h):A:=f ⟨h⟩
def z2(h:B)(f:Wr B->A:=by
 intro h
 iterate 2 refine z1 ?_
 exact h.h):A:=f ⟨h⟩
def z3(h:B)(f:Wr B->A:=by
 intro h
 iterate 3 refine z1 ?_
 exact h.h):A:=f ⟨h⟩
def z4(h:B)(f:Wr B->A:=by
 intro h
 iterate 4 refine z1 ?_
 exact h.h):A:=f ⟨h⟩
def z5(h:B)(f:Wr B->A:=by
 intro h
 iterate 5 refine z1 ?_
 exact h.h):A:=f ⟨h⟩
def z6(h:B)(f:Wr B->A:=by
 intro h
 iterate 6 refine z1 ?_
 exact h.h):A:=f ⟨h⟩
def z7(h:B)(f:Wr B->A:=by
 intro h
 iterate 7 refine z1 ?_
 exact h.h):A:=f ⟨h⟩
def z8(h:B)(f:Wr B->A:=by
 intro h
 iterate 8 refine z1 ?_
 exact h.h):A:=f ⟨h⟩
def z9(h:B)(f:Wr B->A:=by
 intro h
 iterate 9 refine z1 ?_
 exact h.h):A:=f ⟨h⟩
def B'(h:B)(f:Wr B->A:=by
 intro h
 iterate 10 refine z1 ?_
 exact h.h):A:=f ⟨h⟩
def SP(h:B)(f:Wr B->A:=by
 intro h
 iterate 11 refine z1 ?_
 exact h.h):A:=f ⟨h⟩
def YW(h:B)(f:Wr B->A:=by
 intro h
 iterate 12 refine z1 ?_
 exact h.h):A:=f ⟨h⟩
def z13(h:B)(f:Wr B->A:=by
 intro h
 iterate 13 refine z1 ?_
 exact h.h):A:=f ⟨h⟩
def z14(h:B)(f:Wr B->A:=by
 intro h
 iterate 14 refine z1 ?_
 exact h.h):A:=f ⟨h⟩
def z15(h:B)(f:Wr B->A:=by
 intro h
 iterate 15 refine z1 ?_
 exact h.h):A:=f ⟨h⟩
def z16(h:B)(f:Wr B->A:=by
 intro h
 iterate 16 refine z1 ?_
 exact h.h):A:=f ⟨h⟩
def z17(h:B)(f:Wr B->A:=by
 intro h
 iterate 17 refine z1 ?_
 exact h.h):A:=f ⟨h⟩
def z22(h:B)(f:Wr B->A:=by
 intro h
 iterate 22 refine z1 ?_
 exact h.h):A:=f ⟨h⟩
def z23(h:B)(f:Wr B->A:=by
 intro h
 iterate 23 refine z1 ?_
 exact h.h):A:=f ⟨h⟩
def z24(h:B)(f:Wr B->A:=by
 intro h
 iterate 24 refine z1 ?_
 exact h.h):A:=f ⟨h⟩
inductive WZ:Nat->Prop->Prop->Prop
 |done {A:Prop}:WZ 0 A A
 |step {n:Nat} {A B ad:Prop} (h:Wr ad->A) (g:WZ n B ad):WZ (n+1) B A
def WZ.go:∀{n:Nat} {A:Prop},WZ n B A->B->A
 |_,_, .done,b=>b
 |_,_, .step h g,b=>h ⟨g.go b⟩
def wG(f:WZ k B A:=by repeat(first|exact WZ.done|refine WZ.step (fun h=>z1 h.h) ?_)):WZ k B A:=f
section
variable{done r:List Nat}{b o:Nat}{p:String}{l:List C}
def wD(k:Nat)(Y:kg P s=true)(Z:aw G L w)(h:XL P n O dr (i::done) r K ((d,v)::e) w)(f:WZ k (XL P n O dr done (i::r) K e w) A:=by exact wG)(ho:O[i]?=some ⟨some d, .load s x,t,p,af,g⟩:=by exact rfl)(hd:Nat.blt d n=true:=by exact rfl)(hg:Gd O e g:=by exact gD)(E:ev e x=some (.pointer (some ⟨b,o,none⟩)):=by exact rfl)(q:dE (N b l T) L R:=by repeat(first|with_reducible exact dE.here|apply dE.there))(hv:l[o]?=some v:=by exact rfl):A:=f.go (bg (ho:=ho) (hd:=hd) (hg:=hg) E (aD.cw Y Z q hv) h)
def wA(k:Nat)(Y:jn P s z=true)(Z:aw G L w)(h:XL P n O dr (i::done) r K ((d,gQ l)::e) w)(f:WZ k (XL P n O dr done (i::r) K e w) A:=by exact wG)(ho:O[i]?=some ⟨some d, .load s x,t,p,af,g⟩:=by exact rfl)(hd:Nat.blt d n=true:=by exact rfl)(hg:Gd O e g:=by exact gD)(E:ev e x=some (pQ b):=by exact rfl)(q:dE (N b l T) L R:=by repeat(first|with_reducible exact dE.here|apply dE.there))(hz:l.length=z:=by exact rfl):A:=f.go (bg (ho:=ho) (hd:=hd) (hg:=hg) E (aD.dB Y Z q hz) h)
def wB{c:List C}(k:Nat)(Z:aw G L w)(h:∀w' b,aw G (N b c s::L) w'->XL P n O dr (i::done) r K ((d,pQ b)::e) w')(f:WZ k (XL P n O dr done (i::r) K e w) A:=by exact wG)(ho:O[i]?=some ⟨some d, .box s x,t,p,af,g⟩:=by exact rfl)(hd:Nat.blt d n=true:=by exact rfl)(hg:Gd O e g:=by exact gD)(E:ev e x=some v:=by exact rfl)(hc:v.cells=c.toArray:=by exact rfl)(hpd:gZ P O dr done i=[]:=by first|exact rfl|kernel_rfl):A:=f.go (agG (ho:=ho) (hd:=hd) (hg:=hg) (E:=E) (hc:=hc) (Z:=Z) (hpd:=hpd) (h:=h))
def wL{c:List C}(k:Nat)(hz:cd P s=some c.toArray)(Z:aw G L w)(h:∀w' b,aw G (N b c s::L) w'->XL P n O dr (i::done) r K ((d,pQ b)::e) w')(f:WZ k (XL P n O dr done (i::r) K e w) A:=by exact wG)(ho:O[i]?=some ⟨some d, .alloc s,t,p,af,g⟩:=by exact rfl)(hd:Nat.blt d n=true:=by exact rfl)(hg:Gd O e g:=by exact gD)(hpd:gZ P O dr done i=[]:=by first|exact rfl|kernel_rfl):A:=f.go (abT (ho:=ho) (hd:=hd) (hg:=hg) (hz:=hz) (Z:=Z) (hpd:=hpd) (h:=h))
def wS(k:Nat)(Y:kg P s=true)(Z:aw G L w)(h:∀w',aw G (N b l' T::R) w'->XL P n O dr (i::done) r K e w')(f:WZ k (XL P n O dr done (i::r) K e w) A:=by exact wG)(ho:O[i]?=some ⟨none, .store s x y,t,p,af,g⟩:=by exact rfl)(hg:Gd O e g:=by exact gD)(E:ev e x=some (.pointer (some ⟨b,o,none⟩)):=by exact rfl)(hy:ev e y=some v:=by exact rfl)(hv:v.oneCell'=true:=by exact rfl)(hp:dE (N b l T) L R:=by repeat(first|with_reducible exact dE.here|apply dE.there))(hol:Nat.blt o l.length=true:=by exact rfl)(hl':l.set o v=l':=by exact rfl)(hpd:gZ P O dr done i=[]:=by first|exact rfl|kernel_rfl):A:=f.go (rU (ho:=ho) (hg:=hg) (E:=E) (hy:=hy) (Y:=Y) (hv:=hv) (Z:=Z) (hp:=hp) (hol:=hol) (hl':=hl') (hpd:=hpd) (h:=h))
def wN(k:Nat)(Y:jn P s z=true)(hv:lK cs)(Z:aw G L w)(h:∀w',aw G (N b l' T::R) w'->XL P n O dr (i::done) r K e w')(f:WZ k (XL P n O dr done (i::r) K e w) A:=by exact wG)(ho:O[i]?=some ⟨none, .store s x y,t,p,af,g⟩:=by exact rfl)(hg:Gd O e g:=by exact gD)(E:ev e x=some (.pointer (some ⟨b,o,none⟩)):=by exact rfl)(hy:ev e y=some (gQ cs):=by exact rfl)(hz:cs.length=z:=by exact rfl)(hp:dE (N b l T) L R:=by repeat(first|with_reducible exact dE.here|apply dE.there))(hol:Nat.ble (o+z) l.length=true:=by exact rfl)(hl':l.take o++cs++l.drop (o+z)=l':=by exact rfl)(hpd:gZ P O dr done i=[]:=by first|exact rfl|kernel_rfl):A:=f.go (ue (ho:=ho) (hg:=hg) (E:=E) (hy:=hy) (Y:=Y) (hz:=hz) (hv:=hv) (Z:=Z) (hp:=hp) (hol:=acm hol) (hl':=hl') (hpd:=hpd) (h:=h))
def wX{cap:Nat}{a:Int}(k:Nat)(hs:P.underlying s=some (.slice c))(hz:(P.info? c).map (·.size)=some z)(h:XL P n O dr (i::done) r K ((d, .pointer (some ⟨b,o+a.toNat*z,none⟩))::e) w)(f:WZ k (XL P n O dr done (i::r) K e w) A:=by exact wG)(ho:O[i]?=some ⟨some d, .indexAddr s x y,t,p,af,g⟩:=by exact rfl)(hd:Nat.blt d n=true:=by exact rfl)(hg:Gd O e g:=by exact gD)(E:ev e x=some (.slice (some ⟨b,o,none⟩) len cap):=by exact rfl)(hy:ev e y=some (.int kd a):=by exact rfl)(h0:0<=a:=by omega)(J:a<len:=by omega):A:=f.go (aeh (ho:=ho) (hd:=hd) (hg:=hg) (hs:=hs) (hz:=hz) (E:=E) (hy:=hy) (ha:=⟨h0,J⟩) (h:=h))
def wY{cap:Nat}{a:Int}(k:Nat)(hs:P.underlying s=some (.slice c))(hz:(P.info? c).map (·.size)=some 1)(h:XL P n O dr (i::done) r K ((d, .pointer (some ⟨b,o+a.toNat,none⟩))::e) w)(f:WZ k (XL P n O dr done (i::r) K e w) A:=by exact wG)(ho:O[i]?=some ⟨some d, .indexAddr s x y,t,p,af,g⟩:=by exact rfl)(hd:Nat.blt d n=true:=by exact rfl)(hg:Gd O e g:=by exact gD)(E:ev e x=some (.slice (some ⟨b,o,none⟩) len cap):=by exact rfl)(hy:ev e y=some (.int kd a):=by exact rfl)(h0:0<=a:=by omega)(J:a<len:=by omega):A:=f.go (aeS (ho:=ho) (hd:=hd) (hg:=hg) (hs:=hs) (hz:=hz) (E:=E) (hy:=hy) (ha:=⟨h0,J⟩) (h:=h))
def wC{G':Gh}(ho:O[i]?=some ⟨some d, .call ⟨.value (.func f),xs,ts⟩,t,p,af,g⟩)(hf:an P f)(ha:V0 e xs.toList=some args)(hc:aA P f args.toArray w (bU fun r w'=>r=v/\aw G' L' w'))(h:∀w',aw G' L' w'->XL P n O dr (i::done) r K ((d,v)::e) w')(hd:Nat.blt d n=true:=by exact rfl)(hg:Gd O e g:=by exact gD)(hpd:gZ P O dr done i=[]:=by first|exact rfl|kernel_rfl):XL P n O dr done (i::r) K e w:=aO (ho:=ho) (hd:=hd) (hg:=hg) (hf:=hf) (ha:=ha) (hc:=hc) (hpd:=hpd) (h:=fun w' _ hv=>by obtain⟨rfl,Z⟩:=hv;exact h w' Z)
def wV(k:Nat)(h:XL P n O dr (i::done) r K ((d,v)::e) w)(f:WZ k (XL P n O dr done (i::r) K e w) A:=by exact wG)(ho:O[i]?=some ⟨some d, .build s ps,t,p,af,g⟩:=by exact rfl)(hd:Nat.blt d n=true:=by exact rfl)(hg:Gd O e g:=by exact gD)(E:V0 e (ps.toList.map (·.2))=some vs:=by exact rfl)(hr:∀w',(Instr.build s ((ps.toList.map (·.1)).zip vs).toArray).run P w'= .ok v w':=by intro w;kernel_rfl):A:=f.go (DK (ho:=ho) (hd:=hd) (hg:=hg) (E:=E) (hr:=hr) (h:=h))
end
section
variable{x y:Code}{K F:jF}{R:C->ae->Prop}
def wI{ip:Decidable p}(k:Nat)(ht:p->X P n ro x K hx F e w)(hf:¬p->X P n ro y K hx F e w)(f:WZ k (X P n ro (.cond Si x y) K hx F e w) A:=by exact wG)(hc:ev e Si=some (.bool (@decide p ip)):=by exact rfl):A:=f.go (ahK hc ht hf)
def wQ{id:Nat}(ord:List Nat)(Z:aw G L w)(h:aw G L {w with drawn:=w.drawn+1}->XL prog n O true [] ord K e {w with drawn:=w.drawn+1})(hB:acd prog O n ord=true:=by kernel_rfl):X prog n ro (.region id O true) K hx F e w:=Y7 ord Cg hB (h (Z.drawn _))
def wF{c:Code}{R:C->ae->Prop}(args:List C)(hf:P.funcs[f]?=some fn)(hn:fn.ntmps=n)(h:X P n none c (nf P n fn R) [] (nf P n fn R) (tL 0 args) w)(hb:fn.body=some c:=by exact rfl)(hle:Nat.ble args.length n=true:=by exact rfl)(hs:Nat.ble n 1000000=true:=by exact rfl):aA P f args.toArray w (bU R):=UT (hf:=hf) (hb:=hb) (hn:=hn) (hle:=hle) (hs:=hs) (h:=h)
def wq{p q:Bool}(k:Nat)(f:WZ k (A/\some (Value.bool p)=some (Value.bool q)) B:=by exact wG)(ha:A:=by exact rfl)(h:p=q:=by first|exact(cN (by omega)).symm|exact(eW H).symm|exact bI.2 H):B:=f.go ⟨ha,aU some (aU Value.bool h)⟩
def dk(k:Nat)(h:R v w)(f:WZ k (nf P n fn R e w) A:=by exact wG)(hr:fn.results=#[r]:=by exact rfl)(hm:marks e=[]:=by exact rfl)(hv:rB P e w r v:=by exact rfl):A:=f.go (dt hr hm hv h)
def ui(k:Nat)(h:R (.tuple #[v,v']) w)(f:WZ k (nf P n fn R e w) A:=by exact wG)(hr:fn.results=#[r,r']:=by exact rfl)(hm:marks e=[]:=by exact rfl)(hv:rB P e w r v:=by exact rfl)(Mv:rB P e w r' v':=by exact rfl):A:=f.go (ga hr hm hv Mv h)
end
def dC(h:p:=by first|exact(cN (by omega)).symm|exact(eW (by omega)).symm|exact bI.2 (by omega)):p:=h
def bv(b:UInt8):C:= .int .u8 b.toNat
def cI(l:List UInt8):List C:=l.map bv
def dH(l:List UInt8):(cI l).length=l.length:=by simp[cI]
def xL(l m:List UInt8):cI (l++m)=cI l++cI m:=by simp[cI]
def AD(l:List UInt8)(k:Nat):cI (l.take k)=(cI l).take k:=by simp[cI,List.map_take]
def abr(l:List UInt8)(k:Nat):cI (l.drop k)=(cI l).drop k:=by simp[cI,List.map_drop]
def Wf{l:List UInt8}(h:k<l.length):(cI l)[k]?=some (bv (l.getD k 0)):=by simp[cI,h]
def k6(l:List UInt8):lK (cI l):=fun u hu=>by obtain⟨b,_,rfl⟩:=dY.1 hu;rfl
def Bd(b:UInt8):lK [bv b]:=k6 [b]
def eu{α:Type}(l:List α)(k:Nat)(d:α)(h:k<l.length):l.take (k+1)=l.take k++[l.getD k d]:=by
 rw[List.take_succ_eq_append_getElem h];simp[h]
def Bo{α:Type}(l:List α)(k:Nat)(d:α)(h:k<l.length):l.drop k=l.getD k d::l.drop (k+1):=by
 rw[Ms h];simp[h]
def eB(v:C)(l:List UInt8)(w:ae):Prop:=((∃a,v= .slice a 0 0)/\l=[])\/∃b o cap,v= .slice (some ⟨b,o,none⟩) l.length cap/\l.length<=cap/\Rd w ⟨b,o,none⟩ (cI l)
def eB.cell{w:ae}{b o:Nat}{l:List UInt8}(h:Rd w ⟨b,o,none⟩ (cI l)){i:Int}(h0:0<=i/\i<l.length):w.cell? ⟨b,o+i.toNat,none⟩=some (bv (l.getD i.toNat 0)):=by
 have:=h i.toNat _ (Wf H);rwa [eK]at this
def Rd.iq{b T:Nat}{l:List C}(Z:aw G L w)(p:dE (N b l T) L R):Rd w ⟨b,0,none⟩ l:=by have:=Rd.O9 (o:=0) Z p;simpa using this
def eB.row{T:Nat}{v:C}{l:List UInt8}:aL [row T 1 v l.length (cI l)] (eB v l):=fun g w Z=>by
 obtain⟨hl,h|⟨b,cap,cur,rfl,Y,J,h3,h4⟩⟩:=qR Z
 ·obtain⟨rfl,_,h5,_⟩:=h;refine .inl ⟨⟨none,rfl⟩,?_⟩;cases l with
  |nil=>rfl
  |cons _ _=>simp[cI]at h5
 refine .inr ⟨b,0,cap,rfl,Y,?_⟩;have:=(Rd.iq h4 .here).take (cI l).length
 simpa using this
section
variable{l l':List UInt8}
def cy(Z:aw G L w)(kl:aL L (eB v l))(hl:l.length<=140737488355328):
  aA prog 68 #[v] w (bU fun v' w'=>aw G (row 5 1 v' l.length (cI l)::L) w'):=by
 obtain⟨a,cap,rfl⟩:∃a cap,v= .slice a l.length cap:=by
  rcases kl.at Z with⟨⟨a,rfl⟩,rfl⟩|⟨b,o,cap,rfl,_⟩
  ·exact⟨a,0,rfl⟩
  exact⟨_,cap,rfl⟩
 refine wF [_] func68 ntmps68 ?_;refine z8 ?_;refine yY rfl aR bo fF wH rfl rfl ⟨H,H⟩ H H Z rfl fun w b7 Z=>?_;refine z8 ?_;refine bx (fun m e w=>∃(k:Nat) (u:C),k<=l.length/\m=l.length-k/\e=[(0, .slice a l.length cap),(3,u),(4,I k)]/\aw G (row 5 1 u k (cI (l.take k))::L) w)
  (m:=l.length) sB
  ⟨0,_,de _,rfl,rfl,lC (xs:=[]) Z rfl (de _) mL sM⟩ ?_
 rintro m e w ⟨k,u,hk,rfl,rfl,Z⟩;refine wI 8 (fun Y=>?_) fun Y=>?_
 ·obtain⟨b,o,rfl,hR⟩:∃b o,a=some ⟨b,o,none⟩/\Rd w ⟨b,o,none⟩ (cI l):=by
   rcases(kl.cons _).at Z with⟨⟨_,h⟩,rfl⟩|⟨b,o,cap,h,hR⟩
   ·simp at Y;omega
   cases h;exact⟨b,o,rfl,hR.2⟩
  refine wY 7 aR bo ?_;refine bg rfl rfl (aD.one dN (eB.cell hR ⟨H,H⟩)) ?_;refine fb rfl aR bo eU dM rfl rfl rfl Z rfl fun w b19 Z=>?_;refine eF (m:=k) (k:=1) rfl aR bo fF eU rfl rfl Z pK (Rd.iq Z pK) rfl (Bd _) mL H rfl fun w v20 Z=>?_;refine z7 ?_;refine⟨l.length-(k+1),H,[(0,_),(3,v20),(4,I (k+1:Nat))],sB,k+1,v20,H,rfl,rfl,?_⟩;rw[eu l k 0 H,xL];exact Z.drop (.there .here)
 have yp:k=l.length:=H;subst yp;refine dk 7 ?_;exact by rw[qS]at Z;exact Z
def eB.at{b o cap:Nat}(h:eB (.slice (some ⟨b,o,none⟩) n cap) l w){i:Int}(h0:0<=i/\i<l.length):w.cell? ⟨b,o+i.toNat,none⟩=some (bv (l.getD i.toNat 0)):=by
 rcases h with⟨_,rfl⟩|⟨b',o',mG,h,hR⟩
 ·simp at h0;omega
 cases h;exact eB.cell hR.2 h0
def eB.form(h:eB v l w):∃a cap,v= .slice a l.length cap:=by
 rcases h with⟨⟨a,rfl⟩,rfl⟩|⟨b,o,cap,rfl,_⟩
 ·exact⟨a,0,rfl⟩
 exact⟨_,cap,rfl⟩
def eB.nn{a:Option Addr}{cap:Nat}(h:eB (.slice a n cap) l w)(hn:0<l.length):∃b o,a=some ⟨b,o,none⟩:=by
 rcases h with⟨h,rfl⟩|⟨b,o,mG,h,_⟩
 ·simp at hn
 cases h;exact⟨b,o,rfl⟩
def fy:List UInt8->List UInt8->Int
 |[],[]=>0
 |[],_::_=>-1
 |_::_,[]=>1
 |a::x,b::y=>if a.toNat<b.toNat then-1 else if b.toNat<a.toNat then 1 else fy x y
def EL:∀{l l':List UInt8},fy l l'=0↔l=l'
 |[],[]=>by simp[fy]
 |[],_::_=>by simp[fy]
 |_::_,[]=>by simp[fy]
 |a::x,b::y=>by
  simp only[fy,List.cons.injEq]
  by_cases h:a.toNat<b.toNat
  ·have:a≠b:=fun e=>by subst e;omega
   simp[h,this]
  by_cases J:b.toNat<a.toNat
  ·have:a≠b:=fun e=>by subst e;omega
   simp[h,J,this]
  have:a=b:=UInt8.toNat_inj.1 H;simp[h,J,this,EL]
def Oq:∀(k:Nat) {l l':List UInt8},l.take k=l'.take k->k<=l.length->k<=l'.length->fy l l'=fy (l.drop k) (l'.drop k)
 |0,_,_,_,_,_=>rfl
 |k+1,[],_,_,h,_=>by simp at h
 |k+1,_::_,[],_,_,h=>by simp at h
 |k+1,a::l,b::l',h,Y,J=>by
  simp only[Xa,List.cons.injEq]at h;obtain⟨rfl,h⟩:=h;simp only[fy,Nat.lt_irrefl,if_false,W9];exact Oq k h (by simpa using Y) (by simpa using J)
def ja(Z:aw G L w)(ka:aL L (eB v l))(kb:aL L (eB v' l'))(hl:l.length<=140737488355328)(hl':l'.length<=140737488355328):
  aA prog 191 #[v,v'] w (bU fun r w'=>r=I (fy l l')/\aw G L w'):=by
 obtain⟨a,cap,rfl⟩:=(ka.at Z).form;obtain⟨a',mG,rfl⟩:=(kb.at Z).form;refine wF [_,_] func191 ntmps191 ?_;refine B' ?_;refine bx (fun m e w=>∃k:Nat,k<=l.length/\k<=l'.length/\l.take k=l'.take k/\m=l.length-k/\e=[(0, .slice a l.length cap),(1, .slice a' l'.length mG),(5,I k)]/\aw G L w)
  (m:=l.length) sB
  ⟨0,de _,de _,rfl,rfl,rfl,Z⟩ ?_
 rintro m e w ⟨k,hk,gn,he,rfl,rfl,Z⟩;have Qq:=Oq k he hk gn;refine z8 ?_;refine ar (d:=10) rfl (fun Y=>?_) fun Y=>?_
 ·refine wI 6 (fun J=>?_) fun J=>?_
  ·obtain⟨b,o,rfl⟩:=(ka.at Z).nn H;obtain⟨b',o',rfl⟩:=(kb.at Z).nn H;rw[Bo l k 0 H,Bo l' k 0 H]at Qq;refine z5 ?_;refine wQ [0,1,2,3,4,5,6,7,8] Z fun Z=>?_
   refine wY 2 aR bo ?_;refine bg rfl rfl (aD.one dN ((ka.at Z).at ⟨H,H⟩)) ?_;refine wY 2 aR bo ?_;refine bg rfl rfl (aD.one dN ((kb.at Z).at ⟨H,H⟩)) ?_;refine wI 2 (fun h3=>?_) fun h3=>?_
   ·simp only[cZ]at h3;refine dk 5 ?_;exact⟨by rw[Qq,fy,aB H],Z⟩
   refine z2 ?_;refine wQ [0,1,2,3,4,5,6,7,8] Z fun Z=>?_
   refine wY 2 aR bo ?_;refine bg rfl rfl (aD.one dN ((ka.at Z).at ⟨H,H⟩)) ?_;refine wY 2 aR bo ?_;refine bg rfl rfl (aD.one dN ((kb.at Z).at ⟨H,H⟩)) ?_;refine wI 2 (fun h4=>?_) fun h4=>?_
   ·simp only[cZ]at h3 h4;refine dk 5 ?_;exact⟨by rw[Qq,fy,aj H,aB H],Z⟩
   simp only[cZ]at h3 h4;refine z6 ?_;refine⟨l.length-(k+1),H,[(0,_),(1,_),(5,I (k+1:Nat))],sB,k+1,H,H,?_,rfl,rfl,Z⟩;rw[eu l k 0 H,eu l' k 0 H,he,UInt8.toNat_inj.1 (show(l.getD k 0).toNat=(l'.getD k 0).toNat by omega)]
  have e2:l'.drop k=[]:=vB H;rw[e2,Bo l k 0 H]at Qq;refine wI 10 (fun h5=>?_) fun h5=>?_
  ·exact aS h5 H
  refine wI 10 (fun h6=>?_) fun h6=>?_
  ·refine dk 5 ?_;exact⟨by rw[Qq];rfl,Z⟩
  exact aS h6 H
 have e2:l.drop k=[]:=vB H;rw[e2]at Qq;refine z6 ?_;refine cD rfl ?_;refine wI 10 (fun h7=>?_) fun h7=>?_
 ·refine dk 5 ?_;exact⟨by rw[Qq,Bo l' k 0 H];rfl,Z⟩
 refine wI 10 (fun h8=>?_) fun h8=>?_
 ·exact aS h8 H
 refine dk 6 ?_;exact⟨by rw[Qq,vB H];rfl,Z⟩
def jZ(Z:aw G L w)(ka:aL L (eB v l))(kb:aL L (eB v' l'))(hl:l.length<=140737488355328)(hl':l'.length<=140737488355328):
  aA prog 151 #[v,v'] w (bU fun r w'=>r= .bool (decide (l=l'))/\aw G L w'):=by
 refine wF [_,_] func151 ntmps151 ?_;refine z8 ?_;refine wC rfl iC rfl (ja Z ka kb hl hl') fun w Z=>?_
 refine dk 4 ?_;exact⟨by simp only[EL],Z⟩
def eB.rd{b o cap:Nat}(h:eB (.slice (some ⟨b,o,none⟩) n cap) l w):Rd w ⟨b,o,none⟩ (cI l):=by
 rcases h with⟨_,rfl⟩|⟨b',o',mG,h,hR⟩
 ·exact Rd.nil
 cases h;exact hR.2
def eB.rdd{b o cap:Nat}(h:eB (.slice (some ⟨b,o,none⟩) n cap) l w)(k:Nat):Rd w ⟨b,o+k,none⟩ (cI (l.drop k)):=by rw[abr];exact h.rd.drop k
def Mk{a b:List UInt8}(hs:P.underlying s=some (.array m c))(hc:P.underlying c=some (.int .u8))(hz:(P.info? c).map (·.size)=some 1)(hl:a.length=m)(hl':b.length=m)(w:ae):
  (Op.equal s (gQ (cI a)) (gQ (cI b))).run P w= .ok (decide (a=b)) w:=by
 have:∀q,(Op.equalIn (q+2) s (gQ (cI a)) (gQ (cI b))).run P w= .ok (decide (a=b)) w:=fun q=>by
  obtain⟨inf,hi,lH⟩:∃inf,P.info? c=some inf/\inf.size=1:=by
   cases hi:P.info? c with
   |none=>simp[hi]at hz
   |some inf=>exact⟨inf,rfl,by simpa [hi]using hz⟩
  rw[show q+2=(q+1)+1 from rfl];unfold Op.equalIn;simp only[al,aE hs,ah,sizeOf,typeInfo,program,Sem.run,hi,lH,aG,DV];rw[Std.Legacy.Range.forIn_eq_forIn_range'];have aev:∀(x:List UInt8) (j:Nat) (w:ae),j<x.length->(part c (cI x).toArray j).run P w= .ok (bv (x.getD j 0)) w:=fun x j w hj=>by
   have Y:=Wf hj;have ai0:GF P c=false:=by unfold GF;rw[hc]
   simp[part,oP ai0 (by rw[hc];rfl),Y]
  have hf:∀i∈List.range' 0 m 1,∀w:ae,(do
    let x<-part c (cI a).toArray i
    let y<-part c (cI b).toArray i
    let z<-Op.equalIn (q+1) c x y
    if(!z)=true then pure (ForInStep.done (some false,()))else pure (ForInStep.yield (none,())):Sem (ForInStep (Option Bool×Unit))).run P w=
     .ok (if a.getD i 0=b.getD i 0 then .yield (none,())else .done (some false,())) w:=fun i hi w=>by
   have lR:i<m:=by simpa using hi
   have he:(Op.equalIn (q+1) c (bv (a.getD i 0)) (bv (b.getD i 0))).run P w= .ok (decide (a.getD i 0=b.getD i 0)) w:=by
    rw[bv,bv,run_equalIn_int w q c .u8 .u8 _ _ hc]
    congr 1
    by_cases h:a.getD i 0=b.getD i 0
    ·rw[h];simp
    have:¬((a.getD i 0).toNat:Int)=(b.getD i 0).toNat:=fun hh=>h (UInt8.toNat_inj.1 H)
    rw[cN h];exact beq_eq_false_iff_ne.2 this
   simp only[al,aev a i w H,aev b i w H,ah,he]
   by_cases h:a.getD i 0=b.getD i 0
   ·rw[aB h,eW h];rfl
   rw[aj h,cN h];rfl
  have jg:∀(l:List Nat) (w:ae) (f:Nat->Option Bool×Unit->Sem (ForInStep (Option Bool×Unit))),
    (∀i∈l,∀w:ae,(f i (none,())).run P w= .ok (if a.getD i 0=b.getD i 0 then .yield (none,())else .done (some false,())) w)→
    (forIn l ((none,()):Option Bool×Unit) f).run P w= .ok (if l.all (fun i=>decide (a.getD i 0=b.getD i 0))then none else some false,()) w:=by
   intro l
   induction l with
   |nil=>intro w f _;simp
   |cons i l ih=>
    intro w f h;simp only[List.forIn_cons,al,h i (kf ..) w,ah]
    by_cases hh:a.getD i 0=b.getD i 0
    ·rw[aB hh];simp only[O1,eW hh,Bool.true_and];exact ih w f (fun j hj=>h j (kG _ hj))
    rw[aj hh];simp only[O1,cN hh,ZA];rfl
  have hr:=jg (List.range' 0 m 1) w (fun i _=>do
    let x<-part c (cI a).toArray i
    let y<-part c (cI b).toArray i
    let z<-Op.equalIn (q+1) c x y
    if(!z)=true then pure (ForInStep.done (some false,()))else pure (ForInStep.yield (none,()))) hf
  have aaK:(Std.Legacy.Range.size {start:=0,stop:=m,step:=1,step_pos:=by decide})=m:=by simp[Std.Legacy.Range.size]
  simp only[aaK];refine(aU (fun r=>Result.andThen r _) hr).trans ?_;have heq:(List.range' 0 m 1).all (fun i=>decide (a.getD i 0=b.getD i 0))=decide (a=b):=by
   rw[ZC];simp only[w5,decide_eq_true_eq]
   constructor
   ·intro h;apply ZG H;intro i Y J;have:=h i (by simpa using(show i<m by omega))
    simpa [Y,J]using this
   intro h i _;rw[h]
  rw[heq]
  by_cases h:a=b<;>simp[h]
 exact this 9998
def eB.cap{b o cap:Nat}(h:eB (.slice (some ⟨b,o,none⟩) n cap) l w):l.length<=cap:=by
 rcases h with⟨_,rfl⟩|⟨b',o',mG,h,hR⟩
 ·simp
 cases h;exact hR.1
def oJ(v:C)(cs:List C)(w:ae):Prop:=((∃a,v= .slice a 0 0)/\cs=[])\/∃b o cap,v= .slice (some ⟨b,o,none⟩) cs.length cap/\cs.length<=cap/\Rd w ⟨b,o,none⟩ cs
def oJ.form(h:oJ v cs w):∃a cap,v= .slice a cs.length cap:=by
 rcases h with⟨⟨a,rfl⟩,rfl⟩|⟨b,o,cap,rfl,_⟩
 ·exact⟨a,0,rfl⟩
 exact⟨_,cap,rfl⟩
def oJ.nn{a:Option Addr}{cap:Nat}(h:oJ (.slice a n cap) cs w)(hn:0<cs.length):∃b o,a=some ⟨b,o,none⟩:=by
 rcases h with⟨h,rfl⟩|⟨b,o,mG,h,_⟩
 ·simp at hn
 cases h;exact⟨b,o,rfl⟩
def oJ.at{b o cap:Nat}(h:oJ (.slice (some ⟨b,o,none⟩) n cap) cs w){i:Int}(hu:cs[i.toNat]?=some u):w.cell? ⟨b,o+i.toNat,none⟩=some u:=by
 rcases h with⟨_,rfl⟩|⟨b',o',mG,h,_,hR⟩
 ·simp at hu
 cases h;have:=hR i.toNat u hu;rwa [eK]at this
def oJ.row{T:Nat}{v:C}{cs:List C}:aL [row T 1 v cs.length cs] (oJ v cs):=fun g w Z=>by
 obtain⟨hl,h|⟨b,cap,cur,rfl,Y,J,h3,h4⟩⟩:=qR Z
 ·obtain⟨rfl,_,h5,_⟩:=h;exact .inl ⟨⟨none,rfl⟩,h5⟩
 refine .inr ⟨b,0,cap,rfl,Y,?_⟩;have:=(Rd.iq h4 .here).take cs.length
 simpa using this
end
abbrev bZ:=List UInt8
def Hr{T:Nat}{l:bZ}(hn:l.length=n)(q:dE (row T 1 v n (cI l)) L R):aL L (eB v l):=by
 subst hn;exact(eB.row.head _).pick q
def abY{T:Nat}(h:cs.length=n):aL [row T 1 v n cs] (oJ v cs):=by subst h;exact oJ.row
def fZ{c:Nat}{A:Option Addr}{xs:List C}(Z:aw G (row T z (.slice A m c) m xs::L) w)(hm:0<m):xs.length=m*z∧
  ∃b cur,A=some ⟨b,0,none⟩/\m<=c/\c<=maxLen/\(xs++cur).length=c*z/\aw G (N b (xs++cur) T::L) w:=by
 obtain⟨h,Me⟩:=qR Z;refine⟨h,?_⟩;rcases Me with⟨_,h,_⟩|⟨b,mG,cur,h,Y,J,h3,h4⟩
 ·omega
 cases h;exact⟨b,cur,rfl,Y,J,h3,h4⟩
def tK{p:ae->Prop}(k:aL M p):aL [bt M] p:=fun g w h=>k g w (by have:=h.eY;rwa [kF]at this)
def aw.Sx{A:aF}(h:aw G (bt (A::M)::R) w):aw G (A::bt M::R) w:=
 (aw.eY h).mono (L:=A::(M++R)) fun h ha=>jK (fun x E=>(all_append M R x).2 E) ha
def aw.iD{A:aF}(h:aw G (bt M::A::R) w):aw G (bt (M++[A])::R) w:=aw.bJ (by rw[gm];exact h.eY)
def aw.Sy{ai:List aF}(h:aw G (bt M::bt ai::R) w):aw G (bt (M++ai)::R) w:=by
 refine aw.bJ ?_;rw[gm];have Y:=h.eY;exact Y.mono fun x E=>by
  have key:∀(M:List aF) (x:vh),all (M++bt ai::R) x->all (M++(ai++R)) x:=fun M=>by
   induction M with
   |nil=>exact fun x E=>(all_append ai R x).1 E
   |cons A M ih=>exact fun x E=>jK ih E
  exact key M x E
def jk(z:Nat)(v:C)(rs:List (List C))(w:ae):Prop:=
 (∃a,v= .slice a 0 0/\(∀x,a=some x->x.block=x.block)/\rs=[])\/∃b o cap,v= .slice (some ⟨b,o,none⟩) rs.length cap/\rs.length<=cap/\(∀r∈rs,r.length=z)/\Rd w ⟨b,o,none⟩ rs.flatten
def jk.form(h:jk z v rs w):∃a cap,v= .slice a rs.length cap/\rs.length<=cap/\∀x,a=some x->x.block=x.block:=by
 rcases h with⟨a,rfl,ha,rfl⟩|⟨b,o,cap,rfl,Y,_⟩
 ·exact⟨a,0,rfl,fP _,ha⟩
 exact⟨_,cap,rfl,Y,by rintro _ ⟨⟩;rfl⟩
def jk.nn{a:Option Addr}{cap:Nat}(h:jk z (.slice a m cap) rs w)(hn:0<rs.length):∃b o,a=some ⟨b,o,none⟩:=by
 rcases h with⟨_,_,_,rfl⟩|⟨b,o,mG,h,_⟩
 ·simp at hn
 cases h;exact⟨b,o,rfl⟩
def C1{z:Nat}:∀{rs:List (List C)} {k:Nat} {r:List C},(∀r∈rs,r.length=z)->rs[k]?=some r->(rs.flatten.drop (k*z)).take z=r
 |x::rs,0,r,h,E=>by
  simp at E;subst E;have:=h x (kf ..);simp[List.take_append,this]
 |x::rs,k+1,r,h,E=>by
  have Y:=h x (kf ..);have ih:=C1 (rs:=rs) (k:=k) (fun y hy=>h y (kG _ hy)) (by simpa using E);rw[Mm,List.drop_append,Y,vB (by rw[Y,zg];omega),lE,show(k+1)*z-z=k*z by rw[zg];omega];exact ih
 |[],k,r,_,E=>by simp at E
def jk.at{b o cap:Nat}(h:jk z (.slice (some ⟨b,o,none⟩) m cap) rs w){r:List C}(hr:rs[k]?=some r):Rd w ⟨b,o+k*z,none⟩ r:=by
 rcases h with⟨_,_,_,rfl⟩|⟨b',o',mG,h,_,hl,hR⟩
 ·simp at hr
 cases h;have Y:=(hR.drop (k*z)).take z
 rwa [C1 hl hr]at Y
def jk.cell{z b o m cap:Nat}{rs:List (List C)}{w:ae}(h:jk z (.slice (some ⟨b,o,none⟩) m cap) rs w){k j:Nat}{r:List C}{u:C}(hr:rs[k]?=some r)(hu:r[j]?=some u):w.cell? ⟨b,o+(k:Int).toNat*z+j,none⟩=some u:=by
 have:=h.at hr j u hu
 rwa [eK]at this
def gy{z:Nat}:∀{rs:List (List C)},(∀r∈rs,r.length=z)->rs.flatten.length=rs.length*z
 |[],_=>by simp
 |x::rs,h=>by
  rw[Mm,di,h x (kf ..),gy (fun y hy=>h y (kG _ hy)),kZ,zg];omega
def jk.row{T z m:Nat}{v:C}{rs:List (List C)}(hm:rs.length=m)(hz:∀r∈rs,r.length=z):aL [row T z v m rs.flatten] (jk z v rs):=fun g w Z=>by
 obtain⟨hl,h|⟨b,cap,cur,rfl,Y,J,h3,h4⟩⟩:=qR Z
 ·obtain⟨rfl,h5,_,_⟩:=h;exact .inl ⟨none,rfl,by simp,vD H⟩
 refine .inr ⟨b,0,cap,by rw[hm],H,hz,?_⟩;have:=(Rd.iq h4 .here).take rs.flatten.length
 simpa using this
structure It where
 key:bZ
 value:bZ
 child:Int
 size:Int
structure cP where
 it:It
 kv:C
 vv:C
variable{l:List cP}
def cP.cells(x:cP):List C:=[x.kv,x.vv,I x.it.child,I x.it.size]
structure Pg where
 kind:Int
 level:Int
 items:List It
 data:bZ
 next:Int
structure dL where
 kind:Int
 level:Int
 l:List cP
 s:C
 d:C
 data:bZ
 next:Int
def dL.cells(p:dL):List C:=[I p.kind,I p.level,p.s,p.d,I p.next]
def dL.pg(p:dL):Pg:=⟨p.kind,p.level,p.l.map cP.it,p.data,p.next⟩
def dP(l:bZ):Prop:=l.length<=140737488355328
structure cP.Ok(L:List aF)(x:cP):Prop where
 k:aL L (eB x.kv x.it.key)
 v:aL L (eB x.vv x.it.value)
 sk:dP x.it.key
 sv:dP x.it.value
structure Hm(L:List aF)(s:C)(l:List cP):Prop where
 sl:aL L (jk 4 s (l.map cP.cells))
 it:∀x∈l,x.Ok L
 len:l.length<=2199023255552
structure dL.Ok(L:List aF)(p:dL):Prop where
 its:Hm L p.s p.l
 data:aL L (eB p.d p.data)
 sd:dP p.data
def cP.Ok.of{x:cP}(h:x.Ok L)(s:Qr L L'):x.Ok L':=⟨h.k.of s,h.v.of s,h.sk,h.sv⟩
def Hm.of{s:C}(h:Hm L s l)(q:Qr L L'):Hm L' s l:=⟨h.sl.of q,fun x E=>(h.it x E).of q,h.len⟩
def dL.Ok.of{p:dL}(h:p.Ok L)(s:Qr L L'):p.Ok L':=⟨h.its.of s,h.data.of s,h.sd⟩
def w9{x:cP}(h:x.Ok L)(Z:aw G L w):lK x.cells:=fun u hu=>by
 obtain⟨a,c,Y⟩:=(h.k.at Z).form;obtain⟨a',c',J⟩:=(h.v.at Z).form;simp only[cP.cells,Y,J,cE,fQ,or_false]at hu;rcases hu with rfl|rfl|rfl|rfl<;>rfl
def cm(x:cP):List aF:=[row 5 1 x.kv x.it.key.length (cI x.it.key),row 5 1 x.vv x.it.value.length (cI x.it.value)]
def qB(p:dL):List aF:=[row 198 4 p.s p.l.length (p.l.map cP.cells).flatten,bt (p.l.flatMap cm),row 5 1 p.d p.data.length (cI p.data)]
def fg(p:dL):aF:=bt (qB p)
def Ua{x:cP}(Y:dP x.it.key)(J:dP x.it.value):x.Ok (cm x):=⟨Hr rfl .here,Hr rfl (.there .here),Y,J⟩
def aL.nR{A:List aF}{p:ae->Prop}(k:aL A p):∀{B ad:List aF},M=B++(A++ad)->aL [bt M] p:=fun{B ad} h=>tK fun g w Z=>by
 subst h;have Y:aw g (A++ad) w:=by
  induction B with
  |nil=>exact Z
  |cons X B ih=>exact ih Z.tail
 have h3:=(aw.bJ (M:=A) Y).head.eY;rw[kF]at h3;exact k g w h3
def Ry(hs:∀x∈l,dP x.it.key/\dP x.it.value){x:cP}(E:x∈l):x.Ok [bt (l.flatMap cm)]:=by
 obtain⟨B,ad,rfl⟩:=O4 E;have h:=Ua (x:=x) (hs x E).1 (hs x E).2;have e:(B++x::ad).flatMap cm=B.flatMap cm++(cm x++ad.flatMap cm):=by simp
 exact⟨h.k.nR e,h.v.nR e,h.sk,h.sv⟩
structure dL.Sm(p:dL):Prop where
 len:p.l.length<=2199023255552
 it:∀x∈p.l,dP x.it.key/\dP x.it.value
 sd:dP p.data
def cL{p:dL}(h:p.Sm)(hp:dE (fg p) L R):p.Ok L:=by
 have base:p.Ok [fg p]:=by
  refine⟨⟨tK ((jk.row sM (fun r hr=>?_)).head _),fun x E=>?_,h.len⟩,tK ((Hr rfl (.there (.there .here)))),h.sd⟩
  ·obtain⟨x,-,rfl⟩:=dY.1 hr;rfl
  have Y:=Ry h.it E;exact⟨tK ((Y.k.head _).pick (.there .here)),tK ((Y.v.head _).pick (.there .here)),Y.sk,Y.sv⟩
 exact⟨⟨(base.its.sl.head _).pick hp,fun x E=>⟨((base.its.it x E).k.head _).pick hp,((base.its.it x E).v.head _).pick hp,(base.its.it x E).sk,(base.its.it x E).sv⟩,h.len⟩,(base.data.head _).pick hp,h.sd⟩
def fE{l:bZ}(Z:aw G L w)(ka:aL L (eB v l))(sP:dP l):
  aA prog 179 #[v] w (bU fun r w'=>aw G (row 5 1 r l.length (cI l)::L) w'):=by
 unfold dP at sP;obtain⟨a,cap,rfl⟩:=(ka.at Z).form;refine wF [_] func179 ntmps179 ?_;refine z8 ?_;refine DH rfl aR rfl ?_;refine aK ?_;refine fJ rfl (fun Y=>?_) fun Y=>?_
 ·refine z5 ?_;exact dt rfl rfl rfl (by
 rcases ka.at Z with⟨-,rfl⟩|⟨b,o,cap,h,-⟩
 ·exact bB Z _ _
 ·cases h;cases Y)
 obtain⟨x,rfl⟩:∃x,a=some x:=by cases a with|none=>cases Y|some x=>exact⟨x,rfl⟩
 have sA:Rd w x (cI l):=by
  rcases ka.at Z with⟨-,rfl⟩|⟨b,o,cap,h,-,hR⟩
  ·exact Rd.nil
  cases h;exact hR
 refine z3 ?_;refine IY rfl aR bo Z rfl fun w b5 Z=>?_;have Z:=jx (z:=1) (m:=0) Z rfl mL;have sA:Rd w x (cI l):=by
  rcases(ka.cons (row 5 1 (sQ b5 0 0) 0 [])).at Z with⟨-,rfl⟩|⟨b,o,cap,h,-,hR⟩
  ·exact Rd.nil
  cases h;exact hR
 refine z1 ?_;refine eF (m:=0) (k:=l.length) (news:=cI l) rfl aR bo fF eU rfl rfl Z pK sA (by rw[dH];omega) (k6 _) mL H rfl (fun w v7 Z=>?_);refine dk 3 ?_;exact by rw[mT,lE]at Z;exact Z
def R2{r:List C}(h:∀r∈rs,r.length=z)(hr:rs[k]?=some r):((rs.flatten++cur).drop (k*z)).take z=r:=by
 have hk:k<rs.length:=(qj.1 hr).1;have hl:=gy h;have Y:=C1 h hr;have J:k*z+z<=rs.length*z:=by rw[<-Nat.succ_mul];exact ZQ _ hk
 rw[List.drop_append_of_le_length H,afa (by rw[jm];omega)];exact Y
def zD{z:Nat}:∀{rs:List (List C)} {k j:Nat} {r cur:List C} (v:C),(∀r∈rs,r.length=z)->rs[k]?=some r->j<z->(rs.flatten++cur).set (k*z+j) v=(rs.set k (r.set j v)).flatten++cur
 |x::rs,0,j,r,cur,v,h,hr,hj=>by
  simp at hr;subst hr;have Y:=h x (kf ..);rw[Nat.zero_mul,mT,Mm,gm,List.set_append_left _ _ H];simp
 |x::rs,k+1,j,r,cur,v,h,hr,hj=>by
  have Y:=h x (kf ..);have ih:=zD (rs:=rs) (k:=k) (j:=j) (cur:=cur) v (fun y hy=>h y (kG _ hy)) (by simpa using hr) hj;rw[Mm,gm,ack _ _ (by rw[Y,zg];omega),Y,show(k+1)*z+j-z=k*z+j by rw[zg];omega,ih];simp
 |[],k,j,r,cur,v,_,hr,_=>by simp at hr
def xB(m:List cP):∀r∈m.map cP.cells,r.length=4:=fun r hr=>by obtain⟨x,-,rfl⟩:=dY.1 hr;rfl
def T7{m:List cP}{x:cP}(h:m[k]?=some x)(v:C):((m.map cP.cells).flatten++cur).set (0+(k:Int).toNat*4+0) v=((m.set k ⟨x.it,v,x.vv⟩).map cP.cells).flatten++cur:=by
 rw[cZ,mT,zD (r:=x.cells) v (xB m) (by rw[dh,h];rfl) H,QR];rfl
def T6{m:List cP}{x:cP}(h:m[k]?=some x)(v:C):((m.map cP.cells).flatten++cur).set (0+(k:Int).toNat*4+1) v=((m.set k ⟨x.it,x.kv,v⟩).map cP.cells).flatten++cur:=by
 rw[cZ,mT,zD (r:=x.cells) v (xB m) (by rw[dh,h];rfl) H,QR];rfl
def Ox(m:List cP)(cur:List C):((m.map cP.cells).flatten++cur).length=m.length*4+cur.length:=by rw[di,gy (xB m),cg]
def aaI(hk:k<n)(hj:j<4)(c:Nat):Nat.blt (0+(k:Int).toNat*4+j) (n*4+c)=true:=by rw[tS,cZ];omega
def Hm.ah0{s:C}(h:Hm L s l)(Z:aw G L w):lK (l.map cP.cells).flatten:=fun u hu=>by
 obtain⟨r,hr,hu⟩:=List.mem_flatten.1 hu;obtain⟨x,E,rfl⟩:=dY.1 hr;exact w9 (h.it x E) Z u hu
def oZ(Z:aw G L w)(ka:Hm L v l):
  aA prog 178 #[v] w (bU fun r w'=>aw G (row 198 4 r l.length (l.map cP.cells).flatten::L) w'):=by
 have YI:=ka.len;obtain⟨a,cap,rfl,-,-⟩:=(ka.sl.at Z).form;rw[cg]at ka ⊢;refine wF [_] func178 ntmps178 ?_;refine z8 ?_;refine DH rfl aV rfl ?_;refine aK ?_;refine fJ rfl (fun Y=>?_) fun Y=>?_
 ·refine z5 ?_;exact dt rfl rfl rfl (by
 rcases ka.sl.at Z with⟨x,E,-,h⟩|⟨b,o,cap,h,-⟩
 ·have hl:l=[]:=by simpa using h
  subst hl;exact bB Z _ _
 ·injection h with h0;subst h0;cases Y)
 obtain⟨x,rfl⟩:∃x,a=some x:=by cases a with|none=>cases Y|some x=>exact⟨x,rfl⟩
 refine z3 ?_;refine IY rfl aV bz Z rfl fun w b5 Z=>?_;have Z:=jx (z:=4) (m:=0) Z rfl mL;have RP:=ka.of (L':=row 198 4 (sQ b5 0 0) 0 []::L) sF;have sA:Rd w x (l.map cP.cells).flatten:=by
  rcases RP.sl.at Z with⟨-,-,-,h⟩|⟨b,o,cap,h,-,-,hR⟩
  ·rw[h];exact Rd.nil
  injection h with h0;cases h0;exact hR
 refine z1 ?_;refine eF (m:=0) (k:=l.length) (news:=(l.map cP.cells).flatten) rfl aV bz kD fi rfl rfl Z pK sA (by rw[gy (xB l),cg]) (RP.ah0 Z) mL H rfl fun w v7 Z=>?_;refine dk 3 ?_;exact by rw[mT,lE]at Z;exact Z
def xY{p:dL}(Z:aw G L w)(hp:p.Ok L):
  aA prog 97 #[gQ p.cells] w (bU fun r w'=>∃p':dL,r=gQ p'.cells/\p'.pg=p.pg/\p'.Sm/\aw G (fg p'::L) w'):=by
 have YI:=hp.its.len;have pW:=hp.its;have afK:=hp.data;simp only[dL.cells];refine wF [_] func97 ntmps97 ?_;refine wB 2 Z fun w b1 Z=>?_;refine wL 0 bW Z fun w b2 Z=>?_;refine z2 ?_;refine wQ [0,1,3,4,2,6,5,7,8,9] Z fun Z=>?_
 refine wD 1 aH Z ?_;refine wD 1 ao Z ?_;refine ed rfl oH rfl (oZ (l:=p.l) Z (pW.of sF)) (fun w v7 hv q' hq=>?_) fun w v7 hv=>?_
 ·have Z:=hv;have hq:=bK (l:=[4]) kR hq;simp only[cE,fQ,or_false]at hq;subst hq;exact bG rfl rfl rfl (aD.cw ao Z pK rfl)
 have Z:=hv;refine z1 ?_;refine aO rfl fm rfl (fE (l:=p.data) Z (afK.of sF) hp.sd) kR fun w v10 hv=>?_;have Z:aw G (row 5 1 v10 p.data.length (cI p.data)::_) w:=hv;obtain⟨a7,c7,rfl⟩:=aT (Z.pick (A:=row 198 4 v7 _ _) pK);obtain⟨nD,pR,rfl⟩:=aT (Z.pick (A:=row 5 1 v10 _ _) pK);refine wS 0 (l':=[_,_,_,_,_]) aH Z fun w Z=>?_;refine wS 1 (l':=[_,_,_,_,_]) ao Z fun w Z=>?_;refine wD 5 aH Z ?_;refine z4 ?_;have Z:=aw.bJ (M:=([]:List cP).flatMap cm) Z;have Z:=Z.b [row 198 4 _ _ _,bt _,row 5 1 _ _ _,N b1 _ _,N b2 _ _];refine bx (fun m e w=>∃(k:Nat) (dn:List cP),k<=p.l.length/\m=p.l.length-k/\e=[(1,pQ b1),(2,pQ b2),(14, .slice a7 p.l.length c7),(15,I p.l.length),(16,I k)]/\dn.length=k/\dn.map cP.it=(p.l.take k).map cP.it/\aw G (row 198 4 (.slice a7 p.l.length c7) p.l.length ((dn++p.l.drop k).map cP.cells).flatten::bt (dn.flatMap cm)::row 5 1 (.slice nD p.data.length pR) p.data.length (cI p.data)::N b1 [I p.kind,I p.level, .slice a7 p.l.length c7, .slice nD p.data.length pR,I p.next] 104::N b2 [I 0,I 0,nQ,nQ,I 0] 104::L) w)
  (m:=p.l.length) sB
  ⟨0,[],de _,rfl,rfl,rfl,rfl,Z⟩ ?_
 rintro m e w ⟨k,dn,hk,rfl,rfl,SZ,Uw,Z⟩;refine wI 5 (fun Y=>?_) fun Y=>?_
 ·have gn:k<p.l.length:=H;obtain⟨x,E⟩:∃x,p.l[k]?=some x:=⟨_,dG gn⟩;have lG:=pW.it x (fK E);have xj:=lG.k;have N':=lG.v;have hdr:p.l.drop k=x::p.l.drop (k+1):=by
   rw[Ms gn];congr 1;rw[dG gn]at E;exact Option.some.inj E
  obtain⟨mm,hmm⟩:∃mm,mm=dn++p.l.drop k:=⟨_,rfl⟩;have hmx:mm[k]?=some x:=by rw[hmm,hdr,Xd H,SZ,Tx];rfl
  have G9:mm.length=p.l.length:=by rw[hmm,di,jm];omega
  rw[<-hmm]at Z;obtain⟨CY,b7,cur,rfl,hcc,YM,gC,Z⟩:=fZ Z H;refine wX 6 aV bz ?_;refine bg rfl rfl (aD.xM (cs:=x.cells) bA Z pK (by rw[cZ,mT];exact R2 (xB mm) (by rw[dh,hmx];rfl)) rfl) ?_;refine wL 0 jc Z fun w b4 Z=>?_;refine z1 ?_;refine ue (cs:=x.cells) (l':=x.cells) rfl tV rfl rfl bA rfl (w9 (lG.of sF) Z) Z pK sM rfl rfl fun w Z=>?_;simp only[cP.cells]at Z
  refine aK ?_;refine wQ [0,1,2,3,4,5,6,7,9,10,8,11,12,13,14,15,16,17] Z fun Z=>?_
  refine wD 1 aH Z ?_;refine wD 2 aH Z ?_;refine wD 2 ao Z ?_;refine wD 1 ao Z ?_;refine ed rfl fm rfl (fE (l:=x.it.key) Z (xj.of sF) lG.sk) (fun w v29 hv q' hq=>?_) fun w v29 hv=>?_
  ·have Z:aw G (row 5 1 v29 x.it.key.length (cI x.it.key)::_) w:=hv;have hq:=bK (l:=[10,4,1]) kR hq;simp only[cE,fQ,or_false]at hq;rcases hq with rfl|rfl|rfl
   ·exact bG rfl rfl rfl (aD.cw ao Z pK rfl)
   ·exact bG rfl rfl rfl (aD.cw aH Z pK rfl)
   exact bG rfl rfl rfl (aD.cw aH Z pK rfl)
  have Z:aw G (row 5 1 v29 x.it.key.length (cI x.it.key)::_) w:=hv;refine ed rfl fm rfl (fE (l:=x.it.value) Z (N'.of sF) lG.sv) (fun w v32 hv q' hq=>?_) fun w v32 hv=>?_
  ·have Z:aw G (row 5 1 v32 x.it.value.length (cI x.it.value)::_) w:=hv;have hq:=bK (l:=[4,1]) kR hq;simp only[cE,fQ,or_false]at hq;rcases hq with rfl|rfl
   ·exact bG rfl rfl rfl (aD.cw aH Z pK rfl)
   exact bG rfl rfl rfl (aD.cw aH Z pK rfl)
  have Z:aw G (row 5 1 v32 x.it.value.length (cI x.it.value)::_) w:=hv;obtain⟨a29,c29,rfl⟩:=aT (Z.pick (A:=row 5 1 v29 _ _) pK);obtain⟨a32,c32,rfl⟩:=aT (Z.pick (A:=row 5 1 v32 _ _) pK);obtain⟨x1,hx1⟩:∃x1:cP,x1=⟨x.it, .slice a29 x.it.key.length c29,x.vv⟩:=⟨_,rfl⟩;obtain⟨x2,YF⟩:∃x2:cP,x2=⟨x.it, .slice a29 x.it.key.length c29, .slice a32 x.it.value.length c32⟩:=⟨_,rfl⟩;have hm1:(mm.set k x1)[k]?=some x1:=by rw[List.getElem?_set_self H]
  have ahk:((List.map cP.cells mm).flatten++cur).length=p.l.length*4+cur.length:=by rw[Ox,G9]
  have aaY:((List.map cP.cells (mm.set k x1)).flatten++cur).length=p.l.length*4+cur.length:=by rw[Ox,Hu,G9]
  refine wX 0 aV bz ?_;refine cC rfl gu rfl ?_;refine Fh (l':=((mm.set k x1).map cP.cells).flatten++cur) rfl tV rfl rfl ao rfl Z pK (by rw[ahk];exact aaI gn H _) (by rw[hx1];exact T7 hmx _) (fun w Z q' hq=>?_) (fun w Z=>?_)
  ·have hq:=bK (l:=[4]) kR hq;simp only[cE,fQ,or_false]at hq;subst hq;exact bG rfl rfl rfl (aD.cw aH Z pK rfl)
  refine wX 0 aV bz ?_;refine cC rfl Ci rfl ?_;refine rU (l':=((mm.set k x2).map cP.cells).flatten++cur) rfl tV rfl rfl ao rfl Z pK (by rw[aaY];exact aaI gn H _) (by rw[YF,T6 hm1,List.set_set,hx1]) kR (fun w Z=>?_);refine z5 ?_;have hms:mm.set k x2=(dn++[x2])++p.l.drop (k+1):=by
   rw[hmm,hdr,ack _ _ H,SZ,Tx,List.set_cons_zero,gm];rfl
  rw[hms]at Z;have Z:=lC (z:=4) (m:=p.l.length) (Z.pick (A:=N b7 _ _) pK) (by rw[gy (xB _),cg,<-hms,Hu,G9]) hcc YM (by rw[di,gy (xB _),cg,<-hms,Hu,G9];rw[ahk]at gC;exact gC);have Z:=Z.b [bt _,row 5 1 (.slice a29 _ _) _ _,row 5 1 (.slice a32 _ _) _ _];have Z:=Z.iD.iD;have hdp:(dn++[x2]).flatMap cm=(dn.flatMap cm++[row 5 1 (.slice a29 x.it.key.length c29) x.it.key.length (cI x.it.key)])++[row 5 1 (.slice a32 x.it.value.length c32) x.it.value.length (cI x.it.value)]:=by
   rw[TI,YF];simp[cm]
  rw[<-hdp]at Z;have Z:=(Z.b [N b4 _ _]).tail;refine⟨p.l.length-(k+1),H,[(1,_),(2,_),(14,_),(15,_),(16,I (k+1:Nat))],sB,k+1,dn++[x2],H,rfl,rfl,by simp[SZ],?_,Z.b [row 198 4 _ _ _,bt _,row 5 1 (.slice nD _ _) _ _,N b1 _ _,N b2 _ _]⟩;rw[jX,Uw,rE,E,jX,YF];rfl
 have Fg:k=p.l.length:=H;subst Fg;rw[ZF,kF]at Z;rw[qS]at Uw
 refine z3 ?_;refine bg rfl rfl (aD.dB ay Z pK sM) ?_;refine wN 0 (cs:=[I p.kind,I p.level, .slice a7 p.l.length c7, .slice nD p.data.length pR,I p.next]) (l':=[I p.kind,I p.level, .slice a7 p.l.length c7, .slice nD p.data.length pR,I p.next]) ay (by intro u hu;simp at hu;rcases hu with rfl|rfl|rfl|rfl|rfl<;>rfl) Z (fun w Z=>?_);refine z2 ?_;exact dt rfl rfl ⟨_,rfl,(aD.dB ay Z pK sM)⟩ (by
 refine⟨⟨p.kind,p.level,dn, .slice a7 p.l.length c7, .slice nD p.data.length pR,p.data,p.next⟩,rfl,by simp[dL.pg,Uw],⟨by simp only;omega,fun y hy=>?_,hp.sd⟩,?_⟩
 ·have:y.it∈p.l.map cP.it:=Uw▸List.mem_map_of_mem hy;obtain⟨z,hz,hzy⟩:=dY.1 this;rw[<-hzy];exact⟨(pW.it z hz).sk,(pW.it z hz).sv⟩
 ·have Z:=(Z.b [N b1 _ _,N b2 _ _]).t2;refine aw.bJ (M:=qB _) ?_;simp only[qB,SZ];exact Z.b [row 198 4 _ _ _,bt _,row 5 1 _ _ _])
def Ez{x:cP}(Z:aw G L w)(E:x.Ok L):
  aA prog 171 #[gQ x.cells] w (bU fun r w'=>∃x':cP,r=gQ x'.cells/\x'.it=x.it/\lK x'.cells/\aw G (bt (cm x')::L) w'):=by
 have xj:=E.k;have N':=E.v;have hsk:=E.sk;have G6:=E.sv;simp only[cP.cells];refine wF [_] func171 ntmps171 ?_;refine wB 2 Z fun w b1 Z=>?_;refine wL 0 jc Z fun w b2 Z=>?_;refine z2 ?_;refine wQ [0,1,3,4,6,7,8,9,2,5,10,11] Z fun Z=>?_
 refine wD 1 ao Z ?_;refine wD 1 ao Z ?_;refine wD 1 ag Z ?_;refine wD 1 ag Z ?_;refine ed rfl bX rfl (cy (l:=x.it.key) Z (xj.of sF) hsk) (fun w v5 hv q' hq=>?_) fun w v5 hv=>?_
 ·have Z:aw G (row 5 1 v5 x.it.key.length (cI x.it.key)::_) _:=hv;have hq:=bK (l:=[9,7,4]) kR hq;simp only[cE,fQ,or_false]at hq;rcases hq with rfl|rfl|rfl
  ·exact bG rfl rfl rfl (aD.cw ag Z pK rfl)
  ·exact bG rfl rfl rfl (aD.cw ag Z pK rfl)
  exact bG rfl rfl rfl (aD.cw ao Z pK rfl)
 have Z:aw G (row 5 1 v5 x.it.key.length (cI x.it.key)::_) _:=hv;refine ed rfl bX rfl (cy (l:=x.it.value) Z (N'.of sF) G6) (fun w v8 hv q' hq=>?_) fun w v8 hv=>?_
 ·have Z:aw G (row 5 1 v8 x.it.value.length (cI x.it.value)::_) _:=hv;have hq:=bK (l:=[9,7]) kR hq;simp only[cE,fQ,or_false]at hq;rcases hq with rfl|rfl
  ·exact bG rfl rfl rfl (aD.cw ag Z pK rfl)
  exact bG rfl rfl rfl (aD.cw ag Z pK rfl)
 have Z:aw G (row 5 1 v8 x.it.value.length (cI x.it.value)::_) _:=hv;obtain⟨a5,c5,rfl⟩:=aT (Z.pick (A:=row 5 1 v5 _ _) pK);obtain⟨a8,c8,rfl⟩:=aT (Z.pick (A:=row 5 1 v8 _ _) pK);have Ob:lK [.slice a5 x.it.key.length c5, .slice a8 x.it.value.length c8,I x.it.child,I x.it.size]:=by intro u hu;simp at hu;rcases hu with rfl|rfl|rfl|rfl<;>rfl
 refine wV 0 (v:= .agg #[.slice a5 x.it.key.length c5, .slice a8 x.it.value.length c8,I x.it.child,I x.it.size]) ?_;refine wN 0 (cs:=[.slice a5 x.it.key.length c5, .slice a8 x.it.value.length c8,I x.it.child,I x.it.size]) (l':=[.slice a5 x.it.key.length c5, .slice a8 x.it.value.length c8,I x.it.child,I x.it.size]) bA Ob Z fun w Z=>?_;refine z2 ?_;exact dt rfl rfl ⟨_,rfl,(aD.dB bA Z pK sM)⟩ (by
 refine⟨⟨x.it, .slice a5 x.it.key.length c5, .slice a8 x.it.value.length c8⟩,rfl,rfl,Ob,?_⟩;exact aw.bJ (M:=cm _) ((Z.b [N b1 _ _,N b2 _ _,row 5 1 (.slice a5 _ _) _ _,row 5 1 (.slice a8 _ _) _ _]).t2))
def Da(Z:aw G L w)(ka:Hm L v l):
  aA prog 94 #[v] w (bU fun r w'=>∃l':List cP,l'.map cP.it=l.map cP.it/\aw G (row 198 4 r l.length (l'.map cP.cells).flatten::bt (l'.flatMap cm)::L) w'):=by
 have YI:=ka.len;obtain⟨a,cap,rfl,-,-⟩:=(ka.sl.at Z).form;rw[cg]at ka ⊢;have jr:=ka.sl;refine wF [_] func94 ntmps94 ?_;refine z14 ?_;have Z:=bB (aw.bJ (M:=([]:List cP).flatMap cm) Z) 198 4;refine bx (fun m e w=>∃(k:Nat) (dn:List cP) (u:C),k<=l.length/\m=l.length-k/\e=[(0, .slice a l.length cap),(3,u),(4,I k)]/\dn.length=k/\dn.map cP.it=(l.take k).map cP.it/\aw G (row 198 4 u k (dn.map cP.cells).flatten::bt (dn.flatMap cm)::L) w)
  (m:=l.length) sB
  ⟨0,[],_,de _,rfl,rfl,rfl,rfl,Z⟩ ?_
 rintro m e w ⟨k,dn,u,hk,rfl,rfl,SZ,Uw,Z⟩;refine wI 8 (fun Y=>?_) fun Y=>?_
 ·have gn:k<l.length:=H;obtain⟨x,E⟩:∃x,l[k]?=some x:=⟨_,dG gn⟩;have lG:=ka.it x (fK E);have kA:(l.map cP.cells)[k]?=some x.cells:=by rw[dh,E];rfl
  obtain⟨b,o,rfl⟩:=((jr.of sF).at Z).nn (by rw[cg];omega);refine wX 7 aV bz ?_;refine bg rfl rfl (aD.many bA rfl (by rw[cZ];exact((jr.of sF).at Z).at kA)) ?_;refine aO rfl Dh rfl (Ez (x:=x) Z (lG.of sF)) rfl fun w v16 hv=>?_;obtain⟨x',rfl,G5,Ob,Z⟩:=hv;refine fb (cs:=x'.cells) rfl aV bz fi dM rfl rfl rfl Z rfl fun w b17 Z=>?_;refine eF (m:=k) (k:=1) (news:=x'.cells) rfl aV bz kD fi rfl rfl Z pK (Rd.iq Z pK) rfl Ob mL H rfl fun w NG Z=>?_;refine z7 ?_;have Z:=(Z.b [N b17 _ _,bt (dn.flatMap cm),bt (cm x'),row 198 4 NG _ _]).tail.Sy;have e1:dn.flatMap cm++cm x'=(dn++[x']).flatMap cm:=by simp
  have e2:(dn.map cP.cells).flatten++x'.cells=((dn++[x']).map cP.cells).flatten:=by simp
  rw[e1,e2]at Z;refine⟨l.length-(k+1),H,[(0,_),(3,_),(4,I (k+1:Nat))],sB,k+1,dn++[x'],_,H,rfl,rfl,by simp[SZ],?_,Z.pick (A:=row 198 4 NG _ _) pK⟩;rw[jX,Uw,rE,E,jX];simp[G5]
 refine z7 ?_;exact dt rfl rfl rfl (by
 have Fg:k=l.length:=H;subst Fg;rw[qS]at Uw;exact⟨dn,Uw,Z⟩)
def uE{p:dL}(Z:aw G L w)(hp:p.Ok L):
  aA prog 36 #[gQ p.cells] w (bU fun r w'=>∃p':dL,r=gQ p'.cells/\p'.pg=p.pg/\p'.Sm/\aw G (fg p'::L) w'):=by
 have YI:=hp.its.len;have pW:=hp.its;have afK:=hp.data;simp only[dL.cells];refine wF [_] func36 ntmps36 ?_;refine wB 2 Z fun w b1 Z=>?_;refine wL 0 bW Z fun w b2 Z=>?_;refine z2 ?_;refine wQ [0,1,2,3,4,5,7,8,10,11,6,9,12,13] Z fun Z=>?_
 refine wD 1 ag Z ?_;refine wD 1 ag Z ?_;refine wD 1 aH Z ?_;refine wD 1 ao Z ?_;refine wD 1 ag Z ?_;refine ed rfl B4 rfl (Da (l:=p.l) Z (pW.of sF)) (fun w v9 hv q' hq=>?_) fun w v9 hv=>?_
 ·obtain⟨l',hl',Z⟩:=hv;have hq:=bK (l:=[11,8,3,1]) kR hq;simp only[cE,fQ,or_false]at hq;rcases hq with rfl|rfl|rfl|rfl
  ·exact bG rfl rfl rfl (aD.cw ag Z pK rfl)
  ·exact bG rfl rfl rfl (aD.cw ao Z pK rfl)
  ·exact bG rfl rfl rfl (aD.cw ag Z pK rfl)
  exact bG rfl rfl rfl (aD.cw ag Z pK rfl)
 obtain⟨l',hl',Z⟩:=hv;have sP:l'.length=p.l.length:=by rw[<-cg (f:=cP.it),hl',cg]
 refine ed rfl bX rfl (cy (l:=p.data) Z (afK.of sF) hp.sd) (fun w v12 hv q' hq=>?_) fun w v12 hv=>?_
 ·have Z:aw G (row 5 1 v12 p.data.length (cI p.data)::_) _:=hv;have hq:=bK (l:=[11,3,1]) kR hq;simp only[cE,fQ,or_false]at hq;rcases hq with rfl|rfl|rfl
  ·exact bG rfl rfl rfl (aD.cw ag Z pK rfl)
  ·exact bG rfl rfl rfl (aD.cw ag Z pK rfl)
  exact bG rfl rfl rfl (aD.cw ag Z pK rfl)
 have Z:aw G (row 5 1 v12 p.data.length (cI p.data)::_) _:=hv;obtain⟨a9,c9,rfl⟩:=aT (Z.pick (A:=row 198 4 v9 _ _) pK);obtain⟨a12,c12,rfl⟩:=aT (Z.pick (A:=row 5 1 v12 _ _) pK);refine wV 0 (v:= .agg #[I p.kind,I p.level, .slice a9 p.l.length c9, .slice a12 p.data.length c12,I p.next]) ?_;refine wN 0 (cs:=[I p.kind,I p.level, .slice a9 p.l.length c9, .slice a12 p.data.length c12,I p.next]) (l':=[I p.kind,I p.level, .slice a9 p.l.length c9, .slice a12 p.data.length c12,I p.next]) ay (by intro u hu;simp at hu;rcases hu with rfl|rfl|rfl|rfl|rfl<;>rfl) Z (fun w Z=>?_);refine z2 ?_;exact dt rfl rfl ⟨_,rfl,(aD.dB ay Z pK sM)⟩ (by
 refine⟨⟨p.kind,p.level,l', .slice a9 p.l.length c9, .slice a12 p.data.length c12,p.data,p.next⟩,rfl,by simp[dL.pg,hl'],⟨by simp only;omega,fun y hy=>?_,hp.sd⟩,?_⟩
 ·have:y.it∈p.l.map cP.it:=hl'▸List.mem_map_of_mem hy;obtain⟨z,hz,hzy⟩:=dY.1 this;rw[<-hzy];exact⟨(pW.it z hz).sk,(pW.it z hz).sv⟩
 ·have Z:=(Z.b [N b1 _ _,N b2 _ _]).t2;refine aw.bJ (M:=qB _) ?_;simp only[qB,sP];exact Z.b [row 198 4 _ _ _,bt _,row 5 1 _ _ _])
def K9{l:bZ}(Z:aw G L w)(ka:aL L (eB v l))(sP:dP l):
  aA prog 162 #[v] w (bU fun r w'=>aw G (row 5 1 r l.length (cI l)::L) w'):=by
 unfold dP at sP;obtain⟨a,cap,rfl⟩:=(ka.at Z).form;refine wF [_] func162 ntmps162 ?_;refine z8 ?_;refine DH rfl aR rfl ?_;refine aK ?_;refine fJ rfl (fun Y=>?_) fun Y=>?_
 ·refine z5 ?_;exact dt rfl rfl rfl (by
 rcases ka.at Z with⟨-,rfl⟩|⟨b,o,cap,h,-⟩
 ·exact bB Z _ _
 ·cases h;cases Y)
 obtain⟨x,rfl⟩:∃x,a=some x:=by cases a with|none=>cases Y|some x=>exact⟨x,rfl⟩
 refine z3 ?_;refine IY rfl aR bo Z rfl fun w b5 Z=>?_;have Z:=jx (z:=1) (m:=0) Z rfl mL;have sA:Rd w x (cI l):=by
  rcases(ka.cons (row 5 1 (sQ b5 0 0) 0 [])).at Z with⟨-,rfl⟩|⟨b,o,cap,h,-,hR⟩
  ·exact Rd.nil
  cases h;exact hR
 refine z1 ?_;refine eF (m:=0) (k:=l.length) (news:=cI l) rfl aR bo fF eU rfl rfl Z pK sA (by rw[dH];omega) (k6 _) mL H rfl (fun w v7 Z=>?_);refine dk 3 ?_;exact by rw[mT,lE]at Z;exact Z
def adC(l:bZ):(⟨l.toArray⟩:ByteArray).size=l.length:=rfl
def aga(l:bZ)(i:Nat):(⟨l.toArray⟩:ByteArray)[i]! =l.getD i 0:=by
 by_cases h:i<l.length
 ·rw[getElem!_pos _ i (show i<(⟨l.toArray⟩:ByteArray).size from h)]
  show l.toArray[i]=_
  simp[h]
 rw[getElem!_neg _ i (show¬i<(⟨l.toArray⟩:ByteArray).size from h)];simp[yi (Nat.le_of_not_lt h)];rfl
def abm:∀(a b:bZ),Extern.BytealgCompare.cmp ⟨a.toArray⟩ ⟨b.toArray⟩=fy a b:=by
 intro a b;unfold Extern.BytealgCompare.cmp;simp only[adC,aga]
 induction a generalizing b with
 |nil=>cases b<;>simp[fy]
 |cons x a ih=>
  cases b with
  |nil=>simp[fy]
  |cons y b=>
   have ih:=ih b;simp only[kZ];rw[show min (a.length+1) (b.length+1)=min a.length b.length+1 by omega,List.range_succ_eq_map,List.find?_cons]
   by_cases hxy:x=y
   ·subst hxy;have e1:fy (x::a) (x::b)=fy a b:=by simp[fy]
    rw[e1,<-ih];simp only[List.getD_cons_zero,bne_self_eq_false,List.find?_map,Function.comp_def,List.getD_cons_succ,Nat.succ_eq_add_one]
    generalize (List.range (min a.length b.length)).find? (fun i=>a.getD i 0!=b.getD i 0)=r
    cases r with
    |none=>simp
    |some i=>simp
   have oS:((x::a).getD 0 0!=(y::b).getD 0 0)=true:=by simpa using hxy
   simp only[oS,fy];simp only[List.getD_cons_zero];have hn:x.toNat≠y.toNat:=fun h=>hxy (UInt8.toNat_inj.1 h)
   by_cases fR:x<y
   ·rw[aB fR,aB (UInt8.lt_iff_toNat_lt.1 fR)]
   have aix:¬x.toNat<y.toNat:=fun h=>fR (UInt8.lt_iff_toNat_lt.2 h)
   rw[aj fR,aj aix,aB H]
def uP{P:au}{w:ae}:∀(l:bZ) (b o:Nat) (acc:ByteArray),Rd w ⟨b,o,none⟩ (cI l)->(Extern.Bytes.loadBytes ⟨b,o,none⟩ l.length acc).run P w= .ok ⟨acc.data++l.toArray⟩ w
 |[],b,o,acc,_=>by simp[Extern.Bytes.loadBytes]
 |u::l,b,o,acc,h=>by
  have h0:w.cell? ⟨b,o,none⟩=some (bv u):=by have:=h 0 (bv u) rfl;rwa [eK]at this
  have Y:Rd w ⟨b,o+1,none⟩ (cI l):=by have:=h.drop 1;simpa [cI]using this
  have hl:(Go.load ⟨b,o,none⟩).run P w= .ok (bv u) w:=by simp[Go.load,Sem.run,h0]
  simp only[kZ,Extern.Bytes.loadBytes,al,hl,ah,bv];rw[eK,uP l b (o+1) _ Y];simp[ByteArray.push]
def GV{l:bZ}(h:eB v l w):(Extern.Bytes.bytesOf v).run P w= .ok ⟨l.toArray⟩ w:=by
 rcases h with⟨⟨a,rfl⟩,rfl⟩|⟨b,o,cap,rfl,-,h⟩
 ·cases a with
  |none=>rfl
  |some a=>rfl
 simp only[Extern.Bytes.bytesOf];rw[uP l _ _ _ h]
 congr 1
 show(⟨(#[]:Array UInt8)++l.toArray⟩:ByteArray)=_
 rw[TG]
section
variable{done r:List Nat}{p:String}
def sn{l l1 l2:List Nat}(hl:l=l1++l2)(q:Prop)[Decidable q](M:ae->Prop)(hf:Ki (HS O l1) e=true)(Y:XL P n O dr done l1 (fun e' w'=>M w'/\get e' d=some (.bool (decide q))) e w)(J:∀w,M w->XL P n O dr (l1.reverse++done) l2 K ((d, .bool (decide q))::e) w):XL P n O dr done l K e w:=by
 subst hl;intro a ha;have h:=Y a ha;have key:∀(a':Act) (w':ae),(∃e',dZ n e' a'/\M w'/\get e' d=some (.bool (decide q)))->Kp (HS O l1) a a'->dZ n ((d, .bool (decide q))::e) a'/\M w':=fun a' w' ⟨e',FU,Z,hg⟩ hk=>by
  refine⟨⟨by rw[mi (zB hg),hk.defers];exact ha.defers,hk.size.trans ha.size,ha.small,fun t v hv=>?_⟩,Z⟩;rcases mz hv with⟨rfl,rfl⟩|⟨_,hv⟩
  ·exact FU.get _ _ hg
  rw[hk.same t (xp hf hv)];exact ha.get t v hv
 have hS:∀i∈l1,∀o,O[i]?=some o->∀t,o.dst=some t->(HS O l1).contains t=true:=fun i hi o ho=>Es hi ho
 cases dr
 ·exact U4 l1 l2 a w (Bw (fun a' w' E=>by obtain⟨h3,h4⟩:=key a' w' E.1 E.2;exact J w' h4 a' h3) _ _ _ (Qd _ _ _ hS h))
 exact U5 l1 l2 done a w (uK (fun a' w' E=>by obtain⟨h3,h4⟩:=key a' w' E.1 E.2;exact J w' h4 a' h3) _ _ _ _ (E7 _ _ _ _ hS h))
def agF{la lb:bZ}(ho:O[i]?=some ⟨some d, .call ⟨.value (.func f),#[x,y],ts⟩,t,p,af,g⟩)(Y:(P.funcs[f]?).map (fun fn=>fn.body.isNone)=some true)(J:(P.funcs[f]?).bind (fun fn=>Extern.find fn)=some Extern.BytealgCompare.compare)(h3:(P.funcs[f]?).map (fun fn=>(Extern.findNext fn).isNone)=some true)(h4:(P.funcs[f]?).map (fun fn=>(fn.name== "runtime.NumGoroutine"))=some false)(E:ev e x=some va)(hy:ev e y=some vb)(ha:eB va la w)(hb:eB vb lb w)(hpd:gZ P O dr done i=[])(h:XL P n O dr (i::done) r K ((d,I (fy la lb))::e) w)(hd:Nat.blt d n=true:=by exact rfl)(hg:Gd O e g:=by exact gD):XL P n O dr done (i::r) K e w:=by
 refine jG ho (by simpa [dA]using hd) hg (ρ:=rh e) (by
  intro q hZ;simp[Op.operands,Call.operands]at hZ;rcases hZ with rfl|hZ
  ·rfl
  ·exact Hz E hy hZ) rfl (v:=I (fy la lb)) (w':=w) ?_ (gM hpd) h
 cases hf:P.funcs[f]?with
 |none=>simp[hf]at Y
 |some fn=>
  have FV:fn.body.isNone=true:=by simpa [hf]using Y
  have S6:Extern.find fn=some Extern.BytealgCompare.compare:=by simpa [hf]using J
  have h3':Extern.findNext fn=none:=by simpa [hf]using h3
  have h4':(fn.name== "runtime.NumGoroutine")=false:=by simpa [hf]using h4
  have hr:(Extern.BytealgCompare.compare #[va,vb]).run P w= .ok (I (fy la lb)) w:=by
   have e1:Extern.BytealgCompare.compare #[va,vb]=(do let a<-Extern.Bytes.bytesOf va;let b<-Extern.Bytes.bytesOf vb;pure (goInt (Extern.BytealgCompare.cmp a b))):=rfl;rw[e1];simp only[al,GV ha,GV hb,ah,aG,abm,goInt]
  simp only[execOp,resolve,show rh e (.func f)= .func (.func f) #[] #[] from rfl,Deferred.ofValue,invoke,callFunc,al,aG,ah,program,Sem.run,hf,FV,S6,h3',h4'];simp[bM E,bM hy,hr,al,mark,Sem.run]
end
def j0{l l':bZ}(Z:aw G L w)(ka:aL L (eB v l))(kb:aL L (eB v' l')):
  aA prog 176 #[v,v'] w (bU fun r w'=>r=I (fy l l')/\aw G L w'):=by
 refine wF [_,_] func176 ntmps176 ?_;refine z8 ?_;refine agF rfl kR kR kR kR rfl rfl (ka.at Z) (kb.at Z) rfl ?_;refine dk 3 ?_;exact⟨rfl,Z⟩
end
end Go.Proofs.YtjbkgbilbnccnaaGreatDoor.X
