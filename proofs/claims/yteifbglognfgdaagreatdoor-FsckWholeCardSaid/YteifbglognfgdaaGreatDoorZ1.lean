/- The ground and the walks of this claim, part 1: XRegion XCode XMem XPure XLd XRange XMore XMap XBase XBytes XPage. -/
import Derived.Deep.Quiet
import Derived.Tactics
import Derived.OrdersIn
import Derived.RangeFuncRecord
import Derived.Scope
import Derived.WalkKit
import Derived.Test.YteifbglognfgdaaGreatDoorRows
import Derived.Laws.IdiomCopy
import Derived.Lib.AppendZeros
import Derived.Laws.StructEq
import Derived.ChangeKeysEq
import Derived.OpenShut
import Derived.ReadAgain
import Derived.HandedShaped
import Derived.Test.YteifbglognfgdaaGreatDoorTie
import Derived.Test.YteifbglognfgdaaGreatDoorCards
import Derived.ProofKit
import Derived.LaidMore
import Derived.SevenTiedAt
namespace Go.Proofs.YteifbglognfgdaaGreatDoor.X
set_option linter.unusedVariables false
set_option linter.unusedSimpArgs false
set_option maxRecDepth 20000
set_option maxHeartbeats 8000000
def Ret (R : Value → World → Prop) : Ending → World → Prop := fun e w => ∃ v, e = .returned v ∧ R v w
def okind (P : Program) : Op → Nat
 | .move _ | .assign _ | .pick .. | .fieldAddr .. | .field .. | .unOp .. | .extract .. | .nilCheck _ | .slice .. | .indexAddr .. | .index ..
 | .makeInterface .. | .makeFunc .. | .build .. | .typeAssert .. => 0
 | .binOp op t x y _ =>
  if op matches .eql | .neq then
   match P.underlying t with
   | some (.pointer _) | some (.interface _) => if Region.isConst x || Region.isConst y then 0 else 1
   | _ => 0
  else 0
 | .convert s d _ => match P.underlying s, P.underlying d with | some (.int _), some (.int _) => 0 | some (.string), some (.string) => 0 | _, _ => 2
 | .load .. | .lookup .. | .entry _ | .waits _ => 1
 | .call { callee := .builtin b, argTypes, .. } => match b with
  | .len | .cap => match (argTypes[0]?).bind P.underlying with | some (.map ..) | some (.chan ..) => 1 | _ => 0
  | .min | .max | .complex | .real | .imag => 0
  | _ => 2
 | _ => 2
def Fw (ro : Option Nat) : Fence := { Fence.wide with round := ro }
theorem room_fw (ro : Option Nat) (m : Nat) : (Fw ro).room m := fun d hd => by cases hd
def Round1 (P : Program) (l : Nat) (f : FuncId) (tmps : Array Value) (assign body : Code) (w : World) (R : Ending → World → Prop) : Prop := RoundIn (Fw none) 0 P l f tmps assign body w R
theorem Round1.fw {P : Program} {l : Nat} {f : FuncId} {tmps : Array Value} {assign body : Code} {w : World} {R : Ending → World → Prop} (h : Round1 P l f tmps assign body w R) (ro : Option Nat) (n : Nat) : RoundIn (Fw ro) n P l f tmps assign body w R :=
 ⟨trivial, fun c cs _ => h.2 c cs (room_fw _ _)⟩
theorem Calls.fw {P : Program} {f : FuncId} {args : Array Value} {w : World} {R : Ending → World → Prop} (h : Calls P f args w R) (ro : Option Nat) (n : Nat) : CallsIn (Fw ro) n P f args w R :=
 ⟨trivial, fun cs _ => (callsIn_wide (n := 0).2 h).2 cs (room_fw none _)⟩
theorem Round1.ex {P : Program} {l : Nat} {f : FuncId} {tmps : Array Value} {assign body : Code} {w : World} {V : Value → World → Prop} (h : Round1 P l f tmps assign body w (Ret V)) : ∃ v w', V v w' := by
 obtain ⟨e, w', ⟨v, _, hv⟩, _⟩ := h.2 default [] (room_fw none _); exact ⟨_, _, hv⟩
section
variable {P : Program} {ops : Array Oper} {md : Region.Mode}
def runS (P : Program) (s : Sem Next) (k : Nat) (w : World) (V : Value → World → Prop) : Prop :=
 match k with
 | 0 => ∃ v, (∀ w', s.run P w' = .ok (.value v) w') ∧ V v w
 | 1 => ∃ v, s.run P w = .ok (.value v) w ∧ V v w
 | _ => match s.run P w with
  | .ok (.value v) w' => V v w'
  | .ok .skip w' => V undef w'
  | .ok (.enter f args) w' => Calls P f args w' (Ret V)
  | .ok (.round l f tmps assign body) w' => Round1 P l f tmps assign body w' (Ret V)
  | _ => False
theorem runS_mono {s : Sem Next} {k : Nat} {w : World} {V V' : Value → World → Prop} (h : ∀ v w', V v w' → V' v w') (hh : runS P s k w V) : runS P s k w V' := by
 unfold runS at *
 match k with
 | 0 => obtain ⟨v, h1, h2⟩ := hh; exact ⟨v, h1, h _ _ h2⟩
 | 1 => obtain ⟨v, h1, h2⟩ := hh; exact ⟨v, h1, h _ _ h2⟩
 | k + 2 =>
  simp only at hh ⊢
  generalize s.run P w = r at *
  cases r with
  | ok n w' =>
   cases n <;> simp only at hh ⊢
   case value v => exact h _ _ hh
   case skip => exact h _ _ hh
   case enter f args => exact hh.mono fun e w'' ⟨v, he, hv⟩ => ⟨v, he, h _ _ hv⟩
   case round => exact RoundIn.mono hh fun e w'' ⟨v, he, hv⟩ => ⟨v, he, h _ _ hv⟩
  | halt x w' => exact hh.elim
theorem runS_ex {s : Sem Next} {k : Nat} {w : World} {V : Value → World → Prop} (hh : runS P s k w V) : ∃ v w', V v w' := by
 unfold runS at hh
 match k with
 | 0 => obtain ⟨v, _, h2⟩ := hh; exact ⟨_, _, h2⟩
 | 1 => obtain ⟨v, _, h2⟩ := hh; exact ⟨_, _, h2⟩
 | k + 2 =>
  simp only at hh
  generalize s.run P w = r at *
  cases r with
  | ok n w' =>
   cases n <;> simp only at hh
   case value v => exact ⟨_, _, hh⟩
   case skip => exact ⟨_, _, hh⟩
   case enter f args => obtain ⟨e, w'', fr, ⟨v, _, hv⟩, _⟩ := hh []; exact ⟨_, _, hv⟩
   case round => exact hh.ex
  | halt x w' => exact hh.elim
def SOp (P : Program) (ops : Array Oper) (o : Oper) (K : Act → World → Prop) (a : Act) (w : World) : Prop :=
 if Region.wanted o (yielded ops a.tmps) then runS P (execOp a.eval o) (okind P o.op) w (fun v w' => K (a.put o.dst v) w') else K (a.put o.dst undef) w
theorem SOp_mono {o : Oper} {K K' : Act → World → Prop} {a : Act} {w : World} (h : ∀ v w', K (a.put o.dst v) w' → K' (a.put o.dst v) w') (hh : SOp P ops o K a w) : SOp P ops o K' a w := by
 unfold SOp at *
 split
 ·rename_i hw; rw [if_pos hw] at hh; exact runS_mono (fun v w' => h v w') hh
 rename_i hw; rw [if_neg hw] at hh; exact h _ _ hh
theorem SOp_ex {o : Oper} {K : Act → World → Prop} {a : Act} {w : World} (hh : SOp P ops o K a w) : ∃ v w', K (a.put o.dst v) w' := by
 unfold SOp at hh
 split at hh
 ·exact runS_ex hh
 exact ⟨_, _, hh⟩
def deps (md : Region.Mode) (ops : Array Oper) (i : Nat) : List Nat :=
 (List.range ops.size).foldl (fun s j => if s.contains j then s else match ops[j]? with
  | some o => if o.after.any (fun e => Region.binds md e && s.contains e.on) then j :: s else s
  | none => s) [i]
structure Closed (md : Region.Mode) (ops : Array Oper) (listed : Array Bool) : Prop where
 size : listed.size = ops.size
 preds : ∀ j o, ops[j]? = some o → listed.getD j false = true → ∀ e ∈ o.after, Region.binds md e = true → listed.getD e.on false = true
theorem deps_inv (i : Nat) : ∀ j ∈ deps md ops i, j = i ∨ ∃ o, ops[j]? = some o ∧ ∃ e ∈ o.after, Region.binds md e = true ∧ e.on ∈ deps md ops i ∧
  ∀ listed, Closed md ops listed → listed.getD i false = false → listed.getD e.on false = false := by
 unfold deps
 suffices h : ∀ (l : List Nat) (s : List Nat),
   (∀ j ∈ s, j = i ∨ ∃ o, ops[j]? = some o ∧ ∃ e ∈ o.after, Region.binds md e = true ∧ e.on ∈ s ∧ ∀ listed, Closed md ops listed → listed.getD i false = false → listed.getD e.on false = false) →
   (∀ j ∈ (l.foldl (fun s j => if s.contains j then s else match ops[j]? with
    | some o => if o.after.any (fun e => Region.binds md e && s.contains e.on) then j :: s else s
    | none => s) s), j = i ∨ ∃ o, ops[j]? = some o ∧ ∃ e ∈ o.after, Region.binds md e = true ∧ e.on ∈ (l.foldl (fun s j => if s.contains j then s else match ops[j]? with
    | some o => if o.after.any (fun e => Region.binds md e && s.contains e.on) then j :: s else s
    | none => s) s) ∧ ∀ listed, Closed md ops listed → listed.getD i false = false → listed.getD e.on false = false) from
  h _ [i] (by simp)
 intro l
 induction l with
 | nil => intro s hs; exact hs
 | cons k l ih =>
  intro s hs
  simp only [List.foldl_cons]
  refine ih _ ?_
  split
  ·exact hs
  split
  ·rename_i o ho
   split
   ·rename_i hany
    obtain ⟨e, he, hb⟩ := Array.any_eq_true'.1 hany
    simp only [Bool.and_eq_true, List.contains_iff_mem] at hb
    intro j hj
    rcases List.mem_cons.1 hj with rfl | hj
    ·refine .inr ⟨o, ho, e, he, hb.1, List.mem_cons_of_mem _ hb.2, fun listed hc hi => ?_⟩
     rcases hs _ hb.2 with h1 | ⟨o', ho', e', he', hb', _, hall⟩
     ·rw [h1]; exact hi
     cases hl : listed.getD e.on false with
     | false => rfl
     | true => have := hc.preds _ _ ho' hl e' he' hb'; rw [hall listed hc hi] at this; cases this
    rcases hs j hj with h1 | ⟨o', ho', e', he', hb', hm, hall⟩
    ·exact .inl h1
    exact .inr ⟨o', ho', e', he', hb', List.mem_cons_of_mem _ hm, hall⟩
   exact hs
  exact hs
theorem deps_unlisted {i j : Nat} {listed : Array Bool} (hc : Closed md ops listed) (hi : listed.getD i false = false) (hj : j ∈ deps md ops i) : listed.getD j false = false := by
 rcases deps_inv i j hj with h | ⟨o, ho, e, he, hb, _, hall⟩
 ·rw [h]; exact hi
 cases hl : listed.getD j false with
 | false => rfl
 | true => have := hc.preds _ _ ho hl e he hb; rw [hall listed hc hi] at this; cases this
theorem deps_not_ready {i j : Nat} {listed : Array Bool} (hc : Closed md ops listed) (hi : listed.getD i false = false) (hj : j ∈ deps md ops i) (hne : j ≠ i) : j ∉ Region.ready md ops listed := by
 intro hr
 obtain ⟨_, o, ho, hall⟩ := mem_ready.1 hr
 rcases deps_inv i j hj with h | ⟨o', ho', e, he, hb, _, hun⟩
 ·exact hne h
 have : o' = o := Option.some.inj (ho'.symm.trans ho)
 subst this
 have h1 := hall e he hb
 rw [hun listed hc hi] at h1; cases h1
theorem unl {listed : Array Bool} {i : Nat} (h : listed.getD i true = false) : listed.getD i false = false := by
 rcases Nat.lt_or_ge i listed.size with h' | h'
 ·simp [h'] at h ⊢; exact h
 simp [Array.getElem?_eq_none h'] at h
theorem Closed.set {listed : Array Bool} {i : Nat} (hc : Closed md ops listed) (hi : i ∈ Region.ready md ops listed) : Closed md ops (listed.setIfInBounds i true) := by
 obtain ⟨_, oi, hoi, hall⟩ := mem_ready.1 hi
 refine ⟨by simp [hc.size], fun j oj hj hl e he hb => ?_⟩
 by_cases hij : i = j
 ·subst hij
  have : oj = oi := Option.some.inj (hj.symm.trans hoi)
  subst this
  exact getD_set_true (hall e he hb)
 rw [getD_set_ne false hij] at hl
 exact getD_set_true (hc.preds j oj hj hl e he hb)
def comm (k1 k2 : Nat) : Bool := k1 == 0 || k2 == 0 || k1 == 1
def pb (P : Program) (md : Region.Mode) (ops : Array Oper) (q i : Nat) : Bool :=
 match ops[q]?, ops[i]? with
 | some oq, some oi => Nat.ble 2 (okind P oi.op) && okind P oq.op == 1 && !(deps md ops q).contains i
 | _, _ => false
def Chk (P : Program) (ops : Array Oper) (o : Oper) (a : Act) (w : World) : Prop :=
 Region.wanted o (yielded ops a.tmps) = true → ∃ v, (execOp a.eval o).run P w = .ok (.value v) w ∧ ∀ d, o.dst = some d → a.tmps.getD d undef = v
def Rechk (P : Program) (md : Region.Mode) (ops : Array Oper) (done : List Nat) (i : Nat) (a : Act) (w : World) : Prop :=
 ∀ q ∈ done, pb P md ops q i = true → ∀ o, ops[q]? = some o → Chk P ops o a w
def SOpR (P : Program) (md : Region.Mode) (ops : Array Oper) (done : List Nat) (i : Nat) (o : Oper) (K : Act → World → Prop) (a : Act) (w : World) : Prop :=
 if Region.wanted o (yielded ops a.tmps) then
  runS P (execOp a.eval o) (okind P o.op) w (fun v w' => Rechk P md ops done i (a.put o.dst v) w' ∧ K (a.put o.dst v) w')
 else K (a.put o.dst undef) w
theorem SOpR_SOp {done : List Nat} {i : Nat} {o : Oper} {K : Act → World → Prop} {a : Act} {w : World} (h : SOpR P md ops done i o K a w) : SOp P ops o K a w := by
 unfold SOpR at h; unfold SOp
 split
 ·rename_i hw; rw [if_pos hw] at h; exact runS_mono (fun v w' h => h.2) h
 rename_i hw; rw [if_neg hw] at h; exact h
theorem SOpR_mono {done : List Nat} {i : Nat} {o : Oper} {K K' : Act → World → Prop} {a : Act} {w : World} (h : ∀ v w', K (a.put o.dst v) w' → K' (a.put o.dst v) w') (hh : SOpR P md ops done i o K a w) :
  SOpR P md ops done i o K' a w := by
 unfold SOpR at *
 split
 ·rename_i hw; rw [if_pos hw] at hh; exact runS_mono (fun v w' hk => ⟨hk.1, h v w' hk.2⟩) hh
 rename_i hw; rw [if_neg hw] at hh; exact h _ _ hh
theorem Chk_put {oq oi : Oper} (hs : ∀ cs b, oq.op ≠ .select cs b) (hcl : ∀ d, oi.dst = some d → d ∉ oq.looksAt ops ∧ oq.dst ≠ some d) {a : Act} {w : World} {v : Value} :
  Chk P ops oq (a.put oi.dst v) w ↔ Chk P ops oq a w := by
 unfold Chk
 rw [wanted_put oq a oi.dst v fun d hd => (hcl d hd).1, execOp_put oq hs a oi.dst v fun d hd => (hcl d hd).1]
 have e : ∀ d, oq.dst = some d → (a.put oi.dst v).tmps.getD d undef = a.tmps.getD d undef := fun d hd => by
  cases hi : oi.dst with
  | none => rfl
  | some c =>
   have hne : c ≠ d := fun hcd => (hcl c hi).2 (by rw [hd, hcd])
   simp [Act.put, Array.getElem?_setIfInBounds_ne hne]
 constructor <;> intro h hw <;> obtain ⟨u, h1, h2⟩ := h hw <;> refine ⟨u, h1, fun d hd => ?_⟩
 ·rw [← e d hd]; exact h2 d hd
 rw [e d hd]; exact h2 d hd
theorem pb_spec {q i : Nat} {oq oi : Oper} (hq : ops[q]? = some oq) (hi : ops[i]? = some oi) (h : pb P md ops q i = true) : 2 ≤ okind P oi.op ∧ okind P oq.op = 1 ∧ i ∉ deps md ops q := by
 unfold pb at h; rw [hq, hi] at h
 simpa [and_assoc] using h
theorem SOpR_swap {done : List Nat} {i j : Nat} {oi oj : Oper} (hi : ops[i]? = some oi) (hj : ops[j]? = some oj)
  (hap : oi.apart ops oj = true) (hsel : ∀ (j : Nat) (o : Oper) cs b, ops[j]? = some o → o.op ≠ .select cs b)
  (hc : comm (okind P oi.op) (okind P oj.op) = true) (hnd : j ∉ deps md ops i) (hself : okind P oi.op = 1 → ∀ d, oi.dst = some d → d ∉ oi.looksAt ops) {n : Nat} (hdi : ∀ d, oi.dst = some d → d < n) {K : Act → World → Prop} {a : Act} {w : World} (hsz : a.tmps.size = n)
  (hci : ∀ q ∈ done, ∀ oq, ops[q]? = some oq → okind P oq.op = 1 → ∀ d, oi.dst = some d → d ∉ oq.looksAt ops ∧ oq.dst ≠ some d)
  (hcj : ∀ q ∈ done, ∀ oq, ops[q]? = some oq → okind P oq.op = 1 → ∀ d, oj.dst = some d → d ∉ oq.looksAt ops ∧ oq.dst ≠ some d)
  (h : SOpR P md ops done i oi (SOpR P md ops (i :: done) j oj K) a w) : SOpR P md ops done j oj (SOpR P md ops (j :: done) i oi K) a w := by
 have hsi : ∀ cs b, oi.op ≠ .select cs b := fun cs b => hsel i oi cs b hi
 have hsj : ∀ cs b, oj.op ≠ .select cs b := fun cs b => hsel j oj cs b hj
 obtain ⟨h1, h2, h3⟩ := Oper.apart_spec hap
 have wj : ∀ v, Region.wanted oj (yielded ops (a.put oi.dst v).tmps) = Region.wanted oj (yielded ops a.tmps) := fun v => wanted_put oj a oi.dst v h1
 have ej : ∀ v, execOp (a.put oi.dst v).eval oj = execOp a.eval oj := fun v => execOp_put oj hsj a oi.dst v h1
 have wi : ∀ u, Region.wanted oi (yielded ops (a.put oj.dst u).tmps) = Region.wanted oi (yielded ops a.tmps) := fun v => wanted_put oi a oj.dst v h3
 have ei : ∀ u, execOp (a.put oj.dst u).eval oi = execOp a.eval oi := fun v => execOp_put oi hsi a oj.dst v h3
 have pc : ∀ v u, (a.put oi.dst v).put oj.dst u = (a.put oj.dst u).put oi.dst v := fun v u => Act.put_comm a v u h2
 have chI : ∀ q ∈ done, ∀ oq, ops[q]? = some oq → okind P oq.op = 1 → ∀ (b : Act) v w', Chk P ops oq (b.put oi.dst v) w' ↔ Chk P ops oq b w' := fun q hq oq hoq hk b v w' =>
  Chk_put (hsel q oq · · hoq) (hci q hq oq hoq hk)
 have chJ : ∀ q ∈ done, ∀ oq, ops[q]? = some oq → okind P oq.op = 1 → ∀ (b : Act) v w', Chk P ops oq (b.put oj.dst v) w' ↔ Chk P ops oq b w' := fun q hq oq hoq hk b v w' =>
  Chk_put (hsel q oq · · hoq) (hcj q hq oq hoq hk)
 have reJ : ∀ v u w', Rechk P md ops (i :: done) j ((a.put oi.dst v).put oj.dst u) w' → Rechk P md ops done j (a.put oj.dst u) w' := fun v u w' hr q hq hp oq hoq => by
  obtain ⟨_, hk, _⟩ := pb_spec hoq hj hp
  have := hr q (List.mem_cons_of_mem _ hq) hp oq hoq
  rw [pc] at this
  exact (chI q hq oq hoq hk _ v w').1 this
 have reI : ∀ v u w', Rechk P md ops done i (a.put oi.dst v) w' → Rechk P md ops (j :: done) i ((a.put oj.dst u).put oi.dst v) w' := fun v u w' hr q hq hp oq hoq => by
  obtain ⟨hk2, hk, _⟩ := pb_spec hoq hi hp
  rcases List.mem_cons.1 hq with rfl | hq
  ·have : oq = oj := Option.some.inj (hoq.symm.trans hj)
   subst this
   simp [comm, hk] at hc; omega
  rw [← pc]; exact (chJ q hq oq hoq hk _ u w').2 (hr q hq hp oq hoq)
 by_cases hwi : Region.wanted oi (yielded ops a.tmps) = true
 case neg =>
  unfold SOpR at h; rw [if_neg hwi, wj] at h
  unfold SOpR
  by_cases hwj : Region.wanted oj (yielded ops a.tmps) = true
  ·rw [if_pos hwj, ej] at h; rw [if_pos hwj]
   refine runS_mono (fun u w' ⟨hr, hK⟩ => ⟨reJ undef u w' hr, ?_⟩) h
   rw [wi, if_neg hwi, ← pc]; exact hK
  rw [if_neg hwj] at h; rw [if_neg hwj, wi, if_neg hwi, ← pc]; exact h
 by_cases hwj : Region.wanted oj (yielded ops a.tmps) = true
 case neg =>
  unfold SOpR at h; rw [if_pos hwi] at h
  unfold SOpR; rw [if_neg hwj, wi, if_pos hwi, ei]
  refine runS_mono (fun v w' ⟨hr, hK⟩ => ⟨reI v undef w' hr, ?_⟩) h
  rw [wj, if_neg hwj, pc] at hK; exact hK
 by_cases ki : okind P oi.op = 0
 ·unfold SOpR at h; rw [if_pos hwi, ki] at h
  obtain ⟨v, hv, hr0, hK⟩ := h
  rw [wj, if_pos hwj, ej] at hK
  unfold SOpR; rw [if_pos hwj]
  refine runS_mono (fun u w' ⟨hr, hK'⟩ => ⟨reJ v u w' hr, ?_⟩) hK
  rw [wi, if_pos hwi, ei, ki]
  refine ⟨v, hv, fun q hq hp oq hoq => ?_, by rw [← pc]; exact hK'⟩
  obtain ⟨hk2, _⟩ := pb_spec hoq hi hp; omega
 by_cases kj : okind P oj.op = 0
 ·unfold SOpR at h; rw [if_pos hwi] at h
  obtain ⟨v0, w0, _, h0⟩ := runS_ex h
  rw [wj, if_pos hwj, ej, kj] at h0
  obtain ⟨u, hu, _⟩ := h0
  unfold SOpR; rw [if_pos hwj, kj]
  refine ⟨u, hu, fun q hq hp oq hoq => ?_, ?_⟩
  ·obtain ⟨hk2, _⟩ := pb_spec hoq hj hp; omega
  rw [wi, if_pos hwi, ei]
  refine runS_mono (fun v w' ⟨hr, hK⟩ => ⟨reI v u w' hr, ?_⟩) h
  rw [wj, if_pos hwj, ej, kj] at hK
  obtain ⟨u', hu', _, hK⟩ := hK
  have : u' = u := by have := (hu' w').symm.trans (hu w'); simpa using this
  subst this
  rw [← pc]; exact hK
 have hk : okind P oi.op = 1 := by simpa [comm, ki, kj] using hc
 unfold SOpR at h; rw [if_pos hwi, hk] at h
 obtain ⟨v, hv, _, h⟩ := h
 rw [wj, if_pos hwj, ej] at h
 unfold SOpR; rw [if_pos hwj]
 by_cases kj1 : okind P oj.op = 1
 ·rw [kj1] at h ⊢
  obtain ⟨u, hu, hr, hK⟩ := h
  refine ⟨u, hu, reJ v u w hr, ?_⟩
  rw [wi, if_pos hwi, ei, hk]
  refine ⟨v, hv, fun q hq hp oq hoq => ?_, by rw [← pc]; exact hK⟩
  obtain ⟨hk2, _⟩ := pb_spec hoq hi hp; omega
 refine runS_mono (fun u w' ⟨hr, hK⟩ => ⟨reJ v u w' hr, ?_⟩) h
 rw [wi, if_pos hwi, ei, hk]
 have hp : pb P md ops i j = true := by unfold pb; simp only [hi, hj]; simp [hk, hnd]; omega
 have hch := hr i (List.mem_cons_self ..) hp oi hi
 have hwi' : Region.wanted oi (yielded ops ((a.put oi.dst v).put oj.dst u).tmps) = true := by rw [pc, wanted_put oi _ oi.dst v (hself hk), wi]; exact hwi
 obtain ⟨v', h4, h5⟩ := hch hwi'
 rw [pc, execOp_put oi hsi _ oi.dst v (hself hk), ei] at h4
 refine ⟨v', h4, fun q hq hp oq hoq => ?_, ?_⟩
 ·obtain ⟨hk2, _⟩ := pb_spec hoq hi hp; omega
 rw [pc] at hK
 cases hd : oi.dst with
 | none => rw [hd] at hK; exact hK
 | some d =>
  have e1 := h5 d hd
  have e2 : ((a.put oi.dst v).put oj.dst u).tmps.getD d undef = v := by
   rw [pc, hd]
   have hs2 : (a.put oj.dst u).tmps.size = n := by cases oj.dst <;> simp [Act.put, hsz]
   have hlt := hdi d hd
   generalize a.put oj.dst u = b at hs2
   simp [Act.put, hs2, hlt]
  rw [e2] at e1; subst e1
  rw [hd] at hK; exact hK
def SAny (P : Program) (md : Region.Mode) (ops : Array Oper) (Q : Act → World → Prop) : Nat → Array Bool → List Nat → Act → World → Prop
 | 0, listed, _, a, w => Region.ready md ops listed = [] ∧ Q a w
 | fuel + 1, listed, done, a, w =>
  (Region.ready md ops listed = [] → Q a w) ∧ ∀ i ∈ Region.ready md ops listed, ∀ o, ops[i]? = some o → SOpR P md ops done i o (SAny P md ops Q fuel (listed.setIfInBounds i true) (i :: done)) a w
theorem not_defer {o : Oper} {ρ : Operand → Value} {w : World} {V : Value → World → Prop} (h : runS P (execOp ρ o) (okind P o.op) w V) : ∀ c, o.op ≠ .defer c := by
 intro c hc
 have hk : okind P o.op = 2 := by rw [hc]; rfl
 rw [hk] at h
 unfold runS at h
 unfold execOp at h
 rw [hc] at h
 simp only [Sem.run_bind] at h
 generalize (resolve ρ c o.type).run P w = r at h
 cases r with
 | ok d w' => simp [Result.andThen] at h
 | halt x w' => simp [Result.andThen] at h
theorem wpOp_of_SOp {ro : Option Nat} {i : Nat} {o : Oper} (ho : ops[i]? = some o) {a : Act} {w : World} {K K' : Act → World → Prop} {Q' : Exit → Act → World → Prop} (h : ∀ a w', K a w' → K' a w') (hh : SOp P ops o K a w) : wpOpIn (Fw ro) 0 P ops Q' i K' a w := by
 unfold wpOpIn
 simp only [ho]
 unfold SOp at hh
 split
 ·rename_i hw
  rw [if_pos hw] at hh
  refine ⟨fun _ _ => trivial, ?_⟩
  rw [Oper.semAt_eq _ _ _ (not_defer hh)]
  unfold runS at hh
  split at hh
  ·obtain ⟨v, hv, hK⟩ := hh; rw [hv w]; exact h _ _ hK
  ·obtain ⟨v, hv, hK⟩ := hh; rw [hv]; exact h _ _ hK
  generalize (execOp a.eval o).run P w = r at *
  cases r with
  | ok n w' =>
   cases n <;> simp only [Oper.uponIn] at hh ⊢
   case value v => exact h _ _ hh
   case skip => exact h _ _ hh
   case enter f args => exact ⟨(fun hd => by cases hd), Calls.fw (Calls.mono hh fun e w'' ⟨v, he, hv⟩ => by subst he; exact h _ _ hv) _ _⟩
   case round => exact ⟨(fun hd => by cases hd), Round1.fw (RoundIn.mono hh fun e w'' ⟨v, he, hv⟩ => by subst he; exact h _ _ hv) _ _⟩
  | halt x w' => exact hh.elim
 rename_i hw; rw [if_neg hw] at hh; exact ⟨fun _ _ => trivial, h _ _ hh⟩
theorem wpAny_of_SAny {ro : Option Nat} {Q : Act → World → Prop} {Q' : Exit → Act → World → Prop} (hQ : ∀ a w, Q a w → Q' .normal a w) : ∀ (fuel : Nat) (listed : Array Bool) (done : List Nat) (a : Act) (w : World),
  SAny P md ops Q fuel listed done a w → wpAnyIn (Fw ro) 0 P md ops Q' fuel listed a w
 | 0, _, _, _, _, h => ⟨h.1, hQ _ _ h.2⟩
 | fuel + 1, _, _, _, _, h => ⟨fun h0 => hQ _ _ (h.1 h0), fun i hi => by
   obtain ⟨_, o, ho, _⟩ := mem_ready.1 hi
   exact wpOp_of_SOp ho (fun a' w' => wpAny_of_SAny hQ fuel _ _ a' w') (SOpR_SOp (h.2 i hi o ho))⟩
structure CleanR (P : Program) (md : Region.Mode) (ops : Array Oper) (n : Nat) : Prop where
 sel : ∀ (j : Nat) (o : Oper) cs b, ops[j]? = some o → o.op ≠ .select cs b
 dst : ∀ (j : Nat) (o : Oper), ops[j]? = some o → ∀ d, o.dst = some d → d < n
 reads : ∀ (q : Nat) (oq : Oper), ops[q]? = some oq → okind P oq.op = 1 → ∀ (i : Nat) (oi : Oper), ops[i]? = some oi → (∀ d, oi.dst = some d → d ∉ oq.looksAt ops ∧ (i = q ∨ oq.dst ≠ some d)) ∨ (i ≠ q ∧ q ∈ deps md ops i)
theorem put_size {a : Act} {n : Nat} (h : a.tmps.size = n) (d : Option Tmp) (v : Value) : (a.put d v).tmps.size = n := by cases d <;> simp [Act.put, h]
theorem SOpR_done {d1 d2 : List Nat} (h : ∀ q ∈ d2, q ∈ d1) {i : Nat} {o : Oper} {K : Act → World → Prop} {a : Act} {w : World} (hh : SOpR P md ops d1 i o K a w) : SOpR P md ops d2 i o K a w := by
 unfold SOpR at *
 split
 ·rename_i hw; rw [if_pos hw] at hh; exact runS_mono (fun v w' hk => ⟨fun q hq => hk.1 q (h q hq), hk.2⟩) hh
 rename_i hw; rw [if_neg hw] at hh; exact hh
theorem SAny_done {Q : Act → World → Prop} : ∀ (fuel : Nat) (listed : Array Bool) (d1 d2 : List Nat) (a : Act) (w : World), (∀ q ∈ d2, q ∈ d1) → SAny P md ops Q fuel listed d1 a w → SAny P md ops Q fuel listed d2 a w
 | 0, _, _, _, _, _, _, h => h
 | fuel + 1, listed, d1, d2, a, w, hs, h => ⟨h.1, fun i hi o ho => SOpR_done hs (SOpR_mono (fun v w' h' => SAny_done fuel _ (i :: d1) (i :: d2) _ _ (fun q hq => by
   rcases List.mem_cons.1 hq with rfl | hq
   ·exact List.mem_cons_self ..
   ·exact List.mem_cons_of_mem _ (hs q hq)) h') (h.2 i hi o ho))⟩
theorem SAny_first {n : Nat} (hcl : CleanR P md ops n) {Q : Act → World → Prop} {i : Nat} {oi : Oper} (hi : ops[i]? = some oi) :
  ∀ (fuel : Nat) (listed : Array Bool) (done : List Nat) (a : Act) (w : World), a.tmps.size = n → Closed md ops listed → (∀ q ∈ done, listed.getD q false = true) →
   (∀ j oj, ops[j]? = some oj → j ≠ i → listed.getD j true = false → j ∉ deps md ops i → oi.apart ops oj = true ∧ comm (okind P oi.op) (okind P oj.op) = true) →
   i ∈ Region.ready md ops listed → SOpR P md ops done i oi (SAny P md ops Q fuel (listed.setIfInBounds i true) (i :: done)) a w → SAny P md ops Q (fuel + 1) listed done a w := by
 have clean : ∀ (listed : Array Bool) (done : List Nat), Closed md ops listed → (∀ q ∈ done, listed.getD q false = true) → ∀ i oi, ops[i]? = some oi → listed.getD i true = false →
   ∀ q ∈ done, ∀ oq, ops[q]? = some oq → okind P oq.op = 1 → ∀ d, oi.dst = some d → d ∉ oq.looksAt ops ∧ oq.dst ≠ some d := by
  intro listed done hc hd i oi hi hun q hq oq hoq hk d hdi
  have hqi : i ≠ q := fun e => by subst e; have := hd _ hq; rw [unl hun] at this; cases this
  rcases hcl.reads q oq hoq hk i oi hi with h | ⟨_, h⟩
  ·exact ⟨(h d hdi).1, (h d hdi).2.resolve_left hqi⟩
  have := deps_unlisted hc (unl hun) h; rw [hd _ hq] at this; cases this
 intro fuel
 induction fuel with
 | zero =>
  intro listed done a w hsz hc hd _ hr H
  refine ⟨fun h => (by rw [h] at hr; cases hr), fun j hj oj hoj => ?_⟩
  by_cases hji : j = i
  ·subst hji
   have : oj = oi := Option.some.inj (hoj.symm.trans hi)
   subst this; exact H
  have := ready_mono hj hji
  obtain ⟨_, _, h0⟩ := SOp_ex (SOpR_SOp H)
  rw [h0.1] at this
  cases this
 | succ fuel ih =>
  intro listed done a w hsz hc hd hfree hr H
  refine ⟨fun h => (by rw [h] at hr; cases hr), fun j hj oj hoj => ?_⟩
  by_cases hji : j = i
  ·subst hji
   have : oj = oi := Option.some.inj (hoj.symm.trans hi)
   subst this; exact H
  obtain ⟨hjun, _⟩ := mem_ready.1 hj
  obtain ⟨hiun, _⟩ := mem_ready.1 hr
  have hnd : j ∉ deps md ops i := fun h => deps_not_ready hc (unl hiun) h hji hj
  obtain ⟨hap, hcm⟩ := hfree j oj hoj hji hjun hnd
  have hH : SOpR P md ops done i oi (SOpR P md ops (i :: done) j oj (SAny P md ops Q fuel ((listed.setIfInBounds i true).setIfInBounds j true) (j :: i :: done))) a w :=
   SOpR_mono (fun v w' h => h.2 j (ready_mono hj hji) oj hoj) H
  have hself : okind P oi.op = 1 → ∀ d, oi.dst = some d → d ∉ oi.looksAt ops := fun hk d hd' => by
   rcases hcl.reads i oi hi hk i oi hi with h | ⟨h, _⟩
   ·exact (h d hd').1
   exact absurd rfl h
  have hS := SOpR_swap hi hoj hap hcl.sel hcm hnd hself (hcl.dst i oi hi) hsz (clean listed done hc hd i oi hi hiun) (clean listed done hc hd j oj hoj hjun) hH
  have hfree' : ∀ k ok, ops[k]? = some ok → k ≠ i → (listed.setIfInBounds j true).getD k true = false → k ∉ deps md ops i →
    oi.apart ops ok = true ∧ comm (okind P oi.op) (okind P ok.op) = true := fun k ok hk hki hun hno => by
   refine hfree k ok hk hki ?_ hno
   by_cases hjk : j = k
   ·subst hjk; exact hjun
   rw [getD_set_ne true hjk] at hun; exact hun
  have hd' : ∀ q ∈ j :: done, (listed.setIfInBounds j true).getD q false = true := fun q hq => by
   rcases List.mem_cons.1 hq with rfl | hq
   ·have hlt : q < listed.size := by rw [hc.size]; exact (Array.getElem?_eq_some_iff.1 hoj).1
    simp [hlt]
   exact getD_set_true (hd q hq)
  refine SOpR_mono (fun u w' h => ?_) hS
  refine ih (listed.setIfInBounds j true) (j :: done) _ w' (put_size hsz _ _) (hc.set hj) hd' hfree' (ready_mono hr (Ne.symm hji)) ?_
  rw [Array.setIfInBounds_comm _ _ hji]
  refine SOpR_mono (fun v w'' h => ?_) h
  exact SAny_done fuel _ (j :: i :: done) (i :: j :: done) _ _ (fun q hq => by simp at hq ⊢; rcases hq with h | h | h <;> simp [h]) h
def SL (P : Program) (ops : Array Oper) (Q : Act → World → Prop) : List Nat → List Nat → Act → World → Prop
 | _, [] => Q
 | done, i :: r => fun a w => match ops[i]? with
  | none => False
  | some o => SOpR P .any ops done i o (SL P ops Q (i :: done) r) a w
def freeP (P : Program) (ops : Array Oper) (listed : Array Bool) (i : Nat) : Bool :=
 (List.range ops.size).all fun j => j == i || listed.getD j true || (deps .any ops i).contains j ||
  (match ops[i]?, ops[j]? with
   | some oi, some oj => oi.apart ops oj && comm (okind P oi.op) (okind P oj.op)
   | _, _ => false)
def lexP (P : Program) (ops : Array Oper) : List Nat → Array Bool → Bool
 | [], listed => (Region.ready .any ops listed).isEmpty
 | i :: r, listed => (Region.ready .any ops listed).contains i && freeP P ops listed i && lexP P ops r (listed.setIfInBounds i true)
def dstB (n : Nat) (ops : Array Oper) : Bool := ops.all fun o => match o.dst with | some d => Nat.blt d n | none => true
def readsB (P : Program) (ops : Array Oper) : Bool :=
 (List.range ops.size).all fun q => match ops[q]? with
  | some oq => !(okind P oq.op == 1) || (List.range ops.size).all fun i => match ops[i]? with
   | some oi => (match oi.dst with
    | some d => (!(oq.looksAt ops).contains d && (i == q || !(oq.dst == some d))) || (!(i == q) && (deps .any ops i).contains q)
    | none => true)
   | none => true
  | none => true
def regB (P : Program) (ops : Array Oper) (n : Nat) (perm : List Nat) : Bool :=
 Region.noSelect ops && dstB n ops && readsB P ops && perm.length == ops.size && lexP P ops perm (Array.replicate ops.size false)
theorem clean_of {n : Nat} (h1 : Region.noSelect ops = true) (h2 : dstB n ops = true) (h3 : readsB P ops = true) : CleanR P .any ops n where
 sel := Region.noSelect_spec h1
 dst := fun j o ho d hd => by
  have := Array.all_eq_true_iff_forall_mem.1 h2 o (Array.mem_of_getElem? ho)
  rw [hd] at this; simpa using this
 reads := fun q oq hq hk i oi hi => by
  have hql : q < ops.size := (Array.getElem?_eq_some_iff.1 hq).1
  have hil : i < ops.size := (Array.getElem?_eq_some_iff.1 hi).1
  have a1 := List.all_eq_true.1 h3 q (List.mem_range.2 hql)
  simp only [hq, hk, beq_self_eq_true, Bool.not_true, Bool.false_or] at a1
  have a2 := List.all_eq_true.1 a1 i (List.mem_range.2 hil)
  simp only [hi] at a2
  cases hd : oi.dst with
  | none => exact .inl fun d h => by cases h
  | some d =>
   simp only [hd, Bool.or_eq_true, Bool.and_eq_true, Bool.not_eq_true', beq_iff_eq, List.contains_iff_mem, beq_eq_false_iff_ne] at a2
   rcases a2 with ⟨h4, h5⟩ | ⟨h4, h5⟩
   ·refine .inl fun d' hd' => ?_
    cases hd'
    refine ⟨fun hm => ?_, h5⟩
    have : (oq.looksAt ops).contains d = true := List.contains_iff_mem.2 hm
    rw [this] at h4; cases h4
   exact .inr ⟨h4, h5⟩
theorem SAny_lex {n : Nat} (hcl : CleanR P .any ops n) {Q : Act → World → Prop} : ∀ (perm : List Nat) (listed : Array Bool) (done : List Nat) (a : Act) (w : World), a.tmps.size = n → Closed .any ops listed →
  (∀ q ∈ done, listed.getD q false = true) → lexP P ops perm listed = true → SL P ops Q done perm a w → SAny P .any ops Q perm.length listed done a w
 | [], _, _, _, _, _, _, _, hB, h => ⟨by simpa [lexP] using hB, h⟩
 | i :: r, listed, done, a, w, hsz, hc, hd, hB, h => by
  simp only [lexP, Bool.and_eq_true] at hB
  obtain ⟨⟨hr, hf⟩, hB'⟩ := hB
  have hr' : i ∈ Region.ready .any ops listed := by simpa using hr
  obtain ⟨_, oi, hoi, _⟩ := mem_ready.1 hr'
  simp only [SL, hoi] at h
  refine SAny_first hcl hoi r.length listed done a w hsz hc hd (fun j oj hj hji hun hnd => ?_) hr' ?_
  ·have hlt : j < ops.size := (Array.getElem?_eq_some_iff.1 hj).1
   have h1 := List.all_eq_true.1 hf j (List.mem_range.2 hlt)
   have hb : (j == i) = false := by simpa using hji
   have hb2 : (deps .any ops i).contains j = false := by
    cases hx : (deps .any ops i).contains j with
    | false => rfl
    | true => exact absurd (List.contains_iff_mem.1 hx) hnd
   simp only [hb, hun, hb2, Bool.false_or, hoi, hj, Bool.and_eq_true] at h1
   exact h1
  refine SOpR_mono (fun v w' h' => SAny_lex hcl r _ _ _ _ (put_size hsz _ _) (hc.set hr') (fun q hq => ?_) hB' h') h
  rcases List.mem_cons.1 hq with rfl | hq
  ·have hlt : q < listed.size := by rw [hc.size]; exact (Array.getElem?_eq_some_iff.1 hoi).1
   simp [hlt]
  exact getD_set_true (hd q hq)
theorem wp_region_text {ro : Option Nat} {n : Nat} (perm : List Nat) {id : Nat} {Q : Exit → Act → World → Prop} {a : Act} {w : World} (hm : P.follows .mixedOrders = true) (hB : regB P ops n perm = true) (hsz : a.tmps.size = n)
  (h : SL P ops (Q .normal) [] perm a { w with drawn := w.drawn + 1 }) : (Code.region id ops true).wpIn (Fw ro) 0 P Q a w := by
 simp only [regB, Bool.and_eq_true, beq_iff_eq] at hB
 obtain ⟨⟨⟨⟨h1, h2⟩, h3⟩, h4⟩, h5⟩ := hB
 refine wpIn_region_any hm (wpAny_of_SAny (Q := Q .normal) (fun _ _ h => h) _ _ [] _ _ ?_)
 rw [← h4] at h5 ⊢
 refine SAny_lex (clean_of h1 h2 h3) perm _ [] a _ hsz ⟨by simp [h4], fun j o ho hl => ?_⟩ (fun q hq => by cases hq) h5 h
 exfalso
 rcases Nat.lt_or_ge j perm.length with h' | h'
 ·simp [h'] at hl
 simp [Array.getElem?_eq_none (show (Array.replicate perm.length false).size ≤ j by simpa using h')] at hl
def SN (P : Program) (ops : Array Oper) (Q : Act → World → Prop) : List Nat → Act → World → Prop
 | [] => Q
 | i :: r => fun a w => match ops[i]? with
  | none => False
  | some o => SOp P ops o (SN P ops Q r) a w
theorem wpOps_of_SN {ro : Option Nat} {Q : Exit → Act → World → Prop} : ∀ (l : List Nat) (a : Act) (w : World), SN P ops (Q .normal) l a w → wpOpsIn (Fw ro) 0 P ops Q l a w
 | [], _, _, h => h
 | i :: r, a, w, h => by
  rw [wpOpsIn_cons]
  simp only [SN] at h
  cases ho : ops[i]? with
  | none => rw [ho] at h; exact h.elim
  | some o =>
   rw [ho] at h
   exact wpOp_of_SOp ho (fun a' w' h' => wpOps_of_SN r a' w' h') h
theorem wp_region_plain {ro : Option Nat} {id : Nat} {Q : Exit → Act → World → Prop} {a : Act} {w : World} (h : SN P ops (Q .normal) (List.range ops.size) a w) : (Code.region id ops false).wpIn (Fw ro) 0 P Q a w :=
 wpIn_region (wpOps_of_SN _ a w h)
end
abbrev Env := List (Nat × Value)
def get : Env → Nat → Option Value
 | [], _ => none
 | (k, v) :: r, t => cond (Nat.beq k t && !Nat.beq t 1000000000) (some v) (get r t)
def marks : Env → List Value
 | [] => []
 | (k, v) :: r => cond (Nat.beq k 1000000000) (v :: marks r) (marks r)
def dfr : Value → Deferred
 | .pointer (some a) => { target := .collected a.block, args := #[] }
 | .func fn first captured => { target := .fn fn captured, args := first }
 | _ => { target := .nil, args := #[] }
theorem beq_no {k t : Nat} (h : k ≠ t) : Nat.beq k t = false := by cases hb : Nat.beq k t with | false => rfl | true => exact absurd (Nat.eq_of_beq_eq_true hb) h
theorem get_mk {e : Env} {v : Value} {t : Nat} (h : get e t = some v) : t ≠ 1000000000 := by
 induction e with
 | nil => cases h
 | cons x r ih =>
  obtain ⟨k, u⟩ := x
  rintro rfl
  simp only [get, Nat.beq_refl, Bool.not_true, Bool.and_false, cond] at h
  exact ih h rfl
theorem get_cons {e : Env} {k t : Nat} {u v : Value} (h : get ((k, u) :: e) t = some v) : (k = t ∧ u = v) ∨ (k ≠ t ∧ get e t = some v) := by
 have ht := get_mk h
 simp only [get, beq_no ht, Bool.not_false, Bool.and_true] at h
 by_cases hk : k = t
 ·subst hk; simp at h; exact .inl ⟨rfl, h⟩
 rw [beq_no hk] at h; exact .inr ⟨hk, h⟩
theorem marks_cons {e : Env} {k : Nat} {v : Value} (h : k ≠ 1000000000) : marks ((k, v) :: e) = marks e := by simp only [marks, beq_no h, cond]
def ev (e : Env) : Operand → Option Value
 | .tmp t => get e t
 | .const v => some v
 | .global g => some (.pointer (some ⟨g, 0, none⟩))
 | .func f => some (.func (.func f) #[] #[])
def putE (e : Env) : Option Tmp → Value → Env
 | some d, v => (d, v) :: e
 | none, _ => e
structure Agree (n : Nat) (e : Env) (a : Act) : Prop where
 defers : a.defers = (marks e).map dfr
 size : a.tmps.size = n
 small : n ≤ 1000000
 get : ∀ t v, get e t = some v → a.tmps.getD t undef = v
def SubG (e' e : Env) : Prop := ∀ t v, get e' t = some v → get e t = some v
theorem SubG.nil (e : Env) : SubG [] e := fun _ _ h => by cases h
theorem SubG.mark {e' e : Env} {v : Value} (h : SubG e' e) : SubG ((1000000000, v) :: e') e := fun t u hu => by
 rcases get_cons hu with ⟨h1, _⟩ | ⟨_, h2⟩
 ·exact absurd h1.symm (get_mk hu)
 exact h t u h2
theorem SubG.cons {e' e : Env} {k : Nat} {v : Value} (h : X.get e k = some v) (h' : SubG e' e) : SubG ((k, v) :: e') e := fun t u hu => by
 rcases get_cons hu with ⟨rfl, rfl⟩ | ⟨_, h2⟩
 ·exact h
 exact h' t u h2
structure Sub (e' e : Env) : Prop where
 get : SubG e' e
 marks : marks e' = marks e
theorem Sub.refl (e : Env) : Sub e e := ⟨fun _ _ h => h, rfl⟩
theorem Sub.trans {a b c : Env} (h : Sub a b) (h' : Sub b c) : Sub a c := ⟨fun t v x => h'.get t v (h.get t v x), h.marks.trans h'.marks⟩
theorem Sub.cons {e' e : Env} {k : Nat} {v : Value} (h : X.get e k = some v) (h' : Sub e' e) : Sub ((k, v) :: e') e := ⟨SubG.cons h h'.get, (marks_cons (get_mk h)).trans h'.marks⟩
theorem Agree.sub {n : Nat} {e e' : Env} {a : Act} (h : Agree n e a) (hs : Sub e' e) : Agree n e' a := ⟨by rw [hs.marks]; exact h.defers, h.size, h.small, fun t v hv => h.get t v (hs.get t v hv)⟩
theorem Agree.put {n : Nat} {e : Env} {a : Act} (h : Agree n e a) {d : Nat} (hd : d < n) (v : Value) : Agree n ((d, v) :: e) (a.put (some d) v) := by
 have hs := h.small
 refine ⟨by rw [marks_cons (by omega)]; exact h.defers, by simp [Act.put, h.size], hs, fun t u hu => ?_⟩
 rcases get_cons hu with ⟨rfl, rfl⟩ | ⟨hk, hu⟩
 ·simp [Act.put, h.size, hd]
 have := h.get t u hu
 simp only [Act.put, Array.getD_eq_getD_getElem?, Array.getElem?_setIfInBounds_ne hk]
 simpa using this
theorem Agree.ev {n : Nat} {e : Env} {a : Act} (h : Agree n e a) {x : Operand} {v : Value} (hx : X.ev e x = some v) : a.eval x = v := by
 cases x with
 | tmp t => exact h.get t v hx
 | _ => simp [X.ev] at hx; simp [Act.eval, hx]
def dstOk (n : Nat) (o : Oper) : Bool := (match o.dst with | some d => Nat.blt d n | none => true) && (match o.op with | .select .. => false | _ => true)
theorem dstOk_sel {n : Nat} {o : Oper} (h : dstOk n o = true) : ∀ cs b, o.op ≠ .select cs b := by
 intro cs b he; unfold dstOk at h; rw [he] at h; simp at h
theorem Agree.putE {n : Nat} {e : Env} {a : Act} (h : Agree n e a) {o : Oper} (ho : dstOk n o = true) (v : Value) : Agree n (X.putE e o.dst v) (a.put o.dst v) := by
 unfold dstOk at ho
 cases hd : o.dst with
 | none => exact h
 | some d => rw [hd] at ho; simp only [Bool.and_eq_true] at ho; exact h.put (by simpa using ho.1) v
def XL (P : Program) (n : Nat) (ops : Array Oper) (dr : Bool) (done l : List Nat) (K : Env → World → Prop) (e : Env) (w : World) : Prop :=
 ∀ a, Agree n e a → cond dr (SL P ops (fun a' w' => ∃ e', Agree n e' a' ∧ K e' w') done l a w) (SN P ops (fun a' w' => ∃ e', Agree n e' a' ∧ K e' w') l a w)
def Gd (ops : Array Oper) (e : Env) : Option (Nat × Bool) → Prop
 | none => True
 | some (j, want) => ∃ d, (ops[j]?).bind (·.dst) = some d ∧ get e d = some (.bool want)
def pend (P : Program) (ops : Array Oper) (dr : Bool) (done : List Nat) (i : Nat) : List Nat := cond dr (done.filter fun q => pb P .any ops q i) []
def ChkE (P : Program) (n : Nat) (ops : Array Oper) (q : Nat) (e : Env) (w : World) : Prop := ∀ o, ops[q]? = some o → ∀ a, Agree n e a → Chk P ops o a w
section
variable {P : Program} {n : Nat} {ops : Array Oper} {dr : Bool} {done r : List Nat} {K : Env → World → Prop} {e : Env} {w : World} {o : Oper}
theorem xl_nil (h : K e w) : XL P n ops dr done [] K e w := fun a ha => by cases dr <;> exact ⟨e, ha, h⟩
theorem SN_mono {Q Q' : Act → World → Prop} (h : ∀ a w, Q a w → Q' a w) : ∀ (l : List Nat) (a : Act) (w : World), SN P ops Q l a w → SN P ops Q' l a w
 | [], a, w, hh => h a w hh
 | i :: l, a, w, hh => by
  simp only [SN] at hh ⊢
  split
  ·rename_i ho; rw [ho] at hh; exact hh
  rename_i o ho; rw [ho] at hh; exact SOp_mono (fun v w' => SN_mono h l _ w') hh
theorem SL_mono {Q Q' : Act → World → Prop} (h : ∀ a w, Q a w → Q' a w) : ∀ (l done : List Nat) (a : Act) (w : World), SL P ops Q done l a w → SL P ops Q' done l a w
 | [], _, a, w, hh => h a w hh
 | i :: l, done, a, w, hh => by
  simp only [SL] at hh ⊢
  split
  ·rename_i ho; rw [ho] at hh; exact hh
  rename_i o ho; rw [ho] at hh; exact SOpR_mono (fun v w' => SL_mono h l _ _ w') hh
theorem xl_weaken {e' : Env} (hs : Sub e' e) (h : XL P n ops dr done r K e' w) : XL P n ops dr done r K e w := fun a ha => h a (ha.sub hs)
theorem yielded_of {a : Act} (ha : Agree n e a) {j d : Nat} (hj : (ops[j]?).bind (·.dst) = some d) {b : Bool} (hd : get e d = some (.bool b)) : yielded ops a.tmps j = some b := by
 have h1 := ha.get d _ hd
 unfold yielded
 rw [hj]
 have h2 : a.tmps[d]? = some (.bool b) := by
  cases h3 : a.tmps[d]? with
  | none => simp [Array.getD_eq_getD_getElem?, h3, undef] at h1
  | some v => simp [Array.getD_eq_getD_getElem?, h3] at h1; rw [h1]
 simp [h2]
theorem yielded_not {a : Act} (ha : Agree n e a) {j d : Nat} (hj : (ops[j]?).bind (·.dst) = some d) (hd : get e d = some undef) : yielded ops a.tmps j = none := by
 have h1 := ha.get d _ hd
 unfold yielded
 rw [hj]
 cases h3 : a.tmps[d]? with
 | none => simp [h3]
 | some v => simp [Array.getD_eq_getD_getElem?, h3] at h1; simp [h3, h1, undef]
theorem wanted_of {a : Act} (ha : Agree n e a) (hg : Gd ops e o.guard) : Region.wanted o (yielded ops a.tmps) = true := by
 unfold Region.wanted
 cases hgd : o.guard with
 | none => rfl
 | some jw =>
  obtain ⟨j, want⟩ := jw
  rw [hgd] at hg
  obtain ⟨d, h1, h2⟩ := hg
  simp [yielded_of ha h1 h2]
theorem xl_step {i : Nat} (ho : ops[i]? = some o) (hd : dstOk n o = true) (hg : Gd ops e o.guard) {ρ : Operand → Value} (hρ : ∀ x ∈ o.op.operands, ev e x = some (ρ x))
  (h : runS P (execOp ρ o) (okind P o.op) w fun v w' => (∀ q ∈ pend P ops dr done i, ChkE P n ops q (putE e o.dst v) w') ∧ XL P n ops dr (i :: done) r K (putE e o.dst v) w') :
  XL P n ops dr done (i :: r) K e w := by
 intro a ha
 have he : execOp a.eval o = execOp ρ o := execOp_congr o (dstOk_sel hd) fun x hx => ha.ev (hρ x hx)
 cases dr
 ·simp only [SN, ho, cond]
  unfold SOp
  rw [if_pos (wanted_of ha hg), he]
  exact runS_mono (fun v w' h' => h'.2 _ (ha.putE hd v)) h
 simp only [SL, ho, cond]
 unfold SOpR
 rw [if_pos (wanted_of ha hg), he]
 refine runS_mono (fun v w' h' => ⟨fun q hq hb oq hoq => h'.1 q (List.mem_filter.2 ⟨hq, hb⟩) oq hoq _ (ha.putE hd v), h'.2 _ (ha.putE hd v)⟩) h
theorem xl_pure {i : Nat} (ho : ops[i]? = some o) (hd : dstOk n o = true) (hg : Gd ops e o.guard) {ρ : Operand → Value} (hρ : ∀ x ∈ o.op.operands, ev e x = some (ρ x)) (hk : okind P o.op = 0) {v : Value}
  (hv : ∀ w', (execOp ρ o).run P w' = .ok (.value v) w') (h : XL P n ops dr (i :: done) r K (putE e o.dst v) w) : XL P n ops dr done (i :: r) K e w := by
 refine xl_step ho hd hg hρ ?_
 rw [hk]
 refine ⟨v, hv, fun q hq => ?_, h⟩
 cases dr
 ·cases hq
 obtain ⟨_, hb⟩ := List.mem_filter.1 hq
 unfold pb at hb
 rw [ho] at hb
 split at hb
 ·rename_i oq oi h1 h2; cases h2; simp [hk] at hb
 cases hb
theorem xl_read {i : Nat} (ho : ops[i]? = some o) (hd : dstOk n o = true) (hg : Gd ops e o.guard) {ρ : Operand → Value} (hρ : ∀ x ∈ o.op.operands, ev e x = some (ρ x)) (hk : okind P o.op = 1) {v : Value}
  (hv : (execOp ρ o).run P w = .ok (.value v) w) (h : XL P n ops dr (i :: done) r K (putE e o.dst v) w) : XL P n ops dr done (i :: r) K e w := by
 refine xl_step ho hd hg hρ ?_
 rw [hk]
 refine ⟨v, hv, fun q hq => ?_, h⟩
 cases dr
 ·cases hq
 obtain ⟨_, hb⟩ := List.mem_filter.1 hq
 unfold pb at hb
 rw [ho] at hb
 split at hb
 ·rename_i oq oi h1 h2; cases h2; simp [hk] at hb
 cases hb
theorem xl_eff {i : Nat} (ho : ops[i]? = some o) (hd : dstOk n o = true) (hg : Gd ops e o.guard) {ρ : Operand → Value} (hρ : ∀ x ∈ o.op.operands, ev e x = some (ρ x)) (hk : okind P o.op = 2) {v : Value} {w' : World}
  (hv : (execOp ρ o).run P w = .ok (.value v) w') (hp : ∀ q ∈ pend P ops dr done i, ChkE P n ops q (putE e o.dst v) w') (h : XL P n ops dr (i :: done) r K (putE e o.dst v) w') : XL P n ops dr done (i :: r) K e w := by
 refine xl_step ho hd hg hρ ?_
 rw [hk]
 show match (execOp ρ o).run P w with | _ => _
 unfold runS
 rw [hv]
 exact ⟨hp, h⟩
theorem xl_effu {i : Nat} (ho : ops[i]? = some o) (hd : dstOk n o = true) (hg : Gd ops e o.guard) {ρ : Operand → Value} (hρ : ∀ x ∈ o.op.operands, ev e x = some (ρ x)) (hk : okind P o.op = 2) {w' : World}
  (hv : (execOp ρ o).run P w = .ok .skip w') (hp : ∀ q ∈ pend P ops dr done i, ChkE P n ops q (putE e o.dst undef) w') (h : XL P n ops dr (i :: done) r K (putE e o.dst undef) w') : XL P n ops dr done (i :: r) K e w := by
 refine xl_step ho hd hg hρ ?_
 rw [hk]
 unfold runS
 rw [hv]
 exact ⟨hp, h⟩
theorem xl_call {i : Nat} (ho : ops[i]? = some o) (hd : dstOk n o = true) (hg : Gd ops e o.guard) {ρ : Operand → Value} (hρ : ∀ x ∈ o.op.operands, ev e x = some (ρ x)) (hk : okind P o.op = 2) {f : FuncId} {args : Array Value}
  (hv : (execOp ρ o).run P w = .ok (.enter f args) w) {R : Value → World → Prop} (hc : Calls P f args w (Ret R))
  (h : ∀ v w', R v w' → (∀ q ∈ pend P ops dr done i, ChkE P n ops q (putE e o.dst v) w') ∧ XL P n ops dr (i :: done) r K (putE e o.dst v) w') : XL P n ops dr done (i :: r) K e w := by
 refine xl_step ho hd hg hρ ?_
 rw [hk]
 unfold runS
 rw [hv]
 exact hc.mono fun e w' ⟨v, he, hR⟩ => ⟨v, he, h v w' hR⟩
theorem xl_no {i j d : Nat} {want b : Bool} (ho : ops[i]? = some o) (hd : dstOk n o = true) (hg : o.guard = some (j, want)) (hj : (ops[j]?).bind (·.dst) = some d) (hv : get e d = some (.bool b)) (hb : b = !want)
  (h : XL P n ops dr (i :: done) r K (putE e o.dst undef) w) : XL P n ops dr done (i :: r) K e w := by
 intro a ha
 have hw : Region.wanted o (yielded ops a.tmps) = false := by simp [Region.wanted, hg, yielded_of ha hj hv, hb]
 cases dr
 ·simp only [SN, ho, cond]
  unfold SOp; rw [if_neg (by simp [hw])]
  exact h _ (ha.putE hd undef)
 simp only [SL, ho, cond]
 unfold SOpR; rw [if_neg (by simp [hw])]
 exact h _ (ha.putE hd undef)
theorem xl_none {i j d : Nat} {want : Bool} (ho : ops[i]? = some o) (hd : dstOk n o = true) (hg : o.guard = some (j, want)) (hj : (ops[j]?).bind (·.dst) = some d) (hv : get e d = some undef)
  (h : XL P n ops dr (i :: done) r K (putE e o.dst undef) w) : XL P n ops dr done (i :: r) K e w := by
 intro a ha
 have hw : Region.wanted o (yielded ops a.tmps) = false := by simp [Region.wanted, hg, yielded_not ha hj hv]
 cases dr
 ·simp only [SN, ho, cond]
  unfold SOp; rw [if_neg (by simp [hw])]
  exact h _ (ha.putE hd undef)
 simp only [SL, ho, cond]
 unfold SOpR; rw [if_neg (by simp [hw])]
 exact h _ (ha.putE hd undef)
theorem SN_app {Q : Act → World → Prop} : ∀ (l1 l2 : List Nat) (a : Act) (w : World), SN P ops (SN P ops Q l2) l1 a w → SN P ops Q (l1 ++ l2) a w
 | [], _, _, _, h => h
 | i :: l1, l2, a, w, h => by
  simp only [SN, List.cons_append] at h ⊢
  split
  ·rename_i ho; rw [ho] at h; exact h
  rename_i o ho; rw [ho] at h; exact SOp_mono (fun v w' => SN_app l1 l2 _ w') h
theorem SL_app {Q : Act → World → Prop} : ∀ (l1 l2 done : List Nat) (a : Act) (w : World), SL P ops (SL P ops Q (l1.reverse ++ done) l2) done l1 a w → SL P ops Q done (l1 ++ l2) a w
 | [], _, _, _, _, h => h
 | i :: l1, l2, done, a, w, h => by
  simp only [SL, List.cons_append, List.reverse_cons, List.append_assoc, List.nil_append] at h ⊢
  split
  ·rename_i ho; rw [ho] at h; exact h
  rename_i o ho; rw [ho] at h; exact SOpR_mono (fun v w' => SL_app l1 l2 _ _ w') h
structure Kp (S : List Nat) (a a' : Act) : Prop where
 defers : a'.defers = a.defers
 size : a'.tmps.size = a.tmps.size
 same : ∀ t, S.contains t = false → a'.tmps.getD t undef = a.tmps.getD t undef
theorem Kp.refl (S : List Nat) (a : Act) : Kp S a a := ⟨rfl, rfl, fun _ _ => rfl⟩
theorem Kp.trans {S : List Nat} {a b c : Act} (h : Kp S a b) (h' : Kp S b c) : Kp S a c := ⟨h'.defers.trans h.defers, h'.size.trans h.size, fun t ht => (h'.same t ht).trans (h.same t ht)⟩
theorem Kp.put {S : List Nat} {a : Act} {d : Option Tmp} (v : Value) (h : ∀ t, d = some t → S.contains t = true) : Kp S a (a.put d v) := by
 cases d with
 | none => exact Kp.refl S a
 | some t =>
  refine ⟨rfl, by simp [Act.put], fun u hu => ?_⟩
  have hne : t ≠ u := fun e => by subst e; rw [h t rfl] at hu; cases hu
  simp [Act.put, Array.getElem?_setIfInBounds_ne hne]
def dsts (ops : Array Oper) (l : List Nat) : List Nat := l.filterMap fun i => (ops[i]?).bind (·.dst)
theorem dsts_mem {l : List Nat} {i : Nat} {o : Oper} (hi : i ∈ l) (ho : ops[i]? = some o) : ∀ t, o.dst = some t → (dsts ops l).contains t = true := fun t ht => by
 rw [List.contains_iff_mem]
 exact List.mem_filterMap.2 ⟨i, hi, by rw [ho]; exact ht⟩
theorem SN_keep {Q : Act → World → Prop} {S : List Nat} : ∀ (l : List Nat) (a : Act) (w : World), (∀ i ∈ l, ∀ o, ops[i]? = some o → ∀ t, o.dst = some t → S.contains t = true) → SN P ops Q l a w → SN P ops (fun a' w' => Q a' w' ∧ Kp S a a') l a w
 | [], a, w, _, h => ⟨h, Kp.refl S a⟩
 | i :: l, a, w, hS, h => by
  simp only [SN] at h ⊢
  split
  ·rename_i ho; rw [ho] at h; exact h
  rename_i o ho
  rw [ho] at h
  exact SOp_mono (fun v w' hx => SN_mono (fun a' w'' hy => ⟨hy.1, (Kp.put v (hS i (List.mem_cons_self ..) o ho)).trans hy.2⟩) _ _ _ (SN_keep l _ w' (fun j hj => hS j (List.mem_cons_of_mem _ hj)) hx)) h
theorem SL_keep {Q : Act → World → Prop} {S : List Nat} : ∀ (l done : List Nat) (a : Act) (w : World), (∀ i ∈ l, ∀ o, ops[i]? = some o → ∀ t, o.dst = some t → S.contains t = true) → SL P ops Q done l a w → SL P ops (fun a' w' => Q a' w' ∧ Kp S a a') done l a w
 | [], _, a, w, _, h => ⟨h, Kp.refl S a⟩
 | i :: l, done, a, w, hS, h => by
  simp only [SL] at h ⊢
  split
  ·rename_i ho; rw [ho] at h; exact h
  rename_i o ho
  rw [ho] at h
  exact SOpR_mono (fun v w' hx => SL_mono (fun a' w'' hy => ⟨hy.1, (Kp.put v (hS i (List.mem_cons_self ..) o ho)).trans hy.2⟩) _ _ _ _ (SL_keep l _ _ w' (fun j hj => hS j (List.mem_cons_of_mem _ hj)) hx)) h
def freshE (S : List Nat) (e : Env) : Bool := e.all fun x => !S.contains x.1
theorem freshE_get {S : List Nat} {e : Env} {t : Nat} {v : Value} (h : freshE S e = true) (hg : get e t = some v) : S.contains t = false := by
 induction e with
 | nil => cases hg
 | cons x r ih =>
  obtain ⟨k, u⟩ := x
  simp only [freshE, List.all_cons, Bool.and_eq_true] at h
  rcases get_cons hg with ⟨rfl, _⟩ | ⟨_, hg⟩
  ·simpa using h.1
  exact ih h.2 hg
theorem xl_and {l l1 l2 : List Nat} (hl : l = l1 ++ l2) {d : Nat} (q : Prop) [Decidable q] (hf : freshE (dsts ops l1) e = true) (h1 : XL P n ops dr done l1 (fun e' w' => w' = w ∧ get e' d = some (.bool (decide q))) e w)
  (h2 : XL P n ops dr (l1.reverse ++ done) l2 K ((d, .bool (decide q)) :: e) w) : XL P n ops dr done l K e w := by
 subst hl
 intro a ha
 have h := h1 a ha
 have key : ∀ (a' : Act) (w' : World), (∃ e', Agree n e' a' ∧ w' = w ∧ get e' d = some (.bool (decide q))) → Kp (dsts ops l1) a a' → Agree n ((d, .bool (decide q)) :: e) a' ∧ w' = w := fun a' w' ⟨e', ha', hw, hg⟩ hk => by
  refine ⟨⟨by rw [marks_cons (get_mk hg), hk.defers]; exact ha.defers, hk.size.trans ha.size, ha.small, fun t v hv => ?_⟩, hw⟩
  rcases get_cons hv with ⟨rfl, rfl⟩ | ⟨_, hv⟩
  ·exact ha'.get _ _ hg
  rw [hk.same t (freshE_get hf hv)]; exact ha.get t v hv
 have hS : ∀ i ∈ l1, ∀ o, ops[i]? = some o → ∀ t, o.dst = some t → (dsts ops l1).contains t = true := fun i hi o ho => dsts_mem hi ho
 cases dr
 ·exact SN_app l1 l2 a w (SN_mono (fun a' w' hx => by obtain ⟨h3, rfl⟩ := key a' w' hx.1 hx.2; exact h2 a' h3) _ _ _ (SN_keep _ _ _ hS h))
 exact SL_app l1 l2 done a w (SL_mono (fun a' w' hx => by obtain ⟨h3, rfl⟩ := key a' w' hx.1 hx.2; exact h2 a' h3) _ _ _ _ (SL_keep _ _ _ _ hS h))
theorem xl_split {d : Nat} {p : Prop} [Decidable p] (hv : get e d = some (.bool (decide p))) (ht : p → XL P n ops dr done r K ((d, .bool true) :: e) w) (hf : ¬ p → XL P n ops dr done r K ((d, .bool false) :: e) w) :
  XL P n ops dr done r K e w := by
 by_cases hp : p
 ·exact xl_weaken (Sub.cons (by rw [hv]; simp [hp]) (Sub.refl e)) (ht hp)
 exact xl_weaken (Sub.cons (by rw [hv]; simp [hp]) (Sub.refl e)) (hf hp)
end
abbrev Cont := Env → World → Prop
def extOf : List (Nat × Cont) → Nat → Option Cont
 | [], _ => none
 | (k, K) :: r, t => cond (Nat.beq k t) (some K) (extOf r t)
def outAt (K : Cont) (E : List (Nat × Cont)) (F : Cont) (n : Nat) : Exit → Act → World → Prop
 | .normal, a, w => ∃ e, Agree n e a ∧ K e w
 | .ret, a, w => ∃ e, Agree n e a ∧ F e w
 | .exit id, a, w => ∃ K', extOf E id = some K' ∧ ∃ e, Agree n e a ∧ K' e w
 | _, _, _ => False
def X (P : Program) (n : Nat) (ro : Option Nat) (c : Code) (K : Cont) (E : List (Nat × Cont)) (F : Cont) (e : Env) (w : World) : Prop := ∀ a, Agree n e a → c.wpIn (Fw ro) 0 P (outAt K E F n) a w
section
variable {P : Program} {n : Nat} {ro : Option Nat} {c x y : Code} {K F : Cont} {E : List (Nat × Cont)} {e : Env} {w : World}
theorem x_weaken {e' : Env} (hs : Sub e' e) (h : X P n ro c K E F e' w) : X P n ro c K E F e w := fun a ha => h a (ha.sub hs)
theorem x_mono {K' F' : Cont} (h : X P n ro c K E F e w) (hn : ∀ e w, K e w → K' e w) (hr : ∀ e w, F e w → F' e w) : X P n ro c K' E F' e w := fun a ha =>
 wpIn_mono (h a ha) fun ex a w hq => by
  cases ex <;> simp only [outAt] at hq ⊢
  case normal => obtain ⟨e, h1, h2⟩ := hq; exact ⟨e, h1, hn _ _ h2⟩
  case ret => obtain ⟨e, h1, h2⟩ := hq; exact ⟨e, h1, hr _ _ h2⟩
  case exit id => exact hq
theorem x_skip (h : K e w) : X P n ro .skip K E F e w := fun a ha => wpIn_skip ⟨e, ha, h⟩
theorem x_label {l : Nat} (h : K e w) : X P n ro (.label l) K E F e w := fun a ha => wpIn_label ⟨e, ha, h⟩
theorem x_ret (h : F e w) : X P n ro .ret K E F e w := fun a ha => wpIn_ret ⟨e, ha, h⟩
theorem x_exit {id : Nat} {K' : Cont} (hk : extOf E id = some K') (h : K' e w) : X P n ro (.exit id) K E F e w := fun a ha => wpIn_exit ⟨K', hk, e, ha, h⟩
theorem x_seq (h : X P n ro x (X P n ro y K E F) E F e w) : X P n ro (.seq x y) K E F e w := fun a ha =>
 wpIn_seq (wpIn_mono (h a ha) fun ex a w hq => by
  cases ex <;> simp only [outAt] at hq <;> simp only [Exit.then]
  case normal => obtain ⟨e, h1, h2⟩ := hq; exact h2 a h1
  case ret => exact hq
  case exit id => exact hq)
theorem x_join (J : Cont) (h : X P n ro x (fun e w => ∃ e', Sub e' e ∧ J e' w) E F e w) (h' : ∀ e w, J e w → X P n ro y K E F e w) : X P n ro (.seq x y) K E F e w :=
 x_seq (x_mono h (fun _ _ ⟨_, hs, hj⟩ => x_weaken hs (h' _ _ hj)) (fun _ _ h => h))
theorem x_cond {cnd : Operand} {t : Bool} (hc : ev e cnd = some (.bool t)) (ht : t = true → X P n ro x K E F e w) (hf : t = false → X P n ro y K E F e w) : X P n ro (.cond cnd x y) K E F e w := fun a ha =>
 wpIn_cond_split (ha.ev hc) (fun h => ht h a ha) (fun h => hf h a ha)
theorem x_cond_true {cnd : Operand} (hc : ev e cnd = some (.bool true)) (ht : X P n ro x K E F e w) : X P n ro (.cond cnd x y) K E F e w := x_cond hc (fun _ => ht) (fun h => by cases h)
theorem x_cond_false {cnd : Operand} (hc : ev e cnd = some (.bool false)) (hf : X P n ro y K E F e w) : X P n ro (.cond cnd x y) K E F e w := x_cond hc (fun h => by cases h) (fun _ => hf)
theorem x_if {cnd : Operand} {p : Prop} [Decidable p] (hc : ev e cnd = some (.bool (decide p))) (ht : p → X P n ro x K E F e w) (hf : ¬ p → X P n ro y K E F e w) : X P n ro (.cond cnd x y) K E F e w :=
 x_cond hc (fun h => ht (of_decide_eq_true h)) (fun h => hf (of_decide_eq_false h))
theorem x_block {id : Nat} (h : X P n ro x K ((id, K) :: E) F e w) : X P n ro (.block id x) K E F e w := fun a ha =>
 wpIn_block (wpIn_mono (h a ha) fun ex a w hq => by
  cases ex <;> simp only [outAt] at hq <;> simp only [Exit.inBlock]
  case normal => exact hq
  case ret => exact hq
  case exit id' =>
   obtain ⟨K', hk, e, h1, h2⟩ := hq
   simp only [extOf] at hk
   by_cases hid : id = id'
   ·subst hid; simp at hk; subst hk; rw [if_pos rfl]; exact ⟨e, h1, h2⟩
   ·rw [beq_no hid] at hk
    rw [if_neg (fun h => hid h.symm)]
    exact ⟨K', hk, e, h1, h2⟩)
theorem x_scope (h : X P n ro x K E F e w) : X P n ro (.scope x) K E F e w := fun a ha b k cs hro hb hr => by
 have h0 : (lone (b.atR a (.code (.scope x) :: k)) cs w).fenced P (Fw ro) := fenced_calm hb hr rfl
 have s1 : step P (lone (b.atR a (.code (.scope x) :: k)) cs w) = .next (lone (b.atR a (.code x :: .inScope x :: k)) cs w) := step_lone_go (by simp [stepG, stepG.exec, Frame.atR])
 have s2 : ∀ (a : Act) (w : World), step P (lone (b.atR a (.inScope x :: k)) cs w) = .next (lone (b.atR a k) cs w) := fun a w => step_lone_go (by simp [stepG, stepG.exec, Frame.atR])
 obtain ⟨ex, a₁, w₁, hq, harr⟩ := h a ha b (.inScope x :: k) cs hro hb hr
 cases ex with
 | normal => exact ⟨.normal, a₁, w₁, hq, .head h0 s1 (StepsIn.trans harr (.one (fenced_calm hb hr rfl) (s2 _ _)))⟩
 | exit id =>
  have hx : exitTo id (.inScope x :: k) = exitTo id k := by simp [exitTo]
  exact ⟨.exit id, a₁, w₁, hq, fun k' hk => .head h0 s1 (harr.1 k' (by rw [hx]; exact hk)), fun hs hk => let ⟨k₁, h1, h2⟩ := harr.2 hs (by rw [hx]; exact hk); ⟨k₁, h1, .head h0 s1 h2⟩⟩
 | goto l => exact hq.elim
 | ret => exact ⟨.ret, a₁, w₁, hq, ArrivesIn.of_steps (e := .ret) (.one h0 s1) harr⟩
 | panic ch => exact hq.elim
 | outgrown => exact hq.elim
theorem wp_loop_m {a : Act} {Q : Exit → Act → World → Prop} (I : Nat → Act → World → Prop) {m : Nat} (h₀ : I m a w)
  (round : ∀ m a w, I m a w → c.wpIn (Fw ro) 0 P (Exit.then (fun a' w' => ∃ m', m' < m ∧ I m' a' w') Q) a w) : (Code.loop c).wpIn (Fw ro) 0 P Q a w := by
 intro b k cs hro hb hr
 have key : ∀ m a w, I m a w →
   ∃ e a' w', Q e a' w' ∧ ArrivesIn (Machine.fenced P (Fw ro)) P (lone (b.atR a (.code c :: .inLoop c :: k)) cs w) b k cs e a' w' := by
  intro m
  induction m using Nat.strongRecOn with
  | _ m ih =>
   intro a w hI
   obtain ⟨e, a₁, w₁, hq, harr⟩ := round m a w hI b (.inLoop c :: k) cs hro hb hr
   cases e with
   | normal =>
    obtain ⟨m', hlt, hI₁⟩ := hq
    obtain ⟨e₂, a₂, w₂, hq₂, harr₂⟩ := ih m' hlt a₁ w₁ hI₁
    exact ⟨e₂, a₂, w₂, hq₂, .of_steps (StepsIn.trans harr (.one (fenced_calm hb hr rfl) stepR_inLoop)) harr₂⟩
   | exit id => exact ⟨_, a₁, w₁, hq, .pass (x := .inLoop c) rfl (fun _ _ => .inl (by simp)) harr⟩
   | goto l => exact ⟨_, a₁, w₁, hq, .pass (x := .inLoop c) rfl (fun _ _ => .inl (by simp)) harr⟩
   | ret => exact ⟨_, a₁, w₁, hq, .pass (x := .inLoop c) rfl (fun _ _ => .inl (by simp)) harr⟩
   | panic ch => exact ⟨_, a₁, w₁, hq, .pass (x := .inLoop c) rfl (fun _ _ => .inl (by simp)) harr⟩
   | outgrown => exact ⟨_, a₁, w₁, hq, .pass (x := .inLoop c) rfl (fun _ _ => .inl (by simp)) harr⟩
 obtain ⟨e, a', w', hq, harr⟩ := key m a w h₀
 exact ⟨e, a', w', hq, .of_steps (.one (fenced_calm hb hr rfl) stepR_loop) harr⟩
theorem x_loop (I : Nat → Cont) {m : Nat} {e₀ : Env} (hs : Sub e₀ e) (h₀ : I m e₀ w)
  (round : ∀ m e w, I m e w → X P n ro c (fun e' w' => ∃ m', m' < m ∧ ∃ e₁, Sub e₁ e' ∧ I m' e₁ w') E F e w) : X P n ro (.loop c) K E F e w := fun a ha =>
 wp_loop_m (fun m a w => ∃ e, Agree n e a ∧ I m e w) (m := m) ⟨e₀, ha.sub hs, h₀⟩ fun m a w ⟨e, ha, hI⟩ =>
  wpIn_mono (round m e w hI a ha) fun ex a w hq => by
   cases ex <;> simp only [outAt] at hq <;> simp only [Exit.then]
   case normal => obtain ⟨e', h1, m', hm, e₁, hs, hI⟩ := hq; exact ⟨m', hm, e₁, h1.sub hs, hI⟩
   case ret => exact hq
   case exit id => exact hq
theorem x_region {id : Nat} {ops : Array Oper} {l : List Nat} (hl : List.range ops.size = l) (h : XL P n ops false [] l K e w) : X P n ro (.region id ops false) K E F e w := fun a ha =>
 wp_region_plain (by rw [hl]; exact h a ha)
theorem x_draw {id : Nat} {ops : Array Oper} (perm : List Nat) (hm : P.follows .mixedOrders = true) (hB : regB P ops n perm = true) (h : XL P n ops true [] perm K e { w with drawn := w.drawn + 1 }) :
  X P n ro (.region id ops true) K E F e w := fun a ha => wp_region_text perm hm hB ha.size (h a ha)
theorem x_defer {id : Nat} {o : Oper} {d : Nat} {fs : FuncId} {t' : TypeId} {p p' : String} {af af' : Array Edge} {ts : Array TypeId} {fn : Fn} {first captured : Array Value} {hm : o = ⟨some d, o.op, o.type, p, af, none⟩}
  (hd : Nat.blt d n = true) (h : XL P n #[o] false [] [0] (fun e' w' => get e' d = some (.func fn first captured) ∧ K ((1000000000, .func fn first captured) :: e') w') e w) :
  X P n none (.region id #[o, ⟨none, .defer ⟨.value (.tmp d), #[], ts⟩, t', p', af', none⟩] false) K E F e w := fun a ha => by
 refine wpIn_region ?_
 have h1 := h a ha
 simp only [cond] at h1
 have hget : ∀ i : Nat, i < 1 → (#[o, (⟨none, .defer ⟨.value (.tmp d), #[], ts⟩, t', p', af', none⟩ : Oper)] : Array Oper)[i]? = (#[o] : Array Oper)[i]? := fun i hi => by
  have : i = 0 := by omega
  subst this; rfl
 show wpOpsIn (Fw none) 0 P _ (outAt K E F n) [0, 1] a w
 rw [wpOpsIn_cons]
 have h2 : SOp P #[o] o (fun a' w' => ∃ e', Agree n e' a' ∧ get e' d = some (.func fn first captured) ∧ K ((1000000000, .func fn first captured) :: e') w') a w := h1
 have hguard : o.guard = none := by rw [hm]
 have h3 : SOp P #[o, ⟨none, .defer ⟨.value (.tmp d), #[], ts⟩, t', p', af', none⟩] o (fun a' w' => ∃ e', Agree n e' a' ∧ get e' d = some (.func fn first captured) ∧ K ((1000000000, .func fn first captured) :: e') w') a w := by
  unfold SOp at h2 ⊢
  have hw : ∀ y, Region.wanted o y = true := fun y => by simp [Region.wanted, hguard]
  rw [if_pos (hw _)] at h2 ⊢; exact h2
 refine wpOp_of_SOp rfl (fun a' w' h' => ?_) h3
 obtain ⟨e', ha', hg, hK⟩ := h'
 rw [wpOpsIn_cons]
 unfold wpOpIn
 refine (show (if Region.wanted _ _ = true then _ else _ : Prop) from ?_)
 rw [if_pos (by simp [Region.wanted])]
 refine ⟨fun _ _ => trivial, ?_⟩
 have hev : a'.eval (.tmp d) = .func fn first captured := ha'.ev (x := .tmp d) hg
 have hrun : ∀ w', (execOp a'.eval (⟨none, .defer ⟨.value (.tmp d), #[], ts⟩, t', p', af', none⟩ : Oper)).run P w' = .ok (.defer (dfr (.func fn first captured))) w' := fun w' => by
  simp [execOp, resolve, hev, Deferred.ofValue, dfr]
 show Oper.uponIn (Fw none) 0 P (⟨none, .defer ⟨.value (.tmp d), #[], ts⟩, t', p', af', none⟩ : Oper) a' _ _ ((execOp a'.eval (⟨none, .defer ⟨.value (.tmp d), #[], ts⟩, t', p', af', none⟩ : Oper)).run P _)
 rw [hrun, Oper.uponIn_defer]
 refine ⟨_, ⟨?_, ha'.size, ha'.small, fun t v hv => ?_⟩, hK⟩
 ·simp [marks, ha'.defers, Act.put]
 rcases get_cons hv with ⟨h1, _⟩ | ⟨_, h2⟩
 ·exact absurd h1.symm (get_mk hv)
 exact ha'.get t v h2
end
def Defd (P : Program) (f : FuncId) (args : Array Value) (w : World) (R : Value → World → Prop) : Prop := CallsDIn (Fw none) 0 P f args .returning w fun en u w' => u = .returning ∧ Ret R en w'
def bodyEnd (P : Program) (n : Nat) (fn : Func) (R : Value → World → Prop) : Cont := fun e w =>
 ∀ a, Agree n e a → LeavesInM (Fw none) 0 P fn a.tmps (Ret R) a.defers .returning w
def argEnv : Nat → List Value → Env
 | _, [] => []
 | k, v :: r => (k, v) :: argEnv (k + 1) r
theorem get_argEnv : ∀ (l : List Value) (k t : Nat) (v : Value), get (argEnv k l) t = some v → k ≤ t ∧ l[t - k]? = some v
 | [], _, _, _, h => by cases h
 | u :: l, k, t, v, h => by
  rcases get_cons h with ⟨rfl, rfl⟩ | ⟨hk, h⟩
  ·simp
  obtain ⟨h1, h2⟩ := get_argEnv l (k + 1) t v h
  refine ⟨by omega, ?_⟩
  rw [show t - k = (t - (k + 1)) + 1 by omega]
  simpa using h2
theorem marks_argEnv : ∀ (l : List Value) (k : Nat), k + l.length ≤ 1000000 → marks (argEnv k l) = []
 | [], _, _ => rfl
 | u :: l, k, h => by
  simp only [argEnv]
  rw [marks_cons (by simp at h; omega)]
  exact marks_argEnv l (k + 1) (by simp at h; omega)
theorem agree_args {args : List Value} {n : Nat} (hle : Nat.ble args.length n = true) (hs : Nat.ble n 1000000 = true) : Agree n (argEnv 0 args) { tmps := args.toArray ++ Array.replicate (n - args.toArray.size) undef, defers := [] } := by
 have hle' : args.length ≤ n := by simpa using hle
 have hs' : n ≤ 1000000 := by simpa using hs
 refine ⟨by rw [marks_argEnv args 0 (by omega)]; rfl, by simp; omega, hs', fun t v hv => ?_⟩
 obtain ⟨_, h2⟩ := get_argEnv args 0 t v hv
 have hlt : t < args.length := by
  rcases Nat.lt_or_ge t args.length with h' | h'
  ·exact h'
  simp [List.getElem?_eq_none h'] at h2
 simp only [Array.getD_eq_getD_getElem?]
 rw [Array.getElem?_append_left (by simpa using hlt)]
 simp at h2 ⊢
 simp [h2]
theorem calls_of_x {P : Program} {f : FuncId} {fn : Func} {c : Code} {args : List Value} {w : World} {R : Value → World → Prop} {n : Nat}
  (hf : P.funcs[f]? = some fn) (hb : fn.body = some c) (hn : fn.ntmps = n) (hle : Nat.ble args.length n = true) (hs : Nat.ble n 1000000 = true)
  (h : X P n none c (bodyEnd P n fn R) [] (bodyEnd P n fn R) (argEnv 0 args) w) : Calls P f args.toArray w (Ret R) := by
 refine callsIn_wide (n := 0).1 (callsIn_of_wp_marks (F := Fw none) hf hb trivial ?_)
 refine wpIn_mono (h _ (by rw [hn]; exact agree_args hle hs)) fun ex a w hq => ?_
 cases ex <;> simp only [outAt, extOf, bodyEnd] at hq <;> simp only [bodyPostM]
 case normal => obtain ⟨e, ha, h1⟩ := hq; exact h1 a ha
 case ret => obtain ⟨e, ha, h1⟩ := hq; exact h1 a ha
 case exit => obtain ⟨K, hk, _⟩ := hq; cases hk
def Loads (P : Program) (w : World) (t : TypeId) (a : Addr) (v : Value) : Prop := (loadVar t a).run P w = .ok v w
def ResOk (P : Program) (e : Env) (w : World) : ResultVar → Value → Prop
 | .tmp t, v => get e t = some v
 | .cell t ty, v => ∃ a, get e t = some (.pointer (some a)) ∧ Loads P w ty a v
section
variable {P : Program} {n : Nat} {fn : Func} {R : Value → World → Prop} {e : Env} {w : World}
def Leave (P : Program) (n : Nat) (fn : Func) (R : Value → World → Prop) (e : Env) (ds : List Value) (w : World) : Prop :=
 ∀ a, Agree n e a → LeavesInM (Fw none) 0 P fn a.tmps (Ret R) (ds.map dfr) .returning w
theorem bodyEnd_leave {ds : List Value} (hm : marks e = ds) (h : Leave P n fn R e ds w) : bodyEnd P n fn R e w := fun a ha => by rw [ha.defers, hm]; exact h a ha
theorem Leave.of_run {v : Value} (h : ∀ a, Agree n e a → (results fn a.tmps).run P w = .ok v w) (hR : R v w) : Leave P n fn R e [] w := fun a ha => ⟨v, h a ha, v, rfl, hR⟩
theorem leave0 (hr : fn.results = #[]) (h : R (.tuple #[]) w) : Leave P n fn R e [] w := .of_run (fun a _ => by simp [results, hr]) h
def resSem (a : Act) : ResultVar → Sem Value
 | .tmp t => pure (a.tmps.getD t undef)
 | .cell x t => do loadVar t (← asAddr (a.tmps.getD x undef))
theorem run_resSem {r : ResultVar} {v : Value} {a : Act} (h : ResOk P e w r v) (ha : Agree n e a) : (resSem a r).run P w = .ok v w := by
 cases r with
 | tmp t => simp only [resSem, ha.get t v h]; rfl
 | cell x ty =>
  obtain ⟨q, h1, h2⟩ := h
  have h2' : (loadVar ty q).run P w = .ok v w := h2
  simp [resSem, ha.get x _ h1, asAddr, h2']
inductive ResAll (P : Program) (e : Env) (w : World) : List ResultVar → List Value → Prop where
 | nil : ResAll P e w [] []
 | cons {r : ResultVar} {v : Value} {rs : List ResultVar} {vs : List Value} (h : ResOk P e w r v) (h' : ResAll P e w rs vs) : ResAll P e w (r :: rs) (v :: vs)
theorem run_resAll {rs : List ResultVar} {vs : List Value} {a : Act} (h : ResAll P e w rs vs) (ha : Agree n e a) : (rs.mapM (resSem a)).run P w = .ok vs w := by
 induction h with
 | nil => rfl
 | cons h _ ih => simp [run_resSem h ha, ih]
theorem run_results {rs : List ResultVar} {vs : List Value} {a : Act} (hr : fn.results = rs.toArray) (h : ResAll P e w rs vs) (ha : Agree n e a) : (results fn a.tmps).run P w = .ok (if h : vs.toArray.size = 1 then vs.toArray[0] else .tuple vs.toArray) w := by
 have h1 := run_resAll h ha
 have h2 : results fn a.tmps = (do let vs ← rs.toArray.mapM (resSem a); pure (if h : vs.size = 1 then vs[0] else .tuple vs)) := by
  unfold results; rw [hr]; rfl
 rw [h2]
 simp only [List.mapM_toArray, bind_map_left, Sem.run_bind, h1, Result.andThen_ok, Sem.run_pure]
theorem leave1 {r : ResultVar} {v : Value} (hr : fn.results = #[r]) (hv : ResOk P e w r v) (h : R v w) : Leave P n fn R e [] w := .of_run (fun a ha => run_results (rs := [r]) (vs := [v]) hr (.cons hv .nil) ha) h
theorem leave2 {r r' : ResultVar} {v v' : Value} (hr : fn.results = #[r, r']) (hv : ResOk P e w r v) (hv' : ResOk P e w r' v') (h : R (.tuple #[v, v']) w) : Leave P n fn R e [] w := .of_run (fun a ha => run_results (rs := [r, r']) (vs := [v, v']) hr (.cons hv (.cons hv' .nil)) ha) h
theorem leave3 {r r' r'' : ResultVar} {v v' v'' : Value} (hr : fn.results = #[r, r', r'']) (hv : ResOk P e w r v) (hv' : ResOk P e w r' v') (hv'' : ResOk P e w r'' v'') (h : R (.tuple #[v, v', v'']) w) : Leave P n fn R e [] w := .of_run (fun a ha => run_results (rs := [r, r', r'']) (vs := [v, v', v'']) hr (.cons hv (.cons hv' (.cons hv'' .nil))) ha) h
theorem leave4 {r1 r2 r3 r4 : ResultVar} {v1 v2 v3 v4 : Value} (hr : fn.results = #[r1, r2, r3, r4]) (h1 : ResOk P e w r1 v1) (h2 : ResOk P e w r2 v2) (h3 : ResOk P e w r3 v3) (h4 : ResOk P e w r4 v4) (h : R (.tuple #[v1, v2, v3, v4]) w) : Leave P n fn R e [] w := .of_run (fun a ha => run_results (rs := [r1, r2, r3, r4]) (vs := [v1, v2, v3, v4]) hr (.cons h1 (.cons h2 (.cons h3 (.cons h4 .nil)))) ha) h
theorem leave_call {fn' : FuncId} {first captured : Array Value} {ds : List Value} {Q : Value → World → Prop} (hb : (∃ f, P.funcs[fn']? = some f ∧ (f.name == "runtime.NumGoroutine") = false ∧ f.body.isNone = false))
  (hc : Defd P fn' (first ++ captured) w Q) (h : ∀ v w', Q v w' → Leave P n fn R e ds w') : Leave P n fn R e (.func (.func fn') first captured :: ds) w := fun a ha => by
 refine ⟨by simp, .inr ⟨(fun hd => by cases hd), .func fn', captured, fn', first ++ captured, rfl, ?_, fun _ _ => trivial, hc.1, fun c cs hm hr => ?_⟩⟩
 ·obtain ⟨f, h1, h2, h3⟩ := hb
  simp only [dfr, invoke, callFunc, Sem.run_bind, Sem.run_pure, Result.andThen_ok, program, Sem.run, h1, h2, h3]
  simp
 obtain ⟨en, u', w', fr, ⟨hu, v, hv, hQ⟩, hs, hk, hf, hg⟩ := hc.2 c cs hm (room_fw none _)
 subst hv
 exact ⟨_, u', w', fr, by subst hu; exact h v w' hQ a ha, hs, hk, hf, hg⟩
theorem leave_mark {D : Nat} {ds : List Value} (hD : w.heap[D]? = some (.deferred (some []))) (h : Leave P n fn R e ds (w.putObj D (.deferred none))) : Leave P n fn R e (.pointer (some ⟨D, 0, none⟩) :: ds) w := fun a ha =>
 ⟨by simp, .inl ⟨D, _, rfl, run_takeDeferred hD, h a ha⟩⟩
theorem end0 (hr : fn.results = #[]) (hm : marks e = []) (h : R (.tuple #[]) w) : bodyEnd P n fn R e w := bodyEnd_leave hm (leave0 hr h)
theorem end1 {r : ResultVar} {v : Value} (hr : fn.results = #[r]) (hm : marks e = []) (hv : ResOk P e w r v) (h : R v w) : bodyEnd P n fn R e w := bodyEnd_leave hm (leave1 hr hv h)
theorem end2 {r r' : ResultVar} {v v' : Value} (hr : fn.results = #[r, r']) (hm : marks e = []) (hv : ResOk P e w r v) (hv' : ResOk P e w r' v') (h : R (.tuple #[v, v']) w) : bodyEnd P n fn R e w := bodyEnd_leave hm (leave2 hr hv hv' h)
theorem end3 {r r' r'' : ResultVar} {v v' v'' : Value} (hr : fn.results = #[r, r', r'']) (hm : marks e = []) (hv : ResOk P e w r v) (hv' : ResOk P e w r' v') (hv'' : ResOk P e w r'' v'') (h : R (.tuple #[v, v', v'']) w) : bodyEnd P n fn R e w := bodyEnd_leave hm (leave3 hr hv hv' hv'' h)
theorem end4 {r1 r2 r3 r4 : ResultVar} {v1 v2 v3 v4 : Value} (hr : fn.results = #[r1, r2, r3, r4]) (hm : marks e = []) (h1 : ResOk P e w r1 v1) (h2 : ResOk P e w r2 v2) (h3 : ResOk P e w r3 v3) (h4 : ResOk P e w r4 v4) (h : R (.tuple #[v1, v2, v3, v4]) w) : bodyEnd P n fn R e w := bodyEnd_leave hm (leave4 hr h1 h2 h3 h4 h)
end
theorem sG {e' e : Env} (h : SubG e' e := by repeat (first | exact SubG.nil _ | refine SubG.mark ?_ | refine SubG.cons rfl ?_)) : SubG e' e := h
theorem sB {e' e : Env} (h : SubG e' e := by repeat (first | exact SubG.nil _ | refine SubG.mark ?_ | refine SubG.cons rfl ?_)) (h' : marks e' = marks e := by exact rfl) : Sub e' e := ⟨h, h'⟩
abbrev HMap := Nat → Option Obj
abbrev Assn := HMap → Prop
structure Gh where
 os : Os
 tape : Nat → Question → Nat
 output : Array (Nat × ByteArray)
def ghOf (w : World) : Gh := ⟨w.os, w.tape, w.output⟩
def pt (b : Nat) (o : Obj) : Assn := fun h => h b = some o
def apartH (h1 h2 : HMap) : Prop := ∀ b, h1 b = none ∨ h2 b = none
def union (h1 h2 : HMap) : HMap := fun b => (h1 b).or (h2 b)
def all : List Assn → Assn
 | [], _ => True
 | A :: r, h => ∃ h1 h2, apartH h1 h2 ∧ (∀ b o, (union h1 h2) b = some o → h b = some o) ∧ A h1 ∧ all r h2
def Sat (g : Gh) (L : List Assn) (w : World) : Prop := ghOf w = g ∧ ∃ h : HMap, (∀ b o, h b = some o → w.heap[b]? = some o) ∧ all L h
inductive Pick (A : Assn) : List Assn → List Assn → Prop where
 | here {R} : Pick A (A :: R) R
 | there {B L R} (h : Pick A L R) : Pick A (B :: L) (B :: R)
theorem pK {A : Assn} {L R : List Assn} (h : Pick A L R := by repeat (first | with_reducible exact Pick.here | apply Pick.there)) : Pick A L R := h
theorem all_mono {L : List Assn} {h h' : HMap} (hh : ∀ b o, h b = some o → h' b = some o) (ha : all L h) : all L h' := by
 cases L with
 | nil => trivial
 | cons A r => obtain ⟨h1, h2, hd, hu, h3, h4⟩ := ha; exact ⟨h1, h2, hd, fun b o hb => hh b o (hu b o hb), h3, h4⟩
theorem union_left {h1 h2 : HMap} {b : Nat} {o : Obj} (h : h1 b = some o) : union h1 h2 b = some o := by simp [union, h]
theorem union_right {h1 h2 : HMap} (hd : apartH h1 h2) {b : Nat} {o : Obj} (h : h2 b = some o) : union h1 h2 b = some o := by
 have : h1 b = none := (hd b).resolve_right (by simp [h])
 simp [union, this, h]
theorem union_cases {h1 h2 : HMap} {b : Nat} {o : Obj} (h : union h1 h2 b = some o) : h1 b = some o ∨ h2 b = some o := by
 unfold union at h
 cases e : h1 b with
 | none => rw [e] at h; simp at h; exact .inr h
 | some x => rw [e] at h; simp at h; exact .inl (by rw [h])
theorem all_swap {A B : Assn} {R : List Assn} {h : HMap} (ha : all (A :: B :: R) h) : all (B :: A :: R) h := by
 obtain ⟨h1, h2, hd, hu, hA, h3, h4, hd', hu', hB, hR⟩ := ha
 have e : ∀ b o, h3 b = some o → h2 b = some o := fun b o hb => hu' b o (union_left hb)
 have e' : ∀ b o, h4 b = some o → h2 b = some o := fun b o hb => hu' b o (union_right hd' hb)
 have none_of : ∀ {x y : HMap}, (∀ b o, x b = some o → y b = some o) → ∀ b, y b = none → x b = none := fun hxy b hy => by
  cases hx : (_ : HMap) b with
  | none => exact hx
  | some o => rw [hxy b o hx] at hy; cases hy
 have d14 : apartH h1 h4 := fun b => (hd b).imp id (none_of e' b)
 have d13 : apartH h1 h3 := fun b => (hd b).imp id (none_of e b)
 refine ⟨h3, union h1 h4, fun b => ?_, fun b o hb => ?_, hB, h1, h4, d14, fun b o hb => hb, hA, hR⟩
 ·cases x3 : h3 b with
  | none => exact .inl rfl
  | some o =>
   refine .inr ?_
   have y1 : h1 b = none := (d13 b).resolve_right (by simp [x3])
   have y4 : h4 b = none := (hd' b).resolve_left (by simp [x3])
   simp [union, y1, y4]
 rcases union_cases hb with hb | hb
 ·exact hu b o (union_right hd (e b o hb))
 rcases union_cases hb with hb | hb
 ·exact hu b o (union_left hb)
 exact hu b o (union_right hd (e' b o hb))
theorem all_single {A : Assn} {h : HMap} (ha : A h) : all [A] h := by
 refine ⟨h, fun _ => none, fun b => .inr rfl, fun b o hb => ?_, ha, trivial⟩
 rcases union_cases hb with h | h
 ·exact h
 cases h
theorem all_cons_mono {A : Assn} {L L' : List Assn} (hh : ∀ h, all L h → all L' h) {h : HMap} (ha : all (A :: L) h) : all (A :: L') h := by
 obtain ⟨h1, h2, hd, hu, hA, hL⟩ := ha; exact ⟨h1, h2, hd, hu, hA, hh _ hL⟩
theorem all_pick {A : Assn} {L R : List Assn} (p : Pick A L R) : ∀ h, all L h → all (A :: R) h := by
 induction p with
 | here => exact fun _ h => h
 | there _ ih => exact fun h ha => all_swap (all_cons_mono ih ha)
theorem all_unpick {A : Assn} {L R : List Assn} (p : Pick A L R) : ∀ h, all (A :: R) h → all L h := by
 induction p with
 | here => exact fun _ h => h
 | there _ ih => exact fun h ha => all_cons_mono ih (all_swap ha)
section
variable {g : Gh} {L R L' : List Assn} {A B : Assn} {w : World} {b : Nat} {o : Obj}
theorem Sat.mono (hh : ∀ h, all L h → all L' h) (h : Sat g L w) : Sat g L' w := ⟨h.1, let ⟨x, h1, h2⟩ := h.2; ⟨x, h1, hh _ h2⟩⟩
theorem Sat.pick (h : Sat g L w) (p : Pick A L R) : Sat g (A :: R) w := h.mono (all_pick p)
inductive Picks : List Assn → List Assn → List Assn → Prop where
 | nil {L : List Assn} : Picks [] L L
 | cons {A : Assn} {As L M R : List Assn} (h : Pick A L M) (h' : Picks As M R) : Picks (A :: As) L R
theorem Sat.unpick (h : Sat g (A :: R) w) (p : Pick A L R) : Sat g L w := h.mono (all_unpick p)
theorem Sat.cons_mono (hh : ∀ h, A h → B h) (h : Sat g (A :: R) w) : Sat g (B :: R) w :=
 h.mono (L := A :: R) (L' := B :: R) fun _ ⟨h1, h2, hd, hu, hA, hR⟩ => ⟨h1, h2, hd, hu, hh _ hA, hR⟩
theorem Sat.tail (h : Sat g (A :: R) w) : Sat g R w := ⟨h.1, let ⟨x, hx, h1, h2, hd, hu, _, hR⟩ := h.2; ⟨h2, fun b o hb => hx b o (hu b o (union_right hd hb)), hR⟩⟩
theorem Sat.drop (h : Sat g L w) (p : Pick A L R) : Sat g R w := (h.pick p).tail
theorem Sat.head (h : Sat g (A :: R) w) : Sat g [A] w := ⟨h.1, let ⟨x, hx, h1, h2, hd, hu, hA, _⟩ := h.2
 ⟨h1, fun b o hb => hx b o (hu b o (union_left hb)), all_single hA⟩⟩
theorem Sat.pt_head (h : Sat g (pt b o :: R) w) : w.heap[b]? = some o := by
 obtain ⟨_, x, hx, h1, h2, hd, hu, hA, _⟩ := h
 exact hx b o (hu b o (union_left hA))
theorem Sat.pt (h : Sat g L w) (p : Pick (X.pt b o) L R) : w.heap[b]? = some o := (h.pick p).pt_head
theorem Sat.ne {c : Nat} {o' : Obj} (h : Sat g (X.pt b o :: X.pt c o' :: R) w) : b ≠ c := by
 obtain ⟨_, x, hx, h1, h2, hd, hu, hA, h3, h4, hd', hu', hB, _⟩ := h
 rintro rfl
 have h1b : h1 b = some o := hA
 have h2b : h2 b = some o' := hu' b o' (union_left hB)
 rcases hd b with h | h
 ·rw [h1b] at h; cases h
 rw [h2b] at h; cases h
theorem Sat.size (h : Sat g (X.pt b o :: R) w) : b < w.heap.size := by
 have := h.pt_head
 exact (Array.getElem?_eq_some_iff.1 this).1
theorem Sat.drawn (h : Sat g L w) (n : Nat) : Sat g L { w with drawn := n } := h
theorem Sat.push (h : Sat g L w) (o : Obj) : Sat g (X.pt w.heap.size o :: L) { w with heap := w.heap.push o } := by
 obtain ⟨hg, x, hx, hL⟩ := h
 refine ⟨hg, fun b => if b = w.heap.size then some o else x b, fun b o' hb => ?_, fun b => if b = w.heap.size then some o else none, x, fun b => ?_, fun b o' hb => ?_, ?_, hL⟩
 ·simp only at hb
  split at hb
  ·rename_i e; subst e; cases hb; simp
  have h1 := hx b o' hb
  have h2 := (Array.getElem?_eq_some_iff.1 h1).1
  simp only
  rw [Array.getElem?_push_lt (by omega)]; rw [← h1, Array.getElem?_eq_getElem]
 ·by_cases e : b = w.heap.size
  ·refine .inr ?_
   cases hb : x b with
   | none => rfl
   | some o' => have h1 := (Array.getElem?_eq_some_iff.1 (hx b o' hb)).1; omega
  exact .inl (by simp [e])
 ·rcases union_cases hb with hb | hb
  ·simp only at hb ⊢; split at hb
   ·rename_i e; simp [e, hb]
   cases hb
  simp only; split
  ·rename_i e; have h1 := (Array.getElem?_eq_some_iff.1 (hx b o' hb)).1; omega
  exact hb
 simp [X.pt]
theorem Sat.set (h : Sat g (X.pt b o :: R) w) (o' : Obj) : Sat g (X.pt b o' :: R) { w with heap := w.heap.setIfInBounds b o' } := by
 have hlt := h.size
 obtain ⟨hg, x, hx, h1, h2, hd, hu, hA, hR⟩ := h
 have h2b : h2 b = none := (hd b).resolve_left (by have : h1 b = some o := hA; simp [this])
 refine ⟨hg, fun k => if k = b then some o' else h2 k, fun k u hk => ?_, fun k => if k = b then some o' else none, h2, fun k => ?_, fun k u hk => ?_, by simp [X.pt], hR⟩
 ·simp only at hk
  split at hk
  ·rename_i e; subst e; cases hk; simp [hlt]
  rename_i e
  simp only
  rw [Array.getElem?_setIfInBounds_ne (fun e' => e e'.symm)]
  exact hx k u (hu k u (union_right hd hk))
 ·by_cases e : k = b
  ·exact .inr (by rw [e]; exact h2b)
  exact .inl (by simp [e])
 rcases union_cases hk with hk | hk
 ·simp only at hk ⊢; split at hk
  ·rename_i e; simp [e, hk]
  cases hk
 simp only; split
 ·rename_i e; rw [e, h2b] at hk; cases hk
 exact hk
def Old (w0 : World) : Assn := fun h => ∀ b o, w0.heap[b]? = some o → h b = some o
theorem Sat.start (w : World) : Sat (ghOf w) [Old w] w :=
 ⟨rfl, fun b => w.heap[b]?, fun _ _ h => h, all_single fun _ _ h => h⟩
theorem Sat.old_head {w0 : World} (h : Sat g (Old w0 :: R) w) {b : Nat} {o : Obj} (hb : w0.heap[b]? = some o) : w.heap[b]? = some o := by
 obtain ⟨_, x, hx, h1, h2, hd, hu, hA, _⟩ := h
 exact hx b o (hu b o (union_left (hA b o hb)))
theorem Sat.old {w0 : World} (h : Sat g L w) (p : Pick (Old w0) L R) {b : Nat} {o : Obj} (hb : w0.heap[b]? = some o) : w.heap[b]? = some o := (h.pick p).old_head hb
def ex {α : Sort _} (F : α → Assn) : Assn := fun h => ∃ x, F x h
def lift (p : Prop) (A : Assn) : Assn := fun h => p ∧ A h
def both (M : List Assn) : Assn := all M
theorem Sat.ex_out {α : Sort _} {F : α → Assn} (h : Sat g (ex F :: R) w) : ∃ x, Sat g (F x :: R) w := by
 obtain ⟨hg, x, hx, h1, h2, hd, hu, ⟨y, hA⟩, hR⟩ := h
 exact ⟨y, hg, x, hx, h1, h2, hd, hu, hA, hR⟩
theorem Sat.ex_in {α : Sort _} {F : α → Assn} (x : α) (h : Sat g (F x :: R) w) : Sat g (ex F :: R) w := h.cons_mono fun _ h => ⟨x, h⟩
theorem Sat.lift_out {p : Prop} (h : Sat g (lift p A :: R) w) : p ∧ Sat g (A :: R) w := by
 obtain ⟨hg, x, hx, h1, h2, hd, hu, ⟨hp, hA⟩, hR⟩ := h
 exact ⟨hp, hg, x, hx, h1, h2, hd, hu, hA, hR⟩
theorem Sat.lift_in {p : Prop} (hp : p) (h : Sat g (A :: R) w) : Sat g (lift p A :: R) w := h.cons_mono fun _ h => ⟨hp, h⟩
theorem all_append : ∀ (M : List Assn) (R : List Assn) (h : HMap), all (both M :: R) h ↔ all (M ++ R) h
 | [], R, h => ⟨fun ⟨h1, h2, hd, hu, _, hR⟩ => all_mono (fun b o hb => hu b o (union_right hd hb)) hR,
   fun hR => ⟨fun _ => none, h, fun b => .inl rfl, fun b o hb => by rcases union_cases hb with h | h <;> first | cases h | exact h, trivial, hR⟩⟩
 | A :: M, R, h => by
  constructor
  ·rintro ⟨h1, h2, hd, hu, ⟨h3, h4, hd', hu', hA, hM⟩, hR⟩
   have e3 : ∀ b o, h3 b = some o → h1 b = some o := fun b o hb => hu' b o (union_left hb)
   have e4 : ∀ b o, h4 b = some o → h1 b = some o := fun b o hb => hu' b o (union_right hd' hb)
   have none_of : ∀ {x y : HMap}, (∀ b o, x b = some o → y b = some o) → ∀ b, y b = none → x b = none := fun hxy b hy => by
    cases hx : (_ : HMap) b with
    | none => exact hx
    | some o => rw [hxy b o hx] at hy; cases hy
   have d42 : apartH h4 h2 := fun b => (hd b).imp (none_of e4 b) id
   refine ⟨h3, union h4 h2, fun b => ?_, fun b o hb => ?_, hA, (all_append M R _).1 ⟨h4, h2, d42, fun _ _ h => h, hM, hR⟩⟩
   ·cases x3 : h3 b with
    | none => exact .inl rfl
    | some o =>
     refine .inr ?_
     have y4 : h4 b = none := (hd' b).resolve_left (by simp [x3])
     have y2 : h2 b = none := (hd b).resolve_left (by simp [e3 b o x3])
     simp [union, y2, y4]
   rcases union_cases hb with hb | hb
   ·exact hu b o (union_left (e3 b o hb))
   rcases union_cases hb with hb | hb
   ·exact hu b o (union_left (e4 b o hb))
   exact hu b o (union_right hd hb)
  rintro ⟨h3, h5, hd, hu, hA, hMR⟩
  obtain ⟨h4, h2, hd', hu', hM, hR⟩ := (all_append M R h5).2 hMR
  have e4 : ∀ b o, h4 b = some o → h5 b = some o := fun b o hb => hu' b o (union_left hb)
  have e2 : ∀ b o, h2 b = some o → h5 b = some o := fun b o hb => hu' b o (union_right hd' hb)
  have none_of : ∀ {x y : HMap}, (∀ b o, x b = some o → y b = some o) → ∀ b, y b = none → x b = none := fun hxy b hy => by
   cases hx : (_ : HMap) b with
   | none => exact hx
   | some o => rw [hxy b o hx] at hy; cases hy
  have d34 : apartH h3 h4 := fun b => (hd b).imp id (none_of e4 b)
  refine ⟨union h3 h4, h2, fun b => ?_, fun b o hb => ?_, ⟨h3, h4, d34, fun _ _ h => h, hA, hM⟩, hR⟩
  ·cases x2 : h2 b with
   | none => exact .inr rfl
   | some o =>
    refine .inl ?_
    have y4 : h4 b = none := (hd' b).resolve_right (by simp [x2])
    have y3 : h3 b = none := (hd b).resolve_right (by simp [e2 b o x2])
    simp [union, y3, y4]
  rcases union_cases hb with hb | hb
  ·rcases union_cases hb with hb | hb
   ·exact hu b o (union_left hb)
   exact hu b o (union_right hd (e4 b o hb))
  exact hu b o (union_right hd (e2 b o hb))
theorem Sat.both_out {M : List Assn} (h : Sat g (both M :: R) w) : Sat g (M ++ R) w := h.mono fun _ => (all_append M R _).1
theorem Sat.both_in {M : List Assn} (h : Sat g (M ++ R) w) : Sat g (both M :: R) w := h.mono fun _ => (all_append M R _).2
theorem assn_in {A : Assn} {M R : List Assn} {w : World} {G : Gh} (h : Sat G (M ++ R) w) (f : ∀ h, all M h → A h) : Sat G (A :: R) w := (Sat.both_in h).cons_mono f
theorem assn_out {A : Assn} {R : List Assn} {w : World} {G : Gh} (h : Sat G (A :: R) w) : ∃ hh, A hh ∧ ∀ M, all M hh → Sat G (M ++ R) w := by
 obtain ⟨hg, x, hx, h1, h2, hd, hu, hA, hR⟩ := h
 exact ⟨h1, hA, fun M hM => Sat.both_out ⟨hg, x, hx, h1, h2, hd, hu, hM, hR⟩⟩
inductive Bring : List Assn → List Assn → List Assn → Prop where
 | nil {L : List Assn} : Bring [] L L
 | cons {A : Assn} {As L M O : List Assn} (h : Pick A L M) (h' : Bring As M O) : Bring (A :: As) L (A :: O)
theorem bR {As L M : List Assn} (h : Bring As L M := by repeat (first | exact Bring.nil | (apply Bring.cons; repeat (first | with_reducible exact Pick.here | apply Pick.there)))) : Bring As L M := h
theorem all_bring {As L O : List Assn} (p : Bring As L O) : ∀ h, all L h → all O h := by
 induction p with
 | nil => exact fun _ h => h
 | cons h _ ih => exact fun x ha => all_cons_mono ih (all_pick h x ha)
theorem Sat.bring {As L O : List Assn} (h : Sat g L w) (p : Bring As L O) : Sat g O w := h.mono (all_bring p)
def Knows (L : List Assn) (p : World → Prop) : Prop := ∀ g w, Sat g L w → p w
theorem Knows.at {p : World → Prop} (k : Knows L p) (h : Sat g L w) : p w := k g w h
theorem Knows.cons {p : World → Prop} (k : Knows L p) (A : Assn) : Knows (A :: L) p := fun g w h => k g w h.tail
theorem Knows.head {p : World → Prop} (k : Knows [A] p) (R : List Assn) : Knows (A :: R) p := fun g w h => k g w h.head
theorem Knows.pick {p : World → Prop} (k : Knows (A :: R) p) (q : Pick A L R) : Knows L p := fun g w h => k g w (h.pick q)
inductive Suf : List Assn → List Assn → Prop where
 | refl (L : List Assn) : Suf L L
 | cons {L L' : List Assn} {A : Assn} (h : Suf L L') : Suf L (A :: L')
theorem sF {L L' : List Assn} (h : Suf L L' := by repeat (first | exact Suf.refl _ | apply Suf.cons)) : Suf L L' := h
theorem Knows.of {p : World → Prop} (k : Knows L p) (s : Suf L L') : Knows L' p := by
 induction s with
 | refl => exact k
 | cons _ ih => exact Knows.cons ih _
theorem Knows.mono {p q : World → Prop} (k : Knows L p) (h : ∀ w, p w → q w) : Knows L q := fun g w hh => h _ (k g w hh)
theorem Sat.back {w0 : World} (h0 : Sat g L w0) (h : Sat g (Old w0 :: R) w) : Sat g (R ++ L) w := by
 have h' : Sat g (both L :: R) w := by
  obtain ⟨_, x0, hx0, hL⟩ := h0
  refine h.cons_mono fun h1 hA => all_mono (fun b o hb => hA b o (hx0 b o hb)) hL
 have h2 := h'.both_out
 refine h2.mono fun hh ha => ?_
 have p : ∀ (M N : List Assn) h, all (M ++ N) h → all (N ++ M) h := by
  intro M N h ha
  have h3 := (all_append M N h).2 ha
  have h4 : all (both M :: both N :: []) h := by
   obtain ⟨a1, a2, b1, b2, b3, b4⟩ := h3
   exact ⟨a1, a2, b1, b2, b3, (all_append N [] _).2 (by simpa using b4)⟩
  have h5 := all_swap h4
  have h6 := (all_append N _ _).1 h5
  have h7 : ∀ (N : List Assn) h, all (N ++ [both M]) h → all (N ++ M) h := by
   intro N
   induction N with
   | nil => intro h ha; have := (all_append M [] h).1 ha; simpa using this
   | cons A N ih => intro h ha; exact all_cons_mono ih ha
  exact h7 N h h6
 exact p _ _ _ ha
end
theorem Sat.b {g : Gh} {L O : List Assn} {w : World} (h : Sat g L w) (As : List Assn) (p : Bring As L O := by repeat (first | exact Bring.nil | (apply Bring.cons; repeat (first | with_reducible exact Pick.here | apply Pick.there)))) : Sat g O w := h.mono (all_bring p)
def rh (e : Env) : Operand → Value := fun x => (ev e x).getD undef
theorem rh_of {e : Env} {x : Operand} {v : Value} (h : ev e x = some v) : rh e x = v := by simp [rh, h]
theorem rh_k {e : Env} {x : Operand} {v : Value} (h : ev e x = some v) : ev e x = some (rh e x) := by simp [rh, h]
theorem oh1 {e : Env} {x : Operand} {v : Value} (hx : ev e x = some v) {z : Operand} (hz : z = x) : ev e z = some (rh e z) := by subst hz; exact rh_k hx
theorem oh2 {e : Env} {x y : Operand} {v u : Value} (hx : ev e x = some v) (hy : ev e y = some u) {z : Operand} (hz : z = x ∨ z = y) : ev e z = some (rh e z) := hz.elim (oh1 hx) (oh1 hy)
theorem oh3 {e : Env} {x y c : Operand} {v u s : Value} (hx : ev e x = some v) (hy : ev e y = some u) (hc : ev e c = some s) {z : Operand} (hz : z = x ∨ z = y ∨ z = c) : ev e z = some (rh e z) := hz.elim (oh1 hx) (oh2 hy hc)
def evs (e : Env) : List Operand → Option (List Value)
 | [] => some []
 | x :: r => match ev e x, evs e r with
  | some v, some vs => some (v :: vs)
  | _, _ => none
theorem evs_mem {e : Env} : ∀ {xs : List Operand} {vs : List Value}, evs e xs = some vs → (∀ z ∈ xs, ev e z = some (rh e z)) ∧ xs.map (rh e) = vs
 | [], _, h => by simp [evs] at h; subst h; simp
 | x :: r, vs, h => by
  simp only [evs] at h
  split at h
  ·rename_i v vs' h1 h2
   cases h
   obtain ⟨h3, h4⟩ := evs_mem h2
   refine ⟨fun z hz => ?_, by simp [rh_of h1, h4]⟩
   rcases List.mem_cons.1 hz with rfl | hz
   ·exact rh_k h1
   exact h3 z hz
  cases h
theorem wrap64 {x : Int} (h : -9223372036854775808 ≤ x ∧ x ≤ 9223372036854775807) : IntKind.i64.wrap x = x := by rw [IntKind.wrap_i64]; omega
section
variable {P : Program} {n : Nat} {ops : Array Oper} {dr : Bool} {done r : List Nat} {K : Env → World → Prop} {e : Env} {w : World} {i d : Nat} {t : TypeId} {p : String} {af : Array Edge} {g : Option (Nat × Bool)}
theorem x_mv {x : Operand} {v : Value} (ho : ops[i]? = some ⟨some d, .move x, t, p, af, g⟩) (hd : Nat.blt d n = true) (hg : Gd ops e g) (hx : ev e x = some v)
  (h : XL P n ops dr (i :: done) r K ((d, v) :: e) w) : XL P n ops dr done (i :: r) K e w :=
 xl_pure ho (by simpa [dstOk] using hd) hg (ρ := rh e) (by intro z hZ; simp [Op.operands] at hZ; exact oh1 hx hZ) rfl (v := v) (fun w' => by simp [execOp, rh_of hx]) h
theorem x_as {x : Operand} {v : Value} (ho : ops[i]? = some ⟨some d, .assign x, t, p, af, g⟩) (hd : Nat.blt d n = true) (hg : Gd ops e g) (hx : ev e x = some v)
  (h : XL P n ops dr (i :: done) r K ((d, v) :: e) w) : XL P n ops dr done (i :: r) K e w :=
 xl_pure ho (by simpa [dstOk] using hd) hg (ρ := rh e) (by intro z hZ; simp [Op.operands] at hZ; exact oh1 hx hZ) rfl (v := v) (fun w' => by simp [execOp, rh_of hx]) h
theorem x_pick {c a b : Operand} {q : Bool} {va vb : Value} (ho : ops[i]? = some ⟨some d, .pick c a b, t, p, af, g⟩) (hd : Nat.blt d n = true) (hg : Gd ops e g) (hc : ev e c = some (.bool q)) (ha : ev e a = some va) (hb : ev e b = some vb)
  (h : XL P n ops dr (i :: done) r K ((d, cond q va vb) :: e) w) : XL P n ops dr done (i :: r) K e w :=
 xl_pure ho (by simpa [dstOk] using hd) hg (ρ := rh e) (by intro z hZ; simp [Op.operands] at hZ; exact oh3 hc ha hb hZ) rfl (v := cond q va vb)
  (fun w' => by cases q <;> simp [execOp, rh_of hc, rh_of ha, rh_of hb, asBool]) h
theorem x_pickT {c a b : Operand} {va vb : Value} (ho : ops[i]? = some ⟨some d, .pick c a b, t, p, af, g⟩) (hd : Nat.blt d n = true) (hg : Gd ops e g) (hc : ev e c = some (.bool true)) (ha : ev e a = some va) (hb : ev e b = some vb)
  (h : XL P n ops dr (i :: done) r K ((d, va) :: e) w) : XL P n ops dr done (i :: r) K e w := x_pick ho hd hg hc ha hb h
theorem x_pickF {c a b : Operand} {va vb : Value} (ho : ops[i]? = some ⟨some d, .pick c a b, t, p, af, g⟩) (hd : Nat.blt d n = true) (hg : Gd ops e g) (hc : ev e c = some (.bool false)) (ha : ev e a = some va) (hb : ev e b = some vb)
  (h : XL P n ops dr (i :: done) r K ((d, vb) :: e) w) : XL P n ops dr done (i :: r) K e w := x_pick ho hd hg hc ha hb h
theorem x_bin {op : BinOp} {s u : TypeId} {x y : Operand} {vx vy v : Value} (ho : ops[i]? = some ⟨some d, .binOp op s x y u, t, p, af, g⟩) (hd : Nat.blt d n = true) (hg : Gd ops e g) (hk : okind P (.binOp op s x y u) = 0)
  (hx : ev e x = some vx) (hy : ev e y = some vy) (hr : ∀ w', (do eqGuard op s x y vx vy; binOp op s vx vy : Sem Value).run P w' = .ok v w')
  (h : XL P n ops dr (i :: done) r K ((d, v) :: e) w) : XL P n ops dr done (i :: r) K e w :=
 xl_pure ho (by simpa [dstOk] using hd) hg (ρ := rh e) (by intro z hZ; simp [Op.operands] at hZ; exact oh2 hx hy hZ) hk (v := v)
  (fun w' => by
   have := hr w'
   simp only [execOp, rh_of hx, rh_of hy]
   rw [Sem.run_bind, this]; rfl) h
theorem run_eqGuard_int {op : BinOp} {s : TypeId} {x y : Operand} {k k' : IntKind} {a b : Int} {w : World} : (eqGuard op s x y (.int k a) (.int k' b)).run P w = .ok () w := by
 unfold eqGuard; cases op <;> simp
theorem bk {op : BinOp} {s u : TypeId} {x y : Operand} (h : (op matches .eql | .neq) = false) : okind P (.binOp op s x y u) = 0 := by
 unfold okind; cases op <;> first | rfl | (simp at h)
variable {s u : TypeId} {x y : Operand} {k : IntKind} {a b : Int}
theorem x_add (ho : ops[i]? = some ⟨some d, .binOp .add s x y u, t, p, af, g⟩) (hd : Nat.blt d n = true) (hg : Gd ops e g) (hx : ev e x = some (.int k a)) (hy : ev e y = some (.int k b))
  (h : XL P n ops dr (i :: done) r K ((d, .int k (k.wrap (a + b))) :: e) w) : XL P n ops dr done (i :: r) K e w :=
 x_bin ho hd hg (bk rfl) hx hy (fun w' => by simp [run_eqGuard_int, binOp, Op.intArith]) h
theorem x_sub (ho : ops[i]? = some ⟨some d, .binOp .sub s x y u, t, p, af, g⟩) (hd : Nat.blt d n = true) (hg : Gd ops e g) (hx : ev e x = some (.int k a)) (hy : ev e y = some (.int k b))
  (h : XL P n ops dr (i :: done) r K ((d, .int k (k.wrap (a - b))) :: e) w) : XL P n ops dr done (i :: r) K e w :=
 x_bin ho hd hg (bk rfl) hx hy (fun w' => by simp [run_eqGuard_int, binOp, Op.intArith]) h
theorem x_mul (ho : ops[i]? = some ⟨some d, .binOp .mul s x y u, t, p, af, g⟩) (hd : Nat.blt d n = true) (hg : Gd ops e g) (hx : ev e x = some (.int k a)) (hy : ev e y = some (.int k b))
  (h : XL P n ops dr (i :: done) r K ((d, .int k (k.wrap (a * b))) :: e) w) : XL P n ops dr done (i :: r) K e w :=
 x_bin ho hd hg (bk rfl) hx hy (fun w' => by simp [run_eqGuard_int, binOp, Op.intArith]) h
theorem x_quo (ho : ops[i]? = some ⟨some d, .binOp .quo s x y u, t, p, af, g⟩) (hd : Nat.blt d n = true) (hg : Gd ops e g) (hx : ev e x = some (.int k a)) (hy : ev e y = some (.int k b)) (hb : b ≠ 0)
  (h : XL P n ops dr (i :: done) r K ((d, .int k (k.wrap (a.tdiv b))) :: e) w) : XL P n ops dr done (i :: r) K e w :=
 x_bin ho hd hg (bk rfl) hx hy (fun w' => by simp [run_eqGuard_int, binOp, Op.intDiv, hb]) h
theorem x_addi (ho : ops[i]? = some ⟨some d, .binOp .add s x y u, t, p, af, g⟩) (hd : Nat.blt d n = true) (hg : Gd ops e g) (hx : ev e x = some (.int .i64 a)) (hy : ev e y = some (.int .i64 b)) (hb : -9223372036854775808 ≤ a + b ∧ a + b ≤ 9223372036854775807)
  (h : XL P n ops dr (i :: done) r K ((d, .int .i64 (a + b)) :: e) w) : XL P n ops dr done (i :: r) K e w := x_add ho hd hg hx hy (by rw [wrap64 hb]; exact h)
theorem x_subi (ho : ops[i]? = some ⟨some d, .binOp .sub s x y u, t, p, af, g⟩) (hd : Nat.blt d n = true) (hg : Gd ops e g) (hx : ev e x = some (.int .i64 a)) (hy : ev e y = some (.int .i64 b)) (hb : -9223372036854775808 ≤ a - b ∧ a - b ≤ 9223372036854775807)
  (h : XL P n ops dr (i :: done) r K ((d, .int .i64 (a - b)) :: e) w) : XL P n ops dr done (i :: r) K e w := x_sub ho hd hg hx hy (by rw [wrap64 hb]; exact h)
theorem x_muli (ho : ops[i]? = some ⟨some d, .binOp .mul s x y u, t, p, af, g⟩) (hd : Nat.blt d n = true) (hg : Gd ops e g) (hx : ev e x = some (.int .i64 a)) (hy : ev e y = some (.int .i64 b)) (hb : -9223372036854775808 ≤ a * b ∧ a * b ≤ 9223372036854775807)
  (h : XL P n ops dr (i :: done) r K ((d, .int .i64 (a * b)) :: e) w) : XL P n ops dr done (i :: r) K e w := x_mul ho hd hg hx hy (by rw [wrap64 hb]; exact h)
theorem x_quoi (ho : ops[i]? = some ⟨some d, .binOp .quo s x y u, t, p, af, g⟩) (hd : Nat.blt d n = true) (hg : Gd ops e g) (hx : ev e x = some (.int .i64 a)) (hy : ev e y = some (.int .i64 b)) (ha : 0 ≤ a ∧ a ≤ 9223372036854775807) (hb : 1 ≤ b)
  (h : XL P n ops dr (i :: done) r K ((d, .int .i64 (a / b)) :: e) w) : XL P n ops dr done (i :: r) K e w := x_quo ho hd hg hx hy (by omega) (by
   have h1 : a.tdiv b = a / b := Int.tdiv_eq_ediv_of_nonneg ha.1
   have h2 : 0 ≤ a / b := Int.ediv_nonneg ha.1 (by omega)
   have h3 : a / b ≤ a := Int.ediv_le_self b ha.1
   rw [h1, wrap64 ⟨by omega, by omega⟩]; exact h)
theorem x_lt (ho : ops[i]? = some ⟨some d, .binOp .lss s x y u, t, p, af, g⟩) (hd : Nat.blt d n = true) (hg : Gd ops e g) (hx : ev e x = some (.int k a)) (hy : ev e y = some (.int k b))
  (h : XL P n ops dr (i :: done) r K ((d, .bool (decide (a < b))) :: e) w) : XL P n ops dr done (i :: r) K e w :=
 x_bin ho hd hg (bk rfl) hx hy (fun w' => by simp [run_eqGuard_int, binOp, Op.intCmp]) h
theorem x_le (ho : ops[i]? = some ⟨some d, .binOp .leq s x y u, t, p, af, g⟩) (hd : Nat.blt d n = true) (hg : Gd ops e g) (hx : ev e x = some (.int k a)) (hy : ev e y = some (.int k b))
  (h : XL P n ops dr (i :: done) r K ((d, .bool (decide (a ≤ b))) :: e) w) : XL P n ops dr done (i :: r) K e w :=
 x_bin ho hd hg (bk rfl) hx hy (fun w' => by simp [run_eqGuard_int, binOp, Op.intCmp]) h
theorem x_gt (ho : ops[i]? = some ⟨some d, .binOp .gtr s x y u, t, p, af, g⟩) (hd : Nat.blt d n = true) (hg : Gd ops e g) (hx : ev e x = some (.int k a)) (hy : ev e y = some (.int k b))
  (h : XL P n ops dr (i :: done) r K ((d, .bool (decide (b < a))) :: e) w) : XL P n ops dr done (i :: r) K e w :=
 x_bin ho hd hg (bk rfl) hx hy (fun w' => by simp [run_eqGuard_int, binOp, Op.intCmp]) h
theorem x_ge (ho : ops[i]? = some ⟨some d, .binOp .geq s x y u, t, p, af, g⟩) (hd : Nat.blt d n = true) (hg : Gd ops e g) (hx : ev e x = some (.int k a)) (hy : ev e y = some (.int k b))
  (h : XL P n ops dr (i :: done) r K ((d, .bool (decide (b ≤ a))) :: e) w) : XL P n ops dr done (i :: r) K e w :=
 x_bin ho hd hg (bk rfl) hx hy (fun w' => by simp [run_eqGuard_int, binOp, Op.intCmp]) h
theorem x_eq (ho : ops[i]? = some ⟨some d, .binOp .eql s x y u, t, p, af, g⟩) (hd : Nat.blt d n = true) (hg : Gd ops e g) (hk : okind P (.binOp .eql s x y u) = 0) (hx : ev e x = some (.int k a)) (hy : ev e y = some (.int k b))
  (h : XL P n ops dr (i :: done) r K ((d, .bool (decide (a = b))) :: e) w) : XL P n ops dr done (i :: r) K e w :=
 x_bin ho hd hg hk hx hy (fun w' => by simp [run_eqGuard_int, binOp, Op.intCmp]; by_cases h : a = b <;> simp [h]) h
theorem x_ne (ho : ops[i]? = some ⟨some d, .binOp .neq s x y u, t, p, af, g⟩) (hd : Nat.blt d n = true) (hg : Gd ops e g) (hk : okind P (.binOp .neq s x y u) = 0) (hx : ev e x = some (.int k a)) (hy : ev e y = some (.int k b))
  (h : XL P n ops dr (i :: done) r K ((d, .bool (decide (a ≠ b))) :: e) w) : XL P n ops dr done (i :: r) K e w :=
 x_bin ho hd hg hk hx hy (fun w' => by simp [run_eqGuard_int, binOp, Op.intCmp]; by_cases h : a = b <;> simp [h, bne]) h
theorem run_equal_ptrnil {c : TypeId} {q : Option Addr} (hs : P.underlying s = some (.pointer c)) (w : World) : (Op.equal s (.pointer q) (.pointer none)).run P w = .ok q.isNone w := by
 have : ∀ m, (Op.equalIn (m + 1) s (.pointer q) (.pointer none)).run P w = .ok q.isNone w := fun m => by
  cases q <;> simp [Op.equalIn, run_underlying hs]
 exact this 9999
theorem x_eqnil {c : TypeId} {q : Option Addr} (ho : ops[i]? = some ⟨some d, .binOp .eql s x (.const (.pointer none)) u, t, p, af, g⟩) (hd : Nat.blt d n = true) (hg : Gd ops e g) (hk : okind P (.binOp .eql s x (.const (.pointer none)) u) = 0)
  (hs : P.underlying s = some (.pointer c)) (hx : ev e x = some (.pointer q))
  (h : XL P n ops dr (i :: done) r K ((d, .bool q.isNone) :: e) w) : XL P n ops dr done (i :: r) K e w :=
 x_bin ho hd hg hk hx (show ev e (.const (.pointer none)) = some (.pointer none) from rfl) (fun w' => by
  have h0 : (eqGuard .eql s x (.const (.pointer none)) (.pointer q) (.pointer none)).run P w' = .ok () w' := by simp [eqGuard]
  have h1 : (binOp .eql s (.pointer q) (.pointer none)).run P w' = .ok (.bool q.isNone) w' := by
   simp only [binOp, Sem.run_bind, run_equal_ptrnil hs, Result.andThen_ok]; rfl
  simp only [Sem.run_bind, h0, h1, Result.andThen_ok]) h
theorem x_nenil {c : TypeId} {q : Option Addr} (ho : ops[i]? = some ⟨some d, .binOp .neq s x (.const (.pointer none)) u, t, p, af, g⟩) (hd : Nat.blt d n = true) (hg : Gd ops e g) (hk : okind P (.binOp .neq s x (.const (.pointer none)) u) = 0)
  (hs : P.underlying s = some (.pointer c)) (hx : ev e x = some (.pointer q))
  (h : XL P n ops dr (i :: done) r K ((d, .bool q.isSome) :: e) w) : XL P n ops dr done (i :: r) K e w :=
 x_bin ho hd hg hk hx (show ev e (.const (.pointer none)) = some (.pointer none) from rfl) (fun w' => by
  have h0 : (eqGuard .neq s x (.const (.pointer none)) (.pointer q) (.pointer none)).run P w' = .ok () w' := by simp [eqGuard]
  have h1 : (binOp .neq s (.pointer q) (.pointer none)).run P w' = .ok (.bool q.isSome) w' := by
   simp only [binOp, Sem.run_bind, run_equal_ptrnil hs, Result.andThen_ok]; cases q <;> rfl
  simp only [Sem.run_bind, h0, h1, Result.andThen_ok]) h
theorem run_equal_bool {q q' : Bool} (hs : P.underlying s = some .bool) (w : World) : (Op.equal s (.bool q) (.bool q')).run P w = .ok (decide (q = q')) w := by
 have : ∀ m, (Op.equalIn (m + 1) s (.bool q) (.bool q')).run P w = .ok (decide (q = q')) w := fun m => by
  simp [Op.equalIn, run_underlying hs]; cases q <;> cases q' <;> rfl
 exact this 9999
theorem x_eqb {q q' : Bool} (ho : ops[i]? = some ⟨some d, .binOp .eql s x y u, t, p, af, g⟩) (hd : Nat.blt d n = true) (hg : Gd ops e g) (hk : okind P (.binOp .eql s x y u) = 0) (hs : P.underlying s = some .bool) (hx : ev e x = some (.bool q)) (hy : ev e y = some (.bool q'))
  (h : XL P n ops dr (i :: done) r K ((d, .bool (decide (q = q'))) :: e) w) : XL P n ops dr done (i :: r) K e w :=
 x_bin ho hd hg hk hx hy (fun w' => by
  have h0 : (eqGuard .eql s x y (.bool q) (.bool q')).run P w' = .ok () w' := by simp [eqGuard]
  have h1 : (binOp .eql s (.bool q) (.bool q')).run P w' = .ok (.bool (decide (q = q'))) w' := by simp only [binOp, Sem.run_bind, run_equal_bool hs, Result.andThen_ok]; rfl
  simp only [Sem.run_bind, h0, h1, Result.andThen_ok]) h
theorem x_neb {q q' : Bool} (ho : ops[i]? = some ⟨some d, .binOp .neq s x y u, t, p, af, g⟩) (hd : Nat.blt d n = true) (hg : Gd ops e g) (hk : okind P (.binOp .neq s x y u) = 0) (hs : P.underlying s = some .bool) (hx : ev e x = some (.bool q)) (hy : ev e y = some (.bool q'))
  (h : XL P n ops dr (i :: done) r K ((d, .bool (decide (q ≠ q'))) :: e) w) : XL P n ops dr done (i :: r) K e w :=
 x_bin ho hd hg hk hx hy (fun w' => by
  have h0 : (eqGuard .neq s x y (.bool q) (.bool q')).run P w' = .ok () w' := by simp [eqGuard]
  have h1 : (binOp .neq s (.bool q) (.bool q')).run P w' = .ok (.bool (decide (q ≠ q'))) w' := by simp only [binOp, Sem.run_bind, run_equal_bool hs, Result.andThen_ok]; cases q <;> cases q' <;> rfl
  simp only [Sem.run_bind, h0, h1, Result.andThen_ok]) h
theorem x_not {q : Bool} (ho : ops[i]? = some ⟨some d, .unOp .not s x, t, p, af, g⟩) (hd : Nat.blt d n = true) (hg : Gd ops e g) (hx : ev e x = some (.bool q))
  (h : XL P n ops dr (i :: done) r K ((d, .bool (!q)) :: e) w) : XL P n ops dr done (i :: r) K e w :=
 xl_pure ho (by simpa [dstOk] using hd) hg (ρ := rh e) (by intro z hZ; simp [Op.operands] at hZ; exact oh1 hx hZ) rfl (v := .bool (!q)) (fun w' => by simp [execOp, rh_of hx, Op.unary]) h
theorem x_notp {q : Prop} [Decidable q] (ho : ops[i]? = some ⟨some d, .unOp .not s x, t, p, af, g⟩) (hd : Nat.blt d n = true) (hg : Gd ops e g) (hx : ev e x = some (.bool (decide q)))
  (h : XL P n ops dr (i :: done) r K ((d, .bool (decide (¬ q))) :: e) w) : XL P n ops dr done (i :: r) K e w :=
 x_not ho hd hg hx (by rw [show (!decide q) = decide (¬ q) by simp]; exact h)
theorem x_neg (ho : ops[i]? = some ⟨some d, .unOp .neg s x, t, p, af, g⟩) (hd : Nat.blt d n = true) (hg : Gd ops e g) (hx : ev e x = some (.int k a))
  (h : XL P n ops dr (i :: done) r K ((d, .int k (k.wrap (0 - a))) :: e) w) : XL P n ops dr done (i :: r) K e w :=
 xl_pure ho (by simpa [dstOk] using hd) hg (ρ := rh e) (by intro z hZ; simp [Op.operands] at hZ; exact oh1 hx hZ) rfl (v := .int k (k.wrap (0 - a))) (fun w' => by simp [execOp, rh_of hx, Op.unary, Op.intArith]) h
theorem x_conv {k' : IntKind} {D : TypeDesc} (ho : ops[i]? = some ⟨some d, .convert s u x, t, p, af, g⟩) (hd : Nat.blt d n = true) (hg : Gd ops e g) (hk : okind P (.convert s u x) = 0) (hs : P.underlying s = some D) (hu : P.underlying u = some (.int k')) (hx : ev e x = some (.int k a))
  (h : XL P n ops dr (i :: done) r K ((d, .int k' (k'.wrap a)) :: e) w) : XL P n ops dr done (i :: r) K e w :=
 xl_pure ho (by simpa [dstOk] using hd) hg (ρ := rh e) (by intro z hZ; simp [Op.operands] at hZ; exact oh1 hx hZ) hk (v := .int k' (k'.wrap a))
  (fun w' => by simp [execOp, rh_of hx, convert, run_underlying hs, run_underlying hu, Conv.intToInt]) h
theorem x_nc {q : Addr} (ho : ops[i]? = some ⟨some d, .nilCheck x, t, p, af, g⟩) (hd : Nat.blt d n = true) (hg : Gd ops e g) (hx : ev e x = some (.pointer (some q)))
  (h : XL P n ops dr (i :: done) r K ((d, .pointer (some q)) :: e) w) : XL P n ops dr done (i :: r) K e w :=
 xl_pure ho (by simpa [dstOk] using hd) hg (ρ := rh e) (by intro z hZ; simp [Op.operands] at hZ; exact oh1 hx hZ) rfl (v := .pointer (some q)) (fun w' => by simp [execOp, rh_of hx]) h
theorem x_ext {j : Nat} {vs : Array Value} {v : Value} (ho : ops[i]? = some ⟨some d, .extract x j, t, p, af, g⟩) (hd : Nat.blt d n = true) (hg : Gd ops e g) (hx : ev e x = some (.tuple vs)) (hv : vs.toList[j]? = some v)
  (h : XL P n ops dr (i :: done) r K ((d, v) :: e) w) : XL P n ops dr done (i :: r) K e w :=
 xl_pure ho (by simpa [dstOk] using hd) hg (ρ := rh e) (by intro z hZ; simp [Op.operands] at hZ; exact oh1 hx hZ) rfl (v := v) (fun w' => by
  have hv' : vs[j]? = some v := by simpa using hv
  simp [execOp, rh_of hx, Instr.extract, hv']) h
theorem x_mkf {f : Fn} {c1 c2 : Array Operand} {v1 v2 : Array Value} (ho : ops[i]? = some ⟨some d, .makeFunc f c1 c2, t, p, af, g⟩) (hd : Nat.blt d n = true) (hg : Gd ops e g) (hx : ∀ z ∈ c1 ++ c2, ∃ v, ev e z = some v)
  (h1 : c1.map (rh e) = v1) (h2 : c2.map (rh e) = v2) (h : XL P n ops dr (i :: done) r K ((d, .func f v1 v2) :: e) w) : XL P n ops dr done (i :: r) K e w :=
 xl_pure ho (by simpa [dstOk] using hd) hg (ρ := rh e) (by intro z hz; obtain ⟨v, hv⟩ := hx z hz; exact rh_k hv) rfl (v := .func f v1 v2) (fun w' => by simp [execOp, Instr.makeFunc, h1, h2]) h
theorem add_lit {b o k : Nat} : (⟨b, o, none⟩ : Addr).add k = ⟨b, o + k, none⟩ := by unfold Addr.add; split <;> simp_all
def fieldOff (P : Program) (s : TypeId) (f : Nat) : Option Nat :=
 match P.underlying s with
 | some (.struct fs) => match fs[f]? with
  | some fl => match P.info? fl.type with
   | some inf => if inf.size = 0 then none else some fl.offset
   | none => none
  | none => none
 | _ => none
theorem run_fieldAt {f b o k : Nat} (hf : fieldOff P s f = some k) (w : World) : (Instr.fieldAt s (.pointer (some ⟨b, o, none⟩)) f).run P w = .ok (.pointer (some ⟨b, o + k, none⟩)) w := by
 unfold fieldOff at hf
 split at hf
 ·rename_i fs hs
  split at hf
  ·rename_i fl hfl
   split at hf
   ·rename_i inf hinf
    split at hf
    ·cases hf
    rename_i h0
    cases hf
    simp [Instr.fieldAt, run_underlying hs, hfl, Instr.sureAddr, fieldPlace, sizeOf, typeInfo, hinf, h0, add_lit]
   cases hf
  cases hf
 cases hf
theorem x_fldk {f b o k : Nat} (ho : ops[i]? = some ⟨some d, .fieldAddr s x f, t, p, af, g⟩) (hd : Nat.blt d n = true) (hg : Gd ops e g) (hf : fieldOff P s f = some k) (hx : ev e x = some (.pointer (some ⟨b, o, none⟩)))
  (h : XL P n ops dr (i :: done) r K ((d, .pointer (some ⟨b, o + k, none⟩)) :: e) w) : XL P n ops dr done (i :: r) K e w :=
 xl_pure ho (by simpa [dstOk] using hd) hg (ρ := rh e) (by intro z hZ; simp [Op.operands] at hZ; exact oh1 hx hZ) rfl (v := .pointer (some ⟨b, o + k, none⟩)) (fun w' => by simp only [execOp, rh_of hx, Sem.run_bind, run_fieldAt hf]; rfl) h
theorem x_fld {f b k : Nat} (ho : ops[i]? = some ⟨some d, .fieldAddr s x f, t, p, af, g⟩) (hd : Nat.blt d n = true) (hg : Gd ops e g) (hf : fieldOff P s f = some k) (hx : ev e x = some (.pointer (some ⟨b, 0, none⟩)))
  (h : XL P n ops dr (i :: done) r K ((d, .pointer (some ⟨b, k, none⟩)) :: e) w) : XL P n ops dr done (i :: r) K e w := x_fldk ho hd hg hf hx (by rw [Nat.zero_add]; exact h)
theorem x_idx {c : TypeId} {b o len cap z : Nat} (ho : ops[i]? = some ⟨some d, .indexAddr s x y, t, p, af, g⟩) (hd : Nat.blt d n = true) (hg : Gd ops e g) (hs : P.underlying s = some (.slice c)) (hz : (P.info? c).map (·.size) = some z)
  (hx : ev e x = some (.slice (some ⟨b, o, none⟩) len cap)) (hy : ev e y = some (.int k a)) (ha : 0 ≤ a ∧ a < len)
  (h : XL P n ops dr (i :: done) r K ((d, .pointer (some ⟨b, o + a.toNat * z, none⟩)) :: e) w) : XL P n ops dr done (i :: r) K e w :=
 xl_pure ho (by simpa [dstOk] using hd) hg (ρ := rh e) (by intro z hZ; simp [Op.operands] at hZ; exact oh2 hx hy hZ) rfl (v := .pointer (some ⟨b, o + a.toNat * z, none⟩)) (fun w' => by
  cases hi : P.info? c with
  | none => simp [hi] at hz
  | some inf =>
   have hsz : inf.size = z := by simpa [hi] using hz
   simp [execOp, rh_of hx, rh_of hy, Instr.indexAt, asIntOf, run_underlying hs, ha.1, ha.2, sizeOf, typeInfo, hi, hsz, add_lit]) h
theorem x_idx1 {c : TypeId} {b o len cap : Nat} (ho : ops[i]? = some ⟨some d, .indexAddr s x y, t, p, af, g⟩) (hd : Nat.blt d n = true) (hg : Gd ops e g) (hs : P.underlying s = some (.slice c)) (hz : (P.info? c).map (·.size) = some 1)
  (hx : ev e x = some (.slice (some ⟨b, o, none⟩) len cap)) (hy : ev e y = some (.int k a)) (ha : 0 ≤ a ∧ a < len)
  (h : XL P n ops dr (i :: done) r K ((d, .pointer (some ⟨b, o + a.toNat, none⟩)) :: e) w) : XL P n ops dr done (i :: r) K e w := x_idx ho hd hg hs hz hx hy ha (by rw [Nat.mul_one]; exact h)
theorem x_len {c : TypeId} {q : Option Addr} {len cap : Nat} (ho : ops[i]? = some ⟨some d, .call ⟨.builtin .len, #[x], #[s]⟩, t, p, af, g⟩) (hd : Nat.blt d n = true) (hg : Gd ops e g) (hk : okind P (.call ⟨.builtin .len, #[x], #[s]⟩) = 0) (hs : P.underlying s = some (.slice c))
  (hx : ev e x = some (.slice q len cap)) (h : XL P n ops dr (i :: done) r K ((d, .int .i64 len) :: e) w) : XL P n ops dr done (i :: r) K e w :=
 xl_pure ho (by simpa [dstOk] using hd) hg (ρ := rh e) (by intro z hZ; simp [Op.operands, Call.operands] at hZ; exact oh1 hx hZ) hk (v := .int .i64 len)
  (fun w' => by simp [execOp, resolve, invoke, builtin, rh_of hx, Builtin.len_, run_underlying hs, goInt]) h
theorem x_min2 {as' : Array TypeId} (ho : ops[i]? = some ⟨some d, .call ⟨.builtin .min, #[x, y], as'⟩, t, p, af, g⟩) (hd : Nat.blt d n = true) (hg : Gd ops e g) (hx : ev e x = some (.int k a)) (hy : ev e y = some (.int k b))
  (h : XL P n ops dr (i :: done) r K ((d, .int k (min a b)) :: e) w) : XL P n ops dr done (i :: r) K e w :=
 xl_pure ho (by simpa [dstOk] using hd) hg (ρ := rh e) (by intro z hZ; simp [Op.operands, Call.operands] at hZ; exact oh2 hx hy hZ) rfl (v := .int k (min a b))
  (fun w' => by simp [execOp, resolve, invoke, builtin, rh_of hx, rh_of hy, Builtin.min_, Builtin.min2]; split <;> omega) h
theorem x_max2 {as' : Array TypeId} (ho : ops[i]? = some ⟨some d, .call ⟨.builtin .max, #[x, y], as'⟩, t, p, af, g⟩) (hd : Nat.blt d n = true) (hg : Gd ops e g) (hx : ev e x = some (.int k a)) (hy : ev e y = some (.int k b))
  (h : XL P n ops dr (i :: done) r K ((d, .int k (max a b)) :: e) w) : XL P n ops dr done (i :: r) K e w :=
 xl_pure ho (by simpa [dstOk] using hd) hg (ρ := rh e) (by intro z hZ; simp [Op.operands, Call.operands] at hZ; exact oh2 hx hy hZ) rfl (v := .int k (max a b))
  (fun w' => by simp [execOp, resolve, invoke, builtin, rh_of hx, rh_of hy, Builtin.max_, Builtin.max2]; split <;> omega) h
theorem run_bound {k : IntKind} {v : Int} {y : Nat} {c : BoundsCode} (h0 : 0 ≤ v ∧ v ≤ y) (w : World) : (Instr.sliceBound (.int k v) y c).run P w = .ok v.toNat w := by
 simp [Instr.sliceBound, asIntOf, h0.1, h0.2]
theorem x_cut {c : TypeId} {b o len cap z : Nat} {lo hi : Int} {kl kh : IntKind} {l h' : Operand} (ho : ops[i]? = some ⟨some d, .slice s x (some l) (some h') none, t, p, af, g⟩) (hd : Nat.blt d n = true) (hg : Gd ops e g) (hs : P.underlying s = some (.slice c)) (hz : (P.info? c).map (·.size) = some z)
  (hx : ev e x = some (.slice (some ⟨b, o, none⟩) len cap)) (hl : ev e l = some (.int kl lo)) (hh : ev e h' = some (.int kh hi)) (hb : 0 ≤ lo ∧ lo ≤ hi ∧ hi ≤ cap) (hlc : lo < cap)
  (h : XL P n ops dr (i :: done) r K ((d, .slice (some ⟨b, o + lo.toNat * z, none⟩) (hi.toNat - lo.toNat) (cap - lo.toNat)) :: e) w) : XL P n ops dr done (i :: r) K e w :=
 xl_pure ho (by simpa [dstOk] using hd) hg (ρ := rh e) (by intro z hZ; simp [Op.operands] at hZ; exact oh3 hx hl hh hZ) rfl
  (v := .slice (some ⟨b, o + lo.toNat * z, none⟩) (hi.toNat - lo.toNat) (cap - lo.toNat)) (fun w' => by
   cases hi' : P.info? c with
   | none => simp [hi'] at hz
   | some inf =>
    have hsz : inf.size = z := by simpa [hi'] using hz
    have h1 := run_bound (P := P) (k := kh) (v := hi) (y := cap) (c := .sliceAcap) ⟨by omega, hb.2.2⟩ w'
    have h2 := run_bound (P := P) (k := kl) (v := lo) (y := hi.toNat) (c := .sliceB) ⟨hb.1, by omega⟩ w'
    have hne : ¬ cap = lo.toNat := by omega
    simp [execOp, rh_of hx, rh_of hl, rh_of hh, Instr.sliceAt, Instr.slice, Instr.sliceBounds, run_underlying hs, h1, h2, sizeOf, typeInfo, hi', hsz, hne, add_lit]) h
theorem x_cutH {c : TypeId} {q : Option Addr} {len cap : Nat} {hi : Int} {kh : IntKind} {h' : Operand} (ho : ops[i]? = some ⟨some d, .slice s x none (some h') none, t, p, af, g⟩) (hd : Nat.blt d n = true) (hg : Gd ops e g) (hs : P.underlying s = some (.slice c)) (hz : ((P.info? c).map (·.size)).isSome = true)
  (hx : ev e x = some (.slice q len cap)) (hq : ∀ a, q = some a → a.spot = none) (hh : ev e h' = some (.int kh hi)) (hb : 0 ≤ hi ∧ hi ≤ cap)
  (h : XL P n ops dr (i :: done) r K ((d, .slice q hi.toNat cap) :: e) w) : XL P n ops dr done (i :: r) K e w :=
 xl_pure ho (by simpa [dstOk] using hd) hg (ρ := rh e) (by intro z hZ; simp [Op.operands] at hZ; exact oh2 hx hh hZ) rfl
  (v := .slice q hi.toNat cap) (fun w' => by
   cases hi' : P.info? c with
   | none => simp [hi'] at hz
   | some inf =>
    have h1 := run_bound (P := P) (k := kh) (v := hi) (y := cap) (c := .sliceAcap) hb w'
    cases q with
    | none => simp [execOp, rh_of hx, rh_of hh, Instr.sliceAt, Instr.slice, Instr.sliceBounds, run_underlying hs, h1, sizeOf, typeInfo, hi']
    | some a => simp [execOp, rh_of hx, rh_of hh, Instr.sliceAt, Instr.slice, Instr.sliceBounds, run_underlying hs, h1, sizeOf, typeInfo, hi', Addr.add]) h
theorem x_cutL {c : TypeId} {b o len cap z : Nat} {lo : Int} {kl : IntKind} {l : Operand} (ho : ops[i]? = some ⟨some d, .slice s x (some l) none none, t, p, af, g⟩) (hd : Nat.blt d n = true) (hg : Gd ops e g) (hs : P.underlying s = some (.slice c)) (hz : (P.info? c).map (·.size) = some z)
  (hx : ev e x = some (.slice (some ⟨b, o, none⟩) len cap)) (hl : ev e l = some (.int kl lo)) (hb : 0 ≤ lo ∧ lo ≤ len) (hlc : lo < cap)
  (h : XL P n ops dr (i :: done) r K ((d, .slice (some ⟨b, o + lo.toNat * z, none⟩) (len - lo.toNat) (cap - lo.toNat)) :: e) w) : XL P n ops dr done (i :: r) K e w :=
 xl_pure ho (by simpa [dstOk] using hd) hg (ρ := rh e) (by intro z hZ; simp [Op.operands] at hZ; exact oh2 hx hl hZ) rfl
  (v := .slice (some ⟨b, o + lo.toNat * z, none⟩) (len - lo.toNat) (cap - lo.toNat)) (fun w' => by
   cases hi' : P.info? c with
   | none => simp [hi'] at hz
   | some inf =>
    have hsz : inf.size = z := by simpa [hi'] using hz
    have h2 := run_bound (P := P) (k := kl) (v := lo) (y := len) (c := .sliceB) hb w'
    have hne : ¬ cap = lo.toNat := by omega
    simp [execOp, rh_of hx, rh_of hl, Instr.sliceAt, Instr.slice, Instr.sliceBounds, run_underlying hs, h2, sizeOf, typeInfo, hi', hsz, hne, add_lit]) h
theorem x_build {ps : Array (Nat × Operand)} {vs : List Value} {v : Value} (ho : ops[i]? = some ⟨some d, .build s ps, t, p, af, g⟩) (hd : Nat.blt d n = true) (hg : Gd ops e g) (hx : evs e (ps.toList.map (·.2)) = some vs)
  (hr : ∀ w', (Instr.build s ((ps.toList.map (·.1)).zip vs).toArray).run P w' = .ok v w')
  (h : XL P n ops dr (i :: done) r K ((d, v) :: e) w) : XL P n ops dr done (i :: r) K e w := by
 obtain ⟨hk, hm⟩ := evs_mem hx
 refine xl_pure ho (by simpa [dstOk] using hd) hg (ρ := rh e) (by intro z hz; exact hk z (by simpa [Op.operands] using hz)) rfl (v := v) (fun w' => ?_) h
 have e1 : (ps.map fun (j, z) => (j, rh e z)) = ((ps.toList.map (·.1)).zip vs).toArray := by
  apply Array.ext'
  rw [← hm]
  simp only [Array.toList_map]
  generalize ps.toList = q
  induction q with
  | nil => rfl
  | cons x q ih => obtain ⟨a, b⟩ := x; simp only [List.map_cons, List.zip_cons_cons, ih]
 simp only [execOp, e1, Sem.run_bind, hr]; rfl
end
def blk (b : Nat) (l : List Value) (T : TypeId) : Assn := pt b (.cells l.toArray T (0, 0))
def Rd (w : World) (a : Addr) (cs : List Value) : Prop := ∀ j u, cs[j]? = some u → w.cell? (a.add j) = some u
def aggB (P : Program) (t : TypeId) : Bool := match P.underlying t with | some (.struct _) | some (.array _ _) => true | _ => false
def oneB (P : Program) (t : TypeId) : Bool := (P.underlying t).isSome && !aggB P t && (P.info? t).any (·.size == 1)
def manyB (P : Program) (t : TypeId) (z : Nat) : Bool := aggB P t && (P.info? t).any (·.size == z)
def zeroOf (P : Program) (t : TypeId) : Option (Array Value) := (P.info? t).bind fun i => i.zero.map Value.cells
def rep (n : Nat) (v : Value) : List Value := List.replicate n v
@[simp] theorem rep_length (n : Nat) (v : Value) : (rep n v).length = n := List.length_replicate ..
section
variable {P : Program} {w : World} {t : TypeId} {a : Addr} {v : Value} {g : Gh} {L R : List Assn} {b o : Nat} {l : List Value} {T : TypeId}
theorem run_isAgg {x : Bool} (h : aggB P t = x) (hs : (P.underlying t).isSome = true) (w : World) : (isAgg t).run P w = .ok x w := by
 cases hu : P.underlying t with
 | none => rw [hu] at hs; cases hs
 | some d =>
  unfold aggB at h; rw [hu] at h
  unfold isAgg
  rw [Sem.run_bind, run_underlying hu w]
  cases d <;> simp_all
theorem oneB_spec (h : oneB P t = true) : (P.underlying t).isSome = true ∧ aggB P t = false ∧ ∃ i, P.info? t = some i ∧ i.size = 1 := by
 simp only [oneB, Bool.and_eq_true, Bool.not_eq_true', Option.any_eq_true] at h
 obtain ⟨⟨h1, h2⟩, i, hi, h3⟩ := h
 exact ⟨h1, h2, i, hi, by simpa using h3⟩
theorem manyB_spec {z : Nat} (h : manyB P t z = true) : (P.underlying t).isSome = true ∧ aggB P t = true ∧ ∃ i, P.info? t = some i ∧ i.size = z := by
 simp only [manyB, Bool.and_eq_true, Option.any_eq_true] at h
 obtain ⟨h1, i, hi, h3⟩ := h
 refine ⟨?_, h1, i, hi, by simpa using h3⟩
 unfold aggB at h1
 cases hu : P.underlying t with
 | none => rw [hu] at h1; cases h1
 | some d => rfl
theorem cell_blk (h : Sat g L w) (p : Pick (blk b l T) L R) : w.cell? ⟨b, o, none⟩ = l[o]? := by
 rw [cell_of_row w b o _ _ _ (h.pt p)]; simp
theorem Rd.of_blk (h : Sat g L w) (p : Pick (blk b l T) L R) : Rd w ⟨b, o, none⟩ (l.drop o) := fun j u hu => by
 rw [add_lit, cell_blk h p]; simpa [List.getElem?_drop] using hu
theorem Rd.take {cs : List Value} (h : Rd w a cs) (m : Nat) : Rd w a (cs.take m) := fun j u hu => by
 rw [List.getElem?_take] at hu
 split at hu
 ·exact h j u hu
 cases hu
theorem Rd.drop {cs : List Value} {b o : Nat} (h : Rd w ⟨b, o, none⟩ cs) (m : Nat) : Rd w ⟨b, o + m, none⟩ (cs.drop m) := fun j u hu => by
 rw [add_lit, Nat.add_assoc, ← add_lit]; exact h (m + j) u (by simpa [List.getElem?_drop] using hu)
theorem Rd.nil {a : Addr} : Rd w a [] := fun j u hu => by simp at hu
theorem Rd.one {b o : Nat} {u : Value} (h : w.cell? ⟨b, o, none⟩ = some u) : Rd w ⟨b, o, none⟩ [u] := fun j x hx => by
 rw [add_lit]
 cases j with
 | zero => simp at hx; subst hx; exact h
 | succ j => simp at hx
theorem Loads.one (h : oneB P t = true) (hc : w.cell? a = some v) : Loads P w t a v := by
 obtain ⟨h1, h2, _⟩ := oneB_spec h
 unfold Loads loadVar
 rw [Sem.run_bind, run_isAgg h2 h1]
 simp [load, Sem.run, hc]
theorem Loads.many {z : Nat} {cs : List Value} (h : manyB P t z = true) (hz : cs.length = z) (hr : Rd w a cs) : Loads P w t a (.agg cs.toArray) := by
 obtain ⟨h1, h2, i, hi, hs⟩ := manyB_spec h
 unfold Loads loadVar
 rw [Sem.run_bind, run_isAgg h2 h1]
 have hl := run_loadCells_list (P := P) w a cs hr
 simp [sizeOf, typeInfo, hi, hs, ← hz, hl]
theorem Loads.blk1 (h : oneB P t = true) (hw : Sat g L w) (p : Pick (blk b l T) L R) (hv : l[o]? = some v) : Loads P w t ⟨b, o, none⟩ v := Loads.one h (by rw [cell_blk hw p]; exact hv)
theorem Loads.blkN {z : Nat} {cs : List Value} (h : manyB P t z = true) (hw : Sat g L w) (p : Pick (blk b l T) L R) (hv : (l.drop o).take z = cs) (hz : cs.length = z) : Loads P w t ⟨b, o, none⟩ (.agg cs.toArray) :=
 Loads.many h hz (by rw [← hv]; exact (Rd.of_blk hw p).take z)
theorem Loads.blkA {z : Nat} (h : manyB P t z = true) (hw : Sat g L w) (p : Pick (blk b l T) L R) (hz : l.length = z) : Loads P w t ⟨b, 0, none⟩ (.agg l.toArray) :=
 Loads.many h hz (by have := Rd.of_blk (o := 0) hw p; simpa using this)
def Ones (cs : List Value) : Prop := ∀ u ∈ cs, u.oneCell' = true
theorem setRow_eq (h : w.heap[b]? = some (.cells l.toArray T (0, 0))) (c : Array Value) : w.setRow b c = { w with heap := w.heap.setIfInBounds b (.cells c T (0, 0)) } := by
 have hlt := (Array.getElem?_eq_some_iff.1 h).1
 have hget : w.heap[b] = .cells l.toArray T (0, 0) := by simpa [Array.getElem?_eq_getElem hlt] using h
 unfold World.setRow
 congr 1
 apply Array.ext
 ·simp
 intro i h1 h2
 by_cases e : b = i
 ·subst e; simp [Array.getElem_modify, hget]
 rw [Array.getElem_modify, if_neg e, Array.getElem_setIfInBounds, if_neg e]
theorem Sat.setBlk (h : Sat g L w) (p : Pick (blk b l T) L R) (l' : List Value) : Sat g (blk b l' T :: R) (w.setRow b l'.toArray) := by
 have h1 := h.pick p
 rw [setRow_eq h1.pt_head]
 exact h1.set _
theorem run_storeBlk (h : Sat g L w) (p : Pick (blk b l T) L R) {cs : List Value} (h1 : Ones cs) (hl : o + cs.length ≤ l.length) :
  (storeCells ⟨b, o, none⟩ cs).run P w = .ok () (w.setRow b (l.take o ++ cs ++ l.drop (o + cs.length)).toArray) := by
 have := run_storeCells_at P b o T cs 0 l.toArray w (h.pt p) (by simpa using hl) h1
 simpa using this
end
section
variable {P : Program} {n : Nat} {ops : Array Oper} {dr : Bool} {done r : List Nat} {K : Env → World → Prop} {e : Env} {w : World} {i d : Nat} {t : TypeId} {p : String} {af : Array Edge} {g : Option (Nat × Bool)}
variable {G : Gh} {L R : List Assn} {s T : TypeId} {x y : Operand} {b o : Nat} {l : List Value} {v : Value}
theorem noPend {dst : Option Tmp} {v : Value} {w' : World} (hp : pend P ops dr done i = []) : ∀ q ∈ pend P ops dr done i, ChkE P n ops q (putE e dst v) w' := fun q hq => by rw [hp] at hq; cases hq
theorem pend_mem {q : Nat} {l : List Nat} (h : pend P ops dr done i = l) (hq : q ∈ pend P ops dr done i) : q ∈ l := h ▸ hq
theorem chk_ld {q d : Nat} {a : Addr} {gq : Option (Nat × Bool)} {pq : String} {aq : Array Edge} {tq : TypeId} (ho : ops[q]? = some ⟨some d, .load s x, tq, pq, aq, gq⟩) (hx : ev e x = some (.pointer (some a))) (hv : get e d = some v) (hl : Loads P w s a v) :
  ChkE P n ops q e w := by
 intro o' ho' a' ha hwant
 have : o' = ⟨some d, .load s x, tq, pq, aq, gq⟩ := Option.some.inj (ho'.symm.trans ho)
 subst this
 refine ⟨v, ?_, fun d' hd' => ?_⟩
 ·have hxa := ha.ev hx
  unfold Loads at hl
  simp only [execOp, hxa, Instr.loadAt, Instr.sureAddr, Sem.run_bind, Sem.run_pure, Result.andThen_ok, hl]
 cases hd'; exact ha.get d v hv
theorem chk_not {q j dj : Nat} {want b : Bool} {oq : Oper} (ho : ops[q]? = some oq) (hg : oq.guard = some (j, want)) (hj : (ops[j]?).bind (·.dst) = some dj) (hv : get e dj = some (.bool b)) (hb : b = !want) : ChkE P n ops q e w := by
 intro o' ho' a' ha hwant
 have : o' = oq := Option.some.inj (ho'.symm.trans ho)
 subst this
 simp [Region.wanted, hg, yielded_of ha hj hv, hb] at hwant
theorem x_ld {a : Addr} (ho : ops[i]? = some ⟨some d, .load s x, t, p, af, g⟩) (hd : Nat.blt d n = true) (hg : Gd ops e g) (hx : ev e x = some (.pointer (some a))) (hl : Loads P w s a v)
  (h : XL P n ops dr (i :: done) r K ((d, v) :: e) w) : XL P n ops dr done (i :: r) K e w :=
 xl_read ho (by simpa [dstOk] using hd) hg (ρ := rh e) (by intro z hZ; simp [Op.operands] at hZ; exact oh1 hx hZ) rfl (v := v)
  (by unfold Loads at hl; simp only [execOp, rh_of hx, Instr.loadAt, Instr.sureAddr, Sem.run_bind, Sem.run_pure, Result.andThen_ok, hl]) h
theorem x_st1P {l' : List Value} (ho : ops[i]? = some ⟨none, .store s x y, t, p, af, g⟩) (hg : Gd ops e g) (hx : ev e x = some (.pointer (some ⟨b, o, none⟩))) (hy : ev e y = some v) (h1 : oneB P s = true) (hv : v.oneCell' = true)
  (hw : Sat G L w) (hp : Pick (blk b l T) L R) (hol : Nat.blt o l.length = true) (hl' : l.set o v = l')
  (hpd : ∀ w', Sat G (blk b l' T :: R) w' → ∀ q ∈ pend P ops dr done i, ChkE P n ops q e w')
  (h : ∀ w', Sat G (blk b l' T :: R) w' → XL P n ops dr (i :: done) r K e w') : XL P n ops dr done (i :: r) K e w := by
 subst hl'
 have hol' : o < l.length := by simpa using hol
 have hs : Sat G (blk b (l.set o v) T :: R) (w.setRow b (l.set o v).toArray) := hw.setBlk hp _
 refine xl_effu ho rfl hg (ρ := rh e) (by intro z hZ; simp [Op.operands] at hZ; exact oh2 hx hy hZ) rfl (w' := w.setRow b (l.set o v).toArray) ?_ (hpd _ hs) (h _ hs)
 obtain ⟨_, _, inf, hi, hsz⟩ := oneB_spec h1
 have hcs : v.cells = #[v] := by cases v <;> first | rfl | (simp [Value.oneCell'] at hv)
 have hst := run_storeBlk (P := P) (o := o) (cs := [v]) hw hp (fun u hu => by simp at hu; subst hu; exact hv) (by simp; omega)
 have hset : l.take o ++ [v] ++ l.drop (o + [v].length) = l.set o v := by
  rw [List.set_eq_take_append_cons_drop, if_pos hol']; simp
 rw [hset] at hst
 simp only [execOp, rh_of hx, rh_of hy, Instr.storeAt, Instr.sureAddr, storeVar, Sem.run_bind, Sem.run_pure, Result.andThen_ok, sizeOf, typeInfo, program, hi, Sem.run, hcs, hsz]
 simp [hst]
theorem x_st1 {l' : List Value} (ho : ops[i]? = some ⟨none, .store s x y, t, p, af, g⟩) (hg : Gd ops e g) (hx : ev e x = some (.pointer (some ⟨b, o, none⟩))) (hy : ev e y = some v) (h1 : oneB P s = true) (hv : v.oneCell' = true)
  (hw : Sat G L w) (hp : Pick (blk b l T) L R) (hol : Nat.blt o l.length = true) (hl' : l.set o v = l') (hpd : pend P ops dr done i = [])
  (h : ∀ w', Sat G (blk b l' T :: R) w' → XL P n ops dr (i :: done) r K e w') : XL P n ops dr done (i :: r) K e w :=
 x_st1P ho hg hx hy h1 hv hw hp hol hl' (fun w' _ => noPend (dst := none) (v := undef) hpd) h
theorem x_stNP {z : Nat} {cs l' : List Value} (ho : ops[i]? = some ⟨none, .store s x y, t, p, af, g⟩) (hg : Gd ops e g) (hx : ev e x = some (.pointer (some ⟨b, o, none⟩))) (hy : ev e y = some (.agg cs.toArray)) (h1 : manyB P s z = true) (hz : cs.length = z) (hv : Ones cs)
  (hw : Sat G L w) (hp : Pick (blk b l T) L R) (hol : o + z ≤ l.length) (hl' : l.take o ++ cs ++ l.drop (o + z) = l') (hpd : ∀ w', Sat G (blk b l' T :: R) w' → ∀ q ∈ pend P ops dr done i, ChkE P n ops q e w')
  (h : ∀ w', Sat G (blk b l' T :: R) w' → XL P n ops dr (i :: done) r K e w') : XL P n ops dr done (i :: r) K e w := by
 subst hl'
 refine xl_effu ho rfl hg (ρ := rh e) (by intro z hZ; simp [Op.operands] at hZ; exact oh2 hx hy hZ) rfl (w' := w.setRow b (l.take o ++ cs ++ l.drop (o + z)).toArray) ?_ (hpd _ (hw.setBlk hp _)) (h _ (hw.setBlk hp _))
 obtain ⟨_, _, inf, hi, hsz⟩ := manyB_spec h1
 have hst := run_storeBlk (P := P) (o := o) (cs := cs) hw hp hv (by omega)
 rw [hz] at hst
 simp only [execOp, rh_of hx, rh_of hy, Instr.storeAt, Instr.sureAddr, storeVar, Sem.run_bind, Sem.run_pure, Result.andThen_ok, sizeOf, typeInfo, program, hi, Sem.run, Value.cells, hsz]
 simp [hz, hst]
theorem x_stN {z : Nat} {cs l' : List Value} (ho : ops[i]? = some ⟨none, .store s x y, t, p, af, g⟩) (hg : Gd ops e g) (hx : ev e x = some (.pointer (some ⟨b, o, none⟩))) (hy : ev e y = some (.agg cs.toArray)) (h1 : manyB P s z = true) (hz : cs.length = z) (hv : Ones cs)
  (hw : Sat G L w) (hp : Pick (blk b l T) L R) (hol : o + z ≤ l.length) (hl' : l.take o ++ cs ++ l.drop (o + z) = l') (hpd : pend P ops dr done i = [])
  (h : ∀ w', Sat G (blk b l' T :: R) w' → XL P n ops dr (i :: done) r K e w') : XL P n ops dr done (i :: r) K e w :=
 x_stNP ho hg hx hy h1 hz hv hw hp hol hl' (fun w' _ => noPend (dst := none) (v := undef) hpd) h
theorem x_allocP {c : List Value} (ho : ops[i]? = some ⟨some d, .alloc s, t, p, af, g⟩) (hd : Nat.blt d n = true) (hg : Gd ops e g) (hz : zeroOf P s = some c.toArray) (hw : Sat G L w) (hpd : ∀ w' b, Sat G (blk b c s :: L) w' → ∀ q ∈ pend P ops dr done i, ChkE P n ops q ((d, .pointer (some ⟨b, 0, none⟩)) :: e) w')
  (h : ∀ w' b, Sat G (blk b c s :: L) w' → XL P n ops dr (i :: done) r K ((d, .pointer (some ⟨b, 0, none⟩)) :: e) w') : XL P n ops dr done (i :: r) K e w := by
 refine xl_eff ho (by simpa [dstOk] using hd) hg (ρ := rh e) (by intro z hZ; simp [Op.operands] at hZ) rfl (v := .pointer (some ⟨w.heap.size, 0, none⟩)) (w' := { w with heap := w.heap.push (.cells c.toArray s (0, 0)) }) ?_ (hpd _ _ (hw.push _)) (h _ _ (hw.push _))
 unfold zeroOf at hz
 cases hi : P.info? s with
 | none => simp [hi] at hz
 | some inf =>
  cases hzz : inf.zero with
  | none => simp [hi, hzz] at hz
  | some z =>
   have hc : z.cells = c.toArray := by simpa [hi, hzz] using hz
   simp [execOp, Instr.alloc, zeroValue, typeInfo, hi, hzz, newVar, newRow, hc]
theorem x_alloc {c : List Value} (ho : ops[i]? = some ⟨some d, .alloc s, t, p, af, g⟩) (hd : Nat.blt d n = true) (hg : Gd ops e g) (hz : zeroOf P s = some c.toArray) (hw : Sat G L w) (hpd : pend P ops dr done i = [])
  (h : ∀ w' b, Sat G (blk b c s :: L) w' → XL P n ops dr (i :: done) r K ((d, .pointer (some ⟨b, 0, none⟩)) :: e) w') : XL P n ops dr done (i :: r) K e w :=
 x_allocP ho hd hg hz hw (fun w' b _ => noPend (dst := some d) hpd) h
theorem x_box {c : List Value} (ho : ops[i]? = some ⟨some d, .box s x, t, p, af, g⟩) (hd : Nat.blt d n = true) (hg : Gd ops e g) (hx : ev e x = some v) (hc : v.cells = c.toArray) (hw : Sat G L w) (hpd : pend P ops dr done i = [])
  (h : ∀ w' b, Sat G (blk b c s :: L) w' → XL P n ops dr (i :: done) r K ((d, .pointer (some ⟨b, 0, none⟩)) :: e) w') : XL P n ops dr done (i :: r) K e w := by
 refine xl_eff ho (by simpa [dstOk] using hd) hg (ρ := rh e) (by intro z hZ; simp [Op.operands] at hZ; exact oh1 hx hZ) rfl (v := .pointer (some ⟨w.heap.size, 0, none⟩)) (w' := { w with heap := w.heap.push (.cells c.toArray s (0, 0)) }) ?_ (noPend hpd) (h _ _ (hw.push _))
 simp [execOp, rh_of hx, Instr.box, newVar, newRow, hc]
theorem fill_one {z : Nat} {cs c : Array Value} {v : Value} (hv : v.cells = cs) (h1 : cs.size = z) (h2 : c.size = z) : Instr.fill (fun i => some (i * z, z)) c [(0, v)] = some cs := by
 simp only [Instr.fill, Nat.zero_mul, hv, h1, h2, Nat.zero_add]
 simp
 apply Array.ext'
 have key : ∀ (l : List Value) (k : Nat) (c : Array Value), k + l.length = c.size →
   ((l.zipIdx k).foldl (fun (cs : Array Value) (x : Value × Nat) => cs.setIfInBounds x.2 x.1) c).toList = c.toList.take k ++ l := by
  intro l
  induction l with
  | nil => intro k c hk; simp at hk ⊢; rw [List.take_of_length_le (by simp [hk])]
  | cons u l ih =>
   intro k c hk
   simp only [List.zipIdx_cons, List.foldl_cons]
   rw [ih (k + 1) _ (by simp at hk ⊢; omega)]
   simp at hk
   rw [List.take_succ_eq_append_getElem (by simp; omega)]
   simp [List.take_set_of_le (Nat.le_refl k)]
 have := key cs.toList 0 c (by simp [h1, h2])
 have e : Array.foldl (fun (cs : Array Value) (x : Value × Nat) => cs.setIfInBounds x.2 x.1) c cs.zipIdx 0 cs.size = List.foldl (fun (cs : Array Value) (x : Value × Nat) => cs.setIfInBounds x.2 x.1) c cs.toList.zipIdx := by
  rw [← Array.toList_zipIdx, Array.foldl_toList]; simp
 rw [e]; simpa using this
theorem x_bs1P {c : TypeId} {z : Nat} {cs : List Value} (ho : ops[i]? = some ⟨some d, .buildSlice s 1 #[(0, x)], t, p, af, g⟩) (hd : Nat.blt d n = true) (hg : Gd ops e g) (hs : P.underlying s = some (.slice c)) (hzc : (P.info? c).map (·.size) = some z) (hz0 : (zeroOf P c).map (·.size) = some z) (hz : 0 < z ∧ z ≤ 16777216)
  (hx : ev e x = some v) (hc : v.cells = cs.toArray) (hl : cs.length = z) (hw : Sat G L w)
  (hpd : ∀ w' b, Sat G (blk b cs c :: L) w' → ∀ q ∈ pend P ops dr done i, ChkE P n ops q ((d, .slice (some ⟨b, 0, none⟩) 1 1) :: e) w')
  (h : ∀ w' b, Sat G (blk b cs c :: L) w' → XL P n ops dr (i :: done) r K ((d, .slice (some ⟨b, 0, none⟩) 1 1) :: e) w') : XL P n ops dr done (i :: r) K e w := by
 refine xl_eff ho (by simpa [dstOk] using hd) hg (ρ := rh e) (by intro z hZ; simp [Op.operands] at hZ; exact oh1 hx hZ) rfl (v := .slice (some ⟨w.heap.size, 0, none⟩) 1 1) (w' := { w with heap := w.heap.push (.cells cs.toArray c (0, 0)) }) ?_ (hpd _ _ (hw.push _)) (h _ _ (hw.push _))
 cases hi : P.info? c with
 | none => simp [hi] at hzc
 | some inf =>
  have hsz : inf.size = z := by simpa [hi] using hzc
  cases hzz : inf.zero with
  | none => simp [zeroOf, hi, hzz] at hz0
  | some zv =>
   have hzs : zv.cells.size = z := by simpa [zeroOf, hi, hzz] using hz0
   have hf := fill_one (z := z) (cs := cs.toArray) (c := (Array.range z).map (zv.cells[· % z]!)) hc (by simpa using hl) (by simp)
   have hnz : z ≠ 0 := by omega
   have hle : ¬ 16777216 < z := by omega
   simp [execOp, Instr.buildSlice, run_underlying hs, sizeOf, typeInfo, hi, hsz, zeroValue, hzz, hnz, hle, hzs, rh_of hx, hf, newRow]
theorem x_bs1 {c : TypeId} {z : Nat} {cs : List Value} (ho : ops[i]? = some ⟨some d, .buildSlice s 1 #[(0, x)], t, p, af, g⟩) (hd : Nat.blt d n = true) (hg : Gd ops e g) (hs : P.underlying s = some (.slice c)) (hzc : (P.info? c).map (·.size) = some z) (hz0 : (zeroOf P c).map (·.size) = some z) (hz : 0 < z ∧ z ≤ 16777216)
  (hx : ev e x = some v) (hc : v.cells = cs.toArray) (hl : cs.length = z) (hw : Sat G L w) (hpd : pend P ops dr done i = [])
  (h : ∀ w' b, Sat G (blk b cs c :: L) w' → XL P n ops dr (i :: done) r K ((d, .slice (some ⟨b, 0, none⟩) 1 1) :: e) w') : XL P n ops dr done (i :: r) K e w :=
 x_bs1P ho hd hg hs hzc hz0 hz hx hc hl hw (fun w' b _ => noPend (dst := some d) hpd) h
theorem x_mks {c : TypeId} {z : Value} {a m : Int} {k k' : IntKind} {bytes : Nat} (ho : ops[i]? = some ⟨some d, .makeSlice s x y, t, p, af, g⟩) (hd : Nat.blt d n = true) (hg : Gd ops e g) (hs : P.underlying s = some (.slice c)) (hzc : (P.info? c).map (·.size) = some 1) (hby : (P.info? c).map (·.bytes) = some bytes)
  (hz0 : zeroOf P c = some #[z]) (hx : ev e x = some (.int k a)) (hy : ev e y = some (.int k' m)) (hb : 0 ≤ a ∧ a ≤ m) (hm : (bytes : Int) * m ≤ 281474976710656) (h63 : m ≤ 9223372036854775807) (hw : Sat G L w) (hpd : pend P ops dr done i = [])
  (h : ∀ w' b, Sat G (blk b (rep m.toNat z) c :: L) w' → XL P n ops dr (i :: done) r K ((d, .slice (some ⟨b, 0, none⟩) a.toNat m.toNat) :: e) w') : XL P n ops dr done (i :: r) K e w := by
 refine xl_eff ho (by simpa [dstOk] using hd) hg (ρ := rh e) (by intro z hZ; simp [Op.operands] at hZ; exact oh2 hx hy hZ) rfl (v := .slice (some ⟨w.heap.size, 0, none⟩) a.toNat m.toNat) (w' := { w with heap := w.heap.push (.cells (rep m.toNat z).toArray c (0, 0)) }) ?_ (noPend hpd) (h _ _ (hw.push _))
 cases hi : P.info? c with
 | none => simp [hi] at hzc
 | some inf =>
  have hsz : inf.size = 1 := by simpa [hi] using hzc
  have hbb : inf.bytes = bytes := by simpa [hi] using hby
  cases hzz : inf.zero with
  | none => simp [zeroOf, hi, hzz] at hz0
  | some zv =>
   have hzs : zv.cells = #[z] := by simpa [zeroOf, hi, hzz] using hz0
   have hr := run_make (P := P) w s c inf zv hs hi hzz k k' a m hb.1 hb.2 (by rw [hbb]; exact hm) h63
   have hmc : madeCells zv.cells (m.toNat * inf.size) = (rep m.toNat z).toArray := by
    rw [hzs, hsz, Nat.mul_one]; unfold madeCells
    apply Array.ext'
    simp [Nat.mod_one, List.map_const', rep]
   rw [hmc] at hr
   simp only [execOp, rh_of hx, rh_of hy, Sem.run_bind, hr]
   rfl
def row (T : TypeId) (z : Nat) (v : Value) (m : Nat) (xs : List Value) : Assn := fun h => xs.length = m * z ∧
 ((v = .slice none 0 0 ∧ m = 0) ∨ ∃ b cap cur, v = .slice (some ⟨b, 0, none⟩) m cap ∧ h b = some (.cells (xs ++ cur).toArray T (0, 0)) ∧ m ≤ cap ∧ cap ≤ maxLen ∧ (xs ++ cur).length = cap * z)
theorem row_nil (hw : Sat G L w) (T : TypeId) (z : Nat) : Sat G (row T z (.slice none 0 0) 0 [] :: L) w := by
 obtain ⟨hg, h, hh, hL⟩ := hw
 refine ⟨hg, h, hh, fun _ => none, h, fun b => .inl rfl, fun b o hb => ?_, ⟨by simp, .inl ⟨rfl, rfl⟩⟩, hL⟩
 rcases union_cases hb with h | h
 ·cases h
 exact h
theorem row_mk {xs cur : List Value} {z m cap : Nat} (hw : Sat G (blk b (xs ++ cur) T :: L) w) (h1 : xs.length = m * z) (h2 : m ≤ cap) (h3 : cap ≤ maxLen) (h4 : (xs ++ cur).length = cap * z) : Sat G (row T z (.slice (some ⟨b, 0, none⟩) m cap) m xs :: L) w :=
 hw.cons_mono fun h hh => ⟨h1, .inr ⟨b, cap, cur, rfl, hh, h2, h3, h4⟩⟩
theorem row_full {xs : List Value} {z m : Nat} (hw : Sat G (blk b xs T :: L) w) (h1 : xs.length = m * z) (h3 : m ≤ maxLen) : Sat G (row T z (.slice (some ⟨b, 0, none⟩) m m) m xs :: L) w :=
 row_mk (cur := []) (by rw [List.append_nil]; exact hw) h1 (Nat.le_refl _) h3 (by rw [List.append_nil]; exact h1)
theorem row_open {z m : Nat} {xs : List Value} (hw : Sat G (row T z v m xs :: L) w) : xs.length = m * z ∧
  ((v = .slice none 0 0 ∧ m = 0 ∧ xs = [] ∧ Sat G L w) ∨ ∃ b cap cur, v = .slice (some ⟨b, 0, none⟩) m cap ∧ m ≤ cap ∧ cap ≤ maxLen ∧ (xs ++ cur).length = cap * z ∧ Sat G (blk b (xs ++ cur) T :: L) w) := by
 have hw' := hw
 obtain ⟨hg, h, hh, h1, h2, hd, hu, ⟨hx, hA⟩, hL⟩ := hw
 refine ⟨hx, ?_⟩
 rcases hA with ⟨rfl, rfl⟩ | ⟨b, cap, cur, rfl, hb, h3, h4, h5⟩
 ·exact .inl ⟨rfl, rfl, List.eq_nil_of_length_eq_zero (by simpa using hx), hw'.tail⟩
 exact .inr ⟨b, cap, cur, rfl, h3, h4, h5, hg, h, hh, h1, h2, hd, hu, hb, hL⟩
theorem row_form {z m : Nat} {xs : List Value} (hw : Sat G (row T z v m xs :: L) w) : ∃ a cap, v = .slice a m cap := by
 obtain ⟨_, h | ⟨b, cap, cur, h, _⟩⟩ := row_open hw
 ·obtain ⟨rfl, rfl, _⟩ := h; exact ⟨none, 0, rfl⟩
 exact ⟨_, cap, h⟩
theorem run_app {c : TypeId} {z bytes m k : Nat} {xs news : List Value} {zv : Value} {inf : TypeInfo} {ty : TypeId} {ax : Addr} {cx : Nat} (hs : P.underlying s = some (.slice c)) (hi : P.info? c = some inf) (hzz : inf.zero = some zv) (hsz : inf.size = z) (hbb : inf.bytes = bytes) (hzs : zv.cells.size = z)
  (hw : Sat G (row c z v m xs :: R) w) (hr : Rd w ax news) (hl : news.length = k * z) (h1 : Ones news) (h63 : m + k ≤ maxLen) (hby : (m + k) * bytes ≤ 140737488355328) :
  ∃ v' w', (Builtin.append_ #[s, s] ty #[v, .slice (some ax) k cx]).run P w = .ok v' w' ∧ Sat G (row c z v' (m + k) (xs ++ news) :: R) w' := by
 subst hsz
 have hsmall : m + k ≤ 9223372036854775807 := by simp only [maxLen] at h63; omega
 obtain ⟨hxl, hcase⟩ := row_open hw
 have hlen : (xs ++ news).length = (m + k) * inf.size := by rw [List.length_append, hxl, hl, Nat.add_mul]
 have grown : ∀ (old : Nat), Sat G R w → Sat G (row c inf.size (.slice (some ⟨w.heap.size, 0, none⟩) (m + k) (grownCap w (m + k) old c)) (m + k) (xs ++ news) :: R)
   (w.drew.alloc (.cells (xs.toArray ++ news.toArray ++ Builtin.zeroCells zv.cells (grownCap w (m + k) old c - (m + k))) c)) := fun old hR => by
  have hge := grownCap_ge w (m + k) old c
  have hcm : grownCap w (m + k) old c ≤ maxLen := grownCap_le_maxLen w (m + k) old c h63
  have h2 := (hR.drawn (w.drawn + 1)).push (.cells (xs.toArray ++ news.toArray ++ Builtin.zeroCells zv.cells (grownCap w (m + k) old c - (m + k))) c (0, 0))
  have e : xs.toArray ++ news.toArray ++ Builtin.zeroCells zv.cells (grownCap w (m + k) old c - (m + k)) = ((xs ++ news) ++ (Builtin.zeroCells zv.cells (grownCap w (m + k) old c - (m + k))).toList).toArray := by
   apply Array.ext'; simp
  rw [e] at h2 ⊢
  refine row_mk h2 hlen hge hcm ?_
  rw [List.length_append, hlen, Array.length_toList, size_zeroCells, hzs, ← Nat.add_mul]
  congr 1; omega
 rcases hcase with ⟨rfl, rfl, rfl, hR⟩ | ⟨b, cap, cur, rfl, hmc, hcm, hcl, hB⟩
 ·by_cases hk : k = 0
  ·subst hk
   have hn : news = [] := List.eq_nil_of_length_eq_zero (by simpa using hl)
   subst hn
   refine ⟨.slice none 0 0, w, ?_, by simpa using row_nil hR c inf.size⟩
   simp [Builtin.append_, run_underlying hs, sizeOf, typeInfo, hi, Builtin.lenOf, Builtin.firstCells, loadCells, loadCellsFrom]
  have hrr := run_append_nil (P := P) w s ty c inf zv hs hi hzz ax k cx news hl hr (by omega) (by omega) (by rw [hbb]; have hb := hby; simp only [Nat.zero_add] at hb; omega)
  have hgr := grown 0 hR
  simp only [Nat.zero_add, List.nil_append, Array.empty_append] at hgr ⊢
  exact ⟨_, _, hrr, hgr⟩
 by_cases hroom : m + k ≤ cap
 ·have hfit : m * inf.size + news.length ≤ (xs ++ cur).toArray.size := by rw [List.size_toArray, hcl, hl, ← Nat.add_mul]; exact Nat.mul_le_mul_right _ hroom
  have hrr := run_append_room (P := P) w s ty c inf hs hi b m cap (xs ++ cur).toArray (hB.pt .here) ax k cx news hl hr h1 hroom hfit
  have hB' := hB.setBlk .here ((xs ++ news) ++ cur.drop news.length)
  have e : (List.take (m * inf.size) (xs ++ cur).toArray.toList ++ news ++ List.drop (m * inf.size + news.length) (xs ++ cur).toArray.toList).toArray = ((xs ++ news) ++ cur.drop news.length).toArray := by
   simp only [← hxl]
   simp [List.drop_append, List.drop_eq_nil_of_le]
  rw [e] at hrr
  refine ⟨_, _, hrr, row_mk hB' hlen hroom hcm ?_⟩
  rw [List.length_append, hlen, List.length_drop, ← hcl]
  simp only [List.size_toArray, List.length_append] at hfit ⊢
  rw [hxl, hl, Nat.add_mul] at *
  omega
 have holds : Rd w ⟨b, 0, none⟩ xs := by
  have := (Rd.of_blk (o := 0) hB .here).take xs.length
  simpa using this
 have hrr := run_append_grow (P := P) w s ty c inf zv hs hi hzz ⟨b, 0, none⟩ m cap xs hxl holds ax k cx news hl hr (by omega) (by omega) (by rw [hbb]; exact growslice_fits (by omega) hby)
 exact ⟨_, _, hrr, grown cap hB.tail⟩
theorem x_app {c : TypeId} {z bytes m k : Nat} {xs news : List Value} {ax : Addr} {cx : Nat} (ho : ops[i]? = some ⟨some d, .call ⟨.builtin .append, #[x, y], #[s, s]⟩, t, p, af, g⟩) (hd : Nat.blt d n = true) (hg : Gd ops e g) (hs : P.underlying s = some (.slice c)) (hzc : (P.info? c).map (·.size) = some z)
  (hbc : (P.info? c).map (·.bytes) = some bytes) (hz0 : (zeroOf P c).map (·.size) = some z) (hx : ev e x = some v) (hy : ev e y = some (.slice (some ax) k cx)) (hw : Sat G L w) (hp : Pick (row c z v m xs) L R) (hr : Rd w ax news) (hl : news.length = k * z) (h1 : Ones news)
  (h63 : m + k ≤ maxLen) (hby : (m + k) * bytes ≤ 140737488355328) (hpd : pend P ops dr done i = [])
  (h : ∀ w' v', Sat G (row c z v' (m + k) (xs ++ news) :: R) w' → XL P n ops dr (i :: done) r K ((d, v') :: e) w') : XL P n ops dr done (i :: r) K e w := by
 cases hi : P.info? c with
 | none => simp [hi] at hzc
 | some inf =>
  have hsz : inf.size = z := by simpa [hi] using hzc
  have hbb : inf.bytes = bytes := by simpa [hi] using hbc
  cases hzz : inf.zero with
  | none => simp [zeroOf, hi, hzz] at hz0
  | some zv =>
   have hzs : zv.cells.size = z := by simpa [zeroOf, hi, hzz] using hz0
   obtain ⟨v', w', hrun, hsat⟩ := run_app (P := P) (ty := t) (cx := cx) hs hi hzz hsz hbb hzs (hw.pick hp) hr hl h1 h63 hby
   refine xl_eff ho (by simpa [dstOk] using hd) hg (ρ := rh e) (by intro z hZ; simp [Op.operands, Call.operands] at hZ; exact oh2 hx hy hZ) rfl (v := v') (w' := w') ?_ (noPend hpd) (h _ _ hsat)
   simp only [execOp, resolve, invoke, builtin, Sem.run_bind, Sem.run_pure, Result.andThen_ok, List.map_toArray, List.map_cons, List.map_nil, rh_of hx, rh_of hy, hrun]
theorem x_cp {c : TypeId} {s' : TypeId} {dl dc sl sc : Nat} {ax : Addr} {cs l' : List Value} (ho : ops[i]? = some ⟨some d, .call ⟨.builtin .copy, #[x, y], #[s, s']⟩, t, p, af, g⟩) (hd : Nat.blt d n = true) (hg : Gd ops e g) (hs : P.underlying s = some (.slice c)) (hzc : (P.info? c).map (·.size) = some 1)
  (hx : ev e x = some (.slice (some ⟨b, o, none⟩) dl dc)) (hy : ev e y = some (.slice (some ax) sl sc)) (hw : Sat G L w) (hp : Pick (blk b l T) L R) (hr : Rd w ax cs) (hl : cs.length = Nat.min sl dl) (h1 : Ones cs) (hfit : o + cs.length ≤ l.length)
  (hl' : l.take o ++ cs ++ l.drop (o + cs.length) = l') (hpd : pend P ops dr done i = [])
  (h : ∀ w', Sat G (blk b l' T :: R) w' → XL P n ops dr (i :: done) r K ((d, .int .i64 cs.length) :: e) w') : XL P n ops dr done (i :: r) K e w := by
 subst hl'
 have hrr := run_copy_row (P := P) w s s' t c b o dl dc ax sl sc l.toArray T cs hs hzc (hw.pt hp) hl hr (by simpa using hfit) h1
 refine xl_eff ho (by simpa [dstOk] using hd) hg (ρ := rh e) (by intro z hZ; simp [Op.operands, Call.operands] at hZ; exact oh2 hx hy hZ) rfl (v := .int .i64 cs.length) (w' := w.setRow b (l.take o ++ cs ++ l.drop (o + cs.length)).toArray) ?_ (noPend hpd) (h _ (hw.setBlk hp _))
 simp only [execOp, resolve, invoke, builtin, Sem.run_bind, Sem.run_pure, Result.andThen_ok, List.map_toArray, List.map_cons, List.map_nil, rh_of hx, rh_of hy, hrr]
 rfl
def Callable (P : Program) (f : FuncId) : Prop := ∃ fn, P.funcs[f]? = some fn ∧ (fn.name == "runtime.NumGoroutine") = false ∧ fn.body.isNone = false
theorem x_callP {f : FuncId} {xs : Array Operand} {ts : Array TypeId} {args : List Value} {Q : Value → World → Prop} (ho : ops[i]? = some ⟨some d, .call ⟨.value (.func f), xs, ts⟩, t, p, af, g⟩) (hd : Nat.blt d n = true) (hg : Gd ops e g)
  (hf : Callable P f) (ha : evs e xs.toList = some args) (hc : Calls P f args.toArray w (Ret Q)) (hpd : ∀ w' v, Q v w' → ∀ q ∈ pend P ops dr done i, ChkE P n ops q ((d, v) :: e) w')
  (h : ∀ w' v, Q v w' → XL P n ops dr (i :: done) r K ((d, v) :: e) w') : XL P n ops dr done (i :: r) K e w := by
 obtain ⟨fn, hf, hb1, hb2⟩ := hf
 obtain ⟨hk, hm⟩ := evs_mem ha
 refine xl_call ho (by simpa [dstOk] using hd) hg (ρ := rh e) (by
  intro z hZ; simp [Op.operands, Call.operands] at hZ
  rcases hZ with rfl | hZ
  ·rfl
  ·exact hk z (by simpa using hZ)) rfl (f := f) (args := args.toArray) ?_ hc fun v w' hQ => ⟨hpd w' v hQ, h w' v hQ⟩
 have hrf : rh e (.func f) = .func (.func f) #[] #[] := rfl
 have hm' : xs.map (rh e) = args.toArray := by apply Array.ext'; simp [hm]
 simp only [execOp, resolve, hrf, Deferred.ofValue, invoke, callFunc, hm', Sem.run_bind, Sem.run_pure, Result.andThen_ok, program, Sem.run, hf, hb1, hb2]
 simp
theorem x_call {f : FuncId} {xs : Array Operand} {ts : Array TypeId} {args : List Value} {Q : Value → World → Prop} (ho : ops[i]? = some ⟨some d, .call ⟨.value (.func f), xs, ts⟩, t, p, af, g⟩) (hd : Nat.blt d n = true) (hg : Gd ops e g)
  (hf : Callable P f) (ha : evs e xs.toList = some args) (hc : Calls P f args.toArray w (Ret Q)) (hpd : pend P ops dr done i = [])
  (h : ∀ w' v, Q v w' → XL P n ops dr (i :: done) r K ((d, v) :: e) w') : XL P n ops dr done (i :: r) K e w :=
 x_callP ho hd hg hf ha hc (fun w' v _ => noPend (dst := some d) hpd) h
theorem x_callv {z : Operand} {f : FuncId} {xs : Array Operand} {ts : Array TypeId} {c1 c2 : Array Value} {args args' : List Value} {Q : Value → World → Prop} (ho : ops[i]? = some ⟨some d, .call ⟨.value z, xs, ts⟩, t, p, af, g⟩) (hd : Nat.blt d n = true) (hg : Gd ops e g)
  (hz : ev e z = some (.func (.func f) c1 c2)) (hf : Callable P f) (ha : evs e xs.toList = some args) (ha' : c1.toList ++ args ++ c2.toList = args') (hc : Calls P f args'.toArray w (Ret Q)) (hpd : pend P ops dr done i = [])
  (h : ∀ w' v, Q v w' → XL P n ops dr (i :: done) r K ((d, v) :: e) w') : XL P n ops dr done (i :: r) K e w := by
 obtain ⟨fn, hf, hb1, hb2⟩ := hf
 obtain ⟨hk, hm⟩ := evs_mem ha
 refine xl_call ho (by simpa [dstOk] using hd) hg (ρ := rh e) (by
  intro q hZ; simp [Op.operands, Call.operands] at hZ
  rcases hZ with rfl | hZ
  ·exact rh_k hz
  ·exact hk q (by simpa using hZ)) rfl (f := f) (args := args'.toArray) ?_ hc fun v w' hQ => ⟨noPend hpd, h w' v hQ⟩
 have hm' : c1 ++ xs.map (rh e) ++ c2 = args'.toArray := by apply Array.ext'; simp [hm, ← ha']
 simp only [execOp, resolve, rh_of hz, Deferred.ofValue, invoke, callFunc, hm', Sem.run_bind, Sem.run_pure, Result.andThen_ok, program, Sem.run, hf, hb1, hb2]
 simp
end
def Yields (P : Program) (l : Nat) (args : List Value) (w : World) (R : Value → World → Prop) : Prop :=
 ∃ fn tmps assign body, (Instr.yield l args.toArray).run P w = .ok (.round l fn tmps assign body) w ∧ Round1 P l fn tmps assign body w (Ret R)
def YieldSpec (P : Program) (G : Gh) (l n : Nat) (Pre : Nat → List Value → List Assn → Prop) (J : Nat → Assn) (Jx : Assn) : Prop :=
 ∀ k args M w, k < n → Pre k args M → Sat G (J k :: M) w → Yields P l args w fun v w' => (v = .bool true ∧ Sat G (J (k + 1) :: M) w') ∨ (v = .bool false ∧ Sat G (Jx :: M) w')
def Iter (P : Program) (gf : FuncId) (lb : List Value) (G : Gh) (L : List Assn) (w : World) (n : Nat) (Pre : Nat → List Value → List Assn → Prop) (Lx : List Assn) : Prop :=
 ∀ (l : Nat) (J : Nat → Assn) (Jx : Assn) (w' : World), YieldSpec P G l n Pre J Jx → Sat G (J 0 :: L) w' → Calls P gf (.func (.yield l) #[] #[] :: lb).toArray w' (Ret fun _ w'' => Sat G (J n :: Lx) w'' ∨ Sat G (Jx :: Lx) w'')
def psE : List Nat → List Value → Env → Env
 | p :: ps, v :: vs, e => psE ps vs ((p, v) :: e)
 | _, _, e => e
theorem agree_ps {n : Nat} : ∀ (ps : List Nat) (vs : List Value) (e : Env) (a : Act), Agree n e a → ps.all (Nat.blt · n) = true → ps.length = vs.length →
  Agree n (psE ps vs e) { tmps := (ps.zip vs).foldl (fun t (p, v) => t.setIfInBounds p v) a.tmps, defers := a.defers }
 | [], [], e, a, h, _, _ => h
 | p :: ps, v :: vs, e, a, h, hb, hl => by
  simp only [List.all_cons, Bool.and_eq_true] at hb
  exact agree_ps ps vs ((p, v) :: e) (a.put (some p) v) (h.put (by simpa using hb.1) v) hb.2 (by simpa using hl)
 | [], _ :: _, _, _, _, _, hl => by simp at hl
 | _ :: _, [], _, _, _, _, hl => by simp at hl
section
variable {P : Program} {n : Nat} {ops : Array Oper} {dr : Bool} {done r : List Nat} {K : Env → World → Prop} {e : Env} {w : World} {i d : Nat} {t : TypeId} {p : String} {af : Array Edge} {g : Option (Nat × Bool)}
variable {G : Gh} {L R : List Assn}
theorem x_yieldP {l : Nat} {z : Operand} {xs : Array Operand} {ts : Array TypeId} {args : List Value} {Q : Value → World → Prop} (ho : ops[i]? = some ⟨some d, .call ⟨.value z, xs, ts⟩, t, p, af, g⟩) (hd : Nat.blt d n = true) (hg : Gd ops e g)
  (hz : ev e z = some (.func (.yield l) #[] #[])) (ha : evs e xs.toList = some args) (hy : Yields P l args w Q) (hpd : ∀ w' v, Q v w' → ∀ q ∈ pend P ops dr done i, ChkE P n ops q ((d, v) :: e) w')
  (h : ∀ w' v, Q v w' → XL P n ops dr (i :: done) r K ((d, v) :: e) w') : XL P n ops dr done (i :: r) K e w := by
 obtain ⟨hk, hm⟩ := evs_mem ha
 obtain ⟨fn, tmps, assign, body, hrun, hR⟩ := hy
 refine xl_step ho (by simpa [dstOk] using hd) hg (ρ := rh e) (by
  intro q hZ; simp [Op.operands, Call.operands] at hZ
  rcases hZ with rfl | hZ
  ·exact rh_k hz
  ·exact hk q (by simpa using hZ)) ?_
 have hm' : xs.map (rh e) = args.toArray := by apply Array.ext'; simp [hm]
 show runS P _ 2 w _
 unfold runS
 simp only [execOp, resolve, rh_of hz, Deferred.ofValue, invoke, hm', Sem.run_bind, Sem.run_pure, Result.andThen_ok, Array.empty_append, Array.append_empty, hrun]
 exact RoundIn.mono hR fun en w' ⟨v, he, hQ⟩ => ⟨v, he, hpd w' v hQ, h w' v hQ⟩
theorem x_yield {l : Nat} {z : Operand} {xs : Array Operand} {ts : Array TypeId} {args : List Value} {Q : Value → World → Prop} (ho : ops[i]? = some ⟨some d, .call ⟨.value z, xs, ts⟩, t, p, af, g⟩) (hd : Nat.blt d n = true) (hg : Gd ops e g)
  (hz : ev e z = some (.func (.yield l) #[] #[])) (ha : evs e xs.toList = some args) (hy : Yields P l args w Q) (hpd : pend P ops dr done i = [])
  (h : ∀ w' v, Q v w' → XL P n ops dr (i :: done) r K ((d, v) :: e) w') : XL P n ops dr done (i :: r) K e w :=
 x_yieldP ho hd hg hz ha hy (fun w' v _ => noPend (dst := some d) hpd) h
end
def recO (fn : FuncId) (tmps : Array Value) (ps : Array Tmp) (assign body : Code) (D : Nat) (st : LoopState) (pe : Option Code) : Obj := .loop { state := st, pending := pe, fn, tmps, params := ps, assign, body, defers := D }
abbrev dblk (D : Nat) : Assn := pt D (.deferred (some []))
section
variable {P : Program} {n : Nat} {K F : Cont} {E : List (Nat × Cont)} {e e₀ : Env} {w : World} {G : Gh} {L Lx : List Assn}
theorem putObj_set {g : Gh} {b : Nat} {o : Obj} {R : List Assn} {w : World} (h : Sat g (pt b o :: R) w) (o' : Obj) : Sat g (pt b o' :: R) (w.putObj b o') := h.set o'
def exsOf (G : Gh) (Je : List (Nat × Assn)) (M : List Assn) : List (Nat × Cont) := Je.map fun x => (x.1, fun _ w => Sat G (x.2 :: M) w)
theorem extOf_exs {Je : List (Nat × Assn)} {M : List Assn} {id : Nat} {K' : Cont} (h : extOf (exsOf G Je M) id = some K') : ∃ A, (id, A) ∈ Je ∧ K' = fun _ w => Sat G (A :: M) w := by
 induction Je with
 | nil => cases h
 | cons x r ih =>
  obtain ⟨k, A⟩ := x
  simp only [exsOf, List.map_cons, extOf] at h
  by_cases hk : k = id
  ·subst hk; simp at h; exact ⟨A, List.mem_cons_self .., h.symm⟩
  rw [beq_no hk] at h
  obtain ⟨B, h1, h2⟩ := ih h
  exact ⟨B, List.mem_cons_of_mem _ h1, h2⟩
theorem x_range {gop : Operand} {ps : Array Tmp} {assign body : Code} {gf : FuncId} {lb : List Value} {m : Nat} {Pre : Nat → List Value → List Assn → Prop}
  (J : Nat → Assn) (Jr : Assn) (Je : List (Nat × Assn))
  (hg : ev e gop = some (.func (.func gf) #[] lb.toArray)) (hf : Callable P gf) (hps : ps.toList.all (Nat.blt · n) = true)
  (hs : SubG e₀ e) (hm₀ : marks e₀ = []) (hw : Sat G (J 0 :: L) w) (hlen : ∀ k args M, Pre k args M → ps.toList.length = args.length) (hit : Iter P gf lb G L w m Pre Lx)
  (hbody : ∀ (l D : Nat) (o : Obj) (k : Nat) (args : List Value) (M : List Assn) (w : World), k < m → Pre k args M → Sat G (J k :: pt l o :: dblk D :: M) w →
   X P n (some l) assign (fun e₁ w₁ => ∃ L1, Sat G (pt l o :: L1) w₁ ∧ ∀ (o' : Obj) (w₂ : World), Sat G (pt l o' :: L1) w₂ →
    X P n (some l) body (fun _ w => Sat G (J (k + 1) :: pt l o' :: dblk D :: M) w) (exsOf G Je (pt l o' :: dblk D :: M)) (fun _ w => Sat G (Jr :: pt l o' :: dblk D :: M) w) e₁ w₂) [] (fun _ _ => False) (psE ps.toList args e₀) w)
  (hdone : ∀ (D : Nat) (w : World), Sat G (J m :: dblk D :: Lx) w → K ((1000000000, .pointer (some ⟨D, 0, none⟩)) :: e) w)
  (hret : ∀ (D : Nat) (w : World), Sat G (Jr :: dblk D :: Lx) w → F ((1000000000, .pointer (some ⟨D, 0, none⟩)) :: e) w)
  (hex : ∀ (id : Nat) (A : Assn), (id, A) ∈ Je → ∃ K', extOf E id = some K' ∧ ∀ (D : Nat) (w : World), Sat G (A :: dblk D :: Lx) w → K' ((1000000000, .pointer (some ⟨D, 0, none⟩)) :: e) w) :
  X P n none (.rangeFunc gop ps assign body) K E F e w := fun a ha => by
 refine wpIn_rangeFunc (F := Fw none) ?_
 intro fn _
 obtain ⟨D, hD⟩ : ∃ D, D = w.heap.size := ⟨_, rfl⟩
 obtain ⟨rec, hrec⟩ : ∃ rec : LoopState → Option Code → Obj, rec = fun st pe => recO fn a.tmps ps assign body D st pe := ⟨_, rfl⟩
 have hsat : Sat G (pt (D + 1) (rec .ready none) :: dblk D :: J 0 :: L) ((w.alloc (.deferred (some []))).alloc (rec .ready none)) := by
  have h1 := hw.push (.deferred (some []))
  have h2 := h1.push (rec .ready none)
  simp only [Array.size_push] at h2
  rw [hD]
  exact h2
 obtain ⟨W1, hW1⟩ : ∃ W1, (w.alloc (.deferred (some []))).alloc (rec .ready none) = W1 := ⟨_, rfl⟩
 rw [hW1] at hsat
 have hev := ha.ev hg
 obtain ⟨ff, hf1, hf2, hf3⟩ := hf
 refine ⟨D + 1, [{ target := .collected D, args := #[] }], W1, { target := .fn (.func gf) lb.toArray, args := #[.func (.yield (D + 1)) #[] #[]] }, W1, gf,
  (.func (.yield (D + 1)) #[] #[] :: lb).toArray, W1, ?_, ?_, fun _ _ => trivial, ?_, (fun hd => by cases hd), ?_⟩
 ·rw [← hW1, hrec, hD]; exact run_enterLoop_outer _ _ _ _ _
 ·simp only [resolve, hev]
  simp [Deferred.ofValue, Act.eval]
 ·simp only [invoke, callFunc, Sem.run_bind, Sem.run_pure, Result.andThen_ok, program, Sem.run, hf1, hf2, hf3]
  simp
 have hjump : ∀ (st : LoopState) (pe : Option Code) (A : Assn) (w₃ : World), st ≠ .busy → Sat G (pt (D + 1) (rec st pe) :: dblk D :: A :: Lx) w₃ → ∃ w₄, (Instr.endLoop (D + 1)).run P w₃ = .ok pe w₄ ∧ Sat G (A :: dblk D :: Lx) w₄ := fun st pe A w₃ hst h => by
  have h1 := h.pt_head
  rw [hrec] at h1
  have h2 := run_endLoop (P := P) (r := { state := st, pending := pe, fn, tmps := a.tmps, params := ps, assign, body, defers := D }) h1 hst
  exact ⟨_, h2, ((putObj_set h _).tail).pick (.there .here)⟩
 have hag : Agree n ((1000000000, .pointer (some ⟨D, 0, none⟩)) :: e) { a with defers := [{ target := .collected D, args := #[] }] ++ a.defers } := by
  refine ⟨?_, ha.size, ha.small, fun t v hv => ?_⟩
  ·simp [marks, dfr, ha.defers]
  rcases get_cons hv with ⟨h1, _⟩ | ⟨_, h2⟩
  ·exact absurd h1.symm (get_mk hv)
  exact ha.get t v h2
 have hag0 : Agree n e₀ { tmps := a.tmps, defers := [] } := ⟨by rw [hm₀]; rfl, ha.size, ha.small, fun t v hv => ha.get t v (hs t v hv)⟩
 obtain ⟨Jk, hJk⟩ : ∃ Jk : Nat → Assn, Jk = fun k h => all [pt (D + 1) (rec .ready none), dblk D, J k] h := ⟨_, rfl⟩
 obtain ⟨Jx, hJx⟩ : ∃ Jx : Assn, Jx = fun h => all [pt (D + 1) (rec .done (some .ret)), dblk D, Jr] h ∨ ∃ id A, (id, A) ∈ Je ∧ all [pt (D + 1) (rec .done (some (.exit id))), dblk D, A] h := ⟨_, rfl⟩
 have hy : YieldSpec P G (D + 1) m Pre Jk Jx := fun k args M w' hk hpre hS => by
  rw [hJk] at hS
  obtain ⟨hh, h1, h2⟩ := assn_out hS
  have hS' : Sat G (pt (D + 1) (rec .ready none) :: dblk D :: J k :: M) w' := h2 _ h1
  have hl := hlen k args M hpre
  have hrow := hS'.pt_head
  rw [hrec] at hrow
  refine ⟨fn, _, assign, body, run_yield (r := { state := .ready, pending := none, fn, tmps := a.tmps, params := ps, assign, body, defers := D }) hrow (by simpa using hl.symm), ?_⟩
  refine roundIn_of_wpIn (F := Fw none) trivial ?_
  have hargs : ((ps.zip args.toArray).foldl (fun tmps x => tmps.setIfInBounds x.1 x.2) a.tmps) = (ps.toList.zip args).foldl (fun t x => t.setIfInBounds x.1 x.2) a.tmps := by
   rw [← Array.foldl_toList, Array.toList_zip]
  have hX := hbody (D + 1) D (rec .ready none) k args M w' hk hpre (hS'.bring (As := [J k]) (.cons (.there (.there .here)) .nil)) _ (agree_ps ps.toList args e₀ _ hag0 hps hl)
  show assign.wpIn (Fw (some (D + 1))) 0 P _ { tmps := ((ps.zip args.toArray).foldl (fun tmps x => tmps.setIfInBounds x.1 x.2) a.tmps), defers := [] } w'
  rw [hargs]
  refine wpIn_mono hX fun ex a₁ w₁ hq => ?_
  cases ex <;> simp only [outAt, extOf] at hq <;> simp only [Exit.then]
  case exit => obtain ⟨K', h, _⟩ := hq; cases h
  case ret => obtain ⟨_, _, h⟩ := hq; exact h
  case normal =>
   obtain ⟨e₁, ha₁, L1, hS1, hcont⟩ := hq
   have hrow1 := hS1.pt_head
   rw [hrec] at hrow1
   refine ⟨_, run_beginRound (r := { state := .ready, pending := none, fn, tmps := a.tmps, params := ps, assign, body, defers := D }) hrow1 rfl, ?_⟩
   refine wpIn_mono (hcont (rec .busy none) _ (by rw [hrec]; exact putObj_set hS1 _) a₁ ha₁) fun ex a₂ w₂ hq => ?_
   have hend : ∀ (jump : Option Code) (A : Assn), Sat G (A :: pt (D + 1) (rec .busy none) :: dblk D :: M) w₂ → ∃ w₃, (Instr.endRound (D + 1) jump).run P w₂ = .ok (.bool jump.isNone) w₃ ∧ Sat G (pt (D + 1) (rec (if jump.isNone then .ready else .done) jump) :: dblk D :: A :: M) w₃ := fun jump A h => by
    have h := h.bring (As := [pt (D + 1) _, dblk D]) (.cons (.there .here) (.cons (.there .here) .nil))
    have h1 := h.pt_head
    rw [hrec] at h1
    refine ⟨_, run_endRound (r := { state := .busy, pending := none, fn, tmps := a.tmps, params := ps, assign, body, defers := D }) jump h1, ?_⟩
    rw [hrec]; exact putObj_set h _
   cases ex <;> simp only [outAt] at hq <;> simp only [roundPost]
   case normal =>
    obtain ⟨_, _, h⟩ := hq
    obtain ⟨w₃, h3, h4⟩ := hend none _ h
    exact ⟨_, w₃, h3, _, rfl, .inl ⟨rfl, by rw [hJk]; exact assn_in (M := [_, _, _]) h4 fun _ h => h⟩⟩
   case ret =>
    obtain ⟨_, _, h⟩ := hq
    obtain ⟨w₃, h3, h4⟩ := hend (some .ret) _ h
    exact ⟨_, w₃, h3, _, rfl, .inr ⟨rfl, by rw [hJx]; exact assn_in (M := [_, _, _]) h4 fun _ h => .inl h⟩⟩
   case exit id =>
    obtain ⟨K', hk', _, _, h⟩ := hq
    obtain ⟨A, hA, rfl⟩ := extOf_exs hk'
    obtain ⟨w₃, h3, h4⟩ := hend (some (.exit id)) _ h
    exact ⟨_, w₃, h3, _, rfl, .inr ⟨rfl, by rw [hJx]; exact assn_in (M := [_, _, _]) h4 fun _ h => .inr ⟨id, A, hA, h⟩⟩⟩
 have h0 : Sat G (Jk 0 :: L) W1 := by rw [hJk]; exact assn_in (M := [_, _, _]) hsat fun _ h => h
 refine Calls.fw (Calls.mono (hit (D + 1) Jk Jx W1 hy h0) fun en w₃ ⟨v, hv, hR⟩ => ?_) none _
 subst hv
 show ∃ jump w₄, _
 rcases hR with hR | hR
 ·rw [hJk] at hR
  obtain ⟨hh, h1, h2⟩ := assn_out hR
  obtain ⟨w₄, h3, h4⟩ := hjump _ _ _ w₃ (by simp) (h2 _ h1)
  exact ⟨none, w₄, h3, _, hag, hdone D w₄ h4⟩
 rw [hJx] at hR
 obtain ⟨hh, h1 | ⟨id, A, hA, h1⟩, h2⟩ := assn_out hR
 ·obtain ⟨w₄, h3, h4⟩ := hjump _ _ _ w₃ (by simp) (h2 _ h1)
  exact ⟨some .ret, w₄, h3, wpIn_ret ⟨_, hag, hret D w₄ h4⟩⟩
 obtain ⟨w₄, h3, h4⟩ := hjump _ _ _ w₃ (by simp) (h2 _ h1)
 obtain ⟨K', hk', hK⟩ := hex id A hA
 exact ⟨some (.exit id), w₄, h3, wpIn_exit ⟨K', hk', _, hag, hK D w₄ h4⟩⟩
end
section
variable {P : Program} {n : Nat} {ops : Array Oper} {dr : Bool} {done r : List Nat} {K : Env → World → Prop} {e : Env} {w : World} {i d : Nat} {t : TypeId} {p : String} {af : Array Edge} {g : Option (Nat × Bool)}
variable {G : Gh} {L R : List Assn} {s u T : TypeId} {x y : Operand} {v : Value} {k : IntKind} {a : Int}
theorem x_bsN {c : TypeId} {z m : Nat} {zc : Array Value} {xs : Array (Nat × Operand)} {vs cs : List Value} (ho : ops[i]? = some ⟨some d, .buildSlice s m xs, t, p, af, g⟩) (hd : Nat.blt d n = true) (hg : Gd ops e g) (hs : P.underlying s = some (.slice c)) (hzc : (P.info? c).map (·.size) = some z) (hz0 : zeroOf P c = some zc) (hz : 0 < m * z ∧ m * z ≤ 16777216)
  (hx : evs e (xs.toList.map (·.2)) = some vs) (hf : Instr.fill (fun i => some (i * z, z)) ((Array.range (m * z)).map (zc[· % zc.size]!)) ((xs.toList.map (·.1)).zip vs) = some cs.toArray) (hw : Sat G L w) (hpd : pend P ops dr done i = [])
  (h : ∀ w' b, Sat G (blk b cs c :: L) w' → XL P n ops dr (i :: done) r K ((d, .slice (some ⟨b, 0, none⟩) m m) :: e) w') : XL P n ops dr done (i :: r) K e w := by
 obtain ⟨hk, hm⟩ := evs_mem hx
 refine xl_eff ho (by simpa [dstOk] using hd) hg (ρ := rh e) (by intro z hz; exact hk z (by simpa [Op.operands] using hz)) rfl (v := .slice (some ⟨w.heap.size, 0, none⟩) m m) (w' := { w with heap := w.heap.push (.cells cs.toArray c (0, 0)) }) ?_ (noPend hpd) (h _ _ (hw.push _))
 have e1 : (xs.map fun (j, z) => (j, rh e z)) = ((xs.toList.map (·.1)).zip vs).toArray := by
  apply Array.ext'
  rw [← hm]
  simp only [Array.toList_map]
  generalize xs.toList = q
  induction q with
  | nil => rfl
  | cons x q ih => obtain ⟨a, b⟩ := x; simp only [List.map_cons, List.zip_cons_cons, ih]
 cases hi : P.info? c with
 | none => simp [hi] at hzc
 | some inf =>
  have hsz : inf.size = z := by simpa [hi] using hzc
  cases hzz : inf.zero with
  | none => simp [zeroOf, hi, hzz] at hz0
  | some zv =>
   have hzs : zv.cells = zc := by simpa [zeroOf, hi, hzz] using hz0
   have hnz : ¬ m * z = 0 := by omega
   have hle : ¬ 16777216 < m * z := by omega
   simp only [execOp, e1]
   simp [Instr.buildSlice, run_underlying hs, sizeOf, typeInfo, hi, hsz, zeroValue, hzz, hnz, hle, hzs, hf, newRow]
theorem x_bs0 {c : TypeId} {z : Nat} (ho : ops[i]? = some ⟨some d, .buildSlice s 0 #[], t, p, af, g⟩) (hd : Nat.blt d n = true) (hg : Gd ops e g) (hs : P.underlying s = some (.slice c)) (hzc : (P.info? c).map (·.size) = some z) (hw : Sat G L w) (hpd : pend P ops dr done i = [])
  (h : ∀ w' b, Sat G (blk b [] c :: L) w' → XL P n ops dr (i :: done) r K ((d, .slice (some ⟨b, 0, none⟩) 0 0) :: e) w') : XL P n ops dr done (i :: r) K e w := by
 refine xl_eff ho (by simpa [dstOk] using hd) hg (ρ := rh e) (by intro z hz; simp [Op.operands] at hz) rfl (v := .slice (some ⟨w.heap.size, 0, none⟩) 0 0) (w' := { w with heap := w.heap.push (.cells #[] c (0, 0)) }) ?_ (noPend hpd) (h _ _ (hw.push _))
 cases hi : P.info? c with
 | none => simp [hi] at hzc
 | some inf => simp [execOp, Instr.buildSlice, run_underlying hs, sizeOf, typeInfo, hi, Instr.fill, newRow]; rw [show Array.map (fun _ => default) (Array.range 0) = (#[] : Array Value) by simp]
theorem run_equal_slnil {c : TypeId} {q : Option Addr} {l m : Nat} (hs : P.underlying s = some (.slice c)) (w : World) : (Op.equal s (.slice q l m) (.slice none 0 0)).run P w = .ok q.isNone w := by
 have : ∀ m', (Op.equalIn (m' + 1) s (.slice q l m) (.slice none 0 0)).run P w = .ok q.isNone w := fun m' => by
  cases q <;> simp [Op.equalIn, run_underlying hs]
 exact this 9999
theorem x_eqnilS {c : TypeId} {q : Option Addr} {l m : Nat} (ho : ops[i]? = some ⟨some d, .binOp .eql s x (.const (.slice none 0 0)) u, t, p, af, g⟩) (hd : Nat.blt d n = true) (hg : Gd ops e g)
  (hs : P.underlying s = some (.slice c)) (hx : ev e x = some (.slice q l m))
  (h : XL P n ops dr (i :: done) r K ((d, .bool q.isNone) :: e) w) : XL P n ops dr done (i :: r) K e w :=
 x_bin ho hd hg (by simp [okind, hs]) hx (show ev e (.const (.slice none 0 0)) = some (.slice none 0 0) from rfl) (fun w' => by
  have h0 : (eqGuard .eql s x (.const (.slice none 0 0)) (.slice q l m) (.slice none 0 0)).run P w' = .ok () w' := by simp [eqGuard]
  have h1 : (binOp .eql s (.slice q l m) (.slice none 0 0)).run P w' = .ok (.bool q.isNone) w' := by
   simp only [binOp, Sem.run_bind, run_equal_slnil hs, Result.andThen_ok]; rfl
  simp only [Sem.run_bind, h0, h1, Result.andThen_ok]) h
theorem x_cut3H {c : TypeId} {q : Option Addr} {len cap : Nat} {hi mx : Int} {kh km : IntKind} {h' m' : Operand} (ho : ops[i]? = some ⟨some d, .slice s x none (some h') (some m'), t, p, af, g⟩) (hd : Nat.blt d n = true) (hg : Gd ops e g) (hs : P.underlying s = some (.slice c)) (hz : ((P.info? c).map (·.size)).isSome = true)
  (hx : ev e x = some (.slice q len cap)) (hq : ∀ a, q = some a → a.spot = none) (hh : ev e h' = some (.int kh hi)) (hm : ev e m' = some (.int km mx)) (hb : 0 ≤ hi ∧ hi ≤ mx ∧ mx ≤ cap)
  (h : XL P n ops dr (i :: done) r K ((d, .slice q hi.toNat mx.toNat) :: e) w) : XL P n ops dr done (i :: r) K e w :=
 xl_pure ho (by simpa [dstOk] using hd) hg (ρ := rh e) (by intro z hZ; simp [Op.operands] at hZ; exact oh3 hx hh hm hZ) rfl
  (v := .slice q hi.toNat mx.toNat) (fun w' => by
   cases hi' : P.info? c with
   | none => simp [hi'] at hz
   | some inf =>
    have h1 := run_bound (P := P) (k := km) (v := mx) (y := cap) (c := .slice3Acap) ⟨by omega, hb.2.2⟩ w'
    have h2 := run_bound (P := P) (k := kh) (v := hi) (y := mx.toNat) (c := .slice3B) ⟨hb.1, by omega⟩ w'
    cases q with
    | none => simp [execOp, rh_of hx, rh_of hh, rh_of hm, Instr.sliceAt, Instr.slice, Instr.sliceBounds, run_underlying hs, h1, h2, sizeOf, typeInfo, hi']
    | some a => simp [execOp, rh_of hx, rh_of hh, rh_of hm, Instr.sliceAt, Instr.slice, Instr.sliceBounds, run_underlying hs, h1, h2, sizeOf, typeInfo, hi', Addr.add]) h
theorem x_cutLz {c : TypeId} {q : Option Addr} {len : Nat} {lo : Int} {kl : IntKind} {l : Operand} (ho : ops[i]? = some ⟨some d, .slice s x (some l) none none, t, p, af, g⟩) (hd : Nat.blt d n = true) (hg : Gd ops e g) (hs : P.underlying s = some (.slice c)) (hz : ((P.info? c).map (·.size)).isSome = true)
  (hx : ev e x = some (.slice q len len)) (hl : ev e l = some (.int kl lo)) (hb : lo = len)
  (h : XL P n ops dr (i :: done) r K ((d, .slice q 0 0) :: e) w) : XL P n ops dr done (i :: r) K e w :=
 xl_pure ho (by simpa [dstOk] using hd) hg (ρ := rh e) (by intro z hZ; simp [Op.operands] at hZ; exact oh2 hx hl hZ) rfl
  (v := .slice q 0 0) (fun w' => by
   cases hi' : P.info? c with
   | none => simp [hi'] at hz
   | some inf =>
    have h1 := run_bound (P := P) (k := kl) (v := lo) (y := len) (c := .sliceB) ⟨by omega, by omega⟩ w'
    have hll : lo.toNat = len := by omega
    simp [execOp, rh_of hx, rh_of hl, Instr.sliceAt, Instr.slice, Instr.sliceBounds, run_underlying hs, h1, sizeOf, typeInfo, hi', hll]) h
theorem x_idxA {c : TypeId} {b o m z : Nat} (ho : ops[i]? = some ⟨some d, .indexAddr s x y, t, p, af, g⟩) (hd : Nat.blt d n = true) (hg : Gd ops e g) (hs : P.underlying s = some (.array m c)) (hz : (P.info? c).map (·.size) = some z)
  (hx : ev e x = some (.pointer (some ⟨b, o, none⟩))) (hy : ev e y = some (.int k a)) (ha : 0 ≤ a ∧ a < m)
  (h : XL P n ops dr (i :: done) r K ((d, .pointer (some ⟨b, o + a.toNat * z, none⟩)) :: e) w) : XL P n ops dr done (i :: r) K e w :=
 xl_pure ho (by simpa [dstOk] using hd) hg (ρ := rh e) (by intro z hZ; simp [Op.operands] at hZ; exact oh2 hx hy hZ) rfl (v := .pointer (some ⟨b, o + a.toNat * z, none⟩)) (fun w' => by
  cases hi : P.info? c with
  | none => simp [hi] at hz
  | some inf =>
   have hsz : inf.size = z := by simpa [hi] using hz
   simp [execOp, rh_of hx, rh_of hy, Instr.indexAt, Instr.sureAddr, asIntOf, run_underlying hs, ha.1, ha.2, sizeOf, typeInfo, hi, hsz, add_lit]) h
theorem x_cap {c : TypeId} {q : Option Addr} {len cap : Nat} (ho : ops[i]? = some ⟨some d, .call ⟨.builtin .cap, #[x], #[s]⟩, t, p, af, g⟩) (hd : Nat.blt d n = true) (hg : Gd ops e g) (hs : P.underlying s = some (.slice c))
  (hx : ev e x = some (.slice q len cap)) (h : XL P n ops dr (i :: done) r K ((d, .int .i64 cap) :: e) w) : XL P n ops dr done (i :: r) K e w :=
 xl_pure ho (by simpa [dstOk] using hd) hg (ρ := rh e) (by intro z hZ; simp [Op.operands, Call.operands] at hZ; exact oh1 hx hZ) (by simp [okind, hs]) (v := .int .i64 cap)
  (fun w' => by simp [execOp, resolve, invoke, builtin, rh_of hx, Builtin.cap_, run_underlying hs, goInt]) h
theorem x_appP {c : TypeId} {z bytes m k : Nat} {xs news : List Value} {ax : Addr} {cx : Nat} (ho : ops[i]? = some ⟨some d, .call ⟨.builtin .append, #[x, y], #[s, s]⟩, t, p, af, g⟩) (hd : Nat.blt d n = true) (hg : Gd ops e g) (hs : P.underlying s = some (.slice c)) (hzc : (P.info? c).map (·.size) = some z)
  (hbc : (P.info? c).map (·.bytes) = some bytes) (hz0 : (zeroOf P c).map (·.size) = some z) (hx : ev e x = some v) (hy : ev e y = some (.slice (some ax) k cx)) (hw : Sat G L w) (hp : Pick (row c z v m xs) L R) (hr : Rd w ax news) (hl : news.length = k * z) (h1 : Ones news)
  (h63 : m + k ≤ maxLen) (hby : (m + k) * bytes ≤ 140737488355328)
  (hpd : ∀ w' v', Sat G (row c z v' (m + k) (xs ++ news) :: R) w' → ∀ q ∈ pend P ops dr done i, ChkE P n ops q ((d, v') :: e) w')
  (h : ∀ w' v', Sat G (row c z v' (m + k) (xs ++ news) :: R) w' → XL P n ops dr (i :: done) r K ((d, v') :: e) w') : XL P n ops dr done (i :: r) K e w := by
 cases hi : P.info? c with
 | none => simp [hi] at hzc
 | some inf =>
  have hsz : inf.size = z := by simpa [hi] using hzc
  have hbb : inf.bytes = bytes := by simpa [hi] using hbc
  cases hzz : inf.zero with
  | none => simp [zeroOf, hi, hzz] at hz0
  | some zv =>
   have hzs : zv.cells.size = z := by simpa [zeroOf, hi, hzz] using hz0
   obtain ⟨v', w', hrun, hsat⟩ := run_app (P := P) (ty := t) (cx := cx) hs hi hzz hsz hbb hzs (hw.pick hp) hr hl h1 h63 hby
   refine xl_eff ho (by simpa [dstOk] using hd) hg (ρ := rh e) (by intro z hZ; simp [Op.operands, Call.operands] at hZ; exact oh2 hx hy hZ) rfl (v := v') (w' := w') ?_ (hpd _ _ hsat) (h _ _ hsat)
   simp only [execOp, resolve, invoke, builtin, Sem.run_bind, Sem.run_pure, Result.andThen_ok, List.map_toArray, List.map_cons, List.map_nil, rh_of hx, rh_of hy, hrun]
end
abbrev KV := List (Int × Value)
def klook : KV → Int → Option Value
 | [], _ => none
 | (k, v) :: r, i => if i = k then some v else klook r i
def kput : KV → Int → Value → KV
 | [], i, v => [(i, v)]
 | (k, u) :: r, i, v => if i = k then (k, v) :: r else (k, u) :: kput r i v
def kdel : KV → Int → KV
 | [], _ => []
 | (k, u) :: r, i => if i = k then r else (k, u) :: kdel r i
theorem klook_put (kv : KV) (i : Int) (v : Value) (j : Int) : klook (kput kv i v) j = if j = i then some v else klook kv j := by
 induction kv with
 | nil => simp [kput, klook]
 | cons p r ih =>
  obtain ⟨k, u⟩ := p
  by_cases h : i = k
  ·subst h; simp only [kput, if_true, klook]; split <;> rfl
  simp only [kput, if_neg h, klook, ih]
  by_cases h1 : j = k
  ·subst h1; simp [Ne.symm h]
  simp [h1]
theorem klook_none {kv : KV} {i : Int} : klook kv i = none ↔ i ∉ kv.map (·.1) := by
 induction kv with
 | nil => simp [klook]
 | cons p r ih =>
  obtain ⟨k, u⟩ := p
  by_cases h : i = k
  ·subst h; simp [klook]
  simp [klook, h, ih]
theorem klook_mem {kv : KV} {i : Int} {v : Value} (h : klook kv i = some v) : (i, v) ∈ kv := by
 induction kv with
 | nil => simp [klook] at h
 | cons p r ih =>
  obtain ⟨k, u⟩ := p
  by_cases hk : i = k
  ·subst hk; simp [klook] at h; subst h; simp
  simp [klook, hk] at h; exact List.mem_cons_of_mem _ (ih h)
theorem mem_klook {kv : KV} (hn : (kv.map (·.1)).Nodup) {i : Int} {v : Value} (h : (i, v) ∈ kv) : klook kv i = some v := by
 induction kv with
 | nil => cases h
 | cons p r ih =>
  obtain ⟨k, u⟩ := p
  simp only [List.map_cons, List.nodup_cons] at hn
  rcases List.mem_cons.1 h with h | h
  ·cases h; simp [klook]
  have : i ≠ k := fun e => hn.1 (List.mem_map.2 ⟨(i, v), h, e⟩)
  simp [klook, this, ih hn.2 h]
theorem kput_keys (kv : KV) (i : Int) (v : Value) : (kput kv i v).map (·.1) = if i ∈ kv.map (·.1) then kv.map (·.1) else kv.map (·.1) ++ [i] := by
 induction kv with
 | nil => simp [kput]
 | cons p r ih =>
  obtain ⟨k, u⟩ := p
  by_cases h : i = k
  ·subst h; simp [kput]
  by_cases hm : i ∈ r.map (·.1)
  ·rw [if_pos hm] at ih; rw [if_pos (by rw [List.map_cons]; exact List.mem_cons_of_mem _ hm)]
   simp only [kput, if_neg h, List.map_cons, ih]
  rw [if_neg hm] at ih; rw [if_neg (by rw [List.map_cons]; exact fun hc => (List.mem_cons.1 hc).elim h hm)]
  simp only [kput, if_neg h, List.map_cons, ih, List.cons_append]
theorem kput_nodup {kv : KV} (hn : (kv.map (·.1)).Nodup) (i : Int) (v : Value) : ((kput kv i v).map (·.1)).Nodup := by
 rw [kput_keys]; split
 ·exact hn
 rename_i h; exact List.nodup_append.2 ⟨hn, by simp, fun a ha b hb => by simp at hb; subst hb; exact fun e => h (e ▸ ha)⟩
theorem kdel_sub (kv : KV) (i : Int) : (kdel kv i).Sublist kv := by
 induction kv with
 | nil => exact .slnil
 | cons p r ih =>
  obtain ⟨k, u⟩ := p
  by_cases h : i = k
  ·subst h; simp [kdel]
  simp only [kdel, if_neg h]; exact ih.cons_cons _
theorem kdel_nodup {kv : KV} (hn : (kv.map (·.1)).Nodup) (i : Int) : ((kdel kv i).map (·.1)).Nodup := hn.sublist ((kdel_sub kv i).map _)
structure Fits (es : List MapEntry) (ck : Nat) (kv : KV) : Prop where
 pairs : es.map (fun e => (e.key, e.val)) = kv.map fun p => (Value.int .i64 p.1, p.2)
 keys : (kv.map (·.1)).Nodup
 old : ∀ e ∈ es, e.born < ck
 borns : (es.map (·.born)).Nodup
def mapI (m : Nat) (kv : KV) : Assn := fun h => ∃ es ck, h m = some (.map es ck) ∧ Fits es.toList ck kv
def kfind : KV → Int → Nat → Option (Nat × Value)
 | [], _, _ => none
 | (k, v) :: r, i, j => if i = k then some (j, v) else kfind r i (j + 1)
theorem findNow_eq (K : IntKind) (i : Int) : ∀ (es : List MapEntry) (kv : KV) (j : Nat), es.map (fun e => (e.key, e.val)) = kv.map (fun p => (Value.int .i64 p.1, p.2)) →
  Instr.findNow (.int K) (.int .i64 i) es j = some (kfind kv i j)
 | [], [], _, _ => rfl
 | [], _ :: _, _, h => by simp at h
 | _ :: _, [], _, h => by simp at h
 | e :: es, (k, v) :: kv, j, h => by
  simp only [List.map_cons, List.cons.injEq, Prod.mk.injEq] at h
  obtain ⟨⟨h1, h2⟩, h3⟩ := h
  have ih := findNow_eq K i es kv (j + 1) h3
  by_cases hk : i = k
  ·subst hk; simp [Instr.findNow, h1, h2, Instr.sameNow, kfind]
  have hb : (i == k) = false := by simpa using hk
  simp [Instr.findNow, h1, Instr.sameNow, kfind, hk, ih, hb]
theorem kfind_look (i : Int) : ∀ (kv : KV) (j : Nat), (kfind kv i j).map (·.2) = klook kv i
 | [], _ => rfl
 | (k, v) :: r, j => by by_cases h : i = k <;> simp [kfind, klook, h, kfind_look i r]
theorem kfind_put (i : Int) (v : Value) : ∀ (es : List MapEntry) (kv : KV) (j : Nat), es.map (fun e => (e.key, e.val)) = kv.map (fun p => (Value.int .i64 p.1, p.2)) →
  ∀ q u, kfind kv i j = some (q, u) → j ≤ q ∧ ∃ e, es[q - j]? = some e ∧ e.key = .int .i64 i ∧
   (es.modify (q - j) fun e => { e with key := .int .i64 i, val := v }).map (fun e => (e.key, e.val)) = (kput kv i v).map (fun p => (Value.int .i64 p.1, p.2)) ∧
   (es.modify (q - j) fun e => { e with key := .int .i64 i, val := v }).map (·.born) = es.map (·.born) ∧
   (es.eraseIdx (q - j)).map (fun e => (e.key, e.val)) = (kdel kv i).map (fun p => (Value.int .i64 p.1, p.2))
 | [], [], _, _, _, _, h => by simp [kfind] at h
 | [], _ :: _, _, h, _, _, _ => by simp at h
 | _ :: _, [], _, h, _, _, _ => by simp at h
 | e :: es, (k, u) :: kv, j, h, q, u', hf => by
  simp only [List.map_cons, List.cons.injEq, Prod.mk.injEq] at h
  obtain ⟨⟨h1, h2⟩, h3⟩ := h
  by_cases hk : i = k
  ·subst hk
   simp [kfind] at hf
   obtain ⟨rfl, rfl⟩ := hf
   refine ⟨Nat.le_refl _, e, ?_⟩
   simp [kput, kdel, h1, h3]
  simp [kfind, hk] at hf
  obtain ⟨hle, e', h4, h5, h6, h7, h8⟩ := kfind_put i v es kv (j + 1) h3 q u' hf
  have hq : q - j = (q - (j + 1)) + 1 := by omega
  refine ⟨by omega, e', ?_⟩
  rw [hq]
  refine ⟨by simpa using h4, h5, ?_, ?_, ?_⟩
  ·simp only [List.modify_succ_cons, List.map_cons, kput, if_neg hk, h6, h1, h2]
  ·simp only [List.modify_succ_cons, List.map_cons, h7]
  simp only [List.eraseIdx_cons_succ, List.map_cons, kdel, if_neg hk, h8, h1, h2]
section
variable {P : Program} {n : Nat} {ops : Array Oper} {dr : Bool} {done r : List Nat} {K : Env → World → Prop} {e : Env} {w : World} {i d : Nat} {t : TypeId} {p : String} {af : Array Edge} {g : Option (Nat × Bool)}
variable {G : Gh} {L R : List Assn} {s T : TypeId} {x y c : Operand} {m : Nat} {kv : KV} {v : Value} {kt et : TypeId} {a : Int}
theorem run_getObj {o : Obj} (h : w.heap[m]? = some o) (hn : ∀ c e f, o ≠ .cells c e f) : (getObj m).run P w = .ok o w := by
 unfold getObj
 cases o <;> simp [Sem.run, h]
 exact absurd rfl (hn _ _ _)
theorem run_setObj {o : Obj} (o' : Obj) (h : w.heap[m]? = some o) (hn : ∀ c e f, o ≠ .cells c e f) : (setObj m o').run P w = .ok () { w with heap := w.heap.setIfInBounds m o' } := by
 unfold setObj
 cases o <;> simp [Sem.run, h]
 exact absurd rfl (hn _ _ _)
theorem mapI_open (hw : Sat G (mapI m kv :: R) w) : ∃ es ck, Fits es.toList ck kv ∧ Sat G (pt m (.map es ck) :: R) w := by
 obtain ⟨hg, h, hh, h1, h2, hd, hu, ⟨es, ck, hm, hf⟩, hL⟩ := hw
 exact ⟨es, ck, hf, hg, h, hh, h1, h2, hd, hu, hm, hL⟩
theorem mapI_shut {es : Array MapEntry} {ck : Nat} (hf : Fits es.toList ck kv) (hw : Sat G (pt m (.map es ck) :: R) w) : Sat G (mapI m kv :: R) w := hw.cons_mono fun h hm => ⟨es, ck, hm, hf⟩
theorem run_findKey (hk : P.underlying kt = some (.int .i64)) {es : List MapEntry} {ck : Nat} (hf : Fits es ck kv) (w : World) : (Instr.findKey kt (.int .i64 a) es).run P w = .ok (kfind kv a 0) w := by
 simp [Instr.findKey, run_underlying hk, findNow_eq .i64 a es kv 0 hf.pairs]
theorem run_checkKey (hk : P.underlying kt = some (.int .i64)) {b : Bool} (w : World) : (Instr.checkKey b 10000 kt (.int .i64 a)).run P w = .ok () w := by
 have : ∀ q, (Instr.checkKey b (q + 1) kt (.int .i64 a)).run P w = .ok () w := fun q => by simp [Instr.checkKey, run_underlying hk]
 exact this 9999
theorem x_mkm (ho : ops[i]? = some ⟨some d, .makeMap s none, t, p, af, g⟩) (hd : Nat.blt d n = true) (hg : Gd ops e g) (hw : Sat G L w) (hpd : pend P ops dr done i = [])
  (h : ∀ w' m, Sat G (mapI m [] :: L) w' → XL P n ops dr (i :: done) r K ((d, .map (some m)) :: e) w') : XL P n ops dr done (i :: r) K e w := by
 refine xl_eff ho (by simpa [dstOk] using hd) hg (ρ := rh e) (by intro z hZ; simp [Op.operands] at hZ) rfl (v := .map (some w.heap.size)) (w' := { w with heap := w.heap.push (.map #[] 0) }) ?_ (noPend hpd) (h _ _ (mapI_shut ⟨rfl, by simp, by simp, by simp⟩ (hw.push _)))
 simp [execOp, Instr.makeMap, newObj, Sem.run]
theorem x_lk2 {z : Value} (ho : ops[i]? = some ⟨some d, .lookup s x y true, t, p, af, g⟩) (hd : Nat.blt d n = true) (hg : Gd ops e g) (hs : P.underlying s = some (.map kt et)) (hk : P.underlying kt = some (.int .i64)) (hz : (P.info? et).bind (·.zero) = some z) (hx : ev e x = some (.map (some m))) (hy : ev e y = some (.int .i64 a))
  (hw : Sat G L w) (hp : Pick (mapI m kv) L R) {v0 : Value} {b0 : Bool} (hv0 : (klook kv a).getD z = v0) (hb0 : (klook kv a).isSome = b0) (h : XL P n ops dr (i :: done) r K ((d, .tuple #[v0, .bool b0]) :: e) w) : XL P n ops dr done (i :: r) K e w := by
 subst hv0 hb0
 obtain ⟨es, ck, hf, hw'⟩ := mapI_open (hw.pick hp)
 refine xl_read ho (by simpa [dstOk] using hd) hg (ρ := rh e) (by intro z hZ; simp [Op.operands] at hZ; exact oh2 hx hy hZ) rfl (v := .tuple #[(klook kv a).getD z, .bool (klook kv a).isSome]) ?_ h
 have h1 := run_getObj (P := P) hw'.pt_head (by simp)
 have h2 := kfind_look a kv 0
 cases hi : P.info? et with
 | none => simp [hi] at hz
 | some inf =>
  have hzz : inf.zero = some z := by simpa [hi] using hz
  cases hkf : kfind kv a 0 with
  | none => rw [hkf] at h2; simp at h2; simp [execOp, rh_of hx, rh_of hy, Instr.lookup, run_underlying hs, h1, run_checkKey hk, run_findKey hk hf, hkf, zeroValue, typeInfo, hi, hzz, ← h2]
  | some q => obtain ⟨q, u⟩ := q; rw [hkf] at h2; simp at h2; simp [execOp, rh_of hx, rh_of hy, Instr.lookup, run_underlying hs, h1, run_checkKey hk, run_findKey hk hf, hkf, ← h2]
theorem x_lk1 {z : Value} (ho : ops[i]? = some ⟨some d, .lookup s x y false, t, p, af, g⟩) (hd : Nat.blt d n = true) (hg : Gd ops e g) (hs : P.underlying s = some (.map kt et)) (hk : P.underlying kt = some (.int .i64)) (hz : (P.info? et).bind (·.zero) = some z) (hx : ev e x = some (.map (some m))) (hy : ev e y = some (.int .i64 a))
  (hw : Sat G L w) (hp : Pick (mapI m kv) L R) {v0 : Value} (hv0 : (klook kv a).getD z = v0) (h : XL P n ops dr (i :: done) r K ((d, v0) :: e) w) : XL P n ops dr done (i :: r) K e w := by
 subst hv0
 obtain ⟨es, ck, hf, hw'⟩ := mapI_open (hw.pick hp)
 refine xl_read ho (by simpa [dstOk] using hd) hg (ρ := rh e) (by intro z hZ; simp [Op.operands] at hZ; exact oh2 hx hy hZ) rfl (v := (klook kv a).getD z) ?_ h
 have h1 := run_getObj (P := P) hw'.pt_head (by simp)
 have h2 := kfind_look a kv 0
 cases hi : P.info? et with
 | none => simp [hi] at hz
 | some inf =>
  have hzz : inf.zero = some z := by simpa [hi] using hz
  cases hkf : kfind kv a 0 with
  | none => rw [hkf] at h2; simp at h2; simp [execOp, rh_of hx, rh_of hy, Instr.lookup, run_underlying hs, h1, run_checkKey hk, run_findKey hk hf, hkf, zeroValue, typeInfo, hi, hzz, ← h2]
  | some q => obtain ⟨q, u⟩ := q; rw [hkf] at h2; simp at h2; simp [execOp, rh_of hx, rh_of hy, Instr.lookup, run_underlying hs, h1, run_checkKey hk, run_findKey hk hf, hkf, ← h2]
theorem kfind_none {i : Int} : ∀ {kv : KV} {j : Nat}, kfind kv i j = none → i ∉ kv.map (·.1)
 | [], _, _ => by simp
 | (k, v) :: r, j, h => by
  by_cases hk : i = k
  ·subst hk; simp [kfind] at h
  simp [kfind, hk] at h; simpa [hk] using kfind_none h
theorem kput_new {i : Int} {v : Value} : ∀ {kv : KV}, i ∉ kv.map (·.1) → kput kv i v = kv ++ [(i, v)]
 | [], _ => rfl
 | (k, u) :: r, h => by simp at h; simp [kput, h.1, kput_new (kv := r) (i := i) (v := v) (by simpa using h.2)]
theorem x_mu (ho : ops[i]? = some ⟨none, .mapUpdate s x y c, t, p, af, g⟩) (hg : Gd ops e g) (hs : P.underlying s = some (.map kt et)) (hk : P.underlying kt = some (.int .i64)) (hx : ev e x = some (.map (some m))) (hy : ev e y = some (.int .i64 a)) (hc : ev e c = some v)
  (hw : Sat G L w) (hp : Pick (mapI m kv) L R) (hpd : pend P ops dr done i = []) (h : ∀ w', Sat G (mapI m (kput kv a v) :: R) w' → XL P n ops dr (i :: done) r K e w') : XL P n ops dr done (i :: r) K e w := by
 obtain ⟨es, ck, hf, hw'⟩ := mapI_open (hw.pick hp)
 have h1 := run_getObj (P := P) hw'.pt_head (by simp)
 have hso := fun o' => run_setObj (P := P) o' hw'.pt_head (by simp)
 cases hkf : kfind kv a 0 with
 | none =>
  have hnk := kfind_none hkf
  have hfit : Fits (es.push { key := .int .i64 a, val := v, born := ck }).toList (ck + 1) (kput kv a v) := by
   refine ⟨by rw [kput_new hnk]; simp [hf.pairs], kput_nodup hf.keys _ _, fun e he => ?_, ?_⟩
   ·simp at he; rcases he with he | rfl
    ·have := hf.old e (by simpa using he); omega
    simp
   simp only [Array.toList_push, List.map_append, List.map_cons, List.map_nil]
   refine List.nodup_append.2 ⟨hf.borns, by simp, fun b hb c hc => ?_⟩
   simp at hc; subst hc
   obtain ⟨e, he, rfl⟩ := List.mem_map.1 hb
   have := hf.old e he; omega
  refine xl_effu ho rfl hg (ρ := rh e) (by intro z hZ; simp [Op.operands] at hZ; exact oh3 hx hy hc hZ) rfl (w' := _) ?_ (noPend (dst := none) hpd) (h _ (mapI_shut hfit (hw'.set _)))
  simp [execOp, rh_of hx, rh_of hy, rh_of hc, Instr.mapUpdate, run_underlying hs, h1, run_checkKey hk, run_findKey hk hf, hkf, hso]
 | some q =>
  obtain ⟨q, u⟩ := q
  obtain ⟨_, e', h4, h5, h6, h7, _⟩ := kfind_put a v es.toList kv 0 hf.pairs q u hkf
  simp only [Nat.sub_zero] at h4 h6 h7
  have hfit : Fits (es.modify q fun e => { e with key := .int .i64 a, val := v }).toList ck (kput kv a v) := by
   have em : (es.modify q fun e => { e with key := .int .i64 a, val := v }).toList = es.toList.modify q fun e => { e with key := .int .i64 a, val := v } := by simp
   rw [em]
   refine ⟨h6, kput_nodup hf.keys _ _, fun x hx => ?_, by rw [h7]; exact hf.borns⟩
   have hb : x.born ∈ (es.toList.modify q fun e => { e with key := .int .i64 a, val := v }).map (·.born) := List.mem_map.2 ⟨x, hx, rfl⟩
   rw [h7] at hb
   obtain ⟨z, hz, hzb⟩ := List.mem_map.1 hb
   have := hf.old z hz; omega
  refine xl_effu ho rfl hg (ρ := rh e) (by intro z hZ; simp [Op.operands] at hZ; exact oh3 hx hy hc hZ) rfl (w' := _) ?_ (noPend (dst := none) hpd) (h _ (mapI_shut hfit (hw'.set _)))
  have hkey : ((es[q]?).map (·.key)).getD (.int .i64 a) = .int .i64 a := by
   have : es[q]? = some e' := by simpa using h4
   simp [this, h5]
  simp [execOp, rh_of hx, rh_of hy, rh_of hc, Instr.mapUpdate, run_underlying hs, h1, run_checkKey hk, run_findKey hk hf, hkf, hso, hkey, Instr.keyThatStays, Instr.sameBits]
theorem x_del {ts : Array TypeId} (ho : ops[i]? = some ⟨none, .call ⟨.builtin .delete, #[x, y], ts⟩, t, p, af, g⟩) (hg : Gd ops e g) (ht : ts[0]? = some s) (hs : P.underlying s = some (.map kt et)) (hk : P.underlying kt = some (.int .i64)) (hx : ev e x = some (.map (some m))) (hy : ev e y = some (.int .i64 a))
  (hw : Sat G L w) (hp : Pick (mapI m kv) L R) (hpd : pend P ops dr done i = []) (h : ∀ w', Sat G (mapI m (kdel kv a) :: R) w' → XL P n ops dr (i :: done) r K e w') : XL P n ops dr done (i :: r) K e w := by
 obtain ⟨es, ck, hf, hw'⟩ := mapI_open (hw.pick hp)
 have h1 := run_getObj (P := P) hw'.pt_head (by simp)
 have hso := fun o' => run_setObj (P := P) o' hw'.pt_head (by simp)
 cases hkf : kfind kv a 0 with
 | none =>
  have hnk := kfind_none hkf
  have hdel : ∀ {kv : KV}, a ∉ kv.map (·.1) → kdel kv a = kv := by
   intro kv
   induction kv with
   | nil => intro _; rfl
   | cons p r ih => intro hn; obtain ⟨k, u⟩ := p; simp at hn; simp [kdel, hn.1, ih (by simpa using hn.2)]
  have hfit : Fits es.toList ck (kdel kv a) := by rw [hdel hnk]; exact hf
  refine xl_eff ho rfl hg (ρ := rh e) (by intro z hZ; simp [Op.operands, Call.operands] at hZ; exact oh2 hx hy hZ) rfl (v := .tuple #[]) (w' := _) ?_ (noPend (dst := none) hpd) (h _ (mapI_shut hfit (hw'.set _)))
  simp [execOp, resolve, invoke, builtin, rh_of hx, rh_of hy, Builtin.delete_, ht, run_underlying hs, h1, run_checkKey hk, run_findKey hk hf, hkf, hso]
 | some q =>
  obtain ⟨q, u⟩ := q
  obtain ⟨_, e', h4, h5, _, _, h8⟩ := kfind_put a (.int .i64 0) es.toList kv 0 hf.pairs q u hkf
  simp only [Nat.sub_zero] at h4 h8
  have hql : q < es.size := by have := (List.getElem?_eq_some_iff.1 h4).1; simpa using this
  have em : (es.eraseIdxIfInBounds q).toList = es.toList.eraseIdx q := by simp [Array.eraseIdxIfInBounds, hql]
  have hfit : Fits (es.eraseIdxIfInBounds q).toList ck (kdel kv a) := by
   rw [em]
   exact ⟨h8, kdel_nodup hf.keys _, fun x hx => hf.old x ((List.eraseIdx_sublist ..).subset hx), hf.borns.sublist ((List.eraseIdx_sublist ..).map _)⟩
  refine xl_eff ho rfl hg (ρ := rh e) (by intro z hZ; simp [Op.operands, Call.operands] at hZ; exact oh2 hx hy hZ) rfl (v := .tuple #[]) (w' := _) ?_ (noPend (dst := none) hpd) (h _ (mapI_shut hfit (hw'.set _)))
  simp [execOp, resolve, invoke, builtin, rh_of hx, rh_of hy, Builtin.delete_, ht, run_underlying hs, h1, run_checkKey hk, run_findKey hk hf, hkf, hso]
def iter (it m : Nat) (kv : KV) (vis : List Int) : Assn := fun h => ∃ (es : Array MapEntry) (ck : Nat) (sq : Array Nat) (vs : List MapEntry), h m = some (.map es ck) ∧ h it = some (.mapIter (some m) ck sq ck) ∧ m ≠ it ∧ Fits es.toList ck kv ∧
 (∀ e ∈ vs, e ∈ es.toList) ∧ (vs.map fun (e : MapEntry) => e.born) = sq.toList.reverse ∧ (vs.map fun (e : MapEntry) => e.key) = vis.map (Value.int .i64 ·)
theorem iter_open {it : Nat} {vis : List Int} (hw : Sat G (iter it m kv vis :: R) w) : ∃ (es : Array MapEntry) (ck : Nat) (sq : Array Nat) (vs : List MapEntry), Fits es.toList ck kv ∧ (∀ e ∈ vs, e ∈ es.toList) ∧ (vs.map fun (e : MapEntry) => e.born) = sq.toList.reverse ∧ (vs.map fun (e : MapEntry) => e.key) = vis.map (Value.int .i64 ·) ∧
  Sat G (pt it (.mapIter (some m) ck sq ck) :: pt m (.map es ck) :: R) w := by
 obtain ⟨hg, h, hh, h1, h2, hd, hu, ⟨es, ck, sq, vs, hm, hi, hne, hf, h3, h4, h5⟩, hL⟩ := hw
 refine ⟨es, ck, sq, vs, hf, h3, h4, h5, hg, h, hh, fun b => if b = it then h1 b else none, fun b => if b = it then none else union h1 h2 b, fun b => ?_, fun b o hb => ?_, by simp [pt, hi], fun b => if b = it then none else h1 b, h2, fun b => ?_, fun b o hb => ?_, by simp [pt, hne, hm], hL⟩
 ·by_cases e : b = it <;> simp [e]
 ·refine hu b o ?_
  rcases union_cases hb with hb | hb
  ·have hb' : (if b = it then h1 b else none) = some o := hb
   split at hb'
   ·exact union_left hb'
   cases hb'
  have hb' : (if b = it then none else union h1 h2 b) = some o := hb
  split at hb'
  ·cases hb'
  exact hb'
 ·by_cases e : b = it
  ·exact .inl (by simp [e])
  rcases hd b with h | h
  ·exact .inl (by simp [h])
  exact .inr h
 have hit : h2 it = none := (hd it).resolve_left (by simp [hi])
 by_cases e : b = it
 ·subst e; rcases union_cases hb with hb | hb
  ·simp at hb
  rw [hit] at hb; cases hb
 simp only [if_neg e]
 rcases union_cases hb with hb | hb
 ·simp [e] at hb; exact union_left hb
 exact union_right hd hb
theorem iter_shut {it : Nat} {vis : List Int} {es : Array MapEntry} {ck : Nat} {sq : Array Nat} {vs : List MapEntry} (hf : Fits es.toList ck kv) (h3 : ∀ e ∈ vs, e ∈ es.toList) (h4 : (vs.map fun (e : MapEntry) => e.born) = sq.toList.reverse) (h5 : (vs.map fun (e : MapEntry) => e.key) = vis.map (Value.int .i64 ·))
  (hw : Sat G (pt it (.mapIter (some m) ck sq ck) :: pt m (.map es ck) :: R) w) : Sat G (iter it m kv vis :: R) w := by
 have hne := hw.ne
 have h : Sat G (both [pt it (.mapIter (some m) ck sq ck), pt m (.map es ck)] :: R) w := Sat.both_in (M := [_, _]) hw
 refine h.cons_mono fun h ⟨h1, h2, hd, hu, hi, h6, h7, hd', hu', hm, _⟩ => ⟨es, ck, sq, vs, hu m _ (union_right hd (hu' m _ (union_left hm))), hu it _ (union_left hi), fun e => hne e.symm, hf, h3, h4, h5⟩
theorem x_rng (ho : ops[i]? = some ⟨some d, .range s x, t, p, af, g⟩) (hd : Nat.blt d n = true) (hg : Gd ops e g) (hs : P.underlying s = some (.map kt et)) (hx : ev e x = some (.map (some m))) (hw : Sat G L w) (hp : Pick (mapI m kv) L R) (hpd : pend P ops dr done i = [])
  (h : ∀ w' it, Sat G (iter it m kv [] :: R) w' → XL P n ops dr (i :: done) r K ((d, .pointer (some ⟨it, 0, none⟩)) :: e) w') : XL P n ops dr done (i :: r) K e w := by
 obtain ⟨es, ck, hf, hw'⟩ := mapI_open (hw.pick hp)
 have h1 := run_getObj (P := P) hw'.pt_head (by simp)
 refine xl_eff ho (by simpa [dstOk] using hd) hg (ρ := rh e) (by intro z hZ; simp [Op.operands] at hZ; exact oh1 hx hZ) rfl (v := .pointer (some ⟨w.heap.size, 0, none⟩)) (w' := { w with heap := w.heap.push (.mapIter (some m) ck #[] ck) }) ?_ (noPend hpd)
  (h _ _ (iter_shut (vs := []) hf (by simp) (by simp) (by simp) (hw'.push _)))
 simp [execOp, rh_of hx, Instr.range, run_underlying hs, h1, newObj, Sem.run]
theorem born_inj {es : List MapEntry} (h : (es.map (·.born)).Nodup) {a b : MapEntry} (ha : a ∈ es) (hb : b ∈ es) (e : a.born = b.born) : a = b := by
 induction es with
 | nil => cases ha
 | cons x es ih =>
  simp only [List.map_cons, List.nodup_cons] at h
  rcases List.mem_cons.1 ha with ha1 | ha1 <;> rcases List.mem_cons.1 hb with hb1 | hb1
  ·rw [ha1, hb1]
  ·exact absurd (List.mem_map.2 ⟨b, hb1, by rw [← e, ha1]⟩) h.1
  ·exact absurd (List.mem_map.2 ⟨a, ha1, by rw [e, hb1]⟩) h.1
  exact ih h.2 ha1 hb1
theorem Fits.entry {es : List MapEntry} {ck : Nat} (hf : Fits es ck kv) {x : MapEntry} (hx : x ∈ es) : ∃ k, x.key = .int .i64 k ∧ klook kv k = some x.val := by
 have : (x.key, x.val) ∈ kv.map fun p => (Value.int .i64 p.1, p.2) := by rw [← hf.pairs]; exact List.mem_map.2 ⟨x, hx, rfl⟩
 obtain ⟨p, hp, he⟩ := List.mem_map.1 this
 simp only [Prod.mk.injEq] at he
 exact ⟨p.1, he.1.symm, by rw [← he.2]; exact mem_klook hf.keys hp⟩
theorem Fits.key_inj {es : List MapEntry} {ck : Nat} (hf : Fits es ck kv) {a b : MapEntry} (ha : a ∈ es) (hb : b ∈ es) (e : a.key = b.key) : a = b := by
 have hn : (es.map (·.key)).Nodup := by
  have : es.map (·.key) = (kv.map (·.1)).map (Value.int .i64 ·) := by
   have := congrArg (List.map (·.1)) hf.pairs; simpa [List.map_map, Function.comp_def] using this
  rw [this]
  exact List.Pairwise.map _ (fun a b hab h => hab (by simpa using h)) hf.keys
 clear hf
 induction es with
 | nil => cases ha
 | cons x es ih =>
  simp only [List.map_cons, List.nodup_cons] at hn
  rcases List.mem_cons.1 ha with ha1 | ha1 <;> rcases List.mem_cons.1 hb with hb1 | hb1
  ·rw [ha1, hb1]
  ·exact absurd (List.mem_map.2 ⟨b, hb1, by rw [← e, ha1]⟩) hn.1
  ·exact absurd (List.mem_map.2 ⟨a, ha1, by rw [e, hb1]⟩) hn.1
  exact ih ha1 hb1 hn.2
theorem Fits.of_key {es : List MapEntry} {ck : Nat} (hf : Fits es ck kv) {k : Int} {v : Value} (h : klook kv k = some v) : ∃ x ∈ es, x.key = .int .i64 k ∧ x.val = v := by
 have : (Value.int .i64 k, v) ∈ es.map fun e => (e.key, e.val) := by rw [hf.pairs]; exact List.mem_map.2 ⟨(k, v), klook_mem h, rfl⟩
 obtain ⟨x, hx, he⟩ := List.mem_map.1 this
 simp only [Prod.mk.injEq] at he
 exact ⟨x, hx, he.1, he.2⟩
theorem x_nx {it : Nat} {vis : List Int} (ho : ops[i]? = some ⟨some d, .next x false, t, p, af, g⟩) (hd : Nat.blt d n = true) (hg : Gd ops e g) (hx : ev e x = some (.pointer (some ⟨it, 0, none⟩))) (hw : Sat G L w) (hp : Pick (iter it m kv vis) L R) (hpd : pend P ops dr done i = [])
  (hover : ∀ w', (∀ k v, klook kv k = some v → k ∈ vis) → Sat G (iter it m kv vis :: R) w' → XL P n ops dr (i :: done) r K ((d, .tuple #[.bool false]) :: e) w')
  (hnext : ∀ w' k v, klook kv k = some v → k ∉ vis → Sat G (iter it m kv (k :: vis) :: R) w' → XL P n ops dr (i :: done) r K ((d, .tuple #[.bool true, .int .i64 k, v]) :: e) w') : XL P n ops dr done (i :: r) K e w := by
 obtain ⟨es, ck, sq, vs, hf, h3, h4, h5, hw'⟩ := iter_open (hw.pick hp)
 have h1 := run_getObj (P := P) hw'.pt_head (by simp)
 have h2 := run_getObj (P := P) (hw'.pt (.there .here)) (by simp)
 have hso := fun o' => run_setObj (P := P) o' hw'.pt_head (by simp)
 have hsq : ∀ b, b ∈ sq ↔ ∃ x ∈ vs, MapEntry.born x = b := fun b => by
  have : b ∈ sq.toList.reverse ↔ b ∈ vs.map fun (e : MapEntry) => e.born := by rw [h4]
  simpa using this
 have hvis : ∀ k, k ∈ vis ↔ ∃ x ∈ vs, x.key = .int .i64 k := fun k => by
  have : (Value.int .i64 k) ∈ vis.map (Value.int .i64 ·) ↔ (Value.int .i64 k) ∈ vs.map fun (e : MapEntry) => e.key := by rw [h5]
  simpa using this
 have hyoung : (!sq.isEmpty && !es.isEmpty && es.all (·.born ≥ ck)) = false := by
  cases he : es.isEmpty with
  | true => simp
  | false =>
   have hne : es.toList ≠ [] := by intro h; simp at he; exact he (by simpa using h)
   obtain ⟨x, r', hxr⟩ := List.exists_cons_of_ne_nil hne
   have hx0 : x ∈ es.toList := by rw [hxr]; simp
   have := hf.old x hx0
   have : es.all (·.born ≥ ck) = false := by
    cases hb : es.all (·.born ≥ ck) with
    | false => rfl
    | true => have := Array.all_eq_true_iff_forall_mem.1 hb x (by simpa using hx0); simp at this; omega
   simp [this]
 let left := es.filter fun e => !sq.contains e.born
 have hold : left.filter (·.born < ck) = left := by
  apply Array.filter_eq_self.2
  intro x hx; have := hf.old x (by have := (Array.mem_filter.1 hx).1; simpa using this); simpa using this
 have hnew : left.filter (·.born ≥ ck) = #[] := by
  apply Array.filter_eq_empty_iff.2
  intro x hx; have := hf.old x (by have := (Array.mem_filter.1 hx).1; simpa using this); simpa using this
 have hexec : ∀ r', (Instr.next (.pointer (some ⟨it, 0, none⟩)) false t).run P w = r' → (execOp (rh e) ⟨some d, .next x false, t, p, af, g⟩).run P w = r'.andThen fun v w' => .ok (.value v) w' := fun r' hr => by
  simp only [execOp, rh_of hx, Sem.run_bind, hr]; rfl
 by_cases hl : left = #[]
 ·refine xl_eff ho (by simpa [dstOk] using hd) hg (ρ := rh e) (by intro z hZ; simp [Op.operands] at hZ; exact oh1 hx hZ) rfl (v := .tuple #[.bool false]) (w' := w) ?_ (noPend hpd) (hover _ (fun k v hk => ?_) (hw.pick hp))
  ·refine (hexec (.ok (.tuple #[.bool false]) w) ?_).trans rfl
   simp only [Instr.next, Sem.run_bind, h1, h2, Result.andThen_ok, hyoung]
   have e1 : (es.filter fun e => !sq.contains e.born) = left := rfl
   simp only [e1, hl]
   simp [choose, Sem.run, Question.forced]
  obtain ⟨x, hx, hxk, _⟩ := hf.of_key hk
  have : ¬ x ∈ left := by rw [hl]; simp
  have hb : x.born ∈ sq := by
   cases hc : sq.contains x.born with
   | true => simpa using hc
   | false => exact absurd (Array.mem_filter.2 ⟨by simpa using hx, by rw [hc]; rfl⟩) this
  obtain ⟨y, hy, hyb⟩ := (hsq _).1 hb
  have : y = x := born_inj hf.borns (h3 y hy) hx hyb
  subst this
  exact (hvis k).2 ⟨y, hy, hxk⟩
 have hls : 0 < left.size := Nat.pos_of_ne_zero fun h => hl (Array.eq_empty_of_size_eq_zero h)
 have hemp : left.isEmpty = false := by simp [Array.isEmpty]; omega
 have key : ∃ (x : MapEntry) (w0 : World), x ∈ left ∧ (∀ G' L', Sat G' L' w → Sat G' L' w0) ∧ w0.heap = w.heap ∧
   (Instr.next (.pointer (some ⟨it, 0, none⟩)) false t).run P w = .ok (.tuple #[.bool true, x.key, x.val]) { w0 with heap := w0.heap.setIfInBounds it (.mapIter (some m) ck (sq.push x.born) ck) } := by
  let q := Question.mapNext left.size
  let j := if q.forced then 0 else q.cut (w.tape w.drawn q)
  have hj : j < left.size := by
   by_cases hqf : q.forced = true
   ·simp [j, hqf]; exact hls
   simp [j, hqf, q, Question.cut]; exact Nat.mod_lt _ hls
  have hjg : left[j]? = some left[j] := Array.getElem?_eq_getElem hj
  refine ⟨left[j], if q.forced then w else { w with drawn := w.drawn + 1 }, Array.getElem_mem hj, fun G' L' h => by split; (exact h); (exact h.drawn _), by split <;> rfl, ?_⟩
  simp only [Instr.next, Sem.run_bind, h1, h2, Result.andThen_ok, hyoung]
  have e2 : (es.filter fun e => !sq.contains e.born) = left := rfl
  simp only [e2, hold, hnew, hemp, Array.append_empty, Array.size_map, Bool.false_eq_true, if_false, Array.empty_append, Sem.run_pure, Result.andThen_ok]
  have hch : (choose (.mapNext left.size)).run P w = .ok j (if q.forced then w else { w with drawn := w.drawn + 1 }) := by
   unfold choose; simp only [Sem.run]; by_cases hqf : q.forced = true <;> simp [q, j] at hqf ⊢ <;> simp [hqf]
  rw [Sem.run_bind, hch]
  simp only [Result.andThen_ok, Array.getElem?_map, hjg, Option.map_some]
  have hso' : ∀ o', (setObj it o').run P (if q.forced then w else { w with drawn := w.drawn + 1 }) = .ok () { (if q.forced then w else { w with drawn := w.drawn + 1 }) with heap := (if q.forced then w else { w with drawn := w.drawn + 1 }).heap.setIfInBounds it o' } := fun o' =>
   run_setObj (P := P) o' (by split <;> exact hw'.pt_head) (by simp)
  rw [Sem.run_bind, hso']; rfl
 obtain ⟨x, w0, hxl, hsat, hheap, hrun⟩ := key
 have hxe : x ∈ es.toList := by have := (Array.mem_filter.1 hxl).1; simpa using this
 have hxn : ¬ x.born ∈ sq := by have := (Array.mem_filter.1 hxl).2; simpa using this
 obtain ⟨k, hk, hkv⟩ := hf.entry hxe
 have hkn : k ∉ vis := fun hc => by
  obtain ⟨y, hy, hyk⟩ := (hvis k).1 hc
  have : y = x := hf.key_inj (h3 y hy) hxe (hyk.trans hk.symm)
  subst this
  exact hxn ((hsq _).2 ⟨y, hy, rfl⟩)
 have hfin := iter_shut (m := m) (vis := k :: vis) (vs := x :: vs) (sq := sq.push x.born) hf (fun y hy => by rcases List.mem_cons.1 hy with rfl | hy; (exact hxe); (exact h3 y hy)) (by simp [h4]) (by simp [h5, hk]) ((hsat _ _ hw').set _)
 rw [hk] at hrun
 exact xl_eff ho (by simpa [dstOk] using hd) hg (ρ := rh e) (by intro z hZ; simp [Op.operands] at hZ; exact oh1 hx hZ) rfl (v := .tuple #[.bool true, .int .i64 k, x.val]) (w' := _) ((hexec _ hrun).trans rfl) (noPend hpd) (hnext _ k x.val hkv hkn hfin)
theorem x_ent {it : Nat} {vis : List Int} {k : Int} (ho : ops[i]? = some ⟨some d, .entry x, t, p, af, g⟩) (hd : Nat.blt d n = true) (hg : Gd ops e g) (hx : ev e x = some (.pointer (some ⟨it, 0, none⟩))) (hw : Sat G L w) (hp : Pick (iter it m kv (k :: vis)) L R) (hv : klook kv k = some v)
  (h : XL P n ops dr (i :: done) r K ((d, .tuple #[.int .i64 k, v]) :: e) w) : XL P n ops dr done (i :: r) K e w := by
 obtain ⟨es, ck, sq, vs, hf, h3, h4, h5, hw'⟩ := iter_open (hw.pick hp)
 have h1 := run_getObj (P := P) hw'.pt_head (by simp)
 have h2 := run_getObj (P := P) (hw'.pt (.there .here)) (by simp)
 cases vs with
 | nil => simp at h5
 | cons x0 vs =>
  simp only [List.map_cons, List.cons.injEq] at h4 h5
  have hx0 : x0 ∈ es.toList := h3 x0 (List.mem_cons_self ..)
  have hback : sq.back? = some x0.born := by
   have : sq.toList.reverse.head? = some x0.born := by rw [← h4]; rfl
   rw [Array.back?_eq_getElem?]; simpa [List.getLast?_eq_getElem?] using this
  obtain ⟨k', hk', hkv⟩ := hf.entry hx0
  have : k' = k := by have := hk'.symm.trans h5.1; simpa using this
  subst this
  have hval : x0.val = v := by rw [hv] at hkv; simpa using hkv.symm
  have hfind : es.find? (·.born == x0.born) = some x0 := by
   rw [← Array.find?_toList]
   obtain ⟨y, hy⟩ : ∃ y, es.toList.find? (·.born == x0.born) = some y := by
    cases hq : es.toList.find? (·.born == x0.born) with
    | some y => exact ⟨y, rfl⟩
    | none => have := List.find?_eq_none.1 hq x0 hx0; simp at this
   rw [hy]
   have hyb := List.find?_some hy
   simp only [beq_iff_eq] at hyb
   rw [born_inj hf.borns (List.mem_of_find?_eq_some hy) hx0 hyb]
  refine xl_read ho (by simpa [dstOk] using hd) hg (ρ := rh e) (by intro z hZ; simp [Op.operands] at hZ; exact oh1 hx hZ) rfl (v := .tuple #[.int .i64 k', v]) ?_ h
  simp [execOp, rh_of hx, Instr.entry, h1, h2, hback, hfind, hk', hval]
end
class FO (P : Program) (s f : Nat) (k : outParam Nat) : Prop where
 h : fieldOff P s f = some k
section
variable {P : Program} {n : Nat} {ops : Array Oper} {dr : Bool} {done r : List Nat} {K : Env → World → Prop} {e : Env} {w : World} {i d : Nat} {t : TypeId} {p : String} {af : Array Edge} {g : Option (Nat × Bool)} {G : Gh} {L R : List Assn} {s T : TypeId} {x y : Operand} {v : Value} {l : List Value}
theorem x_fI {f b k : Nat} [hf : FO P s f k] (ho : ops[i]? = some ⟨some d, .fieldAddr s x f, t, p, af, g⟩) (hd : Nat.blt d n = true) (hg : Gd ops e g) (hx : ev e x = some (.pointer (some ⟨b, 0, none⟩))) (h : XL P n ops dr (i :: done) r K ((d, .pointer (some ⟨b, k, none⟩)) :: e) w) : XL P n ops dr done (i :: r) K e w := x_fld ho hd hg hf.h hx h
theorem lD {b o : Nat} (h1 : oneB P s = true) (hw : Sat G L w) (h : XL P n ops dr (i :: done) r K ((d, v) :: e) w) (ho : ops[i]? = some ⟨some d, .load s x, t, p, af, g⟩ := by exact rfl) (hd : Nat.blt d n = true := by exact rfl) (hg : Gd ops e g := by first | trivial | exact ⟨_, rfl, rfl⟩) (hx : ev e x = some (.pointer (some ⟨b, o, none⟩)) := by exact rfl) (q : Pick (blk b l T) L R := by repeat (first | with_reducible exact Pick.here | apply Pick.there)) (hv : l[o]? = some v := by exact rfl) : XL P n ops dr done (i :: r) K e w := x_ld ho hd hg hx (Loads.blk1 h1 hw q hv) h
theorem lA {b z : Nat} (h1 : manyB P s z = true) (hw : Sat G L w) (h : XL P n ops dr (i :: done) r K ((d, .agg l.toArray) :: e) w) (ho : ops[i]? = some ⟨some d, .load s x, t, p, af, g⟩ := by exact rfl) (hd : Nat.blt d n = true := by exact rfl) (hg : Gd ops e g := by first | trivial | exact ⟨_, rfl, rfl⟩) (hx : ev e x = some (.pointer (some ⟨b, 0, none⟩)) := by exact rfl) (q : Pick (blk b l T) L R := by repeat (first | with_reducible exact Pick.here | apply Pick.there)) (hz : l.length = z := by exact rfl) : XL P n ops dr done (i :: r) K e w := x_ld ho hd hg hx (Loads.blkA h1 hw q hz) h
end
theorem cQ {A : Prop} {p q : Bool} (h : p = q) (ha : A := by exact rfl) : A ∧ some (Value.bool p) = some (Value.bool q) := ⟨ha, congrArg some (congrArg Value.bool h)⟩
theorem cK {P : Program} {f : FuncId} {fn : Func} (h : P.funcs[f]? = some fn) (h1 : (fn.name == "runtime.NumGoroutine") = false := by kernel_rfl) (h2 : fn.body.isNone = false := by kernel_rfl) : Callable P f := ⟨fn, h, h1, h2⟩
theorem mixed : Tryz.prog.follows .mixedOrders = true := by kernel_rfl
theorem one_func : oneB Tryz.prog 1 = true := by kernel_rfl
theorem U_int64 : Tryz.prog.underlying 2 = some (.int .i64) := by kernel_rfl
theorem U_int : Tryz.prog.underlying 3 = some (.int .i64) := by kernel_rfl
theorem sz_int : (Tryz.prog.info? 3).map (·.size) = some 1 := by kernel_rfl
theorem szs_int : ((Tryz.prog.info? 3).map (·.size)).isSome = true := by kernel_rfl
theorem by_int : (Tryz.prog.info? 3).map (·.bytes) = some 8 := by kernel_rfl
theorem one_int : oneB Tryz.prog 3 = true := by kernel_rfl
theorem zs_int : (zeroOf Tryz.prog 3).map (·.size) = some 1 := by kernel_rfl
theorem z_int : zeroOf Tryz.prog 3 = some [(.int .i64 0)].toArray := by kernel_rfl
theorem zv_int : (Tryz.prog.info? 3).bind (·.zero) = some (.int .i64 0) := by kernel_rfl
theorem U_bool : Tryz.prog.underlying 4 = some .bool := by kernel_rfl
theorem sz_bool : (Tryz.prog.info? 4).map (·.size) = some 1 := by kernel_rfl
theorem by_bool : (Tryz.prog.info? 4).map (·.bytes) = some 1 := by kernel_rfl
theorem one_bool : oneB Tryz.prog 4 = true := by kernel_rfl
theorem zs_bool : (zeroOf Tryz.prog 4).map (·.size) = some 1 := by kernel_rfl
theorem z_bool : zeroOf Tryz.prog 4 = some [(.bool false)].toArray := by kernel_rfl
theorem U_uint8 : Tryz.prog.underlying 5 = some (.int .u8) := by kernel_rfl
theorem sz_uint8 : (Tryz.prog.info? 5).map (·.size) = some 1 := by kernel_rfl
theorem szs_uint8 : ((Tryz.prog.info? 5).map (·.size)).isSome = true := by kernel_rfl
theorem by_uint8 : (Tryz.prog.info? 5).map (·.bytes) = some 1 := by kernel_rfl
theorem one_uint8 : oneB Tryz.prog 5 = true := by kernel_rfl
theorem zs_uint8 : (zeroOf Tryz.prog 5).map (·.size) = some 1 := by kernel_rfl
theorem z_uint8 : zeroOf Tryz.prog 5 = some [(.int .u8 0)].toArray := by kernel_rfl
theorem U_sl_int : Tryz.prog.underlying 22 = some (.slice 3) := by kernel_rfl
theorem one_sl_int : oneB Tryz.prog 22 = true := by kernel_rfl
theorem z_sl_int : zeroOf Tryz.prog 22 = some [(.slice none 0 0)].toArray := by kernel_rfl
theorem U_sl_api_Numbered : Tryz.prog.underlying 23 = some (.slice 77) := by kernel_rfl
theorem one_sl_api_Numbered : oneB Tryz.prog 23 = true := by kernel_rfl
theorem U_sl_api_Tree : Tryz.prog.underlying 24 = some (.slice 62) := by kernel_rfl
theorem one_sl_api_Tree : oneB Tryz.prog 24 = true := by kernel_rfl
theorem many_coppiceref14_Image : manyB Tryz.prog 26 4 = true := by kernel_rfl
theorem fo_coppiceref14_Image_0 : fieldOff Tryz.prog 26 0 = some 0 := by kernel_rfl
theorem fo_coppiceref14_Image_1 : fieldOff Tryz.prog 26 1 = some 1 := by kernel_rfl
theorem fo_coppiceref14_Image_2 : fieldOff Tryz.prog 26 2 = some 2 := by kernel_rfl
theorem fo_coppiceref14_Image_3 : fieldOff Tryz.prog 26 3 = some 3 := by kernel_rfl
theorem U_p_vault_Vault : Tryz.prog.underlying 28 = some (.pointer 38) := by kernel_rfl
theorem one_p_vault_Vault : oneB Tryz.prog 28 = true := by kernel_rfl
theorem U_sl_api_Root : Tryz.prog.underlying 31 = some (.slice 69) := by kernel_rfl
theorem one_p_pool_Pool : oneB Tryz.prog 34 = true := by kernel_rfl
theorem U_m_int_api_Page : Tryz.prog.underlying 35 = some (.map 3 75) := by kernel_rfl
theorem one_m_int_api_Page : oneB Tryz.prog 35 = true := by kernel_rfl
theorem U_sl_vault_act : Tryz.prog.underlying 36 = some (.slice 170) := by kernel_rfl
theorem one_sl_vault_act : oneB Tryz.prog 36 = true := by kernel_rfl
theorem fo_vault_Vault_0 : fieldOff Tryz.prog 38 0 = some 0 := by kernel_rfl
theorem fo_vault_Vault_1 : fieldOff Tryz.prog 38 1 = some 1 := by kernel_rfl
theorem fo_vault_Vault_2 : fieldOff Tryz.prog 38 2 = some 2 := by kernel_rfl
theorem fo_vault_Vault_3 : fieldOff Tryz.prog 38 3 = some 3 := by kernel_rfl
theorem many_api_Report : manyB Tryz.prog 40 8 = true := by kernel_rfl
theorem z_api_Report : zeroOf Tryz.prog 40 = some [(.int .i64 0), (.int .i64 0), (.int .i64 0), (.int .i64 0), (.int .i64 0), (.int .i64 0), (.int .i64 0), (.slice none 0 0)].toArray := by kernel_rfl
theorem fo_api_Report_0 : fieldOff Tryz.prog 40 0 = some 0 := by kernel_rfl
theorem fo_api_Report_1 : fieldOff Tryz.prog 40 1 = some 1 := by kernel_rfl
theorem fo_api_Report_2 : fieldOff Tryz.prog 40 2 = some 2 := by kernel_rfl
theorem fo_api_Report_3 : fieldOff Tryz.prog 40 3 = some 3 := by kernel_rfl
theorem fo_api_Report_4 : fieldOff Tryz.prog 40 4 = some 4 := by kernel_rfl
theorem fo_api_Report_5 : fieldOff Tryz.prog 40 5 = some 5 := by kernel_rfl
theorem fo_api_Report_6 : fieldOff Tryz.prog 40 6 = some 6 := by kernel_rfl
theorem fo_api_Report_7 : fieldOff Tryz.prog 40 7 = some 7 := by kernel_rfl
theorem one_api_Errno : oneB Tryz.prog 41 = true := by kernel_rfl
theorem z_api_Errno : zeroOf Tryz.prog 41 = some [(.int .i64 0)].toArray := by kernel_rfl
theorem U_p_coppiceref11_Vault : Tryz.prog.underlying 45 = some (.pointer 101) := by kernel_rfl
theorem one_p_coppiceref11_Vault : oneB Tryz.prog 45 = true := by kernel_rfl
theorem U_sl_uint8 : Tryz.prog.underlying 55 = some (.slice 5) := by kernel_rfl
theorem one_sl_uint8 : oneB Tryz.prog 55 = true := by kernel_rfl
theorem U_sl_api_Pair : Tryz.prog.underlying 58 = some (.slice 66) := by kernel_rfl
theorem one_sl_api_Pair : oneB Tryz.prog 58 = true := by kernel_rfl
theorem z_sl_api_Pair : zeroOf Tryz.prog 58 = some [(.slice none 0 0)].toArray := by kernel_rfl
theorem sz_api_Tree : (Tryz.prog.info? 62).map (·.size) = some 3 := by kernel_rfl
theorem by_api_Tree : (Tryz.prog.info? 62).map (·.bytes) = some 24 := by kernel_rfl
theorem many_api_Tree : manyB Tryz.prog 62 3 = true := by kernel_rfl
theorem zs_api_Tree : (zeroOf Tryz.prog 62).map (·.size) = some 3 := by kernel_rfl
theorem z_api_Tree : zeroOf Tryz.prog 62 = some [(.int .i64 0), (.int .i64 0), (.int .i64 0)].toArray := by kernel_rfl
theorem fo_api_Tree_0 : fieldOff Tryz.prog 62 0 = some 0 := by kernel_rfl
theorem fo_api_Tree_1 : fieldOff Tryz.prog 62 1 = some 1 := by kernel_rfl
theorem fo_api_Tree_2 : fieldOff Tryz.prog 62 2 = some 2 := by kernel_rfl
theorem many_api_Range : manyB Tryz.prog 64 3 = true := by kernel_rfl
theorem z_api_Range : zeroOf Tryz.prog 64 = some [(.slice none 0 0), (.slice none 0 0), (.bool false)].toArray := by kernel_rfl
theorem fo_api_Range_0 : fieldOff Tryz.prog 64 0 = some 0 := by kernel_rfl
theorem fo_api_Range_1 : fieldOff Tryz.prog 64 1 = some 1 := by kernel_rfl
theorem fo_api_Range_2 : fieldOff Tryz.prog 64 2 = some 2 := by kernel_rfl
theorem sz_api_Pair : (Tryz.prog.info? 66).map (·.size) = some 2 := by kernel_rfl
theorem by_api_Pair : (Tryz.prog.info? 66).map (·.bytes) = some 48 := by kernel_rfl
theorem many_api_Pair : manyB Tryz.prog 66 2 = true := by kernel_rfl
theorem zs_api_Pair : (zeroOf Tryz.prog 66).map (·.size) = some 2 := by kernel_rfl
theorem z_api_Pair : zeroOf Tryz.prog 66 = some [(.slice none 0 0), (.slice none 0 0)].toArray := by kernel_rfl
theorem fo_api_Pair_0 : fieldOff Tryz.prog 66 0 = some 0 := by kernel_rfl
theorem fo_api_Pair_1 : fieldOff Tryz.prog 66 1 = some 1 := by kernel_rfl
theorem sz_api_Root : (Tryz.prog.info? 69).map (·.size) = some 4 := by kernel_rfl
theorem by_api_Root : (Tryz.prog.info? 69).map (·.bytes) = some 32 := by kernel_rfl
theorem many_api_Root : manyB Tryz.prog 69 4 = true := by kernel_rfl
theorem zs_api_Root : (zeroOf Tryz.prog 69).map (·.size) = some 4 := by kernel_rfl
theorem z_api_Root : zeroOf Tryz.prog 69 = some [(.int .i64 0), (.int .i64 0), (.int .i64 0), (.int .i64 0)].toArray := by kernel_rfl
theorem fo_api_Root_1 : fieldOff Tryz.prog 69 1 = some 1 := by kernel_rfl
theorem U_sl_api_Item : Tryz.prog.underlying 73 = some (.slice 114) := by kernel_rfl
theorem sz_sl_api_Item : (Tryz.prog.info? 73).map (·.size) = some 1 := by kernel_rfl
theorem one_sl_api_Item : oneB Tryz.prog 73 = true := by kernel_rfl
theorem zs_sl_api_Item : (zeroOf Tryz.prog 73).map (·.size) = some 1 := by kernel_rfl
theorem z_sl_api_Item : zeroOf Tryz.prog 73 = some [(.slice none 0 0)].toArray := by kernel_rfl
theorem sz_api_Page : (Tryz.prog.info? 75).map (·.size) = some 5 := by kernel_rfl
theorem by_api_Page : (Tryz.prog.info? 75).map (·.bytes) = some 72 := by kernel_rfl
theorem many_api_Page : manyB Tryz.prog 75 5 = true := by kernel_rfl
theorem zs_api_Page : (zeroOf Tryz.prog 75).map (·.size) = some 5 := by kernel_rfl
theorem z_api_Page : zeroOf Tryz.prog 75 = some [(.int .i64 0), (.int .i64 0), (.slice none 0 0), (.slice none 0 0), (.int .i64 0)].toArray := by kernel_rfl
theorem fo_api_Page_0 : fieldOff Tryz.prog 75 0 = some 0 := by kernel_rfl
theorem fo_api_Page_1 : fieldOff Tryz.prog 75 1 = some 1 := by kernel_rfl
theorem fo_api_Page_2 : fieldOff Tryz.prog 75 2 = some 2 := by kernel_rfl
theorem fo_api_Page_3 : fieldOff Tryz.prog 75 3 = some 3 := by kernel_rfl
theorem fo_api_Page_4 : fieldOff Tryz.prog 75 4 = some 4 := by kernel_rfl
theorem sz_api_Numbered : (Tryz.prog.info? 77).map (·.size) = some 6 := by kernel_rfl
theorem by_api_Numbered : (Tryz.prog.info? 77).map (·.bytes) = some 80 := by kernel_rfl
theorem many_api_Numbered : manyB Tryz.prog 77 6 = true := by kernel_rfl
theorem zs_api_Numbered : (zeroOf Tryz.prog 77).map (·.size) = some 6 := by kernel_rfl
theorem z_api_Numbered : zeroOf Tryz.prog 77 = some [(.int .i64 0), (.int .i64 0), (.int .i64 0), (.slice none 0 0), (.slice none 0 0), (.int .i64 0)].toArray := by kernel_rfl
theorem fo_api_Numbered_0 : fieldOff Tryz.prog 77 0 = some 0 := by kernel_rfl
theorem fo_api_Numbered_1 : fieldOff Tryz.prog 77 1 = some 1 := by kernel_rfl
theorem U_sl_bool : Tryz.prog.underlying 81 = some (.slice 4) := by kernel_rfl
theorem one_sl_bool : oneB Tryz.prog 81 = true := by kernel_rfl
theorem one_p_runs_Set_int : oneB Tryz.prog 82 = true := by kernel_rfl
theorem U_a5_int : Tryz.prog.underlying 83 = some (.array 5 3) := by kernel_rfl
theorem many_a5_int : manyB Tryz.prog 83 5 = true := by kernel_rfl
theorem U_sl_pool_act : Tryz.prog.underlying 84 = some (.slice 227) := by kernel_rfl
theorem one_sl_pool_act : oneB Tryz.prog 84 = true := by kernel_rfl
theorem fo_pool_Pool_0 : fieldOff Tryz.prog 86 0 = some 0 := by kernel_rfl
theorem fo_pool_Pool_1 : fieldOff Tryz.prog 86 1 = some 1 := by kernel_rfl
theorem fo_pool_Pool_2 : fieldOff Tryz.prog 86 2 = some 2 := by kernel_rfl
theorem fo_pool_Pool_3 : fieldOff Tryz.prog 86 3 = some 3 := by kernel_rfl
theorem fo_pool_Pool_4 : fieldOff Tryz.prog 86 4 = some 4 := by kernel_rfl
theorem fo_pool_Pool_5 : fieldOff Tryz.prog 86 5 = some 9 := by kernel_rfl
theorem fo_pool_Pool_6 : fieldOff Tryz.prog 86 6 = some 10 := by kernel_rfl
theorem U_sl_api_Page : Tryz.prog.underlying 98 = some (.slice 75) := by kernel_rfl
theorem one_sl_api_Page : oneB Tryz.prog 98 = true := by kernel_rfl
theorem fo_coppiceref11_Vault_1 : fieldOff Tryz.prog 101 1 = some 1 := by kernel_rfl
theorem fo_coppiceref11_Vault_2 : fieldOff Tryz.prog 101 2 = some 2 := by kernel_rfl
theorem fo_coppiceref11_Vault_3 : fieldOff Tryz.prog 101 3 = some 3 := by kernel_rfl
theorem fo_coppiceref11_Vault_6 : fieldOff Tryz.prog 101 6 = some 6 := by kernel_rfl
theorem sz_api_Item : (Tryz.prog.info? 114).map (·.size) = some 4 := by kernel_rfl
theorem szs_api_Item : ((Tryz.prog.info? 114).map (·.size)).isSome = true := by kernel_rfl
theorem by_api_Item : (Tryz.prog.info? 114).map (·.bytes) = some 64 := by kernel_rfl
theorem many_api_Item : manyB Tryz.prog 114 4 = true := by kernel_rfl
theorem zs_api_Item : (zeroOf Tryz.prog 114).map (·.size) = some 4 := by kernel_rfl
theorem z_api_Item : zeroOf Tryz.prog 114 = some [(.slice none 0 0), (.slice none 0 0), (.int .i64 0), (.int .i64 0)].toArray := by kernel_rfl
theorem fo_api_Item_0 : fieldOff Tryz.prog 114 0 = some 0 := by kernel_rfl
theorem fo_api_Item_1 : fieldOff Tryz.prog 114 1 = some 1 := by kernel_rfl
theorem fo_api_Item_2 : fieldOff Tryz.prog 114 2 = some 2 := by kernel_rfl
theorem fo_api_Item_3 : fieldOff Tryz.prog 114 3 = some 3 := by kernel_rfl
theorem fo_put_putter_0 : fieldOff Tryz.prog 116 0 = some 0 := by kernel_rfl
theorem fo_put_putter_1 : fieldOff Tryz.prog 116 1 = some 1 := by kernel_rfl
theorem fo_put_putter_2 : fieldOff Tryz.prog 116 2 = some 4 := by kernel_rfl
theorem U_m_int_int : Tryz.prog.underlying 127 = some (.map 3 3) := by kernel_rfl
theorem one_m_int_int : oneB Tryz.prog 127 = true := by kernel_rfl
theorem fo_walk_checker_0 : fieldOff Tryz.prog 129 0 = some 0 := by kernel_rfl
theorem fo_walk_checker_1 : fieldOff Tryz.prog 129 1 = some 1 := by kernel_rfl
theorem fo_walk_checker_2 : fieldOff Tryz.prog 129 2 = some 2 := by kernel_rfl
theorem one_iter_Seq2_int_api_Pair : oneB Tryz.prog 133 = true := by kernel_rfl
theorem fo_coppiceref14_check_0 : fieldOff Tryz.prog 139 0 = some 0 := by kernel_rfl
theorem fo_coppiceref14_check_1 : fieldOff Tryz.prog 139 1 = some 1 := by kernel_rfl
theorem fo_coppiceref14_check_2 : fieldOff Tryz.prog 139 2 = some 2 := by kernel_rfl
theorem U_sl_vault_was : Tryz.prog.underlying 168 = some (.slice 212) := by kernel_rfl
theorem one_sl_vault_was : oneB Tryz.prog 168 = true := by kernel_rfl
theorem sz_vault_act : (Tryz.prog.info? 170).map (·.size) = some 2 := by kernel_rfl
theorem szs_vault_act : ((Tryz.prog.info? 170).map (·.size)).isSome = true := by kernel_rfl
theorem by_vault_act : (Tryz.prog.info? 170).map (·.bytes) = some 32 := by kernel_rfl
theorem many_vault_act : manyB Tryz.prog 170 2 = true := by kernel_rfl
theorem zs_vault_act : (zeroOf Tryz.prog 170).map (·.size) = some 2 := by kernel_rfl
theorem z_vault_act : zeroOf Tryz.prog 170 = some [(.int .i64 0), (.slice none 0 0)].toArray := by kernel_rfl
theorem fo_vault_act_0 : fieldOff Tryz.prog 170 0 = some 0 := by kernel_rfl
theorem fo_vault_act_1 : fieldOff Tryz.prog 170 1 = some 1 := by kernel_rfl
theorem one_funcsl_uint8_sl_uint8_bool : oneB Tryz.prog 185 = true := by kernel_rfl
theorem sz_vault_was : (Tryz.prog.info? 212).map (·.size) = some 7 := by kernel_rfl
theorem by_vault_was : (Tryz.prog.info? 212).map (·.bytes) = some 88 := by kernel_rfl
theorem many_vault_was : manyB Tryz.prog 212 7 = true := by kernel_rfl
theorem zs_vault_was : (zeroOf Tryz.prog 212).map (·.size) = some 7 := by kernel_rfl
theorem z_vault_was : zeroOf Tryz.prog 212 = some [(.int .i64 0), (.int .i64 0), (.int .i64 0), (.slice none 0 0), (.slice none 0 0), (.int .i64 0), (.bool false)].toArray := by kernel_rfl
theorem fo_vault_was_0 : fieldOff Tryz.prog 212 0 = some 0 := by kernel_rfl
theorem fo_vault_was_1 : fieldOff Tryz.prog 212 1 = some 1 := by kernel_rfl
theorem fo_vault_was_2 : fieldOff Tryz.prog 212 2 = some 6 := by kernel_rfl
theorem sz_pool_act : (Tryz.prog.info? 227).map (·.size) = some 1 := by kernel_rfl
theorem szs_pool_act : ((Tryz.prog.info? 227).map (·.size)).isSome = true := by kernel_rfl
theorem by_pool_act : (Tryz.prog.info? 227).map (·.bytes) = some 8 := by kernel_rfl
theorem zs_pool_act : (zeroOf Tryz.prog 227).map (·.size) = some 1 := by kernel_rfl
theorem fo_pool_act_0 : fieldOff Tryz.prog 227 0 = some 0 := by kernel_rfl
theorem U_sl_runs_Run_int : Tryz.prog.underlying 228 = some (.slice 232) := by kernel_rfl
theorem sz_sl_runs_Run_int : (Tryz.prog.info? 228).map (·.size) = some 1 := by kernel_rfl
theorem one_sl_runs_Run_int : oneB Tryz.prog 228 = true := by kernel_rfl
theorem z_sl_runs_Run_int : zeroOf Tryz.prog 228 = some [(.slice none 0 0)].toArray := by kernel_rfl
theorem fo_runs_Set_int_0 : fieldOff Tryz.prog 230 0 = some 0 := by kernel_rfl
theorem sz_runs_Run_int : (Tryz.prog.info? 232).map (·.size) = some 2 := by kernel_rfl
theorem szs_runs_Run_int : ((Tryz.prog.info? 232).map (·.size)).isSome = true := by kernel_rfl
theorem by_runs_Run_int : (Tryz.prog.info? 232).map (·.bytes) = some 16 := by kernel_rfl
theorem many_runs_Run_int : manyB Tryz.prog 232 2 = true := by kernel_rfl
theorem zs_runs_Run_int : (zeroOf Tryz.prog 232).map (·.size) = some 2 := by kernel_rfl
theorem z_runs_Run_int : zeroOf Tryz.prog 232 = some [(.int .i64 0), (.int .i64 0)].toArray := by kernel_rfl
theorem fo_runs_Run_int_0 : fieldOff Tryz.prog 232 0 = some 0 := by kernel_rfl
theorem fo_runs_Run_int_1 : fieldOff Tryz.prog 232 1 = some 1 := by kernel_rfl
theorem U_runs_many : Tryz.prog.underlying 234 = some (.int .u64) := by kernel_rfl
theorem one_runs_many : oneB Tryz.prog 234 = true := by kernel_rfl
theorem z_runs_many : zeroOf Tryz.prog 234 = some [(.int .u64 0)].toArray := by kernel_rfl
theorem U_sl_sl_api_Item : Tryz.prog.underlying 247 = some (.slice 73) := by kernel_rfl
theorem one_funcruns_Run_int_bool : oneB Tryz.prog 253 = true := by kernel_rfl
theorem U_sl_sl_runs_Run_int : Tryz.prog.underlying 254 = some (.slice 228) := by kernel_rfl
theorem cal_law22_fixed : Callable Tryz.prog 5 := cK Tryz.func5
theorem cal_law22_loaded : Callable Tryz.prog 6 := cK Tryz.func6
theorem cal_law22_roots : Callable Tryz.prog 7 := cK Tryz.func7
theorem cal_pool_Pool_Counts : Callable Tryz.prog 8 := cK Tryz.func8
theorem cal_fsck_Whole : Callable Tryz.prog 9 := cK Tryz.func9
theorem cal_ref22_Whole : Callable Tryz.prog 10 := cK Tryz.func10
theorem cal_ref14_Image_Vault : Callable Tryz.prog 11 := cK Tryz.func11
theorem cal_law22_sameReport : Callable Tryz.prog 12 := cK Tryz.func12
theorem cal_ref00_EqInts : Callable Tryz.prog 13 := cK Tryz.func13
theorem cal_ref00_EqRoots : Callable Tryz.prog 14 := cK Tryz.func14
theorem cal_vault_New : Callable Tryz.prog 15 := cK Tryz.func15
theorem cal_pool_Pool_Tally : Callable Tryz.prog 18 := cK Tryz.func18
theorem cal_put_Put : Callable Tryz.prog 19 := cK Tryz.func19
theorem cal_ref00_CopyPage : Callable Tryz.prog 20 := cK Tryz.func20
theorem cal_vault_Load : Callable Tryz.prog 21 := cK Tryz.func21
theorem cal_ref00_CopyInts : Callable Tryz.prog 22 := cK Tryz.func22
theorem cal_slices_Clone_int_int : Callable Tryz.prog 23 := cK Tryz.func23
theorem cal_walk_Check : Callable Tryz.prog 24 := cK Tryz.func24
theorem cal_walk_Scan : Callable Tryz.prog 25 := cK Tryz.func25
theorem cal_fork_Counts : Callable Tryz.prog 26 := cK Tryz.func26
theorem cal_slices_Equal_int_int : Callable Tryz.prog 27 := cK Tryz.func27
theorem cal_vault_Vault_Read : Callable Tryz.prog 28 := cK Tryz.func28
theorem cal_ref11_Vault_Len : Callable Tryz.prog 29 := cK Tryz.func29
theorem cal_ref14_Check : Callable Tryz.prog 30 := cK Tryz.func30
theorem cal_ref14_All : Callable Tryz.prog 31 := cK Tryz.func31
theorem cal_ref07_Kids : Callable Tryz.prog 32 := cK Tryz.func32
theorem cal_ref11_Load : Callable Tryz.prog 33 := cK Tryz.func33
theorem cal_ref00_EqReport : Callable Tryz.prog 34 := cK Tryz.func34
theorem cal_pool_New : Callable Tryz.prog 35 := cK Tryz.func35
theorem cal_walk_pairs : Callable Tryz.prog 40 := cK Tryz.func40
theorem cal_walk_Get : Callable Tryz.prog 41 := cK Tryz.func41
theorem cal_vault_Vault_Mark : Callable Tryz.prog 42 := cK Tryz.func42
theorem cal_put_Put_1 : Callable Tryz.prog 43 := cK Tryz.func43
theorem cal_vault_Vault_Undo : Callable Tryz.prog 44 := cK Tryz.func44
theorem cal_blob_Store : Callable Tryz.prog 45 := cK Tryz.func45
theorem cal_put_putter_add : Callable Tryz.prog 46 := cK Tryz.func46
theorem cal_put_putter_put : Callable Tryz.prog 48 := cK Tryz.func48
theorem cal_ref00_CopyItems : Callable Tryz.prog 49 := cK Tryz.func49
theorem cal_ref00_CopyBytes : Callable Tryz.prog 50 := cK Tryz.func50
theorem cal_pool_Load : Callable Tryz.prog 51 := cK Tryz.func51
theorem cal_pool_Pool_Count : Callable Tryz.prog 52 := cK Tryz.func52
theorem cal_page_Check : Callable Tryz.prog 53 := cK Tryz.func53
theorem cal_vault_copied : Callable Tryz.prog 54 := cK Tryz.func54
theorem cal_walk_checker_page : Callable Tryz.prog 55 := cK Tryz.func55
theorem cal_walk_told : Callable Tryz.prog 56 := cK Tryz.func56
theorem cal_slices_All_api_Pair_api_Pair : Callable Tryz.prog 57 := cK Tryz.func57
theorem cal_fork_led : Callable Tryz.prog 58 := cK Tryz.func58
theorem cal_pool_Pool_Len : Callable Tryz.prog 59 := cK Tryz.func59
theorem cal_ref14_check_page : Callable Tryz.prog 60 := cK Tryz.func60
theorem cal_ref11_Vault_There : Callable Tryz.prog 61 := cK Tryz.func61
theorem cal_ref13_Load : Callable Tryz.prog 62 := cK Tryz.func62
theorem cal_ref11_New : Callable Tryz.prog 63 := cK Tryz.func63
theorem cal_ref07_Check : Callable Tryz.prog 64 := cK Tryz.func64
theorem cal_pool_right : Callable Tryz.prog 65 := cK Tryz.func65
theorem cal_pool_over : Callable Tryz.prog 66 := cK Tryz.func66
theorem cal_vault_Vault_do : Callable Tryz.prog 70 := cK Tryz.func70
theorem cal_pool_Pool_Inc : Callable Tryz.prog 72 := cK Tryz.func72
theorem cal_pool_Pool_Settle : Callable Tryz.prog 76 := cK Tryz.func76
theorem cal_walk_items : Callable Tryz.prog 77 := cK Tryz.func77
theorem cal_blob_Load : Callable Tryz.prog 78 := cK Tryz.func78
theorem cal_walk_Path : Callable Tryz.prog 79 := cK Tryz.func79
theorem cal_node_Search : Callable Tryz.prog 80 := cK Tryz.func80
theorem cal_vault_Vault_back : Callable Tryz.prog 81 := cK Tryz.func81
theorem cal_bytes_Clone : Callable Tryz.prog 82 := cK Tryz.func82
theorem cal_blob_Store_1 : Callable Tryz.prog 83 := cK Tryz.func83
theorem cal_vault_Vault_Make : Callable Tryz.prog 84 := cK Tryz.func84
theorem cal_node_Insert : Callable Tryz.prog 85 := cK Tryz.func85
theorem cal_vault_Vault_Write : Callable Tryz.prog 86 := cK Tryz.func86
theorem cal_put_putter_root : Callable Tryz.prog 89 := cK Tryz.func89
theorem cal_put_putter_down : Callable Tryz.prog 90 := cK Tryz.func90
theorem cal_ref00_CopyItem : Callable Tryz.prog 91 := cK Tryz.func91
theorem cal_slices_Min_int_int : Callable Tryz.prog 92 := cK Tryz.func92
theorem cal_slices_Max_int_int : Callable Tryz.prog 93 := cK Tryz.func93
theorem cal_pool_Pool_there : Callable Tryz.prog 94 := cK Tryz.func94
theorem cal_page_Check_1 : Callable Tryz.prog 95 := cK Tryz.func95
theorem cal_page_form : Callable Tryz.prog 96 := cK Tryz.func96
theorem cal_bytes_Compare : Callable Tryz.prog 97 := cK Tryz.func97
theorem cal_page_isPage : Callable Tryz.prog 98 := cK Tryz.func98
theorem cal_slices_Clone_api_Item_api_Item : Callable Tryz.prog 99 := cK Tryz.func99
theorem cal_slices_Clone_byte_byte : Callable Tryz.prog 100 := cK Tryz.func100
theorem cal_walk_checker_enter : Callable Tryz.prog 101 := cK Tryz.func101
theorem cal_walk_checker_item : Callable Tryz.prog 102 := cK Tryz.func102
theorem cal_span_Meet : Callable Tryz.prog 103 := cK Tryz.func103
theorem cal_walk_told_1 : Callable Tryz.prog 104 := cK Tryz.func104
theorem cal_slices_All_api_Pair_api_Pair_1 : Callable Tryz.prog 105 := cK Tryz.func105
theorem cal_page_Kids : Callable Tryz.prog 106 := cK Tryz.func106
theorem cal_ref14_check_enter : Callable Tryz.prog 107 := cK Tryz.func107
theorem cal_ref14_check_item : Callable Tryz.prog 108 := cK Tryz.func108
theorem cal_ref14_Within : Callable Tryz.prog 109 := cK Tryz.func109
theorem cal_ref11_Vault_Is : Callable Tryz.prog 110 := cK Tryz.func110
theorem cal_ref11_Vault_Read : Callable Tryz.prog 111 := cK Tryz.func111
theorem cal_ref11_refsAre : Callable Tryz.prog 112 := cK Tryz.func112
theorem cal_ref07_form : Callable Tryz.prog 113 := cK Tryz.func113
theorem cal_ref07_key : Callable Tryz.prog 114 := cK Tryz.func114
theorem cal_ref00_Compare : Callable Tryz.prog 115 := cK Tryz.func115
theorem cal_ref07_value : Callable Tryz.prog 116 := cK Tryz.func116
theorem cal_ref07_child : Callable Tryz.prog 117 := cK Tryz.func117
theorem cal_ref07_IsPage : Callable Tryz.prog 118 := cK Tryz.func118
theorem cal_vault_Vault_Shadow : Callable Tryz.prog 119 := cK Tryz.func119
theorem cal_node_Route : Callable Tryz.prog 122 := cK Tryz.func122
theorem cal_pool_Pool_Mark : Callable Tryz.prog 129 := cK Tryz.func129
theorem cal_pool_Pool_act : Callable Tryz.prog 130 := cK Tryz.func130
theorem cal_pool_Pool_Dec : Callable Tryz.prog 131 := cK Tryz.func131
theorem cal_vault_Vault_free : Callable Tryz.prog 132 := cK Tryz.func132
theorem cal_pool_Pool_State : Callable Tryz.prog 133 := cK Tryz.func133
theorem cal_runs_New_int : Callable Tryz.prog 135 := cK Tryz.func135
theorem cal_runs_Set_int_Add : Callable Tryz.prog 136 := cK Tryz.func136
theorem cal_walk_items_1 : Callable Tryz.prog 137 := cK Tryz.func137
theorem cal_walk_within : Callable Tryz.prog 138 := cK Tryz.func138
theorem cal_span_Has : Callable Tryz.prog 139 := cK Tryz.func139
theorem cal_pool_Pool_Undo : Callable Tryz.prog 140 := cK Tryz.func140
theorem cal_slices_Backward_vault_was_vault_was : Callable Tryz.prog 141 := cK Tryz.func141
theorem cal_vault_Vault_Make_1 : Callable Tryz.prog 142 := cK Tryz.func142
theorem cal_pool_Pool_Alloc : Callable Tryz.prog 143 := cK Tryz.func143
theorem cal_vault_Vault_put : Callable Tryz.prog 144 := cK Tryz.func144
theorem cal_node_parts : Callable Tryz.prog 145 := cK Tryz.func145
theorem cal_node_with : Callable Tryz.prog 146 := cK Tryz.func146
theorem cal_vault_Vault_own : Callable Tryz.prog 147 := cK Tryz.func147
theorem cal_vault_Vault_Write_1 : Callable Tryz.prog 148 := cK Tryz.func148
theorem cal_put_putter_half : Callable Tryz.prog 149 := cK Tryz.func149
theorem cal_span_more : Callable Tryz.prog 151 := cK Tryz.func151
theorem cal_span_fresh : Callable Tryz.prog 152 := cK Tryz.func152
theorem cal_span_less : Callable Tryz.prog 153 := cK Tryz.func153
theorem cal_ref04_Has : Callable Tryz.prog 154 := cK Tryz.func154
theorem cal_ref04_Meet : Callable Tryz.prog 155 := cK Tryz.func155
theorem cal_vault_Vault_Shadow_1 : Callable Tryz.prog 156 := cK Tryz.func156
theorem cal_vault_Vault_leave : Callable Tryz.prog 157 := cK Tryz.func157
theorem cal_pool_Pool_turn : Callable Tryz.prog 163 := cK Tryz.func163
theorem cal_pool_Pool_act_1 : Callable Tryz.prog 164 := cK Tryz.func164
theorem cal_vault_Vault_note : Callable Tryz.prog 165 := cK Tryz.func165
theorem cal_runs_Set_int_gaps : Callable Tryz.prog 166 := cK Tryz.func166
theorem cal_runs_with_int : Callable Tryz.prog 167 := cK Tryz.func167
theorem cal_slices_Concat_runs_Run_int_runs_Run_int : Callable Tryz.prog 168 := cK Tryz.func168
theorem cal_slices_Backward_api_Item_api_Item : Callable Tryz.prog 169 := cK Tryz.func169
theorem cal_span_Empty : Callable Tryz.prog 170 := cK Tryz.func170
theorem cal_span_isKey : Callable Tryz.prog 171 := cK Tryz.func171
theorem cal_slices_Backward_vault_was_vault_was_1 : Callable Tryz.prog 172 := cK Tryz.func172
theorem cal_runs_Set_int_Lowest : Callable Tryz.prog 173 := cK Tryz.func173
theorem cal_node_fresh : Callable Tryz.prog 174 := cK Tryz.func174
theorem cal_node_Split : Callable Tryz.prog 175 := cK Tryz.func175
theorem cal_ref04_Key : Callable Tryz.prog 176 := cK Tryz.func176
theorem cal_ref04_greater : Callable Tryz.prog 177 := cK Tryz.func177
theorem cal_ref04_lesser : Callable Tryz.prog 178 := cK Tryz.func178
theorem cal_runs_Set_int_Remove : Callable Tryz.prog 184 := cK Tryz.func184
theorem cal_runs_Set_int_gaps_1 : Callable Tryz.prog 185 := cK Tryz.func185
theorem cal_runs_Set_int_within : Callable Tryz.prog 186 := cK Tryz.func186
theorem cal_slices_Grow_runs_Run_int_runs_Run_int : Callable Tryz.prog 187 := cK Tryz.func187
theorem cal_slices_Backward_api_Item_api_Item_1 : Callable Tryz.prog 188 := cK Tryz.func188
theorem cal_span_from : Callable Tryz.prog 189 := cK Tryz.func189
theorem cal_node_meant : Callable Tryz.prog 190 := cK Tryz.func190
theorem cal_node_parted : Callable Tryz.prog 191 := cK Tryz.func191
theorem cal_runs_Set_int_within_1 : Callable Tryz.prog 194 := cK Tryz.func194
theorem cal_span_Next : Callable Tryz.prog 195 := cK Tryz.func195
theorem cal_span_Between : Callable Tryz.prog 196 := cK Tryz.func196
theorem cal_span_Common : Callable Tryz.prog 198 := cK Tryz.func198
instance fI1 : FO Tryz.prog 26 0 0 := ⟨fo_coppiceref14_Image_0⟩
instance fI2 : FO Tryz.prog 26 1 1 := ⟨fo_coppiceref14_Image_1⟩
instance fI3 : FO Tryz.prog 26 2 2 := ⟨fo_coppiceref14_Image_2⟩
instance fI4 : FO Tryz.prog 26 3 3 := ⟨fo_coppiceref14_Image_3⟩
instance fI5 : FO Tryz.prog 38 0 0 := ⟨fo_vault_Vault_0⟩
instance fI6 : FO Tryz.prog 38 1 1 := ⟨fo_vault_Vault_1⟩
instance fI7 : FO Tryz.prog 38 2 2 := ⟨fo_vault_Vault_2⟩
instance fI8 : FO Tryz.prog 38 3 3 := ⟨fo_vault_Vault_3⟩
instance fI9 : FO Tryz.prog 40 0 0 := ⟨fo_api_Report_0⟩
instance fI10 : FO Tryz.prog 40 1 1 := ⟨fo_api_Report_1⟩
instance fI11 : FO Tryz.prog 40 2 2 := ⟨fo_api_Report_2⟩
instance fI12 : FO Tryz.prog 40 3 3 := ⟨fo_api_Report_3⟩
instance fI13 : FO Tryz.prog 40 4 4 := ⟨fo_api_Report_4⟩
instance fI14 : FO Tryz.prog 40 5 5 := ⟨fo_api_Report_5⟩
instance fI15 : FO Tryz.prog 40 6 6 := ⟨fo_api_Report_6⟩
instance fI16 : FO Tryz.prog 40 7 7 := ⟨fo_api_Report_7⟩
instance fI21 : FO Tryz.prog 62 0 0 := ⟨fo_api_Tree_0⟩
instance fI22 : FO Tryz.prog 62 1 1 := ⟨fo_api_Tree_1⟩
instance fI23 : FO Tryz.prog 62 2 2 := ⟨fo_api_Tree_2⟩
instance fI24 : FO Tryz.prog 64 0 0 := ⟨fo_api_Range_0⟩
instance fI25 : FO Tryz.prog 64 1 1 := ⟨fo_api_Range_1⟩
instance fI26 : FO Tryz.prog 64 2 2 := ⟨fo_api_Range_2⟩
instance fI27 : FO Tryz.prog 66 0 0 := ⟨fo_api_Pair_0⟩
instance fI28 : FO Tryz.prog 66 1 1 := ⟨fo_api_Pair_1⟩
instance fI30 : FO Tryz.prog 69 1 1 := ⟨fo_api_Root_1⟩
instance fI31 : FO Tryz.prog 75 0 0 := ⟨fo_api_Page_0⟩
instance fI32 : FO Tryz.prog 75 1 1 := ⟨fo_api_Page_1⟩
instance fI33 : FO Tryz.prog 75 2 2 := ⟨fo_api_Page_2⟩
instance fI34 : FO Tryz.prog 75 3 3 := ⟨fo_api_Page_3⟩
instance fI35 : FO Tryz.prog 75 4 4 := ⟨fo_api_Page_4⟩
instance fI36 : FO Tryz.prog 77 0 0 := ⟨fo_api_Numbered_0⟩
instance fI37 : FO Tryz.prog 77 1 1 := ⟨fo_api_Numbered_1⟩
instance fI38 : FO Tryz.prog 86 0 0 := ⟨fo_pool_Pool_0⟩
instance fI39 : FO Tryz.prog 86 1 1 := ⟨fo_pool_Pool_1⟩
instance fI40 : FO Tryz.prog 86 2 2 := ⟨fo_pool_Pool_2⟩
instance fI41 : FO Tryz.prog 86 3 3 := ⟨fo_pool_Pool_3⟩
instance fI42 : FO Tryz.prog 86 4 4 := ⟨fo_pool_Pool_4⟩
instance fI43 : FO Tryz.prog 86 5 9 := ⟨fo_pool_Pool_5⟩
instance fI44 : FO Tryz.prog 86 6 10 := ⟨fo_pool_Pool_6⟩
instance fI46 : FO Tryz.prog 101 1 1 := ⟨fo_coppiceref11_Vault_1⟩
instance fI47 : FO Tryz.prog 101 2 2 := ⟨fo_coppiceref11_Vault_2⟩
instance fI48 : FO Tryz.prog 101 3 3 := ⟨fo_coppiceref11_Vault_3⟩
instance fI51 : FO Tryz.prog 101 6 6 := ⟨fo_coppiceref11_Vault_6⟩
instance fI52 : FO Tryz.prog 114 0 0 := ⟨fo_api_Item_0⟩
instance fI53 : FO Tryz.prog 114 1 1 := ⟨fo_api_Item_1⟩
instance fI54 : FO Tryz.prog 114 2 2 := ⟨fo_api_Item_2⟩
instance fI55 : FO Tryz.prog 114 3 3 := ⟨fo_api_Item_3⟩
instance fI56 : FO Tryz.prog 116 0 0 := ⟨fo_put_putter_0⟩
instance fI57 : FO Tryz.prog 116 1 1 := ⟨fo_put_putter_1⟩
instance fI58 : FO Tryz.prog 116 2 4 := ⟨fo_put_putter_2⟩
instance fI60 : FO Tryz.prog 129 0 0 := ⟨fo_walk_checker_0⟩
instance fI61 : FO Tryz.prog 129 1 1 := ⟨fo_walk_checker_1⟩
instance fI62 : FO Tryz.prog 129 2 2 := ⟨fo_walk_checker_2⟩
instance fI63 : FO Tryz.prog 139 0 0 := ⟨fo_coppiceref14_check_0⟩
instance fI64 : FO Tryz.prog 139 1 1 := ⟨fo_coppiceref14_check_1⟩
instance fI65 : FO Tryz.prog 139 2 2 := ⟨fo_coppiceref14_check_2⟩
instance fI68 : FO Tryz.prog 170 0 0 := ⟨fo_vault_act_0⟩
instance fI69 : FO Tryz.prog 170 1 1 := ⟨fo_vault_act_1⟩
instance fI73 : FO Tryz.prog 212 0 0 := ⟨fo_vault_was_0⟩
instance fI74 : FO Tryz.prog 212 1 1 := ⟨fo_vault_was_1⟩
instance fI75 : FO Tryz.prog 212 2 6 := ⟨fo_vault_was_2⟩
instance fI77 : FO Tryz.prog 227 0 0 := ⟨fo_pool_act_0⟩
instance fI78 : FO Tryz.prog 230 0 0 := ⟨fo_runs_Set_int_0⟩
instance fI79 : FO Tryz.prog 232 0 0 := ⟨fo_runs_Run_int_0⟩
instance fI80 : FO Tryz.prog 232 1 1 := ⟨fo_runs_Run_int_1⟩
structure Wr (B : Prop) : Prop where
 h : B
theorem z1 {A B : Prop} (h : B) (f : Wr B → A := by
 intro h
 first | refine xl_nil ?_ | refine x_seq ?_ | refine x_region rfl ?_ | refine x_mv rfl rfl trivial rfl ?_ | refine x_as rfl rfl trivial rfl ?_ | refine xl_no rfl rfl rfl rfl rfl rfl ?_ | refine x_fI rfl rfl trivial rfl ?_ | refine x_pickF rfl rfl trivial rfl rfl rfl ?_ | refine x_pickT rfl rfl trivial rfl rfl rfl ?_ | refine x_ext rfl rfl trivial rfl rfl ?_ | refine x_nc rfl rfl trivial rfl ?_ | refine x_mv rfl rfl ⟨_, rfl, rfl⟩ rfl ?_ | refine x_ret ?_ | refine x_skip ?_ | refine x_block ?_ | refine x_exit rfl ?_ | refine xl_none rfl rfl rfl rfl rfl ?_ | refine x_addi rfl rfl trivial rfl rfl (by omega) ?_ | refine x_subi rfl rfl trivial rfl rfl (by omega) ?_ | refine x_eq rfl rfl trivial (by kernel_rfl) rfl rfl ?_ | refine x_eq rfl rfl ⟨_, rfl, rfl⟩ (by kernel_rfl) rfl rfl ?_ | refine x_ne rfl rfl trivial (by kernel_rfl) rfl rfl ?_ | refine x_ne rfl rfl ⟨_, rfl, rfl⟩ (by kernel_rfl) rfl rfl ?_ | refine x_lt rfl rfl trivial rfl rfl ?_ | refine x_gt rfl rfl trivial rfl rfl ?_ | refine x_le rfl rfl trivial rfl rfl ?_ | refine x_ge rfl rfl trivial rfl rfl ?_ | refine x_lt rfl rfl ⟨_, rfl, rfl⟩ rfl rfl ?_ | refine x_gt rfl rfl ⟨_, rfl, rfl⟩ rfl rfl ?_ | refine x_le rfl rfl ⟨_, rfl, rfl⟩ rfl rfl ?_ | refine x_ge rfl rfl ⟨_, rfl, rfl⟩ rfl rfl ?_ | refine x_fI rfl rfl ⟨_, rfl, rfl⟩ rfl ?_ | refine x_len rfl rfl trivial (by kernel_rfl) U_sl_uint8 rfl ?_ | refine x_len rfl rfl trivial (by kernel_rfl) U_sl_int rfl ?_ | refine x_len rfl rfl trivial (by kernel_rfl) U_sl_api_Item rfl ?_ | refine x_len rfl rfl ⟨_, rfl, rfl⟩ (by kernel_rfl) U_sl_uint8 rfl ?_
 exact h.h) : A := f ⟨h⟩
theorem z2 {A B : Prop} (h : B) (f : Wr B → A := by
 intro h
 iterate 2 refine z1 ?_
 exact h.h) : A := f ⟨h⟩
theorem z3 {A B : Prop} (h : B) (f : Wr B → A := by
 intro h
 iterate 3 refine z1 ?_
 exact h.h) : A := f ⟨h⟩
theorem z4 {A B : Prop} (h : B) (f : Wr B → A := by
 intro h
 iterate 4 refine z1 ?_
 exact h.h) : A := f ⟨h⟩
theorem z5 {A B : Prop} (h : B) (f : Wr B → A := by
 intro h
 iterate 5 refine z1 ?_
 exact h.h) : A := f ⟨h⟩
theorem z6 {A B : Prop} (h : B) (f : Wr B → A := by
 intro h
 iterate 6 refine z1 ?_
 exact h.h) : A := f ⟨h⟩
theorem z7 {A B : Prop} (h : B) (f : Wr B → A := by
 intro h
 iterate 7 refine z1 ?_
 exact h.h) : A := f ⟨h⟩
theorem z8 {A B : Prop} (h : B) (f : Wr B → A := by
 intro h
 iterate 8 refine z1 ?_
 exact h.h) : A := f ⟨h⟩
theorem z9 {A B : Prop} (h : B) (f : Wr B → A := by
 intro h
 iterate 9 refine z1 ?_
 exact h.h) : A := f ⟨h⟩
theorem z10 {A B : Prop} (h : B) (f : Wr B → A := by
 intro h
 iterate 10 refine z1 ?_
 exact h.h) : A := f ⟨h⟩
theorem z11 {A B : Prop} (h : B) (f : Wr B → A := by
 intro h
 iterate 11 refine z1 ?_
 exact h.h) : A := f ⟨h⟩
theorem z12 {A B : Prop} (h : B) (f : Wr B → A := by
 intro h
 iterate 12 refine z1 ?_
 exact h.h) : A := f ⟨h⟩
theorem z13 {A B : Prop} (h : B) (f : Wr B → A := by
 intro h
 iterate 13 refine z1 ?_
 exact h.h) : A := f ⟨h⟩
theorem z14 {A B : Prop} (h : B) (f : Wr B → A := by
 intro h
 iterate 14 refine z1 ?_
 exact h.h) : A := f ⟨h⟩
theorem z15 {A B : Prop} (h : B) (f : Wr B → A := by
 intro h
 iterate 15 refine z1 ?_
 exact h.h) : A := f ⟨h⟩
theorem z16 {A B : Prop} (h : B) (f : Wr B → A := by
 intro h
 iterate 16 refine z1 ?_
 exact h.h) : A := f ⟨h⟩
theorem z17 {A B : Prop} (h : B) (f : Wr B → A := by
 intro h
 iterate 17 refine z1 ?_
 exact h.h) : A := f ⟨h⟩
theorem z18 {A B : Prop} (h : B) (f : Wr B → A := by
 intro h
 iterate 18 refine z1 ?_
 exact h.h) : A := f ⟨h⟩
theorem z19 {A B : Prop} (h : B) (f : Wr B → A := by
 intro h
 iterate 19 refine z1 ?_
 exact h.h) : A := f ⟨h⟩
theorem z20 {A B : Prop} (h : B) (f : Wr B → A := by
 intro h
 iterate 20 refine z1 ?_
 exact h.h) : A := f ⟨h⟩
theorem z21 {A B : Prop} (h : B) (f : Wr B → A := by
 intro h
 iterate 21 refine z1 ?_
 exact h.h) : A := f ⟨h⟩
theorem z22 {A B : Prop} (h : B) (f : Wr B → A := by
 intro h
 iterate 22 refine z1 ?_
 exact h.h) : A := f ⟨h⟩
theorem z23 {A B : Prop} (h : B) (f : Wr B → A := by
 intro h
 iterate 23 refine z1 ?_
 exact h.h) : A := f ⟨h⟩
theorem z24 {A B : Prop} (h : B) (f : Wr B → A := by
 intro h
 iterate 24 refine z1 ?_
 exact h.h) : A := f ⟨h⟩
theorem dC {p : Prop} (h : p := by first | exact (decide_eq_false (by omega)).symm | exact (decide_eq_true (by omega)).symm | exact decide_eq_decide.2 (by omega)) : p := h
def bv (b : UInt8) : Value := .int .u8 b.toNat
def bys (l : List UInt8) : List Value := l.map bv
theorem bys_length (l : List UInt8) : (bys l).length = l.length := by simp [bys]
theorem bys_append (l m : List UInt8) : bys (l ++ m) = bys l ++ bys m := by simp [bys]
theorem bys_take (l : List UInt8) (k : Nat) : bys (l.take k) = (bys l).take k := by simp [bys, List.map_take]
theorem bys_drop (l : List UInt8) (k : Nat) : bys (l.drop k) = (bys l).drop k := by simp [bys, List.map_drop]
theorem bys_get {l : List UInt8} {k : Nat} (h : k < l.length) : (bys l)[k]? = some (bv (l.getD k 0)) := by simp [bys, h]
theorem ones_bys (l : List UInt8) : Ones (bys l) := fun u hu => by obtain ⟨b, _, rfl⟩ := List.mem_map.1 hu; rfl
theorem ones_bv (b : UInt8) : Ones [bv b] := ones_bys [b]
theorem take_succ_getD {α : Type} (l : List α) (k : Nat) (d : α) (h : k < l.length) : l.take (k + 1) = l.take k ++ [l.getD k d] := by
 rw [List.take_succ_eq_append_getElem h]; simp [h]
theorem drop_getD {α : Type} (l : List α) (k : Nat) (d : α) (h : k < l.length) : l.drop k = l.getD k d :: l.drop (k + 1) := by
 rw [List.drop_eq_getElem_cons h]; simp [h]
def SlB (v : Value) (l : List UInt8) (w : World) : Prop := ((∃ a, v = .slice a 0 0) ∧ l = []) ∨ ∃ b o cap, v = .slice (some ⟨b, o, none⟩) l.length cap ∧ l.length ≤ cap ∧ Rd w ⟨b, o, none⟩ (bys l)
theorem SlB.cell {w : World} {b o : Nat} {l : List UInt8} (h : Rd w ⟨b, o, none⟩ (bys l)) {i : Int} (h0 : 0 ≤ i ∧ i < l.length) : w.cell? ⟨b, o + i.toNat, none⟩ = some (bv (l.getD i.toNat 0)) := by
 have := h i.toNat _ (bys_get (by omega)); rwa [add_lit] at this
theorem Rd.blk0 {G : Gh} {L R : List Assn} {w : World} {b T : Nat} {l : List Value} (hw : Sat G L w) (p : Pick (blk b l T) L R) : Rd w ⟨b, 0, none⟩ l := by have := Rd.of_blk (o := 0) hw p; simpa using this
theorem SlB.row {T : Nat} {v : Value} {l : List UInt8} : Knows [row T 1 v l.length (bys l)] (SlB v l) := fun g w hw => by
 obtain ⟨hl, h | ⟨b, cap, cur, rfl, h1, h2, h3, h4⟩⟩ := row_open hw
 ·obtain ⟨rfl, _, h5, _⟩ := h
  refine .inl ⟨⟨none, rfl⟩, ?_⟩
  cases l with
  | nil => rfl
  | cons _ _ => simp [bys] at h5
 refine .inr ⟨b, 0, cap, rfl, h1, ?_⟩
 have := (Rd.blk0 h4 .here).take (bys l).length
 simpa using this
section
variable {G : Gh} {L : List Assn} {w : World} {v v' : Value} {l l' : List UInt8}
theorem ct_ref00_CopyBytes (hw : Sat G L w) (kl : Knows L (SlB v l)) (hl : l.length ≤ 140737488355328) :
  Calls Tryz.prog 50 #[v] w (Ret fun v' w' => Sat G (row 5 1 v' l.length (bys l) :: L) w') := by
 obtain ⟨a, cap, rfl⟩ : ∃ a cap, v = .slice a l.length cap := by
  rcases kl.at hw with ⟨⟨a, rfl⟩, rfl⟩ | ⟨b, o, cap, rfl, _⟩
  ·exact ⟨a, 0, rfl⟩
  exact ⟨_, cap, rfl⟩
 refine calls_of_x (args := [_]) Tryz.func50 rfl Tryz.ntmps50 rfl rfl ?_
 refine z8 ?_
 refine x_mks rfl rfl trivial U_sl_uint8 sz_uint8 by_uint8 z_uint8 rfl rfl ⟨by omega, by omega⟩ (by omega) (by omega) hw rfl (fun w b7 hw => ?_)
 refine z8 ?_
 refine x_loop (fun m e w => ∃ (k : Nat) (u : Value), k ≤ l.length ∧ m = l.length - k ∧ e = [(0, .slice a l.length cap), (3, u), (4, .int .i64 k)] ∧ Sat G (row 5 1 u k (bys (l.take k)) :: L) w)
  (m := l.length) (e₀ := [(0, .slice a l.length cap), (3, .slice (some ⟨b7, 0, none⟩) 0 l.length), (4, .int .i64 (0 : Nat))]) sB
  ⟨0, _, Nat.zero_le _, rfl, rfl, row_mk (xs := []) hw rfl (Nat.zero_le _) (by simp only [maxLen]; omega) (by simp)⟩ ?_
 rintro m e w ⟨k, u, hk, rfl, rfl, hw⟩
 refine z8 ?_
 refine x_if rfl (fun h1 => ?_) (fun h1 => ?_)
 ·
  obtain ⟨b, o, rfl, hR⟩ : ∃ b o, a = some ⟨b, o, none⟩ ∧ Rd w ⟨b, o, none⟩ (bys l) := by
   rcases (kl.cons _).at hw with ⟨⟨_, h⟩, rfl⟩ | ⟨b, o, cap, h, hR⟩
   ·simp at h1; omega
   cases h; exact ⟨b, o, rfl, hR.2⟩
  refine z7 ?_
  refine x_idx1 rfl rfl trivial U_sl_uint8 sz_uint8 rfl rfl ⟨by omega, by omega⟩ ?_
  refine x_ld rfl rfl trivial rfl (Loads.one one_uint8 (SlB.cell hR ⟨by omega, by omega⟩)) ?_
  refine x_bs1 rfl rfl trivial U_sl_uint8 sz_uint8 zs_uint8 (by decide) rfl rfl rfl hw rfl (fun w b19 hw => ?_)
  refine x_app (m := k) (k := 1) rfl rfl trivial U_sl_uint8 sz_uint8 by_uint8 zs_uint8 rfl rfl hw pK (Rd.blk0 hw pK) rfl (ones_bv _) (by simp only [maxLen]; omega) (by omega) rfl (fun w v20 hw => ?_)
  refine z7 ?_
  refine ⟨l.length - (k + 1), by omega, [(0, _), (3, v20), (4, .int .i64 (k + 1 : Nat))], sB, k + 1, v20, by omega, rfl, rfl, ?_⟩
  rw [take_succ_getD l k 0 (by omega), bys_append]
  exact hw.drop (.there .here)
 have hkl : k = l.length := by omega
 subst hkl
 refine z7 ?_
 exact end1 rfl rfl rfl (by rw [List.take_length] at hw; exact hw)
theorem SlB.at {b o n cap : Nat} {w : World} (h : SlB (.slice (some ⟨b, o, none⟩) n cap) l w) {i : Int} (h0 : 0 ≤ i ∧ i < l.length) : w.cell? ⟨b, o + i.toNat, none⟩ = some (bv (l.getD i.toNat 0)) := by
 rcases h with ⟨_, rfl⟩ | ⟨b', o', cap', h, hR⟩
 ·simp at h0; omega
 cases h; exact SlB.cell hR.2 h0
theorem SlB.form {w : World} (h : SlB v l w) : ∃ a cap, v = .slice a l.length cap := by
 rcases h with ⟨⟨a, rfl⟩, rfl⟩ | ⟨b, o, cap, rfl, _⟩
 ·exact ⟨a, 0, rfl⟩
 exact ⟨_, cap, rfl⟩
theorem SlB.nn {a : Option Addr} {n cap : Nat} {w : World} (h : SlB (.slice a n cap) l w) (hn : 0 < l.length) : ∃ b o, a = some ⟨b, o, none⟩ := by
 rcases h with ⟨h, rfl⟩ | ⟨b, o, cap', h, _⟩
 ·simp at hn
 cases h; exact ⟨b, o, rfl⟩
def cmpB : List UInt8 → List UInt8 → Int
 | [], [] => 0
 | [], _ :: _ => -1
 | _ :: _, [] => 1
 | a :: x, b :: y => if a.toNat < b.toNat then -1 else if b.toNat < a.toNat then 1 else cmpB x y
theorem cmpB_eq : ∀ {l l' : List UInt8}, cmpB l l' = 0 ↔ l = l'
 | [], [] => by simp [cmpB]
 | [], _ :: _ => by simp [cmpB]
 | _ :: _, [] => by simp [cmpB]
 | a :: x, b :: y => by
  simp only [cmpB, List.cons.injEq]
  by_cases h : a.toNat < b.toNat
  ·have : a ≠ b := fun e => by subst e; omega
   simp [h, this]
  by_cases h2 : b.toNat < a.toNat
  ·have : a ≠ b := fun e => by subst e; omega
   simp [h, h2, this]
  have : a = b := UInt8.toNat_inj.1 (by omega)
  simp [h, h2, this, cmpB_eq]
theorem cmpB_drop : ∀ (k : Nat) {l l' : List UInt8}, l.take k = l'.take k → k ≤ l.length → k ≤ l'.length → cmpB l l' = cmpB (l.drop k) (l'.drop k)
 | 0, _, _, _, _, _ => rfl
 | k + 1, [], _, _, h, _ => by simp at h
 | k + 1, _ :: _, [], _, _, h => by simp at h
 | k + 1, a :: l, b :: l', h, h1, h2 => by
  simp only [List.take_succ_cons, List.cons.injEq] at h
  obtain ⟨rfl, h⟩ := h
  simp only [cmpB, Nat.lt_irrefl, if_false, List.drop_succ_cons]
  exact cmpB_drop k h (by simpa using h1) (by simpa using h2)
theorem ct_ref00_Compare (hw : Sat G L w) (ka : Knows L (SlB v l)) (kb : Knows L (SlB v' l')) (hl : l.length ≤ 140737488355328) (hl' : l'.length ≤ 140737488355328) :
  Calls Tryz.prog 115 #[v, v'] w (Ret fun r w' => r = .int .i64 (cmpB l l') ∧ Sat G L w') := by
 obtain ⟨a, cap, rfl⟩ := (ka.at hw).form
 obtain ⟨a', cap', rfl⟩ := (kb.at hw).form
 refine calls_of_x (args := [_, _]) Tryz.func115 rfl Tryz.ntmps115 rfl rfl ?_
 refine z10 ?_
 refine x_loop (fun m e w => ∃ k : Nat, k ≤ l.length ∧ k ≤ l'.length ∧ l.take k = l'.take k ∧ m = l.length - k ∧ e = [(0, .slice a l.length cap), (1, .slice a' l'.length cap'), (5, .int .i64 k)] ∧ Sat G L w)
  (m := l.length) (e₀ := [(0, .slice a l.length cap), (1, .slice a' l'.length cap'), (5, .int .i64 (0 : Nat))]) sB
  ⟨0, Nat.zero_le _, Nat.zero_le _, rfl, rfl, rfl, hw⟩ ?_
 rintro m e w ⟨k, hk, hk', he, rfl, rfl, hw⟩
 have hcd := cmpB_drop k he hk hk'
 refine z8 ?_
 refine xl_split (d := 10) rfl (fun h1 => ?_) (fun h1 => ?_)
 ·
  refine z6 ?_
  refine x_if rfl (fun h2 => ?_) (fun h2 => ?_)
  ·
   obtain ⟨b, o, rfl⟩ := (ka.at hw).nn (by omega)
   obtain ⟨b', o', rfl⟩ := (kb.at hw).nn (by omega)
   rw [drop_getD l k 0 (by omega), drop_getD l' k 0 (by omega)] at hcd
   refine z5 ?_
   refine x_draw [0, 1, 2, 3, 4, 5, 6, 7, 8] mixed (by kernel_rfl) ?_
   replace hw := hw.drawn (w.drawn + 1)
   refine z2 ?_
   refine x_idx1 rfl rfl trivial U_sl_uint8 sz_uint8 rfl rfl ⟨by omega, by omega⟩ ?_
   refine x_ld rfl rfl trivial rfl (Loads.one one_uint8 ((ka.at hw).at ⟨by omega, by omega⟩)) ?_
   refine z2 ?_
   refine x_idx1 rfl rfl trivial U_sl_uint8 sz_uint8 rfl rfl ⟨by omega, by omega⟩ ?_
   refine x_ld rfl rfl trivial rfl (Loads.one one_uint8 ((kb.at hw).at ⟨by omega, by omega⟩)) ?_
   refine z2 ?_
   refine x_if rfl (fun h3 => ?_) (fun h3 => ?_)
   ·
    simp only [Int.toNat_natCast] at h3
    refine z5 ?_
    exact end1 rfl rfl rfl ⟨by rw [hcd, cmpB, if_pos (by omega)], hw⟩
   refine z2 ?_
   refine x_draw [0, 1, 2, 3, 4, 5, 6, 7, 8] mixed (by kernel_rfl) ?_
   replace hw := hw.drawn (w.drawn + 1)
   refine z2 ?_
   refine x_idx1 rfl rfl trivial U_sl_uint8 sz_uint8 rfl rfl ⟨by omega, by omega⟩ ?_
   refine x_ld rfl rfl trivial rfl (Loads.one one_uint8 ((ka.at hw).at ⟨by omega, by omega⟩)) ?_
   refine z2 ?_
   refine x_idx1 rfl rfl trivial U_sl_uint8 sz_uint8 rfl rfl ⟨by omega, by omega⟩ ?_
   refine x_ld rfl rfl trivial rfl (Loads.one one_uint8 ((kb.at hw).at ⟨by omega, by omega⟩)) ?_
   refine z2 ?_
   refine x_if rfl (fun h4 => ?_) (fun h4 => ?_)
   ·
    simp only [Int.toNat_natCast] at h3 h4
    refine z5 ?_
    exact end1 rfl rfl rfl ⟨by rw [hcd, cmpB, if_neg (by omega), if_pos (by omega)], hw⟩
   simp only [Int.toNat_natCast] at h3 h4
   refine z6 ?_
   refine ⟨l.length - (k + 1), by omega, [(0, _), (1, _), (5, .int .i64 (k + 1 : Nat))], sB, k + 1, by omega, by omega, ?_, rfl, rfl, hw⟩
   rw [take_succ_getD l k 0 (by omega), take_succ_getD l' k 0 (by omega), he, UInt8.toNat_inj.1 (show (l.getD k 0).toNat = (l'.getD k 0).toNat by omega)]
  have e2 : l'.drop k = [] := List.drop_eq_nil_of_le (by omega)
  rw [e2, drop_getD l k 0 (by omega)] at hcd
  refine z10 ?_
  refine x_if rfl (fun h5 => ?_) (fun h5 => ?_)
  ·
   exact absurd h5 (by omega)
  refine z10 ?_
  refine x_if rfl (fun h6 => ?_) (fun h6 => ?_)
  ·
   refine z5 ?_
   exact end1 rfl rfl rfl ⟨by rw [hcd]; rfl, hw⟩
  exact absurd h6 (by omega)
 have e2 : l.drop k = [] := List.drop_eq_nil_of_le (by omega)
 rw [e2] at hcd
 refine z6 ?_
 refine x_cond_false rfl ?_
 refine z10 ?_
 refine x_if rfl (fun h7 => ?_) (fun h7 => ?_)
 ·
  refine z5 ?_
  exact end1 rfl rfl rfl ⟨by rw [hcd, drop_getD l' k 0 (by omega)]; rfl, hw⟩
 refine z10 ?_
 refine x_if rfl (fun h8 => ?_) (fun h8 => ?_)
 ·
  exact absurd h8 (by omega)
 refine z6 ?_
 exact end1 rfl rfl rfl ⟨by rw [hcd, List.drop_eq_nil_of_le (by omega)]; rfl, hw⟩
theorem SlB.rd {b o n cap : Nat} {w : World} (h : SlB (.slice (some ⟨b, o, none⟩) n cap) l w) : Rd w ⟨b, o, none⟩ (bys l) := by
 rcases h with ⟨_, rfl⟩ | ⟨b', o', cap', h, hR⟩
 ·exact Rd.nil
 cases h; exact hR.2
theorem SlB.cap {b o n cap : Nat} {w : World} (h : SlB (.slice (some ⟨b, o, none⟩) n cap) l w) : l.length ≤ cap := by
 rcases h with ⟨_, rfl⟩ | ⟨b', o', cap', h, hR⟩
 ·simp
 cases h; exact hR.1
def SlV (v : Value) (cs : List Value) (w : World) : Prop := ((∃ a, v = .slice a 0 0) ∧ cs = []) ∨ ∃ b o cap, v = .slice (some ⟨b, o, none⟩) cs.length cap ∧ cs.length ≤ cap ∧ Rd w ⟨b, o, none⟩ cs
theorem SlV.form {cs : List Value} {w : World} (h : SlV v cs w) : ∃ a cap, v = .slice a cs.length cap := by
 rcases h with ⟨⟨a, rfl⟩, rfl⟩ | ⟨b, o, cap, rfl, _⟩
 ·exact ⟨a, 0, rfl⟩
 exact ⟨_, cap, rfl⟩
theorem SlV.nn {cs : List Value} {a : Option Addr} {n cap : Nat} {w : World} (h : SlV (.slice a n cap) cs w) (hn : 0 < cs.length) : ∃ b o, a = some ⟨b, o, none⟩ := by
 rcases h with ⟨h, rfl⟩ | ⟨b, o, cap', h, _⟩
 ·simp at hn
 cases h; exact ⟨b, o, rfl⟩
theorem SlV.at {cs : List Value} {b o n cap : Nat} {w : World} (h : SlV (.slice (some ⟨b, o, none⟩) n cap) cs w) {i : Int} {u : Value} (hu : cs[i.toNat]? = some u) : w.cell? ⟨b, o + i.toNat, none⟩ = some u := by
 rcases h with ⟨_, rfl⟩ | ⟨b', o', cap', h, _, hR⟩
 ·simp at hu
 cases h; have := hR i.toNat u hu; rwa [add_lit] at this
theorem SlV.row {T : Nat} {v : Value} {cs : List Value} : Knows [row T 1 v cs.length cs] (SlV v cs) := fun g w hw => by
 obtain ⟨hl, h | ⟨b, cap, cur, rfl, h1, h2, h3, h4⟩⟩ := row_open hw
 ·obtain ⟨rfl, _, h5, _⟩ := h; exact .inl ⟨⟨none, rfl⟩, h5⟩
 refine .inr ⟨b, 0, cap, rfl, h1, ?_⟩
 have := (Rd.blk0 h4 .here).take cs.length
 simpa using this
theorem Pick.app {A : Assn} {L R : List Assn} (p : Pick A L R) : ∀ M : List Assn, Pick A (M ++ L) (M ++ R)
 | [] => p
 | _ :: M => .there (p.app M)
theorem Knows.app {L : List Assn} {q : World → Prop} (k : Knows L q) : ∀ M : List Assn, Knows (M ++ L) q
 | [] => k
 | A :: M => (k.app M).cons A
end
abbrev Bys := List UInt8
theorem rowB {L R : List Assn} {T n : Nat} {v : Value} {l : Bys} (hn : l.length = n) (q : Pick (row T 1 v n (bys l)) L R) : Knows L (SlB v l) := by
 subst hn; exact (SlB.row.head _).pick q
theorem slv_row {T n : Nat} {v : Value} {cs : List Value} (h : cs.length = n) : Knows [row T 1 v n cs] (SlV v cs) := by subst h; exact SlV.row
theorem rowVs {L R : List Assn} {T n : Nat} {v : Value} {cs : List Value} (hn : cs.length = n) (q : Pick (row T 1 v n cs) L R) : Knows L (SlV v cs) := ((slv_row hn).head _).pick q
theorem row_some {G : Gh} {L : List Assn} {w : World} {T : TypeId} {z m c : Nat} {A : Option Addr} {xs : List Value} (hw : Sat G (row T z (.slice A m c) m xs :: L) w) (hm : 0 < m) : xs.length = m * z ∧
  ∃ b cur, A = some ⟨b, 0, none⟩ ∧ m ≤ c ∧ c ≤ maxLen ∧ (xs ++ cur).length = c * z ∧ Sat G (blk b (xs ++ cur) T :: L) w := by
 obtain ⟨h, hro⟩ := row_open hw
 refine ⟨h, ?_⟩
 rcases hro with ⟨_, h, _⟩ | ⟨b, cap', cur, h, h1, h2, h3, h4⟩
 ·omega
 cases h; exact ⟨b, cur, rfl, h1, h2, h3, h4⟩
theorem both_knows {M : List Assn} {p : World → Prop} (k : Knows M p) : Knows [both M] p := fun g w h => k g w (by have := h.both_out; rwa [List.append_nil] at this)
theorem Sat.both_uncons {G : Gh} {R M : List Assn} {A : Assn} {w : World} (h : Sat G (both (A :: M) :: R) w) : Sat G (A :: both M :: R) w :=
 (Sat.both_out h).mono (L := A :: (M ++ R)) fun h ha => all_cons_mono (fun x hx => (all_append M R x).2 hx) ha
theorem Sat.both_snoc {G : Gh} {R M : List Assn} {A : Assn} {w : World} (h : Sat G (both M :: A :: R) w) : Sat G (both (M ++ [A]) :: R) w := Sat.both_in (by rw [List.append_assoc]; exact h.both_out)
theorem Sat.both_app {G : Gh} {R M N : List Assn} {w : World} (h : Sat G (both M :: both N :: R) w) : Sat G (both (M ++ N) :: R) w := by
 refine Sat.both_in ?_
 rw [List.append_assoc]
 have h1 := h.both_out
 exact h1.mono fun x hx => by
  have key : ∀ (M : List Assn) (x : HMap), all (M ++ both N :: R) x → all (M ++ (N ++ R)) x := fun M => by
   induction M with
   | nil => exact fun x hx => (all_append N R x).1 hx
   | cons A M ih => exact fun x hx => all_cons_mono ih hx
  exact key M x hx
def SlT (z : Nat) (v : Value) (rs : List (List Value)) (w : World) : Prop :=
 (∃ a, v = .slice a 0 0 ∧ (∀ x, a = some x → x.block = x.block) ∧ rs = []) ∨ ∃ b o cap, v = .slice (some ⟨b, o, none⟩) rs.length cap ∧ rs.length ≤ cap ∧ (∀ r ∈ rs, r.length = z) ∧ Rd w ⟨b, o, none⟩ rs.flatten
theorem SlT.form {z : Nat} {v : Value} {rs : List (List Value)} {w : World} (h : SlT z v rs w) : ∃ a cap, v = .slice a rs.length cap ∧ rs.length ≤ cap ∧ ∀ x, a = some x → x.block = x.block := by
 rcases h with ⟨a, rfl, ha, rfl⟩ | ⟨b, o, cap, rfl, h1, _⟩
 ·exact ⟨a, 0, rfl, Nat.le_refl _, ha⟩
 exact ⟨_, cap, rfl, h1, by rintro _ ⟨⟩; rfl⟩
theorem SlT.nn {z : Nat} {a : Option Addr} {m cap : Nat} {rs : List (List Value)} {w : World} (h : SlT z (.slice a m cap) rs w) (hn : 0 < rs.length) : ∃ b o, a = some ⟨b, o, none⟩ := by
 rcases h with ⟨_, _, _, rfl⟩ | ⟨b, o, cap', h, _⟩
 ·simp at hn
 cases h; exact ⟨b, o, rfl⟩
theorem SlT.rd {z b o m cap : Nat} {rs : List (List Value)} {w : World} (h : SlT z (.slice (some ⟨b, o, none⟩) m cap) rs w) : Rd w ⟨b, o, none⟩ rs.flatten := by
 rcases h with ⟨_, _, _, rfl⟩ | ⟨b', o', cap', h, _, _, hR⟩
 ·exact Rd.nil
 cases h; exact hR
theorem flatten_at {z : Nat} : ∀ {rs : List (List Value)} {k : Nat} {r : List Value}, (∀ r ∈ rs, r.length = z) → rs[k]? = some r → (rs.flatten.drop (k * z)).take z = r
 | x :: rs, 0, r, h, hx => by
  simp at hx; subst hx
  have := h x (List.mem_cons_self ..)
  simp [List.take_append, this]
 | x :: rs, k + 1, r, h, hx => by
  have h1 := h x (List.mem_cons_self ..)
  have ih := flatten_at (rs := rs) (k := k) (fun y hy => h y (List.mem_cons_of_mem _ hy)) (by simpa using hx)
  rw [List.flatten_cons, List.drop_append, h1, List.drop_eq_nil_of_le (by rw [h1, Nat.add_mul]; omega), List.nil_append, show (k + 1) * z - z = k * z by rw [Nat.add_mul]; omega]
  exact ih
 | [], k, r, _, hx => by simp at hx
theorem SlT.at {z b o m cap : Nat} {rs : List (List Value)} {w : World} (h : SlT z (.slice (some ⟨b, o, none⟩) m cap) rs w) {k : Nat} {r : List Value} (hr : rs[k]? = some r) : Rd w ⟨b, o + k * z, none⟩ r := by
 rcases h with ⟨_, _, _, rfl⟩ | ⟨b', o', cap', h, _, hl, hR⟩
 ·simp at hr
 cases h
 have h1 := (hR.drop (k * z)).take z
 rwa [flatten_at hl hr] at h1
theorem SlT.cell {z b o m cap : Nat} {rs : List (List Value)} {w : World} (h : SlT z (.slice (some ⟨b, o, none⟩) m cap) rs w) {k j : Nat} {r : List Value} {u : Value} (hr : rs[k]? = some r) (hu : r[j]? = some u) : w.cell? ⟨b, o + (k : Int).toNat * z + j, none⟩ = some u := by
 have := h.at hr j u hu
 rwa [add_lit] at this
theorem flatten_length {z : Nat} : ∀ {rs : List (List Value)}, (∀ r ∈ rs, r.length = z) → rs.flatten.length = rs.length * z
 | [], _ => by simp
 | x :: rs, h => by
  rw [List.flatten_cons, List.length_append, h x (List.mem_cons_self ..), flatten_length (fun y hy => h y (List.mem_cons_of_mem _ hy)), List.length_cons, Nat.add_mul]; omega
theorem SlT.row {T z m : Nat} {v : Value} {rs : List (List Value)} (hm : rs.length = m) (hz : ∀ r ∈ rs, r.length = z) : Knows [row T z v m rs.flatten] (SlT z v rs) := fun g w hw => by
 obtain ⟨hl, h | ⟨b, cap, cur, rfl, h1, h2, h3, h4⟩⟩ := row_open hw
 ·obtain ⟨rfl, h5, _, _⟩ := h
  exact .inl ⟨none, rfl, by simp, List.eq_nil_of_length_eq_zero (by omega)⟩
 refine .inr ⟨b, 0, cap, by rw [hm], by omega, hz, ?_⟩
 have := (Rd.blk0 h4 .here).take rs.flatten.length
 simpa using this
structure It where
 key : Bys
 value : Bys
 child : Int
 size : Int
structure ItV where
 it : It
 kv : Value
 vv : Value
def ItV.cells (x : ItV) : List Value := [x.kv, x.vv, .int .i64 x.it.child, .int .i64 x.it.size]
structure Pg where
 kind : Int
 level : Int
 items : List It
 data : Bys
 next : Int
structure PgV where
 kind : Int
 level : Int
 l : List ItV
 s : Value
 d : Value
 data : Bys
 next : Int
def PgV.cells (p : PgV) : List Value := [.int .i64 p.kind, .int .i64 p.level, p.s, p.d, .int .i64 p.next]
def PgV.pg (p : PgV) : Pg := ⟨p.kind, p.level, p.l.map ItV.it, p.data, p.next⟩
def Small (l : Bys) : Prop := l.length ≤ 140737488355328
structure ItV.Ok (L : List Assn) (x : ItV) : Prop where
 k : Knows L (SlB x.kv x.it.key)
 v : Knows L (SlB x.vv x.it.value)
 sk : Small x.it.key
 sv : Small x.it.value
structure ItsOk (L : List Assn) (s : Value) (l : List ItV) : Prop where
 sl : Knows L (SlT 4 s (l.map ItV.cells))
 it : ∀ x ∈ l, x.Ok L
 len : l.length ≤ 2199023255552
structure PgV.Ok (L : List Assn) (p : PgV) : Prop where
 its : ItsOk L p.s p.l
 data : Knows L (SlB p.d p.data)
 sd : Small p.data
theorem ItV.Ok.of {L L' : List Assn} {x : ItV} (h : x.Ok L) (s : Suf L L') : x.Ok L' := ⟨h.k.of s, h.v.of s, h.sk, h.sv⟩
theorem ItsOk.of {L L' : List Assn} {s : Value} {l : List ItV} (h : ItsOk L s l) (q : Suf L L') : ItsOk L' s l := ⟨h.sl.of q, fun x hx => (h.it x hx).of q, h.len⟩
theorem PgV.Ok.of {L L' : List Assn} {p : PgV} (h : p.Ok L) (s : Suf L L') : p.Ok L' := ⟨h.its.of s, h.data.of s, h.sd⟩
theorem ones_cells {L : List Assn} {x : ItV} {G : Gh} {w : World} (h : x.Ok L) (hw : Sat G L w) : Ones x.cells := fun u hu => by
 obtain ⟨a, c, h1⟩ := (h.k.at hw).form
 obtain ⟨a', c', h2⟩ := (h.v.at hw).form
 simp only [ItV.cells, h1, h2, List.mem_cons, List.not_mem_nil, or_false] at hu
 rcases hu with rfl | rfl | rfl | rfl <;> rfl
def itParts (x : ItV) : List Assn := [row 5 1 x.kv x.it.key.length (bys x.it.key), row 5 1 x.vv x.it.value.length (bys x.it.value)]
def pgParts (p : PgV) : List Assn := [row 114 4 p.s p.l.length (p.l.map ItV.cells).flatten, both (p.l.flatMap itParts), row 5 1 p.d p.data.length (bys p.data)]
def pgO (p : PgV) : Assn := both (pgParts p)
theorem itParts_ok {x : ItV} (h1 : Small x.it.key) (h2 : Small x.it.value) : x.Ok (itParts x) := ⟨rowB rfl .here, rowB rfl (.there .here), h1, h2⟩
theorem Knows.both_mem {A : List Assn} {M : List Assn} {p : World → Prop} (k : Knows A p) : ∀ {B C : List Assn}, M = B ++ (A ++ C) → Knows [both M] p := fun {B C} h => both_knows fun g w hw => by
 subst h
 have h1 : Sat g (A ++ C) w := by
  induction B with
  | nil => exact hw
  | cons X B ih => exact ih hw.tail
 have h3 := (Sat.both_in (M := A) h1).head.both_out
 rw [List.append_nil] at h3
 exact k g w h3
theorem itsParts_it {l : List ItV} (hs : ∀ x ∈ l, Small x.it.key ∧ Small x.it.value) {x : ItV} (hx : x ∈ l) : x.Ok [both (l.flatMap itParts)] := by
 obtain ⟨B, C, rfl⟩ := List.append_of_mem hx
 have h := itParts_ok (x := x) (hs x hx).1 (hs x hx).2
 have e : (B ++ x :: C).flatMap itParts = B.flatMap itParts ++ (itParts x ++ C.flatMap itParts) := by simp
 exact ⟨h.k.both_mem e, h.v.both_mem e, h.sk, h.sv⟩
structure PgV.Sm (p : PgV) : Prop where
 len : p.l.length ≤ 2199023255552
 it : ∀ x ∈ p.l, Small x.it.key ∧ Small x.it.value
 sd : Small p.data
theorem PgV.Ok.sm {L : List Assn} {p : PgV} (h : p.Ok L) : p.Sm := ⟨h.its.len, fun x hx => ⟨(h.its.it x hx).sk, (h.its.it x hx).sv⟩, h.sd⟩
theorem pgParts_ok {p : PgV} (h : p.Sm) {L R : List Assn} (hp : Pick (pgO p) L R) : p.Ok L := by
 have base : p.Ok [pgO p] := by
  refine ⟨⟨both_knows ((SlT.row (by simp) (fun r hr => ?_)).head _), fun x hx => ?_, h.len⟩, both_knows ((rowB rfl (.there (.there .here)))), h.sd⟩
  ·obtain ⟨x, -, rfl⟩ := List.mem_map.1 hr; rfl
  have h1 := itsParts_it h.it hx
  exact ⟨both_knows ((h1.k.head _).pick (.there .here)), both_knows ((h1.v.head _).pick (.there .here)), h1.sk, h1.sv⟩
 exact ⟨⟨(base.its.sl.head _).pick hp, fun x hx => ⟨((base.its.it x hx).k.head _).pick hp, ((base.its.it x hx).v.head _).pick hp, (base.its.it x hx).sk, (base.its.it x hx).sv⟩, h.len⟩, (base.data.head _).pick hp, h.sd⟩
section
variable {G : Gh} {L R : List Assn} {w : World}
theorem ct_slices_Clone_byte_byte {v : Value} {l : Bys} (hw : Sat G L w) (ka : Knows L (SlB v l)) (hll : Small l) :
  Calls Tryz.prog 100 #[v] w (Ret fun r w' => Sat G (row 5 1 r l.length (bys l) :: L) w') := by
 unfold Small at hll
 obtain ⟨a, cap, rfl⟩ := (ka.at hw).form
 refine calls_of_x (args := [_]) Tryz.func100 rfl Tryz.ntmps100 rfl rfl ?_
 refine z8 ?_
 refine x_eqnilS rfl rfl trivial U_sl_uint8 rfl ?_
 refine xl_nil ?_
 refine x_cond rfl (fun h1 => ?_) (fun h1 => ?_)
 ·
  refine z5 ?_
  exact end1 rfl rfl rfl (by
 rcases ka.at hw with ⟨-, rfl⟩ | ⟨b, o, cap, h, -⟩
 ·exact row_nil hw _ _
 ·cases h; cases h1)
 obtain ⟨x, rfl⟩ : ∃ x, a = some x := by cases a with | none => cases h1 | some x => exact ⟨x, rfl⟩
 have hrd : Rd w x (bys l) := by
  rcases ka.at hw with ⟨-, rfl⟩ | ⟨b, o, cap, h, -, hR⟩
  ·exact Rd.nil
  cases h; exact hR
 refine z3 ?_
 refine x_bs0 rfl rfl trivial U_sl_uint8 sz_uint8 hw rfl (fun w b5 hw => ?_)
 have hw := row_full (z := 1) (m := 0) hw rfl (by simp only [maxLen]; omega)
 have hrd : Rd w x (bys l) := by
  rcases (ka.cons (row 5 1 (.slice (some ⟨b5, 0, none⟩) 0 0) 0 [])).at hw with ⟨-, rfl⟩ | ⟨b, o, cap, h, -, hR⟩
  ·exact Rd.nil
  cases h; exact hR
 refine z1 ?_
 refine x_app (m := 0) (k := l.length) (news := bys l) rfl rfl trivial U_sl_uint8 sz_uint8 by_uint8 zs_uint8 rfl rfl hw pK hrd (by rw [bys_length]; omega) (ones_bys _) (by simp only [maxLen]; omega) (by omega) rfl (fun w v7 hw => ?_)
 refine z3 ?_
 exact end1 rfl rfl rfl (by rw [Nat.zero_add, List.nil_append] at hw; exact hw)
end
end Go.Proofs.YteifbglognfgdaaGreatDoor.X
