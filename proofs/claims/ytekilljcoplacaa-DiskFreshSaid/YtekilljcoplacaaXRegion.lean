/- Generic ground: strict runs of operations, and the theorem that in a region that draws its order the order of the text serves for all, if operations that do not wait for one another commute. -/
import Derived.Deep.Quiet
import Derived.Tactics
namespace Go.Proofs.Ytekilljcoplacaa.X
set_option linter.unusedVariables false
set_option linter.unusedSimpArgs false

/-- A call that returns. -/
def Ret (R : Value → World → Prop) : Ending → World → Prop := fun e w => ∃ v, e = .returned v ∧ R v w

/-- 0: the same value in every world; 1: it reads the world and leaves it; 2: any other. Nothing is trusted of this: each is asked to be so at its run. -/
def okind (P : Program) : Op → Nat
  | .move _ | .assign _ | .pick .. | .fieldAddr .. | .field .. | .unOp .. | .extract .. | .nilCheck _ | .slice .. | .indexAddr .. | .index ..
  | .makeInterface .. | .makeFunc .. | .build .. | .typeAssert .. => 0
  | .binOp op t x y _ =>
    if op matches .eql | .neq then
      match P.underlying t with
      | some (.pointer _) | some (.interface _) => if Region.isConst x || Region.isConst y then 0 else 1
      | _ => 0
    else 0
  | .convert s d _ => match P.underlying s, P.underlying d with | some (.int _), some (.int _) => 0 | some (.string), some (.string) => 0 | some (.slice _), some (.slice _) => 0 | _, _ => 2
  | .load .. | .lookup .. | .entry _ | .waits _ => 1
  | .call { callee := .builtin b, argTypes, .. } => match b with
    | .len | .cap => match (argTypes[0]?).bind P.underlying with | some (.map ..) | some (.chan ..) => 1 | _ => 0
    | .min | .max | .complex | .real | .imag => 0
    | _ => 2
  | _ => 2

section
variable {P : Program} {ops : Array Oper} {md : Region.Mode}

/-- What a strict run of kind 'k' asks. -/
def runS (P : Program) (s : Sem Next) (k : Nat) (w : World) (V : Value → World → Prop) : Prop :=
  match k with
  | 0 => ∃ v, (∀ w', s.run P w' = .ok (.value v) w') ∧ V v w
  | 1 => ∃ v, s.run P w = .ok (.value v) w ∧ V v w
  | _ => match s.run P w with
    | .ok (.value v) w' => V v w'
    | .ok .skip w' => V undef w'
    | .ok (.enter f args) w' => Calls P f args w' (Ret V)
    | _ => False

theorem runS_mono {s : Sem Next} {k : Nat} {w : World} {V V' : Value → World → Prop} (h : ∀ v w', V v w' → V' v w') (hh : runS P s k w V) : runS P s k w V' := by
  unfold runS at *
  match k with
  | 0 => obtain ⟨v, h1, h2⟩ := hh; exact ⟨v, h1, h _ _ h2⟩
  | 1 => obtain ⟨v, h1, h2⟩ := hh; exact ⟨v, h1, h _ _ h2⟩
  | k + 2 =>
    simp only at hh ⊢
    generalize s.run P w = r at *
    cases r with
    | ok n w' =>
      cases n <;> simp only at hh ⊢
      case value v => exact h _ _ hh
      case skip => exact h _ _ hh
      case enter f args => exact hh.mono fun e w'' ⟨v, he, hv⟩ => ⟨v, he, h _ _ hv⟩
    | halt x w' => exact hh.elim

theorem runS_ex {s : Sem Next} {k : Nat} {w : World} {V : Value → World → Prop} (hh : runS P s k w V) : ∃ v w', V v w' := by
  unfold runS at hh
  match k with
  | 0 => obtain ⟨v, _, h2⟩ := hh; exact ⟨_, _, h2⟩
  | 1 => obtain ⟨v, _, h2⟩ := hh; exact ⟨_, _, h2⟩
  | k + 2 =>
    simp only at hh
    generalize s.run P w = r at *
    cases r with
    | ok n w' =>
      cases n <;> simp only at hh
      case value v => exact ⟨_, _, hh⟩
      case skip => exact ⟨_, _, hh⟩
      case enter f args => obtain ⟨e, w'', fr, ⟨v, _, hv⟩, _⟩ := hh []; exact ⟨_, _, hv⟩
    | halt x w' => exact hh.elim

/-- One operation, at the frame. -/
def SOp (P : Program) (ops : Array Oper) (o : Oper) (K : Act → World → Prop) (a : Act) (w : World) : Prop :=
  if Region.wanted o (yielded ops a.tmps) then runS P (execOp a.eval o) (okind P o.op) w (fun v w' => K (a.put o.dst v) w') else K (a.put o.dst undef) w

theorem SOp_mono {o : Oper} {K K' : Act → World → Prop} {a : Act} {w : World} (h : ∀ v w', K (a.put o.dst v) w' → K' (a.put o.dst v) w') (hh : SOp P ops o K a w) : SOp P ops o K' a w := by
  unfold SOp at *
  split
  · rename_i hw; rw [if_pos hw] at hh; exact runS_mono (fun v w' => h v w') hh
  · rename_i hw; rw [if_neg hw] at hh; exact h _ _ hh

theorem SOp_ex {o : Oper} {K : Act → World → Prop} {a : Act} {w : World} (hh : SOp P ops o K a w) : ∃ v w', K (a.put o.dst v) w' := by
  unfold SOp at hh
  split at hh
  · exact runS_ex hh
  · exact ⟨_, _, hh⟩

theorem SOp_put {oi oj : Oper} (hap : oi.apart ops oj = true) (hsj : ∀ cs b, oj.op ≠ .select cs b) {K : Act → World → Prop} {a : Act} {w : World} {v : Value} :
    SOp P ops oj K (a.put oi.dst v) w ↔ SOp P ops oj (fun a' w' => K (a'.put oi.dst v) w') a w := by
  obtain ⟨h1, h2, h3⟩ := Oper.apart_spec hap
  unfold SOp
  rw [wanted_put oj a oi.dst v h1, execOp_put oj hsj a oi.dst v h1]
  have e : ∀ u, (a.put oi.dst v).put oj.dst u = (a.put oj.dst u).put oi.dst v := fun u => Act.put_comm a v u h2
  simp only [e]

theorem apart_symm {x y : Oper} (h : x.apart ops y = true) : y.apart ops x = true := by
  obtain ⟨h1, h2, h3⟩ := Oper.apart_spec h
  unfold Oper.apart
  cases hx : x.dst with
  | none =>
    cases hy : y.dst with
    | none => rfl
    | some d => simp; exact h3 d hy
  | some c =>
    cases hy : y.dst with
    | none => simp; exact h1 c hx
    | some d =>
      have hne : d ≠ c := fun e => h2 c hx (by rw [hy, e])
      simp [hne.symm]
      exact ⟨h3 d hy, h1 c hx⟩


/-! ### Which operations wait for which -/

/-- 'i', and all that waits for it, through others too. -/
def deps (md : Region.Mode) (ops : Array Oper) (i : Nat) : List Nat :=
  (List.range ops.size).foldl (fun s j => if s.contains j then s else match ops[j]? with
    | some o => if o.after.any (fun e => Region.binds md e && s.contains e.on) then j :: s else s
    | none => s) [i]

structure Closed (md : Region.Mode) (ops : Array Oper) (listed : Array Bool) : Prop where
  size : listed.size = ops.size
  preds : ∀ j o, ops[j]? = some o → listed.getD j false = true → ∀ e ∈ o.after, Region.binds md e = true → listed.getD e.on false = true

theorem deps_inv (i : Nat) : ∀ j ∈ deps md ops i, j = i ∨ ∃ o, ops[j]? = some o ∧ ∃ e ∈ o.after, Region.binds md e = true ∧ e.on ∈ deps md ops i ∧
    ∀ listed, Closed md ops listed → listed.getD i false = false → listed.getD e.on false = false := by
  unfold deps
  suffices h : ∀ (l : List Nat) (s : List Nat),
      (∀ j ∈ s, j = i ∨ ∃ o, ops[j]? = some o ∧ ∃ e ∈ o.after, Region.binds md e = true ∧ e.on ∈ s ∧ ∀ listed, Closed md ops listed → listed.getD i false = false → listed.getD e.on false = false) →
      (∀ j ∈ (l.foldl (fun s j => if s.contains j then s else match ops[j]? with
        | some o => if o.after.any (fun e => Region.binds md e && s.contains e.on) then j :: s else s
        | none => s) s), j = i ∨ ∃ o, ops[j]? = some o ∧ ∃ e ∈ o.after, Region.binds md e = true ∧ e.on ∈ (l.foldl (fun s j => if s.contains j then s else match ops[j]? with
        | some o => if o.after.any (fun e => Region.binds md e && s.contains e.on) then j :: s else s
        | none => s) s) ∧ ∀ listed, Closed md ops listed → listed.getD i false = false → listed.getD e.on false = false) from
    h _ [i] (by simp)
  intro l
  induction l with
  | nil => intro s hs; exact hs
  | cons k l ih =>
    intro s hs
    simp only [List.foldl_cons]
    refine ih _ ?_
    split
    · exact hs
    · split
      · rename_i o ho
        split
        · rename_i hany
          obtain ⟨e, he, hb⟩ := Array.any_eq_true'.1 hany
          simp only [Bool.and_eq_true, List.contains_iff_mem] at hb
          intro j hj
          rcases List.mem_cons.1 hj with rfl | hj
          · refine .inr ⟨o, ho, e, he, hb.1, List.mem_cons_of_mem _ hb.2, fun listed hc hi => ?_⟩
            rcases hs _ hb.2 with h1 | ⟨o', ho', e', he', hb', _, hall⟩
            · rw [h1]; exact hi
            · cases hl : listed.getD e.on false with
              | false => rfl
              | true => have := hc.preds _ _ ho' hl e' he' hb'; rw [hall listed hc hi] at this; cases this
          · rcases hs j hj with h1 | ⟨o', ho', e', he', hb', hm, hall⟩
            · exact .inl h1
            · exact .inr ⟨o', ho', e', he', hb', List.mem_cons_of_mem _ hm, hall⟩
        · exact hs
      · exact hs

theorem deps_unlisted {i j : Nat} {listed : Array Bool} (hc : Closed md ops listed) (hi : listed.getD i false = false) (hj : j ∈ deps md ops i) : listed.getD j false = false := by
  rcases deps_inv i j hj with h | ⟨o, ho, e, he, hb, _, hall⟩
  · rw [h]; exact hi
  · cases hl : listed.getD j false with
    | false => rfl
    | true => have := hc.preds _ _ ho hl e he hb; rw [hall listed hc hi] at this; cases this

theorem deps_not_ready {i j : Nat} {listed : Array Bool} (hc : Closed md ops listed) (hi : listed.getD i false = false) (hj : j ∈ deps md ops i) (hne : j ≠ i) : j ∉ Region.ready md ops listed := by
  intro hr
  obtain ⟨_, o, ho, hall⟩ := mem_ready.1 hr
  rcases deps_inv i j hj with h | ⟨o', ho', e, he, hb, _, hun⟩
  · exact hne h
  · have : o' = o := Option.some.inj (ho'.symm.trans ho)
    subst this
    have h1 := hall e he hb
    rw [hun listed hc hi] at h1; cases h1

theorem unl {listed : Array Bool} {i : Nat} (h : listed.getD i true = false) : listed.getD i false = false := by
  rcases Nat.lt_or_ge i listed.size with h' | h'
  · simp [h'] at h ⊢; exact h
  · simp [Array.getElem?_eq_none h'] at h

theorem Closed.set {listed : Array Bool} {i : Nat} (hc : Closed md ops listed) (hi : i ∈ Region.ready md ops listed) : Closed md ops (listed.setIfInBounds i true) := by
  obtain ⟨_, oi, hoi, hall⟩ := mem_ready.1 hi
  refine ⟨by simp [hc.size], fun j oj hj hl e he hb => ?_⟩
  by_cases hij : i = j
  · subst hij
    have : oj = oi := Option.some.inj (hj.symm.trans hoi)
    subst this
    exact getD_set_true (hall e he hb)
  · rw [getD_set_ne false hij] at hl
    exact getD_set_true (hc.preds j oj hj hl e he hb)

/-! ### The order of the text -/

/-- May 'j', that does not wait for 'i', come up ahead of it? -/
def comm (k1 k2 : Nat) : Bool := k1 == 0 || k2 == 0 || k1 == 1

/-- The read 'q' and 'i', that turns the world and does not wait for 'q'. -/
def pb (P : Program) (md : Region.Mode) (ops : Array Oper) (q i : Nat) : Bool :=
  match ops[q]?, ops[i]? with
  | some oq, some oi => Nat.ble 2 (okind P oi.op) && okind P oq.op == 1 && !(deps md ops q).contains i
  | _, _ => false

/-- What 'o' reads is (still) what its slot has. -/
def Chk (P : Program) (ops : Array Oper) (o : Oper) (a : Act) (w : World) : Prop :=
  Region.wanted o (yielded ops a.tmps) = true → ∃ v, (execOp a.eval o).run P w = .ok (.value v) w ∧ ∀ d, o.dst = some d → a.tmps.getD d undef = v

def Rechk (P : Program) (md : Region.Mode) (ops : Array Oper) (done : List Nat) (i : Nat) (a : Act) (w : World) : Prop :=
  ∀ q ∈ done, pb P md ops q i = true → ∀ o, ops[q]? = some o → Chk P ops o a w

def SOpR (P : Program) (md : Region.Mode) (ops : Array Oper) (done : List Nat) (i : Nat) (o : Oper) (K : Act → World → Prop) (a : Act) (w : World) : Prop :=
  if Region.wanted o (yielded ops a.tmps) then
    runS P (execOp a.eval o) (okind P o.op) w (fun v w' => Rechk P md ops done i (a.put o.dst v) w' ∧ K (a.put o.dst v) w')
  else K (a.put o.dst undef) w

theorem SOpR_SOp {done : List Nat} {i : Nat} {o : Oper} {K : Act → World → Prop} {a : Act} {w : World} (h : SOpR P md ops done i o K a w) : SOp P ops o K a w := by
  unfold SOpR at h; unfold SOp
  split
  · rename_i hw; rw [if_pos hw] at h; exact runS_mono (fun v w' h => h.2) h
  · rename_i hw; rw [if_neg hw] at h; exact h

theorem SOpR_mono {done : List Nat} {i : Nat} {o : Oper} {K K' : Act → World → Prop} {a : Act} {w : World} (h : ∀ v w', K (a.put o.dst v) w' → K' (a.put o.dst v) w') (hh : SOpR P md ops done i o K a w) :
    SOpR P md ops done i o K' a w := by
  unfold SOpR at *
  split
  · rename_i hw; rw [if_pos hw] at hh; exact runS_mono (fun v w' hk => ⟨hk.1, h v w' hk.2⟩) hh
  · rename_i hw; rw [if_neg hw] at hh; exact h _ _ hh

theorem Chk_put {oq oi : Oper} (hs : ∀ cs b, oq.op ≠ .select cs b) (hcl : ∀ d, oi.dst = some d → d ∉ oq.looksAt ops ∧ oq.dst ≠ some d) {a : Act} {w : World} {v : Value} :
    Chk P ops oq (a.put oi.dst v) w ↔ Chk P ops oq a w := by
  unfold Chk
  rw [wanted_put oq a oi.dst v fun d hd => (hcl d hd).1, execOp_put oq hs a oi.dst v fun d hd => (hcl d hd).1]
  have e : ∀ d, oq.dst = some d → (a.put oi.dst v).tmps.getD d undef = a.tmps.getD d undef := fun d hd => by
    cases hi : oi.dst with
    | none => rfl
    | some c =>
      have hne : c ≠ d := fun hcd => (hcl c hi).2 (by rw [hd, hcd])
      simp [Act.put, Array.getElem?_setIfInBounds_ne hne]
  constructor <;> intro h hw <;> obtain ⟨u, h1, h2⟩ := h hw <;> refine ⟨u, h1, fun d hd => ?_⟩
  · rw [← e d hd]; exact h2 d hd
  · rw [e d hd]; exact h2 d hd

theorem pb_spec {q i : Nat} {oq oi : Oper} (hq : ops[q]? = some oq) (hi : ops[i]? = some oi) (h : pb P md ops q i = true) : 2 ≤ okind P oi.op ∧ okind P oq.op = 1 ∧ i ∉ deps md ops q := by
  unfold pb at h; rw [hq, hi] at h
  simpa [and_assoc] using h

/-- TWO OPERATIONS CHANGE THEIR PLACES. -/
theorem SOpR_swap {done : List Nat} {i j : Nat} {oi oj : Oper} (hi : ops[i]? = some oi) (hj : ops[j]? = some oj)
    (hap : oi.apart ops oj = true) (hsel : ∀ (j : Nat) (o : Oper) cs b, ops[j]? = some o → o.op ≠ .select cs b)
    (hc : comm (okind P oi.op) (okind P oj.op) = true) (hnd : j ∉ deps md ops i) (hself : okind P oi.op = 1 → ∀ d, oi.dst = some d → d ∉ oi.looksAt ops) {n : Nat} (hdi : ∀ d, oi.dst = some d → d < n) {K : Act → World → Prop} {a : Act} {w : World} (hsz : a.tmps.size = n)
    (hci : ∀ q ∈ done, ∀ oq, ops[q]? = some oq → okind P oq.op = 1 → ∀ d, oi.dst = some d → d ∉ oq.looksAt ops ∧ oq.dst ≠ some d)
    (hcj : ∀ q ∈ done, ∀ oq, ops[q]? = some oq → okind P oq.op = 1 → ∀ d, oj.dst = some d → d ∉ oq.looksAt ops ∧ oq.dst ≠ some d)
    (h : SOpR P md ops done i oi (SOpR P md ops (i :: done) j oj K) a w) : SOpR P md ops done j oj (SOpR P md ops (j :: done) i oi K) a w := by
  have hsi : ∀ cs b, oi.op ≠ .select cs b := fun cs b => hsel i oi cs b hi
  have hsj : ∀ cs b, oj.op ≠ .select cs b := fun cs b => hsel j oj cs b hj
  obtain ⟨h1, h2, h3⟩ := Oper.apart_spec hap
  have wj : ∀ v, Region.wanted oj (yielded ops (a.put oi.dst v).tmps) = Region.wanted oj (yielded ops a.tmps) := fun v => wanted_put oj a oi.dst v h1
  have ej : ∀ v, execOp (a.put oi.dst v).eval oj = execOp a.eval oj := fun v => execOp_put oj hsj a oi.dst v h1
  have wi : ∀ u, Region.wanted oi (yielded ops (a.put oj.dst u).tmps) = Region.wanted oi (yielded ops a.tmps) := fun v => wanted_put oi a oj.dst v h3
  have ei : ∀ u, execOp (a.put oj.dst u).eval oi = execOp a.eval oi := fun v => execOp_put oi hsi a oj.dst v h3
  have pc : ∀ v u, (a.put oi.dst v).put oj.dst u = (a.put oj.dst u).put oi.dst v := fun v u => Act.put_comm a v u h2
  -- a check passes over the put of the other one
  have chI : ∀ q ∈ done, ∀ oq, ops[q]? = some oq → okind P oq.op = 1 → ∀ (b : Act) v w', Chk P ops oq (b.put oi.dst v) w' ↔ Chk P ops oq b w' := fun q hq oq hoq hk b v w' =>
    Chk_put (hsel q oq · · hoq) (hci q hq oq hoq hk)
  have chJ : ∀ q ∈ done, ∀ oq, ops[q]? = some oq → okind P oq.op = 1 → ∀ (b : Act) v w', Chk P ops oq (b.put oj.dst v) w' ↔ Chk P ops oq b w' := fun q hq oq hoq hk b v w' =>
    Chk_put (hsel q oq · · hoq) (hcj q hq oq hoq hk)
  -- the checks behind j: those of (i :: done) at ((a + i) + j) give those of done at (a + j)
  have reJ : ∀ v u w', Rechk P md ops (i :: done) j ((a.put oi.dst v).put oj.dst u) w' → Rechk P md ops done j (a.put oj.dst u) w' := fun v u w' hr q hq hp oq hoq => by
    obtain ⟨_, hk, _⟩ := pb_spec hoq hj hp
    have := hr q (List.mem_cons_of_mem _ hq) hp oq hoq
    rw [pc] at this
    exact (chI q hq oq hoq hk _ v w').1 this
  -- the checks behind i: j is none of them
  have reI : ∀ v u w', Rechk P md ops done i (a.put oi.dst v) w' → Rechk P md ops (j :: done) i ((a.put oj.dst u).put oi.dst v) w' := fun v u w' hr q hq hp oq hoq => by
    obtain ⟨hk2, hk, _⟩ := pb_spec hoq hi hp
    rcases List.mem_cons.1 hq with rfl | hq
    · have : oq = oj := Option.some.inj (hoq.symm.trans hj)
      subst this
      simp [comm, hk] at hc; omega
    · rw [← pc]; exact (chJ q hq oq hoq hk _ u w').2 (hr q hq hp oq hoq)
  by_cases hwi : Region.wanted oi (yielded ops a.tmps) = true
  case neg =>
    unfold SOpR at h; rw [if_neg hwi, wj] at h
    unfold SOpR
    by_cases hwj : Region.wanted oj (yielded ops a.tmps) = true
    · rw [if_pos hwj, ej] at h; rw [if_pos hwj]
      refine runS_mono (fun u w' ⟨hr, hK⟩ => ⟨reJ undef u w' hr, ?_⟩) h
      rw [wi, if_neg hwi, ← pc]; exact hK
    · rw [if_neg hwj] at h; rw [if_neg hwj, wi, if_neg hwi, ← pc]; exact h
  by_cases hwj : Region.wanted oj (yielded ops a.tmps) = true
  case neg =>
    unfold SOpR at h; rw [if_pos hwi] at h
    unfold SOpR; rw [if_neg hwj, wi, if_pos hwi, ei]
    refine runS_mono (fun v w' ⟨hr, hK⟩ => ⟨reI v undef w' hr, ?_⟩) h
    rw [wj, if_neg hwj, pc] at hK; exact hK
  by_cases ki : okind P oi.op = 0
  · unfold SOpR at h; rw [if_pos hwi, ki] at h
    obtain ⟨v, hv, hr0, hK⟩ := h
    rw [wj, if_pos hwj, ej] at hK
    unfold SOpR; rw [if_pos hwj]
    refine runS_mono (fun u w' ⟨hr, hK'⟩ => ⟨reJ v u w' hr, ?_⟩) hK
    rw [wi, if_pos hwi, ei, ki]
    refine ⟨v, hv, fun q hq hp oq hoq => ?_, by rw [← pc]; exact hK'⟩
    obtain ⟨hk2, _⟩ := pb_spec hoq hi hp; omega
  by_cases kj : okind P oj.op = 0
  · unfold SOpR at h; rw [if_pos hwi] at h
    obtain ⟨v0, w0, _, h0⟩ := runS_ex h
    rw [wj, if_pos hwj, ej, kj] at h0
    obtain ⟨u, hu, _⟩ := h0
    unfold SOpR; rw [if_pos hwj, kj]
    refine ⟨u, hu, fun q hq hp oq hoq => ?_, ?_⟩
    · obtain ⟨hk2, _⟩ := pb_spec hoq hj hp; omega
    rw [wi, if_pos hwi, ei]
    refine runS_mono (fun v w' ⟨hr, hK⟩ => ⟨reI v u w' hr, ?_⟩) h
    rw [wj, if_pos hwj, ej, kj] at hK
    obtain ⟨u', hu', _, hK⟩ := hK
    have : u' = u := by have := (hu' w').symm.trans (hu w'); simpa using this
    subst this
    rw [← pc]; exact hK
  have hk : okind P oi.op = 1 := by simpa [comm, ki, kj] using hc
  unfold SOpR at h; rw [if_pos hwi, hk] at h
  obtain ⟨v, hv, _, h⟩ := h
  rw [wj, if_pos hwj, ej] at h
  unfold SOpR; rw [if_pos hwj]
  by_cases kj1 : okind P oj.op = 1
  · rw [kj1] at h ⊢
    obtain ⟨u, hu, hr, hK⟩ := h
    refine ⟨u, hu, reJ v u w hr, ?_⟩
    rw [wi, if_pos hwi, ei, hk]
    refine ⟨v, hv, fun q hq hp oq hoq => ?_, by rw [← pc]; exact hK⟩
    obtain ⟨hk2, _⟩ := pb_spec hoq hi hp; omega
  · refine runS_mono (fun u w' ⟨hr, hK⟩ => ⟨reJ v u w' hr, ?_⟩) h
    rw [wi, if_pos hwi, ei, hk]
    have hp : pb P md ops i j = true := by unfold pb; simp only [hi, hj]; simp [hk, hnd]; omega
    have hch := hr i (List.mem_cons_self ..) hp oi hi
    have hwi' : Region.wanted oi (yielded ops ((a.put oi.dst v).put oj.dst u).tmps) = true := by rw [pc, wanted_put oi _ oi.dst v (hself hk), wi]; exact hwi
    obtain ⟨v', h4, h5⟩ := hch hwi'
    rw [pc, execOp_put oi hsi _ oi.dst v (hself hk), ei] at h4
    refine ⟨v', h4, fun q hq hp oq hoq => ?_, ?_⟩
    · obtain ⟨hk2, _⟩ := pb_spec hoq hi hp; omega
    · rw [pc] at hK
      cases hd : oi.dst with
      | none => rw [hd] at hK; exact hK
      | some d =>
        have e1 := h5 d hd
        have e2 : ((a.put oi.dst v).put oj.dst u).tmps.getD d undef = v := by
          rw [pc, hd]
          have hs2 : (a.put oj.dst u).tmps.size = n := by cases oj.dst <;> simp [Act.put, hsz]
          have hlt := hdi d hd
          generalize a.put oj.dst u = b at hs2
          simp [Act.put, hs2, hlt]
        rw [e2] at e1; subst e1
        rw [hd] at hK; exact hK

def SAny (P : Program) (md : Region.Mode) (ops : Array Oper) (Q : Act → World → Prop) : Nat → Array Bool → List Nat → Act → World → Prop
  | 0, listed, _, a, w => Region.ready md ops listed = [] ∧ Q a w
  | fuel + 1, listed, done, a, w =>
    (Region.ready md ops listed = [] → Q a w) ∧ ∀ i ∈ Region.ready md ops listed, ∀ o, ops[i]? = some o → SOpR P md ops done i o (SAny P md ops Q fuel (listed.setIfInBounds i true) (i :: done)) a w

theorem wpOp_of_SOp {i : Nat} {o : Oper} (ho : ops[i]? = some o) {a : Act} {w : World} {K K' : Act → World → Prop} {Q' : Exit → Act → World → Prop} (h : ∀ a w', K a w' → K' a w') (hh : SOp P ops o K a w) : wpOp P ops Q' i K' a w := by
  unfold wpOp
  simp only [ho]
  unfold SOp at hh
  split
  · rename_i hw
    rw [if_pos hw] at hh
    refine .inl ?_
    unfold Oper.wp
    unfold runS at hh
    split at hh
    · obtain ⟨v, hv, hK⟩ := hh; rw [hv w]; exact h _ _ hK
    · obtain ⟨v, hv, hK⟩ := hh; rw [hv]; exact h _ _ hK
    · generalize (execOp a.eval o).run P w = r at *
      cases r with
      | ok n w' =>
        cases n <;> simp only [Oper.upon] at hh ⊢
        case value v => exact h _ _ hh
        case skip => exact h _ _ hh
        case enter f args => exact hh.mono fun e w'' ⟨v, he, hv⟩ => by subst he; exact h _ _ hv
      | halt x w' => exact hh.elim
  · rename_i hw; rw [if_neg hw] at hh; exact h _ _ hh

theorem wpAny_of_SAny {Q : Act → World → Prop} {Q' : Exit → Act → World → Prop} (hQ : ∀ a w, Q a w → Q' .normal a w) : ∀ (fuel : Nat) (listed : Array Bool) (done : List Nat) (a : Act) (w : World),
    SAny P md ops Q fuel listed done a w → wpAny P md ops Q' fuel listed a w
  | 0, _, _, _, _, h => ⟨h.1, hQ _ _ h.2⟩
  | fuel + 1, _, _, _, _, h => ⟨fun h0 => hQ _ _ (h.1 h0), fun i hi => by
      obtain ⟨_, o, ho, _⟩ := mem_ready.1 hi
      exact wpOp_of_SOp ho (fun a' w' => wpAny_of_SAny hQ fuel _ _ a' w') (SOpR_SOp (h.2 i hi o ho))⟩

/-- What a Bool shows of a region, once. -/
structure CleanR (P : Program) (md : Region.Mode) (ops : Array Oper) (n : Nat) : Prop where
  sel : ∀ (j : Nat) (o : Oper) cs b, ops[j]? = some o → o.op ≠ .select cs b
  dst : ∀ (j : Nat) (o : Oper), ops[j]? = some o → ∀ d, o.dst = some d → d < n
  /-- whoever writes what a read looks at, or its slot, waits for it never: it comes ahead of it -/
  reads : ∀ (q : Nat) (oq : Oper), ops[q]? = some oq → okind P oq.op = 1 → ∀ (i : Nat) (oi : Oper), ops[i]? = some oi → (∀ d, oi.dst = some d → d ∉ oq.looksAt ops ∧ (i = q ∨ oq.dst ≠ some d)) ∨ (i ≠ q ∧ q ∈ deps md ops i)

theorem put_size {a : Act} {n : Nat} (h : a.tmps.size = n) (d : Option Tmp) (v : Value) : (a.put d v).tmps.size = n := by cases d <;> simp [Act.put, h]

theorem SOpR_done {d1 d2 : List Nat} (h : ∀ q ∈ d2, q ∈ d1) {i : Nat} {o : Oper} {K : Act → World → Prop} {a : Act} {w : World} (hh : SOpR P md ops d1 i o K a w) : SOpR P md ops d2 i o K a w := by
  unfold SOpR at *
  split
  · rename_i hw; rw [if_pos hw] at hh; exact runS_mono (fun v w' hk => ⟨fun q hq => hk.1 q (h q hq), hk.2⟩) hh
  · rename_i hw; rw [if_neg hw] at hh; exact hh

theorem SAny_done {Q : Act → World → Prop} : ∀ (fuel : Nat) (listed : Array Bool) (d1 d2 : List Nat) (a : Act) (w : World), (∀ q ∈ d2, q ∈ d1) → SAny P md ops Q fuel listed d1 a w → SAny P md ops Q fuel listed d2 a w
  | 0, _, _, _, _, _, _, h => h
  | fuel + 1, listed, d1, d2, a, w, hs, h => ⟨h.1, fun i hi o ho => SOpR_done hs (SOpR_mono (fun v w' h' => SAny_done fuel _ (i :: d1) (i :: d2) _ _ (fun q hq => by
      rcases List.mem_cons.1 hq with rfl | hq
      · exact List.mem_cons_self ..
      · exact List.mem_cons_of_mem _ (hs q hq)) h') (h.2 i hi o ho))⟩

/-- AN OPERATION THAT MAY COME UP NOW MAY BE TAKEN FIRST. -/
theorem SAny_first {n : Nat} (hcl : CleanR P md ops n) {Q : Act → World → Prop} {i : Nat} {oi : Oper} (hi : ops[i]? = some oi) :
    ∀ (fuel : Nat) (listed : Array Bool) (done : List Nat) (a : Act) (w : World), a.tmps.size = n → Closed md ops listed → (∀ q ∈ done, listed.getD q false = true) →
      (∀ j oj, ops[j]? = some oj → j ≠ i → listed.getD j true = false → j ∉ deps md ops i → oi.apart ops oj = true ∧ comm (okind P oi.op) (okind P oj.op) = true) →
      i ∈ Region.ready md ops listed → SOpR P md ops done i oi (SAny P md ops Q fuel (listed.setIfInBounds i true) (i :: done)) a w → SAny P md ops Q (fuel + 1) listed done a w := by
  have clean : ∀ (listed : Array Bool) (done : List Nat), Closed md ops listed → (∀ q ∈ done, listed.getD q false = true) → ∀ i oi, ops[i]? = some oi → listed.getD i true = false →
      ∀ q ∈ done, ∀ oq, ops[q]? = some oq → okind P oq.op = 1 → ∀ d, oi.dst = some d → d ∉ oq.looksAt ops ∧ oq.dst ≠ some d := by
    intro listed done hc hd i oi hi hun q hq oq hoq hk d hdi
    have hqi : i ≠ q := fun e => by subst e; have := hd _ hq; rw [unl hun] at this; cases this
    rcases hcl.reads q oq hoq hk i oi hi with h | ⟨_, h⟩
    · exact ⟨(h d hdi).1, (h d hdi).2.resolve_left hqi⟩
    · have := deps_unlisted hc (unl hun) h; rw [hd _ hq] at this; cases this
  intro fuel
  induction fuel with
  | zero =>
    intro listed done a w hsz hc hd _ hr H
    refine ⟨fun h => (by rw [h] at hr; cases hr), fun j hj oj hoj => ?_⟩
    by_cases hji : j = i
    · subst hji
      have : oj = oi := Option.some.inj (hoj.symm.trans hi)
      subst this; exact H
    · have := ready_mono hj hji
      obtain ⟨_, _, h0⟩ := SOp_ex (SOpR_SOp H)
      rw [h0.1] at this
      cases this
  | succ fuel ih =>
    intro listed done a w hsz hc hd hfree hr H
    refine ⟨fun h => (by rw [h] at hr; cases hr), fun j hj oj hoj => ?_⟩
    by_cases hji : j = i
    · subst hji
      have : oj = oi := Option.some.inj (hoj.symm.trans hi)
      subst this; exact H
    · obtain ⟨hjun, _⟩ := mem_ready.1 hj
      obtain ⟨hiun, _⟩ := mem_ready.1 hr
      have hnd : j ∉ deps md ops i := fun h => deps_not_ready hc (unl hiun) h hji hj
      obtain ⟨hap, hcm⟩ := hfree j oj hoj hji hjun hnd
      have hH : SOpR P md ops done i oi (SOpR P md ops (i :: done) j oj (SAny P md ops Q fuel ((listed.setIfInBounds i true).setIfInBounds j true) (j :: i :: done))) a w :=
        SOpR_mono (fun v w' h => h.2 j (ready_mono hj hji) oj hoj) H
      have hself : okind P oi.op = 1 → ∀ d, oi.dst = some d → d ∉ oi.looksAt ops := fun hk d hd' => by
        rcases hcl.reads i oi hi hk i oi hi with h | ⟨h, _⟩
        · exact (h d hd').1
        · exact absurd rfl h
      have hS := SOpR_swap hi hoj hap hcl.sel hcm hnd hself (hcl.dst i oi hi) hsz (clean listed done hc hd i oi hi hiun) (clean listed done hc hd j oj hoj hjun) hH
      have hfree' : ∀ k ok, ops[k]? = some ok → k ≠ i → (listed.setIfInBounds j true).getD k true = false → k ∉ deps md ops i →
          oi.apart ops ok = true ∧ comm (okind P oi.op) (okind P ok.op) = true := fun k ok hk hki hun hno => by
        refine hfree k ok hk hki ?_ hno
        by_cases hjk : j = k
        · subst hjk; exact hjun
        · rw [getD_set_ne true hjk] at hun; exact hun
      have hd' : ∀ q ∈ j :: done, (listed.setIfInBounds j true).getD q false = true := fun q hq => by
        rcases List.mem_cons.1 hq with rfl | hq
        · have hlt : q < listed.size := by rw [hc.size]; exact (Array.getElem?_eq_some_iff.1 hoj).1
          simp [hlt]
        · exact getD_set_true (hd q hq)
      refine SOpR_mono (fun u w' h => ?_) hS
      refine ih (listed.setIfInBounds j true) (j :: done) _ w' (put_size hsz _ _) (hc.set hj) hd' hfree' (ready_mono hr (Ne.symm hji)) ?_
      rw [Array.setIfInBounds_comm _ _ hji]
      refine SOpR_mono (fun v w'' h => ?_) h
      exact SAny_done fuel _ (j :: i :: done) (i :: j :: done) _ _ (fun q hq => by simp at hq ⊢; rcases hq with h | h | h <;> simp [h]) h

def SL (P : Program) (ops : Array Oper) (Q : Act → World → Prop) : List Nat → List Nat → Act → World → Prop
  | _, [] => Q
  | done, i :: r => fun a w => match ops[i]? with
    | none => False
    | some o => SOpR P .any ops done i o (SL P ops Q (i :: done) r) a w

def freeP (P : Program) (ops : Array Oper) (listed : Array Bool) (i : Nat) : Bool :=
  (List.range ops.size).all fun j => j == i || listed.getD j true || (deps .any ops i).contains j ||
    (match ops[i]?, ops[j]? with
     | some oi, some oj => oi.apart ops oj && comm (okind P oi.op) (okind P oj.op)
     | _, _ => false)

def lexP (P : Program) (ops : Array Oper) : List Nat → Array Bool → Bool
  | [], listed => (Region.ready .any ops listed).isEmpty
  | i :: r, listed => (Region.ready .any ops listed).contains i && freeP P ops listed i && lexP P ops r (listed.setIfInBounds i true)

def dstB (n : Nat) (ops : Array Oper) : Bool := ops.all fun o => match o.dst with | some d => Nat.blt d n | none => true

def readsB (P : Program) (ops : Array Oper) : Bool :=
  (List.range ops.size).all fun q => match ops[q]? with
    | some oq => !(okind P oq.op == 1) || (List.range ops.size).all fun i => match ops[i]? with
      | some oi => (match oi.dst with
        | some d => (!(oq.looksAt ops).contains d && (i == q || !(oq.dst == some d))) || (!(i == q) && (deps .any ops i).contains q)
        | none => true)
      | none => true
    | none => true

def regB (P : Program) (ops : Array Oper) (n : Nat) (perm : List Nat) : Bool :=
  Region.noSelect ops && dstB n ops && readsB P ops && perm.length == ops.size && lexP P ops perm (Array.replicate ops.size false)

theorem clean_of {n : Nat} (h1 : Region.noSelect ops = true) (h2 : dstB n ops = true) (h3 : readsB P ops = true) : CleanR P .any ops n where
  sel := Region.noSelect_spec h1
  dst := fun j o ho d hd => by
    have := Array.all_eq_true_iff_forall_mem.1 h2 o (Array.mem_of_getElem? ho)
    rw [hd] at this; simpa using this
  reads := fun q oq hq hk i oi hi => by
    have hql : q < ops.size := (Array.getElem?_eq_some_iff.1 hq).1
    have hil : i < ops.size := (Array.getElem?_eq_some_iff.1 hi).1
    have a1 := List.all_eq_true.1 h3 q (List.mem_range.2 hql)
    simp only [hq, hk, beq_self_eq_true, Bool.not_true, Bool.false_or] at a1
    have a2 := List.all_eq_true.1 a1 i (List.mem_range.2 hil)
    simp only [hi] at a2
    cases hd : oi.dst with
    | none => exact .inl fun d h => by cases h
    | some d =>
      simp only [hd, Bool.or_eq_true, Bool.and_eq_true, Bool.not_eq_true', beq_iff_eq, List.contains_iff_mem, beq_eq_false_iff_ne] at a2
      rcases a2 with ⟨h4, h5⟩ | ⟨h4, h5⟩
      · refine .inl fun d' hd' => ?_
        cases hd'
        refine ⟨fun hm => ?_, h5⟩
        have : (oq.looksAt ops).contains d = true := List.contains_iff_mem.2 hm
        rw [this] at h4; cases h4
      · exact .inr ⟨h4, h5⟩

theorem SAny_lex {n : Nat} (hcl : CleanR P .any ops n) {Q : Act → World → Prop} : ∀ (perm : List Nat) (listed : Array Bool) (done : List Nat) (a : Act) (w : World), a.tmps.size = n → Closed .any ops listed →
    (∀ q ∈ done, listed.getD q false = true) → lexP P ops perm listed = true → SL P ops Q done perm a w → SAny P .any ops Q perm.length listed done a w
  | [], _, _, _, _, _, _, _, hB, h => ⟨by simpa [lexP] using hB, h⟩
  | i :: r, listed, done, a, w, hsz, hc, hd, hB, h => by
    simp only [lexP, Bool.and_eq_true] at hB
    obtain ⟨⟨hr, hf⟩, hB'⟩ := hB
    have hr' : i ∈ Region.ready .any ops listed := by simpa using hr
    obtain ⟨_, oi, hoi, _⟩ := mem_ready.1 hr'
    simp only [SL, hoi] at h
    refine SAny_first hcl hoi r.length listed done a w hsz hc hd (fun j oj hj hji hun hnd => ?_) hr' ?_
    · have hlt : j < ops.size := (Array.getElem?_eq_some_iff.1 hj).1
      have h1 := List.all_eq_true.1 hf j (List.mem_range.2 hlt)
      have hb : (j == i) = false := by simpa using hji
      have hb2 : (deps .any ops i).contains j = false := by
        cases hx : (deps .any ops i).contains j with
        | false => rfl
        | true => exact absurd (List.contains_iff_mem.1 hx) hnd
      simp only [hb, hun, hb2, Bool.false_or, hoi, hj, Bool.and_eq_true] at h1
      exact h1
    · refine SOpR_mono (fun v w' h' => SAny_lex hcl r _ _ _ _ (put_size hsz _ _) (hc.set hr') (fun q hq => ?_) hB' h') h
      rcases List.mem_cons.1 hq with rfl | hq
      · have hlt : q < listed.size := by rw [hc.size]; exact (Array.getElem?_eq_some_iff.1 hoi).1
        simp [hlt]
      · exact getD_set_true (hd q hq)

/-- A region that draws its order. -/
theorem wp_region_text {n : Nat} (perm : List Nat) {id : Nat} {Q : Exit → Act → World → Prop} {a : Act} {w : World} (hm : P.follows .mixedOrders = true) (hB : regB P ops n perm = true) (hsz : a.tmps.size = n)
    (h : SL P ops (Q .normal) [] perm a { w with drawn := w.drawn + 1 }) : (Code.region id ops true).wp P Q a w := by
  simp only [regB, Bool.and_eq_true, beq_iff_eq] at hB
  obtain ⟨⟨⟨⟨h1, h2⟩, h3⟩, h4⟩, h5⟩ := hB
  refine wp_region_any hm (wpAny_of_SAny (Q := Q .normal) (fun _ _ h => h) _ _ [] _ _ ?_)
  rw [← h4] at h5 ⊢
  refine SAny_lex (clean_of h1 h2 h3) perm _ [] a _ hsz ⟨by simp [h4], fun j o ho hl => ?_⟩ (fun q hq => by cases hq) h5 h
  exfalso
  rcases Nat.lt_or_ge j perm.length with h' | h'
  · simp [h'] at hl
  · simp [Array.getElem?_eq_none (show (Array.replicate perm.length false).size ≤ j by simpa using h')] at hl

/-- The same without the checks: a region that does not. -/
def SN (P : Program) (ops : Array Oper) (Q : Act → World → Prop) : List Nat → Act → World → Prop
  | [] => Q
  | i :: r => fun a w => match ops[i]? with
    | none => False
    | some o => SOp P ops o (SN P ops Q r) a w

theorem wpOps_of_SN {Q : Exit → Act → World → Prop} : ∀ (l : List Nat) (a : Act) (w : World), SN P ops (Q .normal) l a w → wpOps P ops Q l a w
  | [], _, _, h => h
  | i :: r, a, w, h => by
    rw [wpOps_cons]
    simp only [SN] at h
    cases ho : ops[i]? with
    | none => rw [ho] at h; exact h.elim
    | some o =>
      rw [ho] at h
      exact wpOp_of_SOp ho (fun a' w' h' => wpOps_of_SN r a' w' h') h

theorem wp_region_plain {id : Nat} {Q : Exit → Act → World → Prop} {a : Act} {w : World} (h : SN P ops (Q .normal) (List.range ops.size) a w) : (Code.region id ops false).wp P Q a w :=
  wp_region (wpOps_of_SN _ a w h)

end
end Go.Proofs.Ytekilljcoplacaa.X
