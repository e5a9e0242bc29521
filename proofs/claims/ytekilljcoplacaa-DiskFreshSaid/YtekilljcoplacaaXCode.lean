/- Generic ground: a frame as a list of known slots, the judgements 'X' (code) and 'XL' (operations in the order of the text), and their rules. -/
import Derived.Test.YtekilljcoplacaaXRegion
namespace Go.Proofs.Ytekilljcoplacaa.X
set_option linter.unusedVariables false

abbrev Env := List (Nat × Value)

def get : Env → Nat → Option Value
  | [], _ => none
  | (k, v) :: r, t => cond (Nat.beq k t) (some v) (get r t)

def ev (e : Env) : Operand → Option Value
  | .tmp t => get e t
  | .const v => some v
  | .global g => some (.pointer (some ⟨g, 0, none⟩))
  | .func f => some (.func (.func f) #[] #[])

def putE (e : Env) : Option Tmp → Value → Env
  | some d, v => (d, v) :: e
  | none, _ => e

structure Agree (n : Nat) (e : Env) (a : Act) : Prop where
  defers : a.defers = []
  size : a.tmps.size = n
  get : ∀ t v, get e t = some v → a.tmps.getD t undef = v

/-- 'e'' knows no more than 'e'. -/
def Sub (e' e : Env) : Prop := ∀ t v, get e' t = some v → get e t = some v

theorem Sub.refl (e : Env) : Sub e e := fun _ _ h => h
theorem Sub.nil (e : Env) : Sub [] e := fun _ _ h => by cases h
theorem Sub.trans {a b c : Env} (h : Sub a b) (h' : Sub b c) : Sub a c := fun t v x => h' t v (h t v x)
theorem Sub.cons {e' e : Env} {k : Nat} {v : Value} (h : get e k = some v) (h' : Sub e' e) : Sub ((k, v) :: e') e := fun t u hu => by
  simp only [get] at hu
  by_cases hk : k = t
  · subst hk; simp at hu; subst hu; exact h
  · have : Nat.beq k t = false := by cases hb : Nat.beq k t with | false => rfl | true => exact absurd (Nat.eq_of_beq_eq_true hb) hk
    rw [this] at hu; exact h' t u hu

theorem Agree.sub {n : Nat} {e e' : Env} {a : Act} (h : Agree n e a) (hs : Sub e' e) : Agree n e' a := ⟨h.defers, h.size, fun t v hv => h.get t v (hs t v hv)⟩

theorem Agree.put {n : Nat} {e : Env} {a : Act} (h : Agree n e a) {d : Nat} (hd : d < n) (v : Value) : Agree n ((d, v) :: e) (a.put (some d) v) := by
  refine ⟨h.defers, by simp [Act.put, h.size], fun t u hu => ?_⟩
  simp only [X.get] at hu
  by_cases hk : d = t
  · subst hk; simp at hu; subst hu; simp [Act.put, h.size, hd]
  · have : Nat.beq d t = false := by cases hb : Nat.beq d t with | false => rfl | true => exact absurd (Nat.eq_of_beq_eq_true hb) hk
    rw [this] at hu
    have := h.get t u hu
    simp only [Act.put, Array.getD_eq_getD_getElem?, Array.getElem?_setIfInBounds_ne hk]
    simpa using this

theorem Agree.ev {n : Nat} {e : Env} {a : Act} (h : Agree n e a) {x : Operand} {v : Value} (hx : X.ev e x = some v) : a.eval x = v := by
  cases x with
  | tmp t => exact h.get t v hx
  | _ => simp [X.ev] at hx; simp [Act.eval, hx]

def dstOk (n : Nat) (o : Oper) : Bool := (match o.dst with | some d => Nat.blt d n | none => true) && (match o.op with | .select .. => false | _ => true)

theorem dstOk_sel {n : Nat} {o : Oper} (h : dstOk n o = true) : ∀ cs b, o.op ≠ .select cs b := by
  intro cs b he; unfold dstOk at h; rw [he] at h; simp at h

theorem Agree.putE {n : Nat} {e : Env} {a : Act} (h : Agree n e a) {o : Oper} (ho : dstOk n o = true) (v : Value) : Agree n (X.putE e o.dst v) (a.put o.dst v) := by
  unfold dstOk at ho
  cases hd : o.dst with
  | none => exact h
  | some d => rw [hd] at ho; simp only [Bool.and_eq_true] at ho; exact h.put (by simpa using ho.1) v

/-! ### Operations -/

/-- The operations 'l' (numbers) of a region, from the known slots 'e' on; 'dr': the region draws its order, 'done': what came up already. -/
def XL (P : Program) (n : Nat) (ops : Array Oper) (dr : Bool) (done l : List Nat) (K : Env → World → Prop) (e : Env) (w : World) : Prop :=
  ∀ a, Agree n e a → cond dr (SL P ops (fun a' w' => ∃ e', Agree n e' a' ∧ K e' w') done l a w) (SN P ops (fun a' w' => ∃ e', Agree n e' a' ∧ K e' w') l a w)

/-- The guard says yes. -/
def Gd (ops : Array Oper) (e : Env) : Option (Nat × Bool) → Prop
  | none => True
  | some (j, want) => ∃ d, (ops[j]?).bind (·.dst) = some d ∧ get e d = some (.bool want)

/-- What is to be read again behind operation 'i'. -/
def pend (P : Program) (ops : Array Oper) (dr : Bool) (done : List Nat) (i : Nat) : List Nat := cond dr (done.filter fun q => pb P .any ops q i) []

def ChkE (P : Program) (n : Nat) (ops : Array Oper) (q : Nat) (e : Env) (w : World) : Prop := ∀ o, ops[q]? = some o → ∀ a, Agree n e a → Chk P ops o a w

section
variable {P : Program} {n : Nat} {ops : Array Oper} {dr : Bool} {done r : List Nat} {K : Env → World → Prop} {e : Env} {w : World} {o : Oper}

theorem xl_nil (h : K e w) : XL P n ops dr done [] K e w := fun a ha => by cases dr <;> exact ⟨e, ha, h⟩

theorem SN_mono {Q Q' : Act → World → Prop} (h : ∀ a w, Q a w → Q' a w) : ∀ (l : List Nat) (a : Act) (w : World), SN P ops Q l a w → SN P ops Q' l a w
  | [], a, w, hh => h a w hh
  | i :: l, a, w, hh => by
    simp only [SN] at hh ⊢
    split
    · rename_i ho; rw [ho] at hh; exact hh
    · rename_i o ho; rw [ho] at hh; exact SOp_mono (fun v w' => SN_mono h l _ w') hh

theorem SL_mono {Q Q' : Act → World → Prop} (h : ∀ a w, Q a w → Q' a w) : ∀ (l done : List Nat) (a : Act) (w : World), SL P ops Q done l a w → SL P ops Q' done l a w
  | [], _, a, w, hh => h a w hh
  | i :: l, done, a, w, hh => by
    simp only [SL] at hh ⊢
    split
    · rename_i ho; rw [ho] at hh; exact hh
    · rename_i o ho; rw [ho] at hh; exact SOpR_mono (fun v w' => SL_mono h l _ _ w') hh

theorem xl_mono {K' : Env → World → Prop} (h : XL P n ops dr done r K e w) (hk : ∀ e w, K e w → K' e w) : XL P n ops dr done r K' e w := fun a ha => by
  have := h a ha
  cases dr
  · exact SN_mono (fun a' w' ⟨e', h1, h2⟩ => ⟨e', h1, hk _ _ h2⟩) _ _ _ this
  · exact SL_mono (fun a' w' ⟨e', h1, h2⟩ => ⟨e', h1, hk _ _ h2⟩) _ _ _ _ this

/-- What is known may be forgotten. -/
theorem xl_weaken {e' : Env} (hs : Sub e' e) (h : XL P n ops dr done r K e' w) : XL P n ops dr done r K e w := fun a ha => h a (ha.sub hs)

theorem yielded_of {a : Act} (ha : Agree n e a) {j d : Nat} (hj : (ops[j]?).bind (·.dst) = some d) {b : Bool} (hd : get e d = some (.bool b)) : yielded ops a.tmps j = some b := by
  have h1 := ha.get d _ hd
  unfold yielded
  rw [hj]
  have h2 : a.tmps[d]? = some (.bool b) := by
    cases h3 : a.tmps[d]? with
    | none => simp [Array.getD_eq_getD_getElem?, h3, undef] at h1
    | some v => simp [Array.getD_eq_getD_getElem?, h3] at h1; rw [h1]
  simp [h2]

theorem yielded_not {a : Act} (ha : Agree n e a) {j d : Nat} (hj : (ops[j]?).bind (·.dst) = some d) (hd : get e d = some undef) : yielded ops a.tmps j = none := by
  have h1 := ha.get d _ hd
  unfold yielded
  rw [hj]
  cases h3 : a.tmps[d]? with
  | none => simp [h3]
  | some v => simp [Array.getD_eq_getD_getElem?, h3] at h1; simp [h3, h1, undef]

theorem wanted_of {a : Act} (ha : Agree n e a) (hg : Gd ops e o.guard) : Region.wanted o (yielded ops a.tmps) = true := by
  unfold Region.wanted
  cases hgd : o.guard with
  | none => rfl
  | some jw =>
    obtain ⟨j, want⟩ := jw
    rw [hgd] at hg
    obtain ⟨d, h1, h2⟩ := hg
    simp [yielded_of ha h1 h2]

theorem pend_spec {i : Nat} (hp : pend P ops true done i = []) : ∀ q ∈ done, pb P .any ops q i = true → False := fun q hq hb => by
  have : q ∈ pend P ops true done i := List.mem_filter.2 ⟨hq, hb⟩
  rw [hp] at this; cases this

/-- THE GENERAL STEP. -/
theorem xl_step {i : Nat} (ho : ops[i]? = some o) (hd : dstOk n o = true) (hg : Gd ops e o.guard) {ρ : Operand → Value} (hρ : ∀ x ∈ o.op.operands, ev e x = some (ρ x))
    (h : runS P (execOp ρ o) (okind P o.op) w fun v w' => (∀ q ∈ pend P ops dr done i, ChkE P n ops q (putE e o.dst v) w') ∧ XL P n ops dr (i :: done) r K (putE e o.dst v) w') :
    XL P n ops dr done (i :: r) K e w := by
  intro a ha
  have he : execOp a.eval o = execOp ρ o := execOp_congr o (dstOk_sel hd) fun x hx => ha.ev (hρ x hx)
  cases dr
  · simp only [SN, ho, cond]
    unfold SOp
    rw [if_pos (wanted_of ha hg), he]
    exact runS_mono (fun v w' h' => h'.2 _ (ha.putE hd v)) h
  · simp only [SL, ho, cond]
    unfold SOpR
    rw [if_pos (wanted_of ha hg), he]
    refine runS_mono (fun v w' h' => ⟨fun q hq hb oq hoq => h'.1 q (List.mem_filter.2 ⟨hq, hb⟩) oq hoq _ (ha.putE hd v), h'.2 _ (ha.putE hd v)⟩) h

/-- .. of an operation that gives the same value in every world -/
theorem xl_pure {i : Nat} (ho : ops[i]? = some o) (hd : dstOk n o = true) (hg : Gd ops e o.guard) {ρ : Operand → Value} (hρ : ∀ x ∈ o.op.operands, ev e x = some (ρ x)) (hk : okind P o.op = 0) {v : Value}
    (hv : ∀ w', (execOp ρ o).run P w' = .ok (.value v) w') (h : XL P n ops dr (i :: done) r K (putE e o.dst v) w) : XL P n ops dr done (i :: r) K e w := by
  refine xl_step ho hd hg hρ ?_
  rw [hk]
  refine ⟨v, hv, fun q hq => ?_, h⟩
  cases dr
  · cases hq
  · obtain ⟨_, hb⟩ := List.mem_filter.1 hq
    unfold pb at hb
    rw [ho] at hb
    split at hb
    · rename_i oq oi h1 h2; cases h2; simp [hk] at hb
    · cases hb

/-- .. of one that reads -/
theorem xl_read {i : Nat} (ho : ops[i]? = some o) (hd : dstOk n o = true) (hg : Gd ops e o.guard) {ρ : Operand → Value} (hρ : ∀ x ∈ o.op.operands, ev e x = some (ρ x)) (hk : okind P o.op = 1) {v : Value}
    (hv : (execOp ρ o).run P w = .ok (.value v) w) (h : XL P n ops dr (i :: done) r K (putE e o.dst v) w) : XL P n ops dr done (i :: r) K e w := by
  refine xl_step ho hd hg hρ ?_
  rw [hk]
  refine ⟨v, hv, fun q hq => ?_, h⟩
  cases dr
  · cases hq
  · obtain ⟨_, hb⟩ := List.mem_filter.1 hq
    unfold pb at hb
    rw [ho] at hb
    split at hb
    · rename_i oq oi h1 h2; cases h2; simp [hk] at hb
    · cases hb

/-- .. of any other one -/
theorem xl_eff {i : Nat} (ho : ops[i]? = some o) (hd : dstOk n o = true) (hg : Gd ops e o.guard) {ρ : Operand → Value} (hρ : ∀ x ∈ o.op.operands, ev e x = some (ρ x)) (hk : okind P o.op = 2) {v : Value} {w' : World}
    (hv : (execOp ρ o).run P w = .ok (.value v) w') (hp : ∀ q ∈ pend P ops dr done i, ChkE P n ops q (putE e o.dst v) w') (h : XL P n ops dr (i :: done) r K (putE e o.dst v) w') : XL P n ops dr done (i :: r) K e w := by
  refine xl_step ho hd hg hρ ?_
  rw [hk]
  show match (execOp ρ o).run P w with | _ => _
  unfold runS
  rw [hv]
  exact ⟨hp, h⟩

theorem xl_effu {i : Nat} (ho : ops[i]? = some o) (hd : dstOk n o = true) (hg : Gd ops e o.guard) {ρ : Operand → Value} (hρ : ∀ x ∈ o.op.operands, ev e x = some (ρ x)) (hk : okind P o.op = 2) {w' : World}
    (hv : (execOp ρ o).run P w = .ok .skip w') (hp : ∀ q ∈ pend P ops dr done i, ChkE P n ops q (putE e o.dst undef) w') (h : XL P n ops dr (i :: done) r K (putE e o.dst undef) w') : XL P n ops dr done (i :: r) K e w := by
  refine xl_step ho hd hg hρ ?_
  rw [hk]
  unfold runS
  rw [hv]
  exact ⟨hp, h⟩

/-- .. of a call of a Go function -/
theorem xl_call {i : Nat} (ho : ops[i]? = some o) (hd : dstOk n o = true) (hg : Gd ops e o.guard) {ρ : Operand → Value} (hρ : ∀ x ∈ o.op.operands, ev e x = some (ρ x)) (hk : okind P o.op = 2) {f : FuncId} {args : Array Value}
    (hv : (execOp ρ o).run P w = .ok (.enter f args) w) {R : Value → World → Prop} (hc : Calls P f args w (Ret R))
    (h : ∀ v w', R v w' → (∀ q ∈ pend P ops dr done i, ChkE P n ops q (putE e o.dst v) w') ∧ XL P n ops dr (i :: done) r K (putE e o.dst v) w') : XL P n ops dr done (i :: r) K e w := by
  refine xl_step ho hd hg hρ ?_
  rw [hk]
  unfold runS
  rw [hv]
  exact hc.mono fun e w' ⟨v, he, hR⟩ => ⟨v, he, h v w' hR⟩

/-- An operation that is passed over: its guard says the other thing. -/
theorem xl_no {i j d : Nat} {want b : Bool} (ho : ops[i]? = some o) (hd : dstOk n o = true) (hg : o.guard = some (j, want)) (hj : (ops[j]?).bind (·.dst) = some d) (hv : get e d = some (.bool b)) (hb : b = !want)
    (h : XL P n ops dr (i :: done) r K (putE e o.dst undef) w) : XL P n ops dr done (i :: r) K e w := by
  intro a ha
  have hw : Region.wanted o (yielded ops a.tmps) = false := by simp [Region.wanted, hg, yielded_of ha hj hv, hb]
  cases dr
  · simp only [SN, ho, cond]
    unfold SOp; rw [if_neg (by simp [hw])]
    exact h _ (ha.putE hd undef)
  · simp only [SL, ho, cond]
    unfold SOpR; rw [if_neg (by simp [hw])]
    exact h _ (ha.putE hd undef)

/-- .. or was passed over itself. -/
theorem xl_none {i j d : Nat} {want : Bool} (ho : ops[i]? = some o) (hd : dstOk n o = true) (hg : o.guard = some (j, want)) (hj : (ops[j]?).bind (·.dst) = some d) (hv : get e d = some undef)
    (h : XL P n ops dr (i :: done) r K (putE e o.dst undef) w) : XL P n ops dr done (i :: r) K e w := by
  intro a ha
  have hw : Region.wanted o (yielded ops a.tmps) = false := by simp [Region.wanted, hg, yielded_not ha hj hv]
  cases dr
  · simp only [SN, ho, cond]
    unfold SOp; rw [if_neg (by simp [hw])]
    exact h _ (ha.putE hd undef)
  · simp only [SL, ho, cond]
    unfold SOpR; rw [if_neg (by simp [hw])]
    exact h _ (ha.putE hd undef)

/-- A truth value is looked at. -/
theorem xl_split {d : Nat} {p : Prop} [Decidable p] (hv : get e d = some (.bool (decide p))) (ht : p → XL P n ops dr done r K ((d, .bool true) :: e) w) (hf : ¬ p → XL P n ops dr done r K ((d, .bool false) :: e) w) :
    XL P n ops dr done r K e w := by
  by_cases hp : p
  · exact xl_weaken (Sub.cons (by rw [hv]; simp [hp]) (Sub.refl e)) (ht hp)
  · exact xl_weaken (Sub.cons (by rw [hv]; simp [hp]) (Sub.refl e)) (hf hp)

theorem xl_splitb {d : Nat} {b : Bool} (hv : get e d = some (.bool b)) (ht : b = true → XL P n ops dr done r K ((d, .bool true) :: e) w) (hf : b = false → XL P n ops dr done r K ((d, .bool false) :: e) w) :
    XL P n ops dr done r K e w := by
  cases b
  · exact xl_weaken (Sub.cons hv (Sub.refl e)) (hf rfl)
  · exact xl_weaken (Sub.cons hv (Sub.refl e)) (ht rfl)

end

/-! ### Code -/

abbrev Cont := Env → World → Prop

def extOf : List (Nat × Cont) → Nat → Option Cont
  | [], _ => none
  | (k, K) :: r, t => cond (Nat.beq k t) (some K) (extOf r t)

/-- What is asked at each way out: the plain one, the exits of the blocks around, a return. -/
def outAt (K : Cont) (E : List (Nat × Cont)) (F : Cont) (n : Nat) : Exit → Act → World → Prop
  | .normal, a, w => ∃ e, Agree n e a ∧ K e w
  | .ret, a, w => ∃ e, Agree n e a ∧ F e w
  | .exit id, a, w => ∃ K', extOf E id = some K' ∧ ∃ e, Agree n e a ∧ K' e w
  | _, _, _ => False

def X (P : Program) (n : Nat) (c : Code) (K : Cont) (E : List (Nat × Cont)) (F : Cont) (e : Env) (w : World) : Prop := ∀ a, Agree n e a → c.wp P (outAt K E F n) a w

section
variable {P : Program} {n : Nat} {c x y : Code} {K F : Cont} {E : List (Nat × Cont)} {e : Env} {w : World}

theorem x_weaken {e' : Env} (hs : Sub e' e) (h : X P n c K E F e' w) : X P n c K E F e w := fun a ha => h a (ha.sub hs)

theorem x_mono {K' F' : Cont} (h : X P n c K E F e w) (hn : ∀ e w, K e w → K' e w) (hr : ∀ e w, F e w → F' e w) : X P n c K' E F' e w := fun a ha =>
  wp_mono (h a ha) fun ex a w hq => by
    cases ex <;> simp only [outAt] at hq ⊢
    case normal => obtain ⟨e, h1, h2⟩ := hq; exact ⟨e, h1, hn _ _ h2⟩
    case ret => obtain ⟨e, h1, h2⟩ := hq; exact ⟨e, h1, hr _ _ h2⟩
    case exit id => exact hq

theorem x_skip (h : K e w) : X P n .skip K E F e w := fun a ha => wp_skip ⟨e, ha, h⟩
theorem x_label {l : Nat} (h : K e w) : X P n (.label l) K E F e w := fun a ha => wp_label ⟨e, ha, h⟩
theorem x_ret (h : F e w) : X P n .ret K E F e w := fun a ha => wp_ret ⟨e, ha, h⟩
theorem x_exit {id : Nat} {K' : Cont} (hk : extOf E id = some K') (h : K' e w) : X P n (.exit id) K E F e w := fun a ha => wp_exit ⟨K', hk, e, ha, h⟩

theorem x_seq (h : X P n x (X P n y K E F) E F e w) : X P n (.seq x y) K E F e w := fun a ha =>
  wp_seq (wp_mono (h a ha) fun ex a w hq => by
    cases ex <;> simp only [outAt] at hq <;> simp only [Exit.then]
    case normal => obtain ⟨e, h1, h2⟩ := hq; exact h2 a h1
    case ret => exact hq
    case exit id => exact hq)

/-- What comes behind is shown once, from what 'J' says. -/
theorem x_join (J : Cont) (h : X P n x (fun e w => ∃ e', Sub e' e ∧ J e' w) E F e w) (h' : ∀ e w, J e w → X P n y K E F e w) : X P n (.seq x y) K E F e w :=
  x_seq (x_mono h (fun _ _ ⟨_, hs, hj⟩ => x_weaken hs (h' _ _ hj)) (fun _ _ h => h))

theorem x_cond {cnd : Operand} {t : Bool} (hc : ev e cnd = some (.bool t)) (ht : t = true → X P n x K E F e w) (hf : t = false → X P n y K E F e w) : X P n (.cond cnd x y) K E F e w := fun a ha =>
  wp_cond_split (ha.ev hc) (fun h => ht h a ha) (fun h => hf h a ha)
theorem x_cond_true {cnd : Operand} (hc : ev e cnd = some (.bool true)) (ht : X P n x K E F e w) : X P n (.cond cnd x y) K E F e w := x_cond hc (fun _ => ht) (fun h => by cases h)
theorem x_cond_false {cnd : Operand} (hc : ev e cnd = some (.bool false)) (hf : X P n y K E F e w) : X P n (.cond cnd x y) K E F e w := x_cond hc (fun h => by cases h) (fun _ => hf)
/-- The test is a proposition that can be decided. -/
theorem x_if {cnd : Operand} {p : Prop} [Decidable p] (hc : ev e cnd = some (.bool (decide p))) (ht : p → X P n x K E F e w) (hf : ¬ p → X P n y K E F e w) : X P n (.cond cnd x y) K E F e w :=
  x_cond hc (fun h => ht (of_decide_eq_true h)) (fun h => hf (of_decide_eq_false h))

theorem x_block {id : Nat} (h : X P n x K ((id, K) :: E) F e w) : X P n (.block id x) K E F e w := fun a ha =>
  wp_block (wp_mono (h a ha) fun ex a w hq => by
    cases ex <;> simp only [outAt] at hq <;> simp only [Exit.inBlock]
    case normal => exact hq
    case ret => exact hq
    case exit id' =>
      obtain ⟨K', hk, e, h1, h2⟩ := hq
      simp only [extOf] at hk
      by_cases hid : id = id'
      · subst hid; simp at hk; subst hk; rw [if_pos rfl]; exact ⟨e, h1, h2⟩
      · have : Nat.beq id id' = false := by cases hb : Nat.beq id id' with | false => rfl | true => exact absurd (Nat.eq_of_beq_eq_true hb) hid
        rw [this] at hk
        rw [if_neg (fun h => hid h.symm)]
        exact ⟨K', hk, e, h1, h2⟩)

theorem wp_loop_m {a : Act} {Q : Exit → Act → World → Prop} (I : Nat → Act → World → Prop) {m : Nat} (h₀ : I m a w)
    (round : ∀ m a w, I m a w → c.wp P (Exit.then (fun a' w' => ∃ m', m' < m ∧ I m' a' w') Q) a w) : (Code.loop c).wp P Q a w := by
  intro b k cs
  have key : ∀ m a w, I m a w →
      ∃ e a' w', Q e a' w' ∧ Arrives P (lone (b.at a (.code c :: .inLoop c :: k)) cs w) b k cs e a' w' := by
    intro m
    induction m using Nat.strongRecOn with
    | _ m ih =>
      intro a w hI
      obtain ⟨e, a₁, w₁, hq, harr⟩ := round m a w hI b (.inLoop c :: k) cs
      cases e with
      | normal =>
        obtain ⟨m', hlt, hI₁⟩ := hq
        obtain ⟨e₂, a₂, w₂, hq₂, harr₂⟩ := ih m' hlt a₁ w₁ hI₁
        exact ⟨e₂, a₂, w₂, hq₂, .of_steps (Steps.trans harr (.one step_inLoop)) harr₂⟩
      | exit id => exact ⟨_, a₁, w₁, hq, .pass (x := .inLoop c) rfl (fun _ _ => .inl (by simp)) harr⟩
      | goto l => exact ⟨_, a₁, w₁, hq, .pass (x := .inLoop c) rfl (fun _ _ => .inl (by simp)) harr⟩
      | ret => exact ⟨_, a₁, w₁, hq, .pass (x := .inLoop c) rfl (fun _ _ => .inl (by simp)) harr⟩
      | panic ch => exact ⟨_, a₁, w₁, hq, .pass (x := .inLoop c) rfl (fun _ _ => .inl (by simp)) harr⟩
      | outgrown => exact ⟨_, a₁, w₁, hq, .pass (x := .inLoop c) rfl (fun _ _ => .inl (by simp)) harr⟩
  obtain ⟨e, a', w', hq, harr⟩ := key m a w h₀
  exact ⟨e, a', w', hq, .of_steps (.one step_loop) harr⟩

/-- A LOOP: 'I m': what holds at a round's head, at most m rounds ahead of the end. -/
theorem x_loop (I : Nat → Cont) {m : Nat} {e₀ : Env} (hs : Sub e₀ e) (h₀ : I m e₀ w)
    (round : ∀ m e w, I m e w → X P n c (fun e' w' => ∃ m', m' < m ∧ ∃ e₁, Sub e₁ e' ∧ I m' e₁ w') E F e w) : X P n (.loop c) K E F e w := fun a ha =>
  wp_loop_m (fun m a w => ∃ e, Agree n e a ∧ I m e w) (m := m) ⟨e₀, ha.sub hs, h₀⟩ fun m a w ⟨e, ha, hI⟩ =>
    wp_mono (round m e w hI a ha) fun ex a w hq => by
      cases ex <;> simp only [outAt] at hq <;> simp only [Exit.then]
      case normal => obtain ⟨e', h1, m', hm, e₁, hs, hI⟩ := hq; exact ⟨m', hm, e₁, h1.sub hs, hI⟩
      case ret => exact hq
      case exit id => exact hq

theorem x_region {id : Nat} {ops : Array Oper} {l : List Nat} (hl : List.range ops.size = l) (h : XL P n ops false [] l K e w) : X P n (.region id ops false) K E F e w := fun a ha =>
  wp_region_plain (by rw [hl]; exact h a ha)

theorem x_draw {id : Nat} {ops : Array Oper} (perm : List Nat) (hm : P.follows .mixedOrders = true) (hB : regB P ops n perm = true) (h : XL P n ops true [] perm K e { w with drawn := w.drawn + 1 }) :
    X P n (.region id ops true) K E F e w := fun a ha => wp_region_text perm hm hB ha.size (h a ha)

end

/-! ### A function -/

/-- What 'results' gives at the end. -/
def bodyEnd (P : Program) (n : Nat) (fn : Func) (R : Value → World → Prop) : Cont := fun e w =>
  ∃ v, (∀ a, Agree n e a → (results fn a.tmps).run P w = .ok v w) ∧ R v w

def argEnv : Nat → List Value → Env
  | _, [] => []
  | k, v :: r => (k, v) :: argEnv (k + 1) r

theorem get_argEnv : ∀ (l : List Value) (k t : Nat) (v : Value), get (argEnv k l) t = some v → k ≤ t ∧ l[t - k]? = some v
  | [], _, _, _, h => by cases h
  | u :: l, k, t, v, h => by
    simp only [argEnv, get] at h
    by_cases hk : k = t
    · subst hk; simp at h; subst h; simp
    · have : Nat.beq k t = false := by cases hb : Nat.beq k t with | false => rfl | true => exact absurd (Nat.eq_of_beq_eq_true hb) hk
      rw [this] at h
      obtain ⟨h1, h2⟩ := get_argEnv l (k + 1) t v h
      refine ⟨by omega, ?_⟩
      rw [show t - k = (t - (k + 1)) + 1 by omega]
      simpa using h2

theorem calls_of_x {P : Program} {f : FuncId} {fn : Func} {c : Code} {args : List Value} {w : World} {R : Value → World → Prop} {n : Nat}
    (hf : P.funcs[f]? = some fn) (hb : fn.body = some c) (hn : fn.ntmps = n) (hle : Nat.ble args.length n = true)
    (h : X P n c (bodyEnd P n fn R) [] (bodyEnd P n fn R) (argEnv 0 args) w) : Calls P f args.toArray w (Ret R) := by
  refine calls_of_wp hf hb ?_
  have hle' : args.length ≤ n := by simpa using hle
  refine wp_mono (h _ ⟨rfl, by simp [hn]; omega, fun t v hv => ?_⟩) fun ex a w hq => ?_
  · obtain ⟨_, h2⟩ := get_argEnv args 0 t v hv
    have hlt : t < args.length := by
      rcases Nat.lt_or_ge t args.length with h' | h'
      · exact h'
      · simp [List.getElem?_eq_none h'] at h2
    simp only [Array.getD_eq_getD_getElem?]
    rw [Array.getElem?_append_left (by simpa using hlt)]
    simp at h2 ⊢
    simp [h2]
  · cases ex <;> simp only [outAt, extOf, bodyEnd] at hq <;> simp only [bodyPost]
    case normal => obtain ⟨e, ha, v, h1, h2⟩ := hq; exact ⟨ha.defers, v, h1 a ha, v, rfl, h2⟩
    case ret => obtain ⟨e, ha, v, h1, h2⟩ := hq; exact ⟨ha.defers, v, h1 a ha, v, rfl, h2⟩
    case exit => obtain ⟨K, hk, _⟩ := hq; cases hk

theorem end0 {P : Program} {n : Nat} {fn : Func} {R : Value → World → Prop} {e : Env} {w : World} (hr : fn.results = #[]) (h : R (.tuple #[]) w) : bodyEnd P n fn R e w :=
  ⟨_, fun a _ => by simp [results, hr], h⟩
theorem end1 {P : Program} {n : Nat} {fn : Func} {R : Value → World → Prop} {e : Env} {w : World} {t : Nat} {v : Value} (hr : fn.results = #[.tmp t]) (hv : get e t = some v) (h : R v w) : bodyEnd P n fn R e w :=
  ⟨_, fun a ha => by have := ha.get t v hv; simp [results, hr]; simpa using this, h⟩
theorem end2 {P : Program} {n : Nat} {fn : Func} {R : Value → World → Prop} {e : Env} {w : World} {t u : Nat} {v v' : Value} (hr : fn.results = #[.tmp t, .tmp u]) (hv : get e t = some v) (hv' : get e u = some v')
    (h : R (.tuple #[v, v']) w) : bodyEnd P n fn R e w :=
  ⟨_, fun a ha => by have h1 := ha.get t v hv; have h2 := ha.get u v' hv'; simp only [Array.getD_eq_getD_getElem?] at h1 h2; simp [results, hr, h1, h2], h⟩
theorem end3 {P : Program} {n : Nat} {fn : Func} {R : Value → World → Prop} {e : Env} {w : World} {t u s : Nat} {v v' v'' : Value} (hr : fn.results = #[.tmp t, .tmp u, .tmp s]) (hv : get e t = some v) (hv' : get e u = some v') (hv'' : get e s = some v'')
    (h : R (.tuple #[v, v', v'']) w) : bodyEnd P n fn R e w :=
  ⟨_, fun a ha => by have h1 := ha.get t v hv; have h2 := ha.get u v' hv'; have h3 := ha.get s v'' hv''; simp only [Array.getD_eq_getD_getElem?] at h1 h2 h3; simp [results, hr, h1, h2, h3], h⟩

end Go.Proofs.Ytekilljcoplacaa.X
